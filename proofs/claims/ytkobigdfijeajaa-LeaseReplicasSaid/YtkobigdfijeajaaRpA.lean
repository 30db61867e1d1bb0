/- A replica: entries, messages and the replica in memory; encode, others, spread, answer. -/
import Derived.Test.YtkobigdfijeajaaLeL
import Derived.Test.YtkobigdfijeajaaMpI
set_option linter.unusedVariables false
set_option linter.unusedSimpArgs false
namespace Go.SL
theorem St.oldH {F : List Nat} {w0 w : World} {L : Hp} (hs : St F w0 w L) {LR : Hp} (h : ∀ q ∈ LR, w0.heap[q.1]? = some q.2) (hd : ∀ q ∈ LR, q.1 ∉ F) : ∀ q ∈ LR, w.heap[q.1]? = some q.2 := fun q hq => by
  rw [hs.old (Array.getElem?_eq_some_iff.1 (h q hq)).1 (hd q hq)]; exact h q hq
theorem cell_blk {w : World} {b i : Nat} {e : TypeId} {fz : Nat × Nat} {cs : List Value} {v : Value} (h : w.heap[b]? = some (.cells cs.toArray e fz)) (hi : cs[i]? = some v) : w.cell? ⟨b, i, none⟩ = some v := by
  rw [cell_of_row w b i cs.toArray e fz h]; simpa using hi
end Go.SL
namespace Go.Proofs.Ytkobigdfijeajaa
open Go.SL
/-- an entry; as it lies in memory -/
structure En where
  g : Bool
  x : Lz
  bs : List Int
structure Em where
  e : En
  v : Value
def En.ok (e : En) : Prop := validP e.g e.x e.bs.length ∧ ∀ b ∈ e.bs, isB b
def Em.cells (m : Em) : List Value := [.bool m.e.g, .string m.e.x.rule, .int .i64 m.e.x.holder, .int .i64 m.e.x.token, .int .i64 m.e.x.til, m.v]
theorem Em.cells_length (m : Em) : m.cells.length = 6 := rfl
def emcells (ms : List Em) : List Value := ms.flatMap Em.cells
theorem emcells_length (ms : List Em) : (emcells ms).length = ms.length * 6 := flat_length Em.cells_length ms
theorem emcells_append (a b : List Em) : emcells (a ++ b) = emcells a ++ emcells b := by simp [emcells]
def ens (ms : List Em) : List En := ms.map (·.e)
theorem ens_length (ms : List Em) : (ens ms).length = ms.length := by simp [ens]
theorem ens_append (a b : List Em) : ens (a ++ b) = ens a ++ ens b := by simp [ens]
def EmsIn (ms : List Em) (L : Hp) : Prop := ∀ m ∈ ms, RdS m.v m.e.bs.length (u8s m.e.bs) L
theorem RdS.mono' {v : Value} {n : Nat} {cs : List Value} {L L' : Hp} (h : RdS v n cs L) (hs : ∀ p ∈ L, p ∈ L') : RdS v n cs L' :=
  ⟨fun w hw => h.sl w fun p hp => hw p (hs p hp), fun a m c he hne => by obtain ⟨o, ho⟩ := mem_ids.1 (h.inL a m c he hne); exact mem_ids.2 ⟨o, hs _ ho⟩⟩
theorem EmsIn.mono {ms : List Em} {L L' : Hp} (h : EmsIn ms L) (hs : ∀ p ∈ L, p ∈ L') : EmsIn ms L' := fun m hm => RdS.mono' (h m hm) hs
theorem EmsIn.one {ms : List Em} {L : Hp} (h : EmsIn ms L) (w : World) (hw : ∀ p ∈ L, w.heap[p.1]? = some p.2) : ∀ c ∈ emcells ms, c.oneCell' = true := by
  intro c hc
  obtain ⟨m, hm, hx⟩ := List.mem_flatMap.1 hc
  obtain ⟨tl, tc, ta, hv, _⟩ := (h m hm).form w hw
  simp only [Em.cells, List.mem_cons, List.not_mem_nil, or_false] at hx
  rcases hx with rfl | rfl | rfl | rfl | rfl | rfl <;> first | rfl | (rw [hv]; rfl)
/-- element i of a slice of entries -/
theorem em_at {w : World} {a : Option Addr} {n m c i : Nat} {es : List Em} {x : Em} (h : Sl w (.slice a n c) m (emcells es)) (hx : es[i]? = some x) : ∃ b o, a = some ⟨b, o, none⟩ ∧ b < w.heap.size ∧ ∀ j u, j < 6 → x.cells[j]? = some u → w.cell? ⟨b, o + ((i : Nat) : Int).toNat * 6 + j, none⟩ = some u := by
  have hlt : i < es.length := (List.getElem?_eq_some_iff.1 hx).1
  obtain ⟨b, o, h1, h2, h3⟩ := Sl_all h (by intro h0; have := emcells_length es; rw [h0] at this; simp at this; omega)
  refine ⟨b, o, h1, h2, fun j u hj hu => ?_⟩
  have := h3 (i * 6 + j) u (by rw [emcells, flat_at Em.cells_length hj hx]; exact hu)
  rw [Int.toNat_natCast, Nat.add_assoc]; exact this
/-- a message's content -/
structure Mg where
  kind : Nat
  term : Nat
  lterm : Nat
  n : Nat
  ents : Nat
  log : List En
def Mg.ok (m : Mg) : Prop := m.kind < 4 ∧ m.term ≤ 1073741824 ∧ m.lterm ≤ 1073741824 ∧ m.n ≤ m.log.length ∧ m.ents ≤ 1000 ∧ m.log.length ≤ 1000 ∧ ∀ e ∈ m.log, e.ok
def entB (e : En) : List Int := entV e.g e.x e.bs
def logB (l : List En) : List Int := l.flatMap fun e => uvar (entB e).length ++ entB e
def mesB (m : Mg) : List Int := uvar (zz (m.kind : Int)) ++ uvar (zz (m.term : Int)) ++ uvar (zz (m.lterm : Int)) ++ uvar (zz (m.n : Int)) ++ uvar (zz (m.ents : Int)) ++ uvar (zz (m.log.length : Int)) ++ logB m.log
def mesCells (m : Mg) (frm : Int) (v : Value) : List Value := [.int .i64 (m.kind : Int), .int .i64 frm, .int .i64 (m.term : Int), .int .i64 (m.lterm : Int), .int .i64 (m.n : Int), .int .i64 (m.ents : Int), v]
theorem entB_len {e : En} (h : e.ok) : (entB e).length ≤ 65636 := entV_len h.1
theorem entB_isB {e : En} (h : e.ok) : ∀ b ∈ entB e, isB b := entV_isB h.2
theorem logB_len : ∀ {l : List En}, (∀ e ∈ l, e.ok) → (logB l).length ≤ l.length * 65646
  | [], _ => by simp [logB]
  | e :: r, h => by
    have h1 := entB_len (h e List.mem_cons_self)
    have h2 := uvar_len10 (n := (entB e).length) (by omega)
    have h3 := logB_len (l := r) fun x hx => h x (List.mem_cons_of_mem _ hx)
    simp only [logB, List.flatMap_cons, List.length_append, List.length_cons] at h3 ⊢
    rw [Nat.add_mul]; omega
theorem logB_isB {l : List En} (h : ∀ e ∈ l, e.ok) : ∀ b ∈ logB l, isB b := by
  intro b hb
  obtain ⟨e, he, hx⟩ := List.mem_flatMap.1 hb
  rcases List.mem_append.1 hx with hx | hx
  · exact uvar_isB _ b hx
  · exact entB_isB (h e he) b hx
theorem logB_take {l : List En} {i : Nat} {e : En} (h : l[i]? = some e) : logB (l.take (i + 1)) = logB (l.take i) ++ (uvar (entB e).length ++ entB e) := by
  rw [List.take_add_one, h]; simp [logB]
theorem mesB_isB {m : Mg} (h : m.ok) : ∀ b ∈ mesB m, isB b := by
  intro b hb
  obtain ⟨_, _, _, _, _, _, h⟩ := h
  simp only [mesB, List.mem_append] at hb
  rcases hb with (((((hb | hb) | hb) | hb) | hb) | hb) | hb
  · exact uvar_isB _ b hb
  · exact uvar_isB _ b hb
  · exact uvar_isB _ b hb
  · exact uvar_isB _ b hb
  · exact uvar_isB _ b hb
  · exact uvar_isB _ b hb
  · exact logB_isB h b hb
theorem mesB_len {m : Mg} (h : m.ok) : (mesB m).length ≤ 100000000 := by
  obtain ⟨h1, h2, h3, h4, h5, h6, h7⟩ := h
  have e1 := uvar_len10 (n := zz (m.kind : Int)) (zz_lt (by omega)); have e2 := uvar_len10 (n := zz (m.term : Int)) (zz_lt (by omega))
  have e3 := uvar_len10 (n := zz (m.lterm : Int)) (zz_lt (by omega)); have e4 := uvar_len10 (n := zz (m.n : Int)) (zz_lt (by omega))
  have e5 := uvar_len10 (n := zz (m.ents : Int)) (zz_lt (by omega)); have e6 := uvar_len10 (n := zz (m.log.length : Int)) (zz_lt (by omega))
  have e7 := logB_len h7
  have : m.log.length * 65646 ≤ 1000 * 65646 := Nat.mul_le_mul_right _ h6
  simp only [mesB, List.length_append]; omega
structure MeS where
  i : Nat
  L : Hp
set_option maxHeartbeats 2000000 in
theorem mEncode_ok (m : Mg) (frm : Int) (v : Value) (es : List Em) (LR : Hp) (w0 : World) (hv : Sl w0 v es.length (emcells es)) (hin : EmsIn es LR) (hR : ∀ q ∈ LR, w0.heap[q.1]? = some q.2) (hl : ens es = m.log) (hm : m.ok) :
    Ret Try.prog 64 [.agg (mesCells m frm v).toArray].toArray w0 fun r w' => ∃ Lr, OwnS 5 1 r (mesB m).length (u8s (mesB m)) Lr ∧ St [] w0 w' Lr := by
  obtain ⟨a, c, rfl, hac⟩ := hv.len_le
  have hlb := mesB_len hm
  have hm0 := hm
  obtain ⟨h1, h2, h3, h4, h5, h6, h7⟩ := hm
  have hel : es.length = m.log.length := by rw [← hl, ens_length]
  have e1 := uvar_len10 (n := zz (m.kind : Int)) (zz_lt (by omega)); have e2 := uvar_len10 (n := zz (m.term : Int)) (zz_lt (by omega))
  have e3 := uvar_len10 (n := zz (m.lterm : Int)) (zz_lt (by omega)); have e4 := uvar_len10 (n := zz (m.n : Int)) (zz_lt (by omega))
  have e5 := uvar_len10 (n := zz (m.ents : Int)) (zz_lt (by omega)); have e6 := uvar_len10 (n := zz (m.log.length : Int)) (zz_lt (by omega))
  refine Ret_start fun w hs => ?_
  refine Ret_of Try.func64 rfl Try.ntmps64 rfl ?_
  refine W_seq ?_
  refine W_region ?_
  first | refine s_box rfl rfl hs ?_
  clear hs; intro b1 w hs
  refine s_assign rfl rfl ?_
  refine WL_nil ?_
  refine n_then ?_
  refine W_seq ?_
  refine W_region ?_
  refine s_alloc rfl AL136 hs ?_; clear hs; intro b3 w hs
  refine WL_nil ?_
  refine n_then ?_
  refine W_seq ?_
  refine W_region ?_
  replace hs : St [] w0 w ([(b1, Blk 94 (mesCells m frm (.slice a es.length c)))] ++ ([_] ++ [])) := hs.swap (A := [_]) (B := [_])
  refine s_fieldAddr rfl rfl (FA94_0 _ _) ?_
  first
    | refine s_load Try.isAgg3 rfl rfl (hs.cell (k := 0) rfl rfl) ?_
  refine s_callL (M := [_]) (L1 := [_]) (X := []) Try.call79 rfl rfl hs (fun h => wInt_ok b3 [] (m.kind : Int) _ w (wr_new b3) h (by unfold isI64; omega) (by simp)) ?_
  clear hs; rintro u w LW ⟨hW, rfl⟩ - hs
  simp only [List.nil_append] at hW
  refine WL_nil ?_
  refine n_then ?_
  refine W_seq ?_
  refine W_region ?_
  refine s_fieldAddr rfl rfl (FA94_2 _ _) ?_
  first
    | refine s_load Try.isAgg3 rfl rfl (hs.cell (k := 0) rfl rfl) ?_
  refine s_callL (M := [_]) (L1 := LW) (X := []) Try.call79 rfl rfl hs (fun h => wInt_ok b3 _ (m.term : Int) _ w hW h (by unfold isI64; omega) (by omega)) ?_
  clear hs hW; rintro u w LW ⟨hW, rfl⟩ - hs
  refine WL_nil ?_
  refine n_then ?_
  refine W_seq ?_
  refine W_region ?_
  refine s_fieldAddr rfl rfl (FA94_3 _ _) ?_
  first
    | refine s_load Try.isAgg3 rfl rfl (hs.cell (k := 0) rfl rfl) ?_
  refine s_callL (M := [_]) (L1 := LW) (X := []) Try.call79 rfl rfl hs (fun h => wInt_ok b3 _ (m.lterm : Int) _ w hW h (by unfold isI64; omega) (by simp only [List.length_append]; omega)) ?_
  clear hs hW; rintro u w LW ⟨hW, rfl⟩ - hs
  refine WL_nil ?_
  refine n_then ?_
  refine W_seq ?_
  refine W_region ?_
  refine s_fieldAddr rfl rfl (FA94_4 _ _) ?_
  first
    | refine s_load Try.isAgg3 rfl rfl (hs.cell (k := 0) rfl rfl) ?_
  refine s_callL (M := [_]) (L1 := LW) (X := []) Try.call79 rfl rfl hs (fun h => wInt_ok b3 _ (m.n : Int) _ w hW h (by unfold isI64; omega) (by simp only [List.length_append]; omega)) ?_
  clear hs hW; rintro u w LW ⟨hW, rfl⟩ - hs
  refine WL_nil ?_
  refine n_then ?_
  refine W_seq ?_
  refine W_region ?_
  refine s_fieldAddr rfl rfl (FA94_5 _ _) ?_
  first
    | refine s_load Try.isAgg3 rfl rfl (hs.cell (k := 0) rfl rfl) ?_
  refine s_callL (M := [_]) (L1 := LW) (X := []) Try.call79 rfl rfl hs (fun h => wInt_ok b3 _ (m.ents : Int) _ w hW h (by unfold isI64; omega) (by simp only [List.length_append]; omega)) ?_
  clear hs hW; rintro u w LW ⟨hW, rfl⟩ - hs
  refine WL_nil ?_
  refine n_then ?_
  refine W_seq ?_
  refine W_region ?_
  refine s_fieldAddr rfl rfl (FA94_6 _ _) ?_
  first
    | refine s_load Try.isAgg43 rfl rfl (hs.cell (k := 0) rfl rfl) ?_
  refine s_len rfl rfl (LN43 _ _ _ _) ?_
  rw [show ((es.length : Nat) : Int) = (m.log.length : Int) from by rw [hel]]
  refine s_callL (M := [_]) (L1 := LW) (X := []) Try.call79 rfl rfl hs (fun h => wInt_ok b3 _ (m.log.length : Int) _ w hW h (by unfold isI64; omega) (by simp only [List.length_append]; omega)) ?_
  clear hs hW; rintro u w LW ⟨hW, rfl⟩ - hs
  obtain ⟨H, hH⟩ : ∃ H, H = uvar (zz (m.kind : Int)) ++ uvar (zz (m.term : Int)) ++ uvar (zz (m.lterm : Int)) ++ uvar (zz (m.n : Int)) ++ uvar (zz (m.ents : Int)) ++ uvar (zz (m.log.length : Int)) := ⟨_, rfl⟩
  have hHl : H.length ≤ 60 := by rw [hH]; simp only [List.length_append]; omega
  have hmes : mesB m = H ++ logB m.log := by rw [hH]; rfl
  rw [← hH] at hW
  refine WL_nil ?_
  refine n_then ?_
  refine W_seq ?_
  refine W_seq ?_
  refine W_region ?_
  refine s_fieldAddr rfl rfl (FA94_6 _ _) ?_
  first
    | refine s_load Try.isAgg43 rfl rfl (hs.cell (k := 0) rfl rfl) ?_
  refine s_len rfl rfl (LN43 _ _ _ _) ?_
  refine s_move rfl rfl ?_
  refine WL_nil ?_
  refine n_then ?_
  refine W_block ?_
  refine W_loop (σ := MeS) (fun s => [(1, .pointer (some ⟨b1, 0, none⟩)), (3, .pointer (some ⟨b3, 0, none⟩)), (28, .slice a es.length c), (29, .int .i64 (es.length : Int)), (30, .int .i64 (s.i : Int))])
    (fun s w => St [] w0 w ([(b1, Blk 94 (mesCells m frm (.slice a es.length c)))] ++ (s.L ++ [])) ∧ WrAt b3 (H ++ logB (m.log.take s.i)) s.L ∧ s.i ≤ es.length) (fun s => es.length - s.i) ⟨0, LW⟩ ⟨rfl, rfl, rfl, rfl, rfl, trivial⟩ ⟨hs, by simpa [logB] using hW, Nat.zero_le _⟩ ?_
  clear hs hW
  rintro ⟨i, LW⟩ w ⟨hs, hW, hi⟩
  simp only at hs hW hi ⊢
  refine W_seq ?_
  refine W_region ?_
  refine s_lss rfl rfl rfl ?_
  refine WL_nil ?_
  refine n_then ?_
  refine W_seq ?_
  refine W_cond rfl (fun hc31 => ?_) (fun hc31 => ?_)
  · skip
    simp only [decide_eq_true_eq, decide_eq_false_iff_not] at hc31
    have hil : i < es.length := by omega
    have hxi : es[i]? = some es[i] := List.getElem?_eq_getElem hil
    have hmem : es[i] ∈ es := List.getElem_mem hil
    obtain ⟨b, o, hA, hB, hcc⟩ := em_at hv hxi
    generalize es[i] = x at hxi hmem hcc
    obtain ⟨xe, xv⟩ := x
    obtain ⟨tl, tc, ta, rfl, -⟩ := (hin _ hmem).form w0 hR
    have hli : m.log[i]? = some xe := by rw [← hl, ens, List.getElem?_map, hxi]; rfl
    have hxo : xe.ok := h7 _ (List.mem_of_getElem? hli)
    have hxv := hin _ hmem
    simp only at hxv
    have hll := logB_len (l := m.log.take i) fun e he => h7 e (List.mem_of_mem_take he)
    have hll2 : (m.log.take i).length * 65646 ≤ 1000 * 65646 := Nat.mul_le_mul_right _ (by rw [List.length_take]; omega)
    have htk := logB_take hli
    have hxl := entB_len hxo
    refine W_skip ?_
    refine n_then ?_
    refine W_seq ?_
    refine W_block ?_
    refine W_seq ?_
    refine W_region ?_
    (refine s_indexAddrP El43 rfl rfl rfl hA ?hx ?_; case hx => (constructor <;> omega))
    refine s_load_6 Try.isAgg35 Try.sizeOf35 rfl rfl ((hs.oldcell (a := ⟨b, _, none⟩) hB (by simp)).trans (hcc 0 _ (by omega) rfl)) ((hs.oldcell (a := ⟨b, _, none⟩) hB (by simp)).trans (hcc 1 _ (by omega) rfl)) ((hs.oldcell (a := ⟨b, _, none⟩) hB (by simp)).trans (hcc 2 _ (by omega) rfl)) ((hs.oldcell (a := ⟨b, _, none⟩) hB (by simp)).trans (hcc 3 _ (by omega) rfl)) ((hs.oldcell (a := ⟨b, _, none⟩) hB (by simp)).trans (hcc 4 _ (by omega) rfl)) ((hs.oldcell (a := ⟨b, _, none⟩) hB (by simp)).trans (hcc 5 _ (by omega) rfl)) ?_
    refine s_alloc rfl AL35 hs ?_; clear hs; intro b5 w hs
    first
      | refine s_storeW Try.sizeOf35 rfl rfl rfl rfl hs (kk := 0) rfl rfl ?_
    clear hs; intro w hs; try simp only [List.set_cons_zero, List.set_cons_succ, splice, List.take_succ_cons, List.take_zero, List.drop_succ_cons, List.drop_zero, List.nil_append, List.cons_append, List.length_cons, List.length_nil, Nat.reduceAdd, List.append_assoc] at hs
    refine WL_nil ?_
    refine n_then ?_
    refine W_seq ?_
    refine W_region ?_
    first
      | refine s_loadW Try.isAgg35 Try.sizeOf35 rfl rfl hs (kk := 0) rfl rfl ?_
    refine s_call Try.call80 rfl rfl (encode_ok xe.g xe.x _ xe.bs w (hxv.sl w (hs.oldH hR (by simp)))) ?_
    rintro r w ⟨ub, Lb, rfl, hOb, hst⟩
    rw [show encV xe.g xe.x xe.bs = entB xe from by rw [encV, if_pos hxo.1]; rfl] at hOb
    replace hs : St [] w0 w ([_, _] ++ (LW ++ Lb)) := St.reord [Lb, [_, _], LW] [1, 2, 0] [] (by simpa [cat] using St.back0 hs hst) rfl
    clear hst
    obtain ⟨_, kb, ab, rfl, hvb⟩ := hOb.form
    subst hvb
    refine s_move rfl rfl ?_
    refine s_extract rfl rfl rfl ?_
    refine s_extract rfl rfl rfl ?_
    refine s_assign rfl rfl ?_
    refine s_assign rfl rfl ?_
    refine WL_nil ?_
    refine n_then ?_
    refine W_region ?_
    refine s_move rfl rfl ?_
    refine s_callL (M := [_, _]) (L1 := LW) (X := Lb) Try.call81 rfl rfl hs (fun h => wRaw_ok b3 _ (entB xe) _ _ w hW h (OwnS_slIn hOb fun q hq => hs.own q (by simp [hq])) (fun a m c he hne => by cases he; exact St_apart (M := [_, _]) hs (OwnS_in hOb hne)) (by simp only [List.length_append]; omega) (by omega)) ?_
    clear hs hW; rintro u w LW ⟨hW, rfl⟩ - hs
    replace hs : St [] w0 w ([_] ++ (LW ++ [])) := St.reord [[_], [_], LW, [], Lb] [1, 2, 3] [0, 4] (by simpa [cat] using hs) rfl
    refine WL_nil ?_
    refine n_blk ?_
    refine n_then ?_
    refine W_region ?_
    first | (refine s_add' rfl rfl rfl ?hx ?_; case hx => (constructor <;> first | omega | (simp only; omega)))
    refine s_move rfl rfl ?_
    refine WL_nil ?_
    refine n_loop ?_
    refine ⟨⟨i + 1, LW⟩, ⟨rfl, rfl, rfl, rfl, rfl, trivial⟩, ⟨hs, ?_, by simp only; omega⟩, by simp only; omega⟩
    simp only; rw [htk, ← List.append_assoc, ← List.append_assoc]; exact hW
  · skip
    simp only [decide_eq_true_eq, decide_eq_false_iff_not] at hc31
    refine W_exit ?_
    refine x_then ?_
    refine x_then ?_
    refine exit_hit ?_
    refine n_then ?_
    refine W_seq ?_
    refine W_region ?_
    have hib : i = es.length := by omega
    rw [hib, List.take_of_length_le (by omega), ← hmes] at hW
    refine s_callL (M := [_]) (L1 := LW) (X := []) Try.call82 rfl rfl hs (fun h => wDone_ok b3 _ LW w hW h (by omega)) ?_
    clear hs; rintro u w L9 ⟨Lr, rfl, hOr⟩ - hs
    simp only [List.append_nil] at hs
    refine s_assign rfl rfl ?_
    refine WL_nil ?_
    refine n_then ?_
    refine W_ret ?_
    exact end1 rfl rfl ⟨Lr, hOr, hs.right.right⟩
end Go.Proofs.Ytkobigdfijeajaa
