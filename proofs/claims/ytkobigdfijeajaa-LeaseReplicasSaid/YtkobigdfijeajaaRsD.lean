/- Slices that own their array from some place on. -/
import Derived.Test.YtkobigdfijeajaaRqG
set_option linter.unusedVariables false
set_option linter.unusedSimpArgs false
namespace Go.SL
section
variable {F : List Nat} {w0 w : World} {M X : Hp}
def OwnF (e size : Nat) (v : Value) (n : Nat) (cs : List Value) (Lv : Hp) : Prop :=
  cs.length = n * size ∧ (((∃ a, v = .slice a 0 0) ∧ n = 0 ∧ Lv = []) ∨
    ∃ g cap pre sp, v = .slice (some ⟨g, pre.length, none⟩) n cap ∧ n ≤ cap ∧ cap ≤ maxLen ∧ (cs ++ sp).length = cap * size ∧ Lv = [(g, Blk e (pre ++ (cs ++ sp)))])
theorem OwnS.toF {e size n : Nat} {v : Value} {cs : List Value} {Lv : Hp} (h : OwnS e size v n cs Lv) : OwnF e size v n cs Lv := by
  obtain ⟨h1, h2 | ⟨g, cap, sp, h2, h3, h4, h5, h6⟩⟩ := h
  · exact ⟨h1, .inl h2⟩
  · exact ⟨h1, .inr ⟨g, cap, [], sp, h2, h3, h4, h5, h6⟩⟩
theorem OwnF.form {e size n : Nat} {v : Value} {cs : List Value} {Lv : Hp} (h : OwnF e size v n cs Lv) : ∃ a c, v = .slice a n c := by
  obtain ⟨_, ⟨⟨a, rfl⟩, rfl, _⟩ | ⟨g, cap, pre, sp, rfl, _⟩⟩ := h
  · exact ⟨_, _, rfl⟩
  · exact ⟨_, _, rfl⟩
theorem OwnF.rdS {e size n : Nat} {v : Value} {cs : List Value} {Lv : Hp} (h : OwnF e size v n cs Lv) : RdS v n cs Lv := by
  obtain ⟨h1, ⟨⟨a, rfl⟩, rfl, rfl⟩ | ⟨g, cap, pre, sp, rfl, h3, h4, h5, rfl⟩⟩ := h
  · have : cs = [] := List.eq_nil_of_length_eq_zero (by simpa using h1)
    subst this
    exact ⟨fun w _ => ⟨_, _, rfl, Nat.le_refl _, .inl rfl⟩, fun _ _ _ _ h => absurd rfl h⟩
  · refine ⟨fun w hw => ⟨_, cap, rfl, h3, .inr ⟨g, pre.length, rfl, fun j u hj => ?_⟩⟩, fun a m c he _ => by cases he; simp [ids]⟩
    have hlt := (List.getElem?_eq_some_iff.1 hj).1
    rw [cell_of_row w g (pre.length + j) (pre ++ (cs ++ sp)).toArray e (0, 0) (hw _ List.mem_cons_self)]
    simp only [List.getElem?_toArray]
    rw [List.getElem?_append_right (by omega), Nat.add_sub_cancel_left, List.getElem?_append_left hlt]; exact hj
theorem OwnF.block {e size n : Nat} {v : Value} {cs : List Value} {Lv : Hp} (h : OwnF e size v n cs Lv) (hn : 0 < n) : ∃ g cap pre sp, v = .slice (some ⟨g, pre.length, none⟩) n cap ∧ n ≤ cap ∧ cap ≤ maxLen ∧ (cs ++ sp).length = cap * size ∧ Lv = [(g, Blk e (pre ++ (cs ++ sp)))] := by
  rcases h.2 with ⟨_, h2, _⟩ | h
  · omega
  · exact h
theorem run_append_F {P : Program} {t u e ty size bytes n m : Nat} {zs cs news : List Value} {v x : Value} {Lv : Hp} (el : El P t e zs size bytes) (hv : OwnF e size v n cs Lv) (hs : St F w0 w (Lv ++ M))
    (hx : Src P w u x m size news) (hl : news.length = m * size) (h1 : ∀ u ∈ news, u.oneCell' = true) (h63 : n + m ≤ 9223372036854775807) (hb : (n + m) * bytes ≤ 140737488355328) :
    ∃ v' w' Lv', (Builtin.append_ #[t, u] ty #[v, x]).run P w = .ok v' w' ∧ OwnF e size v' (n + m) (cs ++ news) Lv' ∧ St F w0 w' (Lv' ++ M) := by
  obtain ⟨i, hi, ⟨z, hz, hzc⟩, rfl, rfl⟩ := el.hi
  have hsz := el.hsz
  have hzs : z.cells.size = i.size := by rw [hzc]; simpa using el.hzs
  have hcl := hv.1
  have hlen : (cs ++ news).length = (n + m) * i.size := by rw [List.length_append, hcl, hl, Nat.add_mul]
  have hg1 := hx.len w
  have hf0 := hx.cells w rfl
  have hf1 := hx.cells w.drew rfl
  have h63' : ¬ (9223372036854775807 < ((n : Int) + (m : Int))) := by omega
  have grown : ∀ (a : Option Addr) (old : Nat), v = .slice a n old → old < n + m → (∀ w', w'.heap = w.heap → (Builtin.firstCells i.size n v).run P w' = .ok cs.toArray w') →
      ∃ v' w' Lv', (Builtin.append_ #[t, u] ty #[v, x]).run P w = .ok v' w' ∧ OwnF e i.size v' (n + m) (cs ++ news) Lv' ∧ St F w0 w' (Lv' ++ M) := by
    intro a old hva ho hold
    subst hva
    have hge := grownCap_ge w (n + m) old e
    have hcm : grownCap w (n + m) old e ≤ maxLen := grownCap_le_maxLen w (n + m) old e (by simpa [maxLen] using h63)
    have hn : ¬ (n + m ≤ old) := by omega
    have h48' : ¬ (281474976710656 < Builtin.nextslicecap (n + m) old * i.bytes) := by have := growslice_fits (old := old) (by omega) hb; omega
    have ho1 := hold w.drew rfl
    refine ⟨.slice (some ⟨w.heap.size, 0, none⟩) (n + m) (grownCap w (n + m) old e), w.drew.alloc (Blk e (cs ++ news ++ (Builtin.zeroCells z.cells (grownCap w (n + m) old e - (n + m))).toList)), [(w.heap.size, Blk e (cs ++ news ++ (Builtin.zeroCells z.cells (grownCap w (n + m) old e - (n + m))).toList))], ?_, ⟨hlen, .inr ⟨w.heap.size, _, [], _, rfl, hge, hcm, ?_, rfl⟩⟩, ?_⟩
    · rcases hx.kind with ⟨e', hu⟩ | hu <;>
      · simp [Builtin.append_, run_underlying el.ht, run_underlying hu, sizeOf, typeInfo, zeroValue, hi, hz, hg1, hn, h63', h48', Question.forced, hf1, ho1, newRow, grownCap]
        congr 2
        apply Array.ext'
        simp [List.append_assoc]
    · rw [List.length_append, hlen, Array.length_toList, size_zeroCells, hzs, ← Nat.add_mul]
      congr 1; omega
    · exact (hs.right.drew).alloc _
  rcases hv.2 with ⟨⟨a, rfl⟩, rfl, rfl⟩ | ⟨g, cap, pre, sp, rfl, h2, h3, h4, rfl⟩
  · have hcs : cs = [] := List.eq_nil_of_length_eq_zero (by simpa using hcl)
    subst hcs
    by_cases hm : m = 0
    · subst hm
      have hn : news = [] := List.eq_nil_of_length_eq_zero (by simpa using hl)
      subst hn
      refine ⟨_, w, [], ?_, (OwnS.bare _ _ a).toF, hs⟩
      rcases hx.kind with ⟨e', hu⟩ | hu <;> cases a <;>
        simp [Builtin.append_, run_underlying el.ht, run_underlying hu, sizeOf, typeInfo, hi, hg1, hf0, storeCells]
    · refine grown a 0 rfl (by omega) (fun w' _ => ?_)
      cases a <;> simp [Builtin.firstCells, loadCells, loadCellsFrom]
  · by_cases hroom : n + m ≤ cap
    · have hgg : w.heap[g]? = some (Blk e (pre ++ (cs ++ sp))) := hs.own (g, _) (by simp)
      have hfit : n * i.size + news.length ≤ (cs ++ sp).length := by rw [hl, h4, ← Nat.add_mul]; exact Nat.mul_le_mul_right _ hroom
      have hst := run_storeCells_at P g (pre.length + n * i.size) e news 0 (pre ++ (cs ++ sp)).toArray w hgg (by simp only [List.size_toArray, List.length_append] at hfit ⊢; omega) h1
      simp only [Nat.add_zero, List.toList_toArray] at hst
      have htk : (pre ++ (cs ++ sp)).take (pre.length + n * i.size) = pre ++ cs := by rw [← hcl, List.take_length_add_append, List.take_left]
      have hdr : (pre ++ (cs ++ sp)).drop (pre.length + n * i.size + news.length) = (cs ++ sp).drop (n * i.size + news.length) := by rw [Nat.add_assoc, List.drop_length_add_append]
      rw [htk, hdr] at hst
      refine ⟨.slice (some ⟨g, pre.length, none⟩) (n + m) cap, w.setRow g (pre ++ cs ++ news ++ (cs ++ sp).drop (n * i.size + news.length)).toArray, [(g, Blk e (pre ++ (cs ++ news ++ (cs ++ sp).drop (n * i.size + news.length))))], ?_, ⟨hlen, .inr ⟨g, cap, pre, (cs ++ sp).drop (n * i.size + news.length), rfl, hroom, h3, ?_, rfl⟩⟩, ?_⟩
      · rcases hx.kind with ⟨e', hu⟩ | hu <;>
          simp [Builtin.append_, run_underlying el.ht, run_underlying hu, sizeOf, typeInfo, hi, hg1, hroom, hf0, Addr.add_lit, hst]
      · simp only [List.length_append, List.length_drop] at hfit h4 ⊢; omega
      · have := St.setRow (k := 0) (L := [(g, Blk e (pre ++ (cs ++ sp)))] ++ M) hs rfl (pre ++ cs ++ news ++ (cs ++ sp).drop (n * i.size + news.length)).toArray
        simpa using this
    · refine grown (some ⟨g, pre.length, none⟩) cap rfl (by omega) (fun w' hw => ?_)
      have hgg : w'.heap[g]? = some (Blk e (pre ++ (cs ++ sp))) := by rw [hw]; exact hs.own (g, _) (by simp)
      refine run_firstCells_some (P := P) w' i.size n ⟨g, pre.length, none⟩ n cap cs hcl (fun j u hj => ?_)
      have hlt : j < cs.length := (List.getElem?_eq_some_iff.1 hj).1
      rw [Addr.add_lit, cell_of_row w' g (pre.length + j) (pre ++ (cs ++ sp)).toArray e (0, 0) hgg]
      simp only [List.getElem?_toArray]
      rw [List.getElem?_append_right (by omega), Nat.add_sub_cancel_left, List.getElem?_append_left hlt]; exact hj
end
section
variable {P : Program} {n : Nat} {ops : Array Oper} {Q : Post} {l : Fr} {w : World} {rest : List Oper} {d ty : Nat} {pos : String} {aft : Array Edge} {F : List Nat} {w0 : World} {M X : Hp}
theorem s_appendF {x y : Operand} {t e size bytes m q : Nat} {zs cs news : List Value} {v u : Value} {Lv : Hp} (el : El P t e zs size bytes) (hd : Nat.blt d n = true) (hx : ev l x = some v) (hy : ev l y = some u)
    (hv : OwnF e size v m cs Lv) (hs : St F w0 w (M ++ (Lv ++ X))) (hu : Sl w u q news) (hl : news.length = q * size) (h1 : ∀ c ∈ news, c.oneCell' = true) (h63 : m + q ≤ 9223372036854775807 ∧ (m + q) * bytes ≤ 140737488355328)
    (k : ∀ v' w' Lv', OwnF e size v' (m + q) (cs ++ news) Lv' → St F w0 w' (M ++ (Lv' ++ X)) → WL P n ops Q rest ((d, v') :: l) w') :
    WL P n ops Q (⟨some d, .call { callee := .builtin .append, args := #[x, y], argTypes := #[t, t] }, ty, pos, aft, none⟩ :: rest) l w := by
  obtain ⟨v', w', Lv', hr, ho, hst⟩ := run_append_F (ty := ty) el hv hs.pull (hu.src el.ht hl) hl h1 h63.1 h63.2
  exact WL_val hd (fun a ha => by simp [execOp, resolve, invoke, builtin, ha.eval hx, ha.eval hy, hr]) (k v' w' Lv' ho hst.pull)
/-- the elements from the k-th on -/
theorem OwnF.cut {e size m k : Nat} {b : Addr} {c : Nat} {cs : List Value} {Lv : Hp} (h : OwnF e size (.slice (some b) m c) m cs Lv) (hk : k < m) (hk0 : b.spot = none) : OwnF e size (.slice (some ⟨b.block, (if c = k then b.off else b.off + k * size), none⟩) (m - k) (c - k)) (m - k) (cs.drop (k * size)) Lv := by
  obtain ⟨g, cap, pre, sp, h1, h2, h3, h4, rfl⟩ := h.block (by omega)
  cases h1
  have hcl := h.1
  have hks : k * size ≤ cs.length := by rw [hcl]; exact Nat.mul_le_mul_right _ (by omega)
  refine ⟨by rw [List.length_drop, hcl, Nat.sub_mul], .inr ⟨g, c - k, pre ++ cs.take (k * size), sp, ?_, by omega, by omega, ?_, ?_⟩⟩
  · rw [if_neg (by omega), List.length_append, List.length_take, Nat.min_eq_left hks]
  · rw [List.length_append] at h4 ⊢
    rw [List.length_drop, Nat.sub_mul]; omega
  · rw [List.append_assoc, ← List.append_assoc (cs.take (k * size)), List.take_append_drop]
end
end Go.SL

/- The reference's replicas in memory; others, commits, raise. -/
namespace Go.Proofs.Ytkobigdfijeajaa
open Go.SL
def fcells (R : Rp) (lv vd vt av : Value) : List Value := [.int .i64 (R.id : Int), .int .i64 (R.mem : Int), .int .i64 (R.term : Int), .int .i64 (R.lterm : Int), lv, .int .i64 (R.n : Int), .int .i64 (R.role : Int), vd, vt, av]
/-- a list of entries that is only read -/
def LgIn (v : Value) (l : List En) (LP : Hp) : Prop := ∃ es, ens es = l ∧ RdS v es.length (emcells es) LP ∧ EmsIn es LP
theorem LgIn.mono {v : Value} {l : List En} {L L' : Hp} (h : LgIn v l L) (hs : ∀ p ∈ L, p ∈ L') : LgIn v l L' := by
  obtain ⟨es, h1, h2, h3⟩ := h
  exact ⟨es, h1, RdS.mono' h2 hs, h3.mono hs⟩
theorem LgIn.form {v : Value} {l : List En} {L : Hp} (h : LgIn v l L) (w : World) (hw : ∀ p ∈ L, w.heap[p.1]? = some p.2) : ∃ a c, v = .slice a l.length c := by
  obtain ⟨es, h1, h2, h3⟩ := h
  obtain ⟨_, c, a, h4, h5⟩ := h2.form w hw
  exact ⟨a, c, by rw [h4, h5, ← h1, ens_length]⟩
theorem LgIn.nil (L : Hp) : LgIn (.slice none 0 0) [] L := ⟨[], rfl, RdS.mono' (OwnS.nil 5 6).rdS nofun, nofun⟩
structure Dm where
  s : Ms
  v : Value
/-- the number that a message of the reference carries -/
def Mg.fn (m : Mg) : Nat := if m.kind = 3 then m.ents else m.n
def Dm.cells (d : Dm) : List Value := [.int .i64 (d.s.m.kind : Int), .int .i64 (d.s.frm : Int), .int .i64 (d.s.to : Int), .int .i64 (d.s.m.term : Int), .int .i64 (d.s.m.lterm : Int), .int .i64 (d.s.m.fn : Int), d.v]
theorem Dm.cells_length (d : Dm) : d.cells.length = 7 := rfl
def dcells (ds : List Dm) : List Value := ds.flatMap Dm.cells
theorem dcells_length (ds : List Dm) : (dcells ds).length = ds.length * 7 := flat_length Dm.cells_length ds
theorem dcells_append (a b : List Dm) : dcells (a ++ b) = dcells a ++ dcells b := by simp [dcells]
def DmsIn (ds : List Dm) (LP : Hp) : Prop := ∀ d ∈ ds, LgIn d.v d.s.m.log LP
theorem DmsIn.mono {ds : List Dm} {L L' : Hp} (h : DmsIn ds L) (hs : ∀ p ∈ L, p ∈ L') : DmsIn ds L' := fun d hd => (h d hd).mono hs
theorem DmsIn.one {ds : List Dm} {L : Hp} (h : DmsIn ds L) (w : World) (hw : ∀ p ∈ L, w.heap[p.1]? = some p.2) : ∀ c ∈ dcells ds, c.oneCell' = true := by
  intro c hc
  obtain ⟨d, hd, hx⟩ := List.mem_flatMap.1 hc
  obtain ⟨a, n, hv⟩ := (h d hd).form w hw
  simp only [Dm.cells, List.mem_cons, List.not_mem_nil, or_false] at hx
  rcases hx with rfl | rfl | rfl | rfl | rfl | rfl | rfl <;> first | rfl | (rw [hv]; rfl)
/-- messages of the reference -/
def MdAt (r : Value) (ms : List Ms) (L LP : Hp) : Prop := ∃ ds : List Dm, ds.map (·.s) = ms ∧ OwnS 71 7 r ds.length (dcells ds) L ∧ DmsIn ds LP
theorem MdAt.nil (LP : Hp) : MdAt (.slice none 0 0) [] [] LP := ⟨[], rfl, OwnS.nil _ _, nofun⟩
def ackL (R : Rp) : List Int := (List.range R.mem).map fun j => (R.acks j : Int)
theorem ackL_length (R : Rp) : (ackL R).length = R.mem := by simp [ackL]
theorem ackL_at {R : Rp} {j : Nat} (h : j < R.mem) : (ackL R)[j]? = some (R.acks j : Int) := by simp [ackL, h]
/-- a replica of the reference; q: its votes are none -/
def FrQ (q : Prop) (p : Nat) (R : Rp) (L LP : Hp) : Prop :=
  ∃ lv vd vt av LV LA, L = (p, Blk 106 (fcells R lv vd vt av)) :: (LV ++ LA) ∧ LgIn lv R.log LP ∧
    (∃ bv vs, vd = .slice (some ⟨bv, 0, none⟩) R.mem R.mem ∧ LV = [(bv, Blk 4 vs)] ∧ vs.length = R.mem ∧ (q → vs = List.replicate R.mem (.bool false))) ∧
    (q → vt = .slice none 0 0) ∧ (∃ a n c, vt = .slice a n c) ∧ (∃ a n c, av = .slice a n c) ∧
    (R.role = 2 → ∃ ba, av = .slice (some ⟨ba, 0, none⟩) R.mem R.mem ∧ LA = [(ba, Blk 3 (i64s (ackL R)))]) ∧ R.ok
def FrAt (p : Nat) (R : Rp) (L LP : Hp) : Prop := FrQ (R.role = 1) p R L LP
theorem FrQ.mono {q : Prop} {p : Nat} {R : Rp} {L LP LP' : Hp} (h : FrQ q p R L LP) (hs : ∀ x ∈ LP, x ∈ LP') : FrQ q p R L LP' := by
  obtain ⟨lv, vd, vt, av, LV, LA, h1, h2, h3⟩ := h
  exact ⟨lv, vd, vt, av, LV, LA, h1, h2.mono hs, h3⟩
theorem FrAt.ok {p : Nat} {R : Rp} {L LP : Hp} (h : FrAt p R L LP) : R.ok := by
  obtain ⟨lv, vd, vt, av, LV, LA, h1, h2, _, _, _, _, _, h3⟩ := h; exact h3
structure OfS where
  i : Nat
  v : Value
  L : Hp
def oDms (R : Rp) (i : Nat) (m : Mg) (u : Value) : List Dm := (R.tos i).map fun j => ⟨⟨R.id, j, m⟩, u⟩
theorem oDms_length (R : Rp) (i : Nat) (m : Mg) (u : Value) : (oDms R i m u).length = (R.tos i).length := by simp [oDms]
theorem oDms_s (R : Rp) (m : Mg) (u : Value) : (oDms R R.mem m u).map (·.s) = R.others m := by simp [oDms, Rp.others]
set_option maxHeartbeats 2000000 in
theorem fothers_ok (p : Nat) (R : Rp) (la : Option Addr) (ln lc : Nat) (vd vt av : Value) (kd : Nat) (m : Mg) (w0 : World) (hp : w0.heap[p]? = some (Blk 106 (fcells R (.slice la ln lc) vd vt av))) (hmem : R.mem ≤ 3)
    (hm : m.kind = kd ∧ m.term = R.term ∧ m.lterm = 0) (hkd : (kd = 2 ∧ m.n = R.n) ∨ (kd = 0 ∧ m.n = 0)) :
    Ret Try.prog 53 [.pointer (some ⟨p, 0, none⟩), .int .i64 (kd : Int)].toArray w0 fun r w' => ∃ Lr, OwnS 71 7 r (oDms R R.mem m (if kd = 2 then .slice la ln lc else .slice none 0 0)).length (dcells (oDms R R.mem m (if kd = 2 then .slice la ln lc else .slice none 0 0))) Lr ∧ St [] w0 w' Lr := by
  have c0 := cell_blk (i := 0) hp rfl
  have c1 := cell_blk (i := 1) hp rfl
  have c2 := cell_blk (i := 2) hp rfl
  have c4 := cell_blk (i := 4) hp rfl
  have c5 := cell_blk (i := 5) hp rfl
  have hB := (Array.getElem?_eq_some_iff.1 hp).1
  obtain ⟨mk, mt, ml⟩ := hm
  have hfn : m.fn = m.n := by unfold Mg.fn; rw [if_neg (by omega)]
  generalize hu : (if kd = 2 then Value.slice la ln lc else .slice none 0 0) = u
  refine Ret_start fun w hs => ?_
  refine Ret_of Try.func53 rfl Try.ntmps53 rfl ?_
  refine W_seq ?_
  refine W_region ?_
  refine s_assign rfl rfl ?_
  refine WL_nil ?_
  refine n_then ?_
  refine W_seq ?_
  refine W_region ?_
  refine s_assign rfl rfl ?_
  refine WL_nil ?_
  refine n_then ?_
  refine W_seq ?_
  refine W_seq ?_
  refine W_region ?_
  refine s_assign rfl rfl ?_
  refine WL_nil ?_
  refine n_then ?_
  refine W_block ?_
  refine W_loop (σ := OfS) (fun s => [(0, .pointer (some ⟨p, 0, none⟩)), (1, .int .i64 (kd : Int)), (5, s.v), (6, .int .i64 (s.i : Int))])
    (fun s w => St [] w0 w s.L ∧ OwnS 71 7 s.v (R.tos s.i).length (dcells (oDms R s.i m u)) s.L ∧ s.i ≤ R.mem) (fun s => R.mem - s.i) ⟨0, .slice none 0 0, []⟩ ⟨rfl, rfl, rfl, rfl, trivial⟩ ⟨hs, OwnS.nil _ _, Nat.zero_le _⟩ ?_
  clear hs
  rintro ⟨i, v, L⟩ w ⟨hs, hO, hi⟩
  simp only at hs hO hi ⊢
  have htl := R.tos_len i
  refine W_seq ?_
  refine W_seq ?_
  refine W_region ?_
  refine s_move rfl rfl ?_
  refine s_move rfl rfl ?_
  refine s_nilCheck rfl rfl ?_
  refine s_fieldAddr rfl rfl (FA106_1 _ _) ?_
  first
    | refine s_load Try.isAgg3 rfl rfl (hs.cell (k := 0) rfl rfl) ?_
    | refine s_load Try.isAgg3 rfl rfl (hs.cell (k := 1) rfl rfl) ?_
    | refine s_load Try.isAgg3 rfl rfl (hs.cell (k := 2) rfl rfl) ?_
    | refine s_load Try.isAgg3 rfl rfl (((hs.oldcell (a := ⟨p, 0, none⟩) hB (by simp)).trans c0)) ?_
    | refine s_load Try.isAgg3 rfl rfl (((hs.oldcell (a := ⟨p, 1, none⟩) hB (by simp)).trans c1)) ?_
    | refine s_load Try.isAgg3 rfl rfl (((hs.oldcell (a := ⟨p, 2, none⟩) hB (by simp)).trans c2)) ?_
    | refine s_load Try.isAgg3 rfl rfl (((hs.oldcell (a := ⟨p, 4, none⟩) hB (by simp)).trans c4)) ?_
    | refine s_load Try.isAgg3 rfl rfl (((hs.oldcell (a := ⟨p, 5, none⟩) hB (by simp)).trans c5)) ?_
  refine s_lss rfl rfl rfl ?_
  refine WL_nil ?_
  refine n_then ?_
  refine W_cond rfl (fun hc13 => ?_) (fun hc13 => ?_)
  · skip
    try simp only [decide_eq_true_eq, decide_eq_false_iff_not, bne_iff_ne, ne_eq, bne_eq_false_iff_eq, beq_iff_eq, beq_eq_false_iff_ne, Bool.not_eq_true', Bool.not_eq_false', Int.natCast_inj] at hc13
    refine W_skip ?_
    refine n_then ?_
    refine W_seq ?_
    refine W_block ?_
    refine W_seq ?_
    refine W_region ?_
    refine s_move rfl rfl ?_
    refine s_move rfl rfl ?_
    refine s_nilCheck rfl rfl ?_
    refine s_fieldAddr rfl rfl (FA106_0 _ _) ?_
    first
      | refine s_load Try.isAgg3 rfl rfl (hs.cell (k := 0) rfl rfl) ?_
      | refine s_load Try.isAgg3 rfl rfl (hs.cell (k := 1) rfl rfl) ?_
      | refine s_load Try.isAgg3 rfl rfl (hs.cell (k := 2) rfl rfl) ?_
      | refine s_load Try.isAgg3 rfl rfl (((hs.oldcell (a := ⟨p, 0, none⟩) hB (by simp)).trans c0)) ?_
      | refine s_load Try.isAgg3 rfl rfl (((hs.oldcell (a := ⟨p, 1, none⟩) hB (by simp)).trans c1)) ?_
      | refine s_load Try.isAgg3 rfl rfl (((hs.oldcell (a := ⟨p, 2, none⟩) hB (by simp)).trans c2)) ?_
      | refine s_load Try.isAgg3 rfl rfl (((hs.oldcell (a := ⟨p, 4, none⟩) hB (by simp)).trans c4)) ?_
      | refine s_load Try.isAgg3 rfl rfl (((hs.oldcell (a := ⟨p, 5, none⟩) hB (by simp)).trans c5)) ?_
    refine s_neq rfl rfl rfl ?_
    refine WL_nil ?_
    refine n_then ?_
    refine W_cond rfl (fun hc21 => ?_) (fun hc21 => ?_)
    · skip
      try simp only [decide_eq_true_eq, decide_eq_false_iff_not, bne_iff_ne, ne_eq, bne_eq_false_iff_eq, beq_iff_eq, beq_eq_false_iff_ne, Bool.not_eq_true', Bool.not_eq_false', Int.natCast_inj] at hc21
      refine W_seq ?_
      refine W_draw [(0, true, []), (1, true, []), (2, true, []), (3, true, []), (4, true, []), (5, true, []), (6, true, []), (7, true, []), (8, true, []), (9, true, []), (10, true, []), (11, false, [0, 1, 2, 3, 4, 5, 6, 7, 8, 9, 10]), (12, false, [])] [[], [], [1], [1, 2], [1, 2, 3], [], [], [6], [6, 7], [6, 7, 8], [0, 1, 2, 3, 4, 5, 6, 7, 8, 9], [], [0, 1, 2, 3, 4, 5, 6, 7, 8, 9, 10, 11]] MX (by kernel_rfl) ?_
      intro w1 hw1 hw2 hw3 hw4; replace hs := hs.redrawn hw1 hw2 hw3 hw4; clear hw1 hw2 hw3 hw4
      obtain ⟨w, rfl⟩ : ∃ w : World, w = w1 := ⟨_, rfl⟩
      refine D_q rfl rfl ?_
      refine s_move rfl rfl ?_
      refine D_qn ?_
      refine D_q rfl rfl ?_
      refine s_move rfl rfl ?_
      refine D_qn ?_
      refine D_q rfl rfl ?_
      refine s_nilCheck rfl rfl ?_
      refine D_qn ?_
      refine D_q rfl rfl ?_
      refine s_fieldAddr rfl rfl (FA106_0 _ _) ?_
      refine D_qn ?_
      refine D_q rfl rfl ?_
      first
        | refine s_load Try.isAgg3 rfl rfl (hs.cell (k := 0) rfl rfl) ?_
        | refine s_load Try.isAgg3 rfl rfl (hs.cell (k := 1) rfl rfl) ?_
        | refine s_load Try.isAgg3 rfl rfl (hs.cell (k := 2) rfl rfl) ?_
        | refine s_load Try.isAgg3 rfl rfl (((hs.oldcell (a := ⟨p, 0, none⟩) hB (by simp)).trans c0)) ?_
        | refine s_load Try.isAgg3 rfl rfl (((hs.oldcell (a := ⟨p, 1, none⟩) hB (by simp)).trans c1)) ?_
        | refine s_load Try.isAgg3 rfl rfl (((hs.oldcell (a := ⟨p, 2, none⟩) hB (by simp)).trans c2)) ?_
        | refine s_load Try.isAgg3 rfl rfl (((hs.oldcell (a := ⟨p, 4, none⟩) hB (by simp)).trans c4)) ?_
        | refine s_load Try.isAgg3 rfl rfl (((hs.oldcell (a := ⟨p, 5, none⟩) hB (by simp)).trans c5)) ?_
      refine D_qn ?_
      refine D_q rfl rfl ?_
      refine s_move rfl rfl ?_
      refine D_qn ?_
      refine D_q rfl rfl ?_
      refine s_move rfl rfl ?_
      refine D_qn ?_
      refine D_q rfl rfl ?_
      refine s_nilCheck rfl rfl ?_
      refine D_qn ?_
      refine D_q rfl rfl ?_
      refine s_fieldAddr rfl rfl (FA106_2 _ _) ?_
      refine D_qn ?_
      refine D_q rfl rfl ?_
      first
        | refine s_load Try.isAgg3 rfl rfl (hs.cell (k := 0) rfl rfl) ?_
        | refine s_load Try.isAgg3 rfl rfl (hs.cell (k := 1) rfl rfl) ?_
        | refine s_load Try.isAgg3 rfl rfl (hs.cell (k := 2) rfl rfl) ?_
        | refine s_load Try.isAgg3 rfl rfl (((hs.oldcell (a := ⟨p, 0, none⟩) hB (by simp)).trans c0)) ?_
        | refine s_load Try.isAgg3 rfl rfl (((hs.oldcell (a := ⟨p, 1, none⟩) hB (by simp)).trans c1)) ?_
        | refine s_load Try.isAgg3 rfl rfl (((hs.oldcell (a := ⟨p, 2, none⟩) hB (by simp)).trans c2)) ?_
        | refine s_load Try.isAgg3 rfl rfl (((hs.oldcell (a := ⟨p, 4, none⟩) hB (by simp)).trans c4)) ?_
        | refine s_load Try.isAgg3 rfl rfl (((hs.oldcell (a := ⟨p, 5, none⟩) hB (by simp)).trans c5)) ?_
      refine D_qn ?_
      refine D_q rfl rfl ?_
      refine s_build rfl rfl (BD71_0_1_2_3 _ _ _ _) ?_
      refine D_qn ?_
      refine D_e rfl ?_
      refine s_alloc rfl AL71 hs ?_; clear hs; intro b7 w hs
      refine D_en ?re ?_
      case re =>
        refine Reks_cons rfl rfl rfl rfl ?_ ?_
        · skip
          refine s_move rfl rfl ?_
          exact Rek_end rfl
        refine Reks_cons rfl rfl rfl rfl ?_ ?_
        · skip
          refine s_move rfl rfl ?_
          exact Rek_end rfl
        refine Reks_cons rfl rfl rfl rfl ?_ ?_
        · skip
          refine s_nilCheck rfl rfl ?_
          exact Rek_end rfl
        refine Reks_cons rfl rfl rfl rfl ?_ ?_
        · skip
          refine s_fieldAddr rfl rfl (FA106_0 _ _) ?_
          exact Rek_end rfl
        refine Reks_cons rfl rfl rfl rfl ?_ ?_
        · skip
          first
            | refine s_load Try.isAgg3 rfl rfl (hs.cell (k := 0) rfl rfl) ?_
            | refine s_load Try.isAgg3 rfl rfl (hs.cell (k := 1) rfl rfl) ?_
            | refine s_load Try.isAgg3 rfl rfl (hs.cell (k := 2) rfl rfl) ?_
            | refine s_load Try.isAgg3 rfl rfl (((hs.oldcell (a := ⟨p, 0, none⟩) hB (by simp)).trans c0)) ?_
            | refine s_load Try.isAgg3 rfl rfl (((hs.oldcell (a := ⟨p, 1, none⟩) hB (by simp)).trans c1)) ?_
            | refine s_load Try.isAgg3 rfl rfl (((hs.oldcell (a := ⟨p, 2, none⟩) hB (by simp)).trans c2)) ?_
            | refine s_load Try.isAgg3 rfl rfl (((hs.oldcell (a := ⟨p, 4, none⟩) hB (by simp)).trans c4)) ?_
            | refine s_load Try.isAgg3 rfl rfl (((hs.oldcell (a := ⟨p, 5, none⟩) hB (by simp)).trans c5)) ?_
          exact Rek_end rfl
        refine Reks_cons rfl rfl rfl rfl ?_ ?_
        · skip
          refine s_move rfl rfl ?_
          exact Rek_end rfl
        refine Reks_cons rfl rfl rfl rfl ?_ ?_
        · skip
          refine s_move rfl rfl ?_
          exact Rek_end rfl
        refine Reks_cons rfl rfl rfl rfl ?_ ?_
        · skip
          refine s_nilCheck rfl rfl ?_
          exact Rek_end rfl
        refine Reks_cons rfl rfl rfl rfl ?_ ?_
        · skip
          refine s_fieldAddr rfl rfl (FA106_2 _ _) ?_
          exact Rek_end rfl
        refine Reks_cons rfl rfl rfl rfl ?_ ?_
        · skip
          first
            | refine s_load Try.isAgg3 rfl rfl (hs.cell (k := 0) rfl rfl) ?_
            | refine s_load Try.isAgg3 rfl rfl (hs.cell (k := 1) rfl rfl) ?_
            | refine s_load Try.isAgg3 rfl rfl (hs.cell (k := 2) rfl rfl) ?_
            | refine s_load Try.isAgg3 rfl rfl (((hs.oldcell (a := ⟨p, 0, none⟩) hB (by simp)).trans c0)) ?_
            | refine s_load Try.isAgg3 rfl rfl (((hs.oldcell (a := ⟨p, 1, none⟩) hB (by simp)).trans c1)) ?_
            | refine s_load Try.isAgg3 rfl rfl (((hs.oldcell (a := ⟨p, 2, none⟩) hB (by simp)).trans c2)) ?_
            | refine s_load Try.isAgg3 rfl rfl (((hs.oldcell (a := ⟨p, 4, none⟩) hB (by simp)).trans c4)) ?_
            | refine s_load Try.isAgg3 rfl rfl (((hs.oldcell (a := ⟨p, 5, none⟩) hB (by simp)).trans c5)) ?_
          exact Rek_end rfl
        refine Reks_cons rfl rfl rfl rfl ?_ ?_
        · skip
          refine s_build rfl rfl (BD71_0_1_2_3 _ _ _ _) ?_
          exact Rek_end rfl
        exact Reks_nil
      refine D_e rfl ?_
      first
        | refine s_storeW Try.sizeOf71 rfl rfl rfl rfl hs (kk := 0) rfl rfl ?_
        | refine s_storeW Try.sizeOf71 rfl rfl rfl rfl hs (kk := 1) rfl rfl ?_
        | refine s_storeW Try.sizeOf71 rfl rfl rfl rfl hs (kk := 2) rfl rfl ?_
        | refine s_storeAB Try.sizeOf71 rfl rfl rfl rfl hs (kk := 0) rfl rfl ?_
        | refine s_storeAB Try.sizeOf71 rfl rfl rfl rfl hs (kk := 1) rfl rfl ?_
        | refine s_storeAB Try.sizeOf71 rfl rfl rfl rfl hs (kk := 2) rfl rfl ?_
      clear hs; intro w hs; try simp only [List.set_cons_zero, List.set_cons_succ, splice, List.take_succ_cons, List.take_zero, List.drop_succ_cons, List.drop_zero, List.nil_append, List.cons_append, List.length_cons, List.length_nil, Nat.reduceAdd, List.append_assoc] at hs
      refine D_en ?re ?_
      case re =>
        exact Reks_nil
      refine D_nil ?_
      refine n_then ?_
      refine W_seq ?_
      refine W_seq ?_
      refine W_region ?_
      refine s_move rfl rfl ?_
      refine s_eql rfl rfl rfl ?_
      refine WL_nil ?_
      refine n_then ?_
      refine W_cond rfl (fun hc34 => ?_) (fun hc34 => ?_)
      · skip
        try simp only [decide_eq_true_eq, decide_eq_false_iff_not, bne_iff_ne, ne_eq, bne_eq_false_iff_eq, beq_iff_eq, beq_eq_false_iff_ne, Bool.not_eq_true', Bool.not_eq_false', Int.natCast_inj] at hc34
        refine W_seq ?_
        refine W_region ?_
        refine s_move rfl rfl ?_
        refine s_nilCheck rfl rfl ?_
        refine s_fieldAddr rfl rfl (FA106_4 _ _) ?_
        first
          | refine s_load Try.isAgg69 rfl rfl (hs.cell (k := 0) rfl rfl) ?_
          | refine s_load Try.isAgg69 rfl rfl (hs.cell (k := 1) rfl rfl) ?_
          | refine s_load Try.isAgg69 rfl rfl (hs.cell (k := 2) rfl rfl) ?_
          | refine s_load Try.isAgg69 rfl rfl (((hs.oldcell (a := ⟨p, 0, none⟩) hB (by simp)).trans c0)) ?_
          | refine s_load Try.isAgg69 rfl rfl (((hs.oldcell (a := ⟨p, 1, none⟩) hB (by simp)).trans c1)) ?_
          | refine s_load Try.isAgg69 rfl rfl (((hs.oldcell (a := ⟨p, 2, none⟩) hB (by simp)).trans c2)) ?_
          | refine s_load Try.isAgg69 rfl rfl (((hs.oldcell (a := ⟨p, 4, none⟩) hB (by simp)).trans c4)) ?_
          | refine s_load Try.isAgg69 rfl rfl (((hs.oldcell (a := ⟨p, 5, none⟩) hB (by simp)).trans c5)) ?_
        refine s_fieldAddr rfl rfl (FA71_6 _ _) ?_
        first
          | refine s_storeB Try.sizeOf69 rfl rfl rfl hs (kk := 0) rfl rfl ?_
          | refine s_storeB Try.sizeOf69 rfl rfl rfl hs (kk := 1) rfl rfl ?_
          | refine s_storeB Try.sizeOf69 rfl rfl rfl hs (kk := 2) rfl rfl ?_
        clear hs; intro w hs; try simp only [List.set_cons_zero, List.set_cons_succ, splice, List.take_succ_cons, List.take_zero, List.drop_succ_cons, List.drop_zero, List.nil_append, List.cons_append, List.length_cons, List.length_nil, Nat.reduceAdd, List.append_assoc] at hs
        refine WL_nil ?_
        refine n_then ?_
        refine W_region ?_
        refine s_move rfl rfl ?_
        refine s_nilCheck rfl rfl ?_
        refine s_fieldAddr rfl rfl (FA106_5 _ _) ?_
        first
          | refine s_load Try.isAgg3 rfl rfl (hs.cell (k := 0) rfl rfl) ?_
          | refine s_load Try.isAgg3 rfl rfl (hs.cell (k := 1) rfl rfl) ?_
          | refine s_load Try.isAgg3 rfl rfl (hs.cell (k := 2) rfl rfl) ?_
          | refine s_load Try.isAgg3 rfl rfl (((hs.oldcell (a := ⟨p, 0, none⟩) hB (by simp)).trans c0)) ?_
          | refine s_load Try.isAgg3 rfl rfl (((hs.oldcell (a := ⟨p, 1, none⟩) hB (by simp)).trans c1)) ?_
          | refine s_load Try.isAgg3 rfl rfl (((hs.oldcell (a := ⟨p, 2, none⟩) hB (by simp)).trans c2)) ?_
          | refine s_load Try.isAgg3 rfl rfl (((hs.oldcell (a := ⟨p, 4, none⟩) hB (by simp)).trans c4)) ?_
          | refine s_load Try.isAgg3 rfl rfl (((hs.oldcell (a := ⟨p, 5, none⟩) hB (by simp)).trans c5)) ?_
        refine s_fieldAddr rfl rfl (FA71_5 _ _) ?_
        first
          | refine s_storeB Try.sizeOf3 rfl rfl rfl hs (kk := 0) rfl rfl ?_
          | refine s_storeB Try.sizeOf3 rfl rfl rfl hs (kk := 1) rfl rfl ?_
          | refine s_storeB Try.sizeOf3 rfl rfl rfl hs (kk := 2) rfl rfl ?_
        clear hs; intro w hs; try simp only [List.set_cons_zero, List.set_cons_succ, splice, List.take_succ_cons, List.take_zero, List.drop_succ_cons, List.drop_zero, List.nil_append, List.cons_append, List.length_cons, List.length_nil, Nat.reduceAdd, List.append_assoc] at hs
        refine WL_nil ?_
        refine n_then ?_
        refine W_region ?_
        refine s_move rfl rfl ?_
        first
          | refine s_loadW Try.isAgg71 Try.sizeOf71 rfl rfl hs (kk := 0) rfl rfl ?_
          | refine s_loadW Try.isAgg71 Try.sizeOf71 rfl rfl hs (kk := 1) rfl rfl ?_
          | refine s_loadW Try.isAgg71 Try.sizeOf71 rfl rfl hs (kk := 2) rfl rfl ?_
          | refine s_load_7 Try.isAgg71 Try.sizeOf71 rfl rfl (by first | exact hs.cell (k := 0) rfl rfl | exact hs.cell (k := 1) rfl rfl | exact hs.cell (k := 2) rfl rfl) (by first | exact hs.cell (k := 0) rfl rfl | exact hs.cell (k := 1) rfl rfl | exact hs.cell (k := 2) rfl rfl) (by first | exact hs.cell (k := 0) rfl rfl | exact hs.cell (k := 1) rfl rfl | exact hs.cell (k := 2) rfl rfl) (by first | exact hs.cell (k := 0) rfl rfl | exact hs.cell (k := 1) rfl rfl | exact hs.cell (k := 2) rfl rfl) (by first | exact hs.cell (k := 0) rfl rfl | exact hs.cell (k := 1) rfl rfl | exact hs.cell (k := 2) rfl rfl) (by first | exact hs.cell (k := 0) rfl rfl | exact hs.cell (k := 1) rfl rfl | exact hs.cell (k := 2) rfl rfl) (by first | exact hs.cell (k := 0) rfl rfl | exact hs.cell (k := 1) rfl rfl | exact hs.cell (k := 2) rfl rfl) ?_
        refine s_buildSlice rfl rfl (BS65_1 _ _ _ _ _ _ _) hs ?_; clear hs; intro b47 w hs
        refine s_appendM (M := [_, _]) (X := []) El65 rfl rfl rfl hO (by simpa using hs) (hs.sl (k := 0) (ds := Dm.cells ⟨⟨R.id, i, m⟩, u⟩) rfl (Nat.le_refl _) (by
          intro j z hj; rw [Nat.zero_add, ← hj]
          have e5 : ((m.fn : Nat) : Int) = (m.n : Int) := by rw [hfn]
          simp only [Dm.cells, mk, mt, ml, e5, ← hu]
          first
            | (rw [if_pos (by omega), show m.n = R.n from by omega]; rfl)
            | (rw [if_neg (by omega), show m.n = 0 from by omega]; rfl))) rfl (by rw [← hu]; split <;> simp [Dm.cells, Value.oneCell']) (by omega) ?_
        clear hs hO; intro v' w L' hO hs
        replace hs : St [] w0 w L' := by have h9 := hs.tail.tail; rw [List.append_nil] at h9; exact h9
        refine s_assign rfl rfl ?_
        refine WL_nil ?_
        refine n_blk ?_
        refine n_then ?_
        refine W_region ?_
        refine s_move rfl rfl ?_
        first | (refine s_add' rfl rfl rfl ?hx ?_; case hx => (constructor <;> first | omega | (simp only; omega))) | refine s_add rfl rfl rfl ?_
        refine s_assign rfl rfl ?_
        refine WL_nil ?_
        refine n_loop ?_
        first
          | (refine ⟨⟨i + 1, v', L'⟩, ⟨rfl, rfl, rfl, rfl, trivial⟩, ⟨hs, ?_, by simp only; omega⟩, by simp only; omega⟩
             show OwnS 71 7 v' (R.tos (i + 1)).length (dcells (oDms R (i + 1) m u)) L'
             rw [oDms, Rp.tos_succ, if_neg (by omega), List.map_append, dcells_append, List.length_append]
             exact hO)
          | (refine ⟨⟨i + 1, v, L⟩, ⟨rfl, rfl, rfl, rfl, trivial⟩, ⟨hs, ?_, by simp only; omega⟩, by simp only; omega⟩
             show OwnS 71 7 v (R.tos (i + 1)).length (dcells (oDms R (i + 1) m u)) L
             rw [oDms, Rp.tos_succ, if_pos (by omega)]
             exact hO)
      · skip
        try simp only [decide_eq_true_eq, decide_eq_false_iff_not, bne_iff_ne, ne_eq, bne_eq_false_iff_eq, beq_iff_eq, beq_eq_false_iff_ne, Bool.not_eq_true', Bool.not_eq_false', Int.natCast_inj] at hc34
        refine W_skip ?_
        refine n_then ?_
        refine W_region ?_
        refine s_move rfl rfl ?_
        first
          | refine s_loadW Try.isAgg71 Try.sizeOf71 rfl rfl hs (kk := 0) rfl rfl ?_
          | refine s_loadW Try.isAgg71 Try.sizeOf71 rfl rfl hs (kk := 1) rfl rfl ?_
          | refine s_loadW Try.isAgg71 Try.sizeOf71 rfl rfl hs (kk := 2) rfl rfl ?_
          | refine s_load_7 Try.isAgg71 Try.sizeOf71 rfl rfl (by first | exact hs.cell (k := 0) rfl rfl | exact hs.cell (k := 1) rfl rfl | exact hs.cell (k := 2) rfl rfl) (by first | exact hs.cell (k := 0) rfl rfl | exact hs.cell (k := 1) rfl rfl | exact hs.cell (k := 2) rfl rfl) (by first | exact hs.cell (k := 0) rfl rfl | exact hs.cell (k := 1) rfl rfl | exact hs.cell (k := 2) rfl rfl) (by first | exact hs.cell (k := 0) rfl rfl | exact hs.cell (k := 1) rfl rfl | exact hs.cell (k := 2) rfl rfl) (by first | exact hs.cell (k := 0) rfl rfl | exact hs.cell (k := 1) rfl rfl | exact hs.cell (k := 2) rfl rfl) (by first | exact hs.cell (k := 0) rfl rfl | exact hs.cell (k := 1) rfl rfl | exact hs.cell (k := 2) rfl rfl) (by first | exact hs.cell (k := 0) rfl rfl | exact hs.cell (k := 1) rfl rfl | exact hs.cell (k := 2) rfl rfl) ?_
        refine s_buildSlice rfl rfl (BS65_1 _ _ _ _ _ _ _) hs ?_; clear hs; intro b47 w hs
        refine s_appendM (M := [_, _]) (X := []) El65 rfl rfl rfl hO (by simpa using hs) (hs.sl (k := 0) (ds := Dm.cells ⟨⟨R.id, i, m⟩, u⟩) rfl (Nat.le_refl _) (by
          intro j z hj; rw [Nat.zero_add, ← hj]
          have e5 : ((m.fn : Nat) : Int) = (m.n : Int) := by rw [hfn]
          simp only [Dm.cells, mk, mt, ml, e5, ← hu]
          first
            | (rw [if_pos (by omega), show m.n = R.n from by omega]; rfl)
            | (rw [if_neg (by omega), show m.n = 0 from by omega]; rfl))) rfl (by rw [← hu]; split <;> simp [Dm.cells, Value.oneCell']) (by omega) ?_
        clear hs hO; intro v' w L' hO hs
        replace hs : St [] w0 w L' := by have h9 := hs.tail.tail; rw [List.append_nil] at h9; exact h9
        refine s_assign rfl rfl ?_
        refine WL_nil ?_
        refine n_blk ?_
        refine n_then ?_
        refine W_region ?_
        refine s_move rfl rfl ?_
        first | (refine s_add' rfl rfl rfl ?hx ?_; case hx => (constructor <;> first | omega | (simp only; omega))) | refine s_add rfl rfl rfl ?_
        refine s_assign rfl rfl ?_
        refine WL_nil ?_
        refine n_loop ?_
        first
          | (refine ⟨⟨i + 1, v', L'⟩, ⟨rfl, rfl, rfl, rfl, trivial⟩, ⟨hs, ?_, by simp only; omega⟩, by simp only; omega⟩
             show OwnS 71 7 v' (R.tos (i + 1)).length (dcells (oDms R (i + 1) m u)) L'
             rw [oDms, Rp.tos_succ, if_neg (by omega), List.map_append, dcells_append, List.length_append]
             exact hO)
          | (refine ⟨⟨i + 1, v, L⟩, ⟨rfl, rfl, rfl, rfl, trivial⟩, ⟨hs, ?_, by simp only; omega⟩, by simp only; omega⟩
             show OwnS 71 7 v (R.tos (i + 1)).length (dcells (oDms R (i + 1) m u)) L
             rw [oDms, Rp.tos_succ, if_pos (by omega)]
             exact hO)
    · skip
      try simp only [decide_eq_true_eq, decide_eq_false_iff_not, bne_iff_ne, ne_eq, bne_eq_false_iff_eq, beq_iff_eq, beq_eq_false_iff_ne, Bool.not_eq_true', Bool.not_eq_false', Int.natCast_inj] at hc21
      refine W_skip ?_
      refine n_blk ?_
      refine n_then ?_
      refine W_region ?_
      refine s_move rfl rfl ?_
      first | (refine s_add' rfl rfl rfl ?hx ?_; case hx => (constructor <;> first | omega | (simp only; omega))) | refine s_add rfl rfl rfl ?_
      refine s_assign rfl rfl ?_
      refine WL_nil ?_
      refine n_loop ?_
      first
        | (refine ⟨⟨i + 1, v', L'⟩, ⟨rfl, rfl, rfl, rfl, trivial⟩, ⟨hs, ?_, by simp only; omega⟩, by simp only; omega⟩
           show OwnS 71 7 v' (R.tos (i + 1)).length (dcells (oDms R (i + 1) m u)) L'
           rw [oDms, Rp.tos_succ, if_neg (by omega), List.map_append, dcells_append, List.length_append]
           exact hO)
        | (refine ⟨⟨i + 1, v, L⟩, ⟨rfl, rfl, rfl, rfl, trivial⟩, ⟨hs, ?_, by simp only; omega⟩, by simp only; omega⟩
           show OwnS 71 7 v (R.tos (i + 1)).length (dcells (oDms R (i + 1) m u)) L
           rw [oDms, Rp.tos_succ, if_pos (by omega)]
           exact hO)
  · skip
    try simp only [decide_eq_true_eq, decide_eq_false_iff_not, bne_iff_ne, ne_eq, bne_eq_false_iff_eq, beq_iff_eq, beq_eq_false_iff_ne, Bool.not_eq_true', Bool.not_eq_false', Int.natCast_inj] at hc13
    refine W_exit ?_
    refine x_then ?_
    refine x_then ?_
    refine exit_hit ?_
    refine n_then ?_
    refine W_seq ?_
    refine W_region ?_
    refine s_move rfl rfl ?_
    refine s_assign rfl rfl ?_
    refine WL_nil ?_
    refine n_then ?_
    refine W_ret ?_
    obtain rfl : i = R.mem := by omega
    exact end1 rfl rfl ⟨L, by rw [oDms_length]; exact hO, hs⟩
end Go.Proofs.Ytkobigdfijeajaa

/- The reference's replicas: commits, raise, leads. -/
namespace Go.Proofs.Ytkobigdfijeajaa
open Go.SL
def cntI (R : Rp) (n i : Nat) : Nat := ((List.range i).filter fun j => decide (j ≠ R.id ∧ n ≤ R.acks j)).length
theorem cntI_succ (R : Rp) (n i : Nat) : cntI R n (i + 1) = cntI R n i + if i ≠ R.id ∧ n ≤ R.acks i then 1 else 0 := by
  rw [cntI, List.range_succ, List.filter_append, List.length_append]
  by_cases h : i ≠ R.id ∧ n ≤ R.acks i
  · rw [if_pos h]; simp [cntI, h]
  · rw [if_neg h]
    have : decide (i ≠ R.id ∧ n ≤ R.acks i) = false := decide_eq_false h
    simp only [cntI, List.filter_cons, this, List.filter_nil]; rfl
theorem cntI_le (R : Rp) (n i : Nat) : cntI R n i ≤ i := by
  have := List.length_filter_le (fun j => decide (j ≠ R.id ∧ n ≤ R.acks j)) (List.range i)
  rw [List.length_range] at this; exact this
structure CiS where
  i : Nat
  c : Nat
set_option maxHeartbeats 4000000 in
theorem commits_ok (p : Nat) (R : Rp) (la : Option Addr) (lc : Nat) (vd vt : Value) (aa : Option Addr) (ac : Nat) (L0 : Hp) (w0 : World) (hL : L0 = [(p, Blk 106 (fcells R (.slice la R.log.length lc) vd vt (.slice aa R.mem ac)))])
    (hA : Sl w0 (.slice aa R.mem ac) R.mem (i64s (ackL R))) (hap : ∀ a, aa = some a → a.block ≠ p) (hok : 1 ≤ R.mem ∧ R.mem ≤ 3 ∧ R.log.length ≤ 1000) (hs : St (ids L0) w0 w0 L0) :
    Ret Try.prog 56 [.pointer (some ⟨p, 0, none⟩)].toArray w0 fun r w' => ∃ L', St (ids L0) w0 w' L' ∧ L' = [(p, Blk 106 (fcells (R.atN (R.best R.log.length)) (.slice la R.log.length lc) vd vt (.slice aa R.mem ac)))] ∧ r = .bool (R.best R.log.length).isSome := by
  obtain ⟨gb, go, rfl, hcl⟩ := hA.addr (by simp [ackL_length]; omega)
  have hgp : gb ≠ p := hap _ rfl
  have hgB : gb < w0.heap.size := World.block_lt_of_cell? w0 _ (hcl 0 _ (by rw [i64s, List.getElem?_map, ackL_at (by omega)]; rfl))
  subst hL
  replace hs : St [p] w0 w0 [(p, Blk 106 (fcells R (.slice la R.log.length lc) vd vt (.slice (some ⟨gb, go, none⟩) R.mem ac)))] := hs
  show Ret _ _ _ _ fun r w' => ∃ L', St [p] w0 w' L' ∧ _
  unfold fcells at hs
  refine Ret_startL hs fun w hs => ?_
  refine Ret_of Try.func56 rfl Try.ntmps56 rfl ?_
  refine W_seq ?_
  refine W_region ?_
  refine s_assign rfl rfl ?_
  refine WL_nil ?_
  refine n_then ?_
  refine W_seq ?_
  refine W_seq ?_
  refine W_region ?_
  refine s_move rfl rfl ?_
  refine s_nilCheck rfl rfl ?_
  refine s_fieldAddr rfl rfl (FA106_4 _ _) ?_
  first
    | refine s_load Try.isAgg69 rfl rfl (hs.cell (k := 0) rfl rfl) ?_
    | refine s_load Try.isAgg69 rfl rfl (hs.cell (k := 1) rfl rfl) ?_
  refine s_len rfl rfl (LN69 _ _ _ _) ?_
  refine s_assign rfl rfl ?_
  refine WL_nil ?_
  refine n_then ?_
  refine W_block ?_
  refine W_loop (σ := Nat) (fun n => [(0, .pointer (some ⟨p, 0, none⟩)), (3, .int .i64 (n : Int))])
    (fun n w => St [p] w0 w [(p, Blk 106 (fcells R (.slice la R.log.length lc) vd vt (.slice (some ⟨gb, go, none⟩) R.mem ac)))] ∧ n ≤ R.log.length ∧ R.best R.log.length = R.best n) (fun n => n) R.log.length ⟨rfl, rfl, trivial⟩ ⟨hs, Nat.le_refl _, rfl⟩ ?_
  clear hs
  rintro n w ⟨hs, hn, hb⟩
  unfold fcells at hs
  refine W_seq ?_
  refine W_seq ?_
  refine W_region ?_
  refine s_move rfl rfl ?_
  refine s_move rfl rfl ?_
  refine s_nilCheck rfl rfl ?_
  refine s_fieldAddr rfl rfl (FA106_5 _ _) ?_
  first
    | refine s_load Try.isAgg3 rfl rfl (hs.cell (k := 0) rfl rfl) ?_
    | refine s_load Try.isAgg3 rfl rfl (hs.cell (k := 1) rfl rfl) ?_
  refine s_gtr rfl rfl rfl ?_
  refine WL_nil ?_
  refine n_then ?_
  refine W_cond rfl (fun hc16 => ?_) (fun hc16 => ?_)
  · skip
    try simp only [decide_eq_true_eq, decide_eq_false_iff_not, bne_iff_ne, ne_eq, bne_eq_false_iff_eq, beq_iff_eq, beq_eq_false_iff_ne, gt_iff_lt, ge_iff_le, Bool.not_eq_true', Bool.not_eq_false', Int.natCast_inj] at hc16
    have hnA : R.n < n := by omega
    have hbn : R.best n = if R.mem < 2 * (1 + R.cnt n) then some n else R.best (n - 1) := by
      obtain ⟨k, rfl⟩ : ∃ k, n = k + 1 := ⟨n - 1, by omega⟩
      rw [Rp.best, if_pos hnA]; rfl
    have hcm : R.cnt n = cntI R n R.mem := rfl
    refine W_skip ?_
    refine n_then ?_
    refine W_seq ?_
    refine W_block ?_
    refine W_seq ?_
    refine W_region ?_
    refine s_assign rfl rfl ?_
    refine WL_nil ?_
    refine n_then ?_
    refine W_seq ?_
    refine W_seq ?_
    refine W_region ?_
    refine s_assign rfl rfl ?_
    refine WL_nil ?_
    refine n_then ?_
    refine W_block ?_
    refine W_loop (σ := CiS) (fun s => [(0, .pointer (some ⟨p, 0, none⟩)), (3, .int .i64 (n : Int)), (4, .int .i64 (s.c : Int)), (5, .int .i64 (s.i : Int))])
      (fun s w => St [p] w0 w [(p, Blk 106 (fcells R (.slice la R.log.length lc) vd vt (.slice (some ⟨gb, go, none⟩) R.mem ac)))] ∧ s.c = 1 + cntI R n s.i ∧ s.i ≤ R.mem) (fun s => R.mem - s.i) ⟨0, 1⟩ ⟨rfl, rfl, rfl, rfl, trivial⟩ ⟨hs, rfl, Nat.zero_le _⟩ ?_
    clear hs
    rintro ⟨i, c⟩ w ⟨hs, hc, hi⟩
    simp only at hs hc hi ⊢
    unfold fcells at hs
    have hcle := cntI_le R n i
    refine W_seq ?_
    refine W_seq ?_
    refine W_region ?_
    refine s_move rfl rfl ?_
    refine s_move rfl rfl ?_
    refine s_nilCheck rfl rfl ?_
    refine s_fieldAddr rfl rfl (FA106_1 _ _) ?_
    first
      | refine s_load Try.isAgg3 rfl rfl (hs.cell (k := 0) rfl rfl) ?_
      | refine s_load Try.isAgg3 rfl rfl (hs.cell (k := 1) rfl rfl) ?_
    refine s_lss rfl rfl rfl ?_
    refine WL_nil ?_
    refine n_then ?_
    refine W_cond rfl (fun hc24 => ?_) (fun hc24 => ?_)
    · skip
      try simp only [decide_eq_true_eq, decide_eq_false_iff_not, bne_iff_ne, ne_eq, bne_eq_false_iff_eq, beq_iff_eq, beq_eq_false_iff_ne, gt_iff_lt, ge_iff_le, Bool.not_eq_true', Bool.not_eq_false', Int.natCast_inj] at hc24
      have hil : i < R.mem := by omega
      have hcs := cntI_succ R n i
      refine W_skip ?_
      refine n_then ?_
      refine W_seq ?_
      refine W_block ?_
      refine W_seq ?_
      refine W_region ?_
      refine s_move rfl rfl ?_
      refine s_move rfl rfl ?_
      refine s_nilCheck rfl rfl ?_
      refine s_fieldAddr rfl rfl (FA106_0 _ _) ?_
      first
        | refine s_load Try.isAgg3 rfl rfl (hs.cell (k := 0) rfl rfl) ?_
        | refine s_load Try.isAgg3 rfl rfl (hs.cell (k := 1) rfl rfl) ?_
      refine s_neq rfl rfl rfl ?_
      refine s_move rfl rfl ?_
      refine WL_case (s := 33) rfl (fun hg33 => ?_) (fun hg33 => ?_)
      · skip
        try simp only [decide_eq_true_eq, decide_eq_false_iff_not, bne_iff_ne, ne_eq, bne_eq_false_iff_eq, beq_iff_eq, beq_eq_false_iff_ne, gt_iff_lt, ge_iff_le, Bool.not_eq_true', Bool.not_eq_false', Int.natCast_inj] at hg33
        refine WL_take rfl ?_
        refine s_move rfl rfl ?_
        refine WL_take rfl ?_
        refine s_nilCheck rfl rfl ?_
        refine WL_take rfl ?_
        refine s_fieldAddr rfl rfl (FA106_9 _ _) ?_
        refine WL_take rfl ?_
        first
          | refine s_load Try.isAgg58 rfl rfl (hs.cell (k := 0) rfl rfl) ?_
          | refine s_load Try.isAgg58 rfl rfl (hs.cell (k := 1) rfl rfl) ?_
        refine WL_take rfl ?_
        refine s_move rfl rfl ?_
        refine WL_take rfl ?_
        (refine s_indexAddr1 El58 rfl rfl rfl ?hx ?_; case hx => (constructor <;> first | omega | (simp; omega)))
        refine WL_take rfl ?_
        refine s_load Try.isAgg3 rfl rfl ((hs.oldcell (a := ⟨gb, go + i, none⟩) hgB (by simpa using hgp)).trans (hcl i _ (by rw [i64s, List.getElem?_map, ackL_at hil]; rfl))) ?_
        refine WL_take rfl ?_
        refine s_move rfl rfl ?_
        refine WL_take rfl ?_
        refine s_geq rfl rfl rfl ?_
        refine s_pick_t rfl rfl rfl ?_
        refine WL_nil ?_
        refine n_then ?_
        refine W_cond rfl (fun hc43 => ?_) (fun hc43 => ?_)
        · skip
          try simp only [decide_eq_true_eq, decide_eq_false_iff_not, bne_iff_ne, ne_eq, bne_eq_false_iff_eq, beq_iff_eq, beq_eq_false_iff_ne, gt_iff_lt, ge_iff_le, Bool.not_eq_true', Bool.not_eq_false', Int.natCast_inj] at hc43
          refine W_region ?_
          refine s_move rfl rfl ?_
          first | (refine s_add' rfl rfl rfl ?hx ?_; case hx => (constructor <;> first | omega | (simp only; omega))) | refine s_add rfl rfl rfl ?_
          refine s_assign rfl rfl ?_
          refine WL_nil ?_
          refine n_blk ?_
          refine n_then ?_
          refine W_region ?_
          refine s_move rfl rfl ?_
          first | (refine s_add' rfl rfl rfl ?hx ?_; case hx => (constructor <;> first | omega | (simp only; omega))) | refine s_add rfl rfl rfl ?_
          refine s_assign rfl rfl ?_
          refine WL_nil ?_
          refine n_loop ?_
          first
            | exact ⟨⟨i + 1, c + 1⟩, ⟨rfl, rfl, rfl, rfl, trivial⟩, ⟨hs, by simp only; rw [hcs, if_pos (by omega)]; omega, by simp only; omega⟩, by simp only; omega⟩
            | exact ⟨⟨i + 1, c⟩, ⟨rfl, rfl, rfl, rfl, trivial⟩, ⟨hs, by simp only; rw [hcs, if_neg (by omega)]; omega, by simp only; omega⟩, by simp only; omega⟩
        · skip
          try simp only [decide_eq_true_eq, decide_eq_false_iff_not, bne_iff_ne, ne_eq, bne_eq_false_iff_eq, beq_iff_eq, beq_eq_false_iff_ne, gt_iff_lt, ge_iff_le, Bool.not_eq_true', Bool.not_eq_false', Int.natCast_inj] at hc43
          refine W_skip ?_
          refine n_blk ?_
          refine n_then ?_
          refine W_region ?_
          refine s_move rfl rfl ?_
          first | (refine s_add' rfl rfl rfl ?hx ?_; case hx => (constructor <;> first | omega | (simp only; omega))) | refine s_add rfl rfl rfl ?_
          refine s_assign rfl rfl ?_
          refine WL_nil ?_
          refine n_loop ?_
          first
            | exact ⟨⟨i + 1, c + 1⟩, ⟨rfl, rfl, rfl, rfl, trivial⟩, ⟨hs, by simp only; rw [hcs, if_pos (by omega)]; omega, by simp only; omega⟩, by simp only; omega⟩
            | exact ⟨⟨i + 1, c⟩, ⟨rfl, rfl, rfl, rfl, trivial⟩, ⟨hs, by simp only; rw [hcs, if_neg (by omega)]; omega, by simp only; omega⟩, by simp only; omega⟩
      · skip
        try simp only [decide_eq_true_eq, decide_eq_false_iff_not, bne_iff_ne, ne_eq, bne_eq_false_iff_eq, beq_iff_eq, beq_eq_false_iff_ne, gt_iff_lt, ge_iff_le, Bool.not_eq_true', Bool.not_eq_false', Int.natCast_inj] at hg33
        refine WL_skip rfl rfl rfl ?_
        refine WL_skip rfl rfl rfl ?_
        refine WL_skip rfl rfl rfl ?_
        refine WL_skip rfl rfl rfl ?_
        refine WL_skip rfl rfl rfl ?_
        refine WL_skip rfl rfl rfl ?_
        refine WL_skip rfl rfl rfl ?_
        refine WL_skip rfl rfl rfl ?_
        refine WL_skip rfl rfl rfl ?_
        refine s_pick_f rfl rfl rfl ?_
        refine WL_nil ?_
        refine n_then ?_
        refine W_cond_f rfl ?_
        refine W_skip ?_
        refine n_blk ?_
        refine n_then ?_
        refine W_region ?_
        refine s_move rfl rfl ?_
        first | (refine s_add' rfl rfl rfl ?hx ?_; case hx => (constructor <;> first | omega | (simp only; omega))) | refine s_add rfl rfl rfl ?_
        refine s_assign rfl rfl ?_
        refine WL_nil ?_
        refine n_loop ?_
        first
          | exact ⟨⟨i + 1, c + 1⟩, ⟨rfl, rfl, rfl, rfl, trivial⟩, ⟨hs, by simp only; rw [hcs, if_pos (by omega)]; omega, by simp only; omega⟩, by simp only; omega⟩
          | exact ⟨⟨i + 1, c⟩, ⟨rfl, rfl, rfl, rfl, trivial⟩, ⟨hs, by simp only; rw [hcs, if_neg (by omega)]; omega, by simp only; omega⟩, by simp only; omega⟩
    · skip
      try simp only [decide_eq_true_eq, decide_eq_false_iff_not, bne_iff_ne, ne_eq, bne_eq_false_iff_eq, beq_iff_eq, beq_eq_false_iff_ne, gt_iff_lt, ge_iff_le, Bool.not_eq_true', Bool.not_eq_false', Int.natCast_inj] at hc24
      obtain rfl : i = R.mem := by omega
      refine W_exit ?_
      refine x_then ?_
      refine x_then ?_
      refine exit_hit ?_
      refine n_then ?_
      refine W_seq ?_
      refine W_region ?_
      refine s_move rfl rfl ?_
      first | (refine s_mul' rfl rfl rfl ?hx ?_; case hx => (constructor <;> first | omega | (simp only; omega))) | refine s_mul rfl rfl rfl ?_
      refine s_move rfl rfl ?_
      refine s_nilCheck rfl rfl ?_
      refine s_fieldAddr rfl rfl (FA106_1 _ _) ?_
      first
        | refine s_load Try.isAgg3 rfl rfl (hs.cell (k := 0) rfl rfl) ?_
        | refine s_load Try.isAgg3 rfl rfl (hs.cell (k := 1) rfl rfl) ?_
      refine s_gtr rfl rfl rfl ?_
      refine WL_nil ?_
      refine n_then ?_
      refine W_cond rfl (fun hc52 => ?_) (fun hc52 => ?_)
      · skip
        try simp only [decide_eq_true_eq, decide_eq_false_iff_not, bne_iff_ne, ne_eq, bne_eq_false_iff_eq, beq_iff_eq, beq_eq_false_iff_ne, gt_iff_lt, ge_iff_le, Bool.not_eq_true', Bool.not_eq_false', Int.natCast_inj] at hc52
        refine W_seq ?_
        refine W_region ?_
        refine s_move rfl rfl ?_
        refine s_move rfl rfl ?_
        refine s_nilCheck rfl rfl ?_
        refine s_fieldAddr rfl rfl (FA106_5 _ _) ?_
        first
          | refine s_storeB Try.sizeOf3 rfl rfl rfl hs (kk := 0) rfl rfl ?_
          | refine s_storeB Try.sizeOf3 rfl rfl rfl hs (kk := 1) rfl rfl ?_
        clear hs; intro w hs; try simp only [List.set_cons_zero, List.set_cons_succ, splice, List.take_succ_cons, List.take_zero, List.drop_succ_cons, List.drop_zero, List.nil_append, List.cons_append, List.length_cons, List.length_nil, Nat.reduceAdd, List.append_assoc] at hs
        refine WL_nil ?_
        refine n_then ?_
        refine W_seq ?_
        refine W_region ?_
        refine s_assign rfl rfl ?_
        refine WL_nil ?_
        refine n_then ?_
        refine W_ret ?_
        refine r_blk ?_
        refine r_then ?_
        refine r_then ?_
        refine r_blk ?_
        refine r_then ?_
        first
          | (rw [if_pos (by omega)] at hbn
             rw [hb, hbn]
             exact end1 rfl rfl ⟨_, hs, rfl, rfl⟩)
          | (rw [hb, Rp.best_stop (by omega)]
             exact end1 rfl rfl ⟨_, hs, rfl, rfl⟩)
      · skip
        try simp only [decide_eq_true_eq, decide_eq_false_iff_not, bne_iff_ne, ne_eq, bne_eq_false_iff_eq, beq_iff_eq, beq_eq_false_iff_ne, gt_iff_lt, ge_iff_le, Bool.not_eq_true', Bool.not_eq_false', Int.natCast_inj] at hc52
        refine W_skip ?_
        refine n_blk ?_
        refine n_then ?_
        refine W_region ?_
        refine s_move rfl rfl ?_
        first | (refine s_sub' rfl rfl rfl ?hx ?_; case hx => (constructor <;> first | omega | (simp only; omega))) | refine s_sub rfl rfl rfl ?_
        refine s_assign rfl rfl ?_
        refine WL_nil ?_
        refine n_loop ?_
        rw [if_neg (by omega)] at hbn
        refine ⟨n - 1, ⟨rfl, (by show some (Value.int .i64 ((n : Int) - 1)) = some (.int .i64 ((n - 1 : Nat) : Int)); rw [show ((n - 1 : Nat) : Int) = (n : Int) - 1 from by omega]), trivial⟩, ⟨hs, by omega, by rw [hb, hbn]⟩, by omega⟩
  · skip
    try simp only [decide_eq_true_eq, decide_eq_false_iff_not, bne_iff_ne, ne_eq, bne_eq_false_iff_eq, beq_iff_eq, beq_eq_false_iff_ne, gt_iff_lt, ge_iff_le, Bool.not_eq_true', Bool.not_eq_false', Int.natCast_inj] at hc16
    refine W_exit ?_
    refine x_then ?_
    refine x_then ?_
    refine exit_hit ?_
    refine n_then ?_
    refine W_seq ?_
    refine W_region ?_
    refine s_assign rfl rfl ?_
    refine WL_nil ?_
    refine n_then ?_
    refine W_ret ?_
    first
      | (rw [if_pos (by omega)] at hbn
         rw [hb, hbn]
         exact end1 rfl rfl ⟨_, hs, rfl, rfl⟩)
      | (rw [hb, Rp.best_stop (by omega)]
         exact end1 rfl rfl ⟨_, hs, rfl, rfl⟩)
set_option maxHeartbeats 2000000 in
theorem raise_ok (p : Nat) (R : Rp) (lv vd vt av : Value) (t : Nat) (L0 : Hp) (w0 : World) (hL : L0 = [(p, Blk 106 (fcells R lv vd vt av))]) (hok : 1 ≤ R.mem ∧ R.mem ≤ 3) (hs : St (ids L0) w0 w0 L0) :
    Ret Try.prog 52 [.pointer (some ⟨p, 0, none⟩), .int .i64 (t : Int)].toArray w0 fun _ w' => ∃ L', St (ids L0) w0 w' L' ∧ ((R.term < t ∧ ∃ bv, L' = [(p, Blk 106 (fcells (R.follow t) lv (.slice (some ⟨bv, 0, none⟩) R.mem R.mem) (.slice none 0 0) av)), (bv, Blk 4 (List.replicate R.mem (.bool false)))]) ∨ (¬ R.term < t ∧ L' = L0)) := by
  subst hL
  replace hs : St [p] w0 w0 [(p, Blk 106 (fcells R lv vd vt av))] := hs
  show Ret _ _ _ _ fun r w' => ∃ L', St [p] w0 w' L' ∧ _
  unfold fcells at hs
  refine Ret_startL hs fun w hs => ?_
  refine Ret_of Try.func52 rfl Try.ntmps52 rfl ?_
  refine W_seq ?_
  refine W_region ?_
  refine s_move rfl rfl ?_
  refine s_move rfl rfl ?_
  refine s_nilCheck rfl rfl ?_
  refine s_fieldAddr rfl rfl (FA106_2 _ _) ?_
  first
    | refine s_load Try.isAgg3 rfl rfl (hs.cell (k := 0) rfl rfl) ?_
    | refine s_load Try.isAgg3 rfl rfl (hs.cell (k := 1) rfl rfl) ?_
  refine s_gtr rfl rfl rfl ?_
  refine WL_nil ?_
  refine n_then ?_
  refine W_cond rfl (fun hc9 => ?_) (fun hc9 => ?_)
  · skip
    try simp only [decide_eq_true_eq, decide_eq_false_iff_not, gt_iff_lt] at hc9
    refine W_seq ?_
    refine W_region ?_
    refine s_move rfl rfl ?_
    refine s_move rfl rfl ?_
    refine s_nilCheck rfl rfl ?_
    refine s_fieldAddr rfl rfl (FA106_2 _ _) ?_
    first
      | refine s_storeB Try.sizeOf3 rfl rfl rfl hs (kk := 0) rfl rfl ?_
      | refine s_storeB Try.sizeOf3 rfl rfl rfl hs (kk := 1) rfl rfl ?_
    clear hs; intro w hs; try simp only [List.set_cons_zero, List.set_cons_succ, splice, List.take_succ_cons, List.take_zero, List.drop_succ_cons, List.drop_zero, List.nil_append, List.cons_append, List.length_cons, List.length_nil, Nat.reduceAdd, List.append_assoc] at hs
    refine WL_nil ?_
    refine n_then ?_
    refine W_seq ?_
    refine W_region ?_
    refine s_move rfl rfl ?_
    refine s_nilCheck rfl rfl ?_
    refine s_fieldAddr rfl rfl (FA106_6 _ _) ?_
    first
      | refine s_storeB Try.sizeOf3 rfl rfl rfl hs (kk := 0) rfl rfl ?_
      | refine s_storeB Try.sizeOf3 rfl rfl rfl hs (kk := 1) rfl rfl ?_
    clear hs; intro w hs; try simp only [List.set_cons_zero, List.set_cons_succ, splice, List.take_succ_cons, List.take_zero, List.drop_succ_cons, List.drop_zero, List.nil_append, List.cons_append, List.length_cons, List.length_nil, Nat.reduceAdd, List.append_assoc] at hs
    refine WL_nil ?_
    refine n_then ?_
    refine W_seq ?_
    refine W_region ?_
    refine s_move rfl rfl ?_
    refine s_nilCheck rfl rfl ?_
    refine s_fieldAddr rfl rfl (FA106_8 _ _) ?_
    first
      | refine s_storeB Try.sizeOf65 rfl rfl rfl hs (kk := 0) rfl rfl ?_
      | refine s_storeB Try.sizeOf65 rfl rfl rfl hs (kk := 1) rfl rfl ?_
    clear hs; intro w hs; try simp only [List.set_cons_zero, List.set_cons_succ, splice, List.take_succ_cons, List.take_zero, List.drop_succ_cons, List.drop_zero, List.nil_append, List.cons_append, List.length_cons, List.length_nil, Nat.reduceAdd, List.append_assoc] at hs
    refine WL_nil ?_
    refine n_then ?_
    refine W_region ?_
    refine s_move rfl rfl ?_
    refine s_move rfl rfl ?_
    refine s_nilCheck rfl rfl ?_
    refine s_fieldAddr rfl rfl (FA106_1 _ _) ?_
    first
      | refine s_load Try.isAgg3 rfl rfl (hs.cell (k := 0) rfl rfl) ?_
      | refine s_load Try.isAgg3 rfl rfl (hs.cell (k := 1) rfl rfl) ?_
    refine s_makeSlice El104 rfl rfl rfl ?hx hs ?_
    case hx => (refine ⟨?_, ?_, ?_, ?_⟩ <;> omega)
    clear hs; intro b25 w hs
    refine s_nilCheck rfl rfl ?_
    refine s_fieldAddr rfl rfl (FA106_7 _ _) ?_
    first
      | refine s_storeB Try.sizeOf104 rfl rfl rfl hs (kk := 0) rfl rfl ?_
      | refine s_storeB Try.sizeOf104 rfl rfl rfl hs (kk := 1) rfl rfl ?_
    clear hs; intro w hs; try simp only [List.set_cons_zero, List.set_cons_succ, splice, List.take_succ_cons, List.take_zero, List.drop_succ_cons, List.drop_zero, List.nil_append, List.cons_append, List.length_cons, List.length_nil, Nat.reduceAdd, List.append_assoc] at hs
    refine WL_nil ?_
    first
      | exact end0' rfl ⟨_, hs, .inr ⟨by omega, rfl⟩⟩
      | (have hf : R.follow t = { R with term := t, role := 0 } := by rw [Rp.follow, if_pos (by omega)]
         refine end0' rfl ⟨_, hs.swap (A := [_]), .inl ⟨by omega, b25, ?_⟩⟩
         rw [hf, made_one]
         rfl)
  · skip
    try simp only [decide_eq_true_eq, decide_eq_false_iff_not, gt_iff_lt] at hc9
    refine W_skip ?_
    first
      | exact end0' rfl ⟨_, hs, .inr ⟨by omega, rfl⟩⟩
      | (have hf : R.follow t = { R with term := t, role := 0 } := by rw [Rp.follow, if_pos (by omega)]
         refine end0' rfl ⟨_, hs.swap (A := [_]), .inl ⟨by omega, b25, ?_⟩⟩
         rw [hf, made_one]
         rfl)
end Go.Proofs.Ytkobigdfijeajaa

/- The reference's replicas: leads. -/
namespace Go.Proofs.Ytkobigdfijeajaa
open Go.SL
/-- what the votes make of a replica -/
def Rp.heardO (B : Rp) : Option Mg → Rp
  | none => B
  | some m => B.heard m
theorem lead_H (R : Rp) (om : Option Mg) : R.lead om = (Rp.heardO { R with role := 2 } om).crown := by
  cases om with
  | none => rfl
  | some m => 
    show (R.heard m).crown = (Rp.heard { R with role := 2 } m).crown
    have ht : ({ R with role := 2 } : Rp).takes m.lterm m.log ↔ R.takes m.lterm m.log := Iff.rfl
    unfold Rp.heard Rp.adopt
    by_cases h : R.takes m.lterm m.log
    · rw [if_pos h, if_pos (ht.2 h)]; rfl
    · rw [if_neg h, if_neg (fun h2 => h (ht.1 h2))]; rfl
theorem cnt_zero {C : Rp} (h : ∀ j, C.acks j = 0) (n : Nat) : C.cnt (n + 1) = 0 := by
  rw [Rp.cnt, List.length_eq_zero_iff, List.filter_eq_nil_iff]
  intro j _
  simp [h j]
theorem best_zero {C : Rp} (h : ∀ j, C.acks j = 0) (hm : 2 ≤ C.mem) : ∀ k, C.best k = none
  | 0 => rfl
  | k + 1 => by
    rw [Rp.best]
    split
    · rw [cnt_zero h, if_neg (by omega)]; exact best_zero h hm k
    · rfl
theorem crown_best (H : Rp) (hr : H.role = 2) (hn : H.n ≤ H.log.length) (h1 : 1 ≤ H.mem) : ({ H with lterm := H.term, acks := fun _ => 0 } : Rp).atN (({ H with lterm := H.term, acks := fun _ => 0 } : Rp).best H.log.length) = H.crown := by
  have hz : ∀ j, ({ H with lterm := H.term, acks := fun _ => 0 } : Rp).acks j = 0 := fun _ => rfl
  have hm : ({ H with lterm := H.term, acks := fun _ => 0 } : Rp).mem = H.mem := rfl
  have hcr : H.crown = { H with lterm := H.term, acks := fun _ => 0, n := if H.mem < 2 then H.log.length else min H.n H.log.length } := by
    rw [Rp.crown]; cases H; simp only at hr; subst hr; rfl
  rw [hcr]
  by_cases h2 : H.mem < 2
  · rw [if_pos h2]
    cases hk : H.log.length with
    | zero =>
      have : H.n = 0 := by omega
      show ({ H with lterm := H.term, acks := fun _ => 0 } : Rp) = _
      cases H; simp only at this; subst this; rfl
    | succ k =>
      rw [Rp.best]
      by_cases h3 : H.n < k + 1
      · rw [if_pos h3, if_pos (by rw [hm]; omega)]; rfl
      · have : H.n = k + 1 := by omega
        rw [if_neg h3]
        show ({ H with lterm := H.term, acks := fun _ => 0 } : Rp) = _
        cases H; simp only at this; subst this; rfl
  · rw [best_zero hz (by rw [hm]; omega), if_neg h2, Nat.min_eq_left hn]; rfl
structure FdS where
  i : Nat
  R : Rp
  la : Option Addr
  lc : Nat
set_option maxHeartbeats 4000000 in
theorem leads_ok (p : Nat) (R : Rp) (la : Option Addr) (lc : Nat) (vd : Value) (va : Option Addr) (vc : Nat) (av : Value) (o : Option Dm) (L0 LP : Hp) (w0 : World) (hL : L0 = [(p, Blk 106 (fcells R (.slice la R.log.length lc) vd (.slice va o.toList.length vc) av))])
    (hlg : LgIn (.slice la R.log.length lc) R.log LP) (hds : ∀ d, o = some d → LgIn d.v d.s.m.log LP) (hvt : Sl w0 (.slice va o.toList.length vc) o.toList.length (dcells o.toList)) (hvp : ∀ a, va = some a → a.block ≠ p)
    (hgo : R.mem < 2 * (1 + o.toList.length)) (hok : 1 ≤ R.mem ∧ R.mem ≤ 3 ∧ R.log.length ≤ 1000) (hol : ∀ d, o = some d → d.s.m.log.length ≤ 1000 ∧ d.s.m.fn = d.s.m.n)
    (hH : ∀ H, H = Rp.heardO { R with role := 2 } (o.map fun d => d.s.m) → H.n ≤ H.log.length) (hP : ∀ q ∈ LP, w0.heap[q.1]? = some q.2) (hPp : ∀ q ∈ LP, q.1 ≠ p) (hs : St (ids L0) w0 w0 L0) :
    Ret Try.prog 54 [.pointer (some ⟨p, 0, none⟩)].toArray w0 fun r w' => ∃ L', St (ids L0) w0 w' L' ∧ ∃ la' lc' ba Lr, L' = (p, Blk 106 (fcells (R.lead (o.map fun d => d.s.m)) (.slice la' (R.lead (o.map fun d => d.s.m)).log.length lc') vd (.slice va o.toList.length vc) (.slice (some ⟨ba, 0, none⟩) R.mem R.mem))) :: (ba, Blk 3 (i64s (ackL (R.lead (o.map fun d => d.s.m))))) :: Lr ∧
      LgIn (.slice la' (R.lead (o.map fun d => d.s.m)).log.length lc') (R.lead (o.map fun d => d.s.m)).log LP ∧ MdAt r ((R.lead (o.map fun d => d.s.m)).others (R.lead (o.map fun d => d.s.m)).spreadM) Lr LP := by
  have hll : o.toList.length ≤ 1 := by cases o <;> simp
  rw [lead_H]
  obtain ⟨B, hB⟩ : ∃ B : Rp, B = { R with role := 2 } := ⟨_, rfl⟩
  have hBs : B.mem = R.mem ∧ B.id = R.id ∧ B.term = R.term ∧ B.lterm = R.lterm ∧ B.log = R.log ∧ B.n = R.n ∧ B.role = 2 := by rw [hB]; exact ⟨rfl, rfl, rfl, rfl, rfl, rfl, rfl⟩
  obtain ⟨e1, e2, e3, e4, e5, e6, e7⟩ := hBs
  rw [← hB] at hH ⊢
  subst hL
  replace hs : St [p] w0 w0 [(p, Blk 106 (fcells R (.slice la R.log.length lc) vd (.slice va o.toList.length vc) av))] := hs
  show Ret _ _ _ _ fun r w' => ∃ L', St [p] w0 w' L' ∧ _
  unfold fcells at hs
  rw [← e1, ← e2, ← e3, ← e4, ← e5, ← e6] at hs
  rw [← e5] at hlg
  rw [← e1] at hgo ⊢
  rw [← e1, ← e5] at hok
  clear e1 e2 e3 e4 e5 e6 hB
  refine Ret_startL hs fun w hs9 => ?_
  clear hs
  have hs := hs9
  clear hs9
  refine Ret_of Try.func54 rfl Try.ntmps54 rfl ?_
  refine W_seq ?_
  refine W_region ?_
  refine s_assign rfl rfl ?_
  refine WL_nil ?_
  refine n_then ?_
  refine W_seq ?_
  refine W_seq ?_
  refine W_draw [(0, true, []), (1, true, []), (2, true, []), (3, true, []), (4, true, []), (5, true, []), (6, true, []), (7, true, []), (8, true, []), (9, true, []), (10, true, []), (11, true, [])] [[], [0], [0, 1], [0, 1, 2], [0, 1, 2, 3], [0, 1, 2, 3, 4], [0, 1, 2, 3, 4, 5], [], [7], [7, 8], [7, 8, 9], [0, 1, 2, 3, 4, 5, 6, 7, 8, 9, 10]] MX (by kernel_rfl) ?_
  intro w1 hw1 hw2 hw3 hw4; replace hs := hs.redrawn hw1 hw2 hw3 hw4; clear hw1 hw2 hw3 hw4
  obtain ⟨w, rfl⟩ : ∃ w : World, w = w1 := ⟨_, rfl⟩
  refine D_q rfl rfl ?_
  refine s_move rfl rfl ?_
  refine D_qn ?_
  refine D_q rfl rfl ?_
  refine s_nilCheck rfl rfl ?_
  refine D_qn ?_
  refine D_q rfl rfl ?_
  refine s_fieldAddr rfl rfl (FA106_8 _ _) ?_
  refine D_qn ?_
  refine D_q rfl rfl ?_
  first
    | refine s_load Try.isAgg65 rfl rfl (hs.cell (k := 0) rfl rfl) ?_
    | refine s_load Try.isAgg65 rfl rfl (hs.cell (k := 1) rfl rfl) ?_
    | refine s_load Try.isAgg65 rfl rfl (hs.cell (k := 2) rfl rfl) ?_
  refine D_qn ?_
  refine D_q rfl rfl ?_
  refine s_len rfl rfl (LN65 _ _ _ _) ?_
  refine D_qn ?_
  refine D_q rfl rfl ?_
  first | (refine s_add' rfl rfl rfl ?hx ?_; case hx => (constructor <;> first | omega | (simp only; omega))) | refine s_add rfl rfl rfl ?_
  refine D_qn ?_
  refine D_q rfl rfl ?_
  first | (refine s_mul' rfl rfl rfl ?hx ?_; case hx => (constructor <;> first | omega | (simp only; omega))) | refine s_mul rfl rfl rfl ?_
  refine D_qn ?_
  refine D_q rfl rfl ?_
  refine s_move rfl rfl ?_
  refine D_qn ?_
  refine D_q rfl rfl ?_
  refine s_nilCheck rfl rfl ?_
  refine D_qn ?_
  refine D_q rfl rfl ?_
  refine s_fieldAddr rfl rfl (FA106_1 _ _) ?_
  refine D_qn ?_
  refine D_q rfl rfl ?_
  first
    | refine s_load Try.isAgg3 rfl rfl (hs.cell (k := 0) rfl rfl) ?_
    | refine s_load Try.isAgg3 rfl rfl (hs.cell (k := 1) rfl rfl) ?_
    | refine s_load Try.isAgg3 rfl rfl (hs.cell (k := 2) rfl rfl) ?_
  refine D_qn ?_
  refine D_q rfl rfl ?_
  refine s_leq rfl rfl rfl ?_
  refine D_qn ?_
  refine D_nil ?_
  refine n_then ?_
  refine W_cond_kf rfl ((by simp; omega)) ?_
  refine W_skip ?_
  refine n_then ?_
  refine W_seq ?_
  refine W_region ?_
  refine s_move rfl rfl ?_
  refine s_nilCheck rfl rfl ?_
  refine s_fieldAddr rfl rfl (FA106_6 _ _) ?_
  first
    | refine s_storeB Try.sizeOf3 rfl rfl rfl hs (kk := 0) rfl rfl ?_
    | refine s_storeB Try.sizeOf3 rfl rfl rfl hs (kk := 1) rfl rfl ?_
    | refine s_storeB Try.sizeOf3 rfl rfl rfl hs (kk := 2) rfl rfl ?_
  clear hs; intro w hs; try simp only [List.set_cons_zero, List.set_cons_succ, splice, List.take_succ_cons, List.take_zero, List.drop_succ_cons, List.drop_zero, List.nil_append, List.cons_append, List.length_cons, List.length_nil, Nat.reduceAdd, List.append_assoc] at hs
  refine WL_nil ?_
  refine n_then ?_
  refine W_seq ?_
  refine W_seq ?_
  refine W_region ?_
  refine s_assign rfl rfl ?_
  refine WL_nil ?_
  refine n_then ?_
  refine W_block ?_
  rw [show (2 : Int) = ((B.role : Nat) : Int) from by rw [e7]; rfl] at hs
  refine W_loop (σ := FdS) (fun s => [(0, .pointer (some ⟨p, 0, none⟩)), (3, .int .i64 (s.i : Int))])
    (fun s w => St [p] w0 w [(p, Blk 106 (fcells s.R (.slice s.la s.R.log.length s.lc) vd (.slice va o.toList.length vc) av))] ∧ LgIn (.slice s.la s.R.log.length s.lc) s.R.log LP ∧ ((s.i = 0 ∧ s.R = B) ∨ (s.i = 1 ∧ ∃ d, o = some d ∧ s.R = B.heard d.s.m))) (fun s => 1 - s.i) ⟨0, B, la, lc⟩ ⟨rfl, rfl, trivial⟩ ⟨hs, hlg, .inl ⟨rfl, rfl⟩⟩ ?_
  clear hs hlg
  rintro ⟨i, H, la, lc⟩ w ⟨hs, hlg, hi⟩
  simp only at hs hlg hi ⊢
  unfold fcells at hs
  refine W_seq ?_
  refine W_seq ?_
  refine W_region ?_
  refine s_move rfl rfl ?_
  refine s_move rfl rfl ?_
  refine s_nilCheck rfl rfl ?_
  refine s_fieldAddr rfl rfl (FA106_8 _ _) ?_
  first
    | refine s_load Try.isAgg65 rfl rfl (hs.cell (k := 0) rfl rfl) ?_
    | refine s_load Try.isAgg65 rfl rfl (hs.cell (k := 1) rfl rfl) ?_
    | refine s_load Try.isAgg65 rfl rfl (hs.cell (k := 2) rfl rfl) ?_
  refine s_len rfl rfl (LN65 _ _ _ _) ?_
  refine s_lss rfl rfl rfl ?_
  refine WL_nil ?_
  refine n_then ?_
  refine W_cond rfl (fun hc26 => ?_) (fun hc26 => ?_)
  · skip
    try simp only [decide_eq_true_eq, decide_eq_false_iff_not, bne_iff_ne, ne_eq, bne_eq_false_iff_eq, beq_iff_eq, beq_eq_false_iff_ne, gt_iff_lt, ge_iff_le, Bool.not_eq_true', Bool.not_eq_false'] at hc26
    obtain ⟨d, hd, hi0, hHB⟩ : ∃ d, o = some d ∧ i = 0 ∧ H = B := by
      rcases hi with ⟨h1, h2⟩ | ⟨h1, d, h2, h3⟩
      · cases o with
        | none => exfalso; simp at hc26; omega
        | some d => exact ⟨d, rfl, h1, h2⟩
      · exfalso; omega
    subst hd hi0 hHB
    obtain ⟨dl, dc, hdv⟩ := (hds d rfl).form w0 hP
    obtain ⟨gb, go, rfl, hcl⟩ := hvt.addr (by show 0 < (dcells [d]).length; rw [dcells_length]; simp)
    have hgp : gb ≠ p := hvp _ rfl
    have hgB : gb < w0.heap.size := World.block_lt_of_cell? w0 _ (hcl 0 (.int .i64 (d.s.m.kind : Int)) rfl)
    have hnow : ∀ j u, j < 7 → d.cells[j]? = some u → w.cell? ⟨gb, go + 0 * 7 + j, none⟩ = some u := fun j u hj hu => by
      rw [show go + 0 * 7 + j = go + j from by omega]
      exact (hs.oldcell (a := ⟨gb, go + j, none⟩) hgB (by simpa using hgp)).trans (hcl j u (by show (dcells [d])[j]? = _; rw [show dcells [d] = d.cells from by simp [dcells]]; exact hu))
    obtain ⟨hd1, hfn⟩ := hol d rfl
    have hdg := hds d rfl
    rw [hdv] at hdg
    refine W_skip ?_
    refine n_then ?_
    refine W_seq ?_
    refine W_block ?_
    refine W_seq ?_
    refine W_region ?_
    refine s_move rfl rfl ?_
    refine s_nilCheck rfl rfl ?_
    refine s_fieldAddr rfl rfl (FA106_8 _ _) ?_
    first
      | refine s_load Try.isAgg65 rfl rfl (hs.cell (k := 0) rfl rfl) ?_
      | refine s_load Try.isAgg65 rfl rfl (hs.cell (k := 1) rfl rfl) ?_
      | refine s_load Try.isAgg65 rfl rfl (hs.cell (k := 2) rfl rfl) ?_
    refine s_move rfl rfl ?_
    (refine s_indexAddr El65 rfl rfl rfl ?hx ?_; case hx => (constructor <;> first | omega | (simp; omega)))
    refine s_load_7 Try.isAgg71 Try.sizeOf71 rfl rfl (hnow 0 _ (by omega) rfl) (hnow 1 _ (by omega) rfl) (hnow 2 _ (by omega) rfl) (hnow 3 _ (by omega) rfl) (hnow 4 _ (by omega) rfl) (hnow 5 _ (by omega) rfl) (hnow 6 _ (by omega) rfl) ?_
    rw [hdv]
    refine s_alloc rfl AL71 hs ?_; clear hs; intro b4 w hs
    first
      | refine s_storeW Try.sizeOf71 rfl rfl rfl rfl hs (kk := 0) rfl rfl ?_
      | refine s_storeW Try.sizeOf71 rfl rfl rfl rfl hs (kk := 1) rfl rfl ?_
      | refine s_storeW Try.sizeOf71 rfl rfl rfl rfl hs (kk := 2) rfl rfl ?_
      | refine s_storeAB Try.sizeOf71 rfl rfl rfl rfl hs (kk := 0) rfl rfl ?_
      | refine s_storeAB Try.sizeOf71 rfl rfl rfl rfl hs (kk := 1) rfl rfl ?_
      | refine s_storeAB Try.sizeOf71 rfl rfl rfl rfl hs (kk := 2) rfl rfl ?_
    clear hs; intro w hs; try simp only [List.set_cons_zero, List.set_cons_succ, splice, List.take_succ_cons, List.take_zero, List.drop_succ_cons, List.drop_zero, List.nil_append, List.cons_append, List.length_cons, List.length_nil, Nat.reduceAdd, List.append_assoc] at hs
    refine WL_nil ?_
    refine n_then ?_
    refine W_seq ?_
    refine W_seq ?_
    refine W_draw [(0, true, []), (1, true, []), (2, true, []), (3, true, []), (4, true, []), (5, true, []), (6, true, []), (7, true, []), (8, true, []), (9, true, []), (10, true, []), (11, true, []), (12, true, []), (13, true, []), (14, true, []), (15, true, []), (16, true, []), (17, true, []), (18, true, []), (19, true, []), (20, true, []), (21, true, []), (22, true, []), (23, true, []), (24, true, []), (25, true, []), (26, true, [])] [[], [0], [], [2], [2, 3], [2, 3, 4], [0, 1, 2, 3, 4, 5], [0, 1, 2, 3, 4, 5, 6], [0, 1, 2, 3, 4, 5, 6, 7], [0, 1, 2, 3, 4, 5, 6, 7, 8], [0, 1, 2, 3, 4, 5, 6, 7], [0, 1, 2, 3, 4, 5, 6, 7, 10], [0, 1, 2, 3, 4, 5, 6, 7, 10, 11], [0, 1, 2, 3, 4, 5, 6, 7, 10, 11, 12], [0, 1, 2, 3, 4, 5, 6, 7, 8, 9, 10, 11, 12, 13], [0, 1, 2, 3, 4, 5, 6, 7, 8, 9, 10, 11, 12, 13, 14], [0, 1, 2, 3, 4, 5, 6, 7, 8, 9, 10, 11, 12, 13, 14, 15], [0, 1, 2, 3, 4, 5, 6, 7, 8, 9, 10, 11, 12, 13, 14, 15, 16], [0, 1, 2, 3, 4, 5, 6, 7, 8, 9, 10, 11, 12, 13, 14, 15, 16, 17], [0, 1, 2, 3, 4, 5, 6, 7, 8, 9, 10, 11, 12, 13, 14, 15], [0, 1, 2, 3, 4, 5, 6, 7, 8, 9, 10, 11, 12, 13, 14, 15, 19], [0, 1, 2, 3, 4, 5, 6, 7, 8, 9, 10, 11, 12, 13, 14, 15, 19, 20], [0, 1, 2, 3, 4, 5, 6, 7, 8, 9, 10, 11, 12, 13, 14, 15, 19, 20, 21], [0, 1, 2, 3, 4, 5, 6, 7, 8, 9, 10, 11, 12, 13, 14, 15, 19, 20, 21, 22], [0, 1, 2, 3, 4, 5, 6, 7, 8, 9, 10, 11, 12, 13, 14, 15, 16, 17, 18, 19, 20, 21, 22, 23], [0, 1, 2, 3, 4, 5, 6, 7, 8, 9, 10, 11, 12, 13, 14, 15, 16, 17, 18, 19, 20, 21, 22, 23, 24], [0, 1, 2, 3, 4, 5, 6, 7, 8, 9, 10, 11, 12, 13, 14, 15, 16, 17, 18, 19, 20, 21, 22, 23, 24, 25]] MX (by kernel_rfl) ?_
    intro w1 hw1 hw2 hw3 hw4; replace hs := hs.redrawn hw1 hw2 hw3 hw4; clear hw1 hw2 hw3 hw4
    obtain ⟨w, rfl⟩ : ∃ w : World, w = w1 := ⟨_, rfl⟩
    refine D_q rfl rfl ?_
    refine s_fieldAddr rfl rfl (FA71_4 _ _) ?_
    refine D_qn ?_
    refine D_q rfl rfl ?_
    first
      | refine s_load Try.isAgg3 rfl rfl (hs.cell (k := 0) rfl rfl) ?_
      | refine s_load Try.isAgg3 rfl rfl (hs.cell (k := 1) rfl rfl) ?_
      | refine s_load Try.isAgg3 rfl rfl (hs.cell (k := 2) rfl rfl) ?_
    refine D_qn ?_
    refine D_q rfl rfl ?_
    refine s_move rfl rfl ?_
    refine D_qn ?_
    refine D_q rfl rfl ?_
    refine s_nilCheck rfl rfl ?_
    refine D_qn ?_
    refine D_q rfl rfl ?_
    refine s_fieldAddr rfl rfl (FA106_3 _ _) ?_
    refine D_qn ?_
    refine D_q rfl rfl ?_
    first
      | refine s_load Try.isAgg3 rfl rfl (hs.cell (k := 0) rfl rfl) ?_
      | refine s_load Try.isAgg3 rfl rfl (hs.cell (k := 1) rfl rfl) ?_
      | refine s_load Try.isAgg3 rfl rfl (hs.cell (k := 2) rfl rfl) ?_
    refine D_qn ?_
    refine D_q rfl rfl ?_
    refine s_gtr rfl rfl rfl ?_
    refine D_qn ?_
    refine D_q rfl rfl ?_
    refine s_move rfl rfl ?_
    refine WL_case (s := 43) rfl (fun hg43 => ?_) (fun hg43 => ?_)
    · skip
      try simp only [decide_eq_true_eq, decide_eq_false_iff_not, bne_iff_ne, ne_eq, bne_eq_false_iff_eq, beq_iff_eq, beq_eq_false_iff_ne, gt_iff_lt, ge_iff_le, Bool.not_eq_true', Bool.not_eq_false'] at hg43
      refine D_qn ?_
      refine D_q rfl rfl ?_
      refine WL_skip rfl rfl rfl ?_
      refine D_qn ?_
      refine D_q rfl rfl ?_
      refine WL_skip rfl rfl rfl ?_
      refine D_qn ?_
      refine D_q rfl rfl ?_
      refine WL_skip rfl rfl rfl ?_
      refine D_qn ?_
      refine D_q rfl rfl ?_
      refine WL_skip rfl rfl rfl ?_
      refine D_qn ?_
      refine D_q rfl rfl ?_
      refine WL_skip rfl rfl rfl ?_
      refine D_qn ?_
      refine D_q rfl rfl ?_
      refine WL_skip rfl rfl rfl ?_
      refine D_qn ?_
      refine D_q rfl rfl ?_
      refine WL_skip rfl rfl rfl ?_
      refine D_qn ?_
      refine D_q rfl rfl ?_
      refine WL_skip rfl rfl rfl ?_
      refine D_qn ?_
      refine D_q rfl rfl ?_
      refine WL_skipU rfl rfl ?_
      refine D_qn ?_
      refine D_q rfl rfl ?_
      refine WL_skipU rfl rfl ?_
      refine D_qn ?_
      refine D_q rfl rfl ?_
      refine WL_skipU rfl rfl ?_
      refine D_qn ?_
      refine D_q rfl rfl ?_
      refine WL_skipU rfl rfl ?_
      refine D_qn ?_
      refine D_q rfl rfl ?_
      refine WL_skipU rfl rfl ?_
      refine D_qn ?_
      refine D_q rfl rfl ?_
      refine WL_skipU rfl rfl ?_
      refine D_qn ?_
      refine D_q rfl rfl ?_
      refine WL_skipU rfl rfl ?_
      refine D_qn ?_
      refine D_q rfl rfl ?_
      refine WL_skipU rfl rfl ?_
      refine D_qn ?_
      refine D_q rfl rfl ?_
      refine WL_skipU rfl rfl ?_
      refine D_qn ?_
      refine D_q rfl rfl ?_
      refine WL_skip rfl rfl rfl ?_
      refine D_qn ?_
      refine D_q rfl rfl ?_
      refine s_pick_t rfl rfl rfl ?_
      refine D_qn ?_
      refine D_nil ?_
      refine n_then ?_
      refine W_cond_t rfl ?_
      refine W_seq ?_
      refine W_region ?_
      refine s_move rfl rfl ?_
      refine s_fieldAddr rfl rfl (FA71_4 _ _) ?_
      first
        | refine s_load Try.isAgg3 rfl rfl (hs.cell (k := 0) rfl rfl) ?_
        | refine s_load Try.isAgg3 rfl rfl (hs.cell (k := 1) rfl rfl) ?_
        | refine s_load Try.isAgg3 rfl rfl (hs.cell (k := 2) rfl rfl) ?_
      refine s_nilCheck rfl rfl ?_
      refine s_fieldAddr rfl rfl (FA106_3 _ _) ?_
      first
        | refine s_storeB Try.sizeOf3 rfl rfl rfl hs (kk := 0) rfl rfl ?_
        | refine s_storeB Try.sizeOf3 rfl rfl rfl hs (kk := 1) rfl rfl ?_
        | refine s_storeB Try.sizeOf3 rfl rfl rfl hs (kk := 2) rfl rfl ?_
      clear hs; intro w hs; try simp only [List.set_cons_zero, List.set_cons_succ, splice, List.take_succ_cons, List.take_zero, List.drop_succ_cons, List.drop_zero, List.nil_append, List.cons_append, List.length_cons, List.length_nil, Nat.reduceAdd, List.append_assoc] at hs
      refine WL_nil ?_
      refine n_then ?_
      refine W_region ?_
      refine s_move rfl rfl ?_
      refine s_fieldAddr rfl rfl (FA71_6 _ _) ?_
      first
        | refine s_load Try.isAgg69 rfl rfl (hs.cell (k := 0) rfl rfl) ?_
        | refine s_load Try.isAgg69 rfl rfl (hs.cell (k := 1) rfl rfl) ?_
        | refine s_load Try.isAgg69 rfl rfl (hs.cell (k := 2) rfl rfl) ?_
      refine s_nilCheck rfl rfl ?_
      refine s_fieldAddr rfl rfl (FA106_4 _ _) ?_
      first
        | refine s_storeB Try.sizeOf69 rfl rfl rfl hs (kk := 0) rfl rfl ?_
        | refine s_storeB Try.sizeOf69 rfl rfl rfl hs (kk := 1) rfl rfl ?_
        | refine s_storeB Try.sizeOf69 rfl rfl rfl hs (kk := 2) rfl rfl ?_
      clear hs; intro w hs; try simp only [List.set_cons_zero, List.set_cons_succ, splice, List.take_succ_cons, List.take_zero, List.drop_succ_cons, List.drop_zero, List.nil_append, List.cons_append, List.length_cons, List.length_nil, Nat.reduceAdd, List.append_assoc] at hs
      refine WL_nil ?_
      refine n_then ?_
      refine W_draw [(0, true, []), (1, true, []), (2, true, []), (3, true, []), (4, true, []), (5, true, []), (6, true, []), (7, true, []), (8, true, []), (9, true, []), (10, false, [])] [[], [], [1], [1, 2], [1, 2, 3], [], [5], [1, 2, 3, 4, 5, 6], [0, 1, 2, 3, 4, 5, 6, 7], [0, 1, 2, 3, 4, 5, 6, 7, 8], [0, 1, 2, 3, 4, 5, 6, 7, 8, 9]] MX (by kernel_rfl) ?_
      intro w1 hw1 hw2 hw3 hw4; replace hs := hs.redrawn hw1 hw2 hw3 hw4; clear hw1 hw2 hw3 hw4
      obtain ⟨w, rfl⟩ : ∃ w : World, w = w1 := ⟨_, rfl⟩
      refine D_q rfl rfl ?_
      refine s_move rfl rfl ?_
      refine D_qn ?_
      refine D_q rfl rfl ?_
      refine s_move rfl rfl ?_
      refine D_qn ?_
      refine D_q rfl rfl ?_
      refine s_nilCheck rfl rfl ?_
      refine D_qn ?_
      refine D_q rfl rfl ?_
      refine s_fieldAddr rfl rfl (FA106_5 _ _) ?_
      refine D_qn ?_
      refine D_q rfl rfl ?_
      first
        | refine s_load Try.isAgg3 rfl rfl (hs.cell (k := 0) rfl rfl) ?_
        | refine s_load Try.isAgg3 rfl rfl (hs.cell (k := 1) rfl rfl) ?_
        | refine s_load Try.isAgg3 rfl rfl (hs.cell (k := 2) rfl rfl) ?_
      refine D_qn ?_
      refine D_q rfl rfl ?_
      refine s_fieldAddr rfl rfl (FA71_5 _ _) ?_
      refine D_qn ?_
      refine D_q rfl rfl ?_
      first
        | refine s_load Try.isAgg3 rfl rfl (hs.cell (k := 0) rfl rfl) ?_
        | refine s_load Try.isAgg3 rfl rfl (hs.cell (k := 1) rfl rfl) ?_
        | refine s_load Try.isAgg3 rfl rfl (hs.cell (k := 2) rfl rfl) ?_
      refine D_qn ?_
      refine D_q rfl rfl ?_
      refine s_max rfl rfl rfl ?_
      rw [show (if (H.n : Int) < (d.s.m.fn : Int) then (d.s.m.fn : Int) else (H.n : Int)) = ((max H.n d.s.m.n : Nat) : Int) from by rw [hfn]; split <;> omega]
      refine D_qn ?_
      refine D_q rfl rfl ?_
      refine s_nilCheck rfl rfl ?_
      refine D_qn ?_
      refine D_q rfl rfl ?_
      refine s_fieldAddr rfl rfl (FA106_5 _ _) ?_
      refine D_qn ?_
      refine D_e rfl ?_
      first
        | refine s_storeB Try.sizeOf3 rfl rfl rfl hs (kk := 0) rfl rfl ?_
        | refine s_storeB Try.sizeOf3 rfl rfl rfl hs (kk := 1) rfl rfl ?_
        | refine s_storeB Try.sizeOf3 rfl rfl rfl hs (kk := 2) rfl rfl ?_
      clear hs; intro w hs; try simp only [List.set_cons_zero, List.set_cons_succ, splice, List.take_succ_cons, List.take_zero, List.drop_succ_cons, List.drop_zero, List.nil_append, List.cons_append, List.length_cons, List.length_nil, Nat.reduceAdd, List.append_assoc] at hs
      refine D_en ?re ?_
      case re =>
        exact Reks_nil
      refine D_nil ?_
      refine n_blk ?_
      refine n_then ?_
      refine W_region ?_
      refine s_move rfl rfl ?_
      first | (refine s_add' rfl rfl rfl ?hx ?_; case hx => (constructor <;> first | omega | (simp only; omega))) | refine s_add rfl rfl rfl ?_
      refine s_assign rfl rfl ?_
      refine WL_nil ?_
      refine n_loop ?_
      first
        | (have hh : H.heard d.s.m = { H with log := d.s.m.log, lterm := d.s.m.lterm, n := max H.n d.s.m.n } := by unfold Rp.heard Rp.adopt; rw [if_pos (by unfold Rp.takes; omega)]
           refine ⟨⟨1, H.heard d.s.m, dl, dc⟩, ⟨rfl, rfl, trivial⟩, ⟨?_, ?_, .inr ⟨rfl, d, rfl, rfl⟩⟩, by simp only; omega⟩
           · show St [p] w0 _ [(p, Blk 106 (fcells (H.heard d.s.m) (.slice dl (H.heard d.s.m).log.length dc) vd _ av))]
             rw [hh]; exact hs.tail
           · show LgIn (.slice dl (H.heard d.s.m).log.length dc) (H.heard d.s.m).log LP
             rw [hh]; exact hdg)
        | (have hh : H.heard d.s.m = { H with n := max H.n d.s.m.n } := by unfold Rp.heard Rp.adopt; rw [if_neg (by unfold Rp.takes; omega)]
           refine ⟨⟨1, H.heard d.s.m, la, lc⟩, ⟨rfl, rfl, trivial⟩, ⟨?_, ?_, .inr ⟨rfl, d, rfl, rfl⟩⟩, by simp only; omega⟩
           · show St [p] w0 _ [(p, Blk 106 (fcells (H.heard d.s.m) (.slice la (H.heard d.s.m).log.length lc) vd _ av))]
             rw [hh]; exact hs.tail
           · show LgIn (.slice la (H.heard d.s.m).log.length lc) (H.heard d.s.m).log LP
             rw [hh]; exact hlg)
    · skip
      try simp only [decide_eq_true_eq, decide_eq_false_iff_not, bne_iff_ne, ne_eq, bne_eq_false_iff_eq, beq_iff_eq, beq_eq_false_iff_ne, gt_iff_lt, ge_iff_le, Bool.not_eq_true', Bool.not_eq_false'] at hg43
      refine D_qn ?_
      refine D_q rfl rfl ?_
      refine WL_take rfl ?_
      refine s_fieldAddr rfl rfl (FA71_4 _ _) ?_
      refine D_qn ?_
      refine D_q rfl rfl ?_
      refine WL_take rfl ?_
      first
        | refine s_load Try.isAgg3 rfl rfl (hs.cell (k := 0) rfl rfl) ?_
        | refine s_load Try.isAgg3 rfl rfl (hs.cell (k := 1) rfl rfl) ?_
        | refine s_load Try.isAgg3 rfl rfl (hs.cell (k := 2) rfl rfl) ?_
      refine D_qn ?_
      refine D_q rfl rfl ?_
      refine WL_take rfl ?_
      refine s_move rfl rfl ?_
      refine D_qn ?_
      refine D_q rfl rfl ?_
      refine WL_take rfl ?_
      refine s_nilCheck rfl rfl ?_
      refine D_qn ?_
      refine D_q rfl rfl ?_
      refine WL_take rfl ?_
      refine s_fieldAddr rfl rfl (FA106_3 _ _) ?_
      refine D_qn ?_
      refine D_q rfl rfl ?_
      refine WL_take rfl ?_
      first
        | refine s_load Try.isAgg3 rfl rfl (hs.cell (k := 0) rfl rfl) ?_
        | refine s_load Try.isAgg3 rfl rfl (hs.cell (k := 1) rfl rfl) ?_
        | refine s_load Try.isAgg3 rfl rfl (hs.cell (k := 2) rfl rfl) ?_
      refine D_qn ?_
      refine D_q rfl rfl ?_
      refine WL_take rfl ?_
      refine s_eql rfl rfl rfl ?_
      refine D_qn ?_
      refine D_q rfl rfl ?_
      refine WL_take rfl ?_
      refine s_move rfl rfl ?_
      refine WL_case (s := 51) rfl (fun hg51 => ?_) (fun hg51 => ?_)
      · skip
        try simp only [decide_eq_true_eq, decide_eq_false_iff_not, bne_iff_ne, ne_eq, bne_eq_false_iff_eq, beq_iff_eq, beq_eq_false_iff_ne, gt_iff_lt, ge_iff_le, Bool.not_eq_true', Bool.not_eq_false'] at hg51
        refine D_qn ?_
        refine D_q rfl rfl ?_
        refine WL_take rfl ?_
        refine s_fieldAddr rfl rfl (FA71_6 _ _) ?_
        refine D_qn ?_
        refine D_q rfl rfl ?_
        refine WL_take rfl ?_
        first
          | refine s_load Try.isAgg69 rfl rfl (hs.cell (k := 0) rfl rfl) ?_
          | refine s_load Try.isAgg69 rfl rfl (hs.cell (k := 1) rfl rfl) ?_
          | refine s_load Try.isAgg69 rfl rfl (hs.cell (k := 2) rfl rfl) ?_
        refine D_qn ?_
        refine D_q rfl rfl ?_
        refine WL_take rfl ?_
        refine s_len rfl rfl (LN69 _ _ _ _) ?_
        refine D_qn ?_
        refine D_q rfl rfl ?_
        refine WL_take rfl ?_
        refine s_move rfl rfl ?_
        refine D_qn ?_
        refine D_q rfl rfl ?_
        refine WL_take rfl ?_
        refine s_nilCheck rfl rfl ?_
        refine D_qn ?_
        refine D_q rfl rfl ?_
        refine WL_take rfl ?_
        refine s_fieldAddr rfl rfl (FA106_4 _ _) ?_
        refine D_qn ?_
        refine D_q rfl rfl ?_
        refine WL_take rfl ?_
        first
          | refine s_load Try.isAgg69 rfl rfl (hs.cell (k := 0) rfl rfl) ?_
          | refine s_load Try.isAgg69 rfl rfl (hs.cell (k := 1) rfl rfl) ?_
          | refine s_load Try.isAgg69 rfl rfl (hs.cell (k := 2) rfl rfl) ?_
        refine D_qn ?_
        refine D_q rfl rfl ?_
        refine WL_take rfl ?_
        refine s_len rfl rfl (LN69 _ _ _ _) ?_
        refine D_qn ?_
        refine D_q rfl rfl ?_
        refine WL_take rfl ?_
        refine s_gtr rfl rfl rfl ?_
        refine D_qn ?_
        refine D_q rfl rfl ?_
        refine WL_take rfl ?_
        refine s_pick_t rfl rfl rfl ?_
        refine D_qn ?_
        refine D_q rfl rfl ?_
        refine s_pick_f rfl rfl rfl ?_
        refine D_qn ?_
        refine D_nil ?_
        refine n_then ?_
        refine W_cond rfl (fun hc62 => ?_) (fun hc62 => ?_)
        · skip
          try simp only [decide_eq_true_eq, decide_eq_false_iff_not, bne_iff_ne, ne_eq, bne_eq_false_iff_eq, beq_iff_eq, beq_eq_false_iff_ne, gt_iff_lt, ge_iff_le, Bool.not_eq_true', Bool.not_eq_false'] at hc62
          refine W_seq ?_
          refine W_region ?_
          refine s_move rfl rfl ?_
          refine s_fieldAddr rfl rfl (FA71_4 _ _) ?_
          first
            | refine s_load Try.isAgg3 rfl rfl (hs.cell (k := 0) rfl rfl) ?_
            | refine s_load Try.isAgg3 rfl rfl (hs.cell (k := 1) rfl rfl) ?_
            | refine s_load Try.isAgg3 rfl rfl (hs.cell (k := 2) rfl rfl) ?_
          refine s_nilCheck rfl rfl ?_
          refine s_fieldAddr rfl rfl (FA106_3 _ _) ?_
          first
            | refine s_storeB Try.sizeOf3 rfl rfl rfl hs (kk := 0) rfl rfl ?_
            | refine s_storeB Try.sizeOf3 rfl rfl rfl hs (kk := 1) rfl rfl ?_
            | refine s_storeB Try.sizeOf3 rfl rfl rfl hs (kk := 2) rfl rfl ?_
          clear hs; intro w hs; try simp only [List.set_cons_zero, List.set_cons_succ, splice, List.take_succ_cons, List.take_zero, List.drop_succ_cons, List.drop_zero, List.nil_append, List.cons_append, List.length_cons, List.length_nil, Nat.reduceAdd, List.append_assoc] at hs
          refine WL_nil ?_
          refine n_then ?_
          refine W_region ?_
          refine s_move rfl rfl ?_
          refine s_fieldAddr rfl rfl (FA71_6 _ _) ?_
          first
            | refine s_load Try.isAgg69 rfl rfl (hs.cell (k := 0) rfl rfl) ?_
            | refine s_load Try.isAgg69 rfl rfl (hs.cell (k := 1) rfl rfl) ?_
            | refine s_load Try.isAgg69 rfl rfl (hs.cell (k := 2) rfl rfl) ?_
          refine s_nilCheck rfl rfl ?_
          refine s_fieldAddr rfl rfl (FA106_4 _ _) ?_
          first
            | refine s_storeB Try.sizeOf69 rfl rfl rfl hs (kk := 0) rfl rfl ?_
            | refine s_storeB Try.sizeOf69 rfl rfl rfl hs (kk := 1) rfl rfl ?_
            | refine s_storeB Try.sizeOf69 rfl rfl rfl hs (kk := 2) rfl rfl ?_
          clear hs; intro w hs; try simp only [List.set_cons_zero, List.set_cons_succ, splice, List.take_succ_cons, List.take_zero, List.drop_succ_cons, List.drop_zero, List.nil_append, List.cons_append, List.length_cons, List.length_nil, Nat.reduceAdd, List.append_assoc] at hs
          refine WL_nil ?_
          refine n_then ?_
          refine W_draw [(0, true, []), (1, true, []), (2, true, []), (3, true, []), (4, true, []), (5, true, []), (6, true, []), (7, true, []), (8, true, []), (9, true, []), (10, false, [])] [[], [], [1], [1, 2], [1, 2, 3], [], [5], [1, 2, 3, 4, 5, 6], [0, 1, 2, 3, 4, 5, 6, 7], [0, 1, 2, 3, 4, 5, 6, 7, 8], [0, 1, 2, 3, 4, 5, 6, 7, 8, 9]] MX (by kernel_rfl) ?_
          intro w1 hw1 hw2 hw3 hw4; replace hs := hs.redrawn hw1 hw2 hw3 hw4; clear hw1 hw2 hw3 hw4
          obtain ⟨w, rfl⟩ : ∃ w : World, w = w1 := ⟨_, rfl⟩
          refine D_q rfl rfl ?_
          refine s_move rfl rfl ?_
          refine D_qn ?_
          refine D_q rfl rfl ?_
          refine s_move rfl rfl ?_
          refine D_qn ?_
          refine D_q rfl rfl ?_
          refine s_nilCheck rfl rfl ?_
          refine D_qn ?_
          refine D_q rfl rfl ?_
          refine s_fieldAddr rfl rfl (FA106_5 _ _) ?_
          refine D_qn ?_
          refine D_q rfl rfl ?_
          first
            | refine s_load Try.isAgg3 rfl rfl (hs.cell (k := 0) rfl rfl) ?_
            | refine s_load Try.isAgg3 rfl rfl (hs.cell (k := 1) rfl rfl) ?_
            | refine s_load Try.isAgg3 rfl rfl (hs.cell (k := 2) rfl rfl) ?_
          refine D_qn ?_
          refine D_q rfl rfl ?_
          refine s_fieldAddr rfl rfl (FA71_5 _ _) ?_
          refine D_qn ?_
          refine D_q rfl rfl ?_
          first
            | refine s_load Try.isAgg3 rfl rfl (hs.cell (k := 0) rfl rfl) ?_
            | refine s_load Try.isAgg3 rfl rfl (hs.cell (k := 1) rfl rfl) ?_
            | refine s_load Try.isAgg3 rfl rfl (hs.cell (k := 2) rfl rfl) ?_
          refine D_qn ?_
          refine D_q rfl rfl ?_
          refine s_max rfl rfl rfl ?_
          rw [show (if (H.n : Int) < (d.s.m.fn : Int) then (d.s.m.fn : Int) else (H.n : Int)) = ((max H.n d.s.m.n : Nat) : Int) from by rw [hfn]; split <;> omega]
          refine D_qn ?_
          refine D_q rfl rfl ?_
          refine s_nilCheck rfl rfl ?_
          refine D_qn ?_
          refine D_q rfl rfl ?_
          refine s_fieldAddr rfl rfl (FA106_5 _ _) ?_
          refine D_qn ?_
          refine D_e rfl ?_
          first
            | refine s_storeB Try.sizeOf3 rfl rfl rfl hs (kk := 0) rfl rfl ?_
            | refine s_storeB Try.sizeOf3 rfl rfl rfl hs (kk := 1) rfl rfl ?_
            | refine s_storeB Try.sizeOf3 rfl rfl rfl hs (kk := 2) rfl rfl ?_
          clear hs; intro w hs; try simp only [List.set_cons_zero, List.set_cons_succ, splice, List.take_succ_cons, List.take_zero, List.drop_succ_cons, List.drop_zero, List.nil_append, List.cons_append, List.length_cons, List.length_nil, Nat.reduceAdd, List.append_assoc] at hs
          refine D_en ?re ?_
          case re =>
            exact Reks_nil
          refine D_nil ?_
          refine n_blk ?_
          refine n_then ?_
          refine W_region ?_
          refine s_move rfl rfl ?_
          first | (refine s_add' rfl rfl rfl ?hx ?_; case hx => (constructor <;> first | omega | (simp only; omega))) | refine s_add rfl rfl rfl ?_
          refine s_assign rfl rfl ?_
          refine WL_nil ?_
          refine n_loop ?_
          first
            | (have hh : H.heard d.s.m = { H with log := d.s.m.log, lterm := d.s.m.lterm, n := max H.n d.s.m.n } := by unfold Rp.heard Rp.adopt; rw [if_pos (by unfold Rp.takes; omega)]
               refine ⟨⟨1, H.heard d.s.m, dl, dc⟩, ⟨rfl, rfl, trivial⟩, ⟨?_, ?_, .inr ⟨rfl, d, rfl, rfl⟩⟩, by simp only; omega⟩
               · show St [p] w0 _ [(p, Blk 106 (fcells (H.heard d.s.m) (.slice dl (H.heard d.s.m).log.length dc) vd _ av))]
                 rw [hh]; exact hs.tail
               · show LgIn (.slice dl (H.heard d.s.m).log.length dc) (H.heard d.s.m).log LP
                 rw [hh]; exact hdg)
            | (have hh : H.heard d.s.m = { H with n := max H.n d.s.m.n } := by unfold Rp.heard Rp.adopt; rw [if_neg (by unfold Rp.takes; omega)]
               refine ⟨⟨1, H.heard d.s.m, la, lc⟩, ⟨rfl, rfl, trivial⟩, ⟨?_, ?_, .inr ⟨rfl, d, rfl, rfl⟩⟩, by simp only; omega⟩
               · show St [p] w0 _ [(p, Blk 106 (fcells (H.heard d.s.m) (.slice la (H.heard d.s.m).log.length lc) vd _ av))]
                 rw [hh]; exact hs.tail
               · show LgIn (.slice la (H.heard d.s.m).log.length lc) (H.heard d.s.m).log LP
                 rw [hh]; exact hlg)
        · skip
          try simp only [decide_eq_true_eq, decide_eq_false_iff_not, bne_iff_ne, ne_eq, bne_eq_false_iff_eq, beq_iff_eq, beq_eq_false_iff_ne, gt_iff_lt, ge_iff_le, Bool.not_eq_true', Bool.not_eq_false'] at hc62
          refine W_skip ?_
          refine n_then ?_
          refine W_draw [(0, true, []), (1, true, []), (2, true, []), (3, true, []), (4, true, []), (5, true, []), (6, true, []), (7, true, []), (8, true, []), (9, true, []), (10, false, [])] [[], [], [1], [1, 2], [1, 2, 3], [], [5], [1, 2, 3, 4, 5, 6], [0, 1, 2, 3, 4, 5, 6, 7], [0, 1, 2, 3, 4, 5, 6, 7, 8], [0, 1, 2, 3, 4, 5, 6, 7, 8, 9]] MX (by kernel_rfl) ?_
          intro w1 hw1 hw2 hw3 hw4; replace hs := hs.redrawn hw1 hw2 hw3 hw4; clear hw1 hw2 hw3 hw4
          obtain ⟨w, rfl⟩ : ∃ w : World, w = w1 := ⟨_, rfl⟩
          refine D_q rfl rfl ?_
          refine s_move rfl rfl ?_
          refine D_qn ?_
          refine D_q rfl rfl ?_
          refine s_move rfl rfl ?_
          refine D_qn ?_
          refine D_q rfl rfl ?_
          refine s_nilCheck rfl rfl ?_
          refine D_qn ?_
          refine D_q rfl rfl ?_
          refine s_fieldAddr rfl rfl (FA106_5 _ _) ?_
          refine D_qn ?_
          refine D_q rfl rfl ?_
          first
            | refine s_load Try.isAgg3 rfl rfl (hs.cell (k := 0) rfl rfl) ?_
            | refine s_load Try.isAgg3 rfl rfl (hs.cell (k := 1) rfl rfl) ?_
            | refine s_load Try.isAgg3 rfl rfl (hs.cell (k := 2) rfl rfl) ?_
          refine D_qn ?_
          refine D_q rfl rfl ?_
          refine s_fieldAddr rfl rfl (FA71_5 _ _) ?_
          refine D_qn ?_
          refine D_q rfl rfl ?_
          first
            | refine s_load Try.isAgg3 rfl rfl (hs.cell (k := 0) rfl rfl) ?_
            | refine s_load Try.isAgg3 rfl rfl (hs.cell (k := 1) rfl rfl) ?_
            | refine s_load Try.isAgg3 rfl rfl (hs.cell (k := 2) rfl rfl) ?_
          refine D_qn ?_
          refine D_q rfl rfl ?_
          refine s_max rfl rfl rfl ?_
          rw [show (if (H.n : Int) < (d.s.m.fn : Int) then (d.s.m.fn : Int) else (H.n : Int)) = ((max H.n d.s.m.n : Nat) : Int) from by rw [hfn]; split <;> omega]
          refine D_qn ?_
          refine D_q rfl rfl ?_
          refine s_nilCheck rfl rfl ?_
          refine D_qn ?_
          refine D_q rfl rfl ?_
          refine s_fieldAddr rfl rfl (FA106_5 _ _) ?_
          refine D_qn ?_
          refine D_e rfl ?_
          first
            | refine s_storeB Try.sizeOf3 rfl rfl rfl hs (kk := 0) rfl rfl ?_
            | refine s_storeB Try.sizeOf3 rfl rfl rfl hs (kk := 1) rfl rfl ?_
            | refine s_storeB Try.sizeOf3 rfl rfl rfl hs (kk := 2) rfl rfl ?_
          clear hs; intro w hs; try simp only [List.set_cons_zero, List.set_cons_succ, splice, List.take_succ_cons, List.take_zero, List.drop_succ_cons, List.drop_zero, List.nil_append, List.cons_append, List.length_cons, List.length_nil, Nat.reduceAdd, List.append_assoc] at hs
          refine D_en ?re ?_
          case re =>
            exact Reks_nil
          refine D_nil ?_
          refine n_blk ?_
          refine n_then ?_
          refine W_region ?_
          refine s_move rfl rfl ?_
          first | (refine s_add' rfl rfl rfl ?hx ?_; case hx => (constructor <;> first | omega | (simp only; omega))) | refine s_add rfl rfl rfl ?_
          refine s_assign rfl rfl ?_
          refine WL_nil ?_
          refine n_loop ?_
          first
            | (have hh : H.heard d.s.m = { H with log := d.s.m.log, lterm := d.s.m.lterm, n := max H.n d.s.m.n } := by unfold Rp.heard Rp.adopt; rw [if_pos (by unfold Rp.takes; omega)]
               refine ⟨⟨1, H.heard d.s.m, dl, dc⟩, ⟨rfl, rfl, trivial⟩, ⟨?_, ?_, .inr ⟨rfl, d, rfl, rfl⟩⟩, by simp only; omega⟩
               · show St [p] w0 _ [(p, Blk 106 (fcells (H.heard d.s.m) (.slice dl (H.heard d.s.m).log.length dc) vd _ av))]
                 rw [hh]; exact hs.tail
               · show LgIn (.slice dl (H.heard d.s.m).log.length dc) (H.heard d.s.m).log LP
                 rw [hh]; exact hdg)
            | (have hh : H.heard d.s.m = { H with n := max H.n d.s.m.n } := by unfold Rp.heard Rp.adopt; rw [if_neg (by unfold Rp.takes; omega)]
               refine ⟨⟨1, H.heard d.s.m, la, lc⟩, ⟨rfl, rfl, trivial⟩, ⟨?_, ?_, .inr ⟨rfl, d, rfl, rfl⟩⟩, by simp only; omega⟩
               · show St [p] w0 _ [(p, Blk 106 (fcells (H.heard d.s.m) (.slice la (H.heard d.s.m).log.length lc) vd _ av))]
                 rw [hh]; exact hs.tail
               · show LgIn (.slice la (H.heard d.s.m).log.length lc) (H.heard d.s.m).log LP
                 rw [hh]; exact hlg)
      · skip
        try simp only [decide_eq_true_eq, decide_eq_false_iff_not, bne_iff_ne, ne_eq, bne_eq_false_iff_eq, beq_iff_eq, beq_eq_false_iff_ne, gt_iff_lt, ge_iff_le, Bool.not_eq_true', Bool.not_eq_false'] at hg51
        refine D_qn ?_
        refine D_q rfl rfl ?_
        refine WL_skip rfl rfl rfl ?_
        refine D_qn ?_
        refine D_q rfl rfl ?_
        refine WL_skip rfl rfl rfl ?_
        refine D_qn ?_
        refine D_q rfl rfl ?_
        refine WL_skip rfl rfl rfl ?_
        refine D_qn ?_
        refine D_q rfl rfl ?_
        refine WL_skip rfl rfl rfl ?_
        refine D_qn ?_
        refine D_q rfl rfl ?_
        refine WL_skip rfl rfl rfl ?_
        refine D_qn ?_
        refine D_q rfl rfl ?_
        refine WL_skip rfl rfl rfl ?_
        refine D_qn ?_
        refine D_q rfl rfl ?_
        refine WL_skip rfl rfl rfl ?_
        refine D_qn ?_
        refine D_q rfl rfl ?_
        refine WL_skip rfl rfl rfl ?_
        refine D_qn ?_
        refine D_q rfl rfl ?_
        refine WL_skip rfl rfl rfl ?_
        refine D_qn ?_
        refine D_q rfl rfl ?_
        refine WL_take rfl ?_
        refine s_pick_f rfl rfl rfl ?_
        refine D_qn ?_
        refine D_q rfl rfl ?_
        refine s_pick_f rfl rfl rfl ?_
        refine D_qn ?_
        refine D_nil ?_
        refine n_then ?_
        refine W_cond_f rfl ?_
        refine W_skip ?_
        refine n_then ?_
        refine W_draw [(0, true, []), (1, true, []), (2, true, []), (3, true, []), (4, true, []), (5, true, []), (6, true, []), (7, true, []), (8, true, []), (9, true, []), (10, false, [])] [[], [], [1], [1, 2], [1, 2, 3], [], [5], [1, 2, 3, 4, 5, 6], [0, 1, 2, 3, 4, 5, 6, 7], [0, 1, 2, 3, 4, 5, 6, 7, 8], [0, 1, 2, 3, 4, 5, 6, 7, 8, 9]] MX (by kernel_rfl) ?_
        intro w1 hw1 hw2 hw3 hw4; replace hs := hs.redrawn hw1 hw2 hw3 hw4; clear hw1 hw2 hw3 hw4
        obtain ⟨w, rfl⟩ : ∃ w : World, w = w1 := ⟨_, rfl⟩
        refine D_q rfl rfl ?_
        refine s_move rfl rfl ?_
        refine D_qn ?_
        refine D_q rfl rfl ?_
        refine s_move rfl rfl ?_
        refine D_qn ?_
        refine D_q rfl rfl ?_
        refine s_nilCheck rfl rfl ?_
        refine D_qn ?_
        refine D_q rfl rfl ?_
        refine s_fieldAddr rfl rfl (FA106_5 _ _) ?_
        refine D_qn ?_
        refine D_q rfl rfl ?_
        first
          | refine s_load Try.isAgg3 rfl rfl (hs.cell (k := 0) rfl rfl) ?_
          | refine s_load Try.isAgg3 rfl rfl (hs.cell (k := 1) rfl rfl) ?_
          | refine s_load Try.isAgg3 rfl rfl (hs.cell (k := 2) rfl rfl) ?_
        refine D_qn ?_
        refine D_q rfl rfl ?_
        refine s_fieldAddr rfl rfl (FA71_5 _ _) ?_
        refine D_qn ?_
        refine D_q rfl rfl ?_
        first
          | refine s_load Try.isAgg3 rfl rfl (hs.cell (k := 0) rfl rfl) ?_
          | refine s_load Try.isAgg3 rfl rfl (hs.cell (k := 1) rfl rfl) ?_
          | refine s_load Try.isAgg3 rfl rfl (hs.cell (k := 2) rfl rfl) ?_
        refine D_qn ?_
        refine D_q rfl rfl ?_
        refine s_max rfl rfl rfl ?_
        rw [show (if (H.n : Int) < (d.s.m.fn : Int) then (d.s.m.fn : Int) else (H.n : Int)) = ((max H.n d.s.m.n : Nat) : Int) from by rw [hfn]; split <;> omega]
        refine D_qn ?_
        refine D_q rfl rfl ?_
        refine s_nilCheck rfl rfl ?_
        refine D_qn ?_
        refine D_q rfl rfl ?_
        refine s_fieldAddr rfl rfl (FA106_5 _ _) ?_
        refine D_qn ?_
        refine D_e rfl ?_
        first
          | refine s_storeB Try.sizeOf3 rfl rfl rfl hs (kk := 0) rfl rfl ?_
          | refine s_storeB Try.sizeOf3 rfl rfl rfl hs (kk := 1) rfl rfl ?_
          | refine s_storeB Try.sizeOf3 rfl rfl rfl hs (kk := 2) rfl rfl ?_
        clear hs; intro w hs; try simp only [List.set_cons_zero, List.set_cons_succ, splice, List.take_succ_cons, List.take_zero, List.drop_succ_cons, List.drop_zero, List.nil_append, List.cons_append, List.length_cons, List.length_nil, Nat.reduceAdd, List.append_assoc] at hs
        refine D_en ?re ?_
        case re =>
          exact Reks_nil
        refine D_nil ?_
        refine n_blk ?_
        refine n_then ?_
        refine W_region ?_
        refine s_move rfl rfl ?_
        first | (refine s_add' rfl rfl rfl ?hx ?_; case hx => (constructor <;> first | omega | (simp only; omega))) | refine s_add rfl rfl rfl ?_
        refine s_assign rfl rfl ?_
        refine WL_nil ?_
        refine n_loop ?_
        first
          | (have hh : H.heard d.s.m = { H with log := d.s.m.log, lterm := d.s.m.lterm, n := max H.n d.s.m.n } := by unfold Rp.heard Rp.adopt; rw [if_pos (by unfold Rp.takes; omega)]
             refine ⟨⟨1, H.heard d.s.m, dl, dc⟩, ⟨rfl, rfl, trivial⟩, ⟨?_, ?_, .inr ⟨rfl, d, rfl, rfl⟩⟩, by simp only; omega⟩
             · show St [p] w0 _ [(p, Blk 106 (fcells (H.heard d.s.m) (.slice dl (H.heard d.s.m).log.length dc) vd _ av))]
               rw [hh]; exact hs.tail
             · show LgIn (.slice dl (H.heard d.s.m).log.length dc) (H.heard d.s.m).log LP
               rw [hh]; exact hdg)
          | (have hh : H.heard d.s.m = { H with n := max H.n d.s.m.n } := by unfold Rp.heard Rp.adopt; rw [if_neg (by unfold Rp.takes; omega)]
             refine ⟨⟨1, H.heard d.s.m, la, lc⟩, ⟨rfl, rfl, trivial⟩, ⟨?_, ?_, .inr ⟨rfl, d, rfl, rfl⟩⟩, by simp only; omega⟩
             · show St [p] w0 _ [(p, Blk 106 (fcells (H.heard d.s.m) (.slice la (H.heard d.s.m).log.length lc) vd _ av))]
               rw [hh]; exact hs.tail
             · show LgIn (.slice la (H.heard d.s.m).log.length lc) (H.heard d.s.m).log LP
               rw [hh]; exact hlg)
  · skip
    try simp only [decide_eq_true_eq, decide_eq_false_iff_not, bne_iff_ne, ne_eq, bne_eq_false_iff_eq, beq_iff_eq, beq_eq_false_iff_ne, gt_iff_lt, ge_iff_le, Bool.not_eq_true', Bool.not_eq_false'] at hc26
    have hHo : H = B.heardO (o.map fun d => d.s.m) := by
      rcases hi with ⟨h1, h2⟩ | ⟨h1, d, h2, h3⟩
      · cases o with
        | none => exact h2
        | some d => exfalso; rw [h1] at hc26; simp at hc26
      · rw [h2, h3]; rfl
    have hHs : H.mem = B.mem ∧ H.role = 2 ∧ H.log.length ≤ 1000 := by
      rcases hi with ⟨_, h2⟩ | ⟨_, d, h2, h3⟩
      · rw [h2]; exact ⟨rfl, e7, hok.2.2⟩
      · rw [h3]
        refine ⟨(B.heard_same _).2.1, (B.heard_same _).2.2.2.trans e7, ?_⟩
        rcases heard_log B d.s.m with h | h
        · rw [h]; exact hok.2.2
        · rw [h]; exact (hol d h2).1
    have hHn := hH H hHo
    rw [← hHo]
    clear hH hHo hi hol hds hvt hvp
    obtain ⟨hHm, hHr, hHl⟩ := hHs
    refine W_exit ?_
    refine x_then ?_
    refine x_then ?_
    refine exit_hit ?_
    refine n_then ?_
    refine W_seq ?_
    refine W_region ?_
    refine s_move rfl rfl ?_
    refine s_move rfl rfl ?_
    refine s_nilCheck rfl rfl ?_
    refine s_fieldAddr rfl rfl (FA106_2 _ _) ?_
    first
      | refine s_load Try.isAgg3 rfl rfl (hs.cell (k := 0) rfl rfl) ?_
      | refine s_load Try.isAgg3 rfl rfl (hs.cell (k := 1) rfl rfl) ?_
      | refine s_load Try.isAgg3 rfl rfl (hs.cell (k := 2) rfl rfl) ?_
    refine s_nilCheck rfl rfl ?_
    refine s_fieldAddr rfl rfl (FA106_3 _ _) ?_
    first
      | refine s_storeB Try.sizeOf3 rfl rfl rfl hs (kk := 0) rfl rfl ?_
      | refine s_storeB Try.sizeOf3 rfl rfl rfl hs (kk := 1) rfl rfl ?_
      | refine s_storeB Try.sizeOf3 rfl rfl rfl hs (kk := 2) rfl rfl ?_
    clear hs; intro w hs; try simp only [List.set_cons_zero, List.set_cons_succ, splice, List.take_succ_cons, List.take_zero, List.drop_succ_cons, List.drop_zero, List.nil_append, List.cons_append, List.length_cons, List.length_nil, Nat.reduceAdd, List.append_assoc] at hs
    refine WL_nil ?_
    refine n_then ?_
    refine W_seq ?_
    refine W_region ?_
    refine s_move rfl rfl ?_
    refine s_move rfl rfl ?_
    refine s_nilCheck rfl rfl ?_
    refine s_fieldAddr rfl rfl (FA106_1 _ _) ?_
    first
      | refine s_load Try.isAgg3 rfl rfl (hs.cell (k := 0) rfl rfl) ?_
      | refine s_load Try.isAgg3 rfl rfl (hs.cell (k := 1) rfl rfl) ?_
      | refine s_load Try.isAgg3 rfl rfl (hs.cell (k := 2) rfl rfl) ?_
    refine s_makeSlice El58 rfl rfl rfl ?hx hs ?_
    case hx => (refine ⟨?_, ?_, ?_, ?_⟩ <;> omega)
    clear hs; intro b95 w hs
    refine s_nilCheck rfl rfl ?_
    refine s_fieldAddr rfl rfl (FA106_9 _ _) ?_
    first
      | refine s_storeB Try.sizeOf58 rfl rfl rfl hs (kk := 0) rfl rfl ?_
      | refine s_storeB Try.sizeOf58 rfl rfl rfl hs (kk := 1) rfl rfl ?_
      | refine s_storeB Try.sizeOf58 rfl rfl rfl hs (kk := 2) rfl rfl ?_
    clear hs; intro w hs; try simp only [List.set_cons_zero, List.set_cons_succ, splice, List.take_succ_cons, List.take_zero, List.drop_succ_cons, List.drop_zero, List.nil_append, List.cons_append, List.length_cons, List.length_nil, Nat.reduceAdd, List.append_assoc] at hs
    refine WL_nil ?_
    refine n_then ?_
    refine W_seq ?_
    refine W_region ?_
    refine s_move rfl rfl ?_
    obtain ⟨C, hC⟩ : ∃ C : Rp, C = { H with lterm := H.term, acks := fun _ => 0 } := ⟨_, rfl⟩
    have hcb : C.atN (C.best C.log.length) = H.crown := by rw [hC]; exact crown_best H hHr hHn (by omega)
    have hCl : C.log.length = H.crown.log.length := by rw [hC]; rfl
    have hCm : C.mem = H.crown.mem := by rw [hC]; rfl
    have hCa : ackL C = ackL H.crown := by rw [hC]; rfl
    have hCk : i64s (ackL C) = List.replicate H.mem (.int .i64 0) := by
      rw [hC]
      refine List.eq_replicate_iff.2 ⟨by simp [ackL], fun b hb => ?_⟩
      obtain ⟨z, hz, rfl⟩ := List.mem_map.1 hb
      obtain ⟨j, _, rfl⟩ := List.mem_map.1 hz
      rfl
    have hC3 : C.mem = H.mem ∧ C.log.length = H.log.length := by rw [hC]; exact ⟨rfl, rfl⟩
    replace hs : St [p] w0 w ([(p, Blk 106 (fcells C (.slice la C.log.length lc) vd (.slice va o.toList.length vc) (.slice (some ⟨b95, 0, none⟩) C.mem C.mem)))] ++ [(b95, Blk 3 (i64s (ackL C)))]) := by
      have h9 := hs.swap (A := [_])
      rw [made_one] at h9
      rw [hCk, hC]
      simpa [fcells] using h9
    have hne : b95 ≠ p := by have h9 := hs.nodup; simp [ids] at h9; exact fun h => h9 h.symm
    refine s_callL (M := []) (L1 := [(p, _)]) (X := [_]) Try.call56 rfl rfl hs (fun h => commits_ok p C la lc vd _ (some ⟨b95, 0, none⟩) C.mem _ w rfl (hs.sl (k := 1) (ds := i64s (ackL C)) rfl (Nat.le_refl _) (by intro j u hj; rw [Nat.zero_add]; exact hj)) (fun a ha => by cases ha; exact hne) (by omega) h) ?_
    clear hs; rintro u w L9 ⟨rfl, rfl⟩ - hs
    rw [hcb, hCl, hCm, hCa] at hs
    simp only [List.nil_append, List.cons_append] at hs
    refine WL_nil ?_
    refine n_then ?_
    refine W_seq ?_
    refine W_region ?_
    refine s_move rfl rfl ?_
    refine s_call Try.call53 rfl rfl (fothers_ok p H.crown la H.crown.log.length lc vd _ _ 2 H.crown.spreadM w (hs.at (k := 0) rfl) (by rw [← hCm]; omega) ⟨rfl, rfl, rfl⟩ (.inl ⟨rfl, rfl⟩)) ?_
    rintro r w ⟨Lr, hOr, hst⟩
    replace hs := (hs.back0 hst).swap (A := Lr)
    clear hst
    have hMd : MdAt r (H.crown.others H.crown.spreadM) Lr LP := ⟨_, oDms_s _ _ _, hOr, fun d hd => by
      obtain ⟨j, _, rfl⟩ := List.mem_map.1 hd
      exact hlg⟩
    refine s_assign rfl rfl ?_
    refine WL_nil ?_
    refine n_then ?_
    refine W_ret ?_
    refine end1 rfl rfl ⟨_, hs, la, lc, b95, Lr, ?_, hlg, hMd⟩
    rw [← hHm, show H.mem = H.crown.mem from rfl]
    rfl
end Go.Proofs.Ytkobigdfijeajaa
