/- A replica: Committed. -/
import Derived.Test.YtkobigdfijeajaaRpC
set_option linter.unusedVariables false
set_option linter.unusedSimpArgs false
namespace Go.Proofs.Ytkobigdfijeajaa
open Go.SL
theorem flat_take {α : Type} {c : α → List Value} {k : Nat} (h : ∀ x, (c x).length = k) : ∀ (xs : List α) (n : Nat), (xs.flatMap c).take (n * k) = (xs.take n).flatMap c
  | _, 0 => by simp
  | [], n + 1 => by simp
  | x :: r, n + 1 => by
    have h1 : (n + 1) * k = (c x).length + n * k := by rw [h, Nat.add_mul]; omega
    rw [List.flatMap_cons, h1, List.take_length_add_append, flat_take h r n, List.take_succ_cons, List.flatMap_cons]
theorem own_room {e size n b : Nat} {sp : List Value} (hn : n ≤ maxLen) (h : sp.length = n * size) : OwnS e size (.slice (some ⟨b, 0, none⟩) 0 n) 0 [] [(b, Blk e sp)] := ⟨by simp, .inr ⟨b, n, sp, rfl, Nat.zero_le _, hn, by simpa using h, by simp⟩⟩
/-- entries whose commands one owns -/
def EmsOwn (ms : List Em) (L : Hp) : Prop := ∀ m ∈ ms, ∃ Ly, OwnS 5 1 m.v m.e.bs.length (u8s m.e.bs) Ly ∧ ∀ q ∈ Ly, q ∈ L
theorem EmsOwn.ems {ms : List Em} {L : Hp} (h : EmsOwn ms L) : EmsIn ms L := fun m hm => by obtain ⟨Ly, h1, h2⟩ := h m hm; exact RdS.mono' h1.rdS h2
structure CmS where
  i : Nat
  ys : List Em
  v : Value
  LB : Hp
  LP : Hp
set_option maxHeartbeats 2000000 in
theorem committedO_ok (p : Nat) (R : Rp) (L : Hp) (w0 : World) (h : RepAt p R L) (hR : ∀ q ∈ L, w0.heap[q.1]? = some q.2) :
    Ret Try.prog 16 [.pointer (some ⟨p, 0, none⟩)].toArray w0 fun r w' => ∃ ys LB LP, LogAt (R.log.take R.n) r ys LB LP ∧ EmsOwn ys LP ∧ St [] w0 w' (LB ++ LP) := by
  obtain ⟨lv, vv, av, es, LB, LP, LV, LA, rfl, ⟨hO, hE, hl⟩, -, -, -, hok⟩ := h
  have hp := hR _ List.mem_cons_self
  have hv : Sl w0 lv es.length (emcells es) := OwnS_slIn hO fun q hq => hR q (by simp [hq])
  have hP : ∀ q ∈ LP, w0.heap[q.1]? = some q.2 := fun q hq => hR q (by simp [hq])
  have hB := (Array.getElem?_eq_some_iff.1 hp).1
  have c5 := cell_blk (i := 5) hp rfl
  have c6 := cell_blk (i := 6) hp rfl
  obtain ⟨a, c, rfl, hac⟩ := hv.len_le
  have hel : es.length = R.log.length := by rw [← hl, ens_length]
  have hn1 := hok.n
  have hn2 := hok.log
  have htk : Sl w0 (.slice a R.n c) (es.take R.n).length (emcells (es.take R.n)) := by
    have h1 := hv.take (k := R.n) (size := 6) (by omega) rfl
    rw [List.length_take, Nat.min_eq_left (by omega), emcells, ← flat_take Em.cells_length es R.n]; exact h1
  have hEt : EmsIn (es.take R.n) LP := fun m hm => hE m (List.mem_of_mem_take hm)
  have htl : (es.take R.n).length = R.n := by rw [List.length_take]; omega
  have hent : ens (es.take R.n) = R.log.take R.n := by rw [← hl, ens, ens, List.map_take]
  generalize es.take R.n = xs at htk hEt htl hent
  refine Ret_start fun w hs => ?_
  refine Ret_of Try.func16 rfl Try.ntmps16 rfl ?_
  refine W_seq ?_
  refine W_region ?_
  refine s_assign rfl rfl ?_
  refine WL_nil ?_
  refine n_then ?_
  refine W_seq ?_
  refine W_region ?_
  refine s_move rfl rfl ?_
  refine s_nilCheck rfl rfl ?_
  refine s_fieldAddr rfl rfl (FA89_6 _ _) ?_
  refine s_load Try.isAgg3 rfl rfl ((hs.oldcell (a := ⟨p, 6, none⟩) hB (by simp)).trans c6) ?_
  refine s_makeSlice El43 rfl rfl rfl ?hx hs ?_
  case hx => (refine ⟨?_, ?_, ?_, ?_⟩ <;> omega)
  clear hs; intro b10 w hs
  refine s_assign rfl rfl ?_
  refine WL_nil ?_
  refine n_then ?_
  refine W_seq ?_
  refine W_seq ?_
  refine W_draw [(0, true, []), (1, true, []), (2, true, []), (3, true, []), (4, true, []), (5, true, []), (6, true, []), (7, true, []), (8, true, []), (11, true, []), (9, false, [11]), (10, true, [])] [[], [0], [0, 1], [0, 1, 2], [], [4], [4, 5], [4, 5, 6], [0, 1, 2, 3, 4, 5, 6, 7], [0, 1, 2, 3, 4, 5, 6, 7, 8], [0, 1, 2, 3, 4, 5, 6, 7, 8, 9], []] MX (by kernel_rfl) ?_
  intro w1 hw1 hw2 hw3 hw4; replace hs := hs.redrawn hw1 hw2 hw3 hw4; clear hw1 hw2 hw3 hw4
  obtain ⟨w, rfl⟩ : ∃ w : World, w = w1 := ⟨_, rfl⟩
  refine D_q rfl rfl ?_
  refine s_move rfl rfl ?_
  refine D_qn ?_
  refine D_q rfl rfl ?_
  refine s_nilCheck rfl rfl ?_
  refine D_qn ?_
  refine D_q rfl rfl ?_
  refine s_fieldAddr rfl rfl (FA89_5 _ _) ?_
  refine D_qn ?_
  refine D_q rfl rfl ?_
  refine s_load Try.isAgg43 rfl rfl ((hs.oldcell (a := ⟨p, 5, none⟩) hB (by simp)).trans c5) ?_
  refine D_qn ?_
  refine D_q rfl rfl ?_
  refine s_move rfl rfl ?_
  refine D_qn ?_
  refine D_q rfl rfl ?_
  refine s_nilCheck rfl rfl ?_
  refine D_qn ?_
  refine D_q rfl rfl ?_
  refine s_fieldAddr rfl rfl (FA89_6 _ _) ?_
  refine D_qn ?_
  refine D_q rfl rfl ?_
  refine s_load Try.isAgg3 rfl rfl ((hs.oldcell (a := ⟨p, 6, none⟩) hB (by simp)).trans c6) ?_
  refine D_qn ?_
  refine D_q rfl rfl ?_
  have hO3 : OwnS 35 6 (.slice (some ⟨b10, 0, none⟩) (Int.toNat 0) ((R.n : Int)).toNat) 0 [] [(b10, Blk 35 (made [.bool false, .string ByteArray.empty, .int .i64 0, .int .i64 0, .int .i64 0, .slice none 0 0] ((R.n : Int)).toNat))] :=
    own_room (by rw [Int.toNat_natCast]; unfold maxLen; omega) (by rw [made_length]; rfl)
  refine s_slice_hi El43 rfl rfl rfl ⟨by omega, by omega⟩ ?_
  rw [show .slice a ((R.n : Int)).toNat c = Value.slice a R.n c from by rw [Int.toNat_natCast]]
  refine D_qn ?_
  refine D_q rfl rfl ?_
  refine s_move rfl rfl ?_
  refine D_qn ?_
  refine D_e rfl ?_
  refine s_call Try.call46 rfl rfl (cloneE_ok _ xs LP w (htk.fwd0 hs.fwd) hEt (hs.oldH hP (by simp)) (by omega)) ?_
  rintro r w ⟨Lc, hOc, hst⟩
  replace hs := hs.back0 hst
  clear hst
  obtain ⟨_, rc, ra, rfl, hrl⟩ := hOc.form
  subst hrl
  refine D_en ?re ?_
  case re =>
    refine Reks_cons rfl rfl rfl rfl ?_ ?_
    · skip
      refine s_move rfl rfl ?_
      exact Rek_end rfl
    exact Reks_nil
  refine D_q rfl rfl ?_
  refine s_len rfl rfl (LN43 _ _ _ _) ?_
  refine D_qn ?_
  refine D_nil ?_
  refine n_then ?_
  refine W_block ?_
  refine W_loop (σ := CmS) (fun s => [(3, s.v), (20, .slice ra xs.length rc), (21, .int .i64 (xs.length : Int)), (22, .int .i64 (s.i : Int))])
    (fun s w => St [] w0 w (Lc ++ (s.LB ++ s.LP)) ∧ OwnS 35 6 s.v s.ys.length (emcells s.ys) s.LB ∧ EmsOwn s.ys s.LP ∧ ens s.ys = ens (xs.take s.i) ∧ s.i ≤ xs.length) (fun s => xs.length - s.i) ⟨0, [], _, [_], []⟩ ⟨rfl, rfl, rfl, rfl, trivial⟩ ⟨hs, hO3, nofun, rfl, Nat.zero_le _⟩ ?_
  clear hs hO3
  rintro ⟨i, ys, v, LB, LP1⟩ w ⟨hs, hO3, hM, hys, hi⟩
  simp only at hs hO3 hM hys hi ⊢
  refine W_seq ?_
  refine W_region ?_
  refine s_lss rfl rfl rfl ?_
  refine WL_nil ?_
  refine n_then ?_
  refine W_seq ?_
  refine W_cond rfl (fun hc23 => ?_) (fun hc23 => ?_)
  · skip
    try simp only [decide_eq_true_eq, decide_eq_false_iff_not] at hc23
    have hil : i < xs.length := by omega
    have hxi : xs[i]? = some xs[i] := List.getElem?_eq_getElem hil
    have hmem : xs[i] ∈ xs := List.getElem_mem hil
    generalize xs[i] = x at hxi hmem
    obtain ⟨xe, xv⟩ := x
    obtain ⟨tl, tc, ta, rfl, -⟩ := (hEt _ hmem).form w0 hP
    have hxo : xe.ok := hok.es xe (List.mem_of_mem_take (by rw [← hent]; exact List.mem_map_of_mem (f := Em.e) hmem))
    have hxv := hEt _ hmem
    simp only at hxv
    have hyl : ys.length = i := by have h9 := congrArg List.length hys; rw [ens_length, ens_length, List.length_take] at h9; omega
    obtain ⟨g, sp, rfl, hLc⟩ : ∃ g sp, ra = some ⟨g, 0, none⟩ ∧ Lc = [(g, Blk 35 (emcells xs ++ sp))] := by
      obtain ⟨g, cap, sp, h1, _, h2⟩ := hOc.block (by omega)
      cases h1; exact ⟨g, sp, rfl, h2⟩
    subst hLc
    have hcc := fun j (u : Value) (hj : j < 6) hu => flat_at' (c := Em.cells) (xs := xs) (sp := sp) (i := i) (j := j) (u := u) Em.cells_length hj hxi hu
    refine W_skip ?_
    refine n_then ?_
    refine W_seq ?_
    refine W_block ?_
    refine W_seq ?_
    refine W_region ?_
    (refine s_indexAddr El43 rfl rfl rfl ?hx ?_; case hx => (constructor <;> first | omega | (simp; omega)))
    refine s_load_6 Try.isAgg35 Try.sizeOf35 rfl rfl (hs.cell (k := 0) rfl (hcc 0 _ (by omega) rfl)) (hs.cell (k := 0) rfl (hcc 1 _ (by omega) rfl)) (hs.cell (k := 0) rfl (hcc 2 _ (by omega) rfl)) (hs.cell (k := 0) rfl (hcc 3 _ (by omega) rfl)) (hs.cell (k := 0) rfl (hcc 4 _ (by omega) rfl)) (hs.cell (k := 0) rfl (hcc 5 _ (by omega) rfl)) ?_
    refine s_alloc rfl AL35 hs ?_; clear hs; intro b5 w hs
    first
      | refine s_storeW Try.sizeOf35 rfl rfl rfl rfl hs (kk := 0) rfl rfl ?_
    clear hs; intro w hs; try simp only [List.set_cons_zero, List.set_cons_succ, splice, List.take_succ_cons, List.take_zero, List.drop_succ_cons, List.drop_zero, List.nil_append, List.cons_append, List.length_cons, List.length_nil, Nat.reduceAdd, List.append_assoc] at hs
    refine WL_nil ?_
    refine n_then ?_
    refine W_region ?_
    refine s_move rfl rfl ?_
    first
      | refine s_loadW Try.isAgg35 Try.sizeOf35 rfl rfl hs (kk := 0) rfl rfl ?_
    refine s_call Try.call44 rfl rfl (separate_ok xe _ w (hxv.sl w (hs.oldH hP (by simp))) (by have := hxo.1; unfold validP at this; omega)) ?_
    rintro r w ⟨v', Lr, rfl, hOr, hst⟩
    replace hs := St.back0 hs hst
    clear hst
    obtain ⟨_, qc, qa, rfl, hql⟩ := hOr.form
    subst hql
    simp only [Em.cells] at hs ⊢
    refine s_buildSlice rfl rfl (BS43_1 _ _ _ _ _ _) hs ?_; clear hs; intro b29 w hs
    refine s_appendM (M := [_] ++ (Lr ++ ([_] ++ [_]))) (X := LP1) El43 rfl rfl rfl hO3 (by simpa [cat] using hs) (hs.sl (k := 0) (ds := [_, _, _, _, _, _]) rfl (Nat.le_refl _) (by intro j u hj; rw [Nat.zero_add]; exact hj)) rfl (by simp [Value.oneCell']) (by omega) ?_
    clear hs hO3; intro v' w LB' hO3 hs
    replace hs : St [] w0 w ([(g, Blk 35 (emcells xs ++ sp))] ++ (LB' ++ (LP1 ++ Lr))) := by simpa [cat] using St.reord [[_], Lr, [_], [_], LB', LP1] [3, 4, 5, 1] [0, 2] (by simpa [cat] using hs) rfl
    refine s_assign rfl rfl ?_
    refine WL_nil ?_
    refine n_blk ?_
    refine n_then ?_
    refine W_region ?_
    first | (refine s_add' rfl rfl rfl ?hx ?_; case hx => (constructor <;> first | omega | (simp only; omega)))
    refine s_move rfl rfl ?_
    refine WL_nil ?_
    refine n_loop ?_
    refine ⟨⟨i + 1, ys ++ [⟨xe, .slice qa xe.bs.length qc⟩], v', LB', LP1 ++ Lr⟩, ⟨rfl, rfl, rfl, rfl, trivial⟩, ⟨hs, ?_, ?_, ?_, by simp only; omega⟩, by simp only; omega⟩
    · simpa [emcells_append, emcells, Em.cells] using hO3
    · intro y hy
      rcases List.mem_append.1 hy with hy | hy
      · obtain ⟨Ly, h1, h2⟩ := hM y hy
        exact ⟨Ly, h1, fun q hq => by simp [h2 q hq]⟩
      · obtain rfl := List.mem_singleton.1 hy; exact ⟨Lr, hOr, fun q hq => by simp [hq]⟩
    · rw [ens_append, hys, List.take_add_one, hxi, ens_append]; rfl
  · skip
    try simp only [decide_eq_true_eq, decide_eq_false_iff_not] at hc23
    refine W_exit ?_
    refine x_then ?_
    refine x_then ?_
    refine exit_hit ?_
    refine n_then ?_
    refine W_seq ?_
    refine W_region ?_
    refine s_move rfl rfl ?_
    refine s_assign rfl rfl ?_
    refine WL_nil ?_
    refine n_then ?_
    refine W_ret ?_
    rw [List.take_of_length_le (by omega), hent] at hys
    exact end1 rfl rfl ⟨ys, LB, LP1, ⟨hO3, hM.ems, hys⟩, hM, hs.right⟩
theorem committed_ok (p : Nat) (R : Rp) (L : Hp) (w0 : World) (h : RepAt p R L) (hR : ∀ q ∈ L, w0.heap[q.1]? = some q.2) :
    Ret Try.prog 16 [.pointer (some ⟨p, 0, none⟩)].toArray w0 fun r w' => ∃ ys LB LP, LogAt (R.log.take R.n) r ys LB LP ∧ St [] w0 w' (LB ++ LP) :=
  Ret.mono (committedO_ok p R L w0 h hR) fun _ _ ⟨ys, LB, LP, h1, _, h3⟩ => ⟨ys, LB, LP, h1, h3⟩
end Go.Proofs.Ytkobigdfijeajaa
