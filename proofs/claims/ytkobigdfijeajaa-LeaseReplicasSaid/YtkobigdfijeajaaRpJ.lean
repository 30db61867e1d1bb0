/- A replica: write. -/
import Derived.Test.YtkobigdfijeajaaRpI
set_option linter.unusedVariables false
set_option linter.unusedSimpArgs false
namespace Go.Proofs.Ytkobigdfijeajaa
open Go.SL
theorem clampV (a b c : Nat) : (if (c : Int) < (if (a : Int) < (b : Int) then (b : Int) else (a : Int)) then (c : Int) else (if (a : Int) < (b : Int) then (b : Int) else (a : Int))) = ((min (max a b) c : Nat) : Int) := by
  by_cases h : a < b
  · simp only [show (a : Int) < b from by omega, if_true]; split <;> omega
  · simp only [show ¬ (a : Int) < b from by omega, if_false]; split <;> omega
theorem Rp.ok.wrote {A : Rp} (h : A.ok) {m : Mg} (hm : m.ok) : (A.wrote m).ok := by
  obtain ⟨m1, m2, m3, m4, m5, m6, m7⟩ := hm
  unfold Rp.wrote Rp.adopt Rp.clamp
  split
  · exact ⟨h.m1, h.m3, h.id, h.term, m2, by simp, m6, by simp only; omega, m7⟩
  · exact ⟨h.m1, h.m3, h.id, h.term, h.lterm, by simp, h.log, by simp only; omega, h.es⟩
theorem Rp.wrote_same (A : Rp) (m : Mg) : (A.wrote m).id = A.id ∧ (A.wrote m).mem = A.mem ∧ (A.wrote m).term = A.term ∧ (A.wrote m).role = 0 := by
  unfold Rp.wrote Rp.adopt Rp.clamp; split <;> exact ⟨rfl, rfl, rfl, rfl⟩
set_option maxHeartbeats 4000000 in
theorem write_ok (p : Nat) (R : Rp) (L0 : Hp) (m : Mg) (frm : Nat) (lv' : Value) (es' : List Em) (LB' LP' L1 : Hp) (w0 : World) (hR : RepAt p R L0) (hlog' : LogAt m.log lv' es' LB' LP') (hm : m.ok) (hL1 : L1 = L0 ++ (LB' ++ LP')) (hs : St (ids L1) w0 w0 L1) :
    Ret Try.prog 50 [.pointer (some ⟨p, 0, none⟩), .agg (mesCells m frm lv').toArray].toArray w0 fun r w' => ∃ L', St (ids L1) w0 w' L' ∧ ∃ Lr LQ, L' = LQ ++ Lr ∧ RepAt p (R.write m frm).1 LQ ∧ MsAt r (R.write m frm).2 Lr := by
  have hR0 := hR
  obtain ⟨lv, vv, av, es, LB, LP, LV, LA, hL, hlog, hvo, hac, hav, hok⟩ := hR
  obtain ⟨la, lc, rfl, -⟩ := hlog.form
  obtain ⟨vx, rfl⟩ := hvo.val
  obtain ⟨ax, rfl⟩ := hav
  obtain ⟨la', lc', rfl, hel'⟩ := hlog'.form
  have hm0 := hm
  obtain ⟨m1, m2, m3, m4, m5, m6, m7⟩ := hm
  revert hs
  generalize ids L1 = F
  rw [hL1, hL]
  intro hs
  unfold rpCells at hs
  refine Ret_startL hs fun w hs => ?_
  refine Ret_of Try.func50 rfl Try.ntmps50 rfl ?_
  refine W_seq ?_
  refine W_region ?_
  first | refine s_box rfl rfl hs ?_
  clear hs; intro b3 w hs
  refine s_assign rfl rfl ?_
  refine WL_nil ?_
  refine n_then ?_
  refine W_seq ?_
  refine W_seq ?_
  refine W_draw [(0, true, []), (1, true, []), (2, true, []), (3, true, []), (4, true, []), (5, true, []), (6, true, [])] [[], [0], [], [2], [2, 3], [2, 3, 4], [0, 1, 2, 3, 4, 5]] MX (by kernel_rfl) ?_
  intro w1 hw1 hw2 hw3 hw4; replace hs := hs.redrawn hw1 hw2 hw3 hw4; clear hw1 hw2 hw3 hw4
  obtain ⟨w, rfl⟩ : ∃ w : World, w = w1 := ⟨_, rfl⟩
  refine D_q rfl rfl ?_
  refine s_fieldAddr rfl rfl (FA94_2 _ _) ?_
  refine D_qn ?_
  refine D_q rfl rfl ?_
  first
    | refine s_load Try.isAgg3 rfl rfl (hs.cell (k := 0) rfl rfl) ?_
  refine D_qn ?_
  refine D_q rfl rfl ?_
  refine s_move rfl rfl ?_
  refine D_qn ?_
  refine D_q rfl rfl ?_
  refine s_nilCheck rfl rfl ?_
  refine D_qn ?_
  refine D_q rfl rfl ?_
  refine s_fieldAddr rfl rfl (FA89_2 _ _) ?_
  refine D_qn ?_
  refine D_q rfl rfl ?_
  first
    | refine s_load Try.isAgg3 rfl rfl (hs.cell (k := 1) rfl rfl) ?_
  refine D_qn ?_
  refine D_q rfl rfl ?_
  refine s_lss rfl rfl rfl ?_
  refine D_qn ?_
  refine D_nil ?_
  refine n_then ?_
  refine W_cond rfl (fun hc11 => ?_) (fun hc11 => ?_)
  · skip
    try simp only [decide_eq_true_eq, decide_eq_false_iff_not, gt_iff_lt, beq_iff_eq, beq_eq_false_iff_ne, ne_eq] at hc11
    refine W_seq ?_
    refine W_region ?_
    refine s_assign rfl rfl ?_
    refine WL_nil ?_
    refine n_then ?_
    refine W_ret ?_
    refine r_then ?_
    first
      | (have hans : R.write m frm = (R, []) := by rw [Rp.write, if_pos (by omega)]
         rw [hans]
         refine end1 rfl rfl ⟨L0 ++ [], ?_, [], L0, rfl, hR0, MsAt.nil⟩
         rw [hL]
         simpa [cat, rpCells] using St.reord [[_], [_], LB, LP, LV, LA, LB', LP'] [1, 2, 3, 4, 5] [0, 6, 7] (by simpa [cat] using hs) rfl)
  · skip
    try simp only [decide_eq_true_eq, decide_eq_false_iff_not, gt_iff_lt, beq_iff_eq, beq_eq_false_iff_ne, ne_eq] at hc11
    refine W_skip ?_
    refine n_then ?_
    refine W_seq ?_
    refine W_region ?_
    refine s_move rfl rfl ?_
    refine s_fieldAddr rfl rfl (FA94_2 _ _) ?_
    first
      | refine s_load Try.isAgg3 rfl rfl (hs.cell (k := 0) rfl rfl) ?_
    replace hs : St F w0 w ([(b3, Blk 94 (mesCells m frm (.slice la' m.log.length lc')))] ++ (L0 ++ (LB' ++ LP'))) := by rw [hL]; simpa [rpCells] using hs
    refine s_callL (M := [_]) (L1 := L0) (X := LB' ++ LP') Try.call72 rfl rfl hs (fun h => follow_ok p R m.term L0 w hR0 m2 h) ?_
    clear hs; rintro u w L9 hR1 - hs
    obtain ⟨e1, e2, e3, e4, e5⟩ := R.follow_same m.term
    obtain ⟨lv9, vv9, av9, es9, LB9, LP9, LV9, LA9, rfl, hlog9, hvo9, hac9, hav9, hok9⟩ := hR1
    have hans : R.write m frm = ((R.follow m.term).wrote m, [⟨(R.follow m.term).id, frm, ((R.follow m.term).wrote m).ackM⟩]) := by rw [Rp.write, if_neg (by omega), e1]
    rw [hans]
    clear hans e1 e2 e3 e4 e5 hac9
    generalize R.follow m.term = A at hs hlog9 hvo9 hok9 ⊢
    obtain ⟨la9, lc9, rfl, hel9⟩ := hlog9.form
    obtain ⟨vx9, rfl⟩ := hvo9.val
    obtain ⟨ax9, rfl⟩ := hav9
    simp only [rpCells, mesCells, List.cons_append, List.nil_append] at hs
    refine WL_nil ?_
    refine n_then ?_
    refine W_seq ?_
    refine W_region ?_
    refine s_move rfl rfl ?_
    refine s_nilCheck rfl rfl ?_
    refine s_fieldAddr rfl rfl (FA89_4 _ _) ?_
    first
      | refine s_storeB Try.sizeOf3 rfl rfl rfl hs (kk := 1) rfl rfl ?_
    clear hs; intro w hs; try simp only [List.set_cons_zero, List.set_cons_succ, splice, List.take_succ_cons, List.take_zero, List.drop_succ_cons, List.drop_zero, List.nil_append, List.cons_append, List.length_cons, List.length_nil, Nat.reduceAdd, List.append_assoc] at hs
    refine WL_nil ?_
    refine n_then ?_
    refine W_seq ?_
    refine W_seq ?_
    refine W_draw [(0, true, []), (1, true, []), (2, true, []), (3, true, []), (4, true, []), (5, true, []), (6, true, []), (7, true, []), (8, true, []), (9, true, []), (10, true, []), (11, true, []), (12, true, []), (13, true, []), (14, true, []), (15, true, []), (16, true, []), (17, true, []), (18, true, []), (19, true, []), (20, true, []), (21, true, []), (22, true, []), (23, true, []), (24, true, []), (25, true, []), (26, true, [])] [[], [0], [], [2], [2, 3], [2, 3, 4], [0, 1, 2, 3, 4, 5], [0, 1, 2, 3, 4, 5, 6], [0, 1, 2, 3, 4, 5, 6, 7], [0, 1, 2, 3, 4, 5, 6, 7, 8], [0, 1, 2, 3, 4, 5, 6, 7], [0, 1, 2, 3, 4, 5, 6, 7, 10], [0, 1, 2, 3, 4, 5, 6, 7, 10, 11], [0, 1, 2, 3, 4, 5, 6, 7, 10, 11, 12], [0, 1, 2, 3, 4, 5, 6, 7, 8, 9, 10, 11, 12, 13], [0, 1, 2, 3, 4, 5, 6, 7, 8, 9, 10, 11, 12, 13, 14], [0, 1, 2, 3, 4, 5, 6, 7, 8, 9, 10, 11, 12, 13, 14, 15], [0, 1, 2, 3, 4, 5, 6, 7, 8, 9, 10, 11, 12, 13, 14, 15, 16], [0, 1, 2, 3, 4, 5, 6, 7, 8, 9, 10, 11, 12, 13, 14, 15, 16, 17], [0, 1, 2, 3, 4, 5, 6, 7, 8, 9, 10, 11, 12, 13, 14, 15], [0, 1, 2, 3, 4, 5, 6, 7, 8, 9, 10, 11, 12, 13, 14, 15, 19], [0, 1, 2, 3, 4, 5, 6, 7, 8, 9, 10, 11, 12, 13, 14, 15, 19, 20], [0, 1, 2, 3, 4, 5, 6, 7, 8, 9, 10, 11, 12, 13, 14, 15, 19, 20, 21], [0, 1, 2, 3, 4, 5, 6, 7, 8, 9, 10, 11, 12, 13, 14, 15, 19, 20, 21, 22], [0, 1, 2, 3, 4, 5, 6, 7, 8, 9, 10, 11, 12, 13, 14, 15, 16, 17, 18, 19, 20, 21, 22, 23], [0, 1, 2, 3, 4, 5, 6, 7, 8, 9, 10, 11, 12, 13, 14, 15, 16, 17, 18, 19, 20, 21, 22, 23, 24], [0, 1, 2, 3, 4, 5, 6, 7, 8, 9, 10, 11, 12, 13, 14, 15, 16, 17, 18, 19, 20, 21, 22, 23, 24, 25]] MX (by kernel_rfl) ?_
    intro w1 hw1 hw2 hw3 hw4; replace hs := hs.redrawn hw1 hw2 hw3 hw4; clear hw1 hw2 hw3 hw4
    obtain ⟨w, rfl⟩ : ∃ w : World, w = w1 := ⟨_, rfl⟩
    refine D_q rfl rfl ?_
    refine s_fieldAddr rfl rfl (FA94_2 _ _) ?_
    refine D_qn ?_
    refine D_q rfl rfl ?_
    first
      | refine s_load Try.isAgg3 rfl rfl (hs.cell (k := 0) rfl rfl) ?_
    refine D_qn ?_
    refine D_q rfl rfl ?_
    refine s_move rfl rfl ?_
    refine D_qn ?_
    refine D_q rfl rfl ?_
    refine s_nilCheck rfl rfl ?_
    refine D_qn ?_
    refine D_q rfl rfl ?_
    refine s_fieldAddr rfl rfl (FA89_3 _ _) ?_
    refine D_qn ?_
    refine D_q rfl rfl ?_
    first
      | refine s_load Try.isAgg3 rfl rfl (hs.cell (k := 1) rfl rfl) ?_
    refine D_qn ?_
    refine D_q rfl rfl ?_
    refine s_gtr rfl rfl rfl ?_
    refine D_qn ?_
    refine D_q rfl rfl ?_
    refine s_move rfl rfl ?_
    refine WL_case (s := 26) rfl (fun hg26 => ?_) (fun hg26 => ?_)
    · skip
      try simp only [decide_eq_true_eq, decide_eq_false_iff_not, gt_iff_lt, beq_iff_eq, beq_eq_false_iff_ne, ne_eq] at hg26
      refine D_qn ?_
      refine D_q rfl rfl ?_
      refine WL_skip rfl rfl rfl ?_
      refine D_qn ?_
      refine D_q rfl rfl ?_
      refine WL_skip rfl rfl rfl ?_
      refine D_qn ?_
      refine D_q rfl rfl ?_
      refine WL_skip rfl rfl rfl ?_
      refine D_qn ?_
      refine D_q rfl rfl ?_
      refine WL_skip rfl rfl rfl ?_
      refine D_qn ?_
      refine D_q rfl rfl ?_
      refine WL_skip rfl rfl rfl ?_
      refine D_qn ?_
      refine D_q rfl rfl ?_
      refine WL_skip rfl rfl rfl ?_
      refine D_qn ?_
      refine D_q rfl rfl ?_
      refine WL_skip rfl rfl rfl ?_
      refine D_qn ?_
      refine D_q rfl rfl ?_
      refine WL_skip rfl rfl rfl ?_
      refine D_qn ?_
      refine D_q rfl rfl ?_
      refine WL_skipU rfl rfl ?_
      refine D_qn ?_
      refine D_q rfl rfl ?_
      refine WL_skipU rfl rfl ?_
      refine D_qn ?_
      refine D_q rfl rfl ?_
      refine WL_skipU rfl rfl ?_
      refine D_qn ?_
      refine D_q rfl rfl ?_
      refine WL_skipU rfl rfl ?_
      refine D_qn ?_
      refine D_q rfl rfl ?_
      refine WL_skipU rfl rfl ?_
      refine D_qn ?_
      refine D_q rfl rfl ?_
      refine WL_skipU rfl rfl ?_
      refine D_qn ?_
      refine D_q rfl rfl ?_
      refine WL_skipU rfl rfl ?_
      refine D_qn ?_
      refine D_q rfl rfl ?_
      refine WL_skipU rfl rfl ?_
      refine D_qn ?_
      refine D_q rfl rfl ?_
      refine WL_skipU rfl rfl ?_
      refine D_qn ?_
      refine D_q rfl rfl ?_
      refine WL_skip rfl rfl rfl ?_
      refine D_qn ?_
      refine D_q rfl rfl ?_
      refine s_pick_t rfl rfl rfl ?_
      refine D_qn ?_
      refine D_nil ?_
      refine n_then ?_
      refine W_cond_t rfl ?_
      refine W_draw [(0, true, []), (1, true, []), (2, true, []), (3, true, []), (4, true, []), (5, true, []), (6, true, []), (7, true, []), (8, false, [1, 4, 5]), (9, true, []), (10, true, []), (11, false, [])] [[], [], [], [2], [], [4], [0, 2, 3], [0, 2, 3, 6], [0, 2, 3, 6, 7], [0, 1, 2, 3, 4, 5, 6, 7, 8], [0, 1, 2, 3, 4, 5, 6, 7, 8, 9], [0, 1, 2, 3, 4, 5, 6, 7, 8, 9, 10]] MX (by kernel_rfl) ?_
      intro w1 hw1 hw2 hw3 hw4; replace hs := hs.redrawn hw1 hw2 hw3 hw4; clear hw1 hw2 hw3 hw4
      obtain ⟨w, rfl⟩ : ∃ w : World, w = w1 := ⟨_, rfl⟩
      refine D_q rfl rfl ?_
      refine s_move rfl rfl ?_
      refine D_qn ?_
      refine D_q rfl rfl ?_
      refine s_move rfl rfl ?_
      refine D_qn ?_
      refine D_q rfl rfl ?_
      refine s_fieldAddr rfl rfl (FA94_6 _ _) ?_
      refine D_qn ?_
      refine D_q rfl rfl ?_
      first
        | refine s_load Try.isAgg43 rfl rfl (hs.cell (k := 0) rfl rfl) ?_
      refine D_qn ?_
      refine D_q rfl rfl ?_
      refine s_fieldAddr rfl rfl (FA94_2 _ _) ?_
      refine D_qn ?_
      refine D_q rfl rfl ?_
      first
        | refine s_load Try.isAgg3 rfl rfl (hs.cell (k := 0) rfl rfl) ?_
      refine D_qn ?_
      refine D_q rfl rfl ?_
      refine s_nilCheck rfl rfl ?_
      refine D_qn ?_
      refine D_q rfl rfl ?_
      refine s_fieldAddr rfl rfl (FA89_5 _ _) ?_
      refine D_qn ?_
      refine D_e rfl ?_
      first
        | refine s_storeB Try.sizeOf43 rfl rfl rfl hs (kk := 1) rfl rfl ?_
      clear hs; intro w hs; try simp only [List.set_cons_zero, List.set_cons_succ, splice, List.take_succ_cons, List.take_zero, List.drop_succ_cons, List.drop_zero, List.nil_append, List.cons_append, List.length_cons, List.length_nil, Nat.reduceAdd, List.append_assoc] at hs
      refine D_en ?re ?_
      case re =>
        refine Reks_cons rfl rfl rfl rfl ?_ ?_
        · skip
          refine s_move rfl rfl ?_
          exact Rek_end rfl
        refine Reks_cons rfl rfl rfl rfl ?_ ?_
        · skip
          refine s_fieldAddr rfl rfl (FA94_2 _ _) ?_
          exact Rek_end rfl
        refine Reks_cons rfl rfl rfl rfl ?_ ?_
        · skip
          first
            | refine s_load Try.isAgg3 rfl rfl (hs.cell (k := 0) rfl rfl) ?_
          exact Rek_end rfl
        exact Reks_nil
      refine D_q rfl rfl ?_
      refine s_nilCheck rfl rfl ?_
      refine D_qn ?_
      refine D_q rfl rfl ?_
      refine s_fieldAddr rfl rfl (FA89_3 _ _) ?_
      refine D_qn ?_
      refine D_e rfl ?_
      first
        | refine s_storeB Try.sizeOf3 rfl rfl rfl hs (kk := 1) rfl rfl ?_
      clear hs; intro w hs; try simp only [List.set_cons_zero, List.set_cons_succ, splice, List.take_succ_cons, List.take_zero, List.drop_succ_cons, List.drop_zero, List.nil_append, List.cons_append, List.length_cons, List.length_nil, Nat.reduceAdd, List.append_assoc] at hs
      refine D_en ?re ?_
      case re =>
        exact Reks_nil
      refine D_nil ?_
      refine n_then ?_
      refine W_seq ?_
      refine W_draw [(0, true, []), (1, true, []), (2, true, []), (3, true, []), (4, true, []), (5, true, []), (6, true, []), (7, true, []), (8, true, []), (9, true, []), (10, true, []), (11, true, []), (12, true, []), (13, true, []), (14, true, []), (15, true, []), (16, false, [])] [[], [], [1], [1, 2], [1, 2, 3], [], [5], [1, 2, 3, 4, 5, 6], [], [8], [8, 9], [8, 9, 10], [8, 9, 10, 11], [1, 2, 3, 4, 5, 6, 7, 8, 9, 10, 11, 12], [0, 1, 2, 3, 4, 5, 6, 7, 8, 9, 10, 11, 12, 13], [0, 1, 2, 3, 4, 5, 6, 7, 8, 9, 10, 11, 12, 13, 14], [0, 1, 2, 3, 4, 5, 6, 7, 8, 9, 10, 11, 12, 13, 14, 15]] MX (by kernel_rfl) ?_
      intro w1 hw1 hw2 hw3 hw4; replace hs := hs.redrawn hw1 hw2 hw3 hw4; clear hw1 hw2 hw3 hw4
      obtain ⟨w, rfl⟩ : ∃ w : World, w = w1 := ⟨_, rfl⟩
      refine D_q rfl rfl ?_
      refine s_move rfl rfl ?_
      refine D_qn ?_
      refine D_q rfl rfl ?_
      refine s_move rfl rfl ?_
      refine D_qn ?_
      refine D_q rfl rfl ?_
      refine s_nilCheck rfl rfl ?_
      refine D_qn ?_
      refine D_q rfl rfl ?_
      refine s_fieldAddr rfl rfl (FA89_6 _ _) ?_
      refine D_qn ?_
      refine D_q rfl rfl ?_
      first
        | refine s_load Try.isAgg3 rfl rfl (hs.cell (k := 1) rfl rfl) ?_
      refine D_qn ?_
      refine D_q rfl rfl ?_
      refine s_fieldAddr rfl rfl (FA94_4 _ _) ?_
      refine D_qn ?_
      refine D_q rfl rfl ?_
      first
        | refine s_load Try.isAgg3 rfl rfl (hs.cell (k := 0) rfl rfl) ?_
      refine D_qn ?_
      refine D_q rfl rfl ?_
      refine s_max rfl rfl rfl ?_
      refine D_qn ?_
      refine D_q rfl rfl ?_
      refine s_move rfl rfl ?_
      refine D_qn ?_
      refine D_q rfl rfl ?_
      refine s_nilCheck rfl rfl ?_
      refine D_qn ?_
      refine D_q rfl rfl ?_
      refine s_fieldAddr rfl rfl (FA89_5 _ _) ?_
      refine D_qn ?_
      refine D_q rfl rfl ?_
      first
        | refine s_load Try.isAgg43 rfl rfl (hs.cell (k := 1) rfl rfl) ?_
      refine D_qn ?_
      refine D_q rfl rfl ?_
      refine s_len rfl rfl (LN43 _ _ _ _) ?_
      refine D_qn ?_
      refine D_q rfl rfl ?_
      refine s_min rfl rfl rfl ?_
      refine D_qn ?_
      refine D_q rfl rfl ?_
      refine s_nilCheck rfl rfl ?_
      refine D_qn ?_
      refine D_q rfl rfl ?_
      refine s_fieldAddr rfl rfl (FA89_6 _ _) ?_
      refine D_qn ?_
      refine D_e rfl ?_
      first
        | refine s_storeB Try.sizeOf3 rfl rfl rfl hs (kk := 1) rfl rfl ?_
      clear hs; intro w hs; try simp only [List.set_cons_zero, List.set_cons_succ, splice, List.take_succ_cons, List.take_zero, List.drop_succ_cons, List.drop_zero, List.nil_append, List.cons_append, List.length_cons, List.length_nil, Nat.reduceAdd, List.append_assoc] at hs
      refine D_en ?re ?_
      case re =>
        exact Reks_nil
      refine D_nil ?_
      refine n_then ?_
      refine W_seq ?_
      refine W_draw [(0, true, []), (1, true, []), (2, true, []), (3, true, []), (4, true, []), (5, true, []), (6, true, []), (7, true, []), (8, true, []), (9, true, []), (10, true, []), (11, true, []), (12, true, []), (13, false, []), (14, true, [])] [[], [], [1], [], [3], [3, 4], [3, 4, 5], [], [7], [7, 8], [7, 8, 9], [7, 8, 9, 10], [3, 4, 5, 6, 7, 8, 9, 10, 11], [0, 1, 2, 3, 4, 5, 6, 7, 8, 9, 10, 11, 12], [0, 1, 2, 3, 4, 5, 6, 7, 8, 9, 10, 11, 12, 13]] MX (by kernel_rfl) ?_
      intro w1 hw1 hw2 hw3 hw4; replace hs := hs.redrawn hw1 hw2 hw3 hw4; clear hw1 hw2 hw3 hw4
      obtain ⟨w, rfl⟩ : ∃ w : World, w = w1 := ⟨_, rfl⟩
      refine D_q rfl rfl ?_
      refine s_move rfl rfl ?_
      refine D_qn ?_
      refine D_q rfl rfl ?_
      refine s_fieldAddr rfl rfl (FA94_1 _ _) ?_
      refine D_qn ?_
      refine D_q rfl rfl ?_
      first
        | refine s_load Try.isAgg3 rfl rfl (hs.cell (k := 0) rfl rfl) ?_
      refine D_qn ?_
      refine D_q rfl rfl ?_
      refine s_move rfl rfl ?_
      refine D_qn ?_
      refine D_q rfl rfl ?_
      refine s_nilCheck rfl rfl ?_
      refine D_qn ?_
      refine D_q rfl rfl ?_
      refine s_fieldAddr rfl rfl (FA89_2 _ _) ?_
      refine D_qn ?_
      refine D_q rfl rfl ?_
      first
        | refine s_load Try.isAgg3 rfl rfl (hs.cell (k := 1) rfl rfl) ?_
      refine D_qn ?_
      refine D_q rfl rfl ?_
      refine s_move rfl rfl ?_
      refine D_qn ?_
      refine D_q rfl rfl ?_
      refine s_nilCheck rfl rfl ?_
      refine D_qn ?_
      refine D_q rfl rfl ?_
      refine s_fieldAddr rfl rfl (FA89_5 _ _) ?_
      refine D_qn ?_
      refine D_q rfl rfl ?_
      first
        | refine s_load Try.isAgg43 rfl rfl (hs.cell (k := 1) rfl rfl) ?_
      refine D_qn ?_
      refine D_q rfl rfl ?_
      refine s_len rfl rfl (LN43 _ _ _ _) ?_
      refine D_qn ?_
      refine D_q rfl rfl ?_
      refine s_build rfl rfl (BD94_0_2_5 _ _ _) ?_
      refine D_qn ?_
      refine D_e rfl ?_
      obtain ⟨q1, q2, q3, q4⟩ := A.wrote_same m
      have hwok := hok9.wrote hm0
      rw [clampV] at hs
      first
        | (have ht :  Rp.takes { A with role := 0 } m.term m.log := by unfold Rp.takes; simp only; omega
           obtain ⟨Y, hY⟩ : ∃ Y : Rp, Y = Rp.clamp { A with role := 0, log := m.log, lterm := m.term } m.n := ⟨_, rfl⟩
           have e : A.wrote m = Y := by rw [hY, Rp.wrote, Rp.adopt, if_pos ht]
           rw [e] at hwok ⊢
           have hlogB : LogAt Y.log (.slice la' m.log.length lc') es' LB' LP' := by rw [hY]; exact hlog'
           replace hs : St F w0 w ((p, Blk 89 (rpCells Y (.slice la' m.log.length lc') (.map vx9) (.map ax9))) :: ((b3, Blk 94 (mesCells m frm (.slice la' m.log.length lc'))) :: (LB' ++ (LP' ++ (LV9 ++ LA9))))) := by
             rw [hY]; simpa [cat, rpCells, mesCells, Rp.clamp] using St.reord [[_], [_], LB9, LP9, LV9, LA9, LB', LP'] [1, 0, 6, 7, 4, 5] [2, 3] (by simpa [cat] using hs) rfl
           have hRB : RepAt p Y ((p, Blk 89 (rpCells Y (.slice la' m.log.length lc') (.map vx9) (.map ax9))) :: (LB' ++ (LP' ++ (LV9 ++ LA9)))) := by
             have := hvo9.off (r' := 0) (by decide)
             have hY0 : Y.role = 0 := by rw [hY]; rfl
             exact ⟨.slice la' m.log.length lc', .map vx9, .map ax9, es', LB', LP', LV9, LA9, by simp, hlogB, by rw [hY0]; exact this, fun h => (by rw [hY0] at h; cases h), ⟨_, rfl⟩, hwok⟩
           replace hs := St.reord [[_], [_], LB' ++ (LP' ++ (LV9 ++ LA9))] [0, 2] [1] (by simpa [cat] using hs) rfl
           simp only [List.map_cons, List.map_nil, List.getD_cons_zero, List.getD_cons_succ, cat, List.cons_append, List.nil_append] at hs
           generalize hLQ : (p, Blk 89 (rpCells Y (.slice la' m.log.length lc') (.map vx9) (.map ax9))) :: (LB' ++ (LP' ++ (LV9 ++ LA9))) = LQ at hRB hs
           have hpat : w.heap[p]? = some (Blk 89 (rpCells Y (.slice la' m.log.length lc') (.map vx9) (.map ax9))) := hs.own _ (by rw [← hLQ]; exact List.mem_cons_self)
           subst hY
           refine s_call Try.call73 rfl rfl (answer_ok p A.id frm _ (Rp.ackM (Rp.clamp { A with role := 0, log := m.log, lterm := m.term } m.n)) (.slice none 0 0) [] [] w hpat rfl ⟨none, 0, rfl, Nat.le_refl _, .inl rfl⟩ nofun nofun rfl hwok.ackM) ?_)
      rintro r w ⟨Lr, hMs, hst⟩
      replace hs := (hs.back0 hst).swap (A := Lr)
      clear hst
      refine D_en ?re ?_
      case re =>
        exact Reks_nil
      refine D_q rfl rfl ?_
      refine s_assign rfl rfl ?_
      refine D_qn ?_
      refine D_nil ?_
      refine n_then ?_
      refine W_ret ?_
      first
        | (refine end1 rfl rfl ⟨LQ ++ Lr, hs, Lr, LQ, rfl, hRB, hMs⟩)
    · skip
      try simp only [decide_eq_true_eq, decide_eq_false_iff_not, gt_iff_lt, beq_iff_eq, beq_eq_false_iff_ne, ne_eq] at hg26
      refine D_qn ?_
      refine D_q rfl rfl ?_
      refine WL_take rfl ?_
      refine s_fieldAddr rfl rfl (FA94_2 _ _) ?_
      refine D_qn ?_
      refine D_q rfl rfl ?_
      refine WL_take rfl ?_
      first
        | refine s_load Try.isAgg3 rfl rfl (hs.cell (k := 0) rfl rfl) ?_
      refine D_qn ?_
      refine D_q rfl rfl ?_
      refine WL_take rfl ?_
      refine s_move rfl rfl ?_
      refine D_qn ?_
      refine D_q rfl rfl ?_
      refine WL_take rfl ?_
      refine s_nilCheck rfl rfl ?_
      refine D_qn ?_
      refine D_q rfl rfl ?_
      refine WL_take rfl ?_
      refine s_fieldAddr rfl rfl (FA89_3 _ _) ?_
      refine D_qn ?_
      refine D_q rfl rfl ?_
      refine WL_take rfl ?_
      first
        | refine s_load Try.isAgg3 rfl rfl (hs.cell (k := 1) rfl rfl) ?_
      refine D_qn ?_
      refine D_q rfl rfl ?_
      refine WL_take rfl ?_
      refine s_eql rfl rfl rfl ?_
      refine D_qn ?_
      refine D_q rfl rfl ?_
      refine WL_take rfl ?_
      refine s_move rfl rfl ?_
      refine WL_case (s := 34) rfl (fun hg34 => ?_) (fun hg34 => ?_)
      · skip
        try simp only [decide_eq_true_eq, decide_eq_false_iff_not, gt_iff_lt, beq_iff_eq, beq_eq_false_iff_ne, ne_eq] at hg34
        refine D_qn ?_
        refine D_q rfl rfl ?_
        refine WL_take rfl ?_
        refine s_fieldAddr rfl rfl (FA94_6 _ _) ?_
        refine D_qn ?_
        refine D_q rfl rfl ?_
        refine WL_take rfl ?_
        first
          | refine s_load Try.isAgg43 rfl rfl (hs.cell (k := 0) rfl rfl) ?_
        refine D_qn ?_
        refine D_q rfl rfl ?_
        refine WL_take rfl ?_
        refine s_len rfl rfl (LN43 _ _ _ _) ?_
        refine D_qn ?_
        refine D_q rfl rfl ?_
        refine WL_take rfl ?_
        refine s_move rfl rfl ?_
        refine D_qn ?_
        refine D_q rfl rfl ?_
        refine WL_take rfl ?_
        refine s_nilCheck rfl rfl ?_
        refine D_qn ?_
        refine D_q rfl rfl ?_
        refine WL_take rfl ?_
        refine s_fieldAddr rfl rfl (FA89_5 _ _) ?_
        refine D_qn ?_
        refine D_q rfl rfl ?_
        refine WL_take rfl ?_
        first
          | refine s_load Try.isAgg43 rfl rfl (hs.cell (k := 1) rfl rfl) ?_
        refine D_qn ?_
        refine D_q rfl rfl ?_
        refine WL_take rfl ?_
        refine s_len rfl rfl (LN43 _ _ _ _) ?_
        refine D_qn ?_
        refine D_q rfl rfl ?_
        refine WL_take rfl ?_
        refine s_gtr rfl rfl rfl ?_
        refine D_qn ?_
        refine D_q rfl rfl ?_
        refine WL_take rfl ?_
        refine s_pick_t rfl rfl rfl ?_
        refine D_qn ?_
        refine D_q rfl rfl ?_
        refine s_pick_f rfl rfl rfl ?_
        refine D_qn ?_
        refine D_nil ?_
        refine n_then ?_
        refine W_cond rfl (fun hc45 => ?_) (fun hc45 => ?_)
        · skip
          try simp only [decide_eq_true_eq, decide_eq_false_iff_not, gt_iff_lt, beq_iff_eq, beq_eq_false_iff_ne, ne_eq] at hc45
          refine W_draw [(0, true, []), (1, true, []), (2, true, []), (3, true, []), (4, true, []), (5, true, []), (6, true, []), (7, true, []), (8, false, [1, 4, 5]), (9, true, []), (10, true, []), (11, false, [])] [[], [], [], [2], [], [4], [0, 2, 3], [0, 2, 3, 6], [0, 2, 3, 6, 7], [0, 1, 2, 3, 4, 5, 6, 7, 8], [0, 1, 2, 3, 4, 5, 6, 7, 8, 9], [0, 1, 2, 3, 4, 5, 6, 7, 8, 9, 10]] MX (by kernel_rfl) ?_
          intro w1 hw1 hw2 hw3 hw4; replace hs := hs.redrawn hw1 hw2 hw3 hw4; clear hw1 hw2 hw3 hw4
          obtain ⟨w, rfl⟩ : ∃ w : World, w = w1 := ⟨_, rfl⟩
          refine D_q rfl rfl ?_
          refine s_move rfl rfl ?_
          refine D_qn ?_
          refine D_q rfl rfl ?_
          refine s_move rfl rfl ?_
          refine D_qn ?_
          refine D_q rfl rfl ?_
          refine s_fieldAddr rfl rfl (FA94_6 _ _) ?_
          refine D_qn ?_
          refine D_q rfl rfl ?_
          first
            | refine s_load Try.isAgg43 rfl rfl (hs.cell (k := 0) rfl rfl) ?_
          refine D_qn ?_
          refine D_q rfl rfl ?_
          refine s_fieldAddr rfl rfl (FA94_2 _ _) ?_
          refine D_qn ?_
          refine D_q rfl rfl ?_
          first
            | refine s_load Try.isAgg3 rfl rfl (hs.cell (k := 0) rfl rfl) ?_
          refine D_qn ?_
          refine D_q rfl rfl ?_
          refine s_nilCheck rfl rfl ?_
          refine D_qn ?_
          refine D_q rfl rfl ?_
          refine s_fieldAddr rfl rfl (FA89_5 _ _) ?_
          refine D_qn ?_
          refine D_e rfl ?_
          first
            | refine s_storeB Try.sizeOf43 rfl rfl rfl hs (kk := 1) rfl rfl ?_
          clear hs; intro w hs; try simp only [List.set_cons_zero, List.set_cons_succ, splice, List.take_succ_cons, List.take_zero, List.drop_succ_cons, List.drop_zero, List.nil_append, List.cons_append, List.length_cons, List.length_nil, Nat.reduceAdd, List.append_assoc] at hs
          refine D_en ?re ?_
          case re =>
            refine Reks_cons rfl rfl rfl rfl ?_ ?_
            · skip
              refine s_move rfl rfl ?_
              exact Rek_end rfl
            refine Reks_cons rfl rfl rfl rfl ?_ ?_
            · skip
              refine s_fieldAddr rfl rfl (FA94_2 _ _) ?_
              exact Rek_end rfl
            refine Reks_cons rfl rfl rfl rfl ?_ ?_
            · skip
              first
                | refine s_load Try.isAgg3 rfl rfl (hs.cell (k := 0) rfl rfl) ?_
              exact Rek_end rfl
            exact Reks_nil
          refine D_q rfl rfl ?_
          refine s_nilCheck rfl rfl ?_
          refine D_qn ?_
          refine D_q rfl rfl ?_
          refine s_fieldAddr rfl rfl (FA89_3 _ _) ?_
          refine D_qn ?_
          refine D_e rfl ?_
          first
            | refine s_storeB Try.sizeOf3 rfl rfl rfl hs (kk := 1) rfl rfl ?_
          clear hs; intro w hs; try simp only [List.set_cons_zero, List.set_cons_succ, splice, List.take_succ_cons, List.take_zero, List.drop_succ_cons, List.drop_zero, List.nil_append, List.cons_append, List.length_cons, List.length_nil, Nat.reduceAdd, List.append_assoc] at hs
          refine D_en ?re ?_
          case re =>
            exact Reks_nil
          refine D_nil ?_
          refine n_then ?_
          refine W_seq ?_
          refine W_draw [(0, true, []), (1, true, []), (2, true, []), (3, true, []), (4, true, []), (5, true, []), (6, true, []), (7, true, []), (8, true, []), (9, true, []), (10, true, []), (11, true, []), (12, true, []), (13, true, []), (14, true, []), (15, true, []), (16, false, [])] [[], [], [1], [1, 2], [1, 2, 3], [], [5], [1, 2, 3, 4, 5, 6], [], [8], [8, 9], [8, 9, 10], [8, 9, 10, 11], [1, 2, 3, 4, 5, 6, 7, 8, 9, 10, 11, 12], [0, 1, 2, 3, 4, 5, 6, 7, 8, 9, 10, 11, 12, 13], [0, 1, 2, 3, 4, 5, 6, 7, 8, 9, 10, 11, 12, 13, 14], [0, 1, 2, 3, 4, 5, 6, 7, 8, 9, 10, 11, 12, 13, 14, 15]] MX (by kernel_rfl) ?_
          intro w1 hw1 hw2 hw3 hw4; replace hs := hs.redrawn hw1 hw2 hw3 hw4; clear hw1 hw2 hw3 hw4
          obtain ⟨w, rfl⟩ : ∃ w : World, w = w1 := ⟨_, rfl⟩
          refine D_q rfl rfl ?_
          refine s_move rfl rfl ?_
          refine D_qn ?_
          refine D_q rfl rfl ?_
          refine s_move rfl rfl ?_
          refine D_qn ?_
          refine D_q rfl rfl ?_
          refine s_nilCheck rfl rfl ?_
          refine D_qn ?_
          refine D_q rfl rfl ?_
          refine s_fieldAddr rfl rfl (FA89_6 _ _) ?_
          refine D_qn ?_
          refine D_q rfl rfl ?_
          first
            | refine s_load Try.isAgg3 rfl rfl (hs.cell (k := 1) rfl rfl) ?_
          refine D_qn ?_
          refine D_q rfl rfl ?_
          refine s_fieldAddr rfl rfl (FA94_4 _ _) ?_
          refine D_qn ?_
          refine D_q rfl rfl ?_
          first
            | refine s_load Try.isAgg3 rfl rfl (hs.cell (k := 0) rfl rfl) ?_
          refine D_qn ?_
          refine D_q rfl rfl ?_
          refine s_max rfl rfl rfl ?_
          refine D_qn ?_
          refine D_q rfl rfl ?_
          refine s_move rfl rfl ?_
          refine D_qn ?_
          refine D_q rfl rfl ?_
          refine s_nilCheck rfl rfl ?_
          refine D_qn ?_
          refine D_q rfl rfl ?_
          refine s_fieldAddr rfl rfl (FA89_5 _ _) ?_
          refine D_qn ?_
          refine D_q rfl rfl ?_
          first
            | refine s_load Try.isAgg43 rfl rfl (hs.cell (k := 1) rfl rfl) ?_
          refine D_qn ?_
          refine D_q rfl rfl ?_
          refine s_len rfl rfl (LN43 _ _ _ _) ?_
          refine D_qn ?_
          refine D_q rfl rfl ?_
          refine s_min rfl rfl rfl ?_
          refine D_qn ?_
          refine D_q rfl rfl ?_
          refine s_nilCheck rfl rfl ?_
          refine D_qn ?_
          refine D_q rfl rfl ?_
          refine s_fieldAddr rfl rfl (FA89_6 _ _) ?_
          refine D_qn ?_
          refine D_e rfl ?_
          first
            | refine s_storeB Try.sizeOf3 rfl rfl rfl hs (kk := 1) rfl rfl ?_
          clear hs; intro w hs; try simp only [List.set_cons_zero, List.set_cons_succ, splice, List.take_succ_cons, List.take_zero, List.drop_succ_cons, List.drop_zero, List.nil_append, List.cons_append, List.length_cons, List.length_nil, Nat.reduceAdd, List.append_assoc] at hs
          refine D_en ?re ?_
          case re =>
            exact Reks_nil
          refine D_nil ?_
          refine n_then ?_
          refine W_seq ?_
          refine W_draw [(0, true, []), (1, true, []), (2, true, []), (3, true, []), (4, true, []), (5, true, []), (6, true, []), (7, true, []), (8, true, []), (9, true, []), (10, true, []), (11, true, []), (12, true, []), (13, false, []), (14, true, [])] [[], [], [1], [], [3], [3, 4], [3, 4, 5], [], [7], [7, 8], [7, 8, 9], [7, 8, 9, 10], [3, 4, 5, 6, 7, 8, 9, 10, 11], [0, 1, 2, 3, 4, 5, 6, 7, 8, 9, 10, 11, 12], [0, 1, 2, 3, 4, 5, 6, 7, 8, 9, 10, 11, 12, 13]] MX (by kernel_rfl) ?_
          intro w1 hw1 hw2 hw3 hw4; replace hs := hs.redrawn hw1 hw2 hw3 hw4; clear hw1 hw2 hw3 hw4
          obtain ⟨w, rfl⟩ : ∃ w : World, w = w1 := ⟨_, rfl⟩
          refine D_q rfl rfl ?_
          refine s_move rfl rfl ?_
          refine D_qn ?_
          refine D_q rfl rfl ?_
          refine s_fieldAddr rfl rfl (FA94_1 _ _) ?_
          refine D_qn ?_
          refine D_q rfl rfl ?_
          first
            | refine s_load Try.isAgg3 rfl rfl (hs.cell (k := 0) rfl rfl) ?_
          refine D_qn ?_
          refine D_q rfl rfl ?_
          refine s_move rfl rfl ?_
          refine D_qn ?_
          refine D_q rfl rfl ?_
          refine s_nilCheck rfl rfl ?_
          refine D_qn ?_
          refine D_q rfl rfl ?_
          refine s_fieldAddr rfl rfl (FA89_2 _ _) ?_
          refine D_qn ?_
          refine D_q rfl rfl ?_
          first
            | refine s_load Try.isAgg3 rfl rfl (hs.cell (k := 1) rfl rfl) ?_
          refine D_qn ?_
          refine D_q rfl rfl ?_
          refine s_move rfl rfl ?_
          refine D_qn ?_
          refine D_q rfl rfl ?_
          refine s_nilCheck rfl rfl ?_
          refine D_qn ?_
          refine D_q rfl rfl ?_
          refine s_fieldAddr rfl rfl (FA89_5 _ _) ?_
          refine D_qn ?_
          refine D_q rfl rfl ?_
          first
            | refine s_load Try.isAgg43 rfl rfl (hs.cell (k := 1) rfl rfl) ?_
          refine D_qn ?_
          refine D_q rfl rfl ?_
          refine s_len rfl rfl (LN43 _ _ _ _) ?_
          refine D_qn ?_
          refine D_q rfl rfl ?_
          refine s_build rfl rfl (BD94_0_2_5 _ _ _) ?_
          refine D_qn ?_
          refine D_e rfl ?_
          obtain ⟨q1, q2, q3, q4⟩ := A.wrote_same m
          have hwok := hok9.wrote hm0
          rw [clampV] at hs
          first
            | (have ht :  Rp.takes { A with role := 0 } m.term m.log := by unfold Rp.takes; simp only; omega
               obtain ⟨Y, hY⟩ : ∃ Y : Rp, Y = Rp.clamp { A with role := 0, log := m.log, lterm := m.term } m.n := ⟨_, rfl⟩
               have e : A.wrote m = Y := by rw [hY, Rp.wrote, Rp.adopt, if_pos ht]
               rw [e] at hwok ⊢
               have hlogB : LogAt Y.log (.slice la' m.log.length lc') es' LB' LP' := by rw [hY]; exact hlog'
               replace hs : St F w0 w ((p, Blk 89 (rpCells Y (.slice la' m.log.length lc') (.map vx9) (.map ax9))) :: ((b3, Blk 94 (mesCells m frm (.slice la' m.log.length lc'))) :: (LB' ++ (LP' ++ (LV9 ++ LA9))))) := by
                 rw [hY]; simpa [cat, rpCells, mesCells, Rp.clamp] using St.reord [[_], [_], LB9, LP9, LV9, LA9, LB', LP'] [1, 0, 6, 7, 4, 5] [2, 3] (by simpa [cat] using hs) rfl
               have hRB : RepAt p Y ((p, Blk 89 (rpCells Y (.slice la' m.log.length lc') (.map vx9) (.map ax9))) :: (LB' ++ (LP' ++ (LV9 ++ LA9)))) := by
                 have := hvo9.off (r' := 0) (by decide)
                 have hY0 : Y.role = 0 := by rw [hY]; rfl
                 exact ⟨.slice la' m.log.length lc', .map vx9, .map ax9, es', LB', LP', LV9, LA9, by simp, hlogB, by rw [hY0]; exact this, fun h => (by rw [hY0] at h; cases h), ⟨_, rfl⟩, hwok⟩
               replace hs := St.reord [[_], [_], LB' ++ (LP' ++ (LV9 ++ LA9))] [0, 2] [1] (by simpa [cat] using hs) rfl
               simp only [List.map_cons, List.map_nil, List.getD_cons_zero, List.getD_cons_succ, cat, List.cons_append, List.nil_append] at hs
               generalize hLQ : (p, Blk 89 (rpCells Y (.slice la' m.log.length lc') (.map vx9) (.map ax9))) :: (LB' ++ (LP' ++ (LV9 ++ LA9))) = LQ at hRB hs
               have hpat : w.heap[p]? = some (Blk 89 (rpCells Y (.slice la' m.log.length lc') (.map vx9) (.map ax9))) := hs.own _ (by rw [← hLQ]; exact List.mem_cons_self)
               subst hY
               refine s_call Try.call73 rfl rfl (answer_ok p A.id frm _ (Rp.ackM (Rp.clamp { A with role := 0, log := m.log, lterm := m.term } m.n)) (.slice none 0 0) [] [] w hpat rfl ⟨none, 0, rfl, Nat.le_refl _, .inl rfl⟩ nofun nofun rfl hwok.ackM) ?_)
          rintro r w ⟨Lr, hMs, hst⟩
          replace hs := (hs.back0 hst).swap (A := Lr)
          clear hst
          refine D_en ?re ?_
          case re =>
            exact Reks_nil
          refine D_q rfl rfl ?_
          refine s_assign rfl rfl ?_
          refine D_qn ?_
          refine D_nil ?_
          refine n_then ?_
          refine W_ret ?_
          first
            | (refine end1 rfl rfl ⟨LQ ++ Lr, hs, Lr, LQ, rfl, hRB, hMs⟩)
        · skip
          try simp only [decide_eq_true_eq, decide_eq_false_iff_not, gt_iff_lt, beq_iff_eq, beq_eq_false_iff_ne, ne_eq] at hc45
          refine W_skip ?_
          refine n_then ?_
          refine W_seq ?_
          refine W_draw [(0, true, []), (1, true, []), (2, true, []), (3, true, []), (4, true, []), (5, true, []), (6, true, []), (7, true, []), (8, true, []), (9, true, []), (10, true, []), (11, true, []), (12, true, []), (13, true, []), (14, true, []), (15, true, []), (16, false, [])] [[], [], [1], [1, 2], [1, 2, 3], [], [5], [1, 2, 3, 4, 5, 6], [], [8], [8, 9], [8, 9, 10], [8, 9, 10, 11], [1, 2, 3, 4, 5, 6, 7, 8, 9, 10, 11, 12], [0, 1, 2, 3, 4, 5, 6, 7, 8, 9, 10, 11, 12, 13], [0, 1, 2, 3, 4, 5, 6, 7, 8, 9, 10, 11, 12, 13, 14], [0, 1, 2, 3, 4, 5, 6, 7, 8, 9, 10, 11, 12, 13, 14, 15]] MX (by kernel_rfl) ?_
          intro w1 hw1 hw2 hw3 hw4; replace hs := hs.redrawn hw1 hw2 hw3 hw4; clear hw1 hw2 hw3 hw4
          obtain ⟨w, rfl⟩ : ∃ w : World, w = w1 := ⟨_, rfl⟩
          refine D_q rfl rfl ?_
          refine s_move rfl rfl ?_
          refine D_qn ?_
          refine D_q rfl rfl ?_
          refine s_move rfl rfl ?_
          refine D_qn ?_
          refine D_q rfl rfl ?_
          refine s_nilCheck rfl rfl ?_
          refine D_qn ?_
          refine D_q rfl rfl ?_
          refine s_fieldAddr rfl rfl (FA89_6 _ _) ?_
          refine D_qn ?_
          refine D_q rfl rfl ?_
          first
            | refine s_load Try.isAgg3 rfl rfl (hs.cell (k := 1) rfl rfl) ?_
          refine D_qn ?_
          refine D_q rfl rfl ?_
          refine s_fieldAddr rfl rfl (FA94_4 _ _) ?_
          refine D_qn ?_
          refine D_q rfl rfl ?_
          first
            | refine s_load Try.isAgg3 rfl rfl (hs.cell (k := 0) rfl rfl) ?_
          refine D_qn ?_
          refine D_q rfl rfl ?_
          refine s_max rfl rfl rfl ?_
          refine D_qn ?_
          refine D_q rfl rfl ?_
          refine s_move rfl rfl ?_
          refine D_qn ?_
          refine D_q rfl rfl ?_
          refine s_nilCheck rfl rfl ?_
          refine D_qn ?_
          refine D_q rfl rfl ?_
          refine s_fieldAddr rfl rfl (FA89_5 _ _) ?_
          refine D_qn ?_
          refine D_q rfl rfl ?_
          first
            | refine s_load Try.isAgg43 rfl rfl (hs.cell (k := 1) rfl rfl) ?_
          refine D_qn ?_
          refine D_q rfl rfl ?_
          refine s_len rfl rfl (LN43 _ _ _ _) ?_
          refine D_qn ?_
          refine D_q rfl rfl ?_
          refine s_min rfl rfl rfl ?_
          refine D_qn ?_
          refine D_q rfl rfl ?_
          refine s_nilCheck rfl rfl ?_
          refine D_qn ?_
          refine D_q rfl rfl ?_
          refine s_fieldAddr rfl rfl (FA89_6 _ _) ?_
          refine D_qn ?_
          refine D_e rfl ?_
          first
            | refine s_storeB Try.sizeOf3 rfl rfl rfl hs (kk := 1) rfl rfl ?_
          clear hs; intro w hs; try simp only [List.set_cons_zero, List.set_cons_succ, splice, List.take_succ_cons, List.take_zero, List.drop_succ_cons, List.drop_zero, List.nil_append, List.cons_append, List.length_cons, List.length_nil, Nat.reduceAdd, List.append_assoc] at hs
          refine D_en ?re ?_
          case re =>
            exact Reks_nil
          refine D_nil ?_
          refine n_then ?_
          refine W_seq ?_
          refine W_draw [(0, true, []), (1, true, []), (2, true, []), (3, true, []), (4, true, []), (5, true, []), (6, true, []), (7, true, []), (8, true, []), (9, true, []), (10, true, []), (11, true, []), (12, true, []), (13, false, []), (14, true, [])] [[], [], [1], [], [3], [3, 4], [3, 4, 5], [], [7], [7, 8], [7, 8, 9], [7, 8, 9, 10], [3, 4, 5, 6, 7, 8, 9, 10, 11], [0, 1, 2, 3, 4, 5, 6, 7, 8, 9, 10, 11, 12], [0, 1, 2, 3, 4, 5, 6, 7, 8, 9, 10, 11, 12, 13]] MX (by kernel_rfl) ?_
          intro w1 hw1 hw2 hw3 hw4; replace hs := hs.redrawn hw1 hw2 hw3 hw4; clear hw1 hw2 hw3 hw4
          obtain ⟨w, rfl⟩ : ∃ w : World, w = w1 := ⟨_, rfl⟩
          refine D_q rfl rfl ?_
          refine s_move rfl rfl ?_
          refine D_qn ?_
          refine D_q rfl rfl ?_
          refine s_fieldAddr rfl rfl (FA94_1 _ _) ?_
          refine D_qn ?_
          refine D_q rfl rfl ?_
          first
            | refine s_load Try.isAgg3 rfl rfl (hs.cell (k := 0) rfl rfl) ?_
          refine D_qn ?_
          refine D_q rfl rfl ?_
          refine s_move rfl rfl ?_
          refine D_qn ?_
          refine D_q rfl rfl ?_
          refine s_nilCheck rfl rfl ?_
          refine D_qn ?_
          refine D_q rfl rfl ?_
          refine s_fieldAddr rfl rfl (FA89_2 _ _) ?_
          refine D_qn ?_
          refine D_q rfl rfl ?_
          first
            | refine s_load Try.isAgg3 rfl rfl (hs.cell (k := 1) rfl rfl) ?_
          refine D_qn ?_
          refine D_q rfl rfl ?_
          refine s_move rfl rfl ?_
          refine D_qn ?_
          refine D_q rfl rfl ?_
          refine s_nilCheck rfl rfl ?_
          refine D_qn ?_
          refine D_q rfl rfl ?_
          refine s_fieldAddr rfl rfl (FA89_5 _ _) ?_
          refine D_qn ?_
          refine D_q rfl rfl ?_
          first
            | refine s_load Try.isAgg43 rfl rfl (hs.cell (k := 1) rfl rfl) ?_
          refine D_qn ?_
          refine D_q rfl rfl ?_
          refine s_len rfl rfl (LN43 _ _ _ _) ?_
          refine D_qn ?_
          refine D_q rfl rfl ?_
          refine s_build rfl rfl (BD94_0_2_5 _ _ _) ?_
          refine D_qn ?_
          refine D_e rfl ?_
          obtain ⟨q1, q2, q3, q4⟩ := A.wrote_same m
          have hwok := hok9.wrote hm0
          rw [clampV] at hs
          first
            | (have ht : ¬ Rp.takes { A with role := 0 } m.term m.log := by unfold Rp.takes; simp only; omega
               obtain ⟨Y, hY⟩ : ∃ Y : Rp, Y = Rp.clamp { A with role := 0 } m.n := ⟨_, rfl⟩
               have e : A.wrote m = Y := by rw [hY, Rp.wrote, Rp.adopt, if_neg ht]
               rw [e] at hwok ⊢
               have hlogB : LogAt Y.log (.slice la9 A.log.length lc9) es9 LB9 LP9 := by rw [hY]; exact hlog9
               replace hs : St F w0 w ((p, Blk 89 (rpCells Y (.slice la9 A.log.length lc9) (.map vx9) (.map ax9))) :: ((b3, Blk 94 (mesCells m frm (.slice la' m.log.length lc'))) :: (LB9 ++ (LP9 ++ (LV9 ++ LA9))))) := by
                 rw [hY]; simpa [cat, rpCells, mesCells, Rp.clamp] using St.reord [[_], [_], LB9, LP9, LV9, LA9, LB', LP'] [1, 0, 2, 3, 4, 5] [6, 7] (by simpa [cat] using hs) rfl
               have hRB : RepAt p Y ((p, Blk 89 (rpCells Y (.slice la9 A.log.length lc9) (.map vx9) (.map ax9))) :: (LB9 ++ (LP9 ++ (LV9 ++ LA9)))) := by
                 have := hvo9.off (r' := 0) (by decide)
                 have hY0 : Y.role = 0 := by rw [hY]; rfl
                 exact ⟨.slice la9 A.log.length lc9, .map vx9, .map ax9, es9, LB9, LP9, LV9, LA9, by simp, hlogB, by rw [hY0]; exact this, fun h => (by rw [hY0] at h; cases h), ⟨_, rfl⟩, hwok⟩
               replace hs := St.reord [[_], [_], LB9 ++ (LP9 ++ (LV9 ++ LA9))] [0, 2] [1] (by simpa [cat] using hs) rfl
               simp only [List.map_cons, List.map_nil, List.getD_cons_zero, List.getD_cons_succ, cat, List.cons_append, List.nil_append] at hs
               generalize hLQ : (p, Blk 89 (rpCells Y (.slice la9 A.log.length lc9) (.map vx9) (.map ax9))) :: (LB9 ++ (LP9 ++ (LV9 ++ LA9))) = LQ at hRB hs
               have hpat : w.heap[p]? = some (Blk 89 (rpCells Y (.slice la9 A.log.length lc9) (.map vx9) (.map ax9))) := hs.own _ (by rw [← hLQ]; exact List.mem_cons_self)
               subst hY
               refine s_call Try.call73 rfl rfl (answer_ok p A.id frm _ (Rp.ackM (Rp.clamp { A with role := 0 } m.n)) (.slice none 0 0) [] [] w hpat rfl ⟨none, 0, rfl, Nat.le_refl _, .inl rfl⟩ nofun nofun rfl hwok.ackM) ?_)
          rintro r w ⟨Lr, hMs, hst⟩
          replace hs := (hs.back0 hst).swap (A := Lr)
          clear hst
          refine D_en ?re ?_
          case re =>
            exact Reks_nil
          refine D_q rfl rfl ?_
          refine s_assign rfl rfl ?_
          refine D_qn ?_
          refine D_nil ?_
          refine n_then ?_
          refine W_ret ?_
          first
            | (refine end1 rfl rfl ⟨LQ ++ Lr, hs, Lr, LQ, rfl, hRB, hMs⟩)
      · skip
        try simp only [decide_eq_true_eq, decide_eq_false_iff_not, gt_iff_lt, beq_iff_eq, beq_eq_false_iff_ne, ne_eq] at hg34
        refine D_qn ?_
        refine D_q rfl rfl ?_
        refine WL_skip rfl rfl rfl ?_
        refine D_qn ?_
        refine D_q rfl rfl ?_
        refine WL_skip rfl rfl rfl ?_
        refine D_qn ?_
        refine D_q rfl rfl ?_
        refine WL_skip rfl rfl rfl ?_
        refine D_qn ?_
        refine D_q rfl rfl ?_
        refine WL_skip rfl rfl rfl ?_
        refine D_qn ?_
        refine D_q rfl rfl ?_
        refine WL_skip rfl rfl rfl ?_
        refine D_qn ?_
        refine D_q rfl rfl ?_
        refine WL_skip rfl rfl rfl ?_
        refine D_qn ?_
        refine D_q rfl rfl ?_
        refine WL_skip rfl rfl rfl ?_
        refine D_qn ?_
        refine D_q rfl rfl ?_
        refine WL_skip rfl rfl rfl ?_
        refine D_qn ?_
        refine D_q rfl rfl ?_
        refine WL_skip rfl rfl rfl ?_
        refine D_qn ?_
        refine D_q rfl rfl ?_
        refine WL_take rfl ?_
        refine s_pick_f rfl rfl rfl ?_
        refine D_qn ?_
        refine D_q rfl rfl ?_
        refine s_pick_f rfl rfl rfl ?_
        refine D_qn ?_
        refine D_nil ?_
        refine n_then ?_
        refine W_cond_f rfl ?_
        refine W_skip ?_
        refine n_then ?_
        refine W_seq ?_
        refine W_draw [(0, true, []), (1, true, []), (2, true, []), (3, true, []), (4, true, []), (5, true, []), (6, true, []), (7, true, []), (8, true, []), (9, true, []), (10, true, []), (11, true, []), (12, true, []), (13, true, []), (14, true, []), (15, true, []), (16, false, [])] [[], [], [1], [1, 2], [1, 2, 3], [], [5], [1, 2, 3, 4, 5, 6], [], [8], [8, 9], [8, 9, 10], [8, 9, 10, 11], [1, 2, 3, 4, 5, 6, 7, 8, 9, 10, 11, 12], [0, 1, 2, 3, 4, 5, 6, 7, 8, 9, 10, 11, 12, 13], [0, 1, 2, 3, 4, 5, 6, 7, 8, 9, 10, 11, 12, 13, 14], [0, 1, 2, 3, 4, 5, 6, 7, 8, 9, 10, 11, 12, 13, 14, 15]] MX (by kernel_rfl) ?_
        intro w1 hw1 hw2 hw3 hw4; replace hs := hs.redrawn hw1 hw2 hw3 hw4; clear hw1 hw2 hw3 hw4
        obtain ⟨w, rfl⟩ : ∃ w : World, w = w1 := ⟨_, rfl⟩
        refine D_q rfl rfl ?_
        refine s_move rfl rfl ?_
        refine D_qn ?_
        refine D_q rfl rfl ?_
        refine s_move rfl rfl ?_
        refine D_qn ?_
        refine D_q rfl rfl ?_
        refine s_nilCheck rfl rfl ?_
        refine D_qn ?_
        refine D_q rfl rfl ?_
        refine s_fieldAddr rfl rfl (FA89_6 _ _) ?_
        refine D_qn ?_
        refine D_q rfl rfl ?_
        first
          | refine s_load Try.isAgg3 rfl rfl (hs.cell (k := 1) rfl rfl) ?_
        refine D_qn ?_
        refine D_q rfl rfl ?_
        refine s_fieldAddr rfl rfl (FA94_4 _ _) ?_
        refine D_qn ?_
        refine D_q rfl rfl ?_
        first
          | refine s_load Try.isAgg3 rfl rfl (hs.cell (k := 0) rfl rfl) ?_
        refine D_qn ?_
        refine D_q rfl rfl ?_
        refine s_max rfl rfl rfl ?_
        refine D_qn ?_
        refine D_q rfl rfl ?_
        refine s_move rfl rfl ?_
        refine D_qn ?_
        refine D_q rfl rfl ?_
        refine s_nilCheck rfl rfl ?_
        refine D_qn ?_
        refine D_q rfl rfl ?_
        refine s_fieldAddr rfl rfl (FA89_5 _ _) ?_
        refine D_qn ?_
        refine D_q rfl rfl ?_
        first
          | refine s_load Try.isAgg43 rfl rfl (hs.cell (k := 1) rfl rfl) ?_
        refine D_qn ?_
        refine D_q rfl rfl ?_
        refine s_len rfl rfl (LN43 _ _ _ _) ?_
        refine D_qn ?_
        refine D_q rfl rfl ?_
        refine s_min rfl rfl rfl ?_
        refine D_qn ?_
        refine D_q rfl rfl ?_
        refine s_nilCheck rfl rfl ?_
        refine D_qn ?_
        refine D_q rfl rfl ?_
        refine s_fieldAddr rfl rfl (FA89_6 _ _) ?_
        refine D_qn ?_
        refine D_e rfl ?_
        first
          | refine s_storeB Try.sizeOf3 rfl rfl rfl hs (kk := 1) rfl rfl ?_
        clear hs; intro w hs; try simp only [List.set_cons_zero, List.set_cons_succ, splice, List.take_succ_cons, List.take_zero, List.drop_succ_cons, List.drop_zero, List.nil_append, List.cons_append, List.length_cons, List.length_nil, Nat.reduceAdd, List.append_assoc] at hs
        refine D_en ?re ?_
        case re =>
          exact Reks_nil
        refine D_nil ?_
        refine n_then ?_
        refine W_seq ?_
        refine W_draw [(0, true, []), (1, true, []), (2, true, []), (3, true, []), (4, true, []), (5, true, []), (6, true, []), (7, true, []), (8, true, []), (9, true, []), (10, true, []), (11, true, []), (12, true, []), (13, false, []), (14, true, [])] [[], [], [1], [], [3], [3, 4], [3, 4, 5], [], [7], [7, 8], [7, 8, 9], [7, 8, 9, 10], [3, 4, 5, 6, 7, 8, 9, 10, 11], [0, 1, 2, 3, 4, 5, 6, 7, 8, 9, 10, 11, 12], [0, 1, 2, 3, 4, 5, 6, 7, 8, 9, 10, 11, 12, 13]] MX (by kernel_rfl) ?_
        intro w1 hw1 hw2 hw3 hw4; replace hs := hs.redrawn hw1 hw2 hw3 hw4; clear hw1 hw2 hw3 hw4
        obtain ⟨w, rfl⟩ : ∃ w : World, w = w1 := ⟨_, rfl⟩
        refine D_q rfl rfl ?_
        refine s_move rfl rfl ?_
        refine D_qn ?_
        refine D_q rfl rfl ?_
        refine s_fieldAddr rfl rfl (FA94_1 _ _) ?_
        refine D_qn ?_
        refine D_q rfl rfl ?_
        first
          | refine s_load Try.isAgg3 rfl rfl (hs.cell (k := 0) rfl rfl) ?_
        refine D_qn ?_
        refine D_q rfl rfl ?_
        refine s_move rfl rfl ?_
        refine D_qn ?_
        refine D_q rfl rfl ?_
        refine s_nilCheck rfl rfl ?_
        refine D_qn ?_
        refine D_q rfl rfl ?_
        refine s_fieldAddr rfl rfl (FA89_2 _ _) ?_
        refine D_qn ?_
        refine D_q rfl rfl ?_
        first
          | refine s_load Try.isAgg3 rfl rfl (hs.cell (k := 1) rfl rfl) ?_
        refine D_qn ?_
        refine D_q rfl rfl ?_
        refine s_move rfl rfl ?_
        refine D_qn ?_
        refine D_q rfl rfl ?_
        refine s_nilCheck rfl rfl ?_
        refine D_qn ?_
        refine D_q rfl rfl ?_
        refine s_fieldAddr rfl rfl (FA89_5 _ _) ?_
        refine D_qn ?_
        refine D_q rfl rfl ?_
        first
          | refine s_load Try.isAgg43 rfl rfl (hs.cell (k := 1) rfl rfl) ?_
        refine D_qn ?_
        refine D_q rfl rfl ?_
        refine s_len rfl rfl (LN43 _ _ _ _) ?_
        refine D_qn ?_
        refine D_q rfl rfl ?_
        refine s_build rfl rfl (BD94_0_2_5 _ _ _) ?_
        refine D_qn ?_
        refine D_e rfl ?_
        obtain ⟨q1, q2, q3, q4⟩ := A.wrote_same m
        have hwok := hok9.wrote hm0
        rw [clampV] at hs
        first
          | (have ht : ¬ Rp.takes { A with role := 0 } m.term m.log := by unfold Rp.takes; simp only; omega
             obtain ⟨Y, hY⟩ : ∃ Y : Rp, Y = Rp.clamp { A with role := 0 } m.n := ⟨_, rfl⟩
             have e : A.wrote m = Y := by rw [hY, Rp.wrote, Rp.adopt, if_neg ht]
             rw [e] at hwok ⊢
             have hlogB : LogAt Y.log (.slice la9 A.log.length lc9) es9 LB9 LP9 := by rw [hY]; exact hlog9
             replace hs : St F w0 w ((p, Blk 89 (rpCells Y (.slice la9 A.log.length lc9) (.map vx9) (.map ax9))) :: ((b3, Blk 94 (mesCells m frm (.slice la' m.log.length lc'))) :: (LB9 ++ (LP9 ++ (LV9 ++ LA9))))) := by
               rw [hY]; simpa [cat, rpCells, mesCells, Rp.clamp] using St.reord [[_], [_], LB9, LP9, LV9, LA9, LB', LP'] [1, 0, 2, 3, 4, 5] [6, 7] (by simpa [cat] using hs) rfl
             have hRB : RepAt p Y ((p, Blk 89 (rpCells Y (.slice la9 A.log.length lc9) (.map vx9) (.map ax9))) :: (LB9 ++ (LP9 ++ (LV9 ++ LA9)))) := by
               have := hvo9.off (r' := 0) (by decide)
               have hY0 : Y.role = 0 := by rw [hY]; rfl
               exact ⟨.slice la9 A.log.length lc9, .map vx9, .map ax9, es9, LB9, LP9, LV9, LA9, by simp, hlogB, by rw [hY0]; exact this, fun h => (by rw [hY0] at h; cases h), ⟨_, rfl⟩, hwok⟩
             replace hs := St.reord [[_], [_], LB9 ++ (LP9 ++ (LV9 ++ LA9))] [0, 2] [1] (by simpa [cat] using hs) rfl
             simp only [List.map_cons, List.map_nil, List.getD_cons_zero, List.getD_cons_succ, cat, List.cons_append, List.nil_append] at hs
             generalize hLQ : (p, Blk 89 (rpCells Y (.slice la9 A.log.length lc9) (.map vx9) (.map ax9))) :: (LB9 ++ (LP9 ++ (LV9 ++ LA9))) = LQ at hRB hs
             have hpat : w.heap[p]? = some (Blk 89 (rpCells Y (.slice la9 A.log.length lc9) (.map vx9) (.map ax9))) := hs.own _ (by rw [← hLQ]; exact List.mem_cons_self)
             subst hY
             refine s_call Try.call73 rfl rfl (answer_ok p A.id frm _ (Rp.ackM (Rp.clamp { A with role := 0 } m.n)) (.slice none 0 0) [] [] w hpat rfl ⟨none, 0, rfl, Nat.le_refl _, .inl rfl⟩ nofun nofun rfl hwok.ackM) ?_)
        rintro r w ⟨Lr, hMs, hst⟩
        replace hs := (hs.back0 hst).swap (A := Lr)
        clear hst
        refine D_en ?re ?_
        case re =>
          exact Reks_nil
        refine D_q rfl rfl ?_
        refine s_assign rfl rfl ?_
        refine D_qn ?_
        refine D_nil ?_
        refine n_then ?_
        refine W_ret ?_
        first
          | (refine end1 rfl rfl ⟨LQ ++ Lr, hs, Lr, LQ, rfl, hRB, hMs⟩)
end Go.Proofs.Ytkobigdfijeajaa
