/- A replica: Elect. -/
import Derived.Test.YtkobigdfijeajaaRpL
set_option linter.unusedVariables false
set_option linter.unusedSimpArgs false
namespace Go.Proofs.Ytkobigdfijeajaa
open Go.SL
def Rp.cand (R : Rp) (t : Nat) : Rp := { R with term := t, role := 1 }
def askM (t : Nat) : Mg := ⟨0, t, 0, 0, 0, []⟩
def Rp.elect (R : Rp) (t : Int) : Rp × List Ms × Int :=
  if t < 1 ∨ 1073741824 < t ∨ t % (R.mem : Int) ≠ (R.id : Int) then (R, [], 1)
  else if t < (R.term : Int) then (R, [], 20)
  else if R.role = 2 ∧ t = (R.term : Int) then (R, R.others R.spreadM, 0)
  else if R.mem < 2 then ((R.cand t.toNat).crown, (R.cand t.toNat).crown.others (R.cand t.toNat).crown.spreadM, 0)
  else (R.cand t.toNat, (R.cand t.toNat).others (askM t.toNat), 0)
theorem Rp.ok.cand {R : Rp} (h : R.ok) {t : Nat} (ht : t ≤ 1073741824) : (R.cand t).ok := { h with term := ht, role := by simp [Rp.cand] }
theorem askM_ok {t : Nat} (ht : t ≤ 1073741824) : (askM t).ok := ⟨by simp [askM], ht, by simp [askM], by simp [askM], by simp [askM], by simp [askM], by simp [askM]⟩
set_option maxHeartbeats 4000000 in
theorem elect_ok (p : Nat) (R : Rp) (L0 : Hp) (t : Int) (w0 : World) (hR : RepAt p R L0) (ht : isI64 t) (hs : St (ids L0) w0 w0 L0) :
    Ret Try.prog 9 [.pointer (some ⟨p, 0, none⟩), .int .i64 t].toArray w0 fun r w' => ∃ L', St (ids L0) w0 w' L' ∧ ∃ rv Lr LQ, r = .tuple #[rv, .int .i64 (R.elect t).2.2] ∧ L' = LQ ++ Lr ∧ RepAt p (R.elect t).1 LQ ∧ MsAt rv (R.elect t).2.1 Lr := by
  unfold isI64 at ht
  have hR0 := hR
  obtain ⟨lv, vv, av, es, LB, LP, LV, LA, hL, hlog, hvo, hac, hav, hok⟩ := hR
  obtain ⟨la, lc, rfl, hel⟩ := hlog.form
  obtain ⟨vx, rfl⟩ := hvo.val
  obtain ⟨ax, rfl⟩ := hav
  have hm1 := hok.m1
  have hm3 := hok.m3
  have hln := hok.log
  revert hs
  generalize ids L0 = F
  rw [hL]
  intro hs
  unfold rpCells at hs
  refine Ret_startL hs fun w hs => ?_
  refine Ret_of Try.func9 rfl Try.ntmps9 rfl ?_
  refine W_seq ?_
  refine W_region ?_
  refine s_assign rfl rfl ?_
  refine s_assign rfl rfl ?_
  refine WL_nil ?_
  refine n_then ?_
  refine W_seq ?_
  refine W_seq ?_
  refine W_draw [(0, true, []), (1, true, []), (2, true, []), (3, true, []), (4, true, []), (5, true, []), (6, true, []), (7, true, []), (8, true, []), (9, true, []), (10, true, []), (11, true, []), (12, true, []), (13, true, []), (14, true, []), (15, true, []), (16, true, []), (17, true, []), (18, true, [])] [[], [0], [0, 1], [0, 1, 2], [0, 1, 2, 3], [0, 1, 2, 3, 4], [0, 1, 2, 3, 4, 5], [0, 1, 2, 3, 4, 5, 6], [0, 1, 2, 3, 4, 5, 6], [0, 1, 2, 3, 4, 5, 6, 8], [0, 1, 2, 3, 4, 5, 6, 8, 9], [0, 1, 2, 3, 4, 5, 6, 8, 9, 10], [0, 1, 2, 3, 4, 5, 6, 7, 8, 9, 10, 11], [0, 1, 2, 3, 4, 5, 6], [0, 1, 2, 3, 4, 5, 6, 13], [0, 1, 2, 3, 4, 5, 6, 13, 14], [0, 1, 2, 3, 4, 5, 6, 13, 14, 15], [0, 1, 2, 3, 4, 5, 6, 7, 8, 9, 10, 11, 12, 13, 14, 15, 16], [0, 1, 2, 3, 4, 5, 6, 7, 8, 9, 10, 11, 12, 13, 14, 15, 16, 17]] MX (by kernel_rfl) ?_
  intro w1 hw1 hw2 hw3 hw4; replace hs := hs.redrawn hw1 hw2 hw3 hw4; clear hw1 hw2 hw3 hw4
  obtain ⟨w, rfl⟩ : ∃ w : World, w = w1 := ⟨_, rfl⟩
  refine D_q rfl rfl ?_
  refine s_move rfl rfl ?_
  refine D_qn ?_
  refine D_q rfl rfl ?_
  refine s_lss rfl rfl rfl ?_
  refine D_qn ?_
  refine D_q rfl rfl ?_
  refine s_move rfl rfl ?_
  refine WL_case (s := 8) rfl (fun hg8 => ?_) (fun hg8 => ?_)
  · skip
    try simp only [decide_eq_true_eq, decide_eq_false_iff_not, gt_iff_lt, ge_iff_le, beq_iff_eq, beq_eq_false_iff_ne, ne_eq, bne_iff_ne, bne_eq_false_iff_eq, Bool.not_eq_true', Bool.not_eq_false', Bool.not_eq_true, Bool.not_eq_false, Decidable.not_not] at hg8
    refine D_qn ?_
    refine D_q rfl rfl ?_
    refine WL_skip rfl rfl rfl ?_
    refine D_qn ?_
    refine D_q rfl rfl ?_
    refine WL_skip rfl rfl rfl ?_
    refine D_qn ?_
    refine D_q rfl rfl ?_
    refine s_pick_t rfl rfl rfl ?_
    refine D_qn ?_
    refine D_q rfl rfl ?_
    refine s_move rfl rfl ?_
    refine D_qn ?_
    refine D_q rfl rfl ?_
    refine WL_skip rfl rfl rfl ?_
    refine D_qn ?_
    refine D_q rfl rfl ?_
    refine WL_skip rfl rfl rfl ?_
    refine D_qn ?_
    refine D_q rfl rfl ?_
    refine WL_skip rfl rfl rfl ?_
    refine D_qn ?_
    refine D_q rfl rfl ?_
    refine WL_skip rfl rfl rfl ?_
    refine D_qn ?_
    refine D_q rfl rfl ?_
    refine WL_skip rfl rfl rfl ?_
    refine D_qn ?_
    refine D_q rfl rfl ?_
    refine WL_skip rfl rfl rfl ?_
    refine D_qn ?_
    refine D_q rfl rfl ?_
    refine WL_skip rfl rfl rfl ?_
    refine D_qn ?_
    refine D_q rfl rfl ?_
    refine WL_skip rfl rfl rfl ?_
    refine D_qn ?_
    refine D_q rfl rfl ?_
    refine WL_skip rfl rfl rfl ?_
    refine D_qn ?_
    refine D_q rfl rfl ?_
    refine WL_skip rfl rfl rfl ?_
    refine D_qn ?_
    refine D_q rfl rfl ?_
    refine WL_skip rfl rfl rfl ?_
    refine D_qn ?_
    refine D_q rfl rfl ?_
    refine s_pick_t rfl rfl rfl ?_
    refine D_qn ?_
    refine D_nil ?_
    refine n_then ?_
    refine W_cond_t rfl ?_
    refine W_seq ?_
    refine W_region ?_
    refine s_assign rfl rfl ?_
    refine s_assign rfl rfl ?_
    refine WL_nil ?_
    refine n_then ?_
    refine W_ret ?_
    refine r_then ?_
    first
      | (have hel : R.elect t = (R, [], 1) := by rw [Rp.elect, if_pos (by omega)]
         exact end2 rfl rfl rfl ⟨L0 ++ [], by rw [hL, List.append_nil]; exact hs, _, [], L0, by rw [hel], rfl, by rw [hel]; exact hR0, by rw [hel]; exact MsAt.nil⟩)
  · skip
    try simp only [decide_eq_true_eq, decide_eq_false_iff_not, gt_iff_lt, ge_iff_le, beq_iff_eq, beq_eq_false_iff_ne, ne_eq, bne_iff_ne, bne_eq_false_iff_eq, Bool.not_eq_true', Bool.not_eq_false', Bool.not_eq_true, Bool.not_eq_false, Decidable.not_not] at hg8
    refine D_qn ?_
    refine D_q rfl rfl ?_
    refine WL_take rfl ?_
    refine s_move rfl rfl ?_
    refine D_qn ?_
    refine D_q rfl rfl ?_
    refine WL_take rfl ?_
    refine s_gtr rfl rfl rfl ?_
    refine D_qn ?_
    refine D_q rfl rfl ?_
    refine s_pick_f rfl rfl rfl ?_
    refine D_qn ?_
    refine D_q rfl rfl ?_
    refine s_move rfl rfl ?_
    refine WL_case (s := 12) rfl (fun hg12 => ?_) (fun hg12 => ?_)
    · skip
      try simp only [decide_eq_true_eq, decide_eq_false_iff_not, gt_iff_lt, ge_iff_le, beq_iff_eq, beq_eq_false_iff_ne, ne_eq, bne_iff_ne, bne_eq_false_iff_eq, Bool.not_eq_true', Bool.not_eq_false', Bool.not_eq_true, Bool.not_eq_false, Decidable.not_not] at hg12
      refine D_qn ?_
      refine D_q rfl rfl ?_
      refine WL_skip rfl rfl rfl ?_
      refine D_qn ?_
      refine D_q rfl rfl ?_
      refine WL_skip rfl rfl rfl ?_
      refine D_qn ?_
      refine D_q rfl rfl ?_
      refine WL_skip rfl rfl rfl ?_
      refine D_qn ?_
      refine D_q rfl rfl ?_
      refine WL_skip rfl rfl rfl ?_
      refine D_qn ?_
      refine D_q rfl rfl ?_
      refine WL_skip rfl rfl rfl ?_
      refine D_qn ?_
      refine D_q rfl rfl ?_
      refine WL_skip rfl rfl rfl ?_
      refine D_qn ?_
      refine D_q rfl rfl ?_
      refine WL_skip rfl rfl rfl ?_
      refine D_qn ?_
      refine D_q rfl rfl ?_
      refine WL_skip rfl rfl rfl ?_
      refine D_qn ?_
      refine D_q rfl rfl ?_
      refine WL_skip rfl rfl rfl ?_
      refine D_qn ?_
      refine D_q rfl rfl ?_
      refine WL_skip rfl rfl rfl ?_
      refine D_qn ?_
      refine D_q rfl rfl ?_
      refine WL_skip rfl rfl rfl ?_
      refine D_qn ?_
      refine D_q rfl rfl ?_
      refine s_pick_t rfl rfl rfl ?_
      refine D_qn ?_
      refine D_nil ?_
      refine n_then ?_
      refine W_cond_t rfl ?_
      refine W_seq ?_
      refine W_region ?_
      refine s_assign rfl rfl ?_
      refine s_assign rfl rfl ?_
      refine WL_nil ?_
      refine n_then ?_
      refine W_ret ?_
      refine r_then ?_
      first
        | (have hel : R.elect t = (R, [], 1) := by rw [Rp.elect, if_pos (by omega)]
           exact end2 rfl rfl rfl ⟨L0 ++ [], by rw [hL, List.append_nil]; exact hs, _, [], L0, by rw [hel], rfl, by rw [hel]; exact hR0, by rw [hel]; exact MsAt.nil⟩)
    · skip
      try simp only [decide_eq_true_eq, decide_eq_false_iff_not, gt_iff_lt, ge_iff_le, beq_iff_eq, beq_eq_false_iff_ne, ne_eq, bne_iff_ne, bne_eq_false_iff_eq, Bool.not_eq_true', Bool.not_eq_false', Bool.not_eq_true, Bool.not_eq_false, Decidable.not_not] at hg12
      refine D_qn ?_
      refine D_q rfl rfl ?_
      refine WL_take rfl ?_
      refine s_move rfl rfl ?_
      refine D_qn ?_
      refine D_q rfl rfl ?_
      refine WL_take rfl ?_
      refine s_move rfl rfl ?_
      refine D_qn ?_
      refine D_q rfl rfl ?_
      refine WL_take rfl ?_
      refine s_nilCheck rfl rfl ?_
      refine D_qn ?_
      refine D_q rfl rfl ?_
      refine WL_take rfl ?_
      refine s_fieldAddr rfl rfl (FA89_1 _ _) ?_
      refine D_qn ?_
      refine D_q rfl rfl ?_
      refine WL_take rfl ?_
      first
        | refine s_load Try.isAgg3 rfl rfl (hs.cell (k := 0) rfl rfl) ?_
      refine D_qn ?_
      refine D_q rfl rfl ?_
      refine WL_take rfl ?_
      first | (refine s_rem' rfl rfl rfl ?hx ?_; case hx => (refine ⟨?_, ?_⟩ <;> omega))
      refine D_qn ?_
      refine D_q rfl rfl ?_
      refine WL_take rfl ?_
      refine s_move rfl rfl ?_
      refine D_qn ?_
      refine D_q rfl rfl ?_
      refine WL_take rfl ?_
      refine s_nilCheck rfl rfl ?_
      refine D_qn ?_
      refine D_q rfl rfl ?_
      refine WL_take rfl ?_
      refine s_fieldAddr rfl rfl (FA89_0 _ _) ?_
      refine D_qn ?_
      refine D_q rfl rfl ?_
      refine WL_take rfl ?_
      first
        | refine s_load Try.isAgg3 rfl rfl (hs.cell (k := 0) rfl rfl) ?_
      refine D_qn ?_
      refine D_q rfl rfl ?_
      refine WL_take rfl ?_
      refine s_neq rfl rfl rfl ?_
      refine D_qn ?_
      refine D_q rfl rfl ?_
      refine s_pick_f rfl rfl rfl ?_
      refine D_qn ?_
      refine D_nil ?_
      refine n_then ?_
      refine W_cond rfl (fun hc24 => ?_) (fun hc24 => ?_)
      · skip
        try simp only [decide_eq_true_eq, decide_eq_false_iff_not, gt_iff_lt, ge_iff_le, beq_iff_eq, beq_eq_false_iff_ne, ne_eq, bne_iff_ne, bne_eq_false_iff_eq, Bool.not_eq_true', Bool.not_eq_false', Bool.not_eq_true, Bool.not_eq_false, Decidable.not_not] at hc24
        refine W_seq ?_
        refine W_region ?_
        refine s_assign rfl rfl ?_
        refine s_assign rfl rfl ?_
        refine WL_nil ?_
        refine n_then ?_
        refine W_ret ?_
        refine r_then ?_
        first
          | (have hel : R.elect t = (R, [], 1) := by rw [Rp.elect, if_pos (by omega)]
             exact end2 rfl rfl rfl ⟨L0 ++ [], by rw [hL, List.append_nil]; exact hs, _, [], L0, by rw [hel], rfl, by rw [hel]; exact hR0, by rw [hel]; exact MsAt.nil⟩)
      · skip
        try simp only [decide_eq_true_eq, decide_eq_false_iff_not, gt_iff_lt, ge_iff_le, beq_iff_eq, beq_eq_false_iff_ne, ne_eq, bne_iff_ne, bne_eq_false_iff_eq, Bool.not_eq_true', Bool.not_eq_false', Bool.not_eq_true, Bool.not_eq_false, Decidable.not_not] at hc24
        refine W_skip ?_
        refine n_then ?_
        refine W_seq ?_
        refine W_seq ?_
        refine W_region ?_
        refine s_move rfl rfl ?_
        refine s_move rfl rfl ?_
        refine s_nilCheck rfl rfl ?_
        refine s_fieldAddr rfl rfl (FA89_2 _ _) ?_
        first
          | refine s_load Try.isAgg3 rfl rfl (hs.cell (k := 0) rfl rfl) ?_
        refine s_lss rfl rfl rfl ?_
        refine WL_nil ?_
        refine n_then ?_
        refine W_cond rfl (fun hc30 => ?_) (fun hc30 => ?_)
        · skip
          try simp only [decide_eq_true_eq, decide_eq_false_iff_not, gt_iff_lt, ge_iff_le, beq_iff_eq, beq_eq_false_iff_ne, ne_eq, bne_iff_ne, bne_eq_false_iff_eq, Bool.not_eq_true', Bool.not_eq_false', Bool.not_eq_true, Bool.not_eq_false, Decidable.not_not] at hc30
          refine W_seq ?_
          refine W_region ?_
          refine s_assign rfl rfl ?_
          refine s_assign rfl rfl ?_
          refine WL_nil ?_
          refine n_then ?_
          refine W_ret ?_
          refine r_then ?_
          first
            | (have hel : R.elect t = (R, [], 20) := by rw [Rp.elect, if_neg (by omega), if_pos (by omega)]
               exact end2 rfl rfl rfl ⟨L0 ++ [], by rw [hL, List.append_nil]; exact hs, _, [], L0, by rw [hel], rfl, by rw [hel]; exact hR0, by rw [hel]; exact MsAt.nil⟩)
        · skip
          try simp only [decide_eq_true_eq, decide_eq_false_iff_not, gt_iff_lt, ge_iff_le, beq_iff_eq, beq_eq_false_iff_ne, ne_eq, bne_iff_ne, bne_eq_false_iff_eq, Bool.not_eq_true', Bool.not_eq_false', Bool.not_eq_true, Bool.not_eq_false, Decidable.not_not] at hc30
          refine W_skip ?_
          refine n_then ?_
          refine W_seq ?_
          refine W_seq ?_
          refine W_region ?_
          refine s_move rfl rfl ?_
          refine s_nilCheck rfl rfl ?_
          refine s_fieldAddr rfl rfl (FA89_4 _ _) ?_
          first
            | refine s_load Try.isAgg3 rfl rfl (hs.cell (k := 0) rfl rfl) ?_
          refine s_eql rfl rfl rfl ?_
          refine s_move rfl rfl ?_
          refine WL_case (s := 36) rfl (fun hg36 => ?_) (fun hg36 => ?_)
          · skip
            try simp only [decide_eq_true_eq, decide_eq_false_iff_not, gt_iff_lt, ge_iff_le, beq_iff_eq, beq_eq_false_iff_ne, ne_eq, bne_iff_ne, bne_eq_false_iff_eq, Bool.not_eq_true', Bool.not_eq_false', Bool.not_eq_true, Bool.not_eq_false, Decidable.not_not] at hg36
            refine WL_take rfl ?_
            refine s_move rfl rfl ?_
            refine WL_take rfl ?_
            refine s_move rfl rfl ?_
            refine WL_take rfl ?_
            refine s_nilCheck rfl rfl ?_
            refine WL_take rfl ?_
            refine s_fieldAddr rfl rfl (FA89_2 _ _) ?_
            refine WL_take rfl ?_
            first
              | refine s_load Try.isAgg3 rfl rfl (hs.cell (k := 0) rfl rfl) ?_
            refine WL_take rfl ?_
            refine s_eql rfl rfl rfl ?_
            refine s_pick_t rfl rfl rfl ?_
            refine WL_nil ?_
            refine n_then ?_
            refine W_cond rfl (fun hc43 => ?_) (fun hc43 => ?_)
            · skip
              try simp only [decide_eq_true_eq, decide_eq_false_iff_not, gt_iff_lt, ge_iff_le, beq_iff_eq, beq_eq_false_iff_ne, ne_eq, bne_iff_ne, bne_eq_false_iff_eq, Bool.not_eq_true', Bool.not_eq_false', Bool.not_eq_true, Bool.not_eq_false, Decidable.not_not] at hc43
              refine W_seq ?_
              refine W_region ?_
              refine s_move rfl rfl ?_
              have hel : R.elect t = (R, R.others R.spreadM, 0) := by rw [Rp.elect, if_neg (by omega), if_neg (by omega), if_pos (by omega)]
              replace hs : St F w0 w L0 := by rw [hL]; exact hs
              refine s_call Try.call37 rfl rfl (spread_ok p R L0 w hR0 hs.own) ?_
              rintro r w ⟨Lr, hMs, hst⟩
              replace hs := (hs.back0 hst).swap (A := Lr)
              clear hst
              refine s_assign rfl rfl ?_
              refine s_assign rfl rfl ?_
              refine WL_nil ?_
              refine n_then ?_
              refine W_ret ?_
              refine r_then ?_
              first
                | exact end2 rfl rfl rfl ⟨L0 ++ Lr, hs, _, Lr, L0, by rw [hel], rfl, by rw [hel]; exact hR0, by rw [hel]; exact hMs⟩
            · skip
              try simp only [decide_eq_true_eq, decide_eq_false_iff_not, gt_iff_lt, ge_iff_le, beq_iff_eq, beq_eq_false_iff_ne, ne_eq, bne_iff_ne, bne_eq_false_iff_eq, Bool.not_eq_true', Bool.not_eq_false', Bool.not_eq_true, Bool.not_eq_false, Decidable.not_not] at hc43
              refine W_skip ?_
              refine n_then ?_
              refine W_seq ?_
              refine W_seq ?_
              refine W_region ?_
              refine s_move rfl rfl ?_
              refine s_move rfl rfl ?_
              refine s_nilCheck rfl rfl ?_
              refine s_fieldAddr rfl rfl (FA89_2 _ _) ?_
              first
                | refine s_load Try.isAgg3 rfl rfl (hs.cell (k := 0) rfl rfl) ?_
              refine s_gtr rfl rfl rfl ?_
              refine s_move rfl rfl ?_
              refine WL_case (s := 52) rfl (fun hg52 => ?_) (fun hg52 => ?_)
              · skip
                try simp only [decide_eq_true_eq, decide_eq_false_iff_not, gt_iff_lt, ge_iff_le, beq_iff_eq, beq_eq_false_iff_ne, ne_eq, bne_iff_ne, bne_eq_false_iff_eq, Bool.not_eq_true', Bool.not_eq_false', Bool.not_eq_true, Bool.not_eq_false, Decidable.not_not] at hg52
                refine WL_skip rfl rfl rfl ?_
                refine WL_skip rfl rfl rfl ?_
                refine WL_skip rfl rfl rfl ?_
                refine WL_skip rfl rfl rfl ?_
                refine WL_skip rfl rfl rfl ?_
                refine s_pick_t rfl rfl rfl ?_
                refine WL_nil ?_
                refine n_then ?_
                refine W_cond_t rfl ?_
                refine W_region ?_
                refine s_move rfl rfl ?_
                refine s_makeMap rfl hs ?_; clear hs; intro b60 w hs
                refine s_nilCheck rfl rfl ?_
                refine s_fieldAddr rfl rfl (FA89_7 _ _) ?_
                first
                  | refine s_storeB Try.sizeOf86 rfl rfl rfl hs (kk := 1) rfl rfl ?_
                clear hs; intro w hs; try simp only [List.set_cons_zero, List.set_cons_succ, splice, List.take_succ_cons, List.take_zero, List.drop_succ_cons, List.drop_zero, List.nil_append, List.cons_append, List.length_cons, List.length_nil, Nat.reduceAdd, List.append_assoc] at hs
                refine WL_nil ?_
                refine n_then ?_
                refine W_seq ?_
                refine W_region ?_
                refine s_move rfl rfl ?_
                refine s_move rfl rfl ?_
                refine s_move rfl rfl ?_
                refine s_nilCheck rfl rfl ?_
                refine s_fieldAddr rfl rfl (FA89_2 _ _) ?_
                first
                  | refine s_storeB Try.sizeOf3 rfl rfl rfl hs (kk := 1) rfl rfl ?_
                clear hs; intro w hs; try simp only [List.set_cons_zero, List.set_cons_succ, splice, List.take_succ_cons, List.take_zero, List.drop_succ_cons, List.drop_zero, List.nil_append, List.cons_append, List.length_cons, List.length_nil, Nat.reduceAdd, List.append_assoc] at hs
                refine s_nilCheck rfl rfl ?_
                refine s_fieldAddr rfl rfl (FA89_4 _ _) ?_
                first
                  | refine s_storeB Try.sizeOf3 rfl rfl rfl hs (kk := 1) rfl rfl ?_
                clear hs; intro w hs; try simp only [List.set_cons_zero, List.set_cons_succ, splice, List.take_succ_cons, List.take_zero, List.drop_succ_cons, List.drop_zero, List.nil_append, List.cons_append, List.length_cons, List.length_nil, Nat.reduceAdd, List.append_assoc] at hs
                refine WL_nil ?_
                refine n_then ?_
                refine W_seq ?_
                refine W_seq ?_
                refine W_region ?_
                refine s_move rfl rfl ?_
                have hel : R.elect t = if R.mem < 2 then ((R.cand t.toNat).crown, (R.cand t.toNat).crown.others (R.cand t.toNat).crown.spreadM, 0) else (R.cand t.toNat, (R.cand t.toNat).others (askM t.toNat), 0) := by rw [Rp.elect, if_neg (by omega), if_neg (by omega), if_neg (by omega)]
                obtain ⟨tn, rfl⟩ : ∃ tn : Nat, t = (tn : Int) := ⟨t.toNat, by omega⟩
                rw [Int.toNat_natCast] at hel
                have hcok : (R.cand tn).ok := hok.cand (by omega)
                obtain ⟨vb, ov, hMv, hs⟩ : ∃ vb ov, MapI ov [] ∧ St F w0 w ((p, Blk 89 (rpCells (R.cand tn) (.slice la R.log.length lc) (.map (some vb)) (.map ax))) :: (LB ++ (LP ++ ((vb, ov) :: ([] ++ []))))) := by
                  first
                    | (refine ⟨b60, _, MapI.empty, ?_⟩
                       simpa [cat, rpCells, Rp.cand] using St.reord [[_], [_], LB, LP, LV, LA] [1, 2, 3, 0] [4, 5] (by simpa [cat, rpCells] using hs) rfl)
                obtain ⟨C, hC⟩ : ∃ C, C = R.cand tn := ⟨_, rfl⟩
                rw [← hC] at hs hcok hel
                rw [show R.log.length = C.log.length from by rw [hC]; rfl] at hs hlog
                rw [show R.log = C.log from by rw [hC]; rfl] at hlog
                rw [show R.mem = C.mem from by rw [hC]; rfl] at hel
                refine s_call Try.call38 rfl rfl (majority_ok p _ C.mem 1 w (hs.at (k := 0) rfl) rfl (by omega)) ?_
                rintro r w ⟨hst, rfl⟩
                replace hs := hs.back0 hst
                clear hst
                simp only [List.nil_append] at hs
                refine WL_nil ?_
                refine n_then ?_
                refine W_cond rfl (fun hc71 => ?_) (fun hc71 => ?_)
                · skip
                  try simp only [decide_eq_true_eq, decide_eq_false_iff_not, gt_iff_lt, ge_iff_le, beq_iff_eq, beq_eq_false_iff_ne, ne_eq, bne_iff_ne, bne_eq_false_iff_eq, Bool.not_eq_true', Bool.not_eq_false', Bool.not_eq_true, Bool.not_eq_false, Decidable.not_not] at hc71
                  refine W_seq ?_
                  refine W_region ?_
                  refine s_move rfl rfl ?_
                  rw [if_pos (by omega)] at hel
                  refine s_callL (M := []) (L1 := (p, Blk 89 (rpCells C (.slice la C.log.length lc) (.map (some vb)) (.map ax))) :: (LB ++ (LP ++ ((vb, ov) :: ([] ++ []))))) (X := []) Try.call39 rfl rfl (by simpa using hs) (fun h => lead_ok p C C.mem (askM 0) _ vb ov [] ax es LB LP (.slice none 0 0) [] [] [] _ w rfl hlog hMv (fun i hi => by rw [if_neg (by omega)]; rfl) (by simp) ⟨OwnS.nil _ _, nofun, rfl⟩ (askM_ok (by decide)) hcok h) ?_
                  clear hs; rintro u w L9 ⟨Lr, LQ, rfl, hRQ, hMs⟩ - hs
                  rw [if_neg (Nat.lt_irrefl _)] at hRQ hMs
                  simp only [List.nil_append, List.append_nil] at hs
                  refine s_assign rfl rfl ?_
                  refine s_assign rfl rfl ?_
                  refine WL_nil ?_
                  refine n_then ?_
                  refine W_ret ?_
                  refine r_then ?_
                  first
                    | exact end2 rfl rfl rfl ⟨LQ ++ Lr, hs, _, Lr, LQ, by rw [hel], rfl, by rw [hel]; exact hRQ, by rw [hel]; exact hMs⟩
                · skip
                  try simp only [decide_eq_true_eq, decide_eq_false_iff_not, gt_iff_lt, ge_iff_le, beq_iff_eq, beq_eq_false_iff_ne, ne_eq, bne_iff_ne, bne_eq_false_iff_eq, Bool.not_eq_true', Bool.not_eq_false', Bool.not_eq_true, Bool.not_eq_false, Decidable.not_not] at hc71
                  refine W_skip ?_
                  refine n_then ?_
                  refine W_seq ?_
                  refine W_region ?_
                  refine s_move rfl rfl ?_
                  refine s_move rfl rfl ?_
                  refine s_build rfl rfl (BD94_0_2 _ _) ?_
                  rw [if_neg (by omega)] at hel
                  refine s_call Try.call40 rfl rfl (others_ok p C _ (askM tn) (.slice none 0 0) [] [] w (hs.at (k := 0) rfl) rfl rfl hcok.m3 ⟨none, 0, rfl, Nat.le_refl _, .inl rfl⟩ nofun nofun rfl (askM_ok (by omega))) ?_
                  rintro r w ⟨Lr, hMs, hst⟩
                  replace hs := (hs.back0 hst).swap (A := Lr)
                  clear hst
                  refine s_assign rfl rfl ?_
                  refine s_assign rfl rfl ?_
                  refine WL_nil ?_
                  refine n_then ?_
                  refine W_ret ?_
                  first
                    | (refine end2 rfl rfl rfl ⟨((p, Blk 89 (rpCells C (.slice la C.log.length lc) (.map (some vb)) (.map ax))) :: (LB ++ (LP ++ [(vb, ov)]))) ++ Lr, by simpa using hs, _, Lr, _, by rw [hel], rfl, ?_, by rw [hel]; exact hMs⟩
                       rw [hel]
                       have hC1 : C.role = 1 := by rw [hC]; rfl
                       exact ⟨.slice la C.log.length lc, .map (some vb), .map ax, es, LB, LP, [(vb, ov)], [], by simp, hlog, .inr ⟨vb, ov, [], rfl, rfl, hMv, by simp, fun _ => rfl⟩, fun h => (by rw [hC1] at h; cases h), ⟨_, rfl⟩, hcok⟩)
              · skip
                try simp only [decide_eq_true_eq, decide_eq_false_iff_not, gt_iff_lt, ge_iff_le, beq_iff_eq, beq_eq_false_iff_ne, ne_eq, bne_iff_ne, bne_eq_false_iff_eq, Bool.not_eq_true', Bool.not_eq_false', Bool.not_eq_true, Bool.not_eq_false, Decidable.not_not] at hg52
                refine WL_take rfl ?_
                refine s_move rfl rfl ?_
                refine WL_take rfl ?_
                refine s_nilCheck rfl rfl ?_
                refine WL_take rfl ?_
                refine s_fieldAddr rfl rfl (FA89_4 _ _) ?_
                refine WL_take rfl ?_
                first
                  | refine s_load Try.isAgg3 rfl rfl (hs.cell (k := 0) rfl rfl) ?_
                refine WL_take rfl ?_
                refine s_neq rfl rfl rfl ?_
                refine s_pick_f rfl rfl rfl ?_
                refine WL_nil ?_
                refine n_then ?_
                refine W_cond rfl (fun hc58 => ?_) (fun hc58 => ?_)
                · skip
                  try simp only [decide_eq_true_eq, decide_eq_false_iff_not, gt_iff_lt, ge_iff_le, beq_iff_eq, beq_eq_false_iff_ne, ne_eq, bne_iff_ne, bne_eq_false_iff_eq, Bool.not_eq_true', Bool.not_eq_false', Bool.not_eq_true, Bool.not_eq_false, Decidable.not_not] at hc58
                  refine W_region ?_
                  refine s_move rfl rfl ?_
                  refine s_makeMap rfl hs ?_; clear hs; intro b60 w hs
                  refine s_nilCheck rfl rfl ?_
                  refine s_fieldAddr rfl rfl (FA89_7 _ _) ?_
                  first
                    | refine s_storeB Try.sizeOf86 rfl rfl rfl hs (kk := 1) rfl rfl ?_
                  clear hs; intro w hs; try simp only [List.set_cons_zero, List.set_cons_succ, splice, List.take_succ_cons, List.take_zero, List.drop_succ_cons, List.drop_zero, List.nil_append, List.cons_append, List.length_cons, List.length_nil, Nat.reduceAdd, List.append_assoc] at hs
                  refine WL_nil ?_
                  refine n_then ?_
                  refine W_seq ?_
                  refine W_region ?_
                  refine s_move rfl rfl ?_
                  refine s_move rfl rfl ?_
                  refine s_move rfl rfl ?_
                  refine s_nilCheck rfl rfl ?_
                  refine s_fieldAddr rfl rfl (FA89_2 _ _) ?_
                  first
                    | refine s_storeB Try.sizeOf3 rfl rfl rfl hs (kk := 1) rfl rfl ?_
                  clear hs; intro w hs; try simp only [List.set_cons_zero, List.set_cons_succ, splice, List.take_succ_cons, List.take_zero, List.drop_succ_cons, List.drop_zero, List.nil_append, List.cons_append, List.length_cons, List.length_nil, Nat.reduceAdd, List.append_assoc] at hs
                  refine s_nilCheck rfl rfl ?_
                  refine s_fieldAddr rfl rfl (FA89_4 _ _) ?_
                  first
                    | refine s_storeB Try.sizeOf3 rfl rfl rfl hs (kk := 1) rfl rfl ?_
                  clear hs; intro w hs; try simp only [List.set_cons_zero, List.set_cons_succ, splice, List.take_succ_cons, List.take_zero, List.drop_succ_cons, List.drop_zero, List.nil_append, List.cons_append, List.length_cons, List.length_nil, Nat.reduceAdd, List.append_assoc] at hs
                  refine WL_nil ?_
                  refine n_then ?_
                  refine W_seq ?_
                  refine W_seq ?_
                  refine W_region ?_
                  refine s_move rfl rfl ?_
                  have hel : R.elect t = if R.mem < 2 then ((R.cand t.toNat).crown, (R.cand t.toNat).crown.others (R.cand t.toNat).crown.spreadM, 0) else (R.cand t.toNat, (R.cand t.toNat).others (askM t.toNat), 0) := by rw [Rp.elect, if_neg (by omega), if_neg (by omega), if_neg (by omega)]
                  obtain ⟨tn, rfl⟩ : ∃ tn : Nat, t = (tn : Int) := ⟨t.toNat, by omega⟩
                  rw [Int.toNat_natCast] at hel
                  have hcok : (R.cand tn).ok := hok.cand (by omega)
                  obtain ⟨vb, ov, hMv, hs⟩ : ∃ vb ov, MapI ov [] ∧ St F w0 w ((p, Blk 89 (rpCells (R.cand tn) (.slice la R.log.length lc) (.map (some vb)) (.map ax))) :: (LB ++ (LP ++ ((vb, ov) :: ([] ++ []))))) := by
                    first
                      | (refine ⟨b60, _, MapI.empty, ?_⟩
                         simpa [cat, rpCells, Rp.cand] using St.reord [[_], [_], LB, LP, LV, LA] [1, 2, 3, 0] [4, 5] (by simpa [cat, rpCells] using hs) rfl)
                  obtain ⟨C, hC⟩ : ∃ C, C = R.cand tn := ⟨_, rfl⟩
                  rw [← hC] at hs hcok hel
                  rw [show R.log.length = C.log.length from by rw [hC]; rfl] at hs hlog
                  rw [show R.log = C.log from by rw [hC]; rfl] at hlog
                  rw [show R.mem = C.mem from by rw [hC]; rfl] at hel
                  refine s_call Try.call38 rfl rfl (majority_ok p _ C.mem 1 w (hs.at (k := 0) rfl) rfl (by omega)) ?_
                  rintro r w ⟨hst, rfl⟩
                  replace hs := hs.back0 hst
                  clear hst
                  simp only [List.nil_append] at hs
                  refine WL_nil ?_
                  refine n_then ?_
                  refine W_cond rfl (fun hc71 => ?_) (fun hc71 => ?_)
                  · skip
                    try simp only [decide_eq_true_eq, decide_eq_false_iff_not, gt_iff_lt, ge_iff_le, beq_iff_eq, beq_eq_false_iff_ne, ne_eq, bne_iff_ne, bne_eq_false_iff_eq, Bool.not_eq_true', Bool.not_eq_false', Bool.not_eq_true, Bool.not_eq_false, Decidable.not_not] at hc71
                    refine W_seq ?_
                    refine W_region ?_
                    refine s_move rfl rfl ?_
                    rw [if_pos (by omega)] at hel
                    refine s_callL (M := []) (L1 := (p, Blk 89 (rpCells C (.slice la C.log.length lc) (.map (some vb)) (.map ax))) :: (LB ++ (LP ++ ((vb, ov) :: ([] ++ []))))) (X := []) Try.call39 rfl rfl (by simpa using hs) (fun h => lead_ok p C C.mem (askM 0) _ vb ov [] ax es LB LP (.slice none 0 0) [] [] [] _ w rfl hlog hMv (fun i hi => by rw [if_neg (by omega)]; rfl) (by simp) ⟨OwnS.nil _ _, nofun, rfl⟩ (askM_ok (by decide)) hcok h) ?_
                    clear hs; rintro u w L9 ⟨Lr, LQ, rfl, hRQ, hMs⟩ - hs
                    rw [if_neg (Nat.lt_irrefl _)] at hRQ hMs
                    simp only [List.nil_append, List.append_nil] at hs
                    refine s_assign rfl rfl ?_
                    refine s_assign rfl rfl ?_
                    refine WL_nil ?_
                    refine n_then ?_
                    refine W_ret ?_
                    refine r_then ?_
                    first
                      | exact end2 rfl rfl rfl ⟨LQ ++ Lr, hs, _, Lr, LQ, by rw [hel], rfl, by rw [hel]; exact hRQ, by rw [hel]; exact hMs⟩
                  · skip
                    try simp only [decide_eq_true_eq, decide_eq_false_iff_not, gt_iff_lt, ge_iff_le, beq_iff_eq, beq_eq_false_iff_ne, ne_eq, bne_iff_ne, bne_eq_false_iff_eq, Bool.not_eq_true', Bool.not_eq_false', Bool.not_eq_true, Bool.not_eq_false, Decidable.not_not] at hc71
                    refine W_skip ?_
                    refine n_then ?_
                    refine W_seq ?_
                    refine W_region ?_
                    refine s_move rfl rfl ?_
                    refine s_move rfl rfl ?_
                    refine s_build rfl rfl (BD94_0_2 _ _) ?_
                    rw [if_neg (by omega)] at hel
                    refine s_call Try.call40 rfl rfl (others_ok p C _ (askM tn) (.slice none 0 0) [] [] w (hs.at (k := 0) rfl) rfl rfl hcok.m3 ⟨none, 0, rfl, Nat.le_refl _, .inl rfl⟩ nofun nofun rfl (askM_ok (by omega))) ?_
                    rintro r w ⟨Lr, hMs, hst⟩
                    replace hs := (hs.back0 hst).swap (A := Lr)
                    clear hst
                    refine s_assign rfl rfl ?_
                    refine s_assign rfl rfl ?_
                    refine WL_nil ?_
                    refine n_then ?_
                    refine W_ret ?_
                    first
                      | (refine end2 rfl rfl rfl ⟨((p, Blk 89 (rpCells C (.slice la C.log.length lc) (.map (some vb)) (.map ax))) :: (LB ++ (LP ++ [(vb, ov)]))) ++ Lr, by simpa using hs, _, Lr, _, by rw [hel], rfl, ?_, by rw [hel]; exact hMs⟩
                         rw [hel]
                         have hC1 : C.role = 1 := by rw [hC]; rfl
                         exact ⟨.slice la C.log.length lc, .map (some vb), .map ax, es, LB, LP, [(vb, ov)], [], by simp, hlog, .inr ⟨vb, ov, [], rfl, rfl, hMv, by simp, fun _ => rfl⟩, fun h => (by rw [hC1] at h; cases h), ⟨_, rfl⟩, hcok⟩)
                · skip
                  try simp only [decide_eq_true_eq, decide_eq_false_iff_not, gt_iff_lt, ge_iff_le, beq_iff_eq, beq_eq_false_iff_ne, ne_eq, bne_iff_ne, bne_eq_false_iff_eq, Bool.not_eq_true', Bool.not_eq_false', Bool.not_eq_true, Bool.not_eq_false, Decidable.not_not] at hc58
                  refine W_skip ?_
                  refine n_then ?_
                  refine W_seq ?_
                  refine W_region ?_
                  refine s_move rfl rfl ?_
                  refine s_move rfl rfl ?_
                  refine s_move rfl rfl ?_
                  refine s_nilCheck rfl rfl ?_
                  refine s_fieldAddr rfl rfl (FA89_2 _ _) ?_
                  first
                    | refine s_storeB Try.sizeOf3 rfl rfl rfl hs (kk := 0) rfl rfl ?_
                  clear hs; intro w hs; try simp only [List.set_cons_zero, List.set_cons_succ, splice, List.take_succ_cons, List.take_zero, List.drop_succ_cons, List.drop_zero, List.nil_append, List.cons_append, List.length_cons, List.length_nil, Nat.reduceAdd, List.append_assoc] at hs
                  refine s_nilCheck rfl rfl ?_
                  refine s_fieldAddr rfl rfl (FA89_4 _ _) ?_
                  first
                    | refine s_storeB Try.sizeOf3 rfl rfl rfl hs (kk := 0) rfl rfl ?_
                  clear hs; intro w hs; try simp only [List.set_cons_zero, List.set_cons_succ, splice, List.take_succ_cons, List.take_zero, List.drop_succ_cons, List.drop_zero, List.nil_append, List.cons_append, List.length_cons, List.length_nil, Nat.reduceAdd, List.append_assoc] at hs
                  refine WL_nil ?_
                  refine n_then ?_
                  refine W_seq ?_
                  refine W_seq ?_
                  refine W_region ?_
                  refine s_move rfl rfl ?_
                  have hel : R.elect t = if R.mem < 2 then ((R.cand t.toNat).crown, (R.cand t.toNat).crown.others (R.cand t.toNat).crown.spreadM, 0) else (R.cand t.toNat, (R.cand t.toNat).others (askM t.toNat), 0) := by rw [Rp.elect, if_neg (by omega), if_neg (by omega), if_neg (by omega)]
                  obtain ⟨tn, rfl⟩ : ∃ tn : Nat, t = (tn : Int) := ⟨t.toNat, by omega⟩
                  rw [Int.toNat_natCast] at hel
                  have hcok : (R.cand tn).ok := hok.cand (by omega)
                  obtain ⟨vb, ov, hMv, hs⟩ : ∃ vb ov, MapI ov [] ∧ St F w0 w ((p, Blk 89 (rpCells (R.cand tn) (.slice la R.log.length lc) (.map (some vb)) (.map ax))) :: (LB ++ (LP ++ ((vb, ov) :: ([] ++ []))))) := by
                    first
                      | (rcases hvo with ⟨_, _, h1⟩ | ⟨vb, ov, kvs, h1, rfl, hMv, _, h2⟩
                         · exfalso; omega
                         · cases h1
                           obtain rfl := h2 (by omega)
                           refine ⟨vb, ov, hMv, ?_⟩
                           simpa [cat, rpCells, Rp.cand] using St.reord [[_], LB, LP, [_], LA] [0, 1, 2, 3] [4] (by simpa [cat, rpCells] using hs) rfl)
                  obtain ⟨C, hC⟩ : ∃ C, C = R.cand tn := ⟨_, rfl⟩
                  rw [← hC] at hs hcok hel
                  rw [show R.log.length = C.log.length from by rw [hC]; rfl] at hs hlog
                  rw [show R.log = C.log from by rw [hC]; rfl] at hlog
                  rw [show R.mem = C.mem from by rw [hC]; rfl] at hel
                  refine s_call Try.call38 rfl rfl (majority_ok p _ C.mem 1 w (hs.at (k := 0) rfl) rfl (by omega)) ?_
                  rintro r w ⟨hst, rfl⟩
                  replace hs := hs.back0 hst
                  clear hst
                  simp only [List.nil_append] at hs
                  refine WL_nil ?_
                  refine n_then ?_
                  refine W_cond rfl (fun hc71 => ?_) (fun hc71 => ?_)
                  · skip
                    try simp only [decide_eq_true_eq, decide_eq_false_iff_not, gt_iff_lt, ge_iff_le, beq_iff_eq, beq_eq_false_iff_ne, ne_eq, bne_iff_ne, bne_eq_false_iff_eq, Bool.not_eq_true', Bool.not_eq_false', Bool.not_eq_true, Bool.not_eq_false, Decidable.not_not] at hc71
                    refine W_seq ?_
                    refine W_region ?_
                    refine s_move rfl rfl ?_
                    rw [if_pos (by omega)] at hel
                    refine s_callL (M := []) (L1 := (p, Blk 89 (rpCells C (.slice la C.log.length lc) (.map (some vb)) (.map ax))) :: (LB ++ (LP ++ ((vb, ov) :: ([] ++ []))))) (X := []) Try.call39 rfl rfl (by simpa using hs) (fun h => lead_ok p C C.mem (askM 0) _ vb ov [] ax es LB LP (.slice none 0 0) [] [] [] _ w rfl hlog hMv (fun i hi => by rw [if_neg (by omega)]; rfl) (by simp) ⟨OwnS.nil _ _, nofun, rfl⟩ (askM_ok (by decide)) hcok h) ?_
                    clear hs; rintro u w L9 ⟨Lr, LQ, rfl, hRQ, hMs⟩ - hs
                    rw [if_neg (Nat.lt_irrefl _)] at hRQ hMs
                    simp only [List.nil_append, List.append_nil] at hs
                    refine s_assign rfl rfl ?_
                    refine s_assign rfl rfl ?_
                    refine WL_nil ?_
                    refine n_then ?_
                    refine W_ret ?_
                    refine r_then ?_
                    first
                      | exact end2 rfl rfl rfl ⟨LQ ++ Lr, hs, _, Lr, LQ, by rw [hel], rfl, by rw [hel]; exact hRQ, by rw [hel]; exact hMs⟩
                  · skip
                    try simp only [decide_eq_true_eq, decide_eq_false_iff_not, gt_iff_lt, ge_iff_le, beq_iff_eq, beq_eq_false_iff_ne, ne_eq, bne_iff_ne, bne_eq_false_iff_eq, Bool.not_eq_true', Bool.not_eq_false', Bool.not_eq_true, Bool.not_eq_false, Decidable.not_not] at hc71
                    refine W_skip ?_
                    refine n_then ?_
                    refine W_seq ?_
                    refine W_region ?_
                    refine s_move rfl rfl ?_
                    refine s_move rfl rfl ?_
                    refine s_build rfl rfl (BD94_0_2 _ _) ?_
                    rw [if_neg (by omega)] at hel
                    refine s_call Try.call40 rfl rfl (others_ok p C _ (askM tn) (.slice none 0 0) [] [] w (hs.at (k := 0) rfl) rfl rfl hcok.m3 ⟨none, 0, rfl, Nat.le_refl _, .inl rfl⟩ nofun nofun rfl (askM_ok (by omega))) ?_
                    rintro r w ⟨Lr, hMs, hst⟩
                    replace hs := (hs.back0 hst).swap (A := Lr)
                    clear hst
                    refine s_assign rfl rfl ?_
                    refine s_assign rfl rfl ?_
                    refine WL_nil ?_
                    refine n_then ?_
                    refine W_ret ?_
                    first
                      | (refine end2 rfl rfl rfl ⟨((p, Blk 89 (rpCells C (.slice la C.log.length lc) (.map (some vb)) (.map ax))) :: (LB ++ (LP ++ [(vb, ov)]))) ++ Lr, by simpa using hs, _, Lr, _, by rw [hel], rfl, ?_, by rw [hel]; exact hMs⟩
                         rw [hel]
                         have hC1 : C.role = 1 := by rw [hC]; rfl
                         exact ⟨.slice la C.log.length lc, .map (some vb), .map ax, es, LB, LP, [(vb, ov)], [], by simp, hlog, .inr ⟨vb, ov, [], rfl, rfl, hMv, by simp, fun _ => rfl⟩, fun h => (by rw [hC1] at h; cases h), ⟨_, rfl⟩, hcok⟩)
          · skip
            try simp only [decide_eq_true_eq, decide_eq_false_iff_not, gt_iff_lt, ge_iff_le, beq_iff_eq, beq_eq_false_iff_ne, ne_eq, bne_iff_ne, bne_eq_false_iff_eq, Bool.not_eq_true', Bool.not_eq_false', Bool.not_eq_true, Bool.not_eq_false, Decidable.not_not] at hg36
            refine WL_skip rfl rfl rfl ?_
            refine WL_skip rfl rfl rfl ?_
            refine WL_skip rfl rfl rfl ?_
            refine WL_skip rfl rfl rfl ?_
            refine WL_skip rfl rfl rfl ?_
            refine WL_skip rfl rfl rfl ?_
            refine s_pick_f rfl rfl rfl ?_
            refine WL_nil ?_
            refine n_then ?_
            refine W_cond_f rfl ?_
            refine W_skip ?_
            refine n_then ?_
            refine W_seq ?_
            refine W_seq ?_
            refine W_region ?_
            refine s_move rfl rfl ?_
            refine s_move rfl rfl ?_
            refine s_nilCheck rfl rfl ?_
            refine s_fieldAddr rfl rfl (FA89_2 _ _) ?_
            first
              | refine s_load Try.isAgg3 rfl rfl (hs.cell (k := 0) rfl rfl) ?_
            refine s_gtr rfl rfl rfl ?_
            refine s_move rfl rfl ?_
            refine WL_case (s := 52) rfl (fun hg52 => ?_) (fun hg52 => ?_)
            · skip
              try simp only [decide_eq_true_eq, decide_eq_false_iff_not, gt_iff_lt, ge_iff_le, beq_iff_eq, beq_eq_false_iff_ne, ne_eq, bne_iff_ne, bne_eq_false_iff_eq, Bool.not_eq_true', Bool.not_eq_false', Bool.not_eq_true, Bool.not_eq_false, Decidable.not_not] at hg52
              refine WL_skip rfl rfl rfl ?_
              refine WL_skip rfl rfl rfl ?_
              refine WL_skip rfl rfl rfl ?_
              refine WL_skip rfl rfl rfl ?_
              refine WL_skip rfl rfl rfl ?_
              refine s_pick_t rfl rfl rfl ?_
              refine WL_nil ?_
              refine n_then ?_
              refine W_cond_t rfl ?_
              refine W_region ?_
              refine s_move rfl rfl ?_
              refine s_makeMap rfl hs ?_; clear hs; intro b60 w hs
              refine s_nilCheck rfl rfl ?_
              refine s_fieldAddr rfl rfl (FA89_7 _ _) ?_
              first
                | refine s_storeB Try.sizeOf86 rfl rfl rfl hs (kk := 1) rfl rfl ?_
              clear hs; intro w hs; try simp only [List.set_cons_zero, List.set_cons_succ, splice, List.take_succ_cons, List.take_zero, List.drop_succ_cons, List.drop_zero, List.nil_append, List.cons_append, List.length_cons, List.length_nil, Nat.reduceAdd, List.append_assoc] at hs
              refine WL_nil ?_
              refine n_then ?_
              refine W_seq ?_
              refine W_region ?_
              refine s_move rfl rfl ?_
              refine s_move rfl rfl ?_
              refine s_move rfl rfl ?_
              refine s_nilCheck rfl rfl ?_
              refine s_fieldAddr rfl rfl (FA89_2 _ _) ?_
              first
                | refine s_storeB Try.sizeOf3 rfl rfl rfl hs (kk := 1) rfl rfl ?_
              clear hs; intro w hs; try simp only [List.set_cons_zero, List.set_cons_succ, splice, List.take_succ_cons, List.take_zero, List.drop_succ_cons, List.drop_zero, List.nil_append, List.cons_append, List.length_cons, List.length_nil, Nat.reduceAdd, List.append_assoc] at hs
              refine s_nilCheck rfl rfl ?_
              refine s_fieldAddr rfl rfl (FA89_4 _ _) ?_
              first
                | refine s_storeB Try.sizeOf3 rfl rfl rfl hs (kk := 1) rfl rfl ?_
              clear hs; intro w hs; try simp only [List.set_cons_zero, List.set_cons_succ, splice, List.take_succ_cons, List.take_zero, List.drop_succ_cons, List.drop_zero, List.nil_append, List.cons_append, List.length_cons, List.length_nil, Nat.reduceAdd, List.append_assoc] at hs
              refine WL_nil ?_
              refine n_then ?_
              refine W_seq ?_
              refine W_seq ?_
              refine W_region ?_
              refine s_move rfl rfl ?_
              have hel : R.elect t = if R.mem < 2 then ((R.cand t.toNat).crown, (R.cand t.toNat).crown.others (R.cand t.toNat).crown.spreadM, 0) else (R.cand t.toNat, (R.cand t.toNat).others (askM t.toNat), 0) := by rw [Rp.elect, if_neg (by omega), if_neg (by omega), if_neg (by omega)]
              obtain ⟨tn, rfl⟩ : ∃ tn : Nat, t = (tn : Int) := ⟨t.toNat, by omega⟩
              rw [Int.toNat_natCast] at hel
              have hcok : (R.cand tn).ok := hok.cand (by omega)
              obtain ⟨vb, ov, hMv, hs⟩ : ∃ vb ov, MapI ov [] ∧ St F w0 w ((p, Blk 89 (rpCells (R.cand tn) (.slice la R.log.length lc) (.map (some vb)) (.map ax))) :: (LB ++ (LP ++ ((vb, ov) :: ([] ++ []))))) := by
                first
                  | (refine ⟨b60, _, MapI.empty, ?_⟩
                     simpa [cat, rpCells, Rp.cand] using St.reord [[_], [_], LB, LP, LV, LA] [1, 2, 3, 0] [4, 5] (by simpa [cat, rpCells] using hs) rfl)
              obtain ⟨C, hC⟩ : ∃ C, C = R.cand tn := ⟨_, rfl⟩
              rw [← hC] at hs hcok hel
              rw [show R.log.length = C.log.length from by rw [hC]; rfl] at hs hlog
              rw [show R.log = C.log from by rw [hC]; rfl] at hlog
              rw [show R.mem = C.mem from by rw [hC]; rfl] at hel
              refine s_call Try.call38 rfl rfl (majority_ok p _ C.mem 1 w (hs.at (k := 0) rfl) rfl (by omega)) ?_
              rintro r w ⟨hst, rfl⟩
              replace hs := hs.back0 hst
              clear hst
              simp only [List.nil_append] at hs
              refine WL_nil ?_
              refine n_then ?_
              refine W_cond rfl (fun hc71 => ?_) (fun hc71 => ?_)
              · skip
                try simp only [decide_eq_true_eq, decide_eq_false_iff_not, gt_iff_lt, ge_iff_le, beq_iff_eq, beq_eq_false_iff_ne, ne_eq, bne_iff_ne, bne_eq_false_iff_eq, Bool.not_eq_true', Bool.not_eq_false', Bool.not_eq_true, Bool.not_eq_false, Decidable.not_not] at hc71
                refine W_seq ?_
                refine W_region ?_
                refine s_move rfl rfl ?_
                rw [if_pos (by omega)] at hel
                refine s_callL (M := []) (L1 := (p, Blk 89 (rpCells C (.slice la C.log.length lc) (.map (some vb)) (.map ax))) :: (LB ++ (LP ++ ((vb, ov) :: ([] ++ []))))) (X := []) Try.call39 rfl rfl (by simpa using hs) (fun h => lead_ok p C C.mem (askM 0) _ vb ov [] ax es LB LP (.slice none 0 0) [] [] [] _ w rfl hlog hMv (fun i hi => by rw [if_neg (by omega)]; rfl) (by simp) ⟨OwnS.nil _ _, nofun, rfl⟩ (askM_ok (by decide)) hcok h) ?_
                clear hs; rintro u w L9 ⟨Lr, LQ, rfl, hRQ, hMs⟩ - hs
                rw [if_neg (Nat.lt_irrefl _)] at hRQ hMs
                simp only [List.nil_append, List.append_nil] at hs
                refine s_assign rfl rfl ?_
                refine s_assign rfl rfl ?_
                refine WL_nil ?_
                refine n_then ?_
                refine W_ret ?_
                refine r_then ?_
                first
                  | exact end2 rfl rfl rfl ⟨LQ ++ Lr, hs, _, Lr, LQ, by rw [hel], rfl, by rw [hel]; exact hRQ, by rw [hel]; exact hMs⟩
              · skip
                try simp only [decide_eq_true_eq, decide_eq_false_iff_not, gt_iff_lt, ge_iff_le, beq_iff_eq, beq_eq_false_iff_ne, ne_eq, bne_iff_ne, bne_eq_false_iff_eq, Bool.not_eq_true', Bool.not_eq_false', Bool.not_eq_true, Bool.not_eq_false, Decidable.not_not] at hc71
                refine W_skip ?_
                refine n_then ?_
                refine W_seq ?_
                refine W_region ?_
                refine s_move rfl rfl ?_
                refine s_move rfl rfl ?_
                refine s_build rfl rfl (BD94_0_2 _ _) ?_
                rw [if_neg (by omega)] at hel
                refine s_call Try.call40 rfl rfl (others_ok p C _ (askM tn) (.slice none 0 0) [] [] w (hs.at (k := 0) rfl) rfl rfl hcok.m3 ⟨none, 0, rfl, Nat.le_refl _, .inl rfl⟩ nofun nofun rfl (askM_ok (by omega))) ?_
                rintro r w ⟨Lr, hMs, hst⟩
                replace hs := (hs.back0 hst).swap (A := Lr)
                clear hst
                refine s_assign rfl rfl ?_
                refine s_assign rfl rfl ?_
                refine WL_nil ?_
                refine n_then ?_
                refine W_ret ?_
                first
                  | (refine end2 rfl rfl rfl ⟨((p, Blk 89 (rpCells C (.slice la C.log.length lc) (.map (some vb)) (.map ax))) :: (LB ++ (LP ++ [(vb, ov)]))) ++ Lr, by simpa using hs, _, Lr, _, by rw [hel], rfl, ?_, by rw [hel]; exact hMs⟩
                     rw [hel]
                     have hC1 : C.role = 1 := by rw [hC]; rfl
                     exact ⟨.slice la C.log.length lc, .map (some vb), .map ax, es, LB, LP, [(vb, ov)], [], by simp, hlog, .inr ⟨vb, ov, [], rfl, rfl, hMv, by simp, fun _ => rfl⟩, fun h => (by rw [hC1] at h; cases h), ⟨_, rfl⟩, hcok⟩)
            · skip
              try simp only [decide_eq_true_eq, decide_eq_false_iff_not, gt_iff_lt, ge_iff_le, beq_iff_eq, beq_eq_false_iff_ne, ne_eq, bne_iff_ne, bne_eq_false_iff_eq, Bool.not_eq_true', Bool.not_eq_false', Bool.not_eq_true, Bool.not_eq_false, Decidable.not_not] at hg52
              refine WL_take rfl ?_
              refine s_move rfl rfl ?_
              refine WL_take rfl ?_
              refine s_nilCheck rfl rfl ?_
              refine WL_take rfl ?_
              refine s_fieldAddr rfl rfl (FA89_4 _ _) ?_
              refine WL_take rfl ?_
              first
                | refine s_load Try.isAgg3 rfl rfl (hs.cell (k := 0) rfl rfl) ?_
              refine WL_take rfl ?_
              refine s_neq rfl rfl rfl ?_
              refine s_pick_f rfl rfl rfl ?_
              refine WL_nil ?_
              refine n_then ?_
              refine W_cond rfl (fun hc58 => ?_) (fun hc58 => ?_)
              · skip
                try simp only [decide_eq_true_eq, decide_eq_false_iff_not, gt_iff_lt, ge_iff_le, beq_iff_eq, beq_eq_false_iff_ne, ne_eq, bne_iff_ne, bne_eq_false_iff_eq, Bool.not_eq_true', Bool.not_eq_false', Bool.not_eq_true, Bool.not_eq_false, Decidable.not_not] at hc58
                refine W_region ?_
                refine s_move rfl rfl ?_
                refine s_makeMap rfl hs ?_; clear hs; intro b60 w hs
                refine s_nilCheck rfl rfl ?_
                refine s_fieldAddr rfl rfl (FA89_7 _ _) ?_
                first
                  | refine s_storeB Try.sizeOf86 rfl rfl rfl hs (kk := 1) rfl rfl ?_
                clear hs; intro w hs; try simp only [List.set_cons_zero, List.set_cons_succ, splice, List.take_succ_cons, List.take_zero, List.drop_succ_cons, List.drop_zero, List.nil_append, List.cons_append, List.length_cons, List.length_nil, Nat.reduceAdd, List.append_assoc] at hs
                refine WL_nil ?_
                refine n_then ?_
                refine W_seq ?_
                refine W_region ?_
                refine s_move rfl rfl ?_
                refine s_move rfl rfl ?_
                refine s_move rfl rfl ?_
                refine s_nilCheck rfl rfl ?_
                refine s_fieldAddr rfl rfl (FA89_2 _ _) ?_
                first
                  | refine s_storeB Try.sizeOf3 rfl rfl rfl hs (kk := 1) rfl rfl ?_
                clear hs; intro w hs; try simp only [List.set_cons_zero, List.set_cons_succ, splice, List.take_succ_cons, List.take_zero, List.drop_succ_cons, List.drop_zero, List.nil_append, List.cons_append, List.length_cons, List.length_nil, Nat.reduceAdd, List.append_assoc] at hs
                refine s_nilCheck rfl rfl ?_
                refine s_fieldAddr rfl rfl (FA89_4 _ _) ?_
                first
                  | refine s_storeB Try.sizeOf3 rfl rfl rfl hs (kk := 1) rfl rfl ?_
                clear hs; intro w hs; try simp only [List.set_cons_zero, List.set_cons_succ, splice, List.take_succ_cons, List.take_zero, List.drop_succ_cons, List.drop_zero, List.nil_append, List.cons_append, List.length_cons, List.length_nil, Nat.reduceAdd, List.append_assoc] at hs
                refine WL_nil ?_
                refine n_then ?_
                refine W_seq ?_
                refine W_seq ?_
                refine W_region ?_
                refine s_move rfl rfl ?_
                have hel : R.elect t = if R.mem < 2 then ((R.cand t.toNat).crown, (R.cand t.toNat).crown.others (R.cand t.toNat).crown.spreadM, 0) else (R.cand t.toNat, (R.cand t.toNat).others (askM t.toNat), 0) := by rw [Rp.elect, if_neg (by omega), if_neg (by omega), if_neg (by omega)]
                obtain ⟨tn, rfl⟩ : ∃ tn : Nat, t = (tn : Int) := ⟨t.toNat, by omega⟩
                rw [Int.toNat_natCast] at hel
                have hcok : (R.cand tn).ok := hok.cand (by omega)
                obtain ⟨vb, ov, hMv, hs⟩ : ∃ vb ov, MapI ov [] ∧ St F w0 w ((p, Blk 89 (rpCells (R.cand tn) (.slice la R.log.length lc) (.map (some vb)) (.map ax))) :: (LB ++ (LP ++ ((vb, ov) :: ([] ++ []))))) := by
                  first
                    | (refine ⟨b60, _, MapI.empty, ?_⟩
                       simpa [cat, rpCells, Rp.cand] using St.reord [[_], [_], LB, LP, LV, LA] [1, 2, 3, 0] [4, 5] (by simpa [cat, rpCells] using hs) rfl)
                obtain ⟨C, hC⟩ : ∃ C, C = R.cand tn := ⟨_, rfl⟩
                rw [← hC] at hs hcok hel
                rw [show R.log.length = C.log.length from by rw [hC]; rfl] at hs hlog
                rw [show R.log = C.log from by rw [hC]; rfl] at hlog
                rw [show R.mem = C.mem from by rw [hC]; rfl] at hel
                refine s_call Try.call38 rfl rfl (majority_ok p _ C.mem 1 w (hs.at (k := 0) rfl) rfl (by omega)) ?_
                rintro r w ⟨hst, rfl⟩
                replace hs := hs.back0 hst
                clear hst
                simp only [List.nil_append] at hs
                refine WL_nil ?_
                refine n_then ?_
                refine W_cond rfl (fun hc71 => ?_) (fun hc71 => ?_)
                · skip
                  try simp only [decide_eq_true_eq, decide_eq_false_iff_not, gt_iff_lt, ge_iff_le, beq_iff_eq, beq_eq_false_iff_ne, ne_eq, bne_iff_ne, bne_eq_false_iff_eq, Bool.not_eq_true', Bool.not_eq_false', Bool.not_eq_true, Bool.not_eq_false, Decidable.not_not] at hc71
                  refine W_seq ?_
                  refine W_region ?_
                  refine s_move rfl rfl ?_
                  rw [if_pos (by omega)] at hel
                  refine s_callL (M := []) (L1 := (p, Blk 89 (rpCells C (.slice la C.log.length lc) (.map (some vb)) (.map ax))) :: (LB ++ (LP ++ ((vb, ov) :: ([] ++ []))))) (X := []) Try.call39 rfl rfl (by simpa using hs) (fun h => lead_ok p C C.mem (askM 0) _ vb ov [] ax es LB LP (.slice none 0 0) [] [] [] _ w rfl hlog hMv (fun i hi => by rw [if_neg (by omega)]; rfl) (by simp) ⟨OwnS.nil _ _, nofun, rfl⟩ (askM_ok (by decide)) hcok h) ?_
                  clear hs; rintro u w L9 ⟨Lr, LQ, rfl, hRQ, hMs⟩ - hs
                  rw [if_neg (Nat.lt_irrefl _)] at hRQ hMs
                  simp only [List.nil_append, List.append_nil] at hs
                  refine s_assign rfl rfl ?_
                  refine s_assign rfl rfl ?_
                  refine WL_nil ?_
                  refine n_then ?_
                  refine W_ret ?_
                  refine r_then ?_
                  first
                    | exact end2 rfl rfl rfl ⟨LQ ++ Lr, hs, _, Lr, LQ, by rw [hel], rfl, by rw [hel]; exact hRQ, by rw [hel]; exact hMs⟩
                · skip
                  try simp only [decide_eq_true_eq, decide_eq_false_iff_not, gt_iff_lt, ge_iff_le, beq_iff_eq, beq_eq_false_iff_ne, ne_eq, bne_iff_ne, bne_eq_false_iff_eq, Bool.not_eq_true', Bool.not_eq_false', Bool.not_eq_true, Bool.not_eq_false, Decidable.not_not] at hc71
                  refine W_skip ?_
                  refine n_then ?_
                  refine W_seq ?_
                  refine W_region ?_
                  refine s_move rfl rfl ?_
                  refine s_move rfl rfl ?_
                  refine s_build rfl rfl (BD94_0_2 _ _) ?_
                  rw [if_neg (by omega)] at hel
                  refine s_call Try.call40 rfl rfl (others_ok p C _ (askM tn) (.slice none 0 0) [] [] w (hs.at (k := 0) rfl) rfl rfl hcok.m3 ⟨none, 0, rfl, Nat.le_refl _, .inl rfl⟩ nofun nofun rfl (askM_ok (by omega))) ?_
                  rintro r w ⟨Lr, hMs, hst⟩
                  replace hs := (hs.back0 hst).swap (A := Lr)
                  clear hst
                  refine s_assign rfl rfl ?_
                  refine s_assign rfl rfl ?_
                  refine WL_nil ?_
                  refine n_then ?_
                  refine W_ret ?_
                  first
                    | (refine end2 rfl rfl rfl ⟨((p, Blk 89 (rpCells C (.slice la C.log.length lc) (.map (some vb)) (.map ax))) :: (LB ++ (LP ++ [(vb, ov)]))) ++ Lr, by simpa using hs, _, Lr, _, by rw [hel], rfl, ?_, by rw [hel]; exact hMs⟩
                       rw [hel]
                       have hC1 : C.role = 1 := by rw [hC]; rfl
                       exact ⟨.slice la C.log.length lc, .map (some vb), .map ax, es, LB, LP, [(vb, ov)], [], by simp, hlog, .inr ⟨vb, ov, [], rfl, rfl, hMv, by simp, fun _ => rfl⟩, fun h => (by rw [hC1] at h; cases h), ⟨_, rfl⟩, hcok⟩)
              · skip
                try simp only [decide_eq_true_eq, decide_eq_false_iff_not, gt_iff_lt, ge_iff_le, beq_iff_eq, beq_eq_false_iff_ne, ne_eq, bne_iff_ne, bne_eq_false_iff_eq, Bool.not_eq_true', Bool.not_eq_false', Bool.not_eq_true, Bool.not_eq_false, Decidable.not_not] at hc58
                refine W_skip ?_
                refine n_then ?_
                refine W_seq ?_
                refine W_region ?_
                refine s_move rfl rfl ?_
                refine s_move rfl rfl ?_
                refine s_move rfl rfl ?_
                refine s_nilCheck rfl rfl ?_
                refine s_fieldAddr rfl rfl (FA89_2 _ _) ?_
                first
                  | refine s_storeB Try.sizeOf3 rfl rfl rfl hs (kk := 0) rfl rfl ?_
                clear hs; intro w hs; try simp only [List.set_cons_zero, List.set_cons_succ, splice, List.take_succ_cons, List.take_zero, List.drop_succ_cons, List.drop_zero, List.nil_append, List.cons_append, List.length_cons, List.length_nil, Nat.reduceAdd, List.append_assoc] at hs
                refine s_nilCheck rfl rfl ?_
                refine s_fieldAddr rfl rfl (FA89_4 _ _) ?_
                first
                  | refine s_storeB Try.sizeOf3 rfl rfl rfl hs (kk := 0) rfl rfl ?_
                clear hs; intro w hs; try simp only [List.set_cons_zero, List.set_cons_succ, splice, List.take_succ_cons, List.take_zero, List.drop_succ_cons, List.drop_zero, List.nil_append, List.cons_append, List.length_cons, List.length_nil, Nat.reduceAdd, List.append_assoc] at hs
                refine WL_nil ?_
                refine n_then ?_
                refine W_seq ?_
                refine W_seq ?_
                refine W_region ?_
                refine s_move rfl rfl ?_
                have hel : R.elect t = if R.mem < 2 then ((R.cand t.toNat).crown, (R.cand t.toNat).crown.others (R.cand t.toNat).crown.spreadM, 0) else (R.cand t.toNat, (R.cand t.toNat).others (askM t.toNat), 0) := by rw [Rp.elect, if_neg (by omega), if_neg (by omega), if_neg (by omega)]
                obtain ⟨tn, rfl⟩ : ∃ tn : Nat, t = (tn : Int) := ⟨t.toNat, by omega⟩
                rw [Int.toNat_natCast] at hel
                have hcok : (R.cand tn).ok := hok.cand (by omega)
                obtain ⟨vb, ov, hMv, hs⟩ : ∃ vb ov, MapI ov [] ∧ St F w0 w ((p, Blk 89 (rpCells (R.cand tn) (.slice la R.log.length lc) (.map (some vb)) (.map ax))) :: (LB ++ (LP ++ ((vb, ov) :: ([] ++ []))))) := by
                  first
                    | (rcases hvo with ⟨_, _, h1⟩ | ⟨vb, ov, kvs, h1, rfl, hMv, _, h2⟩
                       · exfalso; omega
                       · cases h1
                         obtain rfl := h2 (by omega)
                         refine ⟨vb, ov, hMv, ?_⟩
                         simpa [cat, rpCells, Rp.cand] using St.reord [[_], LB, LP, [_], LA] [0, 1, 2, 3] [4] (by simpa [cat, rpCells] using hs) rfl)
                obtain ⟨C, hC⟩ : ∃ C, C = R.cand tn := ⟨_, rfl⟩
                rw [← hC] at hs hcok hel
                rw [show R.log.length = C.log.length from by rw [hC]; rfl] at hs hlog
                rw [show R.log = C.log from by rw [hC]; rfl] at hlog
                rw [show R.mem = C.mem from by rw [hC]; rfl] at hel
                refine s_call Try.call38 rfl rfl (majority_ok p _ C.mem 1 w (hs.at (k := 0) rfl) rfl (by omega)) ?_
                rintro r w ⟨hst, rfl⟩
                replace hs := hs.back0 hst
                clear hst
                simp only [List.nil_append] at hs
                refine WL_nil ?_
                refine n_then ?_
                refine W_cond rfl (fun hc71 => ?_) (fun hc71 => ?_)
                · skip
                  try simp only [decide_eq_true_eq, decide_eq_false_iff_not, gt_iff_lt, ge_iff_le, beq_iff_eq, beq_eq_false_iff_ne, ne_eq, bne_iff_ne, bne_eq_false_iff_eq, Bool.not_eq_true', Bool.not_eq_false', Bool.not_eq_true, Bool.not_eq_false, Decidable.not_not] at hc71
                  refine W_seq ?_
                  refine W_region ?_
                  refine s_move rfl rfl ?_
                  rw [if_pos (by omega)] at hel
                  refine s_callL (M := []) (L1 := (p, Blk 89 (rpCells C (.slice la C.log.length lc) (.map (some vb)) (.map ax))) :: (LB ++ (LP ++ ((vb, ov) :: ([] ++ []))))) (X := []) Try.call39 rfl rfl (by simpa using hs) (fun h => lead_ok p C C.mem (askM 0) _ vb ov [] ax es LB LP (.slice none 0 0) [] [] [] _ w rfl hlog hMv (fun i hi => by rw [if_neg (by omega)]; rfl) (by simp) ⟨OwnS.nil _ _, nofun, rfl⟩ (askM_ok (by decide)) hcok h) ?_
                  clear hs; rintro u w L9 ⟨Lr, LQ, rfl, hRQ, hMs⟩ - hs
                  rw [if_neg (Nat.lt_irrefl _)] at hRQ hMs
                  simp only [List.nil_append, List.append_nil] at hs
                  refine s_assign rfl rfl ?_
                  refine s_assign rfl rfl ?_
                  refine WL_nil ?_
                  refine n_then ?_
                  refine W_ret ?_
                  refine r_then ?_
                  first
                    | exact end2 rfl rfl rfl ⟨LQ ++ Lr, hs, _, Lr, LQ, by rw [hel], rfl, by rw [hel]; exact hRQ, by rw [hel]; exact hMs⟩
                · skip
                  try simp only [decide_eq_true_eq, decide_eq_false_iff_not, gt_iff_lt, ge_iff_le, beq_iff_eq, beq_eq_false_iff_ne, ne_eq, bne_iff_ne, bne_eq_false_iff_eq, Bool.not_eq_true', Bool.not_eq_false', Bool.not_eq_true, Bool.not_eq_false, Decidable.not_not] at hc71
                  refine W_skip ?_
                  refine n_then ?_
                  refine W_seq ?_
                  refine W_region ?_
                  refine s_move rfl rfl ?_
                  refine s_move rfl rfl ?_
                  refine s_build rfl rfl (BD94_0_2 _ _) ?_
                  rw [if_neg (by omega)] at hel
                  refine s_call Try.call40 rfl rfl (others_ok p C _ (askM tn) (.slice none 0 0) [] [] w (hs.at (k := 0) rfl) rfl rfl hcok.m3 ⟨none, 0, rfl, Nat.le_refl _, .inl rfl⟩ nofun nofun rfl (askM_ok (by omega))) ?_
                  rintro r w ⟨Lr, hMs, hst⟩
                  replace hs := (hs.back0 hst).swap (A := Lr)
                  clear hst
                  refine s_assign rfl rfl ?_
                  refine s_assign rfl rfl ?_
                  refine WL_nil ?_
                  refine n_then ?_
                  refine W_ret ?_
                  first
                    | (refine end2 rfl rfl rfl ⟨((p, Blk 89 (rpCells C (.slice la C.log.length lc) (.map (some vb)) (.map ax))) :: (LB ++ (LP ++ [(vb, ov)]))) ++ Lr, by simpa using hs, _, Lr, _, by rw [hel], rfl, ?_, by rw [hel]; exact hMs⟩
                       rw [hel]
                       have hC1 : C.role = 1 := by rw [hC]; rfl
                       exact ⟨.slice la C.log.length lc, .map (some vb), .map ax, es, LB, LP, [(vb, ov)], [], by simp, hlog, .inr ⟨vb, ov, [], rfl, rfl, hMv, by simp, fun _ => rfl⟩, fun h => (by rw [hC1] at h; cases h), ⟨_, rfl⟩, hcok⟩)
end Go.Proofs.Ytkobigdfijeajaa
