/- A replica: Receive of what is no message of the group. -/
import Derived.Test.YtkobigdfijeajaaRpO
set_option linter.unusedVariables false
set_option linter.unusedSimpArgs false
namespace Go.Proofs.Ytkobigdfijeajaa
open Go.SL
set_option maxHeartbeats 4000000 in
theorem receive_bad (p : Nat) (R : Rp) (cs : List Value) (frm to : Int) (v : Value) (w0 : World) (hp : w0.heap[p]? = some (Blk 89 cs)) (h0 : cs[0]? = some (.int .i64 (R.id : Int))) (h1 : cs[1]? = some (.int .i64 (R.mem : Int))) (hv : ∃ a n c, v = .slice a n c)
    (hbad : to ≠ (R.id : Int) ∨ frm = (R.id : Int) ∨ frm < 0 ∨ (R.mem : Int) ≤ frm) :
    Ret Try.prog 24 [.pointer (some ⟨p, 0, none⟩), .agg #[.int .i64 frm, .int .i64 to, v]].toArray w0 fun r w' => St [] w0 w' [] ∧ r = .slice none 0 0 := by
  have c0 := cell_blk hp h0
  have c1 := cell_blk hp h1
  have hB := (Array.getElem?_eq_some_iff.1 hp).1
  obtain ⟨va, vn, vc, rfl⟩ := hv
  refine Ret_start fun w hs => ?_
  refine Ret_of Try.func24 rfl Try.ntmps24 rfl ?_
  refine W_seq ?_
  refine W_region ?_
  first | refine s_box rfl rfl hs ?_ | refine s_box1 rfl rfl rfl hs ?_
  clear hs; intro b3 w hs
  refine s_assign rfl rfl ?_
  refine WL_nil ?_
  refine n_then ?_
  refine W_seq ?_
  refine W_seq ?_
  refine W_draw [(0, true, []), (1, true, []), (2, true, []), (3, true, []), (4, true, []), (5, true, []), (6, true, []), (7, true, []), (8, true, []), (9, true, []), (10, true, []), (11, true, []), (12, true, []), (13, true, []), (14, true, []), (15, true, []), (16, true, []), (17, true, []), (18, true, []), (19, true, []), (20, true, []), (21, true, []), (22, true, []), (23, true, []), (24, true, []), (25, true, []), (26, true, []), (27, true, []), (28, true, []), (29, true, [])] [[], [0], [], [2], [2, 3], [2, 3, 4], [0, 1, 2, 3, 4, 5], [0, 1, 2, 3, 4, 5, 6], [0, 1, 2, 3, 4, 5, 6, 7], [0, 1, 2, 3, 4, 5, 6, 7, 8], [0, 1, 2, 3, 4, 5, 6, 7], [0, 1, 2, 3, 4, 5, 6, 7, 10], [0, 1, 2, 3, 4, 5, 6, 7, 10, 11], [0, 1, 2, 3, 4, 5, 6, 7, 10, 11, 12], [0, 1, 2, 3, 4, 5, 6, 7, 8, 9, 10, 11, 12, 13], [0, 1, 2, 3, 4, 5, 6, 7, 8, 9, 10, 11, 12, 13, 14], [0, 1, 2, 3, 4, 5, 6, 7, 8, 9, 10, 11, 12, 13, 14, 15], [0, 1, 2, 3, 4, 5, 6, 7, 8, 9, 10, 11, 12, 13, 14, 15, 16], [0, 1, 2, 3, 4, 5, 6, 7, 8, 9, 10, 11, 12, 13, 14, 15, 16, 17], [0, 1, 2, 3, 4, 5, 6, 7, 8, 9, 10, 11, 12, 13, 14, 15, 16, 17, 18], [0, 1, 2, 3, 4, 5, 6, 7, 8, 9, 10, 11, 12, 13, 14, 15, 16, 17, 18, 19], [0, 1, 2, 3, 4, 5, 6, 7, 8, 9, 10, 11, 12, 13, 14, 15, 16, 17, 18, 19, 20], [0, 1, 2, 3, 4, 5, 6, 7, 8, 9, 10, 11, 12, 13, 14, 15, 16, 17, 18, 19, 20, 21], [0, 1, 2, 3, 4, 5, 6, 7, 8, 9, 10, 11, 12, 13, 14, 15, 16, 17, 18, 19, 20, 21, 22], [0, 1, 2, 3, 4, 5, 6, 7, 8, 9, 10, 11, 12, 13, 14, 15, 16, 17, 18, 19, 20, 21], [0, 1, 2, 3, 4, 5, 6, 7, 8, 9, 10, 11, 12, 13, 14, 15, 16, 17, 18, 19, 20, 21, 24], [0, 1, 2, 3, 4, 5, 6, 7, 8, 9, 10, 11, 12, 13, 14, 15, 16, 17, 18, 19, 20, 21, 24, 25], [0, 1, 2, 3, 4, 5, 6, 7, 8, 9, 10, 11, 12, 13, 14, 15, 16, 17, 18, 19, 20, 21, 24, 25, 26], [0, 1, 2, 3, 4, 5, 6, 7, 8, 9, 10, 11, 12, 13, 14, 15, 16, 17, 18, 19, 20, 21, 22, 23, 24, 25, 26, 27], [0, 1, 2, 3, 4, 5, 6, 7, 8, 9, 10, 11, 12, 13, 14, 15, 16, 17, 18, 19, 20, 21, 22, 23, 24, 25, 26, 27, 28]] MX (by kernel_rfl) ?_
  intro w1 hw1 hw2 hw3 hw4; replace hs := hs.redrawn hw1 hw2 hw3 hw4; clear hw1 hw2 hw3 hw4
  obtain ⟨w, rfl⟩ : ∃ w : World, w = w1 := ⟨_, rfl⟩
  refine D_q rfl rfl ?_
  refine s_fieldAddr rfl rfl (FA56_1 _ _) ?_
  refine D_qn ?_
  refine D_q rfl rfl ?_
  first
    | refine s_load Try.isAgg3 rfl rfl (hs.cell (k := 0) rfl rfl) ?_
    | refine s_load Try.isAgg3 rfl rfl (((hs.oldcell (a := ⟨p, 0, none⟩) hB (by simp)).trans c0)) ?_
  refine D_qn ?_
  refine D_q rfl rfl ?_
  refine s_move rfl rfl ?_
  refine D_qn ?_
  refine D_q rfl rfl ?_
  refine s_nilCheck rfl rfl ?_
  refine D_qn ?_
  refine D_q rfl rfl ?_
  refine s_fieldAddr rfl rfl (FA89_0 _ _) ?_
  refine D_qn ?_
  refine D_q rfl rfl ?_
  first
    | refine s_load Try.isAgg3 rfl rfl (hs.cell (k := 0) rfl rfl) ?_
    | refine s_load Try.isAgg3 rfl rfl (((hs.oldcell (a := ⟨p, 0, none⟩) hB (by simp)).trans c0)) ?_
  refine D_qn ?_
  refine D_q rfl rfl ?_
  refine s_neq rfl rfl rfl ?_
  refine D_qn ?_
  refine D_q rfl rfl ?_
  refine s_move rfl rfl ?_
  refine WL_case (s := 15) rfl (fun hg15 => ?_) (fun hg15 => ?_)
  · skip
    try simp only [decide_eq_true_eq, decide_eq_false_iff_not, gt_iff_lt, ge_iff_le, beq_iff_eq, beq_eq_false_iff_ne, ne_eq, bne_iff_ne, bne_eq_false_iff_eq, Bool.not_eq_true', Bool.not_eq_false', Bool.not_eq_true, Bool.not_eq_false, Decidable.not_not] at hg15
    refine D_qn ?_
    refine D_q rfl rfl ?_
    refine WL_skip rfl rfl rfl ?_
    refine D_qn ?_
    refine D_q rfl rfl ?_
    refine WL_skip rfl rfl rfl ?_
    refine D_qn ?_
    refine D_q rfl rfl ?_
    refine WL_skip rfl rfl rfl ?_
    refine D_qn ?_
    refine D_q rfl rfl ?_
    refine WL_skip rfl rfl rfl ?_
    refine D_qn ?_
    refine D_q rfl rfl ?_
    refine WL_skip rfl rfl rfl ?_
    refine D_qn ?_
    refine D_q rfl rfl ?_
    refine WL_skip rfl rfl rfl ?_
    refine D_qn ?_
    refine D_q rfl rfl ?_
    refine WL_skip rfl rfl rfl ?_
    refine D_qn ?_
    refine D_q rfl rfl ?_
    refine s_pick_t rfl rfl rfl ?_
    refine D_qn ?_
    refine D_q rfl rfl ?_
    refine s_move rfl rfl ?_
    refine D_qn ?_
    refine D_q rfl rfl ?_
    refine WL_skip rfl rfl rfl ?_
    refine D_qn ?_
    refine D_q rfl rfl ?_
    refine WL_skip rfl rfl rfl ?_
    refine D_qn ?_
    refine D_q rfl rfl ?_
    refine WL_skip rfl rfl rfl ?_
    refine D_qn ?_
    refine D_q rfl rfl ?_
    refine s_pick_t rfl rfl rfl ?_
    refine D_qn ?_
    refine D_q rfl rfl ?_
    refine s_move rfl rfl ?_
    refine D_qn ?_
    refine D_q rfl rfl ?_
    refine WL_skip rfl rfl rfl ?_
    refine D_qn ?_
    refine D_q rfl rfl ?_
    refine WL_skip rfl rfl rfl ?_
    refine D_qn ?_
    refine D_q rfl rfl ?_
    refine WL_skip rfl rfl rfl ?_
    refine D_qn ?_
    refine D_q rfl rfl ?_
    refine WL_skip rfl rfl rfl ?_
    refine D_qn ?_
    refine D_q rfl rfl ?_
    refine WL_skip rfl rfl rfl ?_
    refine D_qn ?_
    refine D_q rfl rfl ?_
    refine WL_skip rfl rfl rfl ?_
    refine D_qn ?_
    refine D_q rfl rfl ?_
    refine WL_skip rfl rfl rfl ?_
    refine D_qn ?_
    refine D_q rfl rfl ?_
    refine s_pick_t rfl rfl rfl ?_
    refine D_qn ?_
    refine D_nil ?_
    refine n_then ?_
    refine W_cond_t rfl ?_
    refine W_seq ?_
    refine W_region ?_
    refine s_assign rfl rfl ?_
    refine WL_nil ?_
    refine n_then ?_
    refine W_ret ?_
    refine r_then ?_
    exact end1 rfl rfl ⟨hs.tail, rfl⟩
  · skip
    try simp only [decide_eq_true_eq, decide_eq_false_iff_not, gt_iff_lt, ge_iff_le, beq_iff_eq, beq_eq_false_iff_ne, ne_eq, bne_iff_ne, bne_eq_false_iff_eq, Bool.not_eq_true', Bool.not_eq_false', Bool.not_eq_true, Bool.not_eq_false, Decidable.not_not] at hg15
    refine D_qn ?_
    refine D_q rfl rfl ?_
    refine WL_take rfl ?_
    refine s_fieldAddr rfl rfl (FA56_0 _ _) ?_
    refine D_qn ?_
    refine D_q rfl rfl ?_
    refine WL_take rfl ?_
    first
      | refine s_load Try.isAgg3 rfl rfl (hs.cell (k := 0) rfl rfl) ?_
      | refine s_load Try.isAgg3 rfl rfl (((hs.oldcell (a := ⟨p, 0, none⟩) hB (by simp)).trans c0)) ?_
    refine D_qn ?_
    refine D_q rfl rfl ?_
    refine WL_take rfl ?_
    refine s_move rfl rfl ?_
    refine D_qn ?_
    refine D_q rfl rfl ?_
    refine WL_take rfl ?_
    refine s_nilCheck rfl rfl ?_
    refine D_qn ?_
    refine D_q rfl rfl ?_
    refine WL_take rfl ?_
    refine s_fieldAddr rfl rfl (FA89_0 _ _) ?_
    refine D_qn ?_
    refine D_q rfl rfl ?_
    refine WL_take rfl ?_
    first
      | refine s_load Try.isAgg3 rfl rfl (hs.cell (k := 0) rfl rfl) ?_
      | refine s_load Try.isAgg3 rfl rfl (((hs.oldcell (a := ⟨p, 0, none⟩) hB (by simp)).trans c0)) ?_
    refine D_qn ?_
    refine D_q rfl rfl ?_
    refine WL_take rfl ?_
    refine s_eql rfl rfl rfl ?_
    refine D_qn ?_
    refine D_q rfl rfl ?_
    refine s_pick_f rfl rfl rfl ?_
    refine D_qn ?_
    refine D_q rfl rfl ?_
    refine s_move rfl rfl ?_
    refine WL_case (s := 24) rfl (fun hg24 => ?_) (fun hg24 => ?_)
    · skip
      try simp only [decide_eq_true_eq, decide_eq_false_iff_not, gt_iff_lt, ge_iff_le, beq_iff_eq, beq_eq_false_iff_ne, ne_eq, bne_iff_ne, bne_eq_false_iff_eq, Bool.not_eq_true', Bool.not_eq_false', Bool.not_eq_true, Bool.not_eq_false, Decidable.not_not] at hg24
      refine D_qn ?_
      refine D_q rfl rfl ?_
      refine WL_skip rfl rfl rfl ?_
      refine D_qn ?_
      refine D_q rfl rfl ?_
      refine WL_skip rfl rfl rfl ?_
      refine D_qn ?_
      refine D_q rfl rfl ?_
      refine WL_skip rfl rfl rfl ?_
      refine D_qn ?_
      refine D_q rfl rfl ?_
      refine s_pick_t rfl rfl rfl ?_
      refine D_qn ?_
      refine D_q rfl rfl ?_
      refine s_move rfl rfl ?_
      refine D_qn ?_
      refine D_q rfl rfl ?_
      refine WL_skip rfl rfl rfl ?_
      refine D_qn ?_
      refine D_q rfl rfl ?_
      refine WL_skip rfl rfl rfl ?_
      refine D_qn ?_
      refine D_q rfl rfl ?_
      refine WL_skip rfl rfl rfl ?_
      refine D_qn ?_
      refine D_q rfl rfl ?_
      refine WL_skip rfl rfl rfl ?_
      refine D_qn ?_
      refine D_q rfl rfl ?_
      refine WL_skip rfl rfl rfl ?_
      refine D_qn ?_
      refine D_q rfl rfl ?_
      refine WL_skip rfl rfl rfl ?_
      refine D_qn ?_
      refine D_q rfl rfl ?_
      refine WL_skip rfl rfl rfl ?_
      refine D_qn ?_
      refine D_q rfl rfl ?_
      refine s_pick_t rfl rfl rfl ?_
      refine D_qn ?_
      refine D_nil ?_
      refine n_then ?_
      refine W_cond_t rfl ?_
      refine W_seq ?_
      refine W_region ?_
      refine s_assign rfl rfl ?_
      refine WL_nil ?_
      refine n_then ?_
      refine W_ret ?_
      refine r_then ?_
      exact end1 rfl rfl ⟨hs.tail, rfl⟩
    · skip
      try simp only [decide_eq_true_eq, decide_eq_false_iff_not, gt_iff_lt, ge_iff_le, beq_iff_eq, beq_eq_false_iff_ne, ne_eq, bne_iff_ne, bne_eq_false_iff_eq, Bool.not_eq_true', Bool.not_eq_false', Bool.not_eq_true, Bool.not_eq_false, Decidable.not_not] at hg24
      refine D_qn ?_
      refine D_q rfl rfl ?_
      refine WL_take rfl ?_
      refine s_fieldAddr rfl rfl (FA56_0 _ _) ?_
      refine D_qn ?_
      refine D_q rfl rfl ?_
      refine WL_take rfl ?_
      first
        | refine s_load Try.isAgg3 rfl rfl (hs.cell (k := 0) rfl rfl) ?_
        | refine s_load Try.isAgg3 rfl rfl (((hs.oldcell (a := ⟨p, 0, none⟩) hB (by simp)).trans c0)) ?_
      refine D_qn ?_
      refine D_q rfl rfl ?_
      refine WL_take rfl ?_
      refine s_lss rfl rfl rfl ?_
      refine D_qn ?_
      refine D_q rfl rfl ?_
      refine s_pick_f rfl rfl rfl ?_
      refine D_qn ?_
      refine D_q rfl rfl ?_
      refine s_move rfl rfl ?_
      refine WL_case (s := 29) rfl (fun hg29 => ?_) (fun hg29 => ?_)
      · skip
        try simp only [decide_eq_true_eq, decide_eq_false_iff_not, gt_iff_lt, ge_iff_le, beq_iff_eq, beq_eq_false_iff_ne, ne_eq, bne_iff_ne, bne_eq_false_iff_eq, Bool.not_eq_true', Bool.not_eq_false', Bool.not_eq_true, Bool.not_eq_false, Decidable.not_not] at hg29
        refine D_qn ?_
        refine D_q rfl rfl ?_
        refine WL_skip rfl rfl rfl ?_
        refine D_qn ?_
        refine D_q rfl rfl ?_
        refine WL_skip rfl rfl rfl ?_
        refine D_qn ?_
        refine D_q rfl rfl ?_
        refine WL_skip rfl rfl rfl ?_
        refine D_qn ?_
        refine D_q rfl rfl ?_
        refine WL_skip rfl rfl rfl ?_
        refine D_qn ?_
        refine D_q rfl rfl ?_
        refine WL_skip rfl rfl rfl ?_
        refine D_qn ?_
        refine D_q rfl rfl ?_
        refine WL_skip rfl rfl rfl ?_
        refine D_qn ?_
        refine D_q rfl rfl ?_
        refine WL_skip rfl rfl rfl ?_
        refine D_qn ?_
        refine D_q rfl rfl ?_
        refine s_pick_t rfl rfl rfl ?_
        refine D_qn ?_
        refine D_nil ?_
        refine n_then ?_
        refine W_cond_t rfl ?_
        refine W_seq ?_
        refine W_region ?_
        refine s_assign rfl rfl ?_
        refine WL_nil ?_
        refine n_then ?_
        refine W_ret ?_
        refine r_then ?_
        exact end1 rfl rfl ⟨hs.tail, rfl⟩
      · skip
        try simp only [decide_eq_true_eq, decide_eq_false_iff_not, gt_iff_lt, ge_iff_le, beq_iff_eq, beq_eq_false_iff_ne, ne_eq, bne_iff_ne, bne_eq_false_iff_eq, Bool.not_eq_true', Bool.not_eq_false', Bool.not_eq_true, Bool.not_eq_false, Decidable.not_not] at hg29
        refine D_qn ?_
        refine D_q rfl rfl ?_
        refine WL_take rfl ?_
        refine s_fieldAddr rfl rfl (FA56_0 _ _) ?_
        refine D_qn ?_
        refine D_q rfl rfl ?_
        refine WL_take rfl ?_
        first
          | refine s_load Try.isAgg3 rfl rfl (hs.cell (k := 0) rfl rfl) ?_
          | refine s_load Try.isAgg3 rfl rfl (((hs.oldcell (a := ⟨p, 0, none⟩) hB (by simp)).trans c0)) ?_
        refine D_qn ?_
        refine D_q rfl rfl ?_
        refine WL_take rfl ?_
        refine s_move rfl rfl ?_
        refine D_qn ?_
        refine D_q rfl rfl ?_
        refine WL_take rfl ?_
        refine s_nilCheck rfl rfl ?_
        refine D_qn ?_
        refine D_q rfl rfl ?_
        refine WL_take rfl ?_
        refine s_fieldAddr rfl rfl (FA89_1 _ _) ?_
        refine D_qn ?_
        refine D_q rfl rfl ?_
        refine WL_take rfl ?_
        refine s_load Try.isAgg3 rfl rfl ((hs.oldcell (a := ⟨p, 1, none⟩) hB (by simp)).trans c1) ?_
        refine D_qn ?_
        refine D_q rfl rfl ?_
        refine WL_take rfl ?_
        refine s_geq rfl rfl rfl ?_
        refine D_qn ?_
        refine D_q rfl rfl ?_
        refine s_pick_f rfl rfl rfl ?_
        refine D_qn ?_
        refine D_nil ?_
        refine n_then ?_
        refine W_cond rfl (fun hc37 => ?_) (fun hc37 => ?_)
        · skip
          try simp only [decide_eq_true_eq, decide_eq_false_iff_not, gt_iff_lt, ge_iff_le, beq_iff_eq, beq_eq_false_iff_ne, ne_eq, bne_iff_ne, bne_eq_false_iff_eq, Bool.not_eq_true', Bool.not_eq_false', Bool.not_eq_true, Bool.not_eq_false, Decidable.not_not] at hc37
          refine W_seq ?_
          refine W_region ?_
          refine s_assign rfl rfl ?_
          refine WL_nil ?_
          refine n_then ?_
          refine W_ret ?_
          refine r_then ?_
          exact end1 rfl rfl ⟨hs.tail, rfl⟩
        · skip
          try simp only [decide_eq_true_eq, decide_eq_false_iff_not, gt_iff_lt, ge_iff_le, beq_iff_eq, beq_eq_false_iff_ne, ne_eq, bne_iff_ne, bne_eq_false_iff_eq, Bool.not_eq_true', Bool.not_eq_false', Bool.not_eq_true, Bool.not_eq_false, Decidable.not_not] at hc37
          -- DEAD
          exfalso; omega
set_option maxHeartbeats 4000000 in
theorem receive_none (p : Nat) (R : Rp) (cs : List Value) (frm : Nat) (v : Value) (w0 : World) (hp : w0.heap[p]? = some (Blk 89 cs)) (h0 : cs[0]? = some (.int .i64 (R.id : Int))) (h1 : cs[1]? = some (.int .i64 (R.mem : Int))) (hv : Sl w0 v 0 []) (hfm : frm < R.mem) (hfi : frm ≠ R.id) :
    Ret Try.prog 24 [.pointer (some ⟨p, 0, none⟩), .agg #[.int .i64 (frm : Int), .int .i64 (R.id : Int), v]].toArray w0 fun r w' => Fwd [] w0 w' ∧ r = .slice none 0 0 := by
  have c0 := cell_blk hp h0
  have c1 := cell_blk hp h1
  have hB := (Array.getElem?_eq_some_iff.1 hp).1
  obtain ⟨va, vc, rfl, hvc⟩ := hv.len_le
  refine Ret_start fun w hs => ?_
  refine Ret_of Try.func24 rfl Try.ntmps24 rfl ?_
  refine W_seq ?_
  refine W_region ?_
  first | refine s_box rfl rfl hs ?_ | refine s_box1 rfl rfl rfl hs ?_
  clear hs; intro b3 w hs
  refine s_assign rfl rfl ?_
  refine WL_nil ?_
  refine n_then ?_
  refine W_seq ?_
  refine W_seq ?_
  refine W_draw [(0, true, []), (1, true, []), (2, true, []), (3, true, []), (4, true, []), (5, true, []), (6, true, []), (7, true, []), (8, true, []), (9, true, []), (10, true, []), (11, true, []), (12, true, []), (13, true, []), (14, true, []), (15, true, []), (16, true, []), (17, true, []), (18, true, []), (19, true, []), (20, true, []), (21, true, []), (22, true, []), (23, true, []), (24, true, []), (25, true, []), (26, true, []), (27, true, []), (28, true, []), (29, true, [])] [[], [0], [], [2], [2, 3], [2, 3, 4], [0, 1, 2, 3, 4, 5], [0, 1, 2, 3, 4, 5, 6], [0, 1, 2, 3, 4, 5, 6, 7], [0, 1, 2, 3, 4, 5, 6, 7, 8], [0, 1, 2, 3, 4, 5, 6, 7], [0, 1, 2, 3, 4, 5, 6, 7, 10], [0, 1, 2, 3, 4, 5, 6, 7, 10, 11], [0, 1, 2, 3, 4, 5, 6, 7, 10, 11, 12], [0, 1, 2, 3, 4, 5, 6, 7, 8, 9, 10, 11, 12, 13], [0, 1, 2, 3, 4, 5, 6, 7, 8, 9, 10, 11, 12, 13, 14], [0, 1, 2, 3, 4, 5, 6, 7, 8, 9, 10, 11, 12, 13, 14, 15], [0, 1, 2, 3, 4, 5, 6, 7, 8, 9, 10, 11, 12, 13, 14, 15, 16], [0, 1, 2, 3, 4, 5, 6, 7, 8, 9, 10, 11, 12, 13, 14, 15, 16, 17], [0, 1, 2, 3, 4, 5, 6, 7, 8, 9, 10, 11, 12, 13, 14, 15, 16, 17, 18], [0, 1, 2, 3, 4, 5, 6, 7, 8, 9, 10, 11, 12, 13, 14, 15, 16, 17, 18, 19], [0, 1, 2, 3, 4, 5, 6, 7, 8, 9, 10, 11, 12, 13, 14, 15, 16, 17, 18, 19, 20], [0, 1, 2, 3, 4, 5, 6, 7, 8, 9, 10, 11, 12, 13, 14, 15, 16, 17, 18, 19, 20, 21], [0, 1, 2, 3, 4, 5, 6, 7, 8, 9, 10, 11, 12, 13, 14, 15, 16, 17, 18, 19, 20, 21, 22], [0, 1, 2, 3, 4, 5, 6, 7, 8, 9, 10, 11, 12, 13, 14, 15, 16, 17, 18, 19, 20, 21], [0, 1, 2, 3, 4, 5, 6, 7, 8, 9, 10, 11, 12, 13, 14, 15, 16, 17, 18, 19, 20, 21, 24], [0, 1, 2, 3, 4, 5, 6, 7, 8, 9, 10, 11, 12, 13, 14, 15, 16, 17, 18, 19, 20, 21, 24, 25], [0, 1, 2, 3, 4, 5, 6, 7, 8, 9, 10, 11, 12, 13, 14, 15, 16, 17, 18, 19, 20, 21, 24, 25, 26], [0, 1, 2, 3, 4, 5, 6, 7, 8, 9, 10, 11, 12, 13, 14, 15, 16, 17, 18, 19, 20, 21, 22, 23, 24, 25, 26, 27], [0, 1, 2, 3, 4, 5, 6, 7, 8, 9, 10, 11, 12, 13, 14, 15, 16, 17, 18, 19, 20, 21, 22, 23, 24, 25, 26, 27, 28]] MX (by kernel_rfl) ?_
  intro w1 hw1 hw2 hw3 hw4; replace hs := hs.redrawn hw1 hw2 hw3 hw4; clear hw1 hw2 hw3 hw4
  obtain ⟨w, rfl⟩ : ∃ w : World, w = w1 := ⟨_, rfl⟩
  refine D_q rfl rfl ?_
  refine s_fieldAddr rfl rfl (FA56_1 _ _) ?_
  refine D_qn ?_
  refine D_q rfl rfl ?_
  first
    | refine s_load Try.isAgg3 rfl rfl (hs.cell (k := 0) rfl rfl) ?_
    | refine s_load Try.isAgg3 rfl rfl (((hs.oldcell (a := ⟨p, 0, none⟩) hB (by simp)).trans c0)) ?_
  refine D_qn ?_
  refine D_q rfl rfl ?_
  refine s_move rfl rfl ?_
  refine D_qn ?_
  refine D_q rfl rfl ?_
  refine s_nilCheck rfl rfl ?_
  refine D_qn ?_
  refine D_q rfl rfl ?_
  refine s_fieldAddr rfl rfl (FA89_0 _ _) ?_
  refine D_qn ?_
  refine D_q rfl rfl ?_
  first
    | refine s_load Try.isAgg3 rfl rfl (hs.cell (k := 0) rfl rfl) ?_
    | refine s_load Try.isAgg3 rfl rfl (((hs.oldcell (a := ⟨p, 0, none⟩) hB (by simp)).trans c0)) ?_
  refine D_qn ?_
  refine D_q rfl rfl ?_
  refine s_neq rfl rfl rfl ?_
  refine D_qn ?_
  refine D_q rfl rfl ?_
  refine s_move rfl rfl ?_
  refine WL_know (s := 15) (c := false) rfl ((by simp)) ?_
  refine D_qn ?_
  refine D_q rfl rfl ?_
  refine WL_take rfl ?_
  refine s_fieldAddr rfl rfl (FA56_0 _ _) ?_
  refine D_qn ?_
  refine D_q rfl rfl ?_
  refine WL_take rfl ?_
  first
    | refine s_load Try.isAgg3 rfl rfl (hs.cell (k := 0) rfl rfl) ?_
    | refine s_load Try.isAgg3 rfl rfl (((hs.oldcell (a := ⟨p, 0, none⟩) hB (by simp)).trans c0)) ?_
  refine D_qn ?_
  refine D_q rfl rfl ?_
  refine WL_take rfl ?_
  refine s_move rfl rfl ?_
  refine D_qn ?_
  refine D_q rfl rfl ?_
  refine WL_take rfl ?_
  refine s_nilCheck rfl rfl ?_
  refine D_qn ?_
  refine D_q rfl rfl ?_
  refine WL_take rfl ?_
  refine s_fieldAddr rfl rfl (FA89_0 _ _) ?_
  refine D_qn ?_
  refine D_q rfl rfl ?_
  refine WL_take rfl ?_
  first
    | refine s_load Try.isAgg3 rfl rfl (hs.cell (k := 0) rfl rfl) ?_
    | refine s_load Try.isAgg3 rfl rfl (((hs.oldcell (a := ⟨p, 0, none⟩) hB (by simp)).trans c0)) ?_
  refine D_qn ?_
  refine D_q rfl rfl ?_
  refine WL_take rfl ?_
  refine s_eql rfl rfl rfl ?_
  refine D_qn ?_
  refine D_q rfl rfl ?_
  refine s_pick_f rfl rfl rfl ?_
  refine D_qn ?_
  refine D_q rfl rfl ?_
  refine s_move rfl rfl ?_
  refine WL_know (s := 24) (c := false) rfl ((by simp; omega)) ?_
  refine D_qn ?_
  refine D_q rfl rfl ?_
  refine WL_take rfl ?_
  refine s_fieldAddr rfl rfl (FA56_0 _ _) ?_
  refine D_qn ?_
  refine D_q rfl rfl ?_
  refine WL_take rfl ?_
  first
    | refine s_load Try.isAgg3 rfl rfl (hs.cell (k := 0) rfl rfl) ?_
    | refine s_load Try.isAgg3 rfl rfl (((hs.oldcell (a := ⟨p, 0, none⟩) hB (by simp)).trans c0)) ?_
  refine D_qn ?_
  refine D_q rfl rfl ?_
  refine WL_take rfl ?_
  refine s_lss rfl rfl rfl ?_
  refine D_qn ?_
  refine D_q rfl rfl ?_
  refine s_pick_f rfl rfl rfl ?_
  refine D_qn ?_
  refine D_q rfl rfl ?_
  refine s_move rfl rfl ?_
  refine WL_know (s := 29) (c := false) rfl ((by simp)) ?_
  refine D_qn ?_
  refine D_q rfl rfl ?_
  refine WL_take rfl ?_
  refine s_fieldAddr rfl rfl (FA56_0 _ _) ?_
  refine D_qn ?_
  refine D_q rfl rfl ?_
  refine WL_take rfl ?_
  first
    | refine s_load Try.isAgg3 rfl rfl (hs.cell (k := 0) rfl rfl) ?_
    | refine s_load Try.isAgg3 rfl rfl (((hs.oldcell (a := ⟨p, 0, none⟩) hB (by simp)).trans c0)) ?_
  refine D_qn ?_
  refine D_q rfl rfl ?_
  refine WL_take rfl ?_
  refine s_move rfl rfl ?_
  refine D_qn ?_
  refine D_q rfl rfl ?_
  refine WL_take rfl ?_
  refine s_nilCheck rfl rfl ?_
  refine D_qn ?_
  refine D_q rfl rfl ?_
  refine WL_take rfl ?_
  refine s_fieldAddr rfl rfl (FA89_1 _ _) ?_
  refine D_qn ?_
  refine D_q rfl rfl ?_
  refine WL_take rfl ?_
  refine s_load Try.isAgg3 rfl rfl ((hs.oldcell (a := ⟨p, 1, none⟩) hB (by simp)).trans c1) ?_
  refine D_qn ?_
  refine D_q rfl rfl ?_
  refine WL_take rfl ?_
  refine s_geq rfl rfl rfl ?_
  refine D_qn ?_
  refine D_q rfl rfl ?_
  refine s_pick_f rfl rfl rfl ?_
  refine D_qn ?_
  refine D_nil ?_
  refine n_then ?_
  refine W_cond_kf rfl ((by simp; omega)) ?_
  refine W_skip ?_
  refine n_then ?_
  refine W_seq ?_
  refine W_region ?_
  refine s_fieldAddr rfl rfl (FA56_2 _ _) ?_
  first
    | refine s_load Try.isAgg22 rfl rfl (hs.cell (k := 0) rfl rfl) ?_
    | refine s_load Try.isAgg22 rfl rfl (((hs.oldcell (a := ⟨p, 0, none⟩) hB (by simp)).trans c0)) ?_
  refine s_call Try.call47 rfl rfl (mDecode0_ok _ w (hv.fwd0 hs.fwd)) ?_
  rintro r w ⟨x, rfl, ⟨y, rfl, rfl⟩, hst⟩
  replace hs := hs.fwd1 hst
  clear hst
  simp only [mesCells]
  refine s_move rfl rfl ?_
  refine s_extract rfl rfl rfl ?_
  refine s_extract rfl rfl rfl ?_
  refine s_alloc rfl AL94 hs ?_; clear hs; intro b5 w hs
  first
    | refine s_storeW Try.sizeOf94 rfl rfl rfl rfl hs (kk := 0) rfl rfl ?_
    | refine s_storeAB Try.sizeOf94 rfl rfl rfl rfl hs (kk := 0) rfl rfl ?_
  clear hs; intro w hs; try simp only [List.set_cons_zero, List.set_cons_succ, splice, List.take_succ_cons, List.take_zero, List.drop_succ_cons, List.drop_zero, List.nil_append, List.cons_append, List.length_cons, List.length_nil, Nat.reduceAdd, List.append_assoc] at hs
  refine s_assign rfl rfl ?_
  refine WL_nil ?_
  refine n_then ?_
  refine W_seq ?_
  refine W_seq ?_
  refine W_region ?_
  refine s_move rfl rfl ?_
  refine s_not rfl rfl ?_
  refine WL_nil ?_
  refine n_then ?_
  refine W_cond_kt rfl (rfl) ?_
  refine W_seq ?_
  refine W_region ?_
  refine s_assign rfl rfl ?_
  refine WL_nil ?_
  refine n_then ?_
  refine W_ret ?_
  refine r_then ?_
  exact end1 rfl rfl ⟨hs.fwd, rfl⟩
end Go.Proofs.Ytkobigdfijeajaa
