/- The reference's Valid; the law DeclValid. -/
import Derived.Test.YtmjjdcfakkaiiaaDeH
set_option linter.unusedVariables false
set_option linter.unusedSimpArgs false
namespace Go.Proofs.Ytmjjdcfakkaiiaa
open Go.SL
theorem fValid05_ok (v : Value) (ls : List Lb) (w0 : World) (hv : Sl w0 v ls.length (lbcells ls)) :
    Ret Try.prog 37 [v].toArray w0 fun r w' => Fwd [] w0 w' ∧ ∃ b, r = .bool b ∧ (b = true ↔ labsP ls) := by
  refine Ret_start fun w hs => ?_
  refine Ret_of Try.func37 rfl Try.ntmps37 rfl ?_
  refine W_seq ?_
  refine W_region ?_
  refine s_assign rfl rfl ?_
  refine WL_nil ?_
  refine n_then ?_
  refine W_seq ?_
  refine W_region ?_
  refine s_move rfl rfl ?_
  refine s_call Try.call56 rfl rfl (fNew_ok v ls w (hv.fwd0 hs.fwd)) ?_
  rintro r w ⟨sv, e, os, Lr, rfl, hst, ⟨x, y, z, rfl⟩, hcase⟩
  replace hs := St.back0 hs hst
  clear hst
  refine s_move rfl rfl ?_
  refine s_extract rfl rfl rfl ?_
  refine s_extract rfl rfl rfl ?_
  refine s_assign rfl rfl ?_
  refine s_assign rfl rfl ?_
  refine WL_nil ?_
  refine n_then ?_
  refine W_seq ?_
  refine W_region ?_
  refine s_move rfl rfl ?_
  refine s_eql rfl rfl rfl ?_
  refine s_move rfl rfl ?_
  refine WL_case (s := 12) rfl (fun hg12 => ?_) (fun hg12 => ?_)
  · skip
    try simp only [beq_iff_eq, beq_eq_false_iff_ne, ne_eq] at hg12
    obtain ⟨h8, hO, hN⟩ : ls.length ≤ 8 ∧ OwnS 51 2 (.slice x y z) os.length (lbcells os) Lr ∧ NI ls ls.length os := by
      rcases hcase with h | h
      · exact h.2
      · exact absurd ‹e = 0› h.1
    have hol := hN.len
    refine WL_take rfl ?_
    refine s_move rfl rfl ?_
    refine WL_take rfl ?_
    refine s_move rfl rfl ?_
    refine WL_take rfl ?_
    refine s_call Try.call57 rfl rfl (fSame_ok _ _ os ls w (hO.sl hs) (hv.fwd0 hs.fwd) (by omega)) ?_
    rintro r w ⟨hst, b, rfl, hb⟩
    replace hs := hs.fwd1 hst
    clear hst
    refine s_pick_t rfl rfl rfl ?_
    refine s_assign rfl rfl ?_
    refine WL_nil ?_
    refine n_then ?_
    refine W_ret ?_
    first
      | exact end1 rfl rfl ⟨hs.fwd, _, rfl, hb.trans ⟨fun h => (labsP_iff ls).2 ⟨h8, fun j x hx => hN.ok j x (List.getElem?_eq_some_iff.1 hx).1 hx, h ▸ hN.srt⟩, fun h => by
          have := hN.same (by rw [List.take_length]; exact ((labsP_iff ls).1 h).2.2)
          rwa [List.take_length] at this⟩⟩
      | exact end1 rfl rfl ⟨hs.fwd, false, rfl, by simp, fun h => by
          rcases hcase with h1 | h1
          · exact absurd h1.1 hg12
          · exact absurd h h1.2⟩
  · skip
    try simp only [beq_iff_eq, beq_eq_false_iff_ne, ne_eq] at hg12
    refine WL_skip rfl rfl rfl ?_
    refine WL_skip rfl rfl rfl ?_
    refine WL_skip rfl rfl rfl ?_
    refine s_pick_f rfl rfl rfl ?_
    refine s_assign rfl rfl ?_
    refine WL_nil ?_
    refine n_then ?_
    refine W_ret ?_
    first
      | exact end1 rfl rfl ⟨hs.fwd, _, rfl, hb.trans ⟨fun h => (labsP_iff ls).2 ⟨h8, fun j x hx => hN.ok j x (List.getElem?_eq_some_iff.1 hx).1 hx, h ▸ hN.srt⟩, fun h => by
          have := hN.same (by rw [List.take_length]; exact ((labsP_iff ls).1 h).2.2)
          rwa [List.take_length] at this⟩⟩
      | exact end1 rfl rfl ⟨hs.fwd, false, rfl, by simp, fun h => by
          rcases hcase with h1 | h1
          · exact absurd h1.1 hg12
          · exact absurd h h1.2⟩
theorem three_at (u0 u1 u2 : Int) {i : Nat} (h : i < 3) : ∃ z, ([Value.int .i64 u0, .int .i64 u1, .int .i64 u2] : List Value)[0 + (i : Int).toNat]? = some (.int .i64 z) ∧ ((i = 0 ∧ z = u0) ∨ (i = 1 ∧ z = u1) ∨ (i = 2 ∧ z = u2)) := by
  match i, h with
  | 0, _ => exact ⟨u0, rfl, .inl ⟨rfl, rfl⟩⟩
  | 1, _ => exact ⟨u1, rfl, .inr (.inl ⟨rfl, rfl⟩)⟩
  | 2, _ => exact ⟨u2, rfl, .inr (.inr ⟨rfl, rfl⟩)⟩
theorem exponents_ok (u0 u1 u2 : Int) (w0 : World) : Ret Try.prog 38 [.agg #[.int .i64 u0, .int .i64 u1, .int .i64 u2]].toArray w0 fun r w' => Fwd [] w0 w' ∧ r = .bool (decide (¬ ((u0 < -3 ∨ 3 < u0) ∨ (u1 < -3 ∨ 3 < u1) ∨ (u2 < -3 ∨ 3 < u2)))) := by
  refine Ret_start fun w hs => ?_
  refine Ret_of Try.func38 rfl Try.ntmps38 rfl ?_
  refine W_seq ?_
  refine W_region ?_
  first | refine s_box rfl rfl hs ?_ | refine s_box1 rfl rfl rfl hs ?_
  clear hs; intro b1 w hs
  refine s_assign rfl rfl ?_
  refine WL_nil ?_
  refine n_then ?_
  refine W_seq ?_
  refine W_seq ?_
  refine W_region ?_
  refine s_assign rfl rfl ?_
  refine WL_nil ?_
  refine n_then ?_
  refine W_block ?_
  refine W_loop (σ := Nat) (fun i => [(1, .pointer (some ⟨b1, 0, none⟩)), (3, .int .i64 (i : Int))]) (fun i w => St [] w0 w [(b1, Blk 25 [.int .i64 u0, .int .i64 u1, .int .i64 u2])] ∧ i ≤ 3 ∧ (0 < i → -3 ≤ u0 ∧ u0 ≤ 3) ∧ (1 < i → -3 ≤ u1 ∧ u1 ≤ 3) ∧ (2 < i → -3 ≤ u2 ∧ u2 ≤ 3)) (fun i => 3 - i) 0 ⟨rfl, rfl, trivial⟩ ⟨hs, by omega, by omega, by omega, by omega⟩ ?_
  clear hs
  intro i w ⟨hs, hi3, hu0, hu1, hu2⟩
  refine W_seq ?_
  refine W_seq ?_
  refine W_region ?_
  refine s_move rfl rfl ?_
  refine s_lss rfl rfl rfl ?_
  refine WL_nil ?_
  refine n_then ?_
  refine W_cond rfl (fun hc5 => ?_) (fun hc5 => ?_)
  · skip
    try simp only [decide_eq_true_eq, decide_eq_false_iff_not, gt_iff_lt] at hc5
    obtain ⟨uz, hix, hcs⟩ := three_at u0 u1 u2 (i := i) (by omega)
    refine W_skip ?_
    refine n_then ?_
    refine W_seq ?_
    refine W_block ?_
    refine W_seq ?_
    refine W_region ?_
    refine s_move rfl rfl ?_
    (refine s_indexAddrA Try.underlying25 Try.sizeOf3 rfl rfl rfl ?hx ?_; case hx => (constructor <;> omega))
    refine s_load Try.isAgg3 rfl rfl (hs.cell (k := 0) rfl hix) ?_
    refine s_lss rfl rfl rfl ?_
    refine s_move rfl rfl ?_
    refine WL_case (s := 12) rfl (fun hg12 => ?_) (fun hg12 => ?_)
    · skip
      try simp only [decide_eq_true_eq, decide_eq_false_iff_not, gt_iff_lt] at hg12
      refine WL_skip rfl rfl rfl ?_
      refine WL_skip rfl rfl rfl ?_
      refine WL_skip rfl rfl rfl ?_
      refine WL_skip rfl rfl rfl ?_
      refine s_pick_t rfl rfl rfl ?_
      refine WL_nil ?_
      refine n_then ?_
      refine W_cond_t rfl ?_
      refine W_seq ?_
      refine W_region ?_
      refine s_assign rfl rfl ?_
      refine WL_nil ?_
      refine n_then ?_
      refine W_ret ?_
      refine r_blk ?_
      refine r_then ?_
      refine r_then ?_
      refine r_blk ?_
      refine r_then ?_
      first
        | exact end1 rfl rfl ⟨hs.fwd, congrArg Value.bool (by symm; rw [decide_eq_false_iff_not]; omega)⟩
        | exact end1 rfl rfl ⟨hs.fwd, congrArg Value.bool (by symm; rw [decide_eq_true_eq]; omega)⟩
    · skip
      try simp only [decide_eq_true_eq, decide_eq_false_iff_not, gt_iff_lt] at hg12
      refine WL_take rfl ?_
      refine s_move rfl rfl ?_
      refine WL_take rfl ?_
      (refine s_indexAddrA Try.underlying25 Try.sizeOf3 rfl rfl rfl ?hx ?_; case hx => (constructor <;> omega))
      refine WL_take rfl ?_
      refine s_load Try.isAgg3 rfl rfl (hs.cell (k := 0) rfl hix) ?_
      refine WL_take rfl ?_
      refine s_gtr rfl rfl rfl ?_
      refine s_pick_f rfl rfl rfl ?_
      refine WL_nil ?_
      refine n_then ?_
      refine W_cond rfl (fun hc17 => ?_) (fun hc17 => ?_)
      · skip
        try simp only [decide_eq_true_eq, decide_eq_false_iff_not, gt_iff_lt] at hc17
        refine W_seq ?_
        refine W_region ?_
        refine s_assign rfl rfl ?_
        refine WL_nil ?_
        refine n_then ?_
        refine W_ret ?_
        refine r_blk ?_
        refine r_then ?_
        refine r_then ?_
        refine r_blk ?_
        refine r_then ?_
        first
          | exact end1 rfl rfl ⟨hs.fwd, congrArg Value.bool (by symm; rw [decide_eq_false_iff_not]; omega)⟩
          | exact end1 rfl rfl ⟨hs.fwd, congrArg Value.bool (by symm; rw [decide_eq_true_eq]; omega)⟩
      · skip
        try simp only [decide_eq_true_eq, decide_eq_false_iff_not, gt_iff_lt] at hc17
        refine W_skip ?_
        refine n_blk ?_
        refine n_then ?_
        refine W_region ?_
        refine s_move rfl rfl ?_
        first | (refine s_add' rfl rfl rfl ?hx ?_; case hx => (constructor <;> first | omega | (simp only; omega))) | refine s_add rfl rfl rfl ?_
        refine s_assign rfl rfl ?_
        refine WL_nil ?_
        refine n_loop ?_
        exact ⟨i + 1, ⟨rfl, rfl, trivial⟩, ⟨hs, by omega, by omega, by omega, by omega⟩, by omega⟩
  · skip
    try simp only [decide_eq_true_eq, decide_eq_false_iff_not, gt_iff_lt] at hc5
    refine W_exit ?_
    refine x_then ?_
    refine x_then ?_
    refine exit_hit ?_
    refine n_then ?_
    refine W_seq ?_
    refine W_region ?_
    refine s_assign rfl rfl ?_
    refine WL_nil ?_
    refine n_then ?_
    refine W_ret ?_
    first
      | exact end1 rfl rfl ⟨hs.fwd, congrArg Value.bool (by symm; rw [decide_eq_false_iff_not]; omega)⟩
      | exact end1 rfl rfl ⟨hs.fwd, congrArg Value.bool (by symm; rw [decide_eq_true_eq]; omega)⟩
set_option maxHeartbeats 2000000 in
theorem fValid10_ok (d : De) (ls : List Lb) (w0 : World) (hv : Sl w0 d.lv ls.length (lbcells ls)) : Ret Try.prog 14 [.agg d.vals.toArray].toArray w0 fun r w' => Fwd [] w0 w' ∧ ∃ e, r = .int .i64 e ∧ DeclE d ls e := by
  obtain ⟨name, lv, u0, u1, u2, lo, hi, dn, up, fi, la, bu⟩ := d
  simp only at hv
  obtain ⟨va, vc, rfl, hvc⟩ := hv.len_le
  refine Ret_start fun w hs => ?_
  simp only [De.vals]
  refine Ret_of Try.func14 rfl Try.ntmps14 rfl ?_
  refine W_seq ?_
  refine W_region ?_
  first | refine s_box rfl rfl hs ?_ | refine s_box1 rfl rfl rfl hs ?_
  clear hs; intro b1 w hs
  refine s_assign rfl rfl ?_
  refine WL_nil ?_
  refine n_then ?_
  refine W_seq ?_
  refine W_region ?_
  refine s_fieldAddr rfl rfl (FA27_0 _ _) ?_
  first
    | refine s_load Try.isAgg9 rfl rfl (hs.cell (k := 0) rfl rfl) ?_
  refine s_call Try.call36 rfl rfl (fName_ok name w) ?_
  rintro r w1 ⟨hw1, rfl⟩
  rw [hw1]; clear hw1 w1
  refine s_assign rfl rfl ?_
  refine WL_nil ?_
  refine n_then ?_
  refine W_seq ?_
  refine W_region ?_
  refine s_fieldAddr rfl rfl (FA27_1 _ _) ?_
  first
    | refine s_load Try.isAgg23 rfl rfl (hs.cell (k := 0) rfl rfl) ?_
  refine s_call Try.call37 rfl rfl (fValid05_ok _ ls w (hv.fwd0 hs.fwd)) ?_
  rintro r w ⟨hst, lb, rfl, hlb⟩
  replace hs := hs.fwd1 hst
  clear hst
  refine s_assign rfl rfl ?_
  refine WL_nil ?_
  refine n_then ?_
  refine W_seq ?_
  refine W_seq ?_
  refine W_region ?_
  refine s_move rfl rfl ?_
  refine s_not rfl rfl ?_
  refine s_move rfl rfl ?_
  refine WL_case (s := 14) rfl (fun hg14 => ?_) (fun hg14 => ?_)
  · skip
    try simp only [decide_eq_true_eq, decide_eq_false_iff_not, beq_iff_eq, beq_eq_false_iff_ne, bne_iff_ne, bne_eq_false_iff_eq, ne_eq, Bool.not_eq_true', Bool.not_eq_false', Bool.not_eq_true, Bool.not_eq_false, gt_iff_lt, ge_iff_le] at hg14
    refine WL_skip rfl rfl rfl ?_
    refine WL_skip rfl rfl rfl ?_
    refine s_pick_t rfl rfl rfl ?_
    refine WL_nil ?_
    refine n_then ?_
    refine W_cond_t rfl ?_
    refine W_seq ?_
    refine W_region ?_
    refine s_assign rfl rfl ?_
    refine WL_nil ?_
    refine n_then ?_
    refine W_ret ?_
    refine r_then ?_
    have hlb' : lb = true ∧ labsP ls ∨ lb = false ∧ ¬ labsP ls := by cases lb <;> simp at hlb <;> simp [hlb]
    first
      | exact end1 rfl rfl ⟨hs.fwd, _, rfl, .inl ⟨fun h => absurd h.1 ‹_›, rfl⟩⟩
      | exact end1 rfl rfl ⟨hs.fwd, _, rfl, .inl ⟨fun h => by simp_all, rfl⟩⟩
      | exact end1 rfl rfl ⟨hs.fwd, _, rfl, .inr ⟨⟨by assumption, by simp_all⟩, .inl ⟨by unfold De.rangeBad; simp only; omega, rfl⟩⟩⟩
      | exact end1 rfl rfl ⟨hs.fwd, _, rfl, .inr ⟨⟨by assumption, by simp_all⟩, .inr ⟨by unfold De.rangeBad; simp only; omega, .inl ⟨by unfold De.limBad; simp only; omega, rfl⟩⟩⟩⟩
      | exact end1 rfl rfl ⟨hs.fwd, _, rfl, .inr ⟨⟨by assumption, by simp_all⟩, .inr ⟨by unfold De.rangeBad; simp only; omega, .inr ⟨by unfold De.limBad; simp only; omega, rfl⟩⟩⟩⟩
  · skip
    try simp only [decide_eq_true_eq, decide_eq_false_iff_not, beq_iff_eq, beq_eq_false_iff_ne, bne_iff_ne, bne_eq_false_iff_eq, ne_eq, Bool.not_eq_true', Bool.not_eq_false', Bool.not_eq_true, Bool.not_eq_false, gt_iff_lt, ge_iff_le] at hg14
    refine WL_take rfl ?_
    refine s_move rfl rfl ?_
    refine WL_take rfl ?_
    refine s_not rfl rfl ?_
    refine s_pick_f rfl rfl rfl ?_
    refine WL_nil ?_
    refine n_then ?_
    refine W_cond rfl (fun hc17 => ?_) (fun hc17 => ?_)
    · skip
      try simp only [decide_eq_true_eq, decide_eq_false_iff_not, beq_iff_eq, beq_eq_false_iff_ne, bne_iff_ne, bne_eq_false_iff_eq, ne_eq, Bool.not_eq_true', Bool.not_eq_false', Bool.not_eq_true, Bool.not_eq_false, gt_iff_lt, ge_iff_le] at hc17
      refine W_seq ?_
      refine W_region ?_
      refine s_assign rfl rfl ?_
      refine WL_nil ?_
      refine n_then ?_
      refine W_ret ?_
      refine r_then ?_
      have hlb' : lb = true ∧ labsP ls ∨ lb = false ∧ ¬ labsP ls := by cases lb <;> simp at hlb <;> simp [hlb]
      first
        | exact end1 rfl rfl ⟨hs.fwd, _, rfl, .inl ⟨fun h => absurd h.1 ‹_›, rfl⟩⟩
        | exact end1 rfl rfl ⟨hs.fwd, _, rfl, .inl ⟨fun h => by simp_all, rfl⟩⟩
        | exact end1 rfl rfl ⟨hs.fwd, _, rfl, .inr ⟨⟨by assumption, by simp_all⟩, .inl ⟨by unfold De.rangeBad; simp only; omega, rfl⟩⟩⟩
        | exact end1 rfl rfl ⟨hs.fwd, _, rfl, .inr ⟨⟨by assumption, by simp_all⟩, .inr ⟨by unfold De.rangeBad; simp only; omega, .inl ⟨by unfold De.limBad; simp only; omega, rfl⟩⟩⟩⟩
        | exact end1 rfl rfl ⟨hs.fwd, _, rfl, .inr ⟨⟨by assumption, by simp_all⟩, .inr ⟨by unfold De.rangeBad; simp only; omega, .inr ⟨by unfold De.limBad; simp only; omega, rfl⟩⟩⟩⟩
    · skip
      try simp only [decide_eq_true_eq, decide_eq_false_iff_not, beq_iff_eq, beq_eq_false_iff_ne, bne_iff_ne, bne_eq_false_iff_eq, ne_eq, Bool.not_eq_true', Bool.not_eq_false', Bool.not_eq_true, Bool.not_eq_false, gt_iff_lt, ge_iff_le] at hc17
      refine W_skip ?_
      refine n_then ?_
      refine W_seq ?_
      refine W_seq ?_
      refine W_region ?_
      refine s_fieldAddr rfl rfl (FA27_3 _ _) ?_
      first
        | refine s_load Try.isAgg3 rfl rfl (hs.cell (k := 0) rfl rfl) ?_
      refine s_lss rfl rfl rfl ?_
      refine s_move rfl rfl ?_
      refine WL_case (s := 21) rfl (fun hg21 => ?_) (fun hg21 => ?_)
      · skip
        try simp only [decide_eq_true_eq, decide_eq_false_iff_not, beq_iff_eq, beq_eq_false_iff_ne, bne_iff_ne, bne_eq_false_iff_eq, ne_eq, Bool.not_eq_true', Bool.not_eq_false', Bool.not_eq_true, Bool.not_eq_false, gt_iff_lt, ge_iff_le] at hg21
        refine WL_skip rfl rfl rfl ?_
        refine WL_skip rfl rfl rfl ?_
        refine WL_skip rfl rfl rfl ?_
        refine WL_skip rfl rfl rfl ?_
        refine WL_skip rfl rfl rfl ?_
        refine s_pick_t rfl rfl rfl ?_
        refine s_move rfl rfl ?_
        refine WL_skip rfl rfl rfl ?_
        refine WL_skip rfl rfl rfl ?_
        refine WL_skip rfl rfl rfl ?_
        refine s_pick_t rfl rfl rfl ?_
        refine s_move rfl rfl ?_
        refine WL_skip rfl rfl rfl ?_
        refine WL_skip rfl rfl rfl ?_
        refine WL_skip rfl rfl rfl ?_
        refine s_pick_t rfl rfl rfl ?_
        refine s_move rfl rfl ?_
        refine WL_skip rfl rfl rfl ?_
        refine WL_skip rfl rfl rfl ?_
        refine WL_skip rfl rfl rfl ?_
        refine WL_skip rfl rfl rfl ?_
        refine WL_skip rfl rfl rfl ?_
        refine s_pick_t rfl rfl rfl ?_
        refine s_move rfl rfl ?_
        refine WL_skip rfl rfl rfl ?_
        refine WL_skip rfl rfl rfl ?_
        refine WL_skip rfl rfl rfl ?_
        refine s_pick_t rfl rfl rfl ?_
        refine s_move rfl rfl ?_
        refine WL_skip rfl rfl rfl ?_
        refine WL_skip rfl rfl rfl ?_
        refine WL_skip rfl rfl rfl ?_
        refine s_pick_t rfl rfl rfl ?_
        refine s_move rfl rfl ?_
        refine WL_skip rfl rfl rfl ?_
        refine WL_skip rfl rfl rfl ?_
        refine WL_skip rfl rfl rfl ?_
        refine s_pick_t rfl rfl rfl ?_
        refine WL_nil ?_
        refine n_then ?_
        refine W_cond_t rfl ?_
        refine W_seq ?_
        refine W_region ?_
        refine s_assign rfl rfl ?_
        refine WL_nil ?_
        refine n_then ?_
        refine W_ret ?_
        refine r_then ?_
        have hlb' : lb = true ∧ labsP ls ∨ lb = false ∧ ¬ labsP ls := by cases lb <;> simp at hlb <;> simp [hlb]
        first
          | exact end1 rfl rfl ⟨hs.fwd, _, rfl, .inl ⟨fun h => absurd h.1 ‹_›, rfl⟩⟩
          | exact end1 rfl rfl ⟨hs.fwd, _, rfl, .inl ⟨fun h => by simp_all, rfl⟩⟩
          | exact end1 rfl rfl ⟨hs.fwd, _, rfl, .inr ⟨⟨by assumption, by simp_all⟩, .inl ⟨by unfold De.rangeBad; simp only; omega, rfl⟩⟩⟩
          | exact end1 rfl rfl ⟨hs.fwd, _, rfl, .inr ⟨⟨by assumption, by simp_all⟩, .inr ⟨by unfold De.rangeBad; simp only; omega, .inl ⟨by unfold De.limBad; simp only; omega, rfl⟩⟩⟩⟩
          | exact end1 rfl rfl ⟨hs.fwd, _, rfl, .inr ⟨⟨by assumption, by simp_all⟩, .inr ⟨by unfold De.rangeBad; simp only; omega, .inr ⟨by unfold De.limBad; simp only; omega, rfl⟩⟩⟩⟩
      · skip
        try simp only [decide_eq_true_eq, decide_eq_false_iff_not, beq_iff_eq, beq_eq_false_iff_ne, bne_iff_ne, bne_eq_false_iff_eq, ne_eq, Bool.not_eq_true', Bool.not_eq_false', Bool.not_eq_true, Bool.not_eq_false, gt_iff_lt, ge_iff_le] at hg21
        refine WL_take rfl ?_
        refine s_fieldAddr rfl rfl (FA27_4 _ _) ?_
        refine WL_take rfl ?_
        first
          | refine s_load Try.isAgg3 rfl rfl (hs.cell (k := 0) rfl rfl) ?_
        refine WL_take rfl ?_
        refine s_fieldAddr rfl rfl (FA27_3 _ _) ?_
        refine WL_take rfl ?_
        first
          | refine s_load Try.isAgg3 rfl rfl (hs.cell (k := 0) rfl rfl) ?_
        refine WL_take rfl ?_
        refine s_lss rfl rfl rfl ?_
        refine s_pick_f rfl rfl rfl ?_
        refine s_move rfl rfl ?_
        refine WL_case (s := 28) rfl (fun hg28 => ?_) (fun hg28 => ?_)
        · skip
          try simp only [decide_eq_true_eq, decide_eq_false_iff_not, beq_iff_eq, beq_eq_false_iff_ne, bne_iff_ne, bne_eq_false_iff_eq, ne_eq, Bool.not_eq_true', Bool.not_eq_false', Bool.not_eq_true, Bool.not_eq_false, gt_iff_lt, ge_iff_le] at hg28
          refine WL_skip rfl rfl rfl ?_
          refine WL_skip rfl rfl rfl ?_
          refine WL_skip rfl rfl rfl ?_
          refine s_pick_t rfl rfl rfl ?_
          refine s_move rfl rfl ?_
          refine WL_skip rfl rfl rfl ?_
          refine WL_skip rfl rfl rfl ?_
          refine WL_skip rfl rfl rfl ?_
          refine s_pick_t rfl rfl rfl ?_
          refine s_move rfl rfl ?_
          refine WL_skip rfl rfl rfl ?_
          refine WL_skip rfl rfl rfl ?_
          refine WL_skip rfl rfl rfl ?_
          refine WL_skip rfl rfl rfl ?_
          refine WL_skip rfl rfl rfl ?_
          refine s_pick_t rfl rfl rfl ?_
          refine s_move rfl rfl ?_
          refine WL_skip rfl rfl rfl ?_
          refine WL_skip rfl rfl rfl ?_
          refine WL_skip rfl rfl rfl ?_
          refine s_pick_t rfl rfl rfl ?_
          refine s_move rfl rfl ?_
          refine WL_skip rfl rfl rfl ?_
          refine WL_skip rfl rfl rfl ?_
          refine WL_skip rfl rfl rfl ?_
          refine s_pick_t rfl rfl rfl ?_
          refine s_move rfl rfl ?_
          refine WL_skip rfl rfl rfl ?_
          refine WL_skip rfl rfl rfl ?_
          refine WL_skip rfl rfl rfl ?_
          refine s_pick_t rfl rfl rfl ?_
          refine WL_nil ?_
          refine n_then ?_
          refine W_cond_t rfl ?_
          refine W_seq ?_
          refine W_region ?_
          refine s_assign rfl rfl ?_
          refine WL_nil ?_
          refine n_then ?_
          refine W_ret ?_
          refine r_then ?_
          have hlb' : lb = true ∧ labsP ls ∨ lb = false ∧ ¬ labsP ls := by cases lb <;> simp at hlb <;> simp [hlb]
          first
            | exact end1 rfl rfl ⟨hs.fwd, _, rfl, .inl ⟨fun h => absurd h.1 ‹_›, rfl⟩⟩
            | exact end1 rfl rfl ⟨hs.fwd, _, rfl, .inl ⟨fun h => by simp_all, rfl⟩⟩
            | exact end1 rfl rfl ⟨hs.fwd, _, rfl, .inr ⟨⟨by assumption, by simp_all⟩, .inl ⟨by unfold De.rangeBad; simp only; omega, rfl⟩⟩⟩
            | exact end1 rfl rfl ⟨hs.fwd, _, rfl, .inr ⟨⟨by assumption, by simp_all⟩, .inr ⟨by unfold De.rangeBad; simp only; omega, .inl ⟨by unfold De.limBad; simp only; omega, rfl⟩⟩⟩⟩
            | exact end1 rfl rfl ⟨hs.fwd, _, rfl, .inr ⟨⟨by assumption, by simp_all⟩, .inr ⟨by unfold De.rangeBad; simp only; omega, .inr ⟨by unfold De.limBad; simp only; omega, rfl⟩⟩⟩⟩
        · skip
          try simp only [decide_eq_true_eq, decide_eq_false_iff_not, beq_iff_eq, beq_eq_false_iff_ne, bne_iff_ne, bne_eq_false_iff_eq, ne_eq, Bool.not_eq_true', Bool.not_eq_false', Bool.not_eq_true, Bool.not_eq_false, gt_iff_lt, ge_iff_le] at hg28
          refine WL_take rfl ?_
          refine s_fieldAddr rfl rfl (FA27_4 _ _) ?_
          refine WL_take rfl ?_
          first
            | refine s_load Try.isAgg3 rfl rfl (hs.cell (k := 0) rfl rfl) ?_
          refine WL_take rfl ?_
          refine s_gtr rfl rfl rfl ?_
          refine s_pick_f rfl rfl rfl ?_
          refine s_move rfl rfl ?_
          refine WL_case (s := 33) rfl (fun hg33 => ?_) (fun hg33 => ?_)
          · skip
            try simp only [decide_eq_true_eq, decide_eq_false_iff_not, beq_iff_eq, beq_eq_false_iff_ne, bne_iff_ne, bne_eq_false_iff_eq, ne_eq, Bool.not_eq_true', Bool.not_eq_false', Bool.not_eq_true, Bool.not_eq_false, gt_iff_lt, ge_iff_le] at hg33
            refine WL_skip rfl rfl rfl ?_
            refine WL_skip rfl rfl rfl ?_
            refine WL_skip rfl rfl rfl ?_
            refine s_pick_t rfl rfl rfl ?_
            refine s_move rfl rfl ?_
            refine WL_skip rfl rfl rfl ?_
            refine WL_skip rfl rfl rfl ?_
            refine WL_skip rfl rfl rfl ?_
            refine WL_skip rfl rfl rfl ?_
            refine WL_skip rfl rfl rfl ?_
            refine s_pick_t rfl rfl rfl ?_
            refine s_move rfl rfl ?_
            refine WL_skip rfl rfl rfl ?_
            refine WL_skip rfl rfl rfl ?_
            refine WL_skip rfl rfl rfl ?_
            refine s_pick_t rfl rfl rfl ?_
            refine s_move rfl rfl ?_
            refine WL_skip rfl rfl rfl ?_
            refine WL_skip rfl rfl rfl ?_
            refine WL_skip rfl rfl rfl ?_
            refine s_pick_t rfl rfl rfl ?_
            refine s_move rfl rfl ?_
            refine WL_skip rfl rfl rfl ?_
            refine WL_skip rfl rfl rfl ?_
            refine WL_skip rfl rfl rfl ?_
            refine s_pick_t rfl rfl rfl ?_
            refine WL_nil ?_
            refine n_then ?_
            refine W_cond_t rfl ?_
            refine W_seq ?_
            refine W_region ?_
            refine s_assign rfl rfl ?_
            refine WL_nil ?_
            refine n_then ?_
            refine W_ret ?_
            refine r_then ?_
            have hlb' : lb = true ∧ labsP ls ∨ lb = false ∧ ¬ labsP ls := by cases lb <;> simp at hlb <;> simp [hlb]
            first
              | exact end1 rfl rfl ⟨hs.fwd, _, rfl, .inl ⟨fun h => absurd h.1 ‹_›, rfl⟩⟩
              | exact end1 rfl rfl ⟨hs.fwd, _, rfl, .inl ⟨fun h => by simp_all, rfl⟩⟩
              | exact end1 rfl rfl ⟨hs.fwd, _, rfl, .inr ⟨⟨by assumption, by simp_all⟩, .inl ⟨by unfold De.rangeBad; simp only; omega, rfl⟩⟩⟩
              | exact end1 rfl rfl ⟨hs.fwd, _, rfl, .inr ⟨⟨by assumption, by simp_all⟩, .inr ⟨by unfold De.rangeBad; simp only; omega, .inl ⟨by unfold De.limBad; simp only; omega, rfl⟩⟩⟩⟩
              | exact end1 rfl rfl ⟨hs.fwd, _, rfl, .inr ⟨⟨by assumption, by simp_all⟩, .inr ⟨by unfold De.rangeBad; simp only; omega, .inr ⟨by unfold De.limBad; simp only; omega, rfl⟩⟩⟩⟩
          · skip
            try simp only [decide_eq_true_eq, decide_eq_false_iff_not, beq_iff_eq, beq_eq_false_iff_ne, bne_iff_ne, bne_eq_false_iff_eq, ne_eq, Bool.not_eq_true', Bool.not_eq_false', Bool.not_eq_true, Bool.not_eq_false, gt_iff_lt, ge_iff_le] at hg33
            refine WL_take rfl ?_
            refine s_fieldAddr rfl rfl (FA27_5 _ _) ?_
            refine WL_take rfl ?_
            first
              | refine s_load Try.isAgg3 rfl rfl (hs.cell (k := 0) rfl rfl) ?_
            refine WL_take rfl ?_
            refine s_lss rfl rfl rfl ?_
            refine s_pick_f rfl rfl rfl ?_
            refine s_move rfl rfl ?_
            refine WL_case (s := 38) rfl (fun hg38 => ?_) (fun hg38 => ?_)
            · skip
              try simp only [decide_eq_true_eq, decide_eq_false_iff_not, beq_iff_eq, beq_eq_false_iff_ne, bne_iff_ne, bne_eq_false_iff_eq, ne_eq, Bool.not_eq_true', Bool.not_eq_false', Bool.not_eq_true, Bool.not_eq_false, gt_iff_lt, ge_iff_le] at hg38
              refine WL_skip rfl rfl rfl ?_
              refine WL_skip rfl rfl rfl ?_
              refine WL_skip rfl rfl rfl ?_
              refine WL_skip rfl rfl rfl ?_
              refine WL_skip rfl rfl rfl ?_
              refine s_pick_t rfl rfl rfl ?_
              refine s_move rfl rfl ?_
              refine WL_skip rfl rfl rfl ?_
              refine WL_skip rfl rfl rfl ?_
              refine WL_skip rfl rfl rfl ?_
              refine s_pick_t rfl rfl rfl ?_
              refine s_move rfl rfl ?_
              refine WL_skip rfl rfl rfl ?_
              refine WL_skip rfl rfl rfl ?_
              refine WL_skip rfl rfl rfl ?_
              refine s_pick_t rfl rfl rfl ?_
              refine s_move rfl rfl ?_
              refine WL_skip rfl rfl rfl ?_
              refine WL_skip rfl rfl rfl ?_
              refine WL_skip rfl rfl rfl ?_
              refine s_pick_t rfl rfl rfl ?_
              refine WL_nil ?_
              refine n_then ?_
              refine W_cond_t rfl ?_
              refine W_seq ?_
              refine W_region ?_
              refine s_assign rfl rfl ?_
              refine WL_nil ?_
              refine n_then ?_
              refine W_ret ?_
              refine r_then ?_
              have hlb' : lb = true ∧ labsP ls ∨ lb = false ∧ ¬ labsP ls := by cases lb <;> simp at hlb <;> simp [hlb]
              first
                | exact end1 rfl rfl ⟨hs.fwd, _, rfl, .inl ⟨fun h => absurd h.1 ‹_›, rfl⟩⟩
                | exact end1 rfl rfl ⟨hs.fwd, _, rfl, .inl ⟨fun h => by simp_all, rfl⟩⟩
                | exact end1 rfl rfl ⟨hs.fwd, _, rfl, .inr ⟨⟨by assumption, by simp_all⟩, .inl ⟨by unfold De.rangeBad; simp only; omega, rfl⟩⟩⟩
                | exact end1 rfl rfl ⟨hs.fwd, _, rfl, .inr ⟨⟨by assumption, by simp_all⟩, .inr ⟨by unfold De.rangeBad; simp only; omega, .inl ⟨by unfold De.limBad; simp only; omega, rfl⟩⟩⟩⟩
                | exact end1 rfl rfl ⟨hs.fwd, _, rfl, .inr ⟨⟨by assumption, by simp_all⟩, .inr ⟨by unfold De.rangeBad; simp only; omega, .inr ⟨by unfold De.limBad; simp only; omega, rfl⟩⟩⟩⟩
            · skip
              try simp only [decide_eq_true_eq, decide_eq_false_iff_not, beq_iff_eq, beq_eq_false_iff_ne, bne_iff_ne, bne_eq_false_iff_eq, ne_eq, Bool.not_eq_true', Bool.not_eq_false', Bool.not_eq_true, Bool.not_eq_false, gt_iff_lt, ge_iff_le] at hg38
              refine WL_take rfl ?_
              refine s_fieldAddr rfl rfl (FA27_6 _ _) ?_
              refine WL_take rfl ?_
              first
                | refine s_load Try.isAgg3 rfl rfl (hs.cell (k := 0) rfl rfl) ?_
              refine WL_take rfl ?_
              refine s_fieldAddr rfl rfl (FA27_5 _ _) ?_
              refine WL_take rfl ?_
              first
                | refine s_load Try.isAgg3 rfl rfl (hs.cell (k := 0) rfl rfl) ?_
              refine WL_take rfl ?_
              refine s_lss rfl rfl rfl ?_
              refine s_pick_f rfl rfl rfl ?_
              refine s_move rfl rfl ?_
              refine WL_case (s := 45) rfl (fun hg45 => ?_) (fun hg45 => ?_)
              · skip
                try simp only [decide_eq_true_eq, decide_eq_false_iff_not, beq_iff_eq, beq_eq_false_iff_ne, bne_iff_ne, bne_eq_false_iff_eq, ne_eq, Bool.not_eq_true', Bool.not_eq_false', Bool.not_eq_true, Bool.not_eq_false, gt_iff_lt, ge_iff_le] at hg45
                refine WL_skip rfl rfl rfl ?_
                refine WL_skip rfl rfl rfl ?_
                refine WL_skip rfl rfl rfl ?_
                refine s_pick_t rfl rfl rfl ?_
                refine s_move rfl rfl ?_
                refine WL_skip rfl rfl rfl ?_
                refine WL_skip rfl rfl rfl ?_
                refine WL_skip rfl rfl rfl ?_
                refine s_pick_t rfl rfl rfl ?_
                refine s_move rfl rfl ?_
                refine WL_skip rfl rfl rfl ?_
                refine WL_skip rfl rfl rfl ?_
                refine WL_skip rfl rfl rfl ?_
                refine s_pick_t rfl rfl rfl ?_
                refine WL_nil ?_
                refine n_then ?_
                refine W_cond_t rfl ?_
                refine W_seq ?_
                refine W_region ?_
                refine s_assign rfl rfl ?_
                refine WL_nil ?_
                refine n_then ?_
                refine W_ret ?_
                refine r_then ?_
                have hlb' : lb = true ∧ labsP ls ∨ lb = false ∧ ¬ labsP ls := by cases lb <;> simp at hlb <;> simp [hlb]
                first
                  | exact end1 rfl rfl ⟨hs.fwd, _, rfl, .inl ⟨fun h => absurd h.1 ‹_›, rfl⟩⟩
                  | exact end1 rfl rfl ⟨hs.fwd, _, rfl, .inl ⟨fun h => by simp_all, rfl⟩⟩
                  | exact end1 rfl rfl ⟨hs.fwd, _, rfl, .inr ⟨⟨by assumption, by simp_all⟩, .inl ⟨by unfold De.rangeBad; simp only; omega, rfl⟩⟩⟩
                  | exact end1 rfl rfl ⟨hs.fwd, _, rfl, .inr ⟨⟨by assumption, by simp_all⟩, .inr ⟨by unfold De.rangeBad; simp only; omega, .inl ⟨by unfold De.limBad; simp only; omega, rfl⟩⟩⟩⟩
                  | exact end1 rfl rfl ⟨hs.fwd, _, rfl, .inr ⟨⟨by assumption, by simp_all⟩, .inr ⟨by unfold De.rangeBad; simp only; omega, .inr ⟨by unfold De.limBad; simp only; omega, rfl⟩⟩⟩⟩
              · skip
                try simp only [decide_eq_true_eq, decide_eq_false_iff_not, beq_iff_eq, beq_eq_false_iff_ne, bne_iff_ne, bne_eq_false_iff_eq, ne_eq, Bool.not_eq_true', Bool.not_eq_false', Bool.not_eq_true, Bool.not_eq_false, gt_iff_lt, ge_iff_le] at hg45
                refine WL_take rfl ?_
                refine s_fieldAddr rfl rfl (FA27_6 _ _) ?_
                refine WL_take rfl ?_
                first
                  | refine s_load Try.isAgg3 rfl rfl (hs.cell (k := 0) rfl rfl) ?_
                refine WL_take rfl ?_
                refine s_gtr rfl rfl rfl ?_
                refine s_pick_f rfl rfl rfl ?_
                refine s_move rfl rfl ?_
                refine WL_case (s := 50) rfl (fun hg50 => ?_) (fun hg50 => ?_)
                · skip
                  try simp only [decide_eq_true_eq, decide_eq_false_iff_not, beq_iff_eq, beq_eq_false_iff_ne, bne_iff_ne, bne_eq_false_iff_eq, ne_eq, Bool.not_eq_true', Bool.not_eq_false', Bool.not_eq_true, Bool.not_eq_false, gt_iff_lt, ge_iff_le] at hg50
                  refine WL_skip rfl rfl rfl ?_
                  refine WL_skip rfl rfl rfl ?_
                  refine WL_skip rfl rfl rfl ?_
                  refine s_pick_t rfl rfl rfl ?_
                  refine s_move rfl rfl ?_
                  refine WL_skip rfl rfl rfl ?_
                  refine WL_skip rfl rfl rfl ?_
                  refine WL_skip rfl rfl rfl ?_
                  refine s_pick_t rfl rfl rfl ?_
                  refine WL_nil ?_
                  refine n_then ?_
                  refine W_cond_t rfl ?_
                  refine W_seq ?_
                  refine W_region ?_
                  refine s_assign rfl rfl ?_
                  refine WL_nil ?_
                  refine n_then ?_
                  refine W_ret ?_
                  refine r_then ?_
                  have hlb' : lb = true ∧ labsP ls ∨ lb = false ∧ ¬ labsP ls := by cases lb <;> simp at hlb <;> simp [hlb]
                  first
                    | exact end1 rfl rfl ⟨hs.fwd, _, rfl, .inl ⟨fun h => absurd h.1 ‹_›, rfl⟩⟩
                    | exact end1 rfl rfl ⟨hs.fwd, _, rfl, .inl ⟨fun h => by simp_all, rfl⟩⟩
                    | exact end1 rfl rfl ⟨hs.fwd, _, rfl, .inr ⟨⟨by assumption, by simp_all⟩, .inl ⟨by unfold De.rangeBad; simp only; omega, rfl⟩⟩⟩
                    | exact end1 rfl rfl ⟨hs.fwd, _, rfl, .inr ⟨⟨by assumption, by simp_all⟩, .inr ⟨by unfold De.rangeBad; simp only; omega, .inl ⟨by unfold De.limBad; simp only; omega, rfl⟩⟩⟩⟩
                    | exact end1 rfl rfl ⟨hs.fwd, _, rfl, .inr ⟨⟨by assumption, by simp_all⟩, .inr ⟨by unfold De.rangeBad; simp only; omega, .inr ⟨by unfold De.limBad; simp only; omega, rfl⟩⟩⟩⟩
                · skip
                  try simp only [decide_eq_true_eq, decide_eq_false_iff_not, beq_iff_eq, beq_eq_false_iff_ne, bne_iff_ne, bne_eq_false_iff_eq, ne_eq, Bool.not_eq_true', Bool.not_eq_false', Bool.not_eq_true, Bool.not_eq_false, gt_iff_lt, ge_iff_le] at hg50
                  refine WL_take rfl ?_
                  refine s_fieldAddr rfl rfl (FA27_9 _ _) ?_
                  refine WL_take rfl ?_
                  first
                    | refine s_load Try.isAgg3 rfl rfl (hs.cell (k := 0) rfl rfl) ?_
                  refine WL_take rfl ?_
                  refine s_lss rfl rfl rfl ?_
                  refine s_pick_f rfl rfl rfl ?_
                  refine s_move rfl rfl ?_
                  refine WL_case (s := 55) rfl (fun hg55 => ?_) (fun hg55 => ?_)
                  · skip
                    try simp only [decide_eq_true_eq, decide_eq_false_iff_not, beq_iff_eq, beq_eq_false_iff_ne, bne_iff_ne, bne_eq_false_iff_eq, ne_eq, Bool.not_eq_true', Bool.not_eq_false', Bool.not_eq_true, Bool.not_eq_false, gt_iff_lt, ge_iff_le] at hg55
                    refine WL_skip rfl rfl rfl ?_
                    refine WL_skip rfl rfl rfl ?_
                    refine WL_skip rfl rfl rfl ?_
                    refine s_pick_t rfl rfl rfl ?_
                    refine WL_nil ?_
                    refine n_then ?_
                    refine W_cond_t rfl ?_
                    refine W_seq ?_
                    refine W_region ?_
                    refine s_assign rfl rfl ?_
                    refine WL_nil ?_
                    refine n_then ?_
                    refine W_ret ?_
                    refine r_then ?_
                    have hlb' : lb = true ∧ labsP ls ∨ lb = false ∧ ¬ labsP ls := by cases lb <;> simp at hlb <;> simp [hlb]
                    first
                      | exact end1 rfl rfl ⟨hs.fwd, _, rfl, .inl ⟨fun h => absurd h.1 ‹_›, rfl⟩⟩
                      | exact end1 rfl rfl ⟨hs.fwd, _, rfl, .inl ⟨fun h => by simp_all, rfl⟩⟩
                      | exact end1 rfl rfl ⟨hs.fwd, _, rfl, .inr ⟨⟨by assumption, by simp_all⟩, .inl ⟨by unfold De.rangeBad; simp only; omega, rfl⟩⟩⟩
                      | exact end1 rfl rfl ⟨hs.fwd, _, rfl, .inr ⟨⟨by assumption, by simp_all⟩, .inr ⟨by unfold De.rangeBad; simp only; omega, .inl ⟨by unfold De.limBad; simp only; omega, rfl⟩⟩⟩⟩
                      | exact end1 rfl rfl ⟨hs.fwd, _, rfl, .inr ⟨⟨by assumption, by simp_all⟩, .inr ⟨by unfold De.rangeBad; simp only; omega, .inr ⟨by unfold De.limBad; simp only; omega, rfl⟩⟩⟩⟩
                  · skip
                    try simp only [decide_eq_true_eq, decide_eq_false_iff_not, beq_iff_eq, beq_eq_false_iff_ne, bne_iff_ne, bne_eq_false_iff_eq, ne_eq, Bool.not_eq_true', Bool.not_eq_false', Bool.not_eq_true, Bool.not_eq_false, gt_iff_lt, ge_iff_le] at hg55
                    refine WL_take rfl ?_
                    refine s_fieldAddr rfl rfl (FA27_9 _ _) ?_
                    refine WL_take rfl ?_
                    first
                      | refine s_load Try.isAgg3 rfl rfl (hs.cell (k := 0) rfl rfl) ?_
                    refine WL_take rfl ?_
                    refine s_gtr rfl rfl rfl ?_
                    refine s_pick_f rfl rfl rfl ?_
                    refine WL_nil ?_
                    refine n_then ?_
                    refine W_cond rfl (fun hc59 => ?_) (fun hc59 => ?_)
                    · skip
                      try simp only [decide_eq_true_eq, decide_eq_false_iff_not, beq_iff_eq, beq_eq_false_iff_ne, bne_iff_ne, bne_eq_false_iff_eq, ne_eq, Bool.not_eq_true', Bool.not_eq_false', Bool.not_eq_true, Bool.not_eq_false, gt_iff_lt, ge_iff_le] at hc59
                      refine W_seq ?_
                      refine W_region ?_
                      refine s_assign rfl rfl ?_
                      refine WL_nil ?_
                      refine n_then ?_
                      refine W_ret ?_
                      refine r_then ?_
                      have hlb' : lb = true ∧ labsP ls ∨ lb = false ∧ ¬ labsP ls := by cases lb <;> simp at hlb <;> simp [hlb]
                      first
                        | exact end1 rfl rfl ⟨hs.fwd, _, rfl, .inl ⟨fun h => absurd h.1 ‹_›, rfl⟩⟩
                        | exact end1 rfl rfl ⟨hs.fwd, _, rfl, .inl ⟨fun h => by simp_all, rfl⟩⟩
                        | exact end1 rfl rfl ⟨hs.fwd, _, rfl, .inr ⟨⟨by assumption, by simp_all⟩, .inl ⟨by unfold De.rangeBad; simp only; omega, rfl⟩⟩⟩
                        | exact end1 rfl rfl ⟨hs.fwd, _, rfl, .inr ⟨⟨by assumption, by simp_all⟩, .inr ⟨by unfold De.rangeBad; simp only; omega, .inl ⟨by unfold De.limBad; simp only; omega, rfl⟩⟩⟩⟩
                        | exact end1 rfl rfl ⟨hs.fwd, _, rfl, .inr ⟨⟨by assumption, by simp_all⟩, .inr ⟨by unfold De.rangeBad; simp only; omega, .inr ⟨by unfold De.limBad; simp only; omega, rfl⟩⟩⟩⟩
                    · skip
                      try simp only [decide_eq_true_eq, decide_eq_false_iff_not, beq_iff_eq, beq_eq_false_iff_ne, bne_iff_ne, bne_eq_false_iff_eq, ne_eq, Bool.not_eq_true', Bool.not_eq_false', Bool.not_eq_true, Bool.not_eq_false, gt_iff_lt, ge_iff_le] at hc59
                      refine W_skip ?_
                      refine n_then ?_
                      refine W_seq ?_
                      refine W_region ?_
                      refine s_fieldAddr rfl rfl (FA27_2 _ _) ?_
                      first
                        | refine s_loadW Try.isAgg25 Try.sizeOf25 rfl rfl hs (kk := 0) rfl rfl ?_
                        | refine s_load_3 Try.isAgg25 Try.sizeOf25 rfl rfl (by first | exact hs.cell (k := 0) rfl rfl) (by first | exact hs.cell (k := 0) rfl rfl) (by first | exact hs.cell (k := 0) rfl rfl) ?_
                      refine s_call Try.call38 rfl rfl (exponents_ok u0 u1 u2 w) ?_
                      rintro r w ⟨hst, rfl⟩
                      replace hs := hs.fwd1 hst
                      clear hst
                      refine s_assign rfl rfl ?_
                      refine WL_nil ?_
                      refine n_then ?_
                      refine W_seq ?_
                      refine W_seq ?_
                      refine W_region ?_
                      refine s_move rfl rfl ?_
                      refine s_not rfl rfl ?_
                      refine s_move rfl rfl ?_
                      refine WL_case (s := 65) rfl (fun hg65 => ?_) (fun hg65 => ?_)
                      · skip
                        try simp only [decide_eq_true_eq, decide_eq_false_iff_not, beq_iff_eq, beq_eq_false_iff_ne, bne_iff_ne, bne_eq_false_iff_eq, ne_eq, Bool.not_eq_true', Bool.not_eq_false', Bool.not_eq_true, Bool.not_eq_false, gt_iff_lt, ge_iff_le] at hg65
                        refine WL_skip rfl rfl rfl ?_
                        refine WL_skip rfl rfl rfl ?_
                        refine WL_skip rfl rfl rfl ?_
                        refine s_pick_t rfl rfl rfl ?_
                        refine s_move rfl rfl ?_
                        refine WL_skip rfl rfl rfl ?_
                        refine WL_skip rfl rfl rfl ?_
                        refine WL_skip rfl rfl rfl ?_
                        refine WL_skip rfl rfl rfl ?_
                        refine WL_skip rfl rfl rfl ?_
                        refine s_pick_t rfl rfl rfl ?_
                        refine s_move rfl rfl ?_
                        refine WL_skip rfl rfl rfl ?_
                        refine WL_skip rfl rfl rfl ?_
                        refine WL_skip rfl rfl rfl ?_
                        refine s_pick_t rfl rfl rfl ?_
                        refine s_move rfl rfl ?_
                        refine WL_skip rfl rfl rfl ?_
                        refine WL_skip rfl rfl rfl ?_
                        refine WL_skip rfl rfl rfl ?_
                        refine WL_skip rfl rfl rfl ?_
                        refine WL_skip rfl rfl rfl ?_
                        refine WL_skip rfl rfl rfl ?_
                        refine s_pick_t rfl rfl rfl ?_
                        refine WL_nil ?_
                        refine n_then ?_
                        refine W_cond_t rfl ?_
                        refine W_seq ?_
                        refine W_region ?_
                        refine s_assign rfl rfl ?_
                        refine WL_nil ?_
                        refine n_then ?_
                        refine W_ret ?_
                        refine r_then ?_
                        have hlb' : lb = true ∧ labsP ls ∨ lb = false ∧ ¬ labsP ls := by cases lb <;> simp at hlb <;> simp [hlb]
                        first
                          | exact end1 rfl rfl ⟨hs.fwd, _, rfl, .inl ⟨fun h => absurd h.1 ‹_›, rfl⟩⟩
                          | exact end1 rfl rfl ⟨hs.fwd, _, rfl, .inl ⟨fun h => by simp_all, rfl⟩⟩
                          | exact end1 rfl rfl ⟨hs.fwd, _, rfl, .inr ⟨⟨by assumption, by simp_all⟩, .inl ⟨by unfold De.rangeBad; simp only; omega, rfl⟩⟩⟩
                          | exact end1 rfl rfl ⟨hs.fwd, _, rfl, .inr ⟨⟨by assumption, by simp_all⟩, .inr ⟨by unfold De.rangeBad; simp only; omega, .inl ⟨by unfold De.limBad; simp only; omega, rfl⟩⟩⟩⟩
                          | exact end1 rfl rfl ⟨hs.fwd, _, rfl, .inr ⟨⟨by assumption, by simp_all⟩, .inr ⟨by unfold De.rangeBad; simp only; omega, .inr ⟨by unfold De.limBad; simp only; omega, rfl⟩⟩⟩⟩
                      · skip
                        try simp only [decide_eq_true_eq, decide_eq_false_iff_not, beq_iff_eq, beq_eq_false_iff_ne, bne_iff_ne, bne_eq_false_iff_eq, ne_eq, Bool.not_eq_true', Bool.not_eq_false', Bool.not_eq_true, Bool.not_eq_false, gt_iff_lt, ge_iff_le] at hg65
                        refine WL_take rfl ?_
                        refine s_fieldAddr rfl rfl (FA27_7 _ _) ?_
                        refine WL_take rfl ?_
                        first
                          | refine s_load Try.isAgg3 rfl rfl (hs.cell (k := 0) rfl rfl) ?_
                        refine WL_take rfl ?_
                        refine s_lss rfl rfl rfl ?_
                        refine s_pick_f rfl rfl rfl ?_
                        refine s_move rfl rfl ?_
                        refine WL_case (s := 70) rfl (fun hg70 => ?_) (fun hg70 => ?_)
                        · skip
                          try simp only [decide_eq_true_eq, decide_eq_false_iff_not, beq_iff_eq, beq_eq_false_iff_ne, bne_iff_ne, bne_eq_false_iff_eq, ne_eq, Bool.not_eq_true', Bool.not_eq_false', Bool.not_eq_true, Bool.not_eq_false, gt_iff_lt, ge_iff_le] at hg70
                          refine WL_skip rfl rfl rfl ?_
                          refine WL_skip rfl rfl rfl ?_
                          refine WL_skip rfl rfl rfl ?_
                          refine WL_skip rfl rfl rfl ?_
                          refine WL_skip rfl rfl rfl ?_
                          refine s_pick_t rfl rfl rfl ?_
                          refine s_move rfl rfl ?_
                          refine WL_skip rfl rfl rfl ?_
                          refine WL_skip rfl rfl rfl ?_
                          refine WL_skip rfl rfl rfl ?_
                          refine s_pick_t rfl rfl rfl ?_
                          refine s_move rfl rfl ?_
                          refine WL_skip rfl rfl rfl ?_
                          refine WL_skip rfl rfl rfl ?_
                          refine WL_skip rfl rfl rfl ?_
                          refine WL_skip rfl rfl rfl ?_
                          refine WL_skip rfl rfl rfl ?_
                          refine WL_skip rfl rfl rfl ?_
                          refine s_pick_t rfl rfl rfl ?_
                          refine WL_nil ?_
                          refine n_then ?_
                          refine W_cond_t rfl ?_
                          refine W_seq ?_
                          refine W_region ?_
                          refine s_assign rfl rfl ?_
                          refine WL_nil ?_
                          refine n_then ?_
                          refine W_ret ?_
                          refine r_then ?_
                          have hlb' : lb = true ∧ labsP ls ∨ lb = false ∧ ¬ labsP ls := by cases lb <;> simp at hlb <;> simp [hlb]
                          first
                            | exact end1 rfl rfl ⟨hs.fwd, _, rfl, .inl ⟨fun h => absurd h.1 ‹_›, rfl⟩⟩
                            | exact end1 rfl rfl ⟨hs.fwd, _, rfl, .inl ⟨fun h => by simp_all, rfl⟩⟩
                            | exact end1 rfl rfl ⟨hs.fwd, _, rfl, .inr ⟨⟨by assumption, by simp_all⟩, .inl ⟨by unfold De.rangeBad; simp only; omega, rfl⟩⟩⟩
                            | exact end1 rfl rfl ⟨hs.fwd, _, rfl, .inr ⟨⟨by assumption, by simp_all⟩, .inr ⟨by unfold De.rangeBad; simp only; omega, .inl ⟨by unfold De.limBad; simp only; omega, rfl⟩⟩⟩⟩
                            | exact end1 rfl rfl ⟨hs.fwd, _, rfl, .inr ⟨⟨by assumption, by simp_all⟩, .inr ⟨by unfold De.rangeBad; simp only; omega, .inr ⟨by unfold De.limBad; simp only; omega, rfl⟩⟩⟩⟩
                        · skip
                          try simp only [decide_eq_true_eq, decide_eq_false_iff_not, beq_iff_eq, beq_eq_false_iff_ne, bne_iff_ne, bne_eq_false_iff_eq, ne_eq, Bool.not_eq_true', Bool.not_eq_false', Bool.not_eq_true, Bool.not_eq_false, gt_iff_lt, ge_iff_le] at hg70
                          refine WL_take rfl ?_
                          refine s_fieldAddr rfl rfl (FA27_8 _ _) ?_
                          refine WL_take rfl ?_
                          first
                            | refine s_load Try.isAgg3 rfl rfl (hs.cell (k := 0) rfl rfl) ?_
                          refine WL_take rfl ?_
                          refine s_fieldAddr rfl rfl (FA27_7 _ _) ?_
                          refine WL_take rfl ?_
                          first
                            | refine s_load Try.isAgg3 rfl rfl (hs.cell (k := 0) rfl rfl) ?_
                          refine WL_take rfl ?_
                          refine s_lss rfl rfl rfl ?_
                          refine s_pick_f rfl rfl rfl ?_
                          refine s_move rfl rfl ?_
                          refine WL_case (s := 77) rfl (fun hg77 => ?_) (fun hg77 => ?_)
                          · skip
                            try simp only [decide_eq_true_eq, decide_eq_false_iff_not, beq_iff_eq, beq_eq_false_iff_ne, bne_iff_ne, bne_eq_false_iff_eq, ne_eq, Bool.not_eq_true', Bool.not_eq_false', Bool.not_eq_true, Bool.not_eq_false, gt_iff_lt, ge_iff_le] at hg77
                            refine WL_skip rfl rfl rfl ?_
                            refine WL_skip rfl rfl rfl ?_
                            refine WL_skip rfl rfl rfl ?_
                            refine s_pick_t rfl rfl rfl ?_
                            refine s_move rfl rfl ?_
                            refine WL_skip rfl rfl rfl ?_
                            refine WL_skip rfl rfl rfl ?_
                            refine WL_skip rfl rfl rfl ?_
                            refine WL_skip rfl rfl rfl ?_
                            refine WL_skip rfl rfl rfl ?_
                            refine WL_skip rfl rfl rfl ?_
                            refine s_pick_t rfl rfl rfl ?_
                            refine WL_nil ?_
                            refine n_then ?_
                            refine W_cond_t rfl ?_
                            refine W_seq ?_
                            refine W_region ?_
                            refine s_assign rfl rfl ?_
                            refine WL_nil ?_
                            refine n_then ?_
                            refine W_ret ?_
                            refine r_then ?_
                            have hlb' : lb = true ∧ labsP ls ∨ lb = false ∧ ¬ labsP ls := by cases lb <;> simp at hlb <;> simp [hlb]
                            first
                              | exact end1 rfl rfl ⟨hs.fwd, _, rfl, .inl ⟨fun h => absurd h.1 ‹_›, rfl⟩⟩
                              | exact end1 rfl rfl ⟨hs.fwd, _, rfl, .inl ⟨fun h => by simp_all, rfl⟩⟩
                              | exact end1 rfl rfl ⟨hs.fwd, _, rfl, .inr ⟨⟨by assumption, by simp_all⟩, .inl ⟨by unfold De.rangeBad; simp only; omega, rfl⟩⟩⟩
                              | exact end1 rfl rfl ⟨hs.fwd, _, rfl, .inr ⟨⟨by assumption, by simp_all⟩, .inr ⟨by unfold De.rangeBad; simp only; omega, .inl ⟨by unfold De.limBad; simp only; omega, rfl⟩⟩⟩⟩
                              | exact end1 rfl rfl ⟨hs.fwd, _, rfl, .inr ⟨⟨by assumption, by simp_all⟩, .inr ⟨by unfold De.rangeBad; simp only; omega, .inr ⟨by unfold De.limBad; simp only; omega, rfl⟩⟩⟩⟩
                          · skip
                            try simp only [decide_eq_true_eq, decide_eq_false_iff_not, beq_iff_eq, beq_eq_false_iff_ne, bne_iff_ne, bne_eq_false_iff_eq, ne_eq, Bool.not_eq_true', Bool.not_eq_false', Bool.not_eq_true, Bool.not_eq_false, gt_iff_lt, ge_iff_le] at hg77
                            refine WL_take rfl ?_
                            refine s_fieldAddr rfl rfl (FA27_8 _ _) ?_
                            refine WL_take rfl ?_
                            first
                              | refine s_load Try.isAgg3 rfl rfl (hs.cell (k := 0) rfl rfl) ?_
                            refine WL_take rfl ?_
                            refine s_gtr rfl rfl rfl ?_
                            refine s_pick_f rfl rfl rfl ?_
                            refine s_move rfl rfl ?_
                            refine WL_case (s := 82) rfl (fun hg82 => ?_) (fun hg82 => ?_)
                            · skip
                              try simp only [decide_eq_true_eq, decide_eq_false_iff_not, beq_iff_eq, beq_eq_false_iff_ne, bne_iff_ne, bne_eq_false_iff_eq, ne_eq, Bool.not_eq_true', Bool.not_eq_false', Bool.not_eq_true, Bool.not_eq_false, gt_iff_lt, ge_iff_le] at hg82
                              refine WL_skip rfl rfl rfl ?_
                              refine WL_skip rfl rfl rfl ?_
                              refine WL_skip rfl rfl rfl ?_
                              refine WL_skip rfl rfl rfl ?_
                              refine WL_skip rfl rfl rfl ?_
                              refine WL_skip rfl rfl rfl ?_
                              refine s_pick_t rfl rfl rfl ?_
                              refine WL_nil ?_
                              refine n_then ?_
                              refine W_cond_t rfl ?_
                              refine W_seq ?_
                              refine W_region ?_
                              refine s_assign rfl rfl ?_
                              refine WL_nil ?_
                              refine n_then ?_
                              refine W_ret ?_
                              refine r_then ?_
                              have hlb' : lb = true ∧ labsP ls ∨ lb = false ∧ ¬ labsP ls := by cases lb <;> simp at hlb <;> simp [hlb]
                              first
                                | exact end1 rfl rfl ⟨hs.fwd, _, rfl, .inl ⟨fun h => absurd h.1 ‹_›, rfl⟩⟩
                                | exact end1 rfl rfl ⟨hs.fwd, _, rfl, .inl ⟨fun h => by simp_all, rfl⟩⟩
                                | exact end1 rfl rfl ⟨hs.fwd, _, rfl, .inr ⟨⟨by assumption, by simp_all⟩, .inl ⟨by unfold De.rangeBad; simp only; omega, rfl⟩⟩⟩
                                | exact end1 rfl rfl ⟨hs.fwd, _, rfl, .inr ⟨⟨by assumption, by simp_all⟩, .inr ⟨by unfold De.rangeBad; simp only; omega, .inl ⟨by unfold De.limBad; simp only; omega, rfl⟩⟩⟩⟩
                                | exact end1 rfl rfl ⟨hs.fwd, _, rfl, .inr ⟨⟨by assumption, by simp_all⟩, .inr ⟨by unfold De.rangeBad; simp only; omega, .inr ⟨by unfold De.limBad; simp only; omega, rfl⟩⟩⟩⟩
                            · skip
                              try simp only [decide_eq_true_eq, decide_eq_false_iff_not, beq_iff_eq, beq_eq_false_iff_ne, bne_iff_ne, bne_eq_false_iff_eq, ne_eq, Bool.not_eq_true', Bool.not_eq_false', Bool.not_eq_true, Bool.not_eq_false, gt_iff_lt, ge_iff_le] at hg82
                              refine WL_take rfl ?_
                              refine s_fieldAddr rfl rfl (FA27_8 _ _) ?_
                              refine WL_take rfl ?_
                              first
                                | refine s_load Try.isAgg3 rfl rfl (hs.cell (k := 0) rfl rfl) ?_
                              refine WL_take rfl ?_
                              refine s_fieldAddr rfl rfl (FA27_7 _ _) ?_
                              refine WL_take rfl ?_
                              first
                                | refine s_load Try.isAgg3 rfl rfl (hs.cell (k := 0) rfl rfl) ?_
                              refine WL_take rfl ?_
                              first | (refine s_sub' rfl rfl rfl ?hx ?_; case hx => (constructor <;> first | omega | (simp only; omega))) | refine s_sub rfl rfl rfl ?_
                              refine WL_take rfl ?_
                              refine s_geq rfl rfl rfl ?_
                              refine s_pick_f rfl rfl rfl ?_
                              refine WL_nil ?_
                              refine n_then ?_
                              refine W_cond rfl (fun hc89 => ?_) (fun hc89 => ?_)
                              · skip
                                try simp only [decide_eq_true_eq, decide_eq_false_iff_not, beq_iff_eq, beq_eq_false_iff_ne, bne_iff_ne, bne_eq_false_iff_eq, ne_eq, Bool.not_eq_true', Bool.not_eq_false', Bool.not_eq_true, Bool.not_eq_false, gt_iff_lt, ge_iff_le] at hc89
                                refine W_seq ?_
                                refine W_region ?_
                                refine s_assign rfl rfl ?_
                                refine WL_nil ?_
                                refine n_then ?_
                                refine W_ret ?_
                                refine r_then ?_
                                have hlb' : lb = true ∧ labsP ls ∨ lb = false ∧ ¬ labsP ls := by cases lb <;> simp at hlb <;> simp [hlb]
                                first
                                  | exact end1 rfl rfl ⟨hs.fwd, _, rfl, .inl ⟨fun h => absurd h.1 ‹_›, rfl⟩⟩
                                  | exact end1 rfl rfl ⟨hs.fwd, _, rfl, .inl ⟨fun h => by simp_all, rfl⟩⟩
                                  | exact end1 rfl rfl ⟨hs.fwd, _, rfl, .inr ⟨⟨by assumption, by simp_all⟩, .inl ⟨by unfold De.rangeBad; simp only; omega, rfl⟩⟩⟩
                                  | exact end1 rfl rfl ⟨hs.fwd, _, rfl, .inr ⟨⟨by assumption, by simp_all⟩, .inr ⟨by unfold De.rangeBad; simp only; omega, .inl ⟨by unfold De.limBad; simp only; omega, rfl⟩⟩⟩⟩
                                  | exact end1 rfl rfl ⟨hs.fwd, _, rfl, .inr ⟨⟨by assumption, by simp_all⟩, .inr ⟨by unfold De.rangeBad; simp only; omega, .inr ⟨by unfold De.limBad; simp only; omega, rfl⟩⟩⟩⟩
                              · skip
                                try simp only [decide_eq_true_eq, decide_eq_false_iff_not, beq_iff_eq, beq_eq_false_iff_ne, bne_iff_ne, bne_eq_false_iff_eq, ne_eq, Bool.not_eq_true', Bool.not_eq_false', Bool.not_eq_true, Bool.not_eq_false, gt_iff_lt, ge_iff_le] at hc89
                                refine W_skip ?_
                                refine n_then ?_
                                refine W_seq ?_
                                refine W_region ?_
                                refine s_assign rfl rfl ?_
                                refine WL_nil ?_
                                refine n_then ?_
                                refine W_ret ?_
                                have hlb' : lb = true ∧ labsP ls ∨ lb = false ∧ ¬ labsP ls := by cases lb <;> simp at hlb <;> simp [hlb]
                                first
                                  | exact end1 rfl rfl ⟨hs.fwd, _, rfl, .inl ⟨fun h => absurd h.1 ‹_›, rfl⟩⟩
                                  | exact end1 rfl rfl ⟨hs.fwd, _, rfl, .inl ⟨fun h => by simp_all, rfl⟩⟩
                                  | exact end1 rfl rfl ⟨hs.fwd, _, rfl, .inr ⟨⟨by assumption, by simp_all⟩, .inl ⟨by unfold De.rangeBad; simp only; omega, rfl⟩⟩⟩
                                  | exact end1 rfl rfl ⟨hs.fwd, _, rfl, .inr ⟨⟨by assumption, by simp_all⟩, .inr ⟨by unfold De.rangeBad; simp only; omega, .inl ⟨by unfold De.limBad; simp only; omega, rfl⟩⟩⟩⟩
                                  | exact end1 rfl rfl ⟨hs.fwd, _, rfl, .inr ⟨⟨by assumption, by simp_all⟩, .inr ⟨by unfold De.rangeBad; simp only; omega, .inr ⟨by unfold De.limBad; simp only; omega, rfl⟩⟩⟩⟩
set_option maxHeartbeats 2000000 in
theorem bent_ok (d : De) (n m : Int) (w0 : World) (hn : isI64 n) (hlv : ∃ a k c, d.lv = .slice a k c) : Ret Try.prog 11 [.agg d.vals.toArray, .int .i64 n, .int .i64 m].toArray w0 fun r w' => Fwd [] w0 w' ∧ ∃ d' : De, r = .agg d'.vals.toArray ∧ d'.lv = d.lv := by
  obtain ⟨name, lv, u0, u1, u2, lo, hi, dn, up, fi, la, bu⟩ := d
  simp only at hlv
  obtain ⟨va, vn, vc, rfl⟩ := hlv
  refine Ret_start fun w hs => ?_
  simp only [De.vals]
  refine Ret_of Try.func11 rfl Try.ntmps11 rfl ?_
  refine W_seq ?_
  refine W_region ?_
  first | refine s_box rfl rfl hs ?_ | refine s_box1 rfl rfl rfl hs ?_
  clear hs; intro b3 w hs
  refine s_alloc rfl AL27 hs ?_; clear hs; intro b6 w hs
  refine WL_nil ?_
  refine n_then ?_
  refine W_seq ?_
  refine W_seq ?_
  refine W_region ?_
  refine s_move rfl rfl ?_
  refine s_call Try.call20 rfl rfl (around_ok n 10 w (by omega) hn) ?_
  rintro r w1 ⟨hw1, rfl⟩
  rw [hw1]; clear hw1 w1
  refine WL_nil ?_
  refine n_then ?_
  refine W_block ?_
  refine W_seq ?_
  refine W_region ?_
  refine s_eql rfl rfl rfl ?_
  refine s_assign rfl rfl ?_
  refine WL_nil ?_
  refine n_then ?_
  refine W_cond rfl (fun hc11 => ?_) (fun hc11 => ?_)
  · skip
    refine W_region ?_
    refine s_move rfl rfl ?_
    refine s_fieldAddr rfl rfl (FA27_2 _ _) ?_
    (refine s_indexAddrA Try.underlying25 Try.sizeOf3 rfl rfl rfl ?hx ?_; case hx => (constructor <;> omega))
    first
      | refine s_storeB Try.sizeOf3 rfl rfl rfl hs (kk := 0) rfl rfl ?_
      | refine s_storeB Try.sizeOf3 rfl rfl rfl hs (kk := 1) rfl rfl ?_
    clear hs; intro w hs; try simp only [List.set_cons_zero, List.set_cons_succ, splice, List.take_succ_cons, List.take_zero, List.drop_succ_cons, List.drop_zero, List.nil_append, List.cons_append, List.length_cons, List.length_nil, Nat.reduceAdd, List.append_assoc] at hs
    refine WL_nil ?_
    refine n_blk ?_
    refine n_then ?_
    refine W_seq ?_
    refine W_region ?_
    first
      | refine s_loadW Try.isAgg27 Try.sizeOf27 rfl rfl hs (kk := 0) rfl rfl ?_
      | refine s_loadW Try.isAgg27 Try.sizeOf27 rfl rfl hs (kk := 1) rfl rfl ?_
      | refine s_load_12 Try.isAgg27 Try.sizeOf27 rfl rfl (by first | exact hs.cell (k := 0) rfl rfl | exact hs.cell (k := 1) rfl rfl) (by first | exact hs.cell (k := 0) rfl rfl | exact hs.cell (k := 1) rfl rfl) (by first | exact hs.cell (k := 0) rfl rfl | exact hs.cell (k := 1) rfl rfl) (by first | exact hs.cell (k := 0) rfl rfl | exact hs.cell (k := 1) rfl rfl) (by first | exact hs.cell (k := 0) rfl rfl | exact hs.cell (k := 1) rfl rfl) (by first | exact hs.cell (k := 0) rfl rfl | exact hs.cell (k := 1) rfl rfl) (by first | exact hs.cell (k := 0) rfl rfl | exact hs.cell (k := 1) rfl rfl) (by first | exact hs.cell (k := 0) rfl rfl | exact hs.cell (k := 1) rfl rfl) (by first | exact hs.cell (k := 0) rfl rfl | exact hs.cell (k := 1) rfl rfl) (by first | exact hs.cell (k := 0) rfl rfl | exact hs.cell (k := 1) rfl rfl) (by first | exact hs.cell (k := 0) rfl rfl | exact hs.cell (k := 1) rfl rfl) (by first | exact hs.cell (k := 0) rfl rfl | exact hs.cell (k := 1) rfl rfl) ?_
    first
      | refine s_storeW Try.sizeOf27 rfl rfl rfl rfl hs (kk := 0) rfl rfl ?_
      | refine s_storeW Try.sizeOf27 rfl rfl rfl rfl hs (kk := 1) rfl rfl ?_
      | refine s_storeAB Try.sizeOf27 rfl rfl rfl rfl hs (kk := 0) rfl rfl ?_
      | refine s_storeAB Try.sizeOf27 rfl rfl rfl rfl hs (kk := 1) rfl rfl ?_
    clear hs; intro w hs; try simp only [List.set_cons_zero, List.set_cons_succ, splice, List.take_succ_cons, List.take_zero, List.drop_succ_cons, List.drop_zero, List.nil_append, List.cons_append, List.length_cons, List.length_nil, Nat.reduceAdd, List.append_assoc] at hs
    refine WL_nil ?_
    refine n_then ?_
    refine W_ret ?_
    exact end1 rfl (resOk_block Try.isAgg27 Try.sizeOf27 hs rfl (kk := 0) rfl rfl) ⟨hs.fwd, ⟨_, _, _, _, _, _, _, _, _, _, _, _⟩, rfl, rfl⟩
  · skip
    refine W_seq ?_
    refine W_region ?_
    refine s_eql rfl rfl rfl ?_
    refine s_assign rfl rfl ?_
    refine WL_nil ?_
    refine n_then ?_
    refine W_cond rfl (fun hc16 => ?_) (fun hc16 => ?_)
    · skip
      refine W_region ?_
      refine s_move rfl rfl ?_
      refine s_fieldAddr rfl rfl (FA27_2 _ _) ?_
      (refine s_indexAddrA Try.underlying25 Try.sizeOf3 rfl rfl rfl ?hx ?_; case hx => (constructor <;> omega))
      first
        | refine s_storeB Try.sizeOf3 rfl rfl rfl hs (kk := 0) rfl rfl ?_
        | refine s_storeB Try.sizeOf3 rfl rfl rfl hs (kk := 1) rfl rfl ?_
      clear hs; intro w hs; try simp only [List.set_cons_zero, List.set_cons_succ, splice, List.take_succ_cons, List.take_zero, List.drop_succ_cons, List.drop_zero, List.nil_append, List.cons_append, List.length_cons, List.length_nil, Nat.reduceAdd, List.append_assoc] at hs
      refine WL_nil ?_
      refine n_blk ?_
      refine n_then ?_
      refine W_seq ?_
      refine W_region ?_
      first
        | refine s_loadW Try.isAgg27 Try.sizeOf27 rfl rfl hs (kk := 0) rfl rfl ?_
        | refine s_loadW Try.isAgg27 Try.sizeOf27 rfl rfl hs (kk := 1) rfl rfl ?_
        | refine s_load_12 Try.isAgg27 Try.sizeOf27 rfl rfl (by first | exact hs.cell (k := 0) rfl rfl | exact hs.cell (k := 1) rfl rfl) (by first | exact hs.cell (k := 0) rfl rfl | exact hs.cell (k := 1) rfl rfl) (by first | exact hs.cell (k := 0) rfl rfl | exact hs.cell (k := 1) rfl rfl) (by first | exact hs.cell (k := 0) rfl rfl | exact hs.cell (k := 1) rfl rfl) (by first | exact hs.cell (k := 0) rfl rfl | exact hs.cell (k := 1) rfl rfl) (by first | exact hs.cell (k := 0) rfl rfl | exact hs.cell (k := 1) rfl rfl) (by first | exact hs.cell (k := 0) rfl rfl | exact hs.cell (k := 1) rfl rfl) (by first | exact hs.cell (k := 0) rfl rfl | exact hs.cell (k := 1) rfl rfl) (by first | exact hs.cell (k := 0) rfl rfl | exact hs.cell (k := 1) rfl rfl) (by first | exact hs.cell (k := 0) rfl rfl | exact hs.cell (k := 1) rfl rfl) (by first | exact hs.cell (k := 0) rfl rfl | exact hs.cell (k := 1) rfl rfl) (by first | exact hs.cell (k := 0) rfl rfl | exact hs.cell (k := 1) rfl rfl) ?_
      first
        | refine s_storeW Try.sizeOf27 rfl rfl rfl rfl hs (kk := 0) rfl rfl ?_
        | refine s_storeW Try.sizeOf27 rfl rfl rfl rfl hs (kk := 1) rfl rfl ?_
        | refine s_storeAB Try.sizeOf27 rfl rfl rfl rfl hs (kk := 0) rfl rfl ?_
        | refine s_storeAB Try.sizeOf27 rfl rfl rfl rfl hs (kk := 1) rfl rfl ?_
      clear hs; intro w hs; try simp only [List.set_cons_zero, List.set_cons_succ, splice, List.take_succ_cons, List.take_zero, List.drop_succ_cons, List.drop_zero, List.nil_append, List.cons_append, List.length_cons, List.length_nil, Nat.reduceAdd, List.append_assoc] at hs
      refine WL_nil ?_
      refine n_then ?_
      refine W_ret ?_
      exact end1 rfl (resOk_block Try.isAgg27 Try.sizeOf27 hs rfl (kk := 0) rfl rfl) ⟨hs.fwd, ⟨_, _, _, _, _, _, _, _, _, _, _, _⟩, rfl, rfl⟩
    · skip
      refine W_seq ?_
      refine W_region ?_
      refine s_eql rfl rfl rfl ?_
      refine s_assign rfl rfl ?_
      refine WL_nil ?_
      refine n_then ?_
      refine W_cond rfl (fun hc21 => ?_) (fun hc21 => ?_)
      · skip
        refine W_region ?_
        refine s_move rfl rfl ?_
        refine s_fieldAddr rfl rfl (FA27_2 _ _) ?_
        (refine s_indexAddrA Try.underlying25 Try.sizeOf3 rfl rfl rfl ?hx ?_; case hx => (constructor <;> omega))
        first
          | refine s_storeB Try.sizeOf3 rfl rfl rfl hs (kk := 0) rfl rfl ?_
          | refine s_storeB Try.sizeOf3 rfl rfl rfl hs (kk := 1) rfl rfl ?_
        clear hs; intro w hs; try simp only [List.set_cons_zero, List.set_cons_succ, splice, List.take_succ_cons, List.take_zero, List.drop_succ_cons, List.drop_zero, List.nil_append, List.cons_append, List.length_cons, List.length_nil, Nat.reduceAdd, List.append_assoc] at hs
        refine WL_nil ?_
        refine n_blk ?_
        refine n_then ?_
        refine W_seq ?_
        refine W_region ?_
        first
          | refine s_loadW Try.isAgg27 Try.sizeOf27 rfl rfl hs (kk := 0) rfl rfl ?_
          | refine s_loadW Try.isAgg27 Try.sizeOf27 rfl rfl hs (kk := 1) rfl rfl ?_
          | refine s_load_12 Try.isAgg27 Try.sizeOf27 rfl rfl (by first | exact hs.cell (k := 0) rfl rfl | exact hs.cell (k := 1) rfl rfl) (by first | exact hs.cell (k := 0) rfl rfl | exact hs.cell (k := 1) rfl rfl) (by first | exact hs.cell (k := 0) rfl rfl | exact hs.cell (k := 1) rfl rfl) (by first | exact hs.cell (k := 0) rfl rfl | exact hs.cell (k := 1) rfl rfl) (by first | exact hs.cell (k := 0) rfl rfl | exact hs.cell (k := 1) rfl rfl) (by first | exact hs.cell (k := 0) rfl rfl | exact hs.cell (k := 1) rfl rfl) (by first | exact hs.cell (k := 0) rfl rfl | exact hs.cell (k := 1) rfl rfl) (by first | exact hs.cell (k := 0) rfl rfl | exact hs.cell (k := 1) rfl rfl) (by first | exact hs.cell (k := 0) rfl rfl | exact hs.cell (k := 1) rfl rfl) (by first | exact hs.cell (k := 0) rfl rfl | exact hs.cell (k := 1) rfl rfl) (by first | exact hs.cell (k := 0) rfl rfl | exact hs.cell (k := 1) rfl rfl) (by first | exact hs.cell (k := 0) rfl rfl | exact hs.cell (k := 1) rfl rfl) ?_
        first
          | refine s_storeW Try.sizeOf27 rfl rfl rfl rfl hs (kk := 0) rfl rfl ?_
          | refine s_storeW Try.sizeOf27 rfl rfl rfl rfl hs (kk := 1) rfl rfl ?_
          | refine s_storeAB Try.sizeOf27 rfl rfl rfl rfl hs (kk := 0) rfl rfl ?_
          | refine s_storeAB Try.sizeOf27 rfl rfl rfl rfl hs (kk := 1) rfl rfl ?_
        clear hs; intro w hs; try simp only [List.set_cons_zero, List.set_cons_succ, splice, List.take_succ_cons, List.take_zero, List.drop_succ_cons, List.drop_zero, List.nil_append, List.cons_append, List.length_cons, List.length_nil, Nat.reduceAdd, List.append_assoc] at hs
        refine WL_nil ?_
        refine n_then ?_
        refine W_ret ?_
        exact end1 rfl (resOk_block Try.isAgg27 Try.sizeOf27 hs rfl (kk := 0) rfl rfl) ⟨hs.fwd, ⟨_, _, _, _, _, _, _, _, _, _, _, _⟩, rfl, rfl⟩
      · skip
        refine W_seq ?_
        refine W_region ?_
        refine s_eql rfl rfl rfl ?_
        refine s_assign rfl rfl ?_
        refine WL_nil ?_
        refine n_then ?_
        refine W_cond rfl (fun hc26 => ?_) (fun hc26 => ?_)
        · skip
          refine W_region ?_
          refine s_move rfl rfl ?_
          refine s_fieldAddr rfl rfl (FA27_3 _ _) ?_
          first
            | refine s_storeB Try.sizeOf3 rfl rfl rfl hs (kk := 0) rfl rfl ?_
            | refine s_storeB Try.sizeOf3 rfl rfl rfl hs (kk := 1) rfl rfl ?_
          clear hs; intro w hs; try simp only [List.set_cons_zero, List.set_cons_succ, splice, List.take_succ_cons, List.take_zero, List.drop_succ_cons, List.drop_zero, List.nil_append, List.cons_append, List.length_cons, List.length_nil, Nat.reduceAdd, List.append_assoc] at hs
          refine WL_nil ?_
          refine n_blk ?_
          refine n_then ?_
          refine W_seq ?_
          refine W_region ?_
          first
            | refine s_loadW Try.isAgg27 Try.sizeOf27 rfl rfl hs (kk := 0) rfl rfl ?_
            | refine s_loadW Try.isAgg27 Try.sizeOf27 rfl rfl hs (kk := 1) rfl rfl ?_
            | refine s_load_12 Try.isAgg27 Try.sizeOf27 rfl rfl (by first | exact hs.cell (k := 0) rfl rfl | exact hs.cell (k := 1) rfl rfl) (by first | exact hs.cell (k := 0) rfl rfl | exact hs.cell (k := 1) rfl rfl) (by first | exact hs.cell (k := 0) rfl rfl | exact hs.cell (k := 1) rfl rfl) (by first | exact hs.cell (k := 0) rfl rfl | exact hs.cell (k := 1) rfl rfl) (by first | exact hs.cell (k := 0) rfl rfl | exact hs.cell (k := 1) rfl rfl) (by first | exact hs.cell (k := 0) rfl rfl | exact hs.cell (k := 1) rfl rfl) (by first | exact hs.cell (k := 0) rfl rfl | exact hs.cell (k := 1) rfl rfl) (by first | exact hs.cell (k := 0) rfl rfl | exact hs.cell (k := 1) rfl rfl) (by first | exact hs.cell (k := 0) rfl rfl | exact hs.cell (k := 1) rfl rfl) (by first | exact hs.cell (k := 0) rfl rfl | exact hs.cell (k := 1) rfl rfl) (by first | exact hs.cell (k := 0) rfl rfl | exact hs.cell (k := 1) rfl rfl) (by first | exact hs.cell (k := 0) rfl rfl | exact hs.cell (k := 1) rfl rfl) ?_
          first
            | refine s_storeW Try.sizeOf27 rfl rfl rfl rfl hs (kk := 0) rfl rfl ?_
            | refine s_storeW Try.sizeOf27 rfl rfl rfl rfl hs (kk := 1) rfl rfl ?_
            | refine s_storeAB Try.sizeOf27 rfl rfl rfl rfl hs (kk := 0) rfl rfl ?_
            | refine s_storeAB Try.sizeOf27 rfl rfl rfl rfl hs (kk := 1) rfl rfl ?_
          clear hs; intro w hs; try simp only [List.set_cons_zero, List.set_cons_succ, splice, List.take_succ_cons, List.take_zero, List.drop_succ_cons, List.drop_zero, List.nil_append, List.cons_append, List.length_cons, List.length_nil, Nat.reduceAdd, List.append_assoc] at hs
          refine WL_nil ?_
          refine n_then ?_
          refine W_ret ?_
          exact end1 rfl (resOk_block Try.isAgg27 Try.sizeOf27 hs rfl (kk := 0) rfl rfl) ⟨hs.fwd, ⟨_, _, _, _, _, _, _, _, _, _, _, _⟩, rfl, rfl⟩
        · skip
          refine W_seq ?_
          refine W_region ?_
          refine s_eql rfl rfl rfl ?_
          refine s_assign rfl rfl ?_
          refine WL_nil ?_
          refine n_then ?_
          refine W_cond rfl (fun hc30 => ?_) (fun hc30 => ?_)
          · skip
            refine W_region ?_
            refine s_move rfl rfl ?_
            refine s_fieldAddr rfl rfl (FA27_4 _ _) ?_
            first
              | refine s_storeB Try.sizeOf3 rfl rfl rfl hs (kk := 0) rfl rfl ?_
              | refine s_storeB Try.sizeOf3 rfl rfl rfl hs (kk := 1) rfl rfl ?_
            clear hs; intro w hs; try simp only [List.set_cons_zero, List.set_cons_succ, splice, List.take_succ_cons, List.take_zero, List.drop_succ_cons, List.drop_zero, List.nil_append, List.cons_append, List.length_cons, List.length_nil, Nat.reduceAdd, List.append_assoc] at hs
            refine WL_nil ?_
            refine n_blk ?_
            refine n_then ?_
            refine W_seq ?_
            refine W_region ?_
            first
              | refine s_loadW Try.isAgg27 Try.sizeOf27 rfl rfl hs (kk := 0) rfl rfl ?_
              | refine s_loadW Try.isAgg27 Try.sizeOf27 rfl rfl hs (kk := 1) rfl rfl ?_
              | refine s_load_12 Try.isAgg27 Try.sizeOf27 rfl rfl (by first | exact hs.cell (k := 0) rfl rfl | exact hs.cell (k := 1) rfl rfl) (by first | exact hs.cell (k := 0) rfl rfl | exact hs.cell (k := 1) rfl rfl) (by first | exact hs.cell (k := 0) rfl rfl | exact hs.cell (k := 1) rfl rfl) (by first | exact hs.cell (k := 0) rfl rfl | exact hs.cell (k := 1) rfl rfl) (by first | exact hs.cell (k := 0) rfl rfl | exact hs.cell (k := 1) rfl rfl) (by first | exact hs.cell (k := 0) rfl rfl | exact hs.cell (k := 1) rfl rfl) (by first | exact hs.cell (k := 0) rfl rfl | exact hs.cell (k := 1) rfl rfl) (by first | exact hs.cell (k := 0) rfl rfl | exact hs.cell (k := 1) rfl rfl) (by first | exact hs.cell (k := 0) rfl rfl | exact hs.cell (k := 1) rfl rfl) (by first | exact hs.cell (k := 0) rfl rfl | exact hs.cell (k := 1) rfl rfl) (by first | exact hs.cell (k := 0) rfl rfl | exact hs.cell (k := 1) rfl rfl) (by first | exact hs.cell (k := 0) rfl rfl | exact hs.cell (k := 1) rfl rfl) ?_
            first
              | refine s_storeW Try.sizeOf27 rfl rfl rfl rfl hs (kk := 0) rfl rfl ?_
              | refine s_storeW Try.sizeOf27 rfl rfl rfl rfl hs (kk := 1) rfl rfl ?_
              | refine s_storeAB Try.sizeOf27 rfl rfl rfl rfl hs (kk := 0) rfl rfl ?_
              | refine s_storeAB Try.sizeOf27 rfl rfl rfl rfl hs (kk := 1) rfl rfl ?_
            clear hs; intro w hs; try simp only [List.set_cons_zero, List.set_cons_succ, splice, List.take_succ_cons, List.take_zero, List.drop_succ_cons, List.drop_zero, List.nil_append, List.cons_append, List.length_cons, List.length_nil, Nat.reduceAdd, List.append_assoc] at hs
            refine WL_nil ?_
            refine n_then ?_
            refine W_ret ?_
            exact end1 rfl (resOk_block Try.isAgg27 Try.sizeOf27 hs rfl (kk := 0) rfl rfl) ⟨hs.fwd, ⟨_, _, _, _, _, _, _, _, _, _, _, _⟩, rfl, rfl⟩
          · skip
            refine W_seq ?_
            refine W_region ?_
            refine s_eql rfl rfl rfl ?_
            refine s_assign rfl rfl ?_
            refine WL_nil ?_
            refine n_then ?_
            refine W_cond rfl (fun hc34 => ?_) (fun hc34 => ?_)
            · skip
              refine W_region ?_
              refine s_move rfl rfl ?_
              refine s_fieldAddr rfl rfl (FA27_5 _ _) ?_
              first
                | refine s_storeB Try.sizeOf3 rfl rfl rfl hs (kk := 0) rfl rfl ?_
                | refine s_storeB Try.sizeOf3 rfl rfl rfl hs (kk := 1) rfl rfl ?_
              clear hs; intro w hs; try simp only [List.set_cons_zero, List.set_cons_succ, splice, List.take_succ_cons, List.take_zero, List.drop_succ_cons, List.drop_zero, List.nil_append, List.cons_append, List.length_cons, List.length_nil, Nat.reduceAdd, List.append_assoc] at hs
              refine WL_nil ?_
              refine n_blk ?_
              refine n_then ?_
              refine W_seq ?_
              refine W_region ?_
              first
                | refine s_loadW Try.isAgg27 Try.sizeOf27 rfl rfl hs (kk := 0) rfl rfl ?_
                | refine s_loadW Try.isAgg27 Try.sizeOf27 rfl rfl hs (kk := 1) rfl rfl ?_
                | refine s_load_12 Try.isAgg27 Try.sizeOf27 rfl rfl (by first | exact hs.cell (k := 0) rfl rfl | exact hs.cell (k := 1) rfl rfl) (by first | exact hs.cell (k := 0) rfl rfl | exact hs.cell (k := 1) rfl rfl) (by first | exact hs.cell (k := 0) rfl rfl | exact hs.cell (k := 1) rfl rfl) (by first | exact hs.cell (k := 0) rfl rfl | exact hs.cell (k := 1) rfl rfl) (by first | exact hs.cell (k := 0) rfl rfl | exact hs.cell (k := 1) rfl rfl) (by first | exact hs.cell (k := 0) rfl rfl | exact hs.cell (k := 1) rfl rfl) (by first | exact hs.cell (k := 0) rfl rfl | exact hs.cell (k := 1) rfl rfl) (by first | exact hs.cell (k := 0) rfl rfl | exact hs.cell (k := 1) rfl rfl) (by first | exact hs.cell (k := 0) rfl rfl | exact hs.cell (k := 1) rfl rfl) (by first | exact hs.cell (k := 0) rfl rfl | exact hs.cell (k := 1) rfl rfl) (by first | exact hs.cell (k := 0) rfl rfl | exact hs.cell (k := 1) rfl rfl) (by first | exact hs.cell (k := 0) rfl rfl | exact hs.cell (k := 1) rfl rfl) ?_
              first
                | refine s_storeW Try.sizeOf27 rfl rfl rfl rfl hs (kk := 0) rfl rfl ?_
                | refine s_storeW Try.sizeOf27 rfl rfl rfl rfl hs (kk := 1) rfl rfl ?_
                | refine s_storeAB Try.sizeOf27 rfl rfl rfl rfl hs (kk := 0) rfl rfl ?_
                | refine s_storeAB Try.sizeOf27 rfl rfl rfl rfl hs (kk := 1) rfl rfl ?_
              clear hs; intro w hs; try simp only [List.set_cons_zero, List.set_cons_succ, splice, List.take_succ_cons, List.take_zero, List.drop_succ_cons, List.drop_zero, List.nil_append, List.cons_append, List.length_cons, List.length_nil, Nat.reduceAdd, List.append_assoc] at hs
              refine WL_nil ?_
              refine n_then ?_
              refine W_ret ?_
              exact end1 rfl (resOk_block Try.isAgg27 Try.sizeOf27 hs rfl (kk := 0) rfl rfl) ⟨hs.fwd, ⟨_, _, _, _, _, _, _, _, _, _, _, _⟩, rfl, rfl⟩
            · skip
              refine W_seq ?_
              refine W_region ?_
              refine s_eql rfl rfl rfl ?_
              refine s_assign rfl rfl ?_
              refine WL_nil ?_
              refine n_then ?_
              refine W_cond rfl (fun hc38 => ?_) (fun hc38 => ?_)
              · skip
                refine W_region ?_
                refine s_move rfl rfl ?_
                refine s_fieldAddr rfl rfl (FA27_6 _ _) ?_
                first
                  | refine s_storeB Try.sizeOf3 rfl rfl rfl hs (kk := 0) rfl rfl ?_
                  | refine s_storeB Try.sizeOf3 rfl rfl rfl hs (kk := 1) rfl rfl ?_
                clear hs; intro w hs; try simp only [List.set_cons_zero, List.set_cons_succ, splice, List.take_succ_cons, List.take_zero, List.drop_succ_cons, List.drop_zero, List.nil_append, List.cons_append, List.length_cons, List.length_nil, Nat.reduceAdd, List.append_assoc] at hs
                refine WL_nil ?_
                refine n_blk ?_
                refine n_then ?_
                refine W_seq ?_
                refine W_region ?_
                first
                  | refine s_loadW Try.isAgg27 Try.sizeOf27 rfl rfl hs (kk := 0) rfl rfl ?_
                  | refine s_loadW Try.isAgg27 Try.sizeOf27 rfl rfl hs (kk := 1) rfl rfl ?_
                  | refine s_load_12 Try.isAgg27 Try.sizeOf27 rfl rfl (by first | exact hs.cell (k := 0) rfl rfl | exact hs.cell (k := 1) rfl rfl) (by first | exact hs.cell (k := 0) rfl rfl | exact hs.cell (k := 1) rfl rfl) (by first | exact hs.cell (k := 0) rfl rfl | exact hs.cell (k := 1) rfl rfl) (by first | exact hs.cell (k := 0) rfl rfl | exact hs.cell (k := 1) rfl rfl) (by first | exact hs.cell (k := 0) rfl rfl | exact hs.cell (k := 1) rfl rfl) (by first | exact hs.cell (k := 0) rfl rfl | exact hs.cell (k := 1) rfl rfl) (by first | exact hs.cell (k := 0) rfl rfl | exact hs.cell (k := 1) rfl rfl) (by first | exact hs.cell (k := 0) rfl rfl | exact hs.cell (k := 1) rfl rfl) (by first | exact hs.cell (k := 0) rfl rfl | exact hs.cell (k := 1) rfl rfl) (by first | exact hs.cell (k := 0) rfl rfl | exact hs.cell (k := 1) rfl rfl) (by first | exact hs.cell (k := 0) rfl rfl | exact hs.cell (k := 1) rfl rfl) (by first | exact hs.cell (k := 0) rfl rfl | exact hs.cell (k := 1) rfl rfl) ?_
                first
                  | refine s_storeW Try.sizeOf27 rfl rfl rfl rfl hs (kk := 0) rfl rfl ?_
                  | refine s_storeW Try.sizeOf27 rfl rfl rfl rfl hs (kk := 1) rfl rfl ?_
                  | refine s_storeAB Try.sizeOf27 rfl rfl rfl rfl hs (kk := 0) rfl rfl ?_
                  | refine s_storeAB Try.sizeOf27 rfl rfl rfl rfl hs (kk := 1) rfl rfl ?_
                clear hs; intro w hs; try simp only [List.set_cons_zero, List.set_cons_succ, splice, List.take_succ_cons, List.take_zero, List.drop_succ_cons, List.drop_zero, List.nil_append, List.cons_append, List.length_cons, List.length_nil, Nat.reduceAdd, List.append_assoc] at hs
                refine WL_nil ?_
                refine n_then ?_
                refine W_ret ?_
                exact end1 rfl (resOk_block Try.isAgg27 Try.sizeOf27 hs rfl (kk := 0) rfl rfl) ⟨hs.fwd, ⟨_, _, _, _, _, _, _, _, _, _, _, _⟩, rfl, rfl⟩
              · skip
                refine W_seq ?_
                refine W_region ?_
                refine s_eql rfl rfl rfl ?_
                refine s_assign rfl rfl ?_
                refine WL_nil ?_
                refine n_then ?_
                refine W_cond rfl (fun hc42 => ?_) (fun hc42 => ?_)
                · skip
                  refine W_region ?_
                  refine s_move rfl rfl ?_
                  refine s_fieldAddr rfl rfl (FA27_7 _ _) ?_
                  first
                    | refine s_storeB Try.sizeOf3 rfl rfl rfl hs (kk := 0) rfl rfl ?_
                    | refine s_storeB Try.sizeOf3 rfl rfl rfl hs (kk := 1) rfl rfl ?_
                  clear hs; intro w hs; try simp only [List.set_cons_zero, List.set_cons_succ, splice, List.take_succ_cons, List.take_zero, List.drop_succ_cons, List.drop_zero, List.nil_append, List.cons_append, List.length_cons, List.length_nil, Nat.reduceAdd, List.append_assoc] at hs
                  refine WL_nil ?_
                  refine n_blk ?_
                  refine n_then ?_
                  refine W_seq ?_
                  refine W_region ?_
                  first
                    | refine s_loadW Try.isAgg27 Try.sizeOf27 rfl rfl hs (kk := 0) rfl rfl ?_
                    | refine s_loadW Try.isAgg27 Try.sizeOf27 rfl rfl hs (kk := 1) rfl rfl ?_
                    | refine s_load_12 Try.isAgg27 Try.sizeOf27 rfl rfl (by first | exact hs.cell (k := 0) rfl rfl | exact hs.cell (k := 1) rfl rfl) (by first | exact hs.cell (k := 0) rfl rfl | exact hs.cell (k := 1) rfl rfl) (by first | exact hs.cell (k := 0) rfl rfl | exact hs.cell (k := 1) rfl rfl) (by first | exact hs.cell (k := 0) rfl rfl | exact hs.cell (k := 1) rfl rfl) (by first | exact hs.cell (k := 0) rfl rfl | exact hs.cell (k := 1) rfl rfl) (by first | exact hs.cell (k := 0) rfl rfl | exact hs.cell (k := 1) rfl rfl) (by first | exact hs.cell (k := 0) rfl rfl | exact hs.cell (k := 1) rfl rfl) (by first | exact hs.cell (k := 0) rfl rfl | exact hs.cell (k := 1) rfl rfl) (by first | exact hs.cell (k := 0) rfl rfl | exact hs.cell (k := 1) rfl rfl) (by first | exact hs.cell (k := 0) rfl rfl | exact hs.cell (k := 1) rfl rfl) (by first | exact hs.cell (k := 0) rfl rfl | exact hs.cell (k := 1) rfl rfl) (by first | exact hs.cell (k := 0) rfl rfl | exact hs.cell (k := 1) rfl rfl) ?_
                  first
                    | refine s_storeW Try.sizeOf27 rfl rfl rfl rfl hs (kk := 0) rfl rfl ?_
                    | refine s_storeW Try.sizeOf27 rfl rfl rfl rfl hs (kk := 1) rfl rfl ?_
                    | refine s_storeAB Try.sizeOf27 rfl rfl rfl rfl hs (kk := 0) rfl rfl ?_
                    | refine s_storeAB Try.sizeOf27 rfl rfl rfl rfl hs (kk := 1) rfl rfl ?_
                  clear hs; intro w hs; try simp only [List.set_cons_zero, List.set_cons_succ, splice, List.take_succ_cons, List.take_zero, List.drop_succ_cons, List.drop_zero, List.nil_append, List.cons_append, List.length_cons, List.length_nil, Nat.reduceAdd, List.append_assoc] at hs
                  refine WL_nil ?_
                  refine n_then ?_
                  refine W_ret ?_
                  exact end1 rfl (resOk_block Try.isAgg27 Try.sizeOf27 hs rfl (kk := 0) rfl rfl) ⟨hs.fwd, ⟨_, _, _, _, _, _, _, _, _, _, _, _⟩, rfl, rfl⟩
                · skip
                  refine W_seq ?_
                  refine W_region ?_
                  refine s_eql rfl rfl rfl ?_
                  refine s_assign rfl rfl ?_
                  refine WL_nil ?_
                  refine n_then ?_
                  refine W_cond rfl (fun hc46 => ?_) (fun hc46 => ?_)
                  · skip
                    refine W_region ?_
                    refine s_move rfl rfl ?_
                    refine s_fieldAddr rfl rfl (FA27_8 _ _) ?_
                    first
                      | refine s_storeB Try.sizeOf3 rfl rfl rfl hs (kk := 0) rfl rfl ?_
                      | refine s_storeB Try.sizeOf3 rfl rfl rfl hs (kk := 1) rfl rfl ?_
                    clear hs; intro w hs; try simp only [List.set_cons_zero, List.set_cons_succ, splice, List.take_succ_cons, List.take_zero, List.drop_succ_cons, List.drop_zero, List.nil_append, List.cons_append, List.length_cons, List.length_nil, Nat.reduceAdd, List.append_assoc] at hs
                    refine WL_nil ?_
                    refine n_blk ?_
                    refine n_then ?_
                    refine W_seq ?_
                    refine W_region ?_
                    first
                      | refine s_loadW Try.isAgg27 Try.sizeOf27 rfl rfl hs (kk := 0) rfl rfl ?_
                      | refine s_loadW Try.isAgg27 Try.sizeOf27 rfl rfl hs (kk := 1) rfl rfl ?_
                      | refine s_load_12 Try.isAgg27 Try.sizeOf27 rfl rfl (by first | exact hs.cell (k := 0) rfl rfl | exact hs.cell (k := 1) rfl rfl) (by first | exact hs.cell (k := 0) rfl rfl | exact hs.cell (k := 1) rfl rfl) (by first | exact hs.cell (k := 0) rfl rfl | exact hs.cell (k := 1) rfl rfl) (by first | exact hs.cell (k := 0) rfl rfl | exact hs.cell (k := 1) rfl rfl) (by first | exact hs.cell (k := 0) rfl rfl | exact hs.cell (k := 1) rfl rfl) (by first | exact hs.cell (k := 0) rfl rfl | exact hs.cell (k := 1) rfl rfl) (by first | exact hs.cell (k := 0) rfl rfl | exact hs.cell (k := 1) rfl rfl) (by first | exact hs.cell (k := 0) rfl rfl | exact hs.cell (k := 1) rfl rfl) (by first | exact hs.cell (k := 0) rfl rfl | exact hs.cell (k := 1) rfl rfl) (by first | exact hs.cell (k := 0) rfl rfl | exact hs.cell (k := 1) rfl rfl) (by first | exact hs.cell (k := 0) rfl rfl | exact hs.cell (k := 1) rfl rfl) (by first | exact hs.cell (k := 0) rfl rfl | exact hs.cell (k := 1) rfl rfl) ?_
                    first
                      | refine s_storeW Try.sizeOf27 rfl rfl rfl rfl hs (kk := 0) rfl rfl ?_
                      | refine s_storeW Try.sizeOf27 rfl rfl rfl rfl hs (kk := 1) rfl rfl ?_
                      | refine s_storeAB Try.sizeOf27 rfl rfl rfl rfl hs (kk := 0) rfl rfl ?_
                      | refine s_storeAB Try.sizeOf27 rfl rfl rfl rfl hs (kk := 1) rfl rfl ?_
                    clear hs; intro w hs; try simp only [List.set_cons_zero, List.set_cons_succ, splice, List.take_succ_cons, List.take_zero, List.drop_succ_cons, List.drop_zero, List.nil_append, List.cons_append, List.length_cons, List.length_nil, Nat.reduceAdd, List.append_assoc] at hs
                    refine WL_nil ?_
                    refine n_then ?_
                    refine W_ret ?_
                    exact end1 rfl (resOk_block Try.isAgg27 Try.sizeOf27 hs rfl (kk := 0) rfl rfl) ⟨hs.fwd, ⟨_, _, _, _, _, _, _, _, _, _, _, _⟩, rfl, rfl⟩
                  · skip
                    refine W_region ?_
                    refine s_move rfl rfl ?_
                    refine s_fieldAddr rfl rfl (FA27_9 _ _) ?_
                    first
                      | refine s_storeB Try.sizeOf3 rfl rfl rfl hs (kk := 0) rfl rfl ?_
                      | refine s_storeB Try.sizeOf3 rfl rfl rfl hs (kk := 1) rfl rfl ?_
                    clear hs; intro w hs; try simp only [List.set_cons_zero, List.set_cons_succ, splice, List.take_succ_cons, List.take_zero, List.drop_succ_cons, List.drop_zero, List.nil_append, List.cons_append, List.length_cons, List.length_nil, Nat.reduceAdd, List.append_assoc] at hs
                    refine WL_nil ?_
                    refine n_blk ?_
                    refine n_then ?_
                    refine W_seq ?_
                    refine W_region ?_
                    first
                      | refine s_loadW Try.isAgg27 Try.sizeOf27 rfl rfl hs (kk := 0) rfl rfl ?_
                      | refine s_loadW Try.isAgg27 Try.sizeOf27 rfl rfl hs (kk := 1) rfl rfl ?_
                      | refine s_load_12 Try.isAgg27 Try.sizeOf27 rfl rfl (by first | exact hs.cell (k := 0) rfl rfl | exact hs.cell (k := 1) rfl rfl) (by first | exact hs.cell (k := 0) rfl rfl | exact hs.cell (k := 1) rfl rfl) (by first | exact hs.cell (k := 0) rfl rfl | exact hs.cell (k := 1) rfl rfl) (by first | exact hs.cell (k := 0) rfl rfl | exact hs.cell (k := 1) rfl rfl) (by first | exact hs.cell (k := 0) rfl rfl | exact hs.cell (k := 1) rfl rfl) (by first | exact hs.cell (k := 0) rfl rfl | exact hs.cell (k := 1) rfl rfl) (by first | exact hs.cell (k := 0) rfl rfl | exact hs.cell (k := 1) rfl rfl) (by first | exact hs.cell (k := 0) rfl rfl | exact hs.cell (k := 1) rfl rfl) (by first | exact hs.cell (k := 0) rfl rfl | exact hs.cell (k := 1) rfl rfl) (by first | exact hs.cell (k := 0) rfl rfl | exact hs.cell (k := 1) rfl rfl) (by first | exact hs.cell (k := 0) rfl rfl | exact hs.cell (k := 1) rfl rfl) (by first | exact hs.cell (k := 0) rfl rfl | exact hs.cell (k := 1) rfl rfl) ?_
                    first
                      | refine s_storeW Try.sizeOf27 rfl rfl rfl rfl hs (kk := 0) rfl rfl ?_
                      | refine s_storeW Try.sizeOf27 rfl rfl rfl rfl hs (kk := 1) rfl rfl ?_
                      | refine s_storeAB Try.sizeOf27 rfl rfl rfl rfl hs (kk := 0) rfl rfl ?_
                      | refine s_storeAB Try.sizeOf27 rfl rfl rfl rfl hs (kk := 1) rfl rfl ?_
                    clear hs; intro w hs; try simp only [List.set_cons_zero, List.set_cons_succ, splice, List.take_succ_cons, List.take_zero, List.drop_succ_cons, List.drop_zero, List.nil_append, List.cons_append, List.length_cons, List.length_nil, Nat.reduceAdd, List.append_assoc] at hs
                    refine WL_nil ?_
                    refine n_then ?_
                    refine W_ret ?_
                    exact end1 rfl (resOk_block Try.isAgg27 Try.sizeOf27 hs rfl (kk := 0) rfl rfl) ⟨hs.fwd, ⟨_, _, _, _, _, _, _, _, _, _, _, _⟩, rfl, rfl⟩
theorem lb_take : ∀ (os : List Lb) (k : Nat), (lbcells os).take (k * 2) = lbcells (os.take k)
  | _, 0 => by simp
  | [], _ + 1 => by simp [lbcells]
  | x :: os, k + 1 => by
    rw [show (k + 1) * 2 = k * 2 + 2 by omega]
    simpa [lbcells, lbC] using lb_take os k
set_option maxHeartbeats 1000000 in
theorem fewLb_ok (d : De) (ls : List Lb) (w0 : World) (hv : Sl w0 d.lv ls.length (lbcells ls)) : Ret Try.prog 12 [.agg d.vals.toArray].toArray w0 fun r w' => ∃ (d' : De) (Lr : Hp), r = .agg d'.vals.toArray ∧ OwnS 51 2 d'.lv (ls.take 10).length (lbcells (ls.take 10)) Lr ∧ St [] w0 w' Lr := by
  obtain ⟨name, lv, u0, u1, u2, lo, hi, dn, up, fi, la, bu⟩ := d
  simp only at hv
  obtain ⟨va, vc, rfl, hvc⟩ := hv.len_le
  refine Ret_start fun w hs => ?_
  simp only [De.vals]
  refine Ret_of Try.func12 rfl Try.ntmps12 rfl ?_
  refine W_seq ?_
  refine W_region ?_
  first | refine s_box rfl rfl hs ?_ | refine s_box1 rfl rfl rfl hs ?_
  clear hs; intro b1 w hs
  refine s_alloc rfl AL27 hs ?_; clear hs; intro b2 w hs
  refine WL_nil ?_
  refine n_then ?_
  refine W_seq ?_
  refine W_region ?_
  refine s_buildSlice rfl rfl (BS23_0 ) hs ?_; clear hs; intro b3 w hs
  refine s_fieldAddr rfl rfl (FA27_1 _ _) ?_
  first
    | refine s_load Try.isAgg23 rfl rfl (hs.cell (k := 0) rfl rfl) ?_
    | refine s_load Try.isAgg23 rfl rfl (hs.cell (k := 1) rfl rfl) ?_
    | refine s_load Try.isAgg23 rfl rfl (hs.cell (k := 2) rfl rfl) ?_
    | refine s_load Try.isAgg23 rfl rfl (hs.cell (k := 3) rfl rfl) ?_
  refine s_fieldAddr rfl rfl (FA27_1 _ _) ?_
  first
    | refine s_load Try.isAgg23 rfl rfl (hs.cell (k := 0) rfl rfl) ?_
    | refine s_load Try.isAgg23 rfl rfl (hs.cell (k := 1) rfl rfl) ?_
    | refine s_load Try.isAgg23 rfl rfl (hs.cell (k := 2) rfl rfl) ?_
    | refine s_load Try.isAgg23 rfl rfl (hs.cell (k := 3) rfl rfl) ?_
  refine s_len rfl rfl (LN23 _ _ _ _) ?_
  refine s_min rfl rfl rfl ?_
  rw [show (if (10 : Int) < (ls.length : Int) then (10 : Int) else (ls.length : Int)) = (((ls.take 10).length : Nat) : Int) by rw [List.length_take]; split <;> omega]
  have hml : (ls.take 10).length ≤ ls.length ∧ (ls.take 10).length ≤ 10 := by rw [List.length_take]; omega
  (refine s_slice_hi El23 rfl rfl rfl ?hx ?_; case hx => (constructor <;> omega))
  rw [show (((ls.take 10).length : Nat) : Int).toNat = (ls.take 10).length by omega]
  have htk := (hv.fwd0 hs.fwd).take (k := (ls.take 10).length) (size := 2) hml.1 rfl
  rw [lb_take, show ls.take (ls.take 10).length = ls.take 10 by rw [List.length_take]; exact List.take_eq_take_min.symm] at htk
  refine s_appendM (M := [_, _, _]) (X := []) El23 rfl rfl rfl (OwnS.bare _ _ _) (by simp only [List.append_nil]; exact hs) htk (flat_length lbC_length _) (fun c hc => lb_one hc) (by omega) ?_
  clear hs; intro v' w Lv' hO' hs
  simp only [List.cons_append, List.nil_append, List.append_nil, Nat.zero_add] at hs hO'
  obtain ⟨_, tc, ta, rfl, rfl⟩ := hO'.form
  refine s_fieldAddr rfl rfl (FA27_1 _ _) ?_
  first
    | refine s_storeB Try.sizeOf23 rfl rfl rfl hs (kk := 0) rfl rfl ?_
    | refine s_storeB Try.sizeOf23 rfl rfl rfl hs (kk := 1) rfl rfl ?_
    | refine s_storeB Try.sizeOf23 rfl rfl rfl hs (kk := 2) rfl rfl ?_
    | refine s_storeB Try.sizeOf23 rfl rfl rfl hs (kk := 3) rfl rfl ?_
  clear hs; intro w hs; try simp only [List.set_cons_zero, List.set_cons_succ, splice, List.take_succ_cons, List.take_zero, List.drop_succ_cons, List.drop_zero, List.nil_append, List.cons_append, List.length_cons, List.length_nil, Nat.reduceAdd, List.append_assoc] at hs
  refine WL_nil ?_
  refine n_then ?_
  refine W_seq ?_
  refine W_region ?_
  first
    | refine s_loadW Try.isAgg27 Try.sizeOf27 rfl rfl hs (kk := 0) rfl rfl ?_
    | refine s_loadW Try.isAgg27 Try.sizeOf27 rfl rfl hs (kk := 1) rfl rfl ?_
    | refine s_loadW Try.isAgg27 Try.sizeOf27 rfl rfl hs (kk := 2) rfl rfl ?_
    | refine s_loadW Try.isAgg27 Try.sizeOf27 rfl rfl hs (kk := 3) rfl rfl ?_
    | refine s_load_12 Try.isAgg27 Try.sizeOf27 rfl rfl (by first | exact hs.cell (k := 0) rfl rfl | exact hs.cell (k := 1) rfl rfl | exact hs.cell (k := 2) rfl rfl | exact hs.cell (k := 3) rfl rfl) (by first | exact hs.cell (k := 0) rfl rfl | exact hs.cell (k := 1) rfl rfl | exact hs.cell (k := 2) rfl rfl | exact hs.cell (k := 3) rfl rfl) (by first | exact hs.cell (k := 0) rfl rfl | exact hs.cell (k := 1) rfl rfl | exact hs.cell (k := 2) rfl rfl | exact hs.cell (k := 3) rfl rfl) (by first | exact hs.cell (k := 0) rfl rfl | exact hs.cell (k := 1) rfl rfl | exact hs.cell (k := 2) rfl rfl | exact hs.cell (k := 3) rfl rfl) (by first | exact hs.cell (k := 0) rfl rfl | exact hs.cell (k := 1) rfl rfl | exact hs.cell (k := 2) rfl rfl | exact hs.cell (k := 3) rfl rfl) (by first | exact hs.cell (k := 0) rfl rfl | exact hs.cell (k := 1) rfl rfl | exact hs.cell (k := 2) rfl rfl | exact hs.cell (k := 3) rfl rfl) (by first | exact hs.cell (k := 0) rfl rfl | exact hs.cell (k := 1) rfl rfl | exact hs.cell (k := 2) rfl rfl | exact hs.cell (k := 3) rfl rfl) (by first | exact hs.cell (k := 0) rfl rfl | exact hs.cell (k := 1) rfl rfl | exact hs.cell (k := 2) rfl rfl | exact hs.cell (k := 3) rfl rfl) (by first | exact hs.cell (k := 0) rfl rfl | exact hs.cell (k := 1) rfl rfl | exact hs.cell (k := 2) rfl rfl | exact hs.cell (k := 3) rfl rfl) (by first | exact hs.cell (k := 0) rfl rfl | exact hs.cell (k := 1) rfl rfl | exact hs.cell (k := 2) rfl rfl | exact hs.cell (k := 3) rfl rfl) (by first | exact hs.cell (k := 0) rfl rfl | exact hs.cell (k := 1) rfl rfl | exact hs.cell (k := 2) rfl rfl | exact hs.cell (k := 3) rfl rfl) (by first | exact hs.cell (k := 0) rfl rfl | exact hs.cell (k := 1) rfl rfl | exact hs.cell (k := 2) rfl rfl | exact hs.cell (k := 3) rfl rfl) ?_
  first
    | refine s_storeW Try.sizeOf27 rfl rfl rfl rfl hs (kk := 0) rfl rfl ?_
    | refine s_storeW Try.sizeOf27 rfl rfl rfl rfl hs (kk := 1) rfl rfl ?_
    | refine s_storeW Try.sizeOf27 rfl rfl rfl rfl hs (kk := 2) rfl rfl ?_
    | refine s_storeW Try.sizeOf27 rfl rfl rfl rfl hs (kk := 3) rfl rfl ?_
    | refine s_storeAB Try.sizeOf27 rfl rfl rfl rfl hs (kk := 0) rfl rfl ?_
    | refine s_storeAB Try.sizeOf27 rfl rfl rfl rfl hs (kk := 1) rfl rfl ?_
    | refine s_storeAB Try.sizeOf27 rfl rfl rfl rfl hs (kk := 2) rfl rfl ?_
    | refine s_storeAB Try.sizeOf27 rfl rfl rfl rfl hs (kk := 3) rfl rfl ?_
  clear hs; intro w hs; try simp only [List.set_cons_zero, List.set_cons_succ, splice, List.take_succ_cons, List.take_zero, List.drop_succ_cons, List.drop_zero, List.nil_append, List.cons_append, List.length_cons, List.length_nil, Nat.reduceAdd, List.append_assoc] at hs
  refine WL_nil ?_
  refine n_then ?_
  refine W_ret ?_
  exact end1 rfl (resOk_block Try.isAgg27 Try.sizeOf27 hs rfl (kk := 1) rfl rfl) ⟨⟨_, _, _, _, _, _, _, _, _, _, _, _⟩, _, rfl, hO', St.right (M := [_, _, _]) hs⟩
theorem De.vals_one {d : De} (h : ∃ a k c, d.lv = .slice a k c) : d.vals.all Value.oneCell' = true := by
  obtain ⟨a, k, c, h⟩ := h
  simp [De.vals, h, Value.oneCell']
set_option maxHeartbeats 2000000 in
theorem declValidLaw_ok (v : Value) (xs : List Int) (n m : Int) (d3 : De) (l3 : List Lb) (w0 : World) (hv : Sl w0 v xs.length (i64s xs)) (hx : ∀ z ∈ xs, isI64 z) (hn : isI64 n) (h3 : Sl w0 d3.lv l3.length (lbcells l3)) :
    Ret Try.prog 3 [v, .int .i64 n, .int .i64 m, .agg d3.vals.toArray].toArray w0 fun r w' => Fwd [] w0 w' ∧ r = .bool true := by
  obtain ⟨a3, c3, hv3, _⟩ := h3.len_le
  refine Ret_start fun w hs => ?_
  refine Ret_of Try.func3 rfl Try.ntmps3 rfl ?_
  refine W_seq ?_
  refine W_region ?_
  first | refine s_box rfl rfl hs ?_ | refine s_box1 rfl rfl rfl hs ?_
  clear hs; intro b7 w hs
  refine s_assign rfl rfl ?_
  refine WL_nil ?_
  refine n_then ?_
  refine W_seq ?_
  refine W_region ?_
  refine s_move rfl rfl ?_
  refine s_call Try.call10 rfl rfl (declGen_ok v xs w (hv.fwd0 hs.fwd) hx) ?_
  rintro r w ⟨d0, ls, Lr, rfl, hG, hO, hl, -, -, hst⟩
  replace hs := (St.back0 hs hst).swap
  simp only [List.cons_append, List.nil_append] at hs
  clear hst
  have hlv0 : ∃ a k c, d0.lv = .slice a k c := by obtain ⟨x, y, z, h, _⟩ := hO.form; exact ⟨_, _, _, h⟩
  have hone0 := De.vals_one hlv0
  refine s_alloc rfl AL27 hs ?_; clear hs; intro b9 w hs
  refine s_storeW Try.sizeOf27 rfl rfl hone0 rfl hs (kk := 0) rfl rfl ?_
  clear hs; intro w hs; simp only [List.set_cons_zero] at hs
  refine WL_nil ?_
  refine n_then ?_
  refine W_seq ?_
  refine W_region ?_
  first
    | refine s_loadW Try.isAgg27 Try.sizeOf27 rfl rfl hs (kk := 0) rfl rfl ?_
    | refine s_loadW Try.isAgg27 Try.sizeOf27 rfl rfl hs (kk := 1) rfl rfl ?_
    | refine s_loadW Try.isAgg27 Try.sizeOf27 rfl rfl hs (kk := 2) rfl rfl ?_
    | refine s_loadW Try.isAgg27 Try.sizeOf27 rfl rfl hs (kk := 3) rfl rfl ?_
    | refine s_load_12 Try.isAgg27 Try.sizeOf27 rfl rfl (by first | exact hs.cell (k := 0) rfl rfl | exact hs.cell (k := 1) rfl rfl | exact hs.cell (k := 2) rfl rfl | exact hs.cell (k := 3) rfl rfl) (by first | exact hs.cell (k := 0) rfl rfl | exact hs.cell (k := 1) rfl rfl | exact hs.cell (k := 2) rfl rfl | exact hs.cell (k := 3) rfl rfl) (by first | exact hs.cell (k := 0) rfl rfl | exact hs.cell (k := 1) rfl rfl | exact hs.cell (k := 2) rfl rfl | exact hs.cell (k := 3) rfl rfl) (by first | exact hs.cell (k := 0) rfl rfl | exact hs.cell (k := 1) rfl rfl | exact hs.cell (k := 2) rfl rfl | exact hs.cell (k := 3) rfl rfl) (by first | exact hs.cell (k := 0) rfl rfl | exact hs.cell (k := 1) rfl rfl | exact hs.cell (k := 2) rfl rfl | exact hs.cell (k := 3) rfl rfl) (by first | exact hs.cell (k := 0) rfl rfl | exact hs.cell (k := 1) rfl rfl | exact hs.cell (k := 2) rfl rfl | exact hs.cell (k := 3) rfl rfl) (by first | exact hs.cell (k := 0) rfl rfl | exact hs.cell (k := 1) rfl rfl | exact hs.cell (k := 2) rfl rfl | exact hs.cell (k := 3) rfl rfl) (by first | exact hs.cell (k := 0) rfl rfl | exact hs.cell (k := 1) rfl rfl | exact hs.cell (k := 2) rfl rfl | exact hs.cell (k := 3) rfl rfl) (by first | exact hs.cell (k := 0) rfl rfl | exact hs.cell (k := 1) rfl rfl | exact hs.cell (k := 2) rfl rfl | exact hs.cell (k := 3) rfl rfl) (by first | exact hs.cell (k := 0) rfl rfl | exact hs.cell (k := 1) rfl rfl | exact hs.cell (k := 2) rfl rfl | exact hs.cell (k := 3) rfl rfl) (by first | exact hs.cell (k := 0) rfl rfl | exact hs.cell (k := 1) rfl rfl | exact hs.cell (k := 2) rfl rfl | exact hs.cell (k := 3) rfl rfl) (by first | exact hs.cell (k := 0) rfl rfl | exact hs.cell (k := 1) rfl rfl | exact hs.cell (k := 2) rfl rfl | exact hs.cell (k := 3) rfl rfl) ?_
  refine s_move rfl rfl ?_
  refine s_move rfl rfl ?_
  refine s_call Try.call11 rfl rfl (bent_ok d0 n m w hn hlv0) ?_
  rintro r w ⟨hst, d1, rfl, hd1⟩
  replace hs := hs.fwd1 hst
  clear hst
  have hone1 := De.vals_one (d := d1) (by rw [hd1]; exact hlv0)
  refine s_alloc rfl AL27 hs ?_; clear hs; intro b10 w hs
  refine s_storeW Try.sizeOf27 rfl rfl hone1 rfl hs (kk := 0) rfl rfl ?_
  clear hs; intro w hs; simp only [List.set_cons_zero] at hs
  refine WL_nil ?_
  refine n_then ?_
  refine W_seq ?_
  refine W_region ?_
  first
    | refine s_loadW Try.isAgg27 Try.sizeOf27 rfl rfl hs (kk := 0) rfl rfl ?_
    | refine s_loadW Try.isAgg27 Try.sizeOf27 rfl rfl hs (kk := 1) rfl rfl ?_
    | refine s_loadW Try.isAgg27 Try.sizeOf27 rfl rfl hs (kk := 2) rfl rfl ?_
    | refine s_loadW Try.isAgg27 Try.sizeOf27 rfl rfl hs (kk := 3) rfl rfl ?_
    | refine s_load_12 Try.isAgg27 Try.sizeOf27 rfl rfl (by first | exact hs.cell (k := 0) rfl rfl | exact hs.cell (k := 1) rfl rfl | exact hs.cell (k := 2) rfl rfl | exact hs.cell (k := 3) rfl rfl) (by first | exact hs.cell (k := 0) rfl rfl | exact hs.cell (k := 1) rfl rfl | exact hs.cell (k := 2) rfl rfl | exact hs.cell (k := 3) rfl rfl) (by first | exact hs.cell (k := 0) rfl rfl | exact hs.cell (k := 1) rfl rfl | exact hs.cell (k := 2) rfl rfl | exact hs.cell (k := 3) rfl rfl) (by first | exact hs.cell (k := 0) rfl rfl | exact hs.cell (k := 1) rfl rfl | exact hs.cell (k := 2) rfl rfl | exact hs.cell (k := 3) rfl rfl) (by first | exact hs.cell (k := 0) rfl rfl | exact hs.cell (k := 1) rfl rfl | exact hs.cell (k := 2) rfl rfl | exact hs.cell (k := 3) rfl rfl) (by first | exact hs.cell (k := 0) rfl rfl | exact hs.cell (k := 1) rfl rfl | exact hs.cell (k := 2) rfl rfl | exact hs.cell (k := 3) rfl rfl) (by first | exact hs.cell (k := 0) rfl rfl | exact hs.cell (k := 1) rfl rfl | exact hs.cell (k := 2) rfl rfl | exact hs.cell (k := 3) rfl rfl) (by first | exact hs.cell (k := 0) rfl rfl | exact hs.cell (k := 1) rfl rfl | exact hs.cell (k := 2) rfl rfl | exact hs.cell (k := 3) rfl rfl) (by first | exact hs.cell (k := 0) rfl rfl | exact hs.cell (k := 1) rfl rfl | exact hs.cell (k := 2) rfl rfl | exact hs.cell (k := 3) rfl rfl) (by first | exact hs.cell (k := 0) rfl rfl | exact hs.cell (k := 1) rfl rfl | exact hs.cell (k := 2) rfl rfl | exact hs.cell (k := 3) rfl rfl) (by first | exact hs.cell (k := 0) rfl rfl | exact hs.cell (k := 1) rfl rfl | exact hs.cell (k := 2) rfl rfl | exact hs.cell (k := 3) rfl rfl) (by first | exact hs.cell (k := 0) rfl rfl | exact hs.cell (k := 1) rfl rfl | exact hs.cell (k := 2) rfl rfl | exact hs.cell (k := 3) rfl rfl) ?_
  refine s_call Try.call12 rfl rfl (fewLb_ok d3 l3 w (h3.fwd0 hs.fwd)) ?_
  rintro r w ⟨d2, Lf, rfl, hO2, hst⟩
  replace hs := (St.back0 hs hst).swap
  simp only [List.cons_append, List.nil_append] at hs
  clear hst
  have hone2 := De.vals_one (d := d2) (by obtain ⟨x, y, z, h, _⟩ := hO2.form; exact ⟨_, _, _, h⟩)
  refine s_alloc rfl AL27 hs ?_; clear hs; intro b11 w hs
  refine s_storeW Try.sizeOf27 rfl rfl hone2 rfl hs (kk := 0) rfl rfl ?_
  clear hs; intro w hs; simp only [List.set_cons_zero] at hs
  refine WL_nil ?_
  refine n_then ?_
  refine W_seq ?_
  refine W_draw [(0, true, []), (1, false, []), (2, true, []), (3, true, []), (4, true, []), (6, true, []), (5, false, [6]), (7, false, []), (8, true, []), (9, true, []), (10, true, []), (11, true, []), (13, true, []), (12, false, [13]), (14, false, []), (15, true, []), (16, true, []), (17, true, []), (18, false, []), (19, true, []), (20, true, [])] [[], [0], [0, 1], [0, 1, 2], [0, 1, 2, 3], [0, 1, 2, 3, 4], [0, 1, 2, 3], [0, 1, 2, 3, 4, 5, 6], [0, 1, 2, 3, 4, 5, 6, 7], [0, 1, 2, 3, 4, 5, 6, 7, 8], [0, 1, 2, 3, 4, 5, 6, 7, 8, 9], [0, 1, 2, 3, 4, 5, 6, 7, 8, 9, 10], [0, 1, 2, 3, 4, 5, 6, 7, 8, 9, 10, 11], [0, 1, 2, 3, 4, 5, 6, 7, 8, 9, 10], [0, 1, 2, 3, 4, 5, 6, 7, 8, 9, 10, 11, 12, 13], [0, 1, 2, 3, 4, 5, 6, 7, 8, 9, 10, 11, 12, 13, 14], [0, 1, 2, 3, 4, 5, 6, 7, 8, 9, 10, 11, 12, 13, 14, 15], [0, 1, 2, 3, 4, 5, 6, 7, 8, 9, 10, 11, 12, 13, 14, 15, 16], [0, 1, 2, 3, 4, 5, 6, 7, 8, 9, 10, 11, 12, 13, 14, 15, 16, 17], [0, 1, 2, 3, 4, 5, 6, 7, 8, 9, 10, 11, 12, 13, 14, 15, 16, 17, 18], [0, 1, 2, 3, 4, 5, 6, 7, 8, 9, 10, 11, 12, 13, 14, 15, 16, 17, 18, 19]] MX (by kernel_rfl) ?_
  intro w1 hw1 hw2 hw3 hw4; replace hs := hs.redrawn hw1 hw2 hw3 hw4; clear hw1 hw2 hw3 hw4
  obtain ⟨w, rfl⟩ : ∃ w : World, w = w1 := ⟨_, rfl⟩
  refine D_q rfl rfl ?_
  first
    | refine s_loadW Try.isAgg27 Try.sizeOf27 rfl rfl hs (kk := 0) rfl rfl ?_
    | refine s_loadW Try.isAgg27 Try.sizeOf27 rfl rfl hs (kk := 1) rfl rfl ?_
    | refine s_loadW Try.isAgg27 Try.sizeOf27 rfl rfl hs (kk := 2) rfl rfl ?_
    | refine s_loadW Try.isAgg27 Try.sizeOf27 rfl rfl hs (kk := 3) rfl rfl ?_
    | refine s_load_12 Try.isAgg27 Try.sizeOf27 rfl rfl (by first | exact hs.cell (k := 0) rfl rfl | exact hs.cell (k := 1) rfl rfl | exact hs.cell (k := 2) rfl rfl | exact hs.cell (k := 3) rfl rfl) (by first | exact hs.cell (k := 0) rfl rfl | exact hs.cell (k := 1) rfl rfl | exact hs.cell (k := 2) rfl rfl | exact hs.cell (k := 3) rfl rfl) (by first | exact hs.cell (k := 0) rfl rfl | exact hs.cell (k := 1) rfl rfl | exact hs.cell (k := 2) rfl rfl | exact hs.cell (k := 3) rfl rfl) (by first | exact hs.cell (k := 0) rfl rfl | exact hs.cell (k := 1) rfl rfl | exact hs.cell (k := 2) rfl rfl | exact hs.cell (k := 3) rfl rfl) (by first | exact hs.cell (k := 0) rfl rfl | exact hs.cell (k := 1) rfl rfl | exact hs.cell (k := 2) rfl rfl | exact hs.cell (k := 3) rfl rfl) (by first | exact hs.cell (k := 0) rfl rfl | exact hs.cell (k := 1) rfl rfl | exact hs.cell (k := 2) rfl rfl | exact hs.cell (k := 3) rfl rfl) (by first | exact hs.cell (k := 0) rfl rfl | exact hs.cell (k := 1) rfl rfl | exact hs.cell (k := 2) rfl rfl | exact hs.cell (k := 3) rfl rfl) (by first | exact hs.cell (k := 0) rfl rfl | exact hs.cell (k := 1) rfl rfl | exact hs.cell (k := 2) rfl rfl | exact hs.cell (k := 3) rfl rfl) (by first | exact hs.cell (k := 0) rfl rfl | exact hs.cell (k := 1) rfl rfl | exact hs.cell (k := 2) rfl rfl | exact hs.cell (k := 3) rfl rfl) (by first | exact hs.cell (k := 0) rfl rfl | exact hs.cell (k := 1) rfl rfl | exact hs.cell (k := 2) rfl rfl | exact hs.cell (k := 3) rfl rfl) (by first | exact hs.cell (k := 0) rfl rfl | exact hs.cell (k := 1) rfl rfl | exact hs.cell (k := 2) rfl rfl | exact hs.cell (k := 3) rfl rfl) (by first | exact hs.cell (k := 0) rfl rfl | exact hs.cell (k := 1) rfl rfl | exact hs.cell (k := 2) rfl rfl | exact hs.cell (k := 3) rfl rfl) ?_
  refine D_qn ?_
  refine D_e rfl ?_
  refine s_call Try.call13 rfl rfl (declValid_ok d0 ls w (OwnS_slIn hO fun x hx => hs.own x (by simp [hx]))) ?_
  rintro r w ⟨hst, e, rfl, he⟩
  replace hs := hs.fwd1 hst
  clear hst
  rw [he.eq (hG.valid hl)]
  refine D_en ?re ?_
  case re =>
    exact Reks_nil
  refine D_q rfl rfl ?_
  refine s_eql rfl rfl rfl ?_
  refine D_qn ?_
  refine D_q rfl rfl ?_
  refine s_move rfl rfl ?_
  refine WL_know (s := 23) (c := true) rfl ((by simp)) ?_
  refine D_qn ?_
  refine D_q rfl rfl ?_
  refine WL_take rfl ?_
  first
    | refine s_loadW Try.isAgg27 Try.sizeOf27 rfl rfl hs (kk := 0) rfl rfl ?_
    | refine s_loadW Try.isAgg27 Try.sizeOf27 rfl rfl hs (kk := 1) rfl rfl ?_
    | refine s_loadW Try.isAgg27 Try.sizeOf27 rfl rfl hs (kk := 2) rfl rfl ?_
    | refine s_loadW Try.isAgg27 Try.sizeOf27 rfl rfl hs (kk := 3) rfl rfl ?_
    | refine s_load_12 Try.isAgg27 Try.sizeOf27 rfl rfl (by first | exact hs.cell (k := 0) rfl rfl | exact hs.cell (k := 1) rfl rfl | exact hs.cell (k := 2) rfl rfl | exact hs.cell (k := 3) rfl rfl) (by first | exact hs.cell (k := 0) rfl rfl | exact hs.cell (k := 1) rfl rfl | exact hs.cell (k := 2) rfl rfl | exact hs.cell (k := 3) rfl rfl) (by first | exact hs.cell (k := 0) rfl rfl | exact hs.cell (k := 1) rfl rfl | exact hs.cell (k := 2) rfl rfl | exact hs.cell (k := 3) rfl rfl) (by first | exact hs.cell (k := 0) rfl rfl | exact hs.cell (k := 1) rfl rfl | exact hs.cell (k := 2) rfl rfl | exact hs.cell (k := 3) rfl rfl) (by first | exact hs.cell (k := 0) rfl rfl | exact hs.cell (k := 1) rfl rfl | exact hs.cell (k := 2) rfl rfl | exact hs.cell (k := 3) rfl rfl) (by first | exact hs.cell (k := 0) rfl rfl | exact hs.cell (k := 1) rfl rfl | exact hs.cell (k := 2) rfl rfl | exact hs.cell (k := 3) rfl rfl) (by first | exact hs.cell (k := 0) rfl rfl | exact hs.cell (k := 1) rfl rfl | exact hs.cell (k := 2) rfl rfl | exact hs.cell (k := 3) rfl rfl) (by first | exact hs.cell (k := 0) rfl rfl | exact hs.cell (k := 1) rfl rfl | exact hs.cell (k := 2) rfl rfl | exact hs.cell (k := 3) rfl rfl) (by first | exact hs.cell (k := 0) rfl rfl | exact hs.cell (k := 1) rfl rfl | exact hs.cell (k := 2) rfl rfl | exact hs.cell (k := 3) rfl rfl) (by first | exact hs.cell (k := 0) rfl rfl | exact hs.cell (k := 1) rfl rfl | exact hs.cell (k := 2) rfl rfl | exact hs.cell (k := 3) rfl rfl) (by first | exact hs.cell (k := 0) rfl rfl | exact hs.cell (k := 1) rfl rfl | exact hs.cell (k := 2) rfl rfl | exact hs.cell (k := 3) rfl rfl) (by first | exact hs.cell (k := 0) rfl rfl | exact hs.cell (k := 1) rfl rfl | exact hs.cell (k := 2) rfl rfl | exact hs.cell (k := 3) rfl rfl) ?_
  refine D_qn ?_
  refine D_q rfl rfl ?_
  refine WL_take rfl ?_
  first
    | refine s_loadW Try.isAgg27 Try.sizeOf27 rfl rfl hs (kk := 0) rfl rfl ?_
    | refine s_loadW Try.isAgg27 Try.sizeOf27 rfl rfl hs (kk := 1) rfl rfl ?_
    | refine s_loadW Try.isAgg27 Try.sizeOf27 rfl rfl hs (kk := 2) rfl rfl ?_
    | refine s_loadW Try.isAgg27 Try.sizeOf27 rfl rfl hs (kk := 3) rfl rfl ?_
    | refine s_load_12 Try.isAgg27 Try.sizeOf27 rfl rfl (by first | exact hs.cell (k := 0) rfl rfl | exact hs.cell (k := 1) rfl rfl | exact hs.cell (k := 2) rfl rfl | exact hs.cell (k := 3) rfl rfl) (by first | exact hs.cell (k := 0) rfl rfl | exact hs.cell (k := 1) rfl rfl | exact hs.cell (k := 2) rfl rfl | exact hs.cell (k := 3) rfl rfl) (by first | exact hs.cell (k := 0) rfl rfl | exact hs.cell (k := 1) rfl rfl | exact hs.cell (k := 2) rfl rfl | exact hs.cell (k := 3) rfl rfl) (by first | exact hs.cell (k := 0) rfl rfl | exact hs.cell (k := 1) rfl rfl | exact hs.cell (k := 2) rfl rfl | exact hs.cell (k := 3) rfl rfl) (by first | exact hs.cell (k := 0) rfl rfl | exact hs.cell (k := 1) rfl rfl | exact hs.cell (k := 2) rfl rfl | exact hs.cell (k := 3) rfl rfl) (by first | exact hs.cell (k := 0) rfl rfl | exact hs.cell (k := 1) rfl rfl | exact hs.cell (k := 2) rfl rfl | exact hs.cell (k := 3) rfl rfl) (by first | exact hs.cell (k := 0) rfl rfl | exact hs.cell (k := 1) rfl rfl | exact hs.cell (k := 2) rfl rfl | exact hs.cell (k := 3) rfl rfl) (by first | exact hs.cell (k := 0) rfl rfl | exact hs.cell (k := 1) rfl rfl | exact hs.cell (k := 2) rfl rfl | exact hs.cell (k := 3) rfl rfl) (by first | exact hs.cell (k := 0) rfl rfl | exact hs.cell (k := 1) rfl rfl | exact hs.cell (k := 2) rfl rfl | exact hs.cell (k := 3) rfl rfl) (by first | exact hs.cell (k := 0) rfl rfl | exact hs.cell (k := 1) rfl rfl | exact hs.cell (k := 2) rfl rfl | exact hs.cell (k := 3) rfl rfl) (by first | exact hs.cell (k := 0) rfl rfl | exact hs.cell (k := 1) rfl rfl | exact hs.cell (k := 2) rfl rfl | exact hs.cell (k := 3) rfl rfl) (by first | exact hs.cell (k := 0) rfl rfl | exact hs.cell (k := 1) rfl rfl | exact hs.cell (k := 2) rfl rfl | exact hs.cell (k := 3) rfl rfl) ?_
  refine D_qn ?_
  refine D_e rfl ?_
  refine WL_take rfl ?_
  refine s_call Try.call13 rfl rfl (declValid_ok d1 ls w (by rw [hd1]; exact OwnS_slIn hO fun x hx => hs.own x (by simp [hx]))) ?_
  rintro r w ⟨hst, e1, rfl, he1⟩
  replace hs := hs.fwd1 hst
  clear hst
  refine D_en ?re ?_
  case re =>
    refine Reks_cons rfl rfl rfl rfl ?_ ?_
    · skip
      refine WL_take rfl ?_
      first
        | refine s_loadW Try.isAgg27 Try.sizeOf27 rfl rfl hs (kk := 0) rfl rfl ?_
        | refine s_loadW Try.isAgg27 Try.sizeOf27 rfl rfl hs (kk := 1) rfl rfl ?_
        | refine s_loadW Try.isAgg27 Try.sizeOf27 rfl rfl hs (kk := 2) rfl rfl ?_
        | refine s_loadW Try.isAgg27 Try.sizeOf27 rfl rfl hs (kk := 3) rfl rfl ?_
        | refine s_load_12 Try.isAgg27 Try.sizeOf27 rfl rfl (by first | exact hs.cell (k := 0) rfl rfl | exact hs.cell (k := 1) rfl rfl | exact hs.cell (k := 2) rfl rfl | exact hs.cell (k := 3) rfl rfl) (by first | exact hs.cell (k := 0) rfl rfl | exact hs.cell (k := 1) rfl rfl | exact hs.cell (k := 2) rfl rfl | exact hs.cell (k := 3) rfl rfl) (by first | exact hs.cell (k := 0) rfl rfl | exact hs.cell (k := 1) rfl rfl | exact hs.cell (k := 2) rfl rfl | exact hs.cell (k := 3) rfl rfl) (by first | exact hs.cell (k := 0) rfl rfl | exact hs.cell (k := 1) rfl rfl | exact hs.cell (k := 2) rfl rfl | exact hs.cell (k := 3) rfl rfl) (by first | exact hs.cell (k := 0) rfl rfl | exact hs.cell (k := 1) rfl rfl | exact hs.cell (k := 2) rfl rfl | exact hs.cell (k := 3) rfl rfl) (by first | exact hs.cell (k := 0) rfl rfl | exact hs.cell (k := 1) rfl rfl | exact hs.cell (k := 2) rfl rfl | exact hs.cell (k := 3) rfl rfl) (by first | exact hs.cell (k := 0) rfl rfl | exact hs.cell (k := 1) rfl rfl | exact hs.cell (k := 2) rfl rfl | exact hs.cell (k := 3) rfl rfl) (by first | exact hs.cell (k := 0) rfl rfl | exact hs.cell (k := 1) rfl rfl | exact hs.cell (k := 2) rfl rfl | exact hs.cell (k := 3) rfl rfl) (by first | exact hs.cell (k := 0) rfl rfl | exact hs.cell (k := 1) rfl rfl | exact hs.cell (k := 2) rfl rfl | exact hs.cell (k := 3) rfl rfl) (by first | exact hs.cell (k := 0) rfl rfl | exact hs.cell (k := 1) rfl rfl | exact hs.cell (k := 2) rfl rfl | exact hs.cell (k := 3) rfl rfl) (by first | exact hs.cell (k := 0) rfl rfl | exact hs.cell (k := 1) rfl rfl | exact hs.cell (k := 2) rfl rfl | exact hs.cell (k := 3) rfl rfl) (by first | exact hs.cell (k := 0) rfl rfl | exact hs.cell (k := 1) rfl rfl | exact hs.cell (k := 2) rfl rfl | exact hs.cell (k := 3) rfl rfl) ?_
      exact Rek_end rfl
    exact Reks_nil
  refine D_e rfl ?_
  refine WL_take rfl ?_
  refine s_call Try.call14 rfl rfl (fValid10_ok d1 ls w (by rw [hd1]; exact OwnS_slIn hO fun x hx => hs.own x (by simp [hx]))) ?_
  rintro r w ⟨hst, f1, rfl, hf1⟩
  replace hs := hs.fwd1 hst
  clear hst
  rw [hf1.eq he1]
  refine D_en ?re ?_
  case re =>
    exact Reks_nil
  refine D_q rfl rfl ?_
  refine WL_take rfl ?_
  refine s_eql rfl rfl rfl ?_
  refine D_qn ?_
  refine D_q rfl rfl ?_
  refine s_pick_t rfl rfl rfl ?_
  refine D_qn ?_
  refine D_q rfl rfl ?_
  refine s_move rfl rfl ?_
  refine WL_know (s := 30) (c := true) rfl ((by simp)) ?_
  refine D_qn ?_
  refine D_q rfl rfl ?_
  refine WL_take rfl ?_
  first
    | refine s_loadW Try.isAgg27 Try.sizeOf27 rfl rfl hs (kk := 0) rfl rfl ?_
    | refine s_loadW Try.isAgg27 Try.sizeOf27 rfl rfl hs (kk := 1) rfl rfl ?_
    | refine s_loadW Try.isAgg27 Try.sizeOf27 rfl rfl hs (kk := 2) rfl rfl ?_
    | refine s_loadW Try.isAgg27 Try.sizeOf27 rfl rfl hs (kk := 3) rfl rfl ?_
    | refine s_load_12 Try.isAgg27 Try.sizeOf27 rfl rfl (by first | exact hs.cell (k := 0) rfl rfl | exact hs.cell (k := 1) rfl rfl | exact hs.cell (k := 2) rfl rfl | exact hs.cell (k := 3) rfl rfl) (by first | exact hs.cell (k := 0) rfl rfl | exact hs.cell (k := 1) rfl rfl | exact hs.cell (k := 2) rfl rfl | exact hs.cell (k := 3) rfl rfl) (by first | exact hs.cell (k := 0) rfl rfl | exact hs.cell (k := 1) rfl rfl | exact hs.cell (k := 2) rfl rfl | exact hs.cell (k := 3) rfl rfl) (by first | exact hs.cell (k := 0) rfl rfl | exact hs.cell (k := 1) rfl rfl | exact hs.cell (k := 2) rfl rfl | exact hs.cell (k := 3) rfl rfl) (by first | exact hs.cell (k := 0) rfl rfl | exact hs.cell (k := 1) rfl rfl | exact hs.cell (k := 2) rfl rfl | exact hs.cell (k := 3) rfl rfl) (by first | exact hs.cell (k := 0) rfl rfl | exact hs.cell (k := 1) rfl rfl | exact hs.cell (k := 2) rfl rfl | exact hs.cell (k := 3) rfl rfl) (by first | exact hs.cell (k := 0) rfl rfl | exact hs.cell (k := 1) rfl rfl | exact hs.cell (k := 2) rfl rfl | exact hs.cell (k := 3) rfl rfl) (by first | exact hs.cell (k := 0) rfl rfl | exact hs.cell (k := 1) rfl rfl | exact hs.cell (k := 2) rfl rfl | exact hs.cell (k := 3) rfl rfl) (by first | exact hs.cell (k := 0) rfl rfl | exact hs.cell (k := 1) rfl rfl | exact hs.cell (k := 2) rfl rfl | exact hs.cell (k := 3) rfl rfl) (by first | exact hs.cell (k := 0) rfl rfl | exact hs.cell (k := 1) rfl rfl | exact hs.cell (k := 2) rfl rfl | exact hs.cell (k := 3) rfl rfl) (by first | exact hs.cell (k := 0) rfl rfl | exact hs.cell (k := 1) rfl rfl | exact hs.cell (k := 2) rfl rfl | exact hs.cell (k := 3) rfl rfl) (by first | exact hs.cell (k := 0) rfl rfl | exact hs.cell (k := 1) rfl rfl | exact hs.cell (k := 2) rfl rfl | exact hs.cell (k := 3) rfl rfl) ?_
  refine D_qn ?_
  refine D_q rfl rfl ?_
  refine WL_take rfl ?_
  first
    | refine s_loadW Try.isAgg27 Try.sizeOf27 rfl rfl hs (kk := 0) rfl rfl ?_
    | refine s_loadW Try.isAgg27 Try.sizeOf27 rfl rfl hs (kk := 1) rfl rfl ?_
    | refine s_loadW Try.isAgg27 Try.sizeOf27 rfl rfl hs (kk := 2) rfl rfl ?_
    | refine s_loadW Try.isAgg27 Try.sizeOf27 rfl rfl hs (kk := 3) rfl rfl ?_
    | refine s_load_12 Try.isAgg27 Try.sizeOf27 rfl rfl (by first | exact hs.cell (k := 0) rfl rfl | exact hs.cell (k := 1) rfl rfl | exact hs.cell (k := 2) rfl rfl | exact hs.cell (k := 3) rfl rfl) (by first | exact hs.cell (k := 0) rfl rfl | exact hs.cell (k := 1) rfl rfl | exact hs.cell (k := 2) rfl rfl | exact hs.cell (k := 3) rfl rfl) (by first | exact hs.cell (k := 0) rfl rfl | exact hs.cell (k := 1) rfl rfl | exact hs.cell (k := 2) rfl rfl | exact hs.cell (k := 3) rfl rfl) (by first | exact hs.cell (k := 0) rfl rfl | exact hs.cell (k := 1) rfl rfl | exact hs.cell (k := 2) rfl rfl | exact hs.cell (k := 3) rfl rfl) (by first | exact hs.cell (k := 0) rfl rfl | exact hs.cell (k := 1) rfl rfl | exact hs.cell (k := 2) rfl rfl | exact hs.cell (k := 3) rfl rfl) (by first | exact hs.cell (k := 0) rfl rfl | exact hs.cell (k := 1) rfl rfl | exact hs.cell (k := 2) rfl rfl | exact hs.cell (k := 3) rfl rfl) (by first | exact hs.cell (k := 0) rfl rfl | exact hs.cell (k := 1) rfl rfl | exact hs.cell (k := 2) rfl rfl | exact hs.cell (k := 3) rfl rfl) (by first | exact hs.cell (k := 0) rfl rfl | exact hs.cell (k := 1) rfl rfl | exact hs.cell (k := 2) rfl rfl | exact hs.cell (k := 3) rfl rfl) (by first | exact hs.cell (k := 0) rfl rfl | exact hs.cell (k := 1) rfl rfl | exact hs.cell (k := 2) rfl rfl | exact hs.cell (k := 3) rfl rfl) (by first | exact hs.cell (k := 0) rfl rfl | exact hs.cell (k := 1) rfl rfl | exact hs.cell (k := 2) rfl rfl | exact hs.cell (k := 3) rfl rfl) (by first | exact hs.cell (k := 0) rfl rfl | exact hs.cell (k := 1) rfl rfl | exact hs.cell (k := 2) rfl rfl | exact hs.cell (k := 3) rfl rfl) (by first | exact hs.cell (k := 0) rfl rfl | exact hs.cell (k := 1) rfl rfl | exact hs.cell (k := 2) rfl rfl | exact hs.cell (k := 3) rfl rfl) ?_
  refine D_qn ?_
  refine D_e rfl ?_
  refine WL_take rfl ?_
  refine s_call Try.call13 rfl rfl (declValid_ok d2 (l3.take 10) w (OwnS_slIn hO2 fun x hx => hs.own x (by simp [hx]))) ?_
  rintro r w ⟨hst, e2, rfl, he2⟩
  replace hs := hs.fwd1 hst
  clear hst
  refine D_en ?re ?_
  case re =>
    refine Reks_cons rfl rfl rfl rfl ?_ ?_
    · skip
      refine WL_take rfl ?_
      first
        | refine s_loadW Try.isAgg27 Try.sizeOf27 rfl rfl hs (kk := 0) rfl rfl ?_
        | refine s_loadW Try.isAgg27 Try.sizeOf27 rfl rfl hs (kk := 1) rfl rfl ?_
        | refine s_loadW Try.isAgg27 Try.sizeOf27 rfl rfl hs (kk := 2) rfl rfl ?_
        | refine s_loadW Try.isAgg27 Try.sizeOf27 rfl rfl hs (kk := 3) rfl rfl ?_
        | refine s_load_12 Try.isAgg27 Try.sizeOf27 rfl rfl (by first | exact hs.cell (k := 0) rfl rfl | exact hs.cell (k := 1) rfl rfl | exact hs.cell (k := 2) rfl rfl | exact hs.cell (k := 3) rfl rfl) (by first | exact hs.cell (k := 0) rfl rfl | exact hs.cell (k := 1) rfl rfl | exact hs.cell (k := 2) rfl rfl | exact hs.cell (k := 3) rfl rfl) (by first | exact hs.cell (k := 0) rfl rfl | exact hs.cell (k := 1) rfl rfl | exact hs.cell (k := 2) rfl rfl | exact hs.cell (k := 3) rfl rfl) (by first | exact hs.cell (k := 0) rfl rfl | exact hs.cell (k := 1) rfl rfl | exact hs.cell (k := 2) rfl rfl | exact hs.cell (k := 3) rfl rfl) (by first | exact hs.cell (k := 0) rfl rfl | exact hs.cell (k := 1) rfl rfl | exact hs.cell (k := 2) rfl rfl | exact hs.cell (k := 3) rfl rfl) (by first | exact hs.cell (k := 0) rfl rfl | exact hs.cell (k := 1) rfl rfl | exact hs.cell (k := 2) rfl rfl | exact hs.cell (k := 3) rfl rfl) (by first | exact hs.cell (k := 0) rfl rfl | exact hs.cell (k := 1) rfl rfl | exact hs.cell (k := 2) rfl rfl | exact hs.cell (k := 3) rfl rfl) (by first | exact hs.cell (k := 0) rfl rfl | exact hs.cell (k := 1) rfl rfl | exact hs.cell (k := 2) rfl rfl | exact hs.cell (k := 3) rfl rfl) (by first | exact hs.cell (k := 0) rfl rfl | exact hs.cell (k := 1) rfl rfl | exact hs.cell (k := 2) rfl rfl | exact hs.cell (k := 3) rfl rfl) (by first | exact hs.cell (k := 0) rfl rfl | exact hs.cell (k := 1) rfl rfl | exact hs.cell (k := 2) rfl rfl | exact hs.cell (k := 3) rfl rfl) (by first | exact hs.cell (k := 0) rfl rfl | exact hs.cell (k := 1) rfl rfl | exact hs.cell (k := 2) rfl rfl | exact hs.cell (k := 3) rfl rfl) (by first | exact hs.cell (k := 0) rfl rfl | exact hs.cell (k := 1) rfl rfl | exact hs.cell (k := 2) rfl rfl | exact hs.cell (k := 3) rfl rfl) ?_
      exact Rek_end rfl
    exact Reks_nil
  refine D_e rfl ?_
  refine WL_take rfl ?_
  refine s_call Try.call14 rfl rfl (fValid10_ok d2 (l3.take 10) w (OwnS_slIn hO2 fun x hx => hs.own x (by simp [hx]))) ?_
  rintro r w ⟨hst, f2, rfl, hf2⟩
  replace hs := hs.fwd1 hst
  clear hst
  rw [hf2.eq he2]
  refine D_en ?re ?_
  case re =>
    exact Reks_nil
  refine D_q rfl rfl ?_
  refine WL_take rfl ?_
  refine s_eql rfl rfl rfl ?_
  refine D_qn ?_
  refine D_q rfl rfl ?_
  refine s_pick_t rfl rfl rfl ?_
  refine D_qn ?_
  refine D_q rfl rfl ?_
  refine s_move rfl rfl ?_
  refine WL_know (s := 37) (c := true) rfl ((by simp)) ?_
  refine D_qn ?_
  refine D_e rfl ?_
  refine WL_take rfl ?_
  refine s_call Try.call15 rfl rfl (lives_ok w) ?_
  rintro r w ⟨hst, rfl⟩
  replace hs := hs.fwd1 hst
  clear hst
  refine D_en ?re ?_
  case re =>
    exact Reks_nil
  refine D_q rfl rfl ?_
  refine s_pick_t rfl rfl rfl ?_
  refine D_qn ?_
  refine D_q rfl rfl ?_
  refine s_assign rfl rfl ?_
  refine D_qn ?_
  refine D_nil ?_
  refine n_then ?_
  refine W_ret ?_
  exact end1 rfl rfl ⟨hs.fwd, rfl⟩
end Go.Proofs.Ytmjjdcfakkaiiaa
