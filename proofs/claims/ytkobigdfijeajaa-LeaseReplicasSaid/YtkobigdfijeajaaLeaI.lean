/- The reference's table of leases: Grant, Apply; entries: Same, Bent, plain; lists of byte slices. -/
import Derived.Test.YtkobigdfijeajaaLeaH
set_option linter.unusedVariables false
set_option linter.unusedSimpArgs false
namespace Go.Proofs.Ytkobigdfijeajaa
open Go.SL
/-! entries -/
theorem plain_ok (g : Bool) (x : Lz) (a : Option Addr) (n c : Nat) (w0 : World) :
    Ret Try.prog 62 [.agg #[.bool g, .string x.rule, .int .i64 x.holder, .int .i64 x.token, .int .i64 x.til, .slice a n c]].toArray w0 fun r w' => Fwd [] w0 w' ∧ r = .agg #[.bool g, .string x.rule, .int .i64 x.holder, .int .i64 x.token, .int .i64 x.til, .slice a n c] := by
  refine Ret_start fun w hs => ?_
  refine Ret_of Try.func62 rfl Try.ntmps62 rfl ?_
  refine W_seq ?_
  refine W_region ?_
  first | refine s_box rfl rfl hs ?_
  clear hs; intro b1 w hs
  refine s_alloc rfl AL52 hs ?_; clear hs; intro b2 w hs
  refine WL_nil ?_
  refine n_then ?_
  refine W_seq ?_
  refine W_region ?_
  refine s_fieldAddr rfl rfl (FA35_0 _ _) ?_
  first
    | refine s_load Try.isAgg4 rfl rfl (hs.cell (k := 1) rfl rfl) ?_
  refine s_fieldAddr rfl rfl (FA35_1 _ _) ?_
  first
    | refine s_load_4 Try.isAgg33 Try.sizeOf33 rfl rfl (by first | exact hs.cell (k := 0) rfl rfl | exact hs.cell (k := 1) rfl rfl | exact hs.cell (k := 2) rfl rfl) (by first | exact hs.cell (k := 0) rfl rfl | exact hs.cell (k := 1) rfl rfl | exact hs.cell (k := 2) rfl rfl) (by first | exact hs.cell (k := 0) rfl rfl | exact hs.cell (k := 1) rfl rfl | exact hs.cell (k := 2) rfl rfl) (by first | exact hs.cell (k := 0) rfl rfl | exact hs.cell (k := 1) rfl rfl | exact hs.cell (k := 2) rfl rfl) ?_
  refine s_fieldAddr rfl rfl (FA35_2 _ _) ?_
  first
    | refine s_load Try.isAgg22 rfl rfl (hs.cell (k := 1) rfl rfl) ?_
  refine s_build rfl rfl (BD52_0_1_2 _ _ _ _ _ _ _ _) ?_
  first
    | refine s_storeW Try.sizeOf52 rfl rfl rfl rfl hs (kk := 0) rfl rfl ?_
  clear hs; intro w hs; try simp only [List.set_cons_zero, List.set_cons_succ, splice, List.take_succ_cons, List.take_zero, List.drop_succ_cons, List.drop_zero, List.nil_append, List.cons_append, List.length_cons, List.length_nil, Nat.reduceAdd, List.append_assoc] at hs
  refine WL_nil ?_
  refine n_then ?_
  refine W_ret ?_
  refine end1 rfl (resOk_block Try.isAgg52 Try.sizeOf52 hs rfl (kk := 0) rfl rfl) ?_
  exact ⟨hs.fwd, rfl⟩
theorem same_ok (g h : Bool) (x y : Lz) (va vb : Value) (bs cs : List Int) (w0 : World) (ha : Sl w0 va bs.length (u8s bs)) (hb : Sl w0 vb cs.length (u8s cs)) (hl : bs.length ≤ 4611686018427387904) :
    Ret Try.prog 63 [.agg #[.bool g, .string x.rule, .int .i64 x.holder, .int .i64 x.token, .int .i64 x.til, va], .agg #[.bool h, .string y.rule, .int .i64 y.holder, .int .i64 y.token, .int .i64 y.til, vb]].toArray w0 fun r w' => Fwd [] w0 w' ∧ r = .bool (decide (g = h ∧ x = y ∧ bs = cs)) := by
  obtain ⟨aa, ac, rfl, _⟩ := ha.len_le
  obtain ⟨ba, bc, rfl, _⟩ := hb.len_le
  refine Ret_start fun w hs => ?_
  refine Ret_of Try.func63 rfl Try.ntmps63 rfl ?_
  refine W_seq ?_
  refine W_region ?_
  first | refine s_box rfl rfl hs ?_
  clear hs; intro b2 w hs
  first | refine s_box rfl rfl hs ?_
  clear hs; intro b3 w hs
  refine s_assign rfl rfl ?_
  refine WL_nil ?_
  refine n_then ?_
  refine W_seq ?_
  refine W_region ?_
  refine s_fieldAddr rfl rfl (FA52_0 _ _) ?_
  first
    | refine s_load Try.isAgg4 rfl rfl (hs.cell (k := 1) rfl rfl) ?_
  refine s_fieldAddr rfl rfl (FA52_0 _ _) ?_
  first
    | refine s_load Try.isAgg4 rfl rfl (hs.cell (k := 0) rfl rfl) ?_
  refine s_eql_bool Try.underlying4 rfl rfl rfl ?_
  refine s_move rfl rfl ?_
  refine WL_case (s := 10) rfl (fun hg10 => ?_) (fun hg10 => ?_)
  · skip
    try simp only [decide_eq_true_eq, decide_eq_false_iff_not, beq_iff_eq, beq_eq_false_iff_ne, ne_eq] at hg10
    refine WL_take rfl ?_
    refine s_fieldAddr rfl rfl (FA52_1 _ _) ?_
    refine WL_take rfl ?_
    first
      | refine s_load_4 Try.isAgg33 Try.sizeOf33 rfl rfl (by first | exact hs.cell (k := 0) rfl rfl | exact hs.cell (k := 1) rfl rfl | exact hs.cell (k := 2) rfl rfl) (by first | exact hs.cell (k := 0) rfl rfl | exact hs.cell (k := 1) rfl rfl | exact hs.cell (k := 2) rfl rfl) (by first | exact hs.cell (k := 0) rfl rfl | exact hs.cell (k := 1) rfl rfl | exact hs.cell (k := 2) rfl rfl) (by first | exact hs.cell (k := 0) rfl rfl | exact hs.cell (k := 1) rfl rfl | exact hs.cell (k := 2) rfl rfl) ?_
    refine WL_take rfl ?_
    refine s_fieldAddr rfl rfl (FA52_1 _ _) ?_
    refine WL_take rfl ?_
    first
      | refine s_load_4 Try.isAgg33 Try.sizeOf33 rfl rfl (by first | exact hs.cell (k := 0) rfl rfl | exact hs.cell (k := 1) rfl rfl | exact hs.cell (k := 2) rfl rfl) (by first | exact hs.cell (k := 0) rfl rfl | exact hs.cell (k := 1) rfl rfl | exact hs.cell (k := 2) rfl rfl) (by first | exact hs.cell (k := 0) rfl rfl | exact hs.cell (k := 1) rfl rfl | exact hs.cell (k := 2) rfl rfl) (by first | exact hs.cell (k := 0) rfl rfl | exact hs.cell (k := 1) rfl rfl | exact hs.cell (k := 2) rfl rfl) ?_
    refine WL_take rfl ?_
    refine s_eql_agg EG33 rfl rfl rfl (SE33 _ _ _ _ _ _ _ _) ?_
    refine s_pick_t rfl rfl rfl ?_
    refine s_move rfl rfl ?_
    refine WL_case (s := 17) rfl (fun hg17 => ?_) (fun hg17 => ?_)
    · skip
      try simp only [decide_eq_true_eq, decide_eq_false_iff_not, beq_iff_eq, beq_eq_false_iff_ne, ne_eq] at hg17
      refine WL_take rfl ?_
      refine s_fieldAddr rfl rfl (FA52_2 _ _) ?_
      refine WL_take rfl ?_
      first
        | refine s_load Try.isAgg22 rfl rfl (hs.cell (k := 1) rfl rfl) ?_
      refine WL_take rfl ?_
      refine s_fieldAddr rfl rfl (FA52_2 _ _) ?_
      refine WL_take rfl ?_
      first
        | refine s_load Try.isAgg22 rfl rfl (hs.cell (k := 0) rfl rfl) ?_
      refine WL_take rfl ?_
      refine s_call Try.call17 rfl rfl (sameBytes_ok _ _ bs cs w (ha.fwd0 hs.fwd) (hb.fwd0 hs.fwd) hl) ?_
      rintro r w ⟨hst, rfl⟩
      replace hs := hs.fwd1 hst
      clear hst
      refine s_pick_t rfl rfl rfl ?_
      refine s_assign rfl rfl ?_
      refine WL_nil ?_
      refine n_then ?_
      refine W_ret ?_
      refine end1 rfl rfl ⟨hs.fwd, congrArg Value.bool ?_⟩
      first
        | (have hxy : x = y := by cases x; cases y; simp_all
           rw [decide_eq_decide]; simp_all)
    · skip
      try simp only [decide_eq_true_eq, decide_eq_false_iff_not, beq_iff_eq, beq_eq_false_iff_ne, ne_eq] at hg17
      refine WL_skip rfl rfl rfl ?_
      refine WL_skip rfl rfl rfl ?_
      refine WL_skip rfl rfl rfl ?_
      refine WL_skip rfl rfl rfl ?_
      refine WL_skip rfl rfl rfl ?_
      refine s_pick_f rfl rfl rfl ?_
      refine s_assign rfl rfl ?_
      refine WL_nil ?_
      refine n_then ?_
      refine W_ret ?_
      refine end1 rfl rfl ⟨hs.fwd, congrArg Value.bool ?_⟩
      first
        | (symm; rw [decide_eq_false_iff_not]; rintro ⟨rfl, rfl, rfl⟩; simp_all; done)
  · skip
    try simp only [decide_eq_true_eq, decide_eq_false_iff_not, beq_iff_eq, beq_eq_false_iff_ne, ne_eq] at hg10
    refine WL_skip rfl rfl rfl ?_
    refine WL_skip rfl rfl rfl ?_
    refine WL_skip rfl rfl rfl ?_
    refine WL_skip rfl rfl rfl ?_
    refine WL_skip rfl rfl rfl ?_
    refine s_pick_f rfl rfl rfl ?_
    refine s_move rfl rfl ?_
    refine WL_skip rfl rfl rfl ?_
    refine WL_skip rfl rfl rfl ?_
    refine WL_skip rfl rfl rfl ?_
    refine WL_skip rfl rfl rfl ?_
    refine WL_skip rfl rfl rfl ?_
    refine s_pick_f rfl rfl rfl ?_
    refine s_assign rfl rfl ?_
    refine WL_nil ?_
    refine n_then ?_
    refine W_ret ?_
    refine end1 rfl rfl ⟨hs.fwd, congrArg Value.bool ?_⟩
    first
      | (symm; rw [decide_eq_false_iff_not]; rintro ⟨rfl, rfl, rfl⟩; simp_all; done)
end Go.Proofs.Ytkobigdfijeajaa
