/- Contracts of package lease: its table. -/
import Derived.Test.YtkobigdfijeajaaName
set_option linter.unusedVariables false
set_option linter.unusedSimpArgs false
namespace Go.Proofs.Ytkobigdfijeajaa
open Go.SL
/-- a lease -/
structure Lz where
  rule : ByteArray
  holder : Int
  token : Int
  til : Int
deriving DecidableEq
def Lz.cells (x : Lz) : List Value := [.string x.rule, .int .i64 x.holder, .int .i64 x.token, .int .i64 x.til]
def Lz.val (x : Lz) : Value := .agg #[.string x.rule, .int .i64 x.holder, .int .i64 x.token, .int .i64 x.til]
def validP (g : Bool) (x : Lz) (n : Nat) : Prop := nameP x.rule ∧ (0 ≤ x.holder ∧ x.holder < 3) ∧ (1 ≤ x.token ∧ x.token ≤ 1073741824) ∧ (1 ≤ x.til ∧ x.til ≤ 2097152) ∧ n ≤ 65536 ∧ (g = false ∨ n = 0)
instance (g : Bool) (x : Lz) (n : Nat) : Decidable (validP g x n) := by unfold validP; infer_instance
set_option maxHeartbeats 1000000 in
theorem valid_ok (g : Bool) (x : Lz) (a : Option Addr) (n c : Nat) (w0 : World) :
    Ret Try.prog 42 [.agg #[.bool g, .string x.rule, .int .i64 x.holder, .int .i64 x.token, .int .i64 x.til, .slice a n c]].toArray w0 fun r w' => Fwd [] w0 w' ∧ r = .bool (decide (validP g x n)) := by
  refine Ret_start fun w hs => ?_
  refine Ret_of Try.func42 rfl Try.ntmps42 rfl ?_
  refine W_seq ?_
  refine W_region ?_
  first | refine s_box rfl rfl hs ?_
  clear hs; intro b1 w hs
  refine s_assign rfl rfl ?_
  refine WL_nil ?_
  refine n_then ?_
  refine W_seq ?_
  refine W_region ?_
  refine s_fieldAddr rfl rfl (FA35_1 _ _) ?_
  first
    | refine s_load_4 Try.isAgg33 Try.sizeOf33 rfl rfl (by first | exact hs.cell (k := 0) rfl rfl | exact hs.cell (k := 1) rfl rfl | exact hs.cell (k := 2) rfl rfl) (by first | exact hs.cell (k := 0) rfl rfl | exact hs.cell (k := 1) rfl rfl | exact hs.cell (k := 2) rfl rfl) (by first | exact hs.cell (k := 0) rfl rfl | exact hs.cell (k := 1) rfl rfl | exact hs.cell (k := 2) rfl rfl) (by first | exact hs.cell (k := 0) rfl rfl | exact hs.cell (k := 1) rfl rfl | exact hs.cell (k := 2) rfl rfl) ?_
  refine s_alloc rfl AL33 hs ?_; clear hs; intro b3 w hs
  first
    | refine s_storeW Try.sizeOf33 rfl rfl rfl rfl hs (kk := 0) rfl rfl ?_
  clear hs; intro w hs; try simp only [List.set_cons_zero, List.set_cons_succ, splice, List.take_succ_cons, List.take_zero, List.drop_succ_cons, List.drop_zero, List.nil_append, List.cons_append, List.length_cons, List.length_nil, Nat.reduceAdd, List.append_assoc] at hs
  refine WL_nil ?_
  refine n_then ?_
  refine W_seq ?_
  refine W_seq ?_
  refine W_region ?_
  refine s_fieldAddr rfl rfl (FA33_0 _ _) ?_
  first
    | refine s_load Try.isAgg9 rfl rfl (hs.cell (k := 0) rfl rfl) ?_
  refine s_call Try.call65 rfl rfl (name_ok x.rule w) ?_
  rintro r w ⟨hst, rfl⟩
  replace hs := hs.fwd1 hst
  clear hst
  refine s_not rfl rfl ?_
  refine s_move rfl rfl ?_
  refine WL_case (s := 10) rfl (fun hg10 => ?_) (fun hg10 => ?_)
  · skip
    simp only [decide_eq_true_eq, decide_eq_false_iff_not, beq_iff_eq, beq_eq_false_iff_ne, ne_eq, Bool.not_eq_true', Bool.not_eq_false'] at hg10
    refine WL_skip rfl rfl rfl ?_
    refine WL_skip rfl rfl rfl ?_
    refine WL_skip rfl rfl rfl ?_
    refine s_pick_t rfl rfl rfl ?_
    refine s_move rfl rfl ?_
    refine WL_skip rfl rfl rfl ?_
    refine WL_skip rfl rfl rfl ?_
    refine WL_skip rfl rfl rfl ?_
    refine s_pick_t rfl rfl rfl ?_
    refine WL_nil ?_
    refine n_then ?_
    refine W_cond_t rfl ?_
    refine W_seq ?_
    refine W_region ?_
    refine s_assign rfl rfl ?_
    refine WL_nil ?_
    refine n_then ?_
    refine W_ret ?_
    refine r_then ?_
    refine end1 rfl rfl ⟨hs.fwd, congrArg Value.bool ?_⟩
    first
      | (symm; rw [decide_eq_false_iff_not]; rintro ⟨h1, h2, h3, h4, h5, h6⟩; first | omega | exact absurd h1 ‹_›)
  · skip
    simp only [decide_eq_true_eq, decide_eq_false_iff_not, beq_iff_eq, beq_eq_false_iff_ne, ne_eq, Bool.not_eq_true', Bool.not_eq_false'] at hg10
    refine WL_take rfl ?_
    refine s_fieldAddr rfl rfl (FA33_1 _ _) ?_
    refine WL_take rfl ?_
    first
      | refine s_load Try.isAgg3 rfl rfl (hs.cell (k := 0) rfl rfl) ?_
    refine WL_take rfl ?_
    refine s_lss rfl rfl rfl ?_
    refine s_pick_f rfl rfl rfl ?_
    refine s_move rfl rfl ?_
    refine WL_case (s := 15) rfl (fun hg15 => ?_) (fun hg15 => ?_)
    · skip
      simp only [decide_eq_true_eq, decide_eq_false_iff_not, beq_iff_eq, beq_eq_false_iff_ne, ne_eq, Bool.not_eq_true', Bool.not_eq_false'] at hg15
      refine WL_skip rfl rfl rfl ?_
      refine WL_skip rfl rfl rfl ?_
      refine WL_skip rfl rfl rfl ?_
      refine s_pick_t rfl rfl rfl ?_
      refine WL_nil ?_
      refine n_then ?_
      refine W_cond_t rfl ?_
      refine W_seq ?_
      refine W_region ?_
      refine s_assign rfl rfl ?_
      refine WL_nil ?_
      refine n_then ?_
      refine W_ret ?_
      refine r_then ?_
      refine end1 rfl rfl ⟨hs.fwd, congrArg Value.bool ?_⟩
      first
        | (symm; rw [decide_eq_false_iff_not]; rintro ⟨h1, h2, h3, h4, h5, h6⟩; first | omega | exact absurd h1 ‹_›)
        | (rw [Bool.eq_iff_iff]; simp only [decide_eq_true_eq, validP]; constructor <;> intro h <;> first | (refine ⟨‹_›, ?_, ?_, ?_, ?_, ?_⟩ <;> first | omega | (simp_all; omega) | simp_all) | (simp_all; done) | (simp_all; omega))
    · skip
      simp only [decide_eq_true_eq, decide_eq_false_iff_not, beq_iff_eq, beq_eq_false_iff_ne, ne_eq, Bool.not_eq_true', Bool.not_eq_false'] at hg15
      refine WL_take rfl ?_
      refine s_fieldAddr rfl rfl (FA33_1 _ _) ?_
      refine WL_take rfl ?_
      first
        | refine s_load Try.isAgg3 rfl rfl (hs.cell (k := 0) rfl rfl) ?_
      refine WL_take rfl ?_
      refine s_geq rfl rfl rfl ?_
      refine s_pick_f rfl rfl rfl ?_
      refine WL_nil ?_
      refine n_then ?_
      refine W_cond rfl (fun hc19 => ?_) (fun hc19 => ?_)
      · skip
        simp only [decide_eq_true_eq, decide_eq_false_iff_not, beq_iff_eq, beq_eq_false_iff_ne, ne_eq, Bool.not_eq_true', Bool.not_eq_false'] at hc19
        refine W_seq ?_
        refine W_region ?_
        refine s_assign rfl rfl ?_
        refine WL_nil ?_
        refine n_then ?_
        refine W_ret ?_
        refine r_then ?_
        refine end1 rfl rfl ⟨hs.fwd, congrArg Value.bool ?_⟩
        first
          | (symm; rw [decide_eq_false_iff_not]; rintro ⟨h1, h2, h3, h4, h5, h6⟩; first | omega | exact absurd h1 ‹_›)
          | (rw [Bool.eq_iff_iff]; simp only [decide_eq_true_eq, validP]; constructor <;> intro h <;> first | (refine ⟨‹_›, ?_, ?_, ?_, ?_, ?_⟩ <;> first | omega | (simp_all; omega) | simp_all) | (simp_all; done) | (simp_all; omega))
      · skip
        simp only [decide_eq_true_eq, decide_eq_false_iff_not, beq_iff_eq, beq_eq_false_iff_ne, ne_eq, Bool.not_eq_true', Bool.not_eq_false'] at hc19
        refine W_skip ?_
        refine n_then ?_
        refine W_seq ?_
        refine W_seq ?_
        refine W_region ?_
        refine s_fieldAddr rfl rfl (FA33_2 _ _) ?_
        first
          | refine s_load Try.isAgg3 rfl rfl (hs.cell (k := 0) rfl rfl) ?_
        refine s_lss rfl rfl rfl ?_
        refine s_move rfl rfl ?_
        refine WL_case (s := 23) rfl (fun hg23 => ?_) (fun hg23 => ?_)
        · skip
          simp only [decide_eq_true_eq, decide_eq_false_iff_not, beq_iff_eq, beq_eq_false_iff_ne, ne_eq, Bool.not_eq_true', Bool.not_eq_false'] at hg23
          refine WL_skip rfl rfl rfl ?_
          refine WL_skip rfl rfl rfl ?_
          refine WL_skip rfl rfl rfl ?_
          refine s_pick_t rfl rfl rfl ?_
          refine s_move rfl rfl ?_
          refine WL_skip rfl rfl rfl ?_
          refine WL_skip rfl rfl rfl ?_
          refine WL_skip rfl rfl rfl ?_
          refine s_pick_t rfl rfl rfl ?_
          refine s_move rfl rfl ?_
          refine WL_skip rfl rfl rfl ?_
          refine WL_skip rfl rfl rfl ?_
          refine WL_skip rfl rfl rfl ?_
          refine s_pick_t rfl rfl rfl ?_
          refine WL_nil ?_
          refine n_then ?_
          refine W_cond_t rfl ?_
          refine W_seq ?_
          refine W_region ?_
          refine s_assign rfl rfl ?_
          refine WL_nil ?_
          refine n_then ?_
          refine W_ret ?_
          refine r_then ?_
          refine end1 rfl rfl ⟨hs.fwd, congrArg Value.bool ?_⟩
          first
            | (symm; rw [decide_eq_false_iff_not]; rintro ⟨h1, h2, h3, h4, h5, h6⟩; first | omega | exact absurd h1 ‹_›)
            | (rw [Bool.eq_iff_iff]; simp only [decide_eq_true_eq, validP]; constructor <;> intro h <;> first | (refine ⟨‹_›, ?_, ?_, ?_, ?_, ?_⟩ <;> first | omega | (simp_all; omega) | simp_all) | (simp_all; done) | (simp_all; omega))
        · skip
          simp only [decide_eq_true_eq, decide_eq_false_iff_not, beq_iff_eq, beq_eq_false_iff_ne, ne_eq, Bool.not_eq_true', Bool.not_eq_false'] at hg23
          refine WL_take rfl ?_
          refine s_fieldAddr rfl rfl (FA33_2 _ _) ?_
          refine WL_take rfl ?_
          first
            | refine s_load Try.isAgg3 rfl rfl (hs.cell (k := 0) rfl rfl) ?_
          refine WL_take rfl ?_
          refine s_gtr rfl rfl rfl ?_
          refine s_pick_f rfl rfl rfl ?_
          refine s_move rfl rfl ?_
          refine WL_case (s := 28) rfl (fun hg28 => ?_) (fun hg28 => ?_)
          · skip
            simp only [decide_eq_true_eq, decide_eq_false_iff_not, beq_iff_eq, beq_eq_false_iff_ne, ne_eq, Bool.not_eq_true', Bool.not_eq_false'] at hg28
            refine WL_skip rfl rfl rfl ?_
            refine WL_skip rfl rfl rfl ?_
            refine WL_skip rfl rfl rfl ?_
            refine s_pick_t rfl rfl rfl ?_
            refine s_move rfl rfl ?_
            refine WL_skip rfl rfl rfl ?_
            refine WL_skip rfl rfl rfl ?_
            refine WL_skip rfl rfl rfl ?_
            refine s_pick_t rfl rfl rfl ?_
            refine WL_nil ?_
            refine n_then ?_
            refine W_cond_t rfl ?_
            refine W_seq ?_
            refine W_region ?_
            refine s_assign rfl rfl ?_
            refine WL_nil ?_
            refine n_then ?_
            refine W_ret ?_
            refine r_then ?_
            refine end1 rfl rfl ⟨hs.fwd, congrArg Value.bool ?_⟩
            first
              | (symm; rw [decide_eq_false_iff_not]; rintro ⟨h1, h2, h3, h4, h5, h6⟩; first | omega | exact absurd h1 ‹_›)
              | (rw [Bool.eq_iff_iff]; simp only [decide_eq_true_eq, validP]; constructor <;> intro h <;> first | (refine ⟨‹_›, ?_, ?_, ?_, ?_, ?_⟩ <;> first | omega | (simp_all; omega) | simp_all) | (simp_all; done) | (simp_all; omega))
          · skip
            simp only [decide_eq_true_eq, decide_eq_false_iff_not, beq_iff_eq, beq_eq_false_iff_ne, ne_eq, Bool.not_eq_true', Bool.not_eq_false'] at hg28
            refine WL_take rfl ?_
            refine s_fieldAddr rfl rfl (FA33_3 _ _) ?_
            refine WL_take rfl ?_
            first
              | refine s_load Try.isAgg3 rfl rfl (hs.cell (k := 0) rfl rfl) ?_
            refine WL_take rfl ?_
            refine s_lss rfl rfl rfl ?_
            refine s_pick_f rfl rfl rfl ?_
            refine s_move rfl rfl ?_
            refine WL_case (s := 33) rfl (fun hg33 => ?_) (fun hg33 => ?_)
            · skip
              simp only [decide_eq_true_eq, decide_eq_false_iff_not, beq_iff_eq, beq_eq_false_iff_ne, ne_eq, Bool.not_eq_true', Bool.not_eq_false'] at hg33
              refine WL_skip rfl rfl rfl ?_
              refine WL_skip rfl rfl rfl ?_
              refine WL_skip rfl rfl rfl ?_
              refine s_pick_t rfl rfl rfl ?_
              refine WL_nil ?_
              refine n_then ?_
              refine W_cond_t rfl ?_
              refine W_seq ?_
              refine W_region ?_
              refine s_assign rfl rfl ?_
              refine WL_nil ?_
              refine n_then ?_
              refine W_ret ?_
              refine r_then ?_
              refine end1 rfl rfl ⟨hs.fwd, congrArg Value.bool ?_⟩
              first
                | (symm; rw [decide_eq_false_iff_not]; rintro ⟨h1, h2, h3, h4, h5, h6⟩; first | omega | exact absurd h1 ‹_›)
                | (rw [Bool.eq_iff_iff]; simp only [decide_eq_true_eq, validP]; constructor <;> intro h <;> first | (refine ⟨‹_›, ?_, ?_, ?_, ?_, ?_⟩ <;> first | omega | (simp_all; omega) | simp_all) | (simp_all; done) | (simp_all; omega))
            · skip
              simp only [decide_eq_true_eq, decide_eq_false_iff_not, beq_iff_eq, beq_eq_false_iff_ne, ne_eq, Bool.not_eq_true', Bool.not_eq_false'] at hg33
              refine WL_take rfl ?_
              refine s_fieldAddr rfl rfl (FA33_3 _ _) ?_
              refine WL_take rfl ?_
              first
                | refine s_load Try.isAgg3 rfl rfl (hs.cell (k := 0) rfl rfl) ?_
              refine WL_take rfl ?_
              refine s_gtr rfl rfl rfl ?_
              refine s_pick_f rfl rfl rfl ?_
              refine WL_nil ?_
              refine n_then ?_
              refine W_cond rfl (fun hc37 => ?_) (fun hc37 => ?_)
              · skip
                simp only [decide_eq_true_eq, decide_eq_false_iff_not, beq_iff_eq, beq_eq_false_iff_ne, ne_eq, Bool.not_eq_true', Bool.not_eq_false'] at hc37
                refine W_seq ?_
                refine W_region ?_
                refine s_assign rfl rfl ?_
                refine WL_nil ?_
                refine n_then ?_
                refine W_ret ?_
                refine r_then ?_
                refine end1 rfl rfl ⟨hs.fwd, congrArg Value.bool ?_⟩
                first
                  | (symm; rw [decide_eq_false_iff_not]; rintro ⟨h1, h2, h3, h4, h5, h6⟩; first | omega | exact absurd h1 ‹_›)
                  | (rw [Bool.eq_iff_iff]; simp only [decide_eq_true_eq, validP]; constructor <;> intro h <;> first | (refine ⟨‹_›, ?_, ?_, ?_, ?_, ?_⟩ <;> first | omega | (simp_all; omega) | simp_all) | (simp_all; done) | (simp_all; omega))
              · skip
                simp only [decide_eq_true_eq, decide_eq_false_iff_not, beq_iff_eq, beq_eq_false_iff_ne, ne_eq, Bool.not_eq_true', Bool.not_eq_false'] at hc37
                refine W_skip ?_
                refine n_then ?_
                refine W_seq ?_
                refine W_region ?_
                refine s_fieldAddr rfl rfl (FA35_2 _ _) ?_
                first
                  | refine s_load Try.isAgg22 rfl rfl (hs.cell (k := 1) rfl rfl) ?_
                refine s_len rfl rfl (LN22 _ _ _ _) ?_
                refine s_leq rfl rfl rfl ?_
                refine s_move rfl rfl ?_
                refine WL_case (s := 42) rfl (fun hg42 => ?_) (fun hg42 => ?_)
                · skip
                  simp only [decide_eq_true_eq, decide_eq_false_iff_not, beq_iff_eq, beq_eq_false_iff_ne, ne_eq, Bool.not_eq_true', Bool.not_eq_false'] at hg42
                  refine WL_take rfl ?_
                  refine s_fieldAddr rfl rfl (FA35_0 _ _) ?_
                  refine WL_take rfl ?_
                  first
                    | refine s_load Try.isAgg4 rfl rfl (hs.cell (k := 1) rfl rfl) ?_
                  refine WL_take rfl ?_
                  refine s_not rfl rfl ?_
                  refine WL_take rfl ?_
                  refine s_move rfl rfl ?_
                  refine WL_case (s := 46) rfl (fun hg46 => ?_) (fun hg46 => ?_)
                  · skip
                    simp only [decide_eq_true_eq, decide_eq_false_iff_not, beq_iff_eq, beq_eq_false_iff_ne, ne_eq, Bool.not_eq_true', Bool.not_eq_false'] at hg46
                    refine WL_skip rfl rfl rfl ?_
                    refine WL_skip rfl rfl rfl ?_
                    refine WL_skip rfl rfl rfl ?_
                    refine WL_skip rfl rfl rfl ?_
                    refine WL_take rfl ?_
                    refine s_pick_t rfl rfl rfl ?_
                    refine s_pick_t rfl rfl rfl ?_
                    refine s_assign rfl rfl ?_
                    refine WL_nil ?_
                    refine n_then ?_
                    refine W_ret ?_
                    refine end1 rfl rfl ⟨hs.fwd, congrArg Value.bool ?_⟩
                    first
                      | (rw [Bool.eq_iff_iff]; simp only [decide_eq_true_eq, validP]; constructor <;> intro h <;> first | (refine ⟨‹_›, ?_, ?_, ?_, ?_, ?_⟩ <;> first | omega | (simp_all; omega) | simp_all) | (simp_all; done) | (simp_all; omega))
                  · skip
                    simp only [decide_eq_true_eq, decide_eq_false_iff_not, beq_iff_eq, beq_eq_false_iff_ne, ne_eq, Bool.not_eq_true', Bool.not_eq_false'] at hg46
                    refine WL_take rfl ?_
                    refine s_fieldAddr rfl rfl (FA35_2 _ _) ?_
                    refine WL_take rfl ?_
                    first
                      | refine s_load Try.isAgg22 rfl rfl (hs.cell (k := 1) rfl rfl) ?_
                    refine WL_take rfl ?_
                    refine s_len rfl rfl (LN22 _ _ _ _) ?_
                    refine WL_take rfl ?_
                    refine s_eql rfl rfl rfl ?_
                    refine WL_take rfl ?_
                    refine s_pick_f rfl rfl rfl ?_
                    refine s_pick_t rfl rfl rfl ?_
                    refine s_assign rfl rfl ?_
                    refine WL_nil ?_
                    refine n_then ?_
                    refine W_ret ?_
                    refine end1 rfl rfl ⟨hs.fwd, congrArg Value.bool ?_⟩
                    first
                      | (symm; rw [decide_eq_false_iff_not]; rintro ⟨h1, h2, h3, h4, h5, h6⟩; first | omega | exact absurd h1 ‹_›)
                      | (rw [Bool.eq_iff_iff]; simp only [decide_eq_true_eq, validP]; constructor <;> intro h <;> first | (refine ⟨‹_›, ?_, ?_, ?_, ?_, ?_⟩ <;> first | omega | (simp_all; omega) | simp_all) | (simp_all; done) | (simp_all; omega))
                · skip
                  simp only [decide_eq_true_eq, decide_eq_false_iff_not, beq_iff_eq, beq_eq_false_iff_ne, ne_eq, Bool.not_eq_true', Bool.not_eq_false'] at hg42
                  refine WL_skip rfl rfl rfl ?_
                  refine WL_skip rfl rfl rfl ?_
                  refine WL_skip rfl rfl rfl ?_
                  refine WL_skip rfl rfl rfl ?_
                  refine WL_skipU rfl rfl ?_
                  refine WL_skipU rfl rfl ?_
                  refine WL_skipU rfl rfl ?_
                  refine WL_skipU rfl rfl ?_
                  refine WL_skip rfl rfl rfl ?_
                  refine s_pick_f rfl rfl rfl ?_
                  refine s_assign rfl rfl ?_
                  refine WL_nil ?_
                  refine n_then ?_
                  refine W_ret ?_
                  refine end1 rfl rfl ⟨hs.fwd, congrArg Value.bool ?_⟩
                  first
                    | (symm; rw [decide_eq_false_iff_not]; rintro ⟨h1, h2, h3, h4, h5, h6⟩; first | omega | exact absurd h1 ‹_›)
                    | (rw [Bool.eq_iff_iff]; simp only [decide_eq_true_eq, validP]; constructor <;> intro h <;> first | (refine ⟨‹_›, ?_, ?_, ?_, ?_, ?_⟩ <;> first | omega | (simp_all; omega) | simp_all) | (simp_all; done) | (simp_all; omega))
theorem isTick_ok (t : Int) (w0 : World) : Ret Try.prog 41 [.int .i64 t].toArray w0 fun r w' => w' = w0 ∧ r = .bool (decide (0 ≤ t ∧ t ≤ 1048576)) := by
  refine Ret_of Try.func41 rfl Try.ntmps41 rfl ?_
  refine W_seq ?_
  refine W_region ?_
  refine s_assign rfl rfl ?_
  refine WL_nil ?_
  refine n_then ?_
  refine W_seq ?_
  refine W_region ?_
  refine s_move rfl rfl ?_
  refine s_geq rfl rfl rfl ?_
  refine s_move rfl rfl ?_
  refine WL_case (s := 5) rfl (fun hg5 => ?_) (fun hg5 => ?_)
  · skip
    simp only [decide_eq_true_eq, decide_eq_false_iff_not] at hg5
    refine WL_take rfl ?_
    refine s_move rfl rfl ?_
    refine WL_take rfl ?_
    refine s_leq rfl rfl rfl ?_
    refine s_pick_t rfl rfl rfl ?_
    refine s_assign rfl rfl ?_
    refine WL_nil ?_
    refine n_then ?_
    refine W_ret ?_
    refine end1 rfl rfl ⟨rfl, congrArg Value.bool ?_⟩
    rw [Bool.eq_iff_iff]; simp [*]
  · skip
    simp only [decide_eq_true_eq, decide_eq_false_iff_not] at hg5
    refine WL_skip rfl rfl rfl ?_
    refine WL_skip rfl rfl rfl ?_
    refine s_pick_f rfl rfl rfl ?_
    refine s_assign rfl rfl ?_
    refine WL_nil ?_
    refine n_then ?_
    refine W_ret ?_
    refine end1 rfl rfl ⟨rfl, congrArg Value.bool ?_⟩
    rw [Bool.eq_iff_iff]; simp [*]
end Go.Proofs.Ytkobigdfijeajaa
