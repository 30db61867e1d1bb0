/- The reference's table of leases: names, valid entries, find, Holder, Grant. -/
import Derived.Test.YtkobigdfijeajaaLeaD
import Derived.Test.YtkobigdfijeajaaStr
set_option linter.unusedVariables false
set_option linter.unusedSimpArgs false
namespace Go.Proofs.Ytkobigdfijeajaa
open Go.SL
theorem fLetter_ok (c : Nat) (w0 : World) : Ret Try.prog 88 [.int .u8 (c : Int)].toArray w0 fun r w' => w' = w0 ∧ r = .bool (decide (97 ≤ c ∧ c ≤ 122)) := by
  refine Ret_of Try.func88 rfl Try.ntmps88 rfl ?_
  refine W_seq ?_
  refine W_region ?_
  refine s_assign rfl rfl ?_
  refine WL_nil ?_
  refine n_then ?_
  refine W_seq ?_
  refine W_region ?_
  refine s_move rfl rfl ?_
  refine s_geq rfl rfl rfl ?_
  refine s_move rfl rfl ?_
  refine WL_case (s := 5) rfl (fun hg5 => ?_) (fun hg5 => ?_)
  · skip
    simp only [decide_eq_true_eq, decide_eq_false_iff_not, ge_iff_le] at hg5
    refine WL_take rfl ?_
    refine s_move rfl rfl ?_
    refine WL_take rfl ?_
    refine s_leq rfl rfl rfl ?_
    refine s_pick_t rfl rfl rfl ?_
    refine s_assign rfl rfl ?_
    refine WL_nil ?_
    refine n_then ?_
    refine W_ret ?_
    refine end1 rfl rfl ⟨rfl, congrArg Value.bool ?_⟩
    first
      | (rw [decide_eq_decide]; omega)
  · skip
    simp only [decide_eq_true_eq, decide_eq_false_iff_not, ge_iff_le] at hg5
    refine WL_skip rfl rfl rfl ?_
    refine WL_skip rfl rfl rfl ?_
    refine s_pick_f rfl rfl rfl ?_
    refine s_assign rfl rfl ?_
    refine WL_nil ?_
    refine n_then ?_
    refine W_ret ?_
    refine end1 rfl rfl ⟨rfl, congrArg Value.bool ?_⟩
    first
      | (symm; rw [decide_eq_false_iff_not]; omega)
theorem fName_ok (s : ByteArray) (w0 : World) : Ret Try.prog 74 [.string s].toArray w0 fun r w' => w' = w0 ∧ r = .bool (decide (nameP s)) := by
  refine Ret_of Try.func74 rfl Try.ntmps74 rfl ?_
  refine W_seq ?_
  refine W_region ?_
  refine s_assign rfl rfl ?_
  refine WL_nil ?_
  refine n_then ?_
  refine W_seq ?_
  refine W_seq ?_
  refine W_region ?_
  refine s_move rfl rfl ?_
  refine s_len rfl rfl (LN9 _ _) ?_
  refine s_lss rfl rfl rfl ?_
  refine s_move rfl rfl ?_
  refine WL_case (s := 8) rfl (fun hg8 => ?_) (fun hg8 => ?_)
  · skip
    simp only [decide_eq_true_eq, decide_eq_false_iff_not, beq_iff_eq, beq_eq_false_iff_ne, bne_iff_ne, bne_eq_false_iff_eq, ne_eq, Bool.not_eq_true', Bool.not_eq_false', Bool.not_eq_true, Bool.not_eq_false, ge_iff_le, gt_iff_lt] at hg8
    refine WL_skip rfl rfl rfl ?_
    refine WL_skip rfl rfl rfl ?_
    refine WL_skip rfl rfl rfl ?_
    refine s_pick_t rfl rfl rfl ?_
    refine WL_nil ?_
    refine n_then ?_
    refine W_cond_t rfl ?_
    refine W_seq ?_
    refine W_region ?_
    refine s_assign rfl rfl ?_
    refine WL_nil ?_
    refine n_then ?_
    refine W_ret ?_
    refine r_then ?_
    first
      | exact end1 rfl rfl ⟨rfl, congrArg Value.bool (by symm; rw [decide_eq_false_iff_not]; rintro ⟨h1, h2, _⟩; omega)⟩
  · skip
    simp only [decide_eq_true_eq, decide_eq_false_iff_not, beq_iff_eq, beq_eq_false_iff_ne, bne_iff_ne, bne_eq_false_iff_eq, ne_eq, Bool.not_eq_true', Bool.not_eq_false', Bool.not_eq_true, Bool.not_eq_false, ge_iff_le, gt_iff_lt] at hg8
    refine WL_take rfl ?_
    refine s_move rfl rfl ?_
    refine WL_take rfl ?_
    refine s_len rfl rfl (LN9 _ _) ?_
    refine WL_take rfl ?_
    refine s_gtr rfl rfl rfl ?_
    refine s_pick_f rfl rfl rfl ?_
    refine WL_nil ?_
    refine n_then ?_
    refine W_cond rfl (fun hc12 => ?_) (fun hc12 => ?_)
    · skip
      simp only [decide_eq_true_eq, decide_eq_false_iff_not, beq_iff_eq, beq_eq_false_iff_ne, bne_iff_ne, bne_eq_false_iff_eq, ne_eq, Bool.not_eq_true', Bool.not_eq_false', Bool.not_eq_true, Bool.not_eq_false, ge_iff_le, gt_iff_lt] at hc12
      refine W_seq ?_
      refine W_region ?_
      refine s_assign rfl rfl ?_
      refine WL_nil ?_
      refine n_then ?_
      refine W_ret ?_
      refine r_then ?_
      first
        | exact end1 rfl rfl ⟨rfl, congrArg Value.bool (by symm; rw [decide_eq_false_iff_not]; rintro ⟨h1, h2, _⟩; omega)⟩
    · skip
      simp only [decide_eq_true_eq, decide_eq_false_iff_not, beq_iff_eq, beq_eq_false_iff_ne, bne_iff_ne, bne_eq_false_iff_eq, ne_eq, Bool.not_eq_true', Bool.not_eq_false', Bool.not_eq_true, Bool.not_eq_false, ge_iff_le, gt_iff_lt] at hc12
      refine W_skip ?_
      refine n_then ?_
      refine W_seq ?_
      refine W_seq ?_
      refine W_region ?_
      refine s_assign rfl rfl ?_
      refine WL_nil ?_
      refine n_then ?_
      refine W_block ?_
      refine W_loop (σ := Nat) (fun p => [(0, .string s), (3, .int .i64 (p : Int))]) (fun p w => w = w0 ∧ p ≤ s.size ∧ (∀ i, (h : i < s.size) → i < p → okP i (s[i]'h).toNat)) (fun p => s.size - p) 0 ⟨rfl, rfl, trivial⟩ ⟨rfl, Nat.zero_le _, by omega⟩ ?_
      rintro p w ⟨hw, hp, hok⟩
      rw [hw]
      clear hw w
      refine W_seq ?_
      refine W_seq ?_
      refine W_region ?_
      refine s_move rfl rfl ?_
      refine s_move rfl rfl ?_
      refine s_len rfl rfl (LN9 _ _) ?_
      refine s_lss rfl rfl rfl ?_
      refine WL_nil ?_
      refine n_then ?_
      refine W_cond rfl (fun hc16 => ?_) (fun hc16 => ?_)
      · skip
        simp only [decide_eq_true_eq, decide_eq_false_iff_not, beq_iff_eq, beq_eq_false_iff_ne, bne_iff_ne, bne_eq_false_iff_eq, ne_eq, Bool.not_eq_true', Bool.not_eq_false', Bool.not_eq_true, Bool.not_eq_false, ge_iff_le, gt_iff_lt] at hc16
        have hpl : p < s.size := by omega
        obtain ⟨cc, hcc⟩ : ∃ cc, (s[p]'hpl).toNat = cc := ⟨_, rfl⟩
        refine W_skip ?_
        refine n_then ?_
        refine W_seq ?_
        refine W_block ?_
        refine W_seq ?_
        refine W_region ?_
        refine s_move rfl rfl ?_
        refine s_move rfl rfl ?_
        refine s_index_S Try.underlying9 rfl rfl rfl hpl hcc ?_
        refine s_geq rfl rfl rfl ?_
        refine s_move rfl rfl ?_
        refine WL_case (s := 23) rfl (fun hg23 => ?_) (fun hg23 => ?_)
        · skip
          simp only [decide_eq_true_eq, decide_eq_false_iff_not, beq_iff_eq, beq_eq_false_iff_ne, bne_iff_ne, bne_eq_false_iff_eq, ne_eq, Bool.not_eq_true', Bool.not_eq_false', Bool.not_eq_true, Bool.not_eq_false, ge_iff_le, gt_iff_lt] at hg23
          refine WL_take rfl ?_
          refine s_move rfl rfl ?_
          refine WL_take rfl ?_
          refine s_move rfl rfl ?_
          refine WL_take rfl ?_
          refine s_index_S Try.underlying9 rfl rfl rfl hpl hcc ?_
          refine WL_take rfl ?_
          refine s_leq rfl rfl rfl ?_
          refine s_pick_t rfl rfl rfl ?_
          refine s_move rfl rfl ?_
          refine WL_case (s := 29) rfl (fun hg29 => ?_) (fun hg29 => ?_)
          · skip
            simp only [decide_eq_true_eq, decide_eq_false_iff_not, beq_iff_eq, beq_eq_false_iff_ne, bne_iff_ne, bne_eq_false_iff_eq, ne_eq, Bool.not_eq_true', Bool.not_eq_false', Bool.not_eq_true, Bool.not_eq_false, ge_iff_le, gt_iff_lt] at hg29
            refine WL_skip rfl rfl rfl ?_
            refine WL_skip rfl rfl rfl ?_
            refine WL_skip rfl rfl rfl ?_
            refine WL_skip rfl rfl rfl ?_
            refine s_pick_t rfl rfl rfl ?_
            refine s_assign rfl rfl ?_
            refine WL_nil ?_
            refine n_then ?_
            refine W_seq ?_
            refine W_region ?_
            refine s_move rfl rfl ?_
            refine s_move rfl rfl ?_
            refine s_index_S Try.underlying9 rfl rfl rfl hpl hcc ?_
            refine s_call Try.call88 rfl rfl (fLetter_ok cc _) ?_
            rintro r w1 ⟨hw1, rfl⟩
            rw [hw1]; clear hw1 w1
            refine s_not rfl rfl ?_
            refine s_move rfl rfl ?_
            refine WL_case (s := 40) rfl (fun hg40 => ?_) (fun hg40 => ?_)
            · skip
              simp only [decide_eq_true_eq, decide_eq_false_iff_not, beq_iff_eq, beq_eq_false_iff_ne, bne_iff_ne, bne_eq_false_iff_eq, ne_eq, Bool.not_eq_true', Bool.not_eq_false', Bool.not_eq_true, Bool.not_eq_false, ge_iff_le, gt_iff_lt] at hg40
              refine WL_take rfl ?_
              refine s_move rfl rfl ?_
              refine WL_take rfl ?_
              refine s_eql rfl rfl rfl ?_
              refine WL_take rfl ?_
              refine s_move rfl rfl ?_
              refine WL_case (s := 43) rfl (fun hg43 => ?_) (fun hg43 => ?_)
              · skip
                simp only [decide_eq_true_eq, decide_eq_false_iff_not, beq_iff_eq, beq_eq_false_iff_ne, bne_iff_ne, bne_eq_false_iff_eq, ne_eq, Bool.not_eq_true', Bool.not_eq_false', Bool.not_eq_true, Bool.not_eq_false, ge_iff_le, gt_iff_lt] at hg43
                refine WL_skip rfl rfl rfl ?_
                refine WL_skip rfl rfl rfl ?_
                refine WL_take rfl ?_
                refine s_pick_t rfl rfl rfl ?_
                refine s_pick_t rfl rfl rfl ?_
                refine WL_nil ?_
                refine n_then ?_
                refine W_cond_t rfl ?_
                refine W_seq ?_
                refine W_region ?_
                refine s_assign rfl rfl ?_
                refine WL_nil ?_
                refine n_then ?_
                refine W_ret ?_
                refine r_blk ?_
                refine r_then ?_
                refine r_then ?_
                refine r_blk ?_
                refine r_then ?_
                first
                  | exact end1 rfl rfl ⟨rfl, congrArg Value.bool (by symm; rw [decide_eq_false_iff_not]; rintro ⟨h1, h2, h3⟩; have h4 := h3 p hpl; rw [hcc] at h4; unfold okP at h4; omega)⟩
              · skip
                simp only [decide_eq_true_eq, decide_eq_false_iff_not, beq_iff_eq, beq_eq_false_iff_ne, bne_iff_ne, bne_eq_false_iff_eq, ne_eq, Bool.not_eq_true', Bool.not_eq_false', Bool.not_eq_true, Bool.not_eq_false, ge_iff_le, gt_iff_lt] at hg43
                refine WL_take rfl ?_
                refine s_move rfl rfl ?_
                refine WL_take rfl ?_
                refine s_not rfl rfl ?_
                refine WL_take rfl ?_
                refine s_pick_f rfl rfl rfl ?_
                refine s_pick_t rfl rfl rfl ?_
                refine WL_nil ?_
                refine n_then ?_
                refine W_cond_f rfl ?_
                refine W_skip ?_
                refine n_blk ?_
                refine n_then ?_
                refine W_region ?_
                refine s_move rfl rfl ?_
                first | (refine s_add' rfl rfl rfl ?hx ?_; case hx => (constructor <;> first | omega | (simp only; omega)))
                refine s_assign rfl rfl ?_
                refine WL_nil ?_
                refine n_loop ?_
                have hk : okP p cc := by unfold okP; omega
                refine ⟨p + 1, ⟨rfl, rfl, trivial⟩, ⟨rfl, by omega, fun i h hi => ?_⟩, by omega⟩
                rcases Nat.lt_or_ge i p with h1 | h1
                · exact hok i h h1
                · obtain rfl : i = p := by omega
                  rw [hcc]; exact hk
            · skip
              simp only [decide_eq_true_eq, decide_eq_false_iff_not, beq_iff_eq, beq_eq_false_iff_ne, bne_iff_ne, bne_eq_false_iff_eq, ne_eq, Bool.not_eq_true', Bool.not_eq_false', Bool.not_eq_true, Bool.not_eq_false, ge_iff_le, gt_iff_lt] at hg40
              refine WL_skip rfl rfl rfl ?_
              refine WL_skip rfl rfl rfl ?_
              refine WL_skip rfl rfl rfl ?_
              refine WL_skipU rfl rfl ?_
              refine WL_skipU rfl rfl ?_
              refine WL_skip rfl rfl rfl ?_
              refine s_pick_f rfl rfl rfl ?_
              refine WL_nil ?_
              refine n_then ?_
              refine W_cond_f rfl ?_
              refine W_skip ?_
              refine n_blk ?_
              refine n_then ?_
              refine W_region ?_
              refine s_move rfl rfl ?_
              first | (refine s_add' rfl rfl rfl ?hx ?_; case hx => (constructor <;> first | omega | (simp only; omega)))
              refine s_assign rfl rfl ?_
              refine WL_nil ?_
              refine n_loop ?_
              have hk : okP p cc := by unfold okP; omega
              refine ⟨p + 1, ⟨rfl, rfl, trivial⟩, ⟨rfl, by omega, fun i h hi => ?_⟩, by omega⟩
              rcases Nat.lt_or_ge i p with h1 | h1
              · exact hok i h h1
              · obtain rfl : i = p := by omega
                rw [hcc]; exact hk
          · skip
            simp only [decide_eq_true_eq, decide_eq_false_iff_not, beq_iff_eq, beq_eq_false_iff_ne, bne_iff_ne, bne_eq_false_iff_eq, ne_eq, Bool.not_eq_true', Bool.not_eq_false', Bool.not_eq_true, Bool.not_eq_false, ge_iff_le, gt_iff_lt] at hg29
            refine WL_take rfl ?_
            refine s_move rfl rfl ?_
            refine WL_take rfl ?_
            refine s_move rfl rfl ?_
            refine WL_take rfl ?_
            refine s_index_S Try.underlying9 rfl rfl rfl hpl hcc ?_
            refine WL_take rfl ?_
            refine s_eql rfl rfl rfl ?_
            refine s_pick_f rfl rfl rfl ?_
            refine s_assign rfl rfl ?_
            refine WL_nil ?_
            refine n_then ?_
            refine W_seq ?_
            refine W_region ?_
            refine s_move rfl rfl ?_
            refine s_move rfl rfl ?_
            refine s_index_S Try.underlying9 rfl rfl rfl hpl hcc ?_
            refine s_call Try.call88 rfl rfl (fLetter_ok cc _) ?_
            rintro r w1 ⟨hw1, rfl⟩
            rw [hw1]; clear hw1 w1
            refine s_not rfl rfl ?_
            refine s_move rfl rfl ?_
            refine WL_case (s := 40) rfl (fun hg40 => ?_) (fun hg40 => ?_)
            · skip
              simp only [decide_eq_true_eq, decide_eq_false_iff_not, beq_iff_eq, beq_eq_false_iff_ne, bne_iff_ne, bne_eq_false_iff_eq, ne_eq, Bool.not_eq_true', Bool.not_eq_false', Bool.not_eq_true, Bool.not_eq_false, ge_iff_le, gt_iff_lt] at hg40
              refine WL_take rfl ?_
              refine s_move rfl rfl ?_
              refine WL_take rfl ?_
              refine s_eql rfl rfl rfl ?_
              refine WL_take rfl ?_
              refine s_move rfl rfl ?_
              refine WL_case (s := 43) rfl (fun hg43 => ?_) (fun hg43 => ?_)
              · skip
                simp only [decide_eq_true_eq, decide_eq_false_iff_not, beq_iff_eq, beq_eq_false_iff_ne, bne_iff_ne, bne_eq_false_iff_eq, ne_eq, Bool.not_eq_true', Bool.not_eq_false', Bool.not_eq_true, Bool.not_eq_false, ge_iff_le, gt_iff_lt] at hg43
                refine WL_skip rfl rfl rfl ?_
                refine WL_skip rfl rfl rfl ?_
                refine WL_take rfl ?_
                refine s_pick_t rfl rfl rfl ?_
                refine s_pick_t rfl rfl rfl ?_
                refine WL_nil ?_
                refine n_then ?_
                refine W_cond_t rfl ?_
                refine W_seq ?_
                refine W_region ?_
                refine s_assign rfl rfl ?_
                refine WL_nil ?_
                refine n_then ?_
                refine W_ret ?_
                refine r_blk ?_
                refine r_then ?_
                refine r_then ?_
                refine r_blk ?_
                refine r_then ?_
                first
                  | exact end1 rfl rfl ⟨rfl, congrArg Value.bool (by symm; rw [decide_eq_false_iff_not]; rintro ⟨h1, h2, h3⟩; have h4 := h3 p hpl; rw [hcc] at h4; unfold okP at h4; omega)⟩
              · skip
                simp only [decide_eq_true_eq, decide_eq_false_iff_not, beq_iff_eq, beq_eq_false_iff_ne, bne_iff_ne, bne_eq_false_iff_eq, ne_eq, Bool.not_eq_true', Bool.not_eq_false', Bool.not_eq_true, Bool.not_eq_false, ge_iff_le, gt_iff_lt] at hg43
                refine WL_take rfl ?_
                refine s_move rfl rfl ?_
                refine WL_take rfl ?_
                refine s_not rfl rfl ?_
                refine WL_take rfl ?_
                refine s_pick_f rfl rfl rfl ?_
                refine s_pick_t rfl rfl rfl ?_
                refine WL_nil ?_
                refine n_then ?_
                refine W_cond rfl (fun hc47 => ?_) (fun hc47 => ?_)
                · skip
                  simp only [decide_eq_true_eq, decide_eq_false_iff_not, beq_iff_eq, beq_eq_false_iff_ne, bne_iff_ne, bne_eq_false_iff_eq, ne_eq, Bool.not_eq_true', Bool.not_eq_false', Bool.not_eq_true, Bool.not_eq_false, ge_iff_le, gt_iff_lt] at hc47
                  refine W_seq ?_
                  refine W_region ?_
                  refine s_assign rfl rfl ?_
                  refine WL_nil ?_
                  refine n_then ?_
                  refine W_ret ?_
                  refine r_blk ?_
                  refine r_then ?_
                  refine r_then ?_
                  refine r_blk ?_
                  refine r_then ?_
                  first
                    | exact end1 rfl rfl ⟨rfl, congrArg Value.bool (by symm; rw [decide_eq_false_iff_not]; rintro ⟨h1, h2, h3⟩; have h4 := h3 p hpl; rw [hcc] at h4; unfold okP at h4; omega)⟩
                · skip
                  simp only [decide_eq_true_eq, decide_eq_false_iff_not, beq_iff_eq, beq_eq_false_iff_ne, bne_iff_ne, bne_eq_false_iff_eq, ne_eq, Bool.not_eq_true', Bool.not_eq_false', Bool.not_eq_true, Bool.not_eq_false, ge_iff_le, gt_iff_lt] at hc47
                  refine W_skip ?_
                  refine n_blk ?_
                  refine n_then ?_
                  refine W_region ?_
                  refine s_move rfl rfl ?_
                  first | (refine s_add' rfl rfl rfl ?hx ?_; case hx => (constructor <;> first | omega | (simp only; omega)))
                  refine s_assign rfl rfl ?_
                  refine WL_nil ?_
                  refine n_loop ?_
                  have hk : okP p cc := by unfold okP; omega
                  refine ⟨p + 1, ⟨rfl, rfl, trivial⟩, ⟨rfl, by omega, fun i h hi => ?_⟩, by omega⟩
                  rcases Nat.lt_or_ge i p with h1 | h1
                  · exact hok i h h1
                  · obtain rfl : i = p := by omega
                    rw [hcc]; exact hk
            · skip
              simp only [decide_eq_true_eq, decide_eq_false_iff_not, beq_iff_eq, beq_eq_false_iff_ne, bne_iff_ne, bne_eq_false_iff_eq, ne_eq, Bool.not_eq_true', Bool.not_eq_false', Bool.not_eq_true, Bool.not_eq_false, ge_iff_le, gt_iff_lt] at hg40
              refine WL_skip rfl rfl rfl ?_
              refine WL_skip rfl rfl rfl ?_
              refine WL_skip rfl rfl rfl ?_
              refine WL_skipU rfl rfl ?_
              refine WL_skipU rfl rfl ?_
              refine WL_skip rfl rfl rfl ?_
              refine s_pick_f rfl rfl rfl ?_
              refine WL_nil ?_
              refine n_then ?_
              refine W_cond_f rfl ?_
              refine W_skip ?_
              refine n_blk ?_
              refine n_then ?_
              refine W_region ?_
              refine s_move rfl rfl ?_
              first | (refine s_add' rfl rfl rfl ?hx ?_; case hx => (constructor <;> first | omega | (simp only; omega)))
              refine s_assign rfl rfl ?_
              refine WL_nil ?_
              refine n_loop ?_
              have hk : okP p cc := by unfold okP; omega
              refine ⟨p + 1, ⟨rfl, rfl, trivial⟩, ⟨rfl, by omega, fun i h hi => ?_⟩, by omega⟩
              rcases Nat.lt_or_ge i p with h1 | h1
              · exact hok i h h1
              · obtain rfl : i = p := by omega
                rw [hcc]; exact hk
        · skip
          simp only [decide_eq_true_eq, decide_eq_false_iff_not, beq_iff_eq, beq_eq_false_iff_ne, bne_iff_ne, bne_eq_false_iff_eq, ne_eq, Bool.not_eq_true', Bool.not_eq_false', Bool.not_eq_true, Bool.not_eq_false, ge_iff_le, gt_iff_lt] at hg23
          refine WL_skip rfl rfl rfl ?_
          refine WL_skip rfl rfl rfl ?_
          refine WL_skip rfl rfl rfl ?_
          refine WL_skip rfl rfl rfl ?_
          refine s_pick_f rfl rfl rfl ?_
          refine s_move rfl rfl ?_
          refine WL_take rfl ?_
          refine s_move rfl rfl ?_
          refine WL_take rfl ?_
          refine s_move rfl rfl ?_
          refine WL_take rfl ?_
          refine s_index_S Try.underlying9 rfl rfl rfl hpl hcc ?_
          refine WL_take rfl ?_
          refine s_eql rfl rfl rfl ?_
          refine s_pick_f rfl rfl rfl ?_
          refine s_assign rfl rfl ?_
          refine WL_nil ?_
          refine n_then ?_
          refine W_seq ?_
          refine W_region ?_
          refine s_move rfl rfl ?_
          refine s_move rfl rfl ?_
          refine s_index_S Try.underlying9 rfl rfl rfl hpl hcc ?_
          refine s_call Try.call88 rfl rfl (fLetter_ok cc _) ?_
          rintro r w1 ⟨hw1, rfl⟩
          rw [hw1]; clear hw1 w1
          refine s_not rfl rfl ?_
          refine s_move rfl rfl ?_
          refine WL_case (s := 40) rfl (fun hg40 => ?_) (fun hg40 => ?_)
          · skip
            simp only [decide_eq_true_eq, decide_eq_false_iff_not, beq_iff_eq, beq_eq_false_iff_ne, bne_iff_ne, bne_eq_false_iff_eq, ne_eq, Bool.not_eq_true', Bool.not_eq_false', Bool.not_eq_true, Bool.not_eq_false, ge_iff_le, gt_iff_lt] at hg40
            refine WL_take rfl ?_
            refine s_move rfl rfl ?_
            refine WL_take rfl ?_
            refine s_eql rfl rfl rfl ?_
            refine WL_take rfl ?_
            refine s_move rfl rfl ?_
            refine WL_case (s := 43) rfl (fun hg43 => ?_) (fun hg43 => ?_)
            · skip
              simp only [decide_eq_true_eq, decide_eq_false_iff_not, beq_iff_eq, beq_eq_false_iff_ne, bne_iff_ne, bne_eq_false_iff_eq, ne_eq, Bool.not_eq_true', Bool.not_eq_false', Bool.not_eq_true, Bool.not_eq_false, ge_iff_le, gt_iff_lt] at hg43
              refine WL_skip rfl rfl rfl ?_
              refine WL_skip rfl rfl rfl ?_
              refine WL_take rfl ?_
              refine s_pick_t rfl rfl rfl ?_
              refine s_pick_t rfl rfl rfl ?_
              refine WL_nil ?_
              refine n_then ?_
              refine W_cond_t rfl ?_
              refine W_seq ?_
              refine W_region ?_
              refine s_assign rfl rfl ?_
              refine WL_nil ?_
              refine n_then ?_
              refine W_ret ?_
              refine r_blk ?_
              refine r_then ?_
              refine r_then ?_
              refine r_blk ?_
              refine r_then ?_
              first
                | exact end1 rfl rfl ⟨rfl, congrArg Value.bool (by symm; rw [decide_eq_false_iff_not]; rintro ⟨h1, h2, h3⟩; have h4 := h3 p hpl; rw [hcc] at h4; unfold okP at h4; omega)⟩
            · skip
              simp only [decide_eq_true_eq, decide_eq_false_iff_not, beq_iff_eq, beq_eq_false_iff_ne, bne_iff_ne, bne_eq_false_iff_eq, ne_eq, Bool.not_eq_true', Bool.not_eq_false', Bool.not_eq_true, Bool.not_eq_false, ge_iff_le, gt_iff_lt] at hg43
              refine WL_take rfl ?_
              refine s_move rfl rfl ?_
              refine WL_take rfl ?_
              refine s_not rfl rfl ?_
              refine WL_take rfl ?_
              refine s_pick_f rfl rfl rfl ?_
              refine s_pick_t rfl rfl rfl ?_
              refine WL_nil ?_
              refine n_then ?_
              refine W_cond rfl (fun hc47 => ?_) (fun hc47 => ?_)
              · skip
                simp only [decide_eq_true_eq, decide_eq_false_iff_not, beq_iff_eq, beq_eq_false_iff_ne, bne_iff_ne, bne_eq_false_iff_eq, ne_eq, Bool.not_eq_true', Bool.not_eq_false', Bool.not_eq_true, Bool.not_eq_false, ge_iff_le, gt_iff_lt] at hc47
                refine W_seq ?_
                refine W_region ?_
                refine s_assign rfl rfl ?_
                refine WL_nil ?_
                refine n_then ?_
                refine W_ret ?_
                refine r_blk ?_
                refine r_then ?_
                refine r_then ?_
                refine r_blk ?_
                refine r_then ?_
                first
                  | exact end1 rfl rfl ⟨rfl, congrArg Value.bool (by symm; rw [decide_eq_false_iff_not]; rintro ⟨h1, h2, h3⟩; have h4 := h3 p hpl; rw [hcc] at h4; unfold okP at h4; omega)⟩
              · skip
                simp only [decide_eq_true_eq, decide_eq_false_iff_not, beq_iff_eq, beq_eq_false_iff_ne, bne_iff_ne, bne_eq_false_iff_eq, ne_eq, Bool.not_eq_true', Bool.not_eq_false', Bool.not_eq_true, Bool.not_eq_false, ge_iff_le, gt_iff_lt] at hc47
                refine W_skip ?_
                refine n_blk ?_
                refine n_then ?_
                refine W_region ?_
                refine s_move rfl rfl ?_
                first | (refine s_add' rfl rfl rfl ?hx ?_; case hx => (constructor <;> first | omega | (simp only; omega)))
                refine s_assign rfl rfl ?_
                refine WL_nil ?_
                refine n_loop ?_
                have hk : okP p cc := by unfold okP; omega
                refine ⟨p + 1, ⟨rfl, rfl, trivial⟩, ⟨rfl, by omega, fun i h hi => ?_⟩, by omega⟩
                rcases Nat.lt_or_ge i p with h1 | h1
                · exact hok i h h1
                · obtain rfl : i = p := by omega
                  rw [hcc]; exact hk
          · skip
            simp only [decide_eq_true_eq, decide_eq_false_iff_not, beq_iff_eq, beq_eq_false_iff_ne, bne_iff_ne, bne_eq_false_iff_eq, ne_eq, Bool.not_eq_true', Bool.not_eq_false', Bool.not_eq_true, Bool.not_eq_false, ge_iff_le, gt_iff_lt] at hg40
            refine WL_skip rfl rfl rfl ?_
            refine WL_skip rfl rfl rfl ?_
            refine WL_skip rfl rfl rfl ?_
            refine WL_skipU rfl rfl ?_
            refine WL_skipU rfl rfl ?_
            refine WL_skip rfl rfl rfl ?_
            refine s_pick_f rfl rfl rfl ?_
            refine WL_nil ?_
            refine n_then ?_
            refine W_cond_f rfl ?_
            refine W_skip ?_
            refine n_blk ?_
            refine n_then ?_
            refine W_region ?_
            refine s_move rfl rfl ?_
            first | (refine s_add' rfl rfl rfl ?hx ?_; case hx => (constructor <;> first | omega | (simp only; omega)))
            refine s_assign rfl rfl ?_
            refine WL_nil ?_
            refine n_loop ?_
            have hk : okP p cc := by unfold okP; omega
            refine ⟨p + 1, ⟨rfl, rfl, trivial⟩, ⟨rfl, by omega, fun i h hi => ?_⟩, by omega⟩
            rcases Nat.lt_or_ge i p with h1 | h1
            · exact hok i h h1
            · obtain rfl : i = p := by omega
              rw [hcc]; exact hk
      · skip
        simp only [decide_eq_true_eq, decide_eq_false_iff_not, beq_iff_eq, beq_eq_false_iff_ne, bne_iff_ne, bne_eq_false_iff_eq, ne_eq, Bool.not_eq_true', Bool.not_eq_false', Bool.not_eq_true, Bool.not_eq_false, ge_iff_le, gt_iff_lt] at hc16
        refine W_exit ?_
        refine x_then ?_
        refine x_then ?_
        refine exit_hit ?_
        refine n_then ?_
        refine W_seq ?_
        refine W_region ?_
        refine s_assign rfl rfl ?_
        refine WL_nil ?_
        refine n_then ?_
        refine W_ret ?_
        first
          | exact end1 rfl rfl ⟨rfl, congrArg Value.bool (by symm; rw [decide_eq_true_eq]; exact ⟨by omega, by omega, fun i h => hok i h (by omega)⟩)⟩
set_option maxHeartbeats 1000000 in
theorem fValid_ok (g : Bool) (x : Lz) (a : Option Addr) (n c : Nat) (w0 : World) :
    Ret Try.prog 55 [.agg #[.bool g, .string x.rule, .int .i64 x.holder, .int .i64 x.token, .int .i64 x.til, .slice a n c]].toArray w0 fun r w' => Fwd [] w0 w' ∧ r = .bool (decide (validP g x n)) := by
  refine Ret_start fun w hs => ?_
  refine Ret_of Try.func55 rfl Try.ntmps55 rfl ?_
  refine W_seq ?_
  refine W_region ?_
  first | refine s_box rfl rfl hs ?_
  clear hs; intro b1 w hs
  refine s_assign rfl rfl ?_
  refine WL_nil ?_
  refine n_then ?_
  refine W_seq ?_
  refine W_region ?_
  refine s_fieldAddr rfl rfl (FA52_1 _ _) ?_
  first
    | refine s_load_4 Try.isAgg33 Try.sizeOf33 rfl rfl (by first | exact hs.cell (k := 0) rfl rfl | exact hs.cell (k := 1) rfl rfl | exact hs.cell (k := 2) rfl rfl) (by first | exact hs.cell (k := 0) rfl rfl | exact hs.cell (k := 1) rfl rfl | exact hs.cell (k := 2) rfl rfl) (by first | exact hs.cell (k := 0) rfl rfl | exact hs.cell (k := 1) rfl rfl | exact hs.cell (k := 2) rfl rfl) (by first | exact hs.cell (k := 0) rfl rfl | exact hs.cell (k := 1) rfl rfl | exact hs.cell (k := 2) rfl rfl) ?_
  refine s_alloc rfl AL33 hs ?_; clear hs; intro b3 w hs
  first
    | refine s_storeW Try.sizeOf33 rfl rfl rfl rfl hs (kk := 0) rfl rfl ?_
  clear hs; intro w hs; try simp only [List.set_cons_zero, List.set_cons_succ, splice, List.take_succ_cons, List.take_zero, List.drop_succ_cons, List.drop_zero, List.nil_append, List.cons_append, List.length_cons, List.length_nil, Nat.reduceAdd, List.append_assoc] at hs
  refine WL_nil ?_
  refine n_then ?_
  refine W_seq ?_
  refine W_region ?_
  refine s_fieldAddr rfl rfl (FA33_0 _ _) ?_
  first
    | refine s_load Try.isAgg9 rfl rfl (hs.cell (k := 0) rfl rfl) ?_
  refine s_call Try.call74 rfl rfl (fName_ok x.rule w) ?_
  rintro r w1 ⟨hw1, rfl⟩
  rw [hw1]; clear hw1 w1
  refine s_assign rfl rfl ?_
  refine WL_nil ?_
  refine n_then ?_
  refine W_seq ?_
  refine W_region ?_
  refine s_move rfl rfl ?_
  refine s_move rfl rfl ?_
  refine WL_case (s := 11) rfl (fun hg11 => ?_) (fun hg11 => ?_)
  · skip
    simp only [decide_eq_true_eq, decide_eq_false_iff_not, beq_iff_eq, beq_eq_false_iff_ne, ne_eq, Bool.not_eq_true', Bool.not_eq_false', ge_iff_le] at hg11
    refine WL_take rfl ?_
    refine s_fieldAddr rfl rfl (FA33_1 _ _) ?_
    refine WL_take rfl ?_
    first
      | refine s_load Try.isAgg3 rfl rfl (hs.cell (k := 0) rfl rfl) ?_
    refine WL_take rfl ?_
    refine s_geq rfl rfl rfl ?_
    refine s_pick_t rfl rfl rfl ?_
    refine s_move rfl rfl ?_
    refine WL_case (s := 16) rfl (fun hg16 => ?_) (fun hg16 => ?_)
    · skip
      simp only [decide_eq_true_eq, decide_eq_false_iff_not, beq_iff_eq, beq_eq_false_iff_ne, ne_eq, Bool.not_eq_true', Bool.not_eq_false', ge_iff_le] at hg16
      refine WL_take rfl ?_
      refine s_fieldAddr rfl rfl (FA33_1 _ _) ?_
      refine WL_take rfl ?_
      first
        | refine s_load Try.isAgg3 rfl rfl (hs.cell (k := 0) rfl rfl) ?_
      refine WL_take rfl ?_
      refine s_lss rfl rfl rfl ?_
      refine s_pick_t rfl rfl rfl ?_
      refine s_move rfl rfl ?_
      refine WL_case (s := 21) rfl (fun hg21 => ?_) (fun hg21 => ?_)
      · skip
        simp only [decide_eq_true_eq, decide_eq_false_iff_not, beq_iff_eq, beq_eq_false_iff_ne, ne_eq, Bool.not_eq_true', Bool.not_eq_false', ge_iff_le] at hg21
        refine WL_take rfl ?_
        refine s_fieldAddr rfl rfl (FA33_2 _ _) ?_
        refine WL_take rfl ?_
        first
          | refine s_load Try.isAgg3 rfl rfl (hs.cell (k := 0) rfl rfl) ?_
        refine WL_take rfl ?_
        refine s_geq rfl rfl rfl ?_
        refine s_pick_t rfl rfl rfl ?_
        refine s_move rfl rfl ?_
        refine WL_case (s := 26) rfl (fun hg26 => ?_) (fun hg26 => ?_)
        · skip
          simp only [decide_eq_true_eq, decide_eq_false_iff_not, beq_iff_eq, beq_eq_false_iff_ne, ne_eq, Bool.not_eq_true', Bool.not_eq_false', ge_iff_le] at hg26
          refine WL_take rfl ?_
          refine s_fieldAddr rfl rfl (FA33_2 _ _) ?_
          refine WL_take rfl ?_
          first
            | refine s_load Try.isAgg3 rfl rfl (hs.cell (k := 0) rfl rfl) ?_
          refine WL_take rfl ?_
          refine s_leq rfl rfl rfl ?_
          refine s_pick_t rfl rfl rfl ?_
          refine s_move rfl rfl ?_
          refine WL_case (s := 31) rfl (fun hg31 => ?_) (fun hg31 => ?_)
          · skip
            simp only [decide_eq_true_eq, decide_eq_false_iff_not, beq_iff_eq, beq_eq_false_iff_ne, ne_eq, Bool.not_eq_true', Bool.not_eq_false', ge_iff_le] at hg31
            refine WL_take rfl ?_
            refine s_fieldAddr rfl rfl (FA33_3 _ _) ?_
            refine WL_take rfl ?_
            first
              | refine s_load Try.isAgg3 rfl rfl (hs.cell (k := 0) rfl rfl) ?_
            refine WL_take rfl ?_
            refine s_geq rfl rfl rfl ?_
            refine s_pick_t rfl rfl rfl ?_
            refine s_move rfl rfl ?_
            refine WL_case (s := 36) rfl (fun hg36 => ?_) (fun hg36 => ?_)
            · skip
              simp only [decide_eq_true_eq, decide_eq_false_iff_not, beq_iff_eq, beq_eq_false_iff_ne, ne_eq, Bool.not_eq_true', Bool.not_eq_false', ge_iff_le] at hg36
              refine WL_take rfl ?_
              refine s_fieldAddr rfl rfl (FA33_3 _ _) ?_
              refine WL_take rfl ?_
              first
                | refine s_load Try.isAgg3 rfl rfl (hs.cell (k := 0) rfl rfl) ?_
              refine WL_take rfl ?_
              refine s_leq rfl rfl rfl ?_
              refine s_pick_t rfl rfl rfl ?_
              refine s_move rfl rfl ?_
              refine WL_case (s := 41) rfl (fun hg41 => ?_) (fun hg41 => ?_)
              · skip
                simp only [decide_eq_true_eq, decide_eq_false_iff_not, beq_iff_eq, beq_eq_false_iff_ne, ne_eq, Bool.not_eq_true', Bool.not_eq_false', ge_iff_le] at hg41
                refine WL_take rfl ?_
                refine s_fieldAddr rfl rfl (FA52_2 _ _) ?_
                refine WL_take rfl ?_
                first
                  | refine s_load Try.isAgg22 rfl rfl (hs.cell (k := 1) rfl rfl) ?_
                refine WL_take rfl ?_
                refine s_len rfl rfl (LN22 _ _ _ _) ?_
                refine WL_take rfl ?_
                refine s_leq rfl rfl rfl ?_
                refine s_pick_t rfl rfl rfl ?_
                refine s_move rfl rfl ?_
                refine WL_case (s := 47) rfl (fun hg47 => ?_) (fun hg47 => ?_)
                · skip
                  simp only [decide_eq_true_eq, decide_eq_false_iff_not, beq_iff_eq, beq_eq_false_iff_ne, ne_eq, Bool.not_eq_true', Bool.not_eq_false', ge_iff_le] at hg47
                  refine WL_take rfl ?_
                  refine s_fieldAddr rfl rfl (FA52_0 _ _) ?_
                  refine WL_take rfl ?_
                  first
                    | refine s_load Try.isAgg4 rfl rfl (hs.cell (k := 1) rfl rfl) ?_
                  refine WL_take rfl ?_
                  refine s_not rfl rfl ?_
                  refine WL_take rfl ?_
                  refine s_move rfl rfl ?_
                  refine WL_case (s := 51) rfl (fun hg51 => ?_) (fun hg51 => ?_)
                  · skip
                    simp only [decide_eq_true_eq, decide_eq_false_iff_not, beq_iff_eq, beq_eq_false_iff_ne, ne_eq, Bool.not_eq_true', Bool.not_eq_false', ge_iff_le] at hg51
                    refine WL_skip rfl rfl rfl ?_
                    refine WL_skip rfl rfl rfl ?_
                    refine WL_skip rfl rfl rfl ?_
                    refine WL_skip rfl rfl rfl ?_
                    refine WL_take rfl ?_
                    refine s_pick_t rfl rfl rfl ?_
                    refine s_pick_t rfl rfl rfl ?_
                    refine s_assign rfl rfl ?_
                    refine WL_nil ?_
                    refine n_then ?_
                    refine W_ret ?_
                    refine end1 rfl rfl ⟨hs.fwd, congrArg Value.bool ?_⟩
                    first
                      | (symm; rw [decide_eq_true_eq]; refine ⟨‹_›, ?_, ?_, ?_, ?_, ?_⟩ <;> first | omega | (left; assumption))
                  · skip
                    simp only [decide_eq_true_eq, decide_eq_false_iff_not, beq_iff_eq, beq_eq_false_iff_ne, ne_eq, Bool.not_eq_true', Bool.not_eq_false', ge_iff_le] at hg51
                    refine WL_take rfl ?_
                    refine s_fieldAddr rfl rfl (FA52_2 _ _) ?_
                    refine WL_take rfl ?_
                    first
                      | refine s_load Try.isAgg22 rfl rfl (hs.cell (k := 1) rfl rfl) ?_
                    refine WL_take rfl ?_
                    refine s_len rfl rfl (LN22 _ _ _ _) ?_
                    refine WL_take rfl ?_
                    refine s_eql rfl rfl rfl ?_
                    refine WL_take rfl ?_
                    refine s_pick_f rfl rfl rfl ?_
                    refine s_pick_t rfl rfl rfl ?_
                    refine s_assign rfl rfl ?_
                    refine WL_nil ?_
                    refine n_then ?_
                    refine W_ret ?_
                    refine end1 rfl rfl ⟨hs.fwd, congrArg Value.bool ?_⟩
                    first
                      | (symm; rw [decide_eq_false_iff_not]; rintro ⟨h1, h2, h3, h4, h5, h6⟩; first | omega | exact absurd h1 ‹_›)
                      | (symm; rw [decide_eq_true_eq]; refine ⟨‹_›, ?_, ?_, ?_, ?_, ?_⟩ <;> first | omega | (left; assumption))
                      | (rw [Bool.eq_iff_iff]; simp only [decide_eq_true_eq, validP]; constructor <;> intro h <;> first | (refine ⟨‹_›, ?_, ?_, ?_, ?_, ?_⟩ <;> first | omega | (simp_all; omega) | simp_all) | (simp_all; done) | (simp_all; omega))
                · skip
                  simp only [decide_eq_true_eq, decide_eq_false_iff_not, beq_iff_eq, beq_eq_false_iff_ne, ne_eq, Bool.not_eq_true', Bool.not_eq_false', ge_iff_le] at hg47
                  refine WL_skip rfl rfl rfl ?_
                  refine WL_skip rfl rfl rfl ?_
                  refine WL_skip rfl rfl rfl ?_
                  refine WL_skip rfl rfl rfl ?_
                  refine WL_skipU rfl rfl ?_
                  refine WL_skipU rfl rfl ?_
                  refine WL_skipU rfl rfl ?_
                  refine WL_skipU rfl rfl ?_
                  refine WL_skip rfl rfl rfl ?_
                  refine s_pick_f rfl rfl rfl ?_
                  refine s_assign rfl rfl ?_
                  refine WL_nil ?_
                  refine n_then ?_
                  refine W_ret ?_
                  refine end1 rfl rfl ⟨hs.fwd, congrArg Value.bool ?_⟩
                  first
                    | (symm; rw [decide_eq_false_iff_not]; rintro ⟨h1, h2, h3, h4, h5, h6⟩; first | omega | exact absurd h1 ‹_›)
                    | (symm; rw [decide_eq_true_eq]; refine ⟨‹_›, ?_, ?_, ?_, ?_, ?_⟩ <;> first | omega | (left; assumption))
                    | (rw [Bool.eq_iff_iff]; simp only [decide_eq_true_eq, validP]; constructor <;> intro h <;> first | (refine ⟨‹_›, ?_, ?_, ?_, ?_, ?_⟩ <;> first | omega | (simp_all; omega) | simp_all) | (simp_all; done) | (simp_all; omega))
              · skip
                simp only [decide_eq_true_eq, decide_eq_false_iff_not, beq_iff_eq, beq_eq_false_iff_ne, ne_eq, Bool.not_eq_true', Bool.not_eq_false', ge_iff_le] at hg41
                refine WL_skip rfl rfl rfl ?_
                refine WL_skip rfl rfl rfl ?_
                refine WL_skip rfl rfl rfl ?_
                refine WL_skip rfl rfl rfl ?_
                refine s_pick_f rfl rfl rfl ?_
                refine s_move rfl rfl ?_
                refine WL_skip rfl rfl rfl ?_
                refine WL_skip rfl rfl rfl ?_
                refine WL_skip rfl rfl rfl ?_
                refine WL_skip rfl rfl rfl ?_
                refine WL_skipU rfl rfl ?_
                refine WL_skipU rfl rfl ?_
                refine WL_skipU rfl rfl ?_
                refine WL_skipU rfl rfl ?_
                refine WL_skip rfl rfl rfl ?_
                refine s_pick_f rfl rfl rfl ?_
                refine s_assign rfl rfl ?_
                refine WL_nil ?_
                refine n_then ?_
                refine W_ret ?_
                refine end1 rfl rfl ⟨hs.fwd, congrArg Value.bool ?_⟩
                first
                  | (symm; rw [decide_eq_false_iff_not]; rintro ⟨h1, h2, h3, h4, h5, h6⟩; first | omega | exact absurd h1 ‹_›)
                  | (symm; rw [decide_eq_true_eq]; refine ⟨‹_›, ?_, ?_, ?_, ?_, ?_⟩ <;> first | omega | (left; assumption))
                  | (rw [Bool.eq_iff_iff]; simp only [decide_eq_true_eq, validP]; constructor <;> intro h <;> first | (refine ⟨‹_›, ?_, ?_, ?_, ?_, ?_⟩ <;> first | omega | (simp_all; omega) | simp_all) | (simp_all; done) | (simp_all; omega))
            · skip
              simp only [decide_eq_true_eq, decide_eq_false_iff_not, beq_iff_eq, beq_eq_false_iff_ne, ne_eq, Bool.not_eq_true', Bool.not_eq_false', ge_iff_le] at hg36
              refine WL_skip rfl rfl rfl ?_
              refine WL_skip rfl rfl rfl ?_
              refine WL_skip rfl rfl rfl ?_
              refine s_pick_f rfl rfl rfl ?_
              refine s_move rfl rfl ?_
              refine WL_skip rfl rfl rfl ?_
              refine WL_skip rfl rfl rfl ?_
              refine WL_skip rfl rfl rfl ?_
              refine WL_skip rfl rfl rfl ?_
              refine s_pick_f rfl rfl rfl ?_
              refine s_move rfl rfl ?_
              refine WL_skip rfl rfl rfl ?_
              refine WL_skip rfl rfl rfl ?_
              refine WL_skip rfl rfl rfl ?_
              refine WL_skip rfl rfl rfl ?_
              refine WL_skipU rfl rfl ?_
              refine WL_skipU rfl rfl ?_
              refine WL_skipU rfl rfl ?_
              refine WL_skipU rfl rfl ?_
              refine WL_skip rfl rfl rfl ?_
              refine s_pick_f rfl rfl rfl ?_
              refine s_assign rfl rfl ?_
              refine WL_nil ?_
              refine n_then ?_
              refine W_ret ?_
              refine end1 rfl rfl ⟨hs.fwd, congrArg Value.bool ?_⟩
              first
                | (symm; rw [decide_eq_false_iff_not]; rintro ⟨h1, h2, h3, h4, h5, h6⟩; first | omega | exact absurd h1 ‹_›)
                | (symm; rw [decide_eq_true_eq]; refine ⟨‹_›, ?_, ?_, ?_, ?_, ?_⟩ <;> first | omega | (left; assumption))
                | (rw [Bool.eq_iff_iff]; simp only [decide_eq_true_eq, validP]; constructor <;> intro h <;> first | (refine ⟨‹_›, ?_, ?_, ?_, ?_, ?_⟩ <;> first | omega | (simp_all; omega) | simp_all) | (simp_all; done) | (simp_all; omega))
          · skip
            simp only [decide_eq_true_eq, decide_eq_false_iff_not, beq_iff_eq, beq_eq_false_iff_ne, ne_eq, Bool.not_eq_true', Bool.not_eq_false', ge_iff_le] at hg31
            refine WL_skip rfl rfl rfl ?_
            refine WL_skip rfl rfl rfl ?_
            refine WL_skip rfl rfl rfl ?_
            refine s_pick_f rfl rfl rfl ?_
            refine s_move rfl rfl ?_
            refine WL_skip rfl rfl rfl ?_
            refine WL_skip rfl rfl rfl ?_
            refine WL_skip rfl rfl rfl ?_
            refine s_pick_f rfl rfl rfl ?_
            refine s_move rfl rfl ?_
            refine WL_skip rfl rfl rfl ?_
            refine WL_skip rfl rfl rfl ?_
            refine WL_skip rfl rfl rfl ?_
            refine WL_skip rfl rfl rfl ?_
            refine s_pick_f rfl rfl rfl ?_
            refine s_move rfl rfl ?_
            refine WL_skip rfl rfl rfl ?_
            refine WL_skip rfl rfl rfl ?_
            refine WL_skip rfl rfl rfl ?_
            refine WL_skip rfl rfl rfl ?_
            refine WL_skipU rfl rfl ?_
            refine WL_skipU rfl rfl ?_
            refine WL_skipU rfl rfl ?_
            refine WL_skipU rfl rfl ?_
            refine WL_skip rfl rfl rfl ?_
            refine s_pick_f rfl rfl rfl ?_
            refine s_assign rfl rfl ?_
            refine WL_nil ?_
            refine n_then ?_
            refine W_ret ?_
            refine end1 rfl rfl ⟨hs.fwd, congrArg Value.bool ?_⟩
            first
              | (symm; rw [decide_eq_false_iff_not]; rintro ⟨h1, h2, h3, h4, h5, h6⟩; first | omega | exact absurd h1 ‹_›)
              | (symm; rw [decide_eq_true_eq]; refine ⟨‹_›, ?_, ?_, ?_, ?_, ?_⟩ <;> first | omega | (left; assumption))
              | (rw [Bool.eq_iff_iff]; simp only [decide_eq_true_eq, validP]; constructor <;> intro h <;> first | (refine ⟨‹_›, ?_, ?_, ?_, ?_, ?_⟩ <;> first | omega | (simp_all; omega) | simp_all) | (simp_all; done) | (simp_all; omega))
        · skip
          simp only [decide_eq_true_eq, decide_eq_false_iff_not, beq_iff_eq, beq_eq_false_iff_ne, ne_eq, Bool.not_eq_true', Bool.not_eq_false', ge_iff_le] at hg26
          refine WL_skip rfl rfl rfl ?_
          refine WL_skip rfl rfl rfl ?_
          refine WL_skip rfl rfl rfl ?_
          refine s_pick_f rfl rfl rfl ?_
          refine s_move rfl rfl ?_
          refine WL_skip rfl rfl rfl ?_
          refine WL_skip rfl rfl rfl ?_
          refine WL_skip rfl rfl rfl ?_
          refine s_pick_f rfl rfl rfl ?_
          refine s_move rfl rfl ?_
          refine WL_skip rfl rfl rfl ?_
          refine WL_skip rfl rfl rfl ?_
          refine WL_skip rfl rfl rfl ?_
          refine s_pick_f rfl rfl rfl ?_
          refine s_move rfl rfl ?_
          refine WL_skip rfl rfl rfl ?_
          refine WL_skip rfl rfl rfl ?_
          refine WL_skip rfl rfl rfl ?_
          refine WL_skip rfl rfl rfl ?_
          refine s_pick_f rfl rfl rfl ?_
          refine s_move rfl rfl ?_
          refine WL_skip rfl rfl rfl ?_
          refine WL_skip rfl rfl rfl ?_
          refine WL_skip rfl rfl rfl ?_
          refine WL_skip rfl rfl rfl ?_
          refine WL_skipU rfl rfl ?_
          refine WL_skipU rfl rfl ?_
          refine WL_skipU rfl rfl ?_
          refine WL_skipU rfl rfl ?_
          refine WL_skip rfl rfl rfl ?_
          refine s_pick_f rfl rfl rfl ?_
          refine s_assign rfl rfl ?_
          refine WL_nil ?_
          refine n_then ?_
          refine W_ret ?_
          refine end1 rfl rfl ⟨hs.fwd, congrArg Value.bool ?_⟩
          first
            | (symm; rw [decide_eq_false_iff_not]; rintro ⟨h1, h2, h3, h4, h5, h6⟩; first | omega | exact absurd h1 ‹_›)
            | (symm; rw [decide_eq_true_eq]; refine ⟨‹_›, ?_, ?_, ?_, ?_, ?_⟩ <;> first | omega | (left; assumption))
            | (rw [Bool.eq_iff_iff]; simp only [decide_eq_true_eq, validP]; constructor <;> intro h <;> first | (refine ⟨‹_›, ?_, ?_, ?_, ?_, ?_⟩ <;> first | omega | (simp_all; omega) | simp_all) | (simp_all; done) | (simp_all; omega))
      · skip
        simp only [decide_eq_true_eq, decide_eq_false_iff_not, beq_iff_eq, beq_eq_false_iff_ne, ne_eq, Bool.not_eq_true', Bool.not_eq_false', ge_iff_le] at hg21
        refine WL_skip rfl rfl rfl ?_
        refine WL_skip rfl rfl rfl ?_
        refine WL_skip rfl rfl rfl ?_
        refine s_pick_f rfl rfl rfl ?_
        refine s_move rfl rfl ?_
        refine WL_skip rfl rfl rfl ?_
        refine WL_skip rfl rfl rfl ?_
        refine WL_skip rfl rfl rfl ?_
        refine s_pick_f rfl rfl rfl ?_
        refine s_move rfl rfl ?_
        refine WL_skip rfl rfl rfl ?_
        refine WL_skip rfl rfl rfl ?_
        refine WL_skip rfl rfl rfl ?_
        refine s_pick_f rfl rfl rfl ?_
        refine s_move rfl rfl ?_
        refine WL_skip rfl rfl rfl ?_
        refine WL_skip rfl rfl rfl ?_
        refine WL_skip rfl rfl rfl ?_
        refine s_pick_f rfl rfl rfl ?_
        refine s_move rfl rfl ?_
        refine WL_skip rfl rfl rfl ?_
        refine WL_skip rfl rfl rfl ?_
        refine WL_skip rfl rfl rfl ?_
        refine WL_skip rfl rfl rfl ?_
        refine s_pick_f rfl rfl rfl ?_
        refine s_move rfl rfl ?_
        refine WL_skip rfl rfl rfl ?_
        refine WL_skip rfl rfl rfl ?_
        refine WL_skip rfl rfl rfl ?_
        refine WL_skip rfl rfl rfl ?_
        refine WL_skipU rfl rfl ?_
        refine WL_skipU rfl rfl ?_
        refine WL_skipU rfl rfl ?_
        refine WL_skipU rfl rfl ?_
        refine WL_skip rfl rfl rfl ?_
        refine s_pick_f rfl rfl rfl ?_
        refine s_assign rfl rfl ?_
        refine WL_nil ?_
        refine n_then ?_
        refine W_ret ?_
        refine end1 rfl rfl ⟨hs.fwd, congrArg Value.bool ?_⟩
        first
          | (symm; rw [decide_eq_false_iff_not]; rintro ⟨h1, h2, h3, h4, h5, h6⟩; first | omega | exact absurd h1 ‹_›)
          | (symm; rw [decide_eq_true_eq]; refine ⟨‹_›, ?_, ?_, ?_, ?_, ?_⟩ <;> first | omega | (left; assumption))
          | (rw [Bool.eq_iff_iff]; simp only [decide_eq_true_eq, validP]; constructor <;> intro h <;> first | (refine ⟨‹_›, ?_, ?_, ?_, ?_, ?_⟩ <;> first | omega | (simp_all; omega) | simp_all) | (simp_all; done) | (simp_all; omega))
    · skip
      simp only [decide_eq_true_eq, decide_eq_false_iff_not, beq_iff_eq, beq_eq_false_iff_ne, ne_eq, Bool.not_eq_true', Bool.not_eq_false', ge_iff_le] at hg16
      refine WL_skip rfl rfl rfl ?_
      refine WL_skip rfl rfl rfl ?_
      refine WL_skip rfl rfl rfl ?_
      refine s_pick_f rfl rfl rfl ?_
      refine s_move rfl rfl ?_
      refine WL_skip rfl rfl rfl ?_
      refine WL_skip rfl rfl rfl ?_
      refine WL_skip rfl rfl rfl ?_
      refine s_pick_f rfl rfl rfl ?_
      refine s_move rfl rfl ?_
      refine WL_skip rfl rfl rfl ?_
      refine WL_skip rfl rfl rfl ?_
      refine WL_skip rfl rfl rfl ?_
      refine s_pick_f rfl rfl rfl ?_
      refine s_move rfl rfl ?_
      refine WL_skip rfl rfl rfl ?_
      refine WL_skip rfl rfl rfl ?_
      refine WL_skip rfl rfl rfl ?_
      refine s_pick_f rfl rfl rfl ?_
      refine s_move rfl rfl ?_
      refine WL_skip rfl rfl rfl ?_
      refine WL_skip rfl rfl rfl ?_
      refine WL_skip rfl rfl rfl ?_
      refine s_pick_f rfl rfl rfl ?_
      refine s_move rfl rfl ?_
      refine WL_skip rfl rfl rfl ?_
      refine WL_skip rfl rfl rfl ?_
      refine WL_skip rfl rfl rfl ?_
      refine WL_skip rfl rfl rfl ?_
      refine s_pick_f rfl rfl rfl ?_
      refine s_move rfl rfl ?_
      refine WL_skip rfl rfl rfl ?_
      refine WL_skip rfl rfl rfl ?_
      refine WL_skip rfl rfl rfl ?_
      refine WL_skip rfl rfl rfl ?_
      refine WL_skipU rfl rfl ?_
      refine WL_skipU rfl rfl ?_
      refine WL_skipU rfl rfl ?_
      refine WL_skipU rfl rfl ?_
      refine WL_skip rfl rfl rfl ?_
      refine s_pick_f rfl rfl rfl ?_
      refine s_assign rfl rfl ?_
      refine WL_nil ?_
      refine n_then ?_
      refine W_ret ?_
      refine end1 rfl rfl ⟨hs.fwd, congrArg Value.bool ?_⟩
      first
        | (symm; rw [decide_eq_false_iff_not]; rintro ⟨h1, h2, h3, h4, h5, h6⟩; first | omega | exact absurd h1 ‹_›)
        | (symm; rw [decide_eq_true_eq]; refine ⟨‹_›, ?_, ?_, ?_, ?_, ?_⟩ <;> first | omega | (left; assumption))
        | (rw [Bool.eq_iff_iff]; simp only [decide_eq_true_eq, validP]; constructor <;> intro h <;> first | (refine ⟨‹_›, ?_, ?_, ?_, ?_, ?_⟩ <;> first | omega | (simp_all; omega) | simp_all) | (simp_all; done) | (simp_all; omega))
  · skip
    simp only [decide_eq_true_eq, decide_eq_false_iff_not, beq_iff_eq, beq_eq_false_iff_ne, ne_eq, Bool.not_eq_true', Bool.not_eq_false', ge_iff_le] at hg11
    refine WL_skip rfl rfl rfl ?_
    refine WL_skip rfl rfl rfl ?_
    refine WL_skip rfl rfl rfl ?_
    refine s_pick_f rfl rfl rfl ?_
    refine s_move rfl rfl ?_
    refine WL_skip rfl rfl rfl ?_
    refine WL_skip rfl rfl rfl ?_
    refine WL_skip rfl rfl rfl ?_
    refine s_pick_f rfl rfl rfl ?_
    refine s_move rfl rfl ?_
    refine WL_skip rfl rfl rfl ?_
    refine WL_skip rfl rfl rfl ?_
    refine WL_skip rfl rfl rfl ?_
    refine s_pick_f rfl rfl rfl ?_
    refine s_move rfl rfl ?_
    refine WL_skip rfl rfl rfl ?_
    refine WL_skip rfl rfl rfl ?_
    refine WL_skip rfl rfl rfl ?_
    refine s_pick_f rfl rfl rfl ?_
    refine s_move rfl rfl ?_
    refine WL_skip rfl rfl rfl ?_
    refine WL_skip rfl rfl rfl ?_
    refine WL_skip rfl rfl rfl ?_
    refine s_pick_f rfl rfl rfl ?_
    refine s_move rfl rfl ?_
    refine WL_skip rfl rfl rfl ?_
    refine WL_skip rfl rfl rfl ?_
    refine WL_skip rfl rfl rfl ?_
    refine s_pick_f rfl rfl rfl ?_
    refine s_move rfl rfl ?_
    refine WL_skip rfl rfl rfl ?_
    refine WL_skip rfl rfl rfl ?_
    refine WL_skip rfl rfl rfl ?_
    refine WL_skip rfl rfl rfl ?_
    refine s_pick_f rfl rfl rfl ?_
    refine s_move rfl rfl ?_
    refine WL_skip rfl rfl rfl ?_
    refine WL_skip rfl rfl rfl ?_
    refine WL_skip rfl rfl rfl ?_
    refine WL_skip rfl rfl rfl ?_
    refine WL_skipU rfl rfl ?_
    refine WL_skipU rfl rfl ?_
    refine WL_skipU rfl rfl ?_
    refine WL_skipU rfl rfl ?_
    refine WL_skip rfl rfl rfl ?_
    refine s_pick_f rfl rfl rfl ?_
    refine s_assign rfl rfl ?_
    refine WL_nil ?_
    refine n_then ?_
    refine W_ret ?_
    refine end1 rfl rfl ⟨hs.fwd, congrArg Value.bool ?_⟩
    first
      | (symm; rw [decide_eq_false_iff_not]; rintro ⟨h1, h2, h3, h4, h5, h6⟩; first | omega | exact absurd h1 ‹_›)
/-! the table -/
theorem Lz.cells_length (x : Lz) : x.cells.length = 4 := rfl
/-- a command that is read alone -/
structure RCmd where
  v : Value
  bs : List Int
  L : Hp
def RCmd.ok (c : RCmd) : Prop := RdS c.v c.bs.length (u8s c.bs) c.L ∧ c.bs.length ≤ 65536
end Go.Proofs.Ytkobigdfijeajaa
