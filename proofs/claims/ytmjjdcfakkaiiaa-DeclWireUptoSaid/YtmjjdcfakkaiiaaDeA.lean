/- Contracts of package labels and package decl. -/
import Derived.Test.YtmjjdcfakkaiiaaName
import Derived.Test.YtmjjdcfakkaiiaaBld
import Derived.Test.YtmjjdcfakkaiiaaCut
set_option linter.unusedVariables false
set_option linter.unusedSimpArgs false
namespace Go.Proofs.Ytmjjdcfakkaiiaa
open Go.SL
/-! labels -/
def okV (c : Nat) : Prop := 33 ≤ c ∧ c ≤ 126 ∧ c ≠ 34 ∧ c ≠ 92 ∧ c ≠ 44 ∧ c ≠ 123 ∧ c ≠ 125
instance (c : Nat) : Decidable (okV c) := by unfold okV; infer_instance
def valueP (s : ByteArray) : Prop := s.size ≤ 16 ∧ ∀ i, (h : i < s.size) → okV (s[i]'h).toNat
instance (s : ByteArray) : Decidable (valueP s) := by unfold valueP; infer_instance
set_option maxHeartbeats 1000000 in
theorem value_ok (s : ByteArray) (w0 : World) : Ret Try.prog 54 [.string s].toArray w0 fun r w' => Fwd [] w0 w' ∧ r = .bool (decide (valueP s)) := by
  refine Ret_start fun w hs => ?_
  refine Ret_of Try.func54 rfl Try.ntmps54 rfl ?_
  refine W_seq ?_
  refine W_region ?_
  refine s_assign rfl rfl ?_
  refine WL_nil ?_
  refine n_then ?_
  refine W_seq ?_
  refine W_seq ?_
  refine W_region ?_
  refine s_move rfl rfl ?_
  refine s_len rfl rfl (LN9 _ _) ?_
  refine s_gtr rfl rfl rfl ?_
  refine WL_nil ?_
  refine n_then ?_
  refine W_cond rfl (fun hc7 => ?_) (fun hc7 => ?_)
  · skip
    simp only [decide_eq_true_eq, decide_eq_false_iff_not, beq_iff_eq, beq_eq_false_iff_ne, bne_iff_ne, bne_eq_false_iff_eq, ne_eq, Bool.not_eq_true', Bool.not_eq_false', Bool.not_eq_true, Bool.not_eq_false, gt_iff_lt] at hc7
    refine W_seq ?_
    refine W_region ?_
    refine s_assign rfl rfl ?_
    refine WL_nil ?_
    refine n_then ?_
    refine W_ret ?_
    refine r_then ?_
    first
      | exact end1 rfl rfl ⟨hs.fwd, congrArg Value.bool (by symm; rw [decide_eq_false_iff_not]; rintro ⟨h1, _⟩; omega)⟩
      | exact end1 rfl rfl ⟨hs.fwd, congrArg Value.bool (by symm; rw [decide_eq_false_iff_not]; rintro ⟨h1, h3⟩; have h4 := h3 p hp; rw [hcc] at h4; unfold okV at h4; omega)⟩
      | exact end1 rfl rfl ⟨hs.fwd, congrArg Value.bool (by symm; rw [decide_eq_true_eq]; exact ⟨by omega, fun i h => hok i h (by omega)⟩)⟩
  · skip
    simp only [decide_eq_true_eq, decide_eq_false_iff_not, beq_iff_eq, beq_eq_false_iff_ne, bne_iff_ne, bne_eq_false_iff_eq, ne_eq, Bool.not_eq_true', Bool.not_eq_false', Bool.not_eq_true, Bool.not_eq_false, gt_iff_lt] at hc7
    refine W_skip ?_
    refine n_then ?_
    refine W_seq ?_
    refine W_seq ?_
    refine W_region ?_
    refine s_move rfl rfl ?_
    refine s_range_str Try.underlying9 rfl rfl hs ?_; clear hs; intro b9 w hs
    refine WL_nil ?_
    refine n_then ?_
    refine W_block ?_
    refine W_loop (σ := Nat) (fun p => [(0, .string s), (9, .pointer (some ⟨b9, 0, none⟩))]) (fun p w => St [] w0 w [(b9, .stringIter s p)] ∧ (∀ i, (h : i < s.size) → i < p → okV (s[i]'h).toNat)) (fun p => s.size - p) 0 ⟨rfl, rfl, trivial⟩ ⟨hs, by omega⟩ ?_
    clear hs
    intro p w ⟨hs, hok⟩
    refine W_seq ?_
    refine W_region ?_
    rcases Nat.lt_or_ge p s.size with hp | hp 
    · skip
      refine s_next_str rfl rfl hs (kk := 0) rfl hp ?_
      clear hs; intro w hs
      simp only [List.set_cons_zero] at hs
      have hdc := decode_case s p hp
      generalize hcc : (s[p]'hp).toNat = cc at hdc
      generalize Utf8.decode s p = dd at hdc hs ⊢
      obtain ⟨rn, wd⟩ := dd
      simp only [Prod.mk.injEq] at hdc hs ⊢
      refine s_extract rfl rfl rfl ?_
      refine WL_nil ?_
      refine n_then ?_
      refine W_seq ?_
      refine W_cond_kt rfl (rfl) ?_
      refine W_skip ?_
      refine n_then ?_
      refine W_block ?_
      refine W_seq ?_
      refine W_region ?_
      refine s_extract rfl rfl rfl ?_
      refine s_assign rfl rfl ?_
      refine WL_nil ?_
      refine n_then ?_
      refine W_seq ?_
      refine W_seq ?_
      refine W_region ?_
      refine s_move rfl rfl ?_
      refine s_lss rfl rfl rfl ?_
      refine s_move rfl rfl ?_
      refine WL_case (s := 15) rfl (fun hg15 => ?_) (fun hg15 => ?_)
      · skip
        simp only [decide_eq_true_eq, decide_eq_false_iff_not, beq_iff_eq, beq_eq_false_iff_ne, bne_iff_ne, bne_eq_false_iff_eq, ne_eq, Bool.not_eq_true', Bool.not_eq_false', Bool.not_eq_true, Bool.not_eq_false, gt_iff_lt] at hg15
        refine WL_skip rfl rfl rfl ?_
        refine WL_skip rfl rfl rfl ?_
        refine s_pick_t rfl rfl rfl ?_
        refine WL_nil ?_
        refine n_then ?_
        refine W_cond_t rfl ?_
        refine W_seq ?_
        refine W_region ?_
        refine s_assign rfl rfl ?_
        refine WL_nil ?_
        refine n_then ?_
        refine W_ret ?_
        refine r_then ?_
        refine r_blk ?_
        refine r_then ?_
        refine r_blk ?_
        refine r_then ?_
        first
          | exact end1 rfl rfl ⟨hs.fwd, congrArg Value.bool (by symm; rw [decide_eq_false_iff_not]; rintro ⟨h1, _⟩; omega)⟩
          | exact end1 rfl rfl ⟨hs.fwd, congrArg Value.bool (by symm; rw [decide_eq_false_iff_not]; rintro ⟨h1, h3⟩; have h4 := h3 p hp; rw [hcc] at h4; unfold okV at h4; omega)⟩
          | exact end1 rfl rfl ⟨hs.fwd, congrArg Value.bool (by symm; rw [decide_eq_true_eq]; exact ⟨by omega, fun i h => hok i h (by omega)⟩)⟩
      · skip
        simp only [decide_eq_true_eq, decide_eq_false_iff_not, beq_iff_eq, beq_eq_false_iff_ne, bne_iff_ne, bne_eq_false_iff_eq, ne_eq, Bool.not_eq_true', Bool.not_eq_false', Bool.not_eq_true, Bool.not_eq_false, gt_iff_lt] at hg15
        refine WL_take rfl ?_
        refine s_move rfl rfl ?_
        refine WL_take rfl ?_
        refine s_gtr rfl rfl rfl ?_
        refine s_pick_f rfl rfl rfl ?_
        refine WL_nil ?_
        refine n_then ?_
        refine W_cond rfl (fun hc18 => ?_) (fun hc18 => ?_)
        · skip
          simp only [decide_eq_true_eq, decide_eq_false_iff_not, beq_iff_eq, beq_eq_false_iff_ne, bne_iff_ne, bne_eq_false_iff_eq, ne_eq, Bool.not_eq_true', Bool.not_eq_false', Bool.not_eq_true, Bool.not_eq_false, gt_iff_lt] at hc18
          refine W_seq ?_
          refine W_region ?_
          refine s_assign rfl rfl ?_
          refine WL_nil ?_
          refine n_then ?_
          refine W_ret ?_
          refine r_then ?_
          refine r_blk ?_
          refine r_then ?_
          refine r_blk ?_
          refine r_then ?_
          first
            | exact end1 rfl rfl ⟨hs.fwd, congrArg Value.bool (by symm; rw [decide_eq_false_iff_not]; rintro ⟨h1, _⟩; omega)⟩
            | exact end1 rfl rfl ⟨hs.fwd, congrArg Value.bool (by symm; rw [decide_eq_false_iff_not]; rintro ⟨h1, h3⟩; have h4 := h3 p hp; rw [hcc] at h4; unfold okV at h4; omega)⟩
            | exact end1 rfl rfl ⟨hs.fwd, congrArg Value.bool (by symm; rw [decide_eq_true_eq]; exact ⟨by omega, fun i h => hok i h (by omega)⟩)⟩
        · skip
          simp only [decide_eq_true_eq, decide_eq_false_iff_not, beq_iff_eq, beq_eq_false_iff_ne, bne_iff_ne, bne_eq_false_iff_eq, ne_eq, Bool.not_eq_true', Bool.not_eq_false', Bool.not_eq_true, Bool.not_eq_false, gt_iff_lt] at hc18
          refine W_skip ?_
          refine n_then ?_
          refine W_seq ?_
          refine W_region ?_
          refine s_move rfl rfl ?_
          refine WL_nil ?_
          refine n_then ?_
          refine W_block ?_
          refine W_seq ?_
          refine W_seq ?_
          refine W_region ?_
          refine s_eql rfl rfl rfl ?_
          refine s_assign rfl rfl ?_
          refine WL_nil ?_
          refine n_then ?_
          refine W_cond rfl (fun hc20 => ?_) (fun hc20 => ?_)
          · skip
            simp only [decide_eq_true_eq, decide_eq_false_iff_not, beq_iff_eq, beq_eq_false_iff_ne, bne_iff_ne, bne_eq_false_iff_eq, ne_eq, Bool.not_eq_true', Bool.not_eq_false', Bool.not_eq_true, Bool.not_eq_false, gt_iff_lt] at hc20
            refine W_skip ?_
            refine n_then ?_
            refine W_cond rfl (fun hc20 => ?_) (fun hc20 => ?_)
            · skip
              simp only [decide_eq_true_eq, decide_eq_false_iff_not, beq_iff_eq, beq_eq_false_iff_ne, bne_iff_ne, bne_eq_false_iff_eq, ne_eq, Bool.not_eq_true', Bool.not_eq_false', Bool.not_eq_true, Bool.not_eq_false, gt_iff_lt] at hc20
              refine W_seq ?_
              refine W_region ?_
              refine s_assign rfl rfl ?_
              refine WL_nil ?_
              refine n_then ?_
              refine W_ret ?_
              refine r_blk ?_
              refine r_blk ?_
              refine r_then ?_
              refine r_blk ?_
              refine r_then ?_
              first
                | exact end1 rfl rfl ⟨hs.fwd, congrArg Value.bool (by symm; rw [decide_eq_false_iff_not]; rintro ⟨h1, _⟩; omega)⟩
                | exact end1 rfl rfl ⟨hs.fwd, congrArg Value.bool (by symm; rw [decide_eq_false_iff_not]; rintro ⟨h1, h3⟩; have h4 := h3 p hp; rw [hcc] at h4; unfold okV at h4; omega)⟩
                | exact end1 rfl rfl ⟨hs.fwd, congrArg Value.bool (by symm; rw [decide_eq_true_eq]; exact ⟨by omega, fun i h => hok i h (by omega)⟩)⟩
            · skip
              simp only [decide_eq_true_eq, decide_eq_false_iff_not, beq_iff_eq, beq_eq_false_iff_ne, bne_iff_ne, bne_eq_false_iff_eq, ne_eq, Bool.not_eq_true', Bool.not_eq_false', Bool.not_eq_true, Bool.not_eq_false, gt_iff_lt] at hc20
              refine W_skip ?_
              refine n_blk ?_
              refine n_blk ?_
              refine n_loop ?_
              have hk : okV cc ∧ wd = 1 := by unfold okV; omega
              obtain ⟨hk, rfl⟩ := hk
              refine ⟨p + 1, ⟨rfl, rfl, trivial⟩, ⟨hs, fun i h hi => ?_⟩, by omega⟩
              rcases Nat.lt_or_ge i p with h1 | h1
              · exact hok i h h1
              · obtain rfl : i = p := by omega
                rw [hcc]; exact hk
          · skip
            simp only [decide_eq_true_eq, decide_eq_false_iff_not, beq_iff_eq, beq_eq_false_iff_ne, bne_iff_ne, bne_eq_false_iff_eq, ne_eq, Bool.not_eq_true', Bool.not_eq_false', Bool.not_eq_true, Bool.not_eq_false, gt_iff_lt] at hc20
            refine W_seq ?_
            refine W_region ?_
            refine s_eql rfl rfl rfl ?_
            refine s_assign rfl rfl ?_
            refine WL_nil ?_
            refine n_then ?_
            refine W_cond rfl (fun hc20 => ?_) (fun hc20 => ?_)
            · skip
              simp only [decide_eq_true_eq, decide_eq_false_iff_not, beq_iff_eq, beq_eq_false_iff_ne, bne_iff_ne, bne_eq_false_iff_eq, ne_eq, Bool.not_eq_true', Bool.not_eq_false', Bool.not_eq_true, Bool.not_eq_false, gt_iff_lt] at hc20
              refine W_skip ?_
              refine n_then ?_
              refine W_cond rfl (fun hc20 => ?_) (fun hc20 => ?_)
              · skip
                simp only [decide_eq_true_eq, decide_eq_false_iff_not, beq_iff_eq, beq_eq_false_iff_ne, bne_iff_ne, bne_eq_false_iff_eq, ne_eq, Bool.not_eq_true', Bool.not_eq_false', Bool.not_eq_true, Bool.not_eq_false, gt_iff_lt] at hc20
                refine W_seq ?_
                refine W_region ?_
                refine s_assign rfl rfl ?_
                refine WL_nil ?_
                refine n_then ?_
                refine W_ret ?_
                refine r_blk ?_
                refine r_blk ?_
                refine r_then ?_
                refine r_blk ?_
                refine r_then ?_
                first
                  | exact end1 rfl rfl ⟨hs.fwd, congrArg Value.bool (by symm; rw [decide_eq_false_iff_not]; rintro ⟨h1, _⟩; omega)⟩
                  | exact end1 rfl rfl ⟨hs.fwd, congrArg Value.bool (by symm; rw [decide_eq_false_iff_not]; rintro ⟨h1, h3⟩; have h4 := h3 p hp; rw [hcc] at h4; unfold okV at h4; omega)⟩
                  | exact end1 rfl rfl ⟨hs.fwd, congrArg Value.bool (by symm; rw [decide_eq_true_eq]; exact ⟨by omega, fun i h => hok i h (by omega)⟩)⟩
              · skip
                simp only [decide_eq_true_eq, decide_eq_false_iff_not, beq_iff_eq, beq_eq_false_iff_ne, bne_iff_ne, bne_eq_false_iff_eq, ne_eq, Bool.not_eq_true', Bool.not_eq_false', Bool.not_eq_true, Bool.not_eq_false, gt_iff_lt] at hc20
                refine W_skip ?_
                refine n_blk ?_
                refine n_blk ?_
                refine n_loop ?_
                have hk : okV cc ∧ wd = 1 := by unfold okV; omega
                obtain ⟨hk, rfl⟩ := hk
                refine ⟨p + 1, ⟨rfl, rfl, trivial⟩, ⟨hs, fun i h hi => ?_⟩, by omega⟩
                rcases Nat.lt_or_ge i p with h1 | h1
                · exact hok i h h1
                · obtain rfl : i = p := by omega
                  rw [hcc]; exact hk
            · skip
              simp only [decide_eq_true_eq, decide_eq_false_iff_not, beq_iff_eq, beq_eq_false_iff_ne, bne_iff_ne, bne_eq_false_iff_eq, ne_eq, Bool.not_eq_true', Bool.not_eq_false', Bool.not_eq_true, Bool.not_eq_false, gt_iff_lt] at hc20
              refine W_seq ?_
              refine W_region ?_
              refine s_eql rfl rfl rfl ?_
              refine s_assign rfl rfl ?_
              refine WL_nil ?_
              refine n_then ?_
              refine W_cond rfl (fun hc20 => ?_) (fun hc20 => ?_)
              · skip
                simp only [decide_eq_true_eq, decide_eq_false_iff_not, beq_iff_eq, beq_eq_false_iff_ne, bne_iff_ne, bne_eq_false_iff_eq, ne_eq, Bool.not_eq_true', Bool.not_eq_false', Bool.not_eq_true, Bool.not_eq_false, gt_iff_lt] at hc20
                refine W_skip ?_
                refine n_then ?_
                refine W_cond rfl (fun hc20 => ?_) (fun hc20 => ?_)
                · skip
                  simp only [decide_eq_true_eq, decide_eq_false_iff_not, beq_iff_eq, beq_eq_false_iff_ne, bne_iff_ne, bne_eq_false_iff_eq, ne_eq, Bool.not_eq_true', Bool.not_eq_false', Bool.not_eq_true, Bool.not_eq_false, gt_iff_lt] at hc20
                  refine W_seq ?_
                  refine W_region ?_
                  refine s_assign rfl rfl ?_
                  refine WL_nil ?_
                  refine n_then ?_
                  refine W_ret ?_
                  refine r_blk ?_
                  refine r_blk ?_
                  refine r_then ?_
                  refine r_blk ?_
                  refine r_then ?_
                  first
                    | exact end1 rfl rfl ⟨hs.fwd, congrArg Value.bool (by symm; rw [decide_eq_false_iff_not]; rintro ⟨h1, _⟩; omega)⟩
                    | exact end1 rfl rfl ⟨hs.fwd, congrArg Value.bool (by symm; rw [decide_eq_false_iff_not]; rintro ⟨h1, h3⟩; have h4 := h3 p hp; rw [hcc] at h4; unfold okV at h4; omega)⟩
                    | exact end1 rfl rfl ⟨hs.fwd, congrArg Value.bool (by symm; rw [decide_eq_true_eq]; exact ⟨by omega, fun i h => hok i h (by omega)⟩)⟩
                · skip
                  simp only [decide_eq_true_eq, decide_eq_false_iff_not, beq_iff_eq, beq_eq_false_iff_ne, bne_iff_ne, bne_eq_false_iff_eq, ne_eq, Bool.not_eq_true', Bool.not_eq_false', Bool.not_eq_true, Bool.not_eq_false, gt_iff_lt] at hc20
                  refine W_skip ?_
                  refine n_blk ?_
                  refine n_blk ?_
                  refine n_loop ?_
                  have hk : okV cc ∧ wd = 1 := by unfold okV; omega
                  obtain ⟨hk, rfl⟩ := hk
                  refine ⟨p + 1, ⟨rfl, rfl, trivial⟩, ⟨hs, fun i h hi => ?_⟩, by omega⟩
                  rcases Nat.lt_or_ge i p with h1 | h1
                  · exact hok i h h1
                  · obtain rfl : i = p := by omega
                    rw [hcc]; exact hk
              · skip
                simp only [decide_eq_true_eq, decide_eq_false_iff_not, beq_iff_eq, beq_eq_false_iff_ne, bne_iff_ne, bne_eq_false_iff_eq, ne_eq, Bool.not_eq_true', Bool.not_eq_false', Bool.not_eq_true, Bool.not_eq_false, gt_iff_lt] at hc20
                refine W_seq ?_
                refine W_region ?_
                refine s_eql rfl rfl rfl ?_
                refine s_assign rfl rfl ?_
                refine WL_nil ?_
                refine n_then ?_
                refine W_cond rfl (fun hc20 => ?_) (fun hc20 => ?_)
                · skip
                  simp only [decide_eq_true_eq, decide_eq_false_iff_not, beq_iff_eq, beq_eq_false_iff_ne, bne_iff_ne, bne_eq_false_iff_eq, ne_eq, Bool.not_eq_true', Bool.not_eq_false', Bool.not_eq_true, Bool.not_eq_false, gt_iff_lt] at hc20
                  refine W_skip ?_
                  refine n_then ?_
                  refine W_cond rfl (fun hc20 => ?_) (fun hc20 => ?_)
                  · skip
                    simp only [decide_eq_true_eq, decide_eq_false_iff_not, beq_iff_eq, beq_eq_false_iff_ne, bne_iff_ne, bne_eq_false_iff_eq, ne_eq, Bool.not_eq_true', Bool.not_eq_false', Bool.not_eq_true, Bool.not_eq_false, gt_iff_lt] at hc20
                    refine W_seq ?_
                    refine W_region ?_
                    refine s_assign rfl rfl ?_
                    refine WL_nil ?_
                    refine n_then ?_
                    refine W_ret ?_
                    refine r_blk ?_
                    refine r_blk ?_
                    refine r_then ?_
                    refine r_blk ?_
                    refine r_then ?_
                    first
                      | exact end1 rfl rfl ⟨hs.fwd, congrArg Value.bool (by symm; rw [decide_eq_false_iff_not]; rintro ⟨h1, _⟩; omega)⟩
                      | exact end1 rfl rfl ⟨hs.fwd, congrArg Value.bool (by symm; rw [decide_eq_false_iff_not]; rintro ⟨h1, h3⟩; have h4 := h3 p hp; rw [hcc] at h4; unfold okV at h4; omega)⟩
                      | exact end1 rfl rfl ⟨hs.fwd, congrArg Value.bool (by symm; rw [decide_eq_true_eq]; exact ⟨by omega, fun i h => hok i h (by omega)⟩)⟩
                  · skip
                    simp only [decide_eq_true_eq, decide_eq_false_iff_not, beq_iff_eq, beq_eq_false_iff_ne, bne_iff_ne, bne_eq_false_iff_eq, ne_eq, Bool.not_eq_true', Bool.not_eq_false', Bool.not_eq_true, Bool.not_eq_false, gt_iff_lt] at hc20
                    refine W_skip ?_
                    refine n_blk ?_
                    refine n_blk ?_
                    refine n_loop ?_
                    have hk : okV cc ∧ wd = 1 := by unfold okV; omega
                    obtain ⟨hk, rfl⟩ := hk
                    refine ⟨p + 1, ⟨rfl, rfl, trivial⟩, ⟨hs, fun i h hi => ?_⟩, by omega⟩
                    rcases Nat.lt_or_ge i p with h1 | h1
                    · exact hok i h h1
                    · obtain rfl : i = p := by omega
                      rw [hcc]; exact hk
                · skip
                  simp only [decide_eq_true_eq, decide_eq_false_iff_not, beq_iff_eq, beq_eq_false_iff_ne, bne_iff_ne, bne_eq_false_iff_eq, ne_eq, Bool.not_eq_true', Bool.not_eq_false', Bool.not_eq_true, Bool.not_eq_false, gt_iff_lt] at hc20
                  refine W_region ?_
                  refine s_eql rfl rfl rfl ?_
                  refine s_assign rfl rfl ?_
                  refine WL_nil ?_
                  refine n_then ?_
                  refine W_cond rfl (fun hc20 => ?_) (fun hc20 => ?_)
                  · skip
                    simp only [decide_eq_true_eq, decide_eq_false_iff_not, beq_iff_eq, beq_eq_false_iff_ne, bne_iff_ne, bne_eq_false_iff_eq, ne_eq, Bool.not_eq_true', Bool.not_eq_false', Bool.not_eq_true, Bool.not_eq_false, gt_iff_lt] at hc20
                    refine W_seq ?_
                    refine W_region ?_
                    refine s_assign rfl rfl ?_
                    refine WL_nil ?_
                    refine n_then ?_
                    refine W_ret ?_
                    refine r_blk ?_
                    refine r_blk ?_
                    refine r_then ?_
                    refine r_blk ?_
                    refine r_then ?_
                    first
                      | exact end1 rfl rfl ⟨hs.fwd, congrArg Value.bool (by symm; rw [decide_eq_false_iff_not]; rintro ⟨h1, _⟩; omega)⟩
                      | exact end1 rfl rfl ⟨hs.fwd, congrArg Value.bool (by symm; rw [decide_eq_false_iff_not]; rintro ⟨h1, h3⟩; have h4 := h3 p hp; rw [hcc] at h4; unfold okV at h4; omega)⟩
                      | exact end1 rfl rfl ⟨hs.fwd, congrArg Value.bool (by symm; rw [decide_eq_true_eq]; exact ⟨by omega, fun i h => hok i h (by omega)⟩)⟩
                  · skip
                    simp only [decide_eq_true_eq, decide_eq_false_iff_not, beq_iff_eq, beq_eq_false_iff_ne, bne_iff_ne, bne_eq_false_iff_eq, ne_eq, Bool.not_eq_true', Bool.not_eq_false', Bool.not_eq_true, Bool.not_eq_false, gt_iff_lt] at hc20
                    refine W_skip ?_
                    refine n_blk ?_
                    refine n_blk ?_
                    refine n_loop ?_
                    have hk : okV cc ∧ wd = 1 := by unfold okV; omega
                    obtain ⟨hk, rfl⟩ := hk
                    refine ⟨p + 1, ⟨rfl, rfl, trivial⟩, ⟨hs, fun i h hi => ?_⟩, by omega⟩
                    rcases Nat.lt_or_ge i p with h1 | h1
                    · exact hok i h h1
                    · obtain rfl : i = p := by omega
                      rw [hcc]; exact hk
    · skip
      refine s_next_end rfl rfl hs (kk := 0) rfl hp ?_
      refine s_extract rfl rfl rfl ?_
      refine WL_nil ?_
      refine n_then ?_
      refine W_seq ?_
      refine W_cond_kf rfl (rfl) ?_
      refine W_exit ?_
      refine x_then ?_
      refine x_then ?_
      refine exit_hit ?_
      refine n_then ?_
      refine W_seq ?_
      refine W_region ?_
      refine s_assign rfl rfl ?_
      refine WL_nil ?_
      refine n_then ?_
      refine W_ret ?_
      first
        | exact end1 rfl rfl ⟨hs.fwd, congrArg Value.bool (by symm; rw [decide_eq_false_iff_not]; rintro ⟨h1, _⟩; omega)⟩
        | exact end1 rfl rfl ⟨hs.fwd, congrArg Value.bool (by symm; rw [decide_eq_false_iff_not]; rintro ⟨h1, h3⟩; have h4 := h3 p hp; rw [hcc] at h4; unfold okV at h4; omega)⟩
        | exact end1 rfl rfl ⟨hs.fwd, congrArg Value.bool (by symm; rw [decide_eq_true_eq]; exact ⟨by omega, fun i h => hok i h (by omega)⟩)⟩
/-- a label: its name and its value -/
abbrev Lb := ByteArray × ByteArray
def lbC (x : Lb) : List Value := [.string x.1, .string x.2]
theorem lbC_length (x : Lb) : (lbC x).length = 2 := rfl
abbrev lbcells (ls : List Lb) : List Value := ls.flatMap lbC
def labOk (ls : List Lb) (i : Nat) : Prop := ∀ x, ls[i]? = some x → nameP x.1 ∧ x.2 ≠ ByteArray.empty ∧ valueP x.2 ∧ (0 < i → ∀ y, ls[i - 1]? = some y → lexLt (bytesOf y.1) (bytesOf x.1) = true)
def labsP (ls : List Lb) : Prop := ls.length ≤ 8 ∧ ∀ i, i < ls.length → labOk ls i
open Classical in
theorem sl2 {w : World} {a : Option Addr} {n c : Nat} {ls : List Lb} {i : Nat} {x : Lb} (h : Sl w (.slice a n c) ls.length (lbcells ls)) (hi : ls[i]? = some x) : ∃ b o, a = some ⟨b, o, none⟩ ∧ b < w.heap.size ∧ w.cell? ⟨b, o + (i : Int).toNat * 2 + 0, none⟩ = some (.string x.1) ∧ w.cell? ⟨b, o + (i : Int).toNat * 2 + 1, none⟩ = some (.string x.2) := by
  have h0 := flat_at (xs := ls) (j := 0) lbC_length (by omega) hi
  have h1 := flat_at (xs := ls) (j := 1) lbC_length (by omega) hi
  have hne : lbcells ls ≠ [] := by intro e; rw [show ls.flatMap lbC = [] from e] at h0; simp [lbC] at h0
  obtain ⟨b, o, rfl, hb, hc⟩ := Sl_all h hne
  refine ⟨b, o, rfl, hb, ?_, ?_⟩
  · have := hc _ _ (h0.trans rfl)
    rw [Int.toNat_natCast]; simpa [Nat.add_assoc] using this
  · have := hc _ _ (h1.trans rfl)
    rw [Int.toNat_natCast]; simpa [Nat.add_assoc] using this
set_option maxHeartbeats 2000000 in
theorem labels_ok (v : Value) (ls : List Lb) (w0 : World) (hv : Sl w0 v ls.length (lbcells ls)) :
    Ret Try.prog 35 [v].toArray w0 fun r w' => Fwd [] w0 w' ∧ ∃ b, r = .bool b ∧ (b = true ↔ labsP ls) := by
  obtain ⟨a, c, rfl, hac⟩ := hv.len_le
  refine Ret_start fun w hs => ?_
  refine Ret_of Try.func35 rfl Try.ntmps35 rfl ?_
  refine W_seq ?_
  refine W_region ?_
  refine s_assign rfl rfl ?_
  refine WL_nil ?_
  refine n_then ?_
  refine W_seq ?_
  refine W_seq ?_
  refine W_region ?_
  refine s_move rfl rfl ?_
  refine s_len rfl rfl (LN23 _ _ _ _) ?_
  refine s_gtr rfl rfl rfl ?_
  refine WL_nil ?_
  refine n_then ?_
  refine W_cond rfl (fun hc7 => ?_) (fun hc7 => ?_)
  · skip
    simp only [decide_eq_true_eq, decide_eq_false_iff_not, beq_iff_eq, beq_eq_false_iff_ne, bne_iff_ne, bne_eq_false_iff_eq, ne_eq, Bool.not_eq_true', Bool.not_eq_false', Bool.not_eq_true, Bool.not_eq_false, gt_iff_lt] at hc7
    refine W_seq ?_
    refine W_region ?_
    refine s_assign rfl rfl ?_
    refine WL_nil ?_
    refine n_then ?_
    refine W_ret ?_
    refine r_then ?_
    first
      | (refine end1 rfl rfl ⟨hs.fwd, false, rfl, ?_⟩
         constructor
         · intro h; cases h
         · rintro ⟨h1, h2⟩; omega)
      | (refine end1 rfl rfl ⟨hs.fwd, true, rfl, ?_⟩
         exact ⟨fun _ => ⟨by omega, fun j hj => hok j (by omega)⟩, fun _ => rfl⟩)
      | (refine end1 rfl rfl ⟨hs.fwd, false, rfl, ?_⟩
         constructor
         · intro h; cases h
         · rintro ⟨h1, h2⟩
           have h3 := h2 i hix x hli
           first
             | exact absurd h3.1 hg19
             | exact absurd hg24 h3.2.1
             | exact absurd h3.2.2.1 hc29
             | (have h4 := h3.2.2.2 (by omega) y hlp
                rw [h4] at hc42; cases hc42))
  · skip
    simp only [decide_eq_true_eq, decide_eq_false_iff_not, beq_iff_eq, beq_eq_false_iff_ne, bne_iff_ne, bne_eq_false_iff_eq, ne_eq, Bool.not_eq_true', Bool.not_eq_false', Bool.not_eq_true, Bool.not_eq_false, gt_iff_lt] at hc7
    refine W_skip ?_
    refine n_then ?_
    refine W_seq ?_
    refine W_seq ?_
    refine W_region ?_
    refine s_move rfl rfl ?_
    refine s_len rfl rfl (LN23 _ _ _ _) ?_
    refine s_move rfl rfl ?_
    refine WL_nil ?_
    refine n_then ?_
    refine W_block ?_
    refine W_loop (σ := Nat) (fun i => [(0, .slice a ls.length c), (8, .slice a ls.length c), (9, .int .i64 (ls.length : Int)), (10, .int .i64 (i : Int))]) (fun i w => St [] w0 w [] ∧ i ≤ ls.length ∧ ∀ j, j < i → labOk ls j) (fun i => ls.length - i) 0 ⟨rfl, rfl, rfl, rfl, trivial⟩ ⟨hs, Nat.zero_le _, by omega⟩ ?_
    clear hs
    intro i w ⟨hs, hi, hok⟩
    refine W_seq ?_
    refine W_region ?_
    refine s_lss rfl rfl rfl ?_
    refine WL_nil ?_
    refine n_then ?_
    refine W_seq ?_
    refine W_cond rfl (fun hc11 => ?_) (fun hc11 => ?_)
    · skip
      simp only [decide_eq_true_eq, decide_eq_false_iff_not, beq_iff_eq, beq_eq_false_iff_ne, bne_iff_ne, bne_eq_false_iff_eq, ne_eq, Bool.not_eq_true', Bool.not_eq_false', Bool.not_eq_true, Bool.not_eq_false, gt_iff_lt] at hc11
      have hix : i < ls.length := by omega
      have hli : ls[i]? = some ls[i] := List.getElem?_eq_getElem hix
      generalize ls[i] = x at hli
      obtain ⟨b1, o1, hA1, hB1, hc1, hc2⟩ := sl2 hv hli
      refine W_skip ?_
      refine n_then ?_
      refine W_seq ?_
      refine W_block ?_
      refine W_seq ?_
      refine W_region ?_
      refine s_move rfl rfl ?_
      (refine s_indexAddrP El23 rfl rfl rfl hA1 ?hx ?_; case hx => (constructor <;> omega))
      refine s_load_2 Try.isAgg51 Try.sizeOf51 rfl rfl ((hs.oldcell (a := ⟨b1, _, none⟩) hB1 (by simp)).trans hc1) ((hs.oldcell (a := ⟨b1, _, none⟩) hB1 (by simp)).trans hc2) ?_
      refine s_alloc rfl AL51 hs ?_; clear hs; intro b4 w hs
      refine s_assign rfl rfl ?_
      first
        | refine s_storeW Try.sizeOf51 rfl rfl rfl rfl hs (kk := 0) rfl rfl ?_
        | refine s_storeAB Try.sizeOf51 rfl rfl rfl rfl hs (kk := 0) rfl rfl ?_
      clear hs; intro w hs; try simp only [List.set_cons_zero, List.set_cons_succ, splice, List.take_succ_cons, List.take_zero, List.drop_succ_cons, List.drop_zero, List.nil_append, List.cons_append, List.length_cons, List.length_nil, Nat.reduceAdd, List.append_assoc] at hs
      refine WL_nil ?_
      refine n_then ?_
      refine W_seq ?_
      refine W_seq ?_
      refine W_region ?_
      refine s_fieldAddr rfl rfl (FA51_0 _ _) ?_
      first
        | refine s_load Try.isAgg9 rfl rfl (hs.cell (k := 0) rfl rfl) ?_
      refine s_call Try.call34 rfl rfl (name_ok x.1 w) ?_
      rintro r w ⟨hst, rfl⟩
      replace hs := hs.fwd1 hst
      clear hst
      refine s_not rfl rfl ?_
      refine s_move rfl rfl ?_
      refine WL_case (s := 19) rfl (fun hg19 => ?_) (fun hg19 => ?_)
      · skip
        simp only [decide_eq_true_eq, decide_eq_false_iff_not, beq_iff_eq, beq_eq_false_iff_ne, bne_iff_ne, bne_eq_false_iff_eq, ne_eq, Bool.not_eq_true', Bool.not_eq_false', Bool.not_eq_true, Bool.not_eq_false, gt_iff_lt] at hg19
        refine WL_skip rfl rfl rfl ?_
        refine WL_skip rfl rfl rfl ?_
        refine WL_skip rfl rfl rfl ?_
        refine s_pick_t rfl rfl rfl ?_
        refine s_move rfl rfl ?_
        refine WL_skip rfl rfl rfl ?_
        refine WL_skip rfl rfl rfl ?_
        refine WL_skip rfl rfl rfl ?_
        refine WL_skip rfl rfl rfl ?_
        refine s_pick_t rfl rfl rfl ?_
        refine WL_nil ?_
        refine n_then ?_
        refine W_cond_t rfl ?_
        refine W_seq ?_
        refine W_region ?_
        refine s_assign rfl rfl ?_
        refine WL_nil ?_
        refine n_then ?_
        refine W_ret ?_
        refine r_then ?_
        refine r_blk ?_
        refine r_then ?_
        refine r_then ?_
        refine r_blk ?_
        refine r_then ?_
        first
          | (refine end1 rfl rfl ⟨hs.fwd, false, rfl, ?_⟩
             constructor
             · intro h; cases h
             · rintro ⟨h1, h2⟩; omega)
          | (refine end1 rfl rfl ⟨hs.fwd, true, rfl, ?_⟩
             exact ⟨fun _ => ⟨by omega, fun j hj => hok j (by omega)⟩, fun _ => rfl⟩)
          | (refine end1 rfl rfl ⟨hs.fwd, false, rfl, ?_⟩
             constructor
             · intro h; cases h
             · rintro ⟨h1, h2⟩
               have h3 := h2 i hix x hli
               first
                 | exact absurd h3.1 hg19
                 | exact absurd hg24 h3.2.1
                 | exact absurd h3.2.2.1 hc29
                 | (have h4 := h3.2.2.2 (by omega) y hlp
                    rw [h4] at hc42; cases hc42))
      · skip
        simp only [decide_eq_true_eq, decide_eq_false_iff_not, beq_iff_eq, beq_eq_false_iff_ne, bne_iff_ne, bne_eq_false_iff_eq, ne_eq, Bool.not_eq_true', Bool.not_eq_false', Bool.not_eq_true, Bool.not_eq_false, gt_iff_lt] at hg19
        refine WL_take rfl ?_
        refine s_fieldAddr rfl rfl (FA51_1 _ _) ?_
        refine WL_take rfl ?_
        first
          | refine s_load Try.isAgg9 rfl rfl (hs.cell (k := 0) rfl rfl) ?_
        refine WL_take rfl ?_
        refine s_eql_S rfl rfl rfl ?_
        refine s_pick_f rfl rfl rfl ?_
        refine s_move rfl rfl ?_
        refine WL_case (s := 24) rfl (fun hg24 => ?_) (fun hg24 => ?_)
        · skip
          simp only [decide_eq_true_eq, decide_eq_false_iff_not, beq_iff_eq, beq_eq_false_iff_ne, bne_iff_ne, bne_eq_false_iff_eq, ne_eq, Bool.not_eq_true', Bool.not_eq_false', Bool.not_eq_true, Bool.not_eq_false, gt_iff_lt] at hg24
          refine WL_skip rfl rfl rfl ?_
          refine WL_skip rfl rfl rfl ?_
          refine WL_skip rfl rfl rfl ?_
          refine WL_skip rfl rfl rfl ?_
          refine s_pick_t rfl rfl rfl ?_
          refine WL_nil ?_
          refine n_then ?_
          refine W_cond_t rfl ?_
          refine W_seq ?_
          refine W_region ?_
          refine s_assign rfl rfl ?_
          refine WL_nil ?_
          refine n_then ?_
          refine W_ret ?_
          refine r_then ?_
          refine r_blk ?_
          refine r_then ?_
          refine r_then ?_
          refine r_blk ?_
          refine r_then ?_
          first
            | (refine end1 rfl rfl ⟨hs.fwd, false, rfl, ?_⟩
               constructor
               · intro h; cases h
               · rintro ⟨h1, h2⟩; omega)
            | (refine end1 rfl rfl ⟨hs.fwd, true, rfl, ?_⟩
               exact ⟨fun _ => ⟨by omega, fun j hj => hok j (by omega)⟩, fun _ => rfl⟩)
            | (refine end1 rfl rfl ⟨hs.fwd, false, rfl, ?_⟩
               constructor
               · intro h; cases h
               · rintro ⟨h1, h2⟩
                 have h3 := h2 i hix x hli
                 first
                   | exact absurd h3.1 hg19
                   | exact absurd hg24 h3.2.1
                   | exact absurd h3.2.2.1 hc29
                   | (have h4 := h3.2.2.2 (by omega) y hlp
                      rw [h4] at hc42; cases hc42))
        · skip
          simp only [decide_eq_true_eq, decide_eq_false_iff_not, beq_iff_eq, beq_eq_false_iff_ne, bne_iff_ne, bne_eq_false_iff_eq, ne_eq, Bool.not_eq_true', Bool.not_eq_false', Bool.not_eq_true, Bool.not_eq_false, gt_iff_lt] at hg24
          refine WL_take rfl ?_
          refine s_fieldAddr rfl rfl (FA51_1 _ _) ?_
          refine WL_take rfl ?_
          first
            | refine s_load Try.isAgg9 rfl rfl (hs.cell (k := 0) rfl rfl) ?_
          refine WL_take rfl ?_
          refine s_call Try.call54 rfl rfl (value_ok x.2 w) ?_
          rintro r w ⟨hst, rfl⟩
          replace hs := hs.fwd1 hst
          clear hst
          refine WL_take rfl ?_
          refine s_not rfl rfl ?_
          refine s_pick_f rfl rfl rfl ?_
          refine WL_nil ?_
          refine n_then ?_
          refine W_cond rfl (fun hc29 => ?_) (fun hc29 => ?_)
          · skip
            simp only [decide_eq_true_eq, decide_eq_false_iff_not, beq_iff_eq, beq_eq_false_iff_ne, bne_iff_ne, bne_eq_false_iff_eq, ne_eq, Bool.not_eq_true', Bool.not_eq_false', Bool.not_eq_true, Bool.not_eq_false, gt_iff_lt] at hc29
            refine W_seq ?_
            refine W_region ?_
            refine s_assign rfl rfl ?_
            refine WL_nil ?_
            refine n_then ?_
            refine W_ret ?_
            refine r_then ?_
            refine r_blk ?_
            refine r_then ?_
            refine r_then ?_
            refine r_blk ?_
            refine r_then ?_
            first
              | (refine end1 rfl rfl ⟨hs.fwd, false, rfl, ?_⟩
                 constructor
                 · intro h; cases h
                 · rintro ⟨h1, h2⟩; omega)
              | (refine end1 rfl rfl ⟨hs.fwd, true, rfl, ?_⟩
                 exact ⟨fun _ => ⟨by omega, fun j hj => hok j (by omega)⟩, fun _ => rfl⟩)
              | (refine end1 rfl rfl ⟨hs.fwd, false, rfl, ?_⟩
                 constructor
                 · intro h; cases h
                 · rintro ⟨h1, h2⟩
                   have h3 := h2 i hix x hli
                   first
                     | exact absurd h3.1 hg19
                     | exact absurd hg24 h3.2.1
                     | exact absurd h3.2.2.1 hc29
                     | (have h4 := h3.2.2.2 (by omega) y hlp
                        rw [h4] at hc42; cases hc42))
          · skip
            simp only [decide_eq_true_eq, decide_eq_false_iff_not, beq_iff_eq, beq_eq_false_iff_ne, bne_iff_ne, bne_eq_false_iff_eq, ne_eq, Bool.not_eq_true', Bool.not_eq_false', Bool.not_eq_true, Bool.not_eq_false, gt_iff_lt] at hc29
            refine W_skip ?_
            refine n_then ?_
            refine W_seq ?_
            refine W_draw [(0, true, []), (1, true, []), (2, true, []), (3, true, []), (4, true, []), (5, true, []), (6, true, []), (7, true, []), (8, true, []), (9, true, []), (10, true, []), (11, true, []), (12, true, [])] [[], [0], [0, 1], [0, 1, 2], [0, 1, 2], [0, 1, 2, 4], [0, 1, 2, 3, 4, 5], [0, 1, 2, 3, 4, 5, 6], [0, 1, 2, 3, 4, 5, 6, 7], [0, 1, 2], [0, 1, 2, 9], [0, 1, 2, 3, 4, 5, 6, 7, 8, 9, 10], [0, 1, 2, 3, 4, 5, 6, 7, 8, 9, 10, 11]] MX (by kernel_rfl) ?_
            intro w1 hw1 hw2 hw3 hw4; replace hs := hs.redrawn hw1 hw2 hw3 hw4; clear hw1 hw2 hw3 hw4
            obtain ⟨w, rfl⟩ : ∃ w : World, w = w1 := ⟨_, rfl⟩
            refine D_q rfl rfl ?_
            refine s_move rfl rfl ?_
            refine D_qn ?_
            refine D_q rfl rfl ?_
            refine s_gtr rfl rfl rfl ?_
            refine D_qn ?_
            refine D_q rfl rfl ?_
            refine s_move rfl rfl ?_
            refine WL_case (s := 32) rfl (fun hg32 => ?_) (fun hg32 => ?_)
            · skip
              simp only [decide_eq_true_eq, decide_eq_false_iff_not, beq_iff_eq, beq_eq_false_iff_ne, bne_iff_ne, bne_eq_false_iff_eq, ne_eq, Bool.not_eq_true', Bool.not_eq_false', Bool.not_eq_true, Bool.not_eq_false, gt_iff_lt] at hg32
              have hlp : ls[i - 1]? = some (ls[i - 1]'(by omega)) := List.getElem?_eq_getElem (by omega)
              generalize (ls[i - 1]'(by omega)) = y at hlp
              obtain ⟨b2, o2, hA2, hB2, hc3, hc4⟩ := sl2 hv hlp
              refine D_qn ?_
              refine D_q rfl rfl ?_
              refine WL_take rfl ?_
              refine s_move rfl rfl ?_
              refine D_qn ?_
              refine D_q rfl rfl ?_
              refine WL_take rfl ?_
              refine s_move rfl rfl ?_
              refine D_qn ?_
              refine D_q rfl rfl ?_
              refine WL_take rfl ?_
              (refine s_sub' rfl rfl rfl ?hx ?_; case hx => (constructor <;> omega))
              rw [show (i : Int) - 1 = ((i - 1 : Nat) : Int) from by omega]
              refine D_qn ?_
              refine D_q rfl rfl ?_
              refine WL_take rfl ?_
              (refine s_indexAddrP El23 rfl rfl rfl hA2 ?hx ?_; case hx => (constructor <;> omega))
              refine D_qn ?_
              refine D_q rfl rfl ?_
              refine WL_take rfl ?_
              refine s_fieldAddr rfl rfl (FA51_0 _ _) ?_
              refine D_qn ?_
              refine D_q rfl rfl ?_
              refine WL_take rfl ?_
              refine s_load Try.isAgg9 rfl rfl ((hs.oldcell (a := ⟨b2, _, none⟩) hB2 (by simp)).trans hc3) ?_
              refine D_qn ?_
              refine D_q rfl rfl ?_
              refine WL_take rfl ?_
              refine s_fieldAddr rfl rfl (FA51_0 _ _) ?_
              refine D_qn ?_
              refine D_q rfl rfl ?_
              refine WL_take rfl ?_
              first
                | refine s_load Try.isAgg9 rfl rfl (hs.cell (k := 0) rfl rfl) ?_
              refine D_qn ?_
              refine D_q rfl rfl ?_
              refine WL_take rfl ?_
              refine s_geq_B rfl rfl rfl ?_
              rw [less_lex]
              refine D_qn ?_
              refine D_q rfl rfl ?_
              refine s_pick_t rfl rfl rfl ?_
              refine D_qn ?_
              refine D_nil ?_
              refine n_then ?_
              refine W_cond rfl (fun hc42 => ?_) (fun hc42 => ?_)
              · skip
                simp only [decide_eq_true_eq, decide_eq_false_iff_not, beq_iff_eq, beq_eq_false_iff_ne, bne_iff_ne, bne_eq_false_iff_eq, ne_eq, Bool.not_eq_true', Bool.not_eq_false', Bool.not_eq_true, Bool.not_eq_false, gt_iff_lt] at hc42
                refine W_seq ?_
                refine W_region ?_
                refine s_assign rfl rfl ?_
                refine WL_nil ?_
                refine n_then ?_
                refine W_ret ?_
                refine r_blk ?_
                refine r_then ?_
                refine r_then ?_
                refine r_blk ?_
                refine r_then ?_
                first
                  | (refine end1 rfl rfl ⟨hs.fwd, false, rfl, ?_⟩
                     constructor
                     · intro h; cases h
                     · rintro ⟨h1, h2⟩; omega)
                  | (refine end1 rfl rfl ⟨hs.fwd, true, rfl, ?_⟩
                     exact ⟨fun _ => ⟨by omega, fun j hj => hok j (by omega)⟩, fun _ => rfl⟩)
                  | (refine end1 rfl rfl ⟨hs.fwd, false, rfl, ?_⟩
                     constructor
                     · intro h; cases h
                     · rintro ⟨h1, h2⟩
                       have h3 := h2 i hix x hli
                       first
                         | exact absurd h3.1 hg19
                         | exact absurd hg24 h3.2.1
                         | exact absurd h3.2.2.1 hc29
                         | (have h4 := h3.2.2.2 (by omega) y hlp
                            rw [h4] at hc42; cases hc42))
              · skip
                simp only [decide_eq_true_eq, decide_eq_false_iff_not, beq_iff_eq, beq_eq_false_iff_ne, bne_iff_ne, bne_eq_false_iff_eq, ne_eq, Bool.not_eq_true', Bool.not_eq_false', Bool.not_eq_true, Bool.not_eq_false, gt_iff_lt] at hc42
                refine W_skip ?_
                refine n_blk ?_
                refine n_then ?_
                refine W_region ?_
                first | (refine s_add' rfl rfl rfl ?hx ?_; case hx => (constructor <;> first | omega | (simp only; omega))) | refine s_add rfl rfl rfl ?_
                refine s_move rfl rfl ?_
                refine WL_nil ?_
                refine n_loop ?_
                refine ⟨i + 1, ⟨rfl, rfl, rfl, rfl, trivial⟩, ⟨hs.tail, by omega, fun j hj => ?_⟩, by omega⟩
                rcases Nat.lt_or_ge j i with h1 | h1
                · exact hok j h1
                · obtain rfl : j = i := by omega
                  intro z hz
                  rw [hli] at hz
                  cases hz
                  refine ⟨hg19, hg24, hc29, fun hpos y' hy' => ?_⟩
                  first
                    | (rw [hlp] at hy'; cases hy'; exact hc42)
                    | omega
            · skip
              simp only [decide_eq_true_eq, decide_eq_false_iff_not, beq_iff_eq, beq_eq_false_iff_ne, bne_iff_ne, bne_eq_false_iff_eq, ne_eq, Bool.not_eq_true', Bool.not_eq_false', Bool.not_eq_true, Bool.not_eq_false, gt_iff_lt] at hg32
              refine D_qn ?_
              refine D_q rfl rfl ?_
              refine WL_skip rfl rfl rfl ?_
              refine D_qn ?_
              refine D_q rfl rfl ?_
              refine WL_skip rfl rfl rfl ?_
              refine D_qn ?_
              refine D_q rfl rfl ?_
              refine WL_skip rfl rfl rfl ?_
              refine D_qn ?_
              refine D_q rfl rfl ?_
              refine WL_skip rfl rfl rfl ?_
              refine D_qn ?_
              refine D_q rfl rfl ?_
              refine WL_skip rfl rfl rfl ?_
              refine D_qn ?_
              refine D_q rfl rfl ?_
              refine WL_skip rfl rfl rfl ?_
              refine D_qn ?_
              refine D_q rfl rfl ?_
              refine WL_skip rfl rfl rfl ?_
              refine D_qn ?_
              refine D_q rfl rfl ?_
              refine WL_skip rfl rfl rfl ?_
              refine D_qn ?_
              refine D_q rfl rfl ?_
              refine WL_skip rfl rfl rfl ?_
              refine D_qn ?_
              refine D_q rfl rfl ?_
              refine s_pick_f rfl rfl rfl ?_
              refine D_qn ?_
              refine D_nil ?_
              refine n_then ?_
              refine W_cond_f rfl ?_
              refine W_skip ?_
              refine n_blk ?_
              refine n_then ?_
              refine W_region ?_
              first | (refine s_add' rfl rfl rfl ?hx ?_; case hx => (constructor <;> first | omega | (simp only; omega))) | refine s_add rfl rfl rfl ?_
              refine s_move rfl rfl ?_
              refine WL_nil ?_
              refine n_loop ?_
              refine ⟨i + 1, ⟨rfl, rfl, rfl, rfl, trivial⟩, ⟨hs.tail, by omega, fun j hj => ?_⟩, by omega⟩
              rcases Nat.lt_or_ge j i with h1 | h1
              · exact hok j h1
              · obtain rfl : j = i := by omega
                intro z hz
                rw [hli] at hz
                cases hz
                refine ⟨hg19, hg24, hc29, fun hpos y' hy' => ?_⟩
                first
                  | (rw [hlp] at hy'; cases hy'; exact hc42)
                  | omega
    · skip
      simp only [decide_eq_true_eq, decide_eq_false_iff_not, beq_iff_eq, beq_eq_false_iff_ne, bne_iff_ne, bne_eq_false_iff_eq, ne_eq, Bool.not_eq_true', Bool.not_eq_false', Bool.not_eq_true, Bool.not_eq_false, gt_iff_lt] at hc11
      refine W_exit ?_
      refine x_then ?_
      refine x_then ?_
      refine exit_hit ?_
      refine n_then ?_
      refine W_seq ?_
      refine W_region ?_
      refine s_assign rfl rfl ?_
      refine WL_nil ?_
      refine n_then ?_
      refine W_ret ?_
      first
        | (refine end1 rfl rfl ⟨hs.fwd, false, rfl, ?_⟩
           constructor
           · intro h; cases h
           · rintro ⟨h1, h2⟩; omega)
        | (refine end1 rfl rfl ⟨hs.fwd, true, rfl, ?_⟩
           exact ⟨fun _ => ⟨by omega, fun j hj => hok j (by omega)⟩, fun _ => rfl⟩)
        | (refine end1 rfl rfl ⟨hs.fwd, false, rfl, ?_⟩
           constructor
           · intro h; cases h
           · rintro ⟨h1, h2⟩
             have h3 := h2 i hix x hli
             first
               | exact absurd h3.1 hg19
               | exact absurd hg24 h3.2.1
               | exact absurd h3.2.2.1 hc29
               | (have h4 := h3.2.2.2 (by omega) y hlp
                  rw [h4] at hc42; cases hc42))
end Go.Proofs.Ytmjjdcfakkaiiaa
