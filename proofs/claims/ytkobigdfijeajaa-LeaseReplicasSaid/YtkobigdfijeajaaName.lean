/- What labels.Name computes. -/
import Derived.Test.YtkobigdfijeajaaLib
set_option linter.unusedVariables false
set_option linter.unusedSimpArgs false
namespace Go.Proofs.Ytkobigdfijeajaa
open Go.SL
/-- byte c may stand at place i of a name -/
def okP (i c : Nat) : Prop := (97 ≤ c ∧ c ≤ 122) ∨ (i ≠ 0 ∧ (c = 95 ∨ (48 ≤ c ∧ c ≤ 57)))
instance (i c : Nat) : Decidable (okP i c) := by unfold okP; infer_instance
def nameP (s : ByteArray) : Prop := 1 ≤ s.size ∧ s.size ≤ 16 ∧ ∀ i, (h : i < s.size) → okP i (s[i]'h).toNat
instance (s : ByteArray) : Decidable (nameP s) := by unfold nameP; infer_instance
theorem decode_case (s : ByteArray) (p : Nat) (h : p < s.size) : (Utf8.decode s p = ((s[p]'h).toNat, 1) ∧ (s[p]'h).toNat < 128) ∨ (128 ≤ (Utf8.decode s p).1 ∧ 1 ≤ (Utf8.decode s p).2 ∧ 128 ≤ (s[p]'h).toNat) := by
  rcases Nat.lt_or_ge (s[p]'h).toNat 128 with h1 | h1
  · exact .inl ⟨decode_ascii s p h h1, h1⟩
  · have := decode_high s p h h1; exact .inr ⟨this.1, this.2, h1⟩
set_option maxHeartbeats 1000000 in
theorem name_ok (s : ByteArray) (w0 : World) : Ret Try.prog 65 [.string s].toArray w0 fun r w' => Fwd [] w0 w' ∧ r = .bool (decide (nameP s)) := by
  refine Ret_start fun w hs => ?_
  refine Ret_of Try.func65 rfl Try.ntmps65 rfl ?_
  refine W_seq ?_
  refine W_region ?_
  refine s_assign rfl rfl ?_
  refine WL_nil ?_
  refine n_then ?_
  refine W_seq ?_
  refine W_seq ?_
  refine W_region ?_
  refine s_move rfl rfl ?_
  refine s_len rfl rfl (LN9 _ _) ?_
  refine s_lss rfl rfl rfl ?_
  refine s_move rfl rfl ?_
  refine WL_case (s := 9) rfl (fun hg9 => ?_) (fun hg9 => ?_)
  · skip
    simp only [decide_eq_true_eq, decide_eq_false_iff_not, beq_iff_eq, beq_eq_false_iff_ne, bne_iff_ne, bne_eq_false_iff_eq, ne_eq, Bool.not_eq_true', Bool.not_eq_false', Bool.not_eq_true, Bool.not_eq_false] at hg9
    refine WL_skip rfl rfl rfl ?_
    refine WL_skip rfl rfl rfl ?_
    refine WL_skip rfl rfl rfl ?_
    refine s_pick_t rfl rfl rfl ?_
    refine WL_nil ?_
    refine n_then ?_
    refine W_cond_t rfl ?_
    refine W_seq ?_
    refine W_region ?_
    refine s_assign rfl rfl ?_
    refine WL_nil ?_
    refine n_then ?_
    refine W_ret ?_
    refine r_then ?_
    first
      | exact end1 rfl rfl ⟨hs.fwd, congrArg Value.bool (by symm; rw [decide_eq_false_iff_not]; rintro ⟨h1, h2, _⟩; omega)⟩
  · skip
    simp only [decide_eq_true_eq, decide_eq_false_iff_not, beq_iff_eq, beq_eq_false_iff_ne, bne_iff_ne, bne_eq_false_iff_eq, ne_eq, Bool.not_eq_true', Bool.not_eq_false', Bool.not_eq_true, Bool.not_eq_false] at hg9
    refine WL_take rfl ?_
    refine s_move rfl rfl ?_
    refine WL_take rfl ?_
    refine s_len rfl rfl (LN9 _ _) ?_
    refine WL_take rfl ?_
    refine s_gtr rfl rfl rfl ?_
    refine s_pick_f rfl rfl rfl ?_
    refine WL_nil ?_
    refine n_then ?_
    refine W_cond rfl (fun hc13 => ?_) (fun hc13 => ?_)
    · skip
      simp only [decide_eq_true_eq, decide_eq_false_iff_not, beq_iff_eq, beq_eq_false_iff_ne, bne_iff_ne, bne_eq_false_iff_eq, ne_eq, Bool.not_eq_true', Bool.not_eq_false', Bool.not_eq_true, Bool.not_eq_false] at hc13
      refine W_seq ?_
      refine W_region ?_
      refine s_assign rfl rfl ?_
      refine WL_nil ?_
      refine n_then ?_
      refine W_ret ?_
      refine r_then ?_
      first
        | exact end1 rfl rfl ⟨hs.fwd, congrArg Value.bool (by symm; rw [decide_eq_false_iff_not]; rintro ⟨h1, h2, _⟩; omega)⟩
    · skip
      simp only [decide_eq_true_eq, decide_eq_false_iff_not, beq_iff_eq, beq_eq_false_iff_ne, bne_iff_ne, bne_eq_false_iff_eq, ne_eq, Bool.not_eq_true', Bool.not_eq_false', Bool.not_eq_true, Bool.not_eq_false] at hc13
      refine W_skip ?_
      refine n_then ?_
      refine W_seq ?_
      refine W_seq ?_
      refine W_region ?_
      refine s_move rfl rfl ?_
      refine s_range_str Try.underlying9 rfl rfl hs ?_; clear hs; intro b15 w hs
      refine WL_nil ?_
      refine n_then ?_
      refine W_block ?_
      refine W_loop (σ := Nat) (fun p => [(0, .string s), (15, .pointer (some ⟨b15, 0, none⟩))]) (fun p w => St [] w0 w [(b15, .stringIter s p)] ∧ (∀ i, (h : i < s.size) → i < p → okP i (s[i]'h).toNat)) (fun p => s.size - p) 0 ⟨rfl, rfl, trivial⟩ ⟨hs, by omega⟩ ?_
      clear hs
      intro p w ⟨hs, hok⟩
      refine W_seq ?_
      refine W_region ?_
      rcases Nat.lt_or_ge p s.size with hp | hp 
      · skip
        refine s_next_str rfl rfl hs (kk := 0) rfl hp ?_
        clear hs; intro w hs
        simp only [List.set_cons_zero] at hs
        have hdc := decode_case s p hp
        generalize hcc : (s[p]'hp).toNat = cc at hdc
        generalize Utf8.decode s p = dd at hdc hs ⊢
        obtain ⟨rn, wd⟩ := dd
        simp only [Prod.mk.injEq] at hdc hs ⊢
        refine s_extract rfl rfl rfl ?_
        refine WL_nil ?_
        refine n_then ?_
        refine W_seq ?_
        refine W_cond_kt rfl (rfl) ?_
        refine W_skip ?_
        refine n_then ?_
        refine W_block ?_
        refine W_seq ?_
        refine W_region ?_
        refine s_extract rfl rfl rfl ?_
        refine s_extract rfl rfl rfl ?_
        refine s_assign rfl rfl ?_
        refine s_assign rfl rfl ?_
        refine WL_nil ?_
        refine n_then ?_
        refine W_seq ?_
        refine W_region ?_
        refine s_move rfl rfl ?_
        refine s_geq rfl rfl rfl ?_
        refine s_move rfl rfl ?_
        refine WL_case (s := 22) rfl (fun hg22 => ?_) (fun hg22 => ?_)
        · skip
          simp only [decide_eq_true_eq, decide_eq_false_iff_not, beq_iff_eq, beq_eq_false_iff_ne, bne_iff_ne, bne_eq_false_iff_eq, ne_eq, Bool.not_eq_true', Bool.not_eq_false', Bool.not_eq_true, Bool.not_eq_false] at hg22
          refine WL_take rfl ?_
          refine s_move rfl rfl ?_
          refine WL_take rfl ?_
          refine s_leq rfl rfl rfl ?_
          refine s_pick_t rfl rfl rfl ?_
          refine s_assign rfl rfl ?_
          refine WL_nil ?_
          refine n_then ?_
          refine W_seq ?_
          refine W_region ?_
          refine s_move rfl rfl ?_
          refine s_not rfl rfl ?_
          refine s_move rfl rfl ?_
          refine WL_case (s := 28) rfl (fun hg28 => ?_) (fun hg28 => ?_)
          · skip
            simp only [decide_eq_true_eq, decide_eq_false_iff_not, beq_iff_eq, beq_eq_false_iff_ne, bne_iff_ne, bne_eq_false_iff_eq, ne_eq, Bool.not_eq_true', Bool.not_eq_false', Bool.not_eq_true, Bool.not_eq_false] at hg28
            refine WL_take rfl ?_
            refine s_move rfl rfl ?_
            refine WL_take rfl ?_
            refine s_eql rfl rfl rfl ?_
            refine WL_take rfl ?_
            refine s_move rfl rfl ?_
            refine WL_case (s := 31) rfl (fun hg31 => ?_) (fun hg31 => ?_)
            · skip
              simp only [decide_eq_true_eq, decide_eq_false_iff_not, beq_iff_eq, beq_eq_false_iff_ne, bne_iff_ne, bne_eq_false_iff_eq, ne_eq, Bool.not_eq_true', Bool.not_eq_false', Bool.not_eq_true, Bool.not_eq_false] at hg31
              refine WL_skip rfl rfl rfl ?_
              refine WL_skip rfl rfl rfl ?_
              refine WL_skip rfl rfl rfl ?_
              refine WL_skipU rfl rfl ?_
              refine WL_skipU rfl rfl ?_
              refine WL_skipU rfl rfl ?_
              refine WL_skipU rfl rfl ?_
              refine WL_skipU rfl rfl ?_
              refine WL_skipU rfl rfl ?_
              refine WL_skip rfl rfl rfl ?_
              refine WL_take rfl ?_
              refine s_pick_t rfl rfl rfl ?_
              refine s_pick_t rfl rfl rfl ?_
              refine WL_nil ?_
              refine n_then ?_
              refine W_cond_t rfl ?_
              refine W_seq ?_
              refine W_region ?_
              refine s_assign rfl rfl ?_
              refine WL_nil ?_
              refine n_then ?_
              refine W_ret ?_
              refine r_blk ?_
              refine r_then ?_
              refine r_blk ?_
              refine r_then ?_
              first
                | exact end1 rfl rfl ⟨hs.fwd, congrArg Value.bool (by symm; rw [decide_eq_false_iff_not]; rintro ⟨h1, h2, h3⟩; have h4 := h3 p hp; rw [hcc] at h4; unfold okP at h4; omega)⟩
            · skip
              simp only [decide_eq_true_eq, decide_eq_false_iff_not, beq_iff_eq, beq_eq_false_iff_ne, bne_iff_ne, bne_eq_false_iff_eq, ne_eq, Bool.not_eq_true', Bool.not_eq_false', Bool.not_eq_true, Bool.not_eq_false] at hg31
              refine WL_take rfl ?_
              refine s_move rfl rfl ?_
              refine WL_take rfl ?_
              refine s_neq rfl rfl rfl ?_
              refine WL_take rfl ?_
              refine s_move rfl rfl ?_
              refine WL_case (s := 34) rfl (fun hg34 => ?_) (fun hg34 => ?_)
              · skip
                simp only [decide_eq_true_eq, decide_eq_false_iff_not, beq_iff_eq, beq_eq_false_iff_ne, bne_iff_ne, bne_eq_false_iff_eq, ne_eq, Bool.not_eq_true', Bool.not_eq_false', Bool.not_eq_true, Bool.not_eq_false] at hg34
                refine WL_take rfl ?_
                refine s_move rfl rfl ?_
                refine WL_take rfl ?_
                refine s_lss rfl rfl rfl ?_
                refine WL_take rfl ?_
                refine s_move rfl rfl ?_
                refine WL_case (s := 37) rfl (fun hg37 => ?_) (fun hg37 => ?_)
                · skip
                  simp only [decide_eq_true_eq, decide_eq_false_iff_not, beq_iff_eq, beq_eq_false_iff_ne, bne_iff_ne, bne_eq_false_iff_eq, ne_eq, Bool.not_eq_true', Bool.not_eq_false', Bool.not_eq_true, Bool.not_eq_false] at hg37
                  refine WL_skip rfl rfl rfl ?_
                  refine WL_skip rfl rfl rfl ?_
                  refine WL_take rfl ?_
                  refine s_pick_t rfl rfl rfl ?_
                  refine WL_take rfl ?_
                  refine s_pick_t rfl rfl rfl ?_
                  refine WL_take rfl ?_
                  refine s_pick_f rfl rfl rfl ?_
                  refine s_pick_t rfl rfl rfl ?_
                  refine WL_nil ?_
                  refine n_then ?_
                  refine W_cond_t rfl ?_
                  refine W_seq ?_
                  refine W_region ?_
                  refine s_assign rfl rfl ?_
                  refine WL_nil ?_
                  refine n_then ?_
                  refine W_ret ?_
                  refine r_blk ?_
                  refine r_then ?_
                  refine r_blk ?_
                  refine r_then ?_
                  first
                    | exact end1 rfl rfl ⟨hs.fwd, congrArg Value.bool (by symm; rw [decide_eq_false_iff_not]; rintro ⟨h1, h2, _⟩; omega)⟩
                · skip
                  simp only [decide_eq_true_eq, decide_eq_false_iff_not, beq_iff_eq, beq_eq_false_iff_ne, bne_iff_ne, bne_eq_false_iff_eq, ne_eq, Bool.not_eq_true', Bool.not_eq_false', Bool.not_eq_true, Bool.not_eq_false] at hg37
                  refine WL_take rfl ?_
                  refine s_move rfl rfl ?_
                  refine WL_take rfl ?_
                  refine s_gtr rfl rfl rfl ?_
                  refine WL_take rfl ?_
                  refine s_pick_f rfl rfl rfl ?_
                  refine WL_take rfl ?_
                  refine s_pick_t rfl rfl rfl ?_
                  refine WL_take rfl ?_
                  refine s_pick_f rfl rfl rfl ?_
                  refine s_pick_t rfl rfl rfl ?_
                  refine WL_nil ?_
                  refine n_then ?_
                  refine W_cond rfl (fun hc43 => ?_) (fun hc43 => ?_)
                  · skip
                    simp only [decide_eq_true_eq, decide_eq_false_iff_not, beq_iff_eq, beq_eq_false_iff_ne, bne_iff_ne, bne_eq_false_iff_eq, ne_eq, Bool.not_eq_true', Bool.not_eq_false', Bool.not_eq_true, Bool.not_eq_false] at hc43
                    refine W_seq ?_
                    refine W_region ?_
                    refine s_assign rfl rfl ?_
                    refine WL_nil ?_
                    refine n_then ?_
                    refine W_ret ?_
                    refine r_blk ?_
                    refine r_then ?_
                    refine r_blk ?_
                    refine r_then ?_
                    first
                      | exact end1 rfl rfl ⟨hs.fwd, congrArg Value.bool (by symm; rw [decide_eq_false_iff_not]; rintro ⟨h1, h2, h3⟩; have h4 := h3 p hp; rw [hcc] at h4; unfold okP at h4; omega)⟩
                  · skip
                    simp only [decide_eq_true_eq, decide_eq_false_iff_not, beq_iff_eq, beq_eq_false_iff_ne, bne_iff_ne, bne_eq_false_iff_eq, ne_eq, Bool.not_eq_true', Bool.not_eq_false', Bool.not_eq_true, Bool.not_eq_false] at hc43
                    refine W_skip ?_
                    refine n_blk ?_
                    refine n_loop ?_
                    have hk : okP p cc ∧ wd = 1 := by unfold okP; omega
                    obtain ⟨hk, rfl⟩ := hk
                    refine ⟨p + 1, ⟨rfl, rfl, trivial⟩, ⟨hs, fun i h hi => ?_⟩, by omega⟩
                    rcases Nat.lt_or_ge i p with h1 | h1
                    · exact hok i h h1
                    · obtain rfl : i = p := by omega
                      rw [hcc]; exact hk
              · skip
                simp only [decide_eq_true_eq, decide_eq_false_iff_not, beq_iff_eq, beq_eq_false_iff_ne, bne_iff_ne, bne_eq_false_iff_eq, ne_eq, Bool.not_eq_true', Bool.not_eq_false', Bool.not_eq_true, Bool.not_eq_false] at hg34
                refine WL_skip rfl rfl rfl ?_
                refine WL_skip rfl rfl rfl ?_
                refine WL_skip rfl rfl rfl ?_
                refine WL_skipU rfl rfl ?_
                refine WL_skipU rfl rfl ?_
                refine WL_skip rfl rfl rfl ?_
                refine WL_take rfl ?_
                refine s_pick_f rfl rfl rfl ?_
                refine WL_take rfl ?_
                refine s_pick_f rfl rfl rfl ?_
                refine s_pick_t rfl rfl rfl ?_
                refine WL_nil ?_
                refine n_then ?_
                refine W_cond_f rfl ?_
                refine W_skip ?_
                refine n_blk ?_
                refine n_loop ?_
                have hk : okP p cc ∧ wd = 1 := by unfold okP; omega
                obtain ⟨hk, rfl⟩ := hk
                refine ⟨p + 1, ⟨rfl, rfl, trivial⟩, ⟨hs, fun i h hi => ?_⟩, by omega⟩
                rcases Nat.lt_or_ge i p with h1 | h1
                · exact hok i h h1
                · obtain rfl : i = p := by omega
                  rw [hcc]; exact hk
          · skip
            simp only [decide_eq_true_eq, decide_eq_false_iff_not, beq_iff_eq, beq_eq_false_iff_ne, bne_iff_ne, bne_eq_false_iff_eq, ne_eq, Bool.not_eq_true', Bool.not_eq_false', Bool.not_eq_true, Bool.not_eq_false] at hg28
            refine WL_skip rfl rfl rfl ?_
            refine WL_skip rfl rfl rfl ?_
            refine WL_skip rfl rfl rfl ?_
            refine WL_skipU rfl rfl ?_
            refine WL_skipU rfl rfl ?_
            refine WL_skipU rfl rfl ?_
            refine WL_skipU rfl rfl ?_
            refine WL_skipU rfl rfl ?_
            refine WL_skipU rfl rfl ?_
            refine WL_skipU rfl rfl ?_
            refine WL_skipU rfl rfl ?_
            refine WL_skipU rfl rfl ?_
            refine WL_skipU rfl rfl ?_
            refine WL_skip rfl rfl rfl ?_
            refine s_pick_f rfl rfl rfl ?_
            refine WL_nil ?_
            refine n_then ?_
            refine W_cond_f rfl ?_
            refine W_skip ?_
            refine n_blk ?_
            refine n_loop ?_
            have hk : okP p cc ∧ wd = 1 := by unfold okP; omega
            obtain ⟨hk, rfl⟩ := hk
            refine ⟨p + 1, ⟨rfl, rfl, trivial⟩, ⟨hs, fun i h hi => ?_⟩, by omega⟩
            rcases Nat.lt_or_ge i p with h1 | h1
            · exact hok i h h1
            · obtain rfl : i = p := by omega
              rw [hcc]; exact hk
        · skip
          simp only [decide_eq_true_eq, decide_eq_false_iff_not, beq_iff_eq, beq_eq_false_iff_ne, bne_iff_ne, bne_eq_false_iff_eq, ne_eq, Bool.not_eq_true', Bool.not_eq_false', Bool.not_eq_true, Bool.not_eq_false] at hg22
          refine WL_skip rfl rfl rfl ?_
          refine WL_skip rfl rfl rfl ?_
          refine s_pick_f rfl rfl rfl ?_
          refine s_assign rfl rfl ?_
          refine WL_nil ?_
          refine n_then ?_
          refine W_seq ?_
          refine W_region ?_
          refine s_move rfl rfl ?_
          refine s_not rfl rfl ?_
          refine s_move rfl rfl ?_
          refine WL_take rfl ?_
          refine s_move rfl rfl ?_
          refine WL_take rfl ?_
          refine s_eql rfl rfl rfl ?_
          refine WL_take rfl ?_
          refine s_move rfl rfl ?_
          refine WL_case (s := 31) rfl (fun hg31 => ?_) (fun hg31 => ?_)
          · skip
            simp only [decide_eq_true_eq, decide_eq_false_iff_not, beq_iff_eq, beq_eq_false_iff_ne, bne_iff_ne, bne_eq_false_iff_eq, ne_eq, Bool.not_eq_true', Bool.not_eq_false', Bool.not_eq_true, Bool.not_eq_false] at hg31
            refine WL_skip rfl rfl rfl ?_
            refine WL_skip rfl rfl rfl ?_
            refine WL_skip rfl rfl rfl ?_
            refine WL_skipU rfl rfl ?_
            refine WL_skipU rfl rfl ?_
            refine WL_skipU rfl rfl ?_
            refine WL_skipU rfl rfl ?_
            refine WL_skipU rfl rfl ?_
            refine WL_skipU rfl rfl ?_
            refine WL_skip rfl rfl rfl ?_
            refine WL_take rfl ?_
            refine s_pick_t rfl rfl rfl ?_
            refine s_pick_t rfl rfl rfl ?_
            refine WL_nil ?_
            refine n_then ?_
            refine W_cond_t rfl ?_
            refine W_seq ?_
            refine W_region ?_
            refine s_assign rfl rfl ?_
            refine WL_nil ?_
            refine n_then ?_
            refine W_ret ?_
            refine r_blk ?_
            refine r_then ?_
            refine r_blk ?_
            refine r_then ?_
            first
              | exact end1 rfl rfl ⟨hs.fwd, congrArg Value.bool (by symm; rw [decide_eq_false_iff_not]; rintro ⟨h1, h2, h3⟩; have h4 := h3 p hp; rw [hcc] at h4; unfold okP at h4; omega)⟩
          · skip
            simp only [decide_eq_true_eq, decide_eq_false_iff_not, beq_iff_eq, beq_eq_false_iff_ne, bne_iff_ne, bne_eq_false_iff_eq, ne_eq, Bool.not_eq_true', Bool.not_eq_false', Bool.not_eq_true, Bool.not_eq_false] at hg31
            refine WL_take rfl ?_
            refine s_move rfl rfl ?_
            refine WL_take rfl ?_
            refine s_neq rfl rfl rfl ?_
            refine WL_take rfl ?_
            refine s_move rfl rfl ?_
            refine WL_case (s := 34) rfl (fun hg34 => ?_) (fun hg34 => ?_)
            · skip
              simp only [decide_eq_true_eq, decide_eq_false_iff_not, beq_iff_eq, beq_eq_false_iff_ne, bne_iff_ne, bne_eq_false_iff_eq, ne_eq, Bool.not_eq_true', Bool.not_eq_false', Bool.not_eq_true, Bool.not_eq_false] at hg34
              refine WL_take rfl ?_
              refine s_move rfl rfl ?_
              refine WL_take rfl ?_
              refine s_lss rfl rfl rfl ?_
              refine WL_take rfl ?_
              refine s_move rfl rfl ?_
              refine WL_case (s := 37) rfl (fun hg37 => ?_) (fun hg37 => ?_)
              · skip
                simp only [decide_eq_true_eq, decide_eq_false_iff_not, beq_iff_eq, beq_eq_false_iff_ne, bne_iff_ne, bne_eq_false_iff_eq, ne_eq, Bool.not_eq_true', Bool.not_eq_false', Bool.not_eq_true, Bool.not_eq_false] at hg37
                refine WL_skip rfl rfl rfl ?_
                refine WL_skip rfl rfl rfl ?_
                refine WL_take rfl ?_
                refine s_pick_t rfl rfl rfl ?_
                refine WL_take rfl ?_
                refine s_pick_t rfl rfl rfl ?_
                refine WL_take rfl ?_
                refine s_pick_f rfl rfl rfl ?_
                refine s_pick_t rfl rfl rfl ?_
                refine WL_nil ?_
                refine n_then ?_
                refine W_cond_t rfl ?_
                refine W_seq ?_
                refine W_region ?_
                refine s_assign rfl rfl ?_
                refine WL_nil ?_
                refine n_then ?_
                refine W_ret ?_
                refine r_blk ?_
                refine r_then ?_
                refine r_blk ?_
                refine r_then ?_
                first
                  | exact end1 rfl rfl ⟨hs.fwd, congrArg Value.bool (by symm; rw [decide_eq_false_iff_not]; rintro ⟨h1, h2, h3⟩; have h4 := h3 p hp; rw [hcc] at h4; unfold okP at h4; omega)⟩
              · skip
                simp only [decide_eq_true_eq, decide_eq_false_iff_not, beq_iff_eq, beq_eq_false_iff_ne, bne_iff_ne, bne_eq_false_iff_eq, ne_eq, Bool.not_eq_true', Bool.not_eq_false', Bool.not_eq_true, Bool.not_eq_false] at hg37
                refine WL_take rfl ?_
                refine s_move rfl rfl ?_
                refine WL_take rfl ?_
                refine s_gtr rfl rfl rfl ?_
                refine WL_take rfl ?_
                refine s_pick_f rfl rfl rfl ?_
                refine WL_take rfl ?_
                refine s_pick_t rfl rfl rfl ?_
                refine WL_take rfl ?_
                refine s_pick_f rfl rfl rfl ?_
                refine s_pick_t rfl rfl rfl ?_
                refine WL_nil ?_
                refine n_then ?_
                refine W_cond rfl (fun hc43 => ?_) (fun hc43 => ?_)
                · skip
                  simp only [decide_eq_true_eq, decide_eq_false_iff_not, beq_iff_eq, beq_eq_false_iff_ne, bne_iff_ne, bne_eq_false_iff_eq, ne_eq, Bool.not_eq_true', Bool.not_eq_false', Bool.not_eq_true, Bool.not_eq_false] at hc43
                  refine W_seq ?_
                  refine W_region ?_
                  refine s_assign rfl rfl ?_
                  refine WL_nil ?_
                  refine n_then ?_
                  refine W_ret ?_
                  refine r_blk ?_
                  refine r_then ?_
                  refine r_blk ?_
                  refine r_then ?_
                  first
                    | exact end1 rfl rfl ⟨hs.fwd, congrArg Value.bool (by symm; rw [decide_eq_false_iff_not]; rintro ⟨h1, h2, h3⟩; have h4 := h3 p hp; rw [hcc] at h4; unfold okP at h4; omega)⟩
                · skip
                  simp only [decide_eq_true_eq, decide_eq_false_iff_not, beq_iff_eq, beq_eq_false_iff_ne, bne_iff_ne, bne_eq_false_iff_eq, ne_eq, Bool.not_eq_true', Bool.not_eq_false', Bool.not_eq_true, Bool.not_eq_false] at hc43
                  refine W_skip ?_
                  refine n_blk ?_
                  refine n_loop ?_
                  have hk : okP p cc ∧ wd = 1 := by unfold okP; omega
                  obtain ⟨hk, rfl⟩ := hk
                  refine ⟨p + 1, ⟨rfl, rfl, trivial⟩, ⟨hs, fun i h hi => ?_⟩, by omega⟩
                  rcases Nat.lt_or_ge i p with h1 | h1
                  · exact hok i h h1
                  · obtain rfl : i = p := by omega
                    rw [hcc]; exact hk
            · skip
              simp only [decide_eq_true_eq, decide_eq_false_iff_not, beq_iff_eq, beq_eq_false_iff_ne, bne_iff_ne, bne_eq_false_iff_eq, ne_eq, Bool.not_eq_true', Bool.not_eq_false', Bool.not_eq_true, Bool.not_eq_false] at hg34
              refine WL_skip rfl rfl rfl ?_
              refine WL_skip rfl rfl rfl ?_
              refine WL_skip rfl rfl rfl ?_
              refine WL_skipU rfl rfl ?_
              refine WL_skipU rfl rfl ?_
              refine WL_skip rfl rfl rfl ?_
              refine WL_take rfl ?_
              refine s_pick_f rfl rfl rfl ?_
              refine WL_take rfl ?_
              refine s_pick_f rfl rfl rfl ?_
              refine s_pick_t rfl rfl rfl ?_
              refine WL_nil ?_
              refine n_then ?_
              refine W_cond_f rfl ?_
              refine W_skip ?_
              refine n_blk ?_
              refine n_loop ?_
              have hk : okP p cc ∧ wd = 1 := by unfold okP; omega
              obtain ⟨hk, rfl⟩ := hk
              refine ⟨p + 1, ⟨rfl, rfl, trivial⟩, ⟨hs, fun i h hi => ?_⟩, by omega⟩
              rcases Nat.lt_or_ge i p with h1 | h1
              · exact hok i h h1
              · obtain rfl : i = p := by omega
                rw [hcc]; exact hk
      · skip
        refine s_next_end rfl rfl hs (kk := 0) rfl hp ?_
        refine s_extract rfl rfl rfl ?_
        refine WL_nil ?_
        refine n_then ?_
        refine W_seq ?_
        refine W_cond_kf rfl (rfl) ?_
        refine W_exit ?_
        refine x_then ?_
        refine x_then ?_
        refine exit_hit ?_
        refine n_then ?_
        refine W_seq ?_
        refine W_region ?_
        refine s_assign rfl rfl ?_
        refine WL_nil ?_
        refine n_then ?_
        refine W_ret ?_
        first
          | exact end1 rfl rfl ⟨hs.fwd, congrArg Value.bool (by symm; rw [decide_eq_true_eq]; exact ⟨by omega, by omega, fun i h => hok i h (by omega)⟩)⟩
end Go.Proofs.Ytkobigdfijeajaa
