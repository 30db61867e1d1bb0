/- The reference's labels: Name, Value, New, Same, Valid. -/
import Derived.Test.YtmjjdcfakkaiiaaRfP
set_option linter.unusedVariables false
set_option linter.unusedSimpArgs false
namespace Go.SL
section
variable {P : Program} {n : Nat} {ops : Array Oper} {Q : Post} {l : Fr} {w : World} {rest : List Oper} {d ty : Nat} {pos : String} {aft : Array Edge}
theorem s_indexAddrA {x y : Operand} {t e len b o : Nat} {kd : IntKind} {i : Int} (hu : P.underlying t = some (.array len e)) (hsz : ∀ w, (sizeOf e).run P w = .ok 1 w) (hd : Nat.blt d n = true) (hx : ev l x = some (.pointer (some ⟨b, o, none⟩))) (hy : ev l y = some (.int kd i)) (h : 0 ≤ i ∧ i < len)
    (k : WL P n ops Q rest ((d, .pointer (some ⟨b, o + i.toNat, none⟩)) :: l) w) : WL P n ops Q (⟨some d, .indexAddr t x y, ty, pos, aft, none⟩ :: rest) l w := WL_val hd (fun a ha => by
      simp [execOp, ha.eval hx, ha.eval hy, Instr.indexAt, asIntOf, run_underlying hu, Instr.sureAddr, h.1, h.2, hsz, Addr.add_lit]) k
theorem s_slice_own {x y : Operand} {t e size bytes m j : Nat} {zs cs : List Value} {v : Value} {kd : IntKind} {lo : Int} {F : List Nat} {w0 : World} {Lv M : Hp} (el : El P t e zs size bytes) (hd : Nat.blt d n = true) (hx : ev l x = some v) (hy : ev l y = some (.int kd lo)) (hO : OwnS e size v m cs Lv) (hs : St F w0 w (Lv ++ M)) (hlo : lo = (j : Int)) (hj : j ≤ m)
    (k : ∀ u, Sl w u (m - j) (cs.drop (j * size)) → WL P n ops Q rest ((d, u) :: l) w) : WL P n ops Q (⟨some d, .slice t x (some y) none none, ty, pos, aft, none⟩ :: rest) l w := by
  subst hlo
  have hsl := hO.sl hs
  have hlen := hO.1
  rcases Nat.eq_zero_or_pos m with h0 | h0
  · subst h0
    obtain rfl : j = 0 := by omega
    obtain ⟨hl, h⟩ := hO
    have hcs : cs = [] := List.eq_nil_of_length_eq_zero (by simpa using hl)
    subst hcs
    obtain ⟨ii, hi, ⟨z, hz, hzc⟩, hsi, hby⟩ := el.hi
    rcases h with ⟨⟨a, rfl⟩, _, _⟩ | ⟨g, cap, sp, rfl, h2, h3, h4, rfl⟩
    · refine WL_val hd (fun ac ha => ?_) (k (.slice a 0 0) ⟨a, 0, rfl, Nat.le_refl _, .inl (by simp)⟩)
      simp [execOp, ha.eval hx, ha.eval hy, Instr.sliceAt, Instr.slice, run_underlying el.ht, Instr.sliceBounds, Instr.sliceBound, asIntOf, sizeOf, typeInfo, hi, hsi]
    · exact s_slice_lo el hd hx hy (by omega) (k _ ⟨_, _, rfl, by simp, .inl (by simp)⟩)
  · obtain ⟨g, cap, sp, rfl, hc, _⟩ := hO.block h0
    have := hsl.drop hlen hj
    exact s_slice_lo el hd hx hy (by omega) (k _ (by rw [show ((j : Int)).toNat = j by omega]; exact this))
end
end Go.SL
namespace Go.Proofs.Ytmjjdcfakkaiiaa
open Go.SL
theorem fLetter_ok (c : Nat) (w0 : World) : Ret Try.prog 55 [.int .u8 (c : Int)].toArray w0 fun r w' => w' = w0 ∧ r = .bool (decide (97 ≤ c ∧ c ≤ 122)) := by
  refine Ret_of Try.func55 rfl Try.ntmps55 rfl ?_
  refine W_seq ?_
  refine W_region ?_
  refine s_assign rfl rfl ?_
  refine WL_nil ?_
  refine n_then ?_
  refine W_seq ?_
  refine W_region ?_
  refine s_move rfl rfl ?_
  refine s_geq rfl rfl rfl ?_
  refine s_move rfl rfl ?_
  refine WL_case (s := 5) rfl (fun hg5 => ?_) (fun hg5 => ?_)
  · skip
    simp only [decide_eq_true_eq, decide_eq_false_iff_not, ge_iff_le] at hg5
    refine WL_take rfl ?_
    refine s_move rfl rfl ?_
    refine WL_take rfl ?_
    refine s_leq rfl rfl rfl ?_
    refine s_pick_t rfl rfl rfl ?_
    refine s_assign rfl rfl ?_
    refine WL_nil ?_
    refine n_then ?_
    refine W_ret ?_
    refine end1 rfl rfl ⟨rfl, congrArg Value.bool ?_⟩
    first
      | (rw [decide_eq_decide]; omega)
      | (symm; rw [decide_eq_false_iff_not]; omega)
  · skip
    simp only [decide_eq_true_eq, decide_eq_false_iff_not, ge_iff_le] at hg5
    refine WL_skip rfl rfl rfl ?_
    refine WL_skip rfl rfl rfl ?_
    refine s_pick_f rfl rfl rfl ?_
    refine s_assign rfl rfl ?_
    refine WL_nil ?_
    refine n_then ?_
    refine W_ret ?_
    refine end1 rfl rfl ⟨rfl, congrArg Value.bool ?_⟩
    first
      | (rw [decide_eq_decide]; omega)
      | (symm; rw [decide_eq_false_iff_not]; omega)
theorem fName_ok (s : ByteArray) (w0 : World) : Ret Try.prog 36 [.string s].toArray w0 fun r w' => w' = w0 ∧ r = .bool (decide (nameP s)) := by
  refine Ret_of Try.func36 rfl Try.ntmps36 rfl ?_
  refine W_seq ?_
  refine W_region ?_
  refine s_assign rfl rfl ?_
  refine WL_nil ?_
  refine n_then ?_
  refine W_seq ?_
  refine W_seq ?_
  refine W_region ?_
  refine s_move rfl rfl ?_
  refine s_len rfl rfl (LN9 _ _) ?_
  refine s_lss rfl rfl rfl ?_
  refine s_move rfl rfl ?_
  refine WL_case (s := 8) rfl (fun hg8 => ?_) (fun hg8 => ?_)
  · skip
    simp only [decide_eq_true_eq, decide_eq_false_iff_not, beq_iff_eq, beq_eq_false_iff_ne, bne_iff_ne, bne_eq_false_iff_eq, ne_eq, Bool.not_eq_true', Bool.not_eq_false', Bool.not_eq_true, Bool.not_eq_false, ge_iff_le, gt_iff_lt] at hg8
    refine WL_skip rfl rfl rfl ?_
    refine WL_skip rfl rfl rfl ?_
    refine WL_skip rfl rfl rfl ?_
    refine s_pick_t rfl rfl rfl ?_
    refine WL_nil ?_
    refine n_then ?_
    refine W_cond_t rfl ?_
    refine W_seq ?_
    refine W_region ?_
    refine s_assign rfl rfl ?_
    refine WL_nil ?_
    refine n_then ?_
    refine W_ret ?_
    refine r_then ?_
    first
      | exact end1 rfl rfl ⟨rfl, congrArg Value.bool (by symm; rw [decide_eq_false_iff_not]; rintro ⟨h1, h2, _⟩; omega)⟩
      | exact end1 rfl rfl ⟨rfl, congrArg Value.bool (by symm; rw [decide_eq_false_iff_not]; rintro ⟨h1, h2, h3⟩; have h4 := h3 p hpl; rw [hcc] at h4; unfold okP at h4; omega)⟩
      | exact end1 rfl rfl ⟨rfl, congrArg Value.bool (by symm; rw [decide_eq_true_eq]; exact ⟨by omega, by omega, fun i h => hok i h (by omega)⟩)⟩
  · skip
    simp only [decide_eq_true_eq, decide_eq_false_iff_not, beq_iff_eq, beq_eq_false_iff_ne, bne_iff_ne, bne_eq_false_iff_eq, ne_eq, Bool.not_eq_true', Bool.not_eq_false', Bool.not_eq_true, Bool.not_eq_false, ge_iff_le, gt_iff_lt] at hg8
    refine WL_take rfl ?_
    refine s_move rfl rfl ?_
    refine WL_take rfl ?_
    refine s_len rfl rfl (LN9 _ _) ?_
    refine WL_take rfl ?_
    refine s_gtr rfl rfl rfl ?_
    refine s_pick_f rfl rfl rfl ?_
    refine WL_nil ?_
    refine n_then ?_
    refine W_cond rfl (fun hc12 => ?_) (fun hc12 => ?_)
    · skip
      simp only [decide_eq_true_eq, decide_eq_false_iff_not, beq_iff_eq, beq_eq_false_iff_ne, bne_iff_ne, bne_eq_false_iff_eq, ne_eq, Bool.not_eq_true', Bool.not_eq_false', Bool.not_eq_true, Bool.not_eq_false, ge_iff_le, gt_iff_lt] at hc12
      refine W_seq ?_
      refine W_region ?_
      refine s_assign rfl rfl ?_
      refine WL_nil ?_
      refine n_then ?_
      refine W_ret ?_
      refine r_then ?_
      first
        | exact end1 rfl rfl ⟨rfl, congrArg Value.bool (by symm; rw [decide_eq_false_iff_not]; rintro ⟨h1, h2, _⟩; omega)⟩
        | exact end1 rfl rfl ⟨rfl, congrArg Value.bool (by symm; rw [decide_eq_false_iff_not]; rintro ⟨h1, h2, h3⟩; have h4 := h3 p hpl; rw [hcc] at h4; unfold okP at h4; omega)⟩
        | exact end1 rfl rfl ⟨rfl, congrArg Value.bool (by symm; rw [decide_eq_true_eq]; exact ⟨by omega, by omega, fun i h => hok i h (by omega)⟩)⟩
    · skip
      simp only [decide_eq_true_eq, decide_eq_false_iff_not, beq_iff_eq, beq_eq_false_iff_ne, bne_iff_ne, bne_eq_false_iff_eq, ne_eq, Bool.not_eq_true', Bool.not_eq_false', Bool.not_eq_true, Bool.not_eq_false, ge_iff_le, gt_iff_lt] at hc12
      refine W_skip ?_
      refine n_then ?_
      refine W_seq ?_
      refine W_seq ?_
      refine W_region ?_
      refine s_assign rfl rfl ?_
      refine WL_nil ?_
      refine n_then ?_
      refine W_block ?_
      refine W_loop (σ := Nat) (fun p => [(0, .string s), (3, .int .i64 (p : Int))]) (fun p w => w = w0 ∧ p ≤ s.size ∧ (∀ i, (h : i < s.size) → i < p → okP i (s[i]'h).toNat)) (fun p => s.size - p) 0 ⟨rfl, rfl, trivial⟩ ⟨rfl, Nat.zero_le _, by omega⟩ ?_
      rintro p w ⟨hw, hp, hok⟩
      rw [hw]
      clear hw w
      refine W_seq ?_
      refine W_seq ?_
      refine W_region ?_
      refine s_move rfl rfl ?_
      refine s_move rfl rfl ?_
      refine s_len rfl rfl (LN9 _ _) ?_
      refine s_lss rfl rfl rfl ?_
      refine WL_nil ?_
      refine n_then ?_
      refine W_cond rfl (fun hc16 => ?_) (fun hc16 => ?_)
      · skip
        simp only [decide_eq_true_eq, decide_eq_false_iff_not, beq_iff_eq, beq_eq_false_iff_ne, bne_iff_ne, bne_eq_false_iff_eq, ne_eq, Bool.not_eq_true', Bool.not_eq_false', Bool.not_eq_true, Bool.not_eq_false, ge_iff_le, gt_iff_lt] at hc16
        have hpl : p < s.size := by omega
        obtain ⟨cc, hcc⟩ : ∃ cc, (s[p]'hpl).toNat = cc := ⟨_, rfl⟩
        refine W_skip ?_
        refine n_then ?_
        refine W_seq ?_
        refine W_block ?_
        refine W_seq ?_
        refine W_region ?_
        refine s_move rfl rfl ?_
        refine s_move rfl rfl ?_
        refine s_index_S Try.underlying9 rfl rfl rfl hpl hcc ?_
        refine s_geq rfl rfl rfl ?_
        refine s_move rfl rfl ?_
        refine WL_case (s := 23) rfl (fun hg23 => ?_) (fun hg23 => ?_)
        · skip
          simp only [decide_eq_true_eq, decide_eq_false_iff_not, beq_iff_eq, beq_eq_false_iff_ne, bne_iff_ne, bne_eq_false_iff_eq, ne_eq, Bool.not_eq_true', Bool.not_eq_false', Bool.not_eq_true, Bool.not_eq_false, ge_iff_le, gt_iff_lt] at hg23
          refine WL_take rfl ?_
          refine s_move rfl rfl ?_
          refine WL_take rfl ?_
          refine s_move rfl rfl ?_
          refine WL_take rfl ?_
          refine s_index_S Try.underlying9 rfl rfl rfl hpl hcc ?_
          refine WL_take rfl ?_
          refine s_leq rfl rfl rfl ?_
          refine s_pick_t rfl rfl rfl ?_
          refine s_move rfl rfl ?_
          refine WL_case (s := 29) rfl (fun hg29 => ?_) (fun hg29 => ?_)
          · skip
            simp only [decide_eq_true_eq, decide_eq_false_iff_not, beq_iff_eq, beq_eq_false_iff_ne, bne_iff_ne, bne_eq_false_iff_eq, ne_eq, Bool.not_eq_true', Bool.not_eq_false', Bool.not_eq_true, Bool.not_eq_false, ge_iff_le, gt_iff_lt] at hg29
            refine WL_skip rfl rfl rfl ?_
            refine WL_skip rfl rfl rfl ?_
            refine WL_skip rfl rfl rfl ?_
            refine WL_skip rfl rfl rfl ?_
            refine s_pick_t rfl rfl rfl ?_
            refine s_assign rfl rfl ?_
            refine WL_nil ?_
            refine n_then ?_
            refine W_seq ?_
            refine W_region ?_
            refine s_move rfl rfl ?_
            refine s_move rfl rfl ?_
            refine s_index_S Try.underlying9 rfl rfl rfl hpl hcc ?_
            refine s_call Try.call55 rfl rfl (fLetter_ok cc _) ?_
            rintro r w1 ⟨hw1, rfl⟩
            rw [hw1]; clear hw1 w1
            refine s_not rfl rfl ?_
            refine s_move rfl rfl ?_
            refine WL_case (s := 40) rfl (fun hg40 => ?_) (fun hg40 => ?_)
            · skip
              simp only [decide_eq_true_eq, decide_eq_false_iff_not, beq_iff_eq, beq_eq_false_iff_ne, bne_iff_ne, bne_eq_false_iff_eq, ne_eq, Bool.not_eq_true', Bool.not_eq_false', Bool.not_eq_true, Bool.not_eq_false, ge_iff_le, gt_iff_lt] at hg40
              refine WL_take rfl ?_
              refine s_move rfl rfl ?_
              refine WL_take rfl ?_
              refine s_eql rfl rfl rfl ?_
              refine WL_take rfl ?_
              refine s_move rfl rfl ?_
              refine WL_case (s := 43) rfl (fun hg43 => ?_) (fun hg43 => ?_)
              · skip
                simp only [decide_eq_true_eq, decide_eq_false_iff_not, beq_iff_eq, beq_eq_false_iff_ne, bne_iff_ne, bne_eq_false_iff_eq, ne_eq, Bool.not_eq_true', Bool.not_eq_false', Bool.not_eq_true, Bool.not_eq_false, ge_iff_le, gt_iff_lt] at hg43
                refine WL_skip rfl rfl rfl ?_
                refine WL_skip rfl rfl rfl ?_
                refine WL_take rfl ?_
                refine s_pick_t rfl rfl rfl ?_
                refine s_pick_t rfl rfl rfl ?_
                refine WL_nil ?_
                refine n_then ?_
                refine W_cond_t rfl ?_
                refine W_seq ?_
                refine W_region ?_
                refine s_assign rfl rfl ?_
                refine WL_nil ?_
                refine n_then ?_
                refine W_ret ?_
                refine r_blk ?_
                refine r_then ?_
                refine r_then ?_
                refine r_blk ?_
                refine r_then ?_
                first
                  | exact end1 rfl rfl ⟨rfl, congrArg Value.bool (by symm; rw [decide_eq_false_iff_not]; rintro ⟨h1, h2, _⟩; omega)⟩
                  | exact end1 rfl rfl ⟨rfl, congrArg Value.bool (by symm; rw [decide_eq_false_iff_not]; rintro ⟨h1, h2, h3⟩; have h4 := h3 p hpl; rw [hcc] at h4; unfold okP at h4; omega)⟩
                  | exact end1 rfl rfl ⟨rfl, congrArg Value.bool (by symm; rw [decide_eq_true_eq]; exact ⟨by omega, by omega, fun i h => hok i h (by omega)⟩)⟩
              · skip
                simp only [decide_eq_true_eq, decide_eq_false_iff_not, beq_iff_eq, beq_eq_false_iff_ne, bne_iff_ne, bne_eq_false_iff_eq, ne_eq, Bool.not_eq_true', Bool.not_eq_false', Bool.not_eq_true, Bool.not_eq_false, ge_iff_le, gt_iff_lt] at hg43
                refine WL_take rfl ?_
                refine s_move rfl rfl ?_
                refine WL_take rfl ?_
                refine s_not rfl rfl ?_
                refine WL_take rfl ?_
                refine s_pick_f rfl rfl rfl ?_
                refine s_pick_t rfl rfl rfl ?_
                refine WL_nil ?_
                refine n_then ?_
                refine W_cond_f rfl ?_
                refine W_skip ?_
                refine n_blk ?_
                refine n_then ?_
                refine W_region ?_
                refine s_move rfl rfl ?_
                first | (refine s_add' rfl rfl rfl ?hx ?_; case hx => (constructor <;> first | omega | (simp only; omega))) | refine s_add rfl rfl rfl ?_
                refine s_assign rfl rfl ?_
                refine WL_nil ?_
                refine n_loop ?_
                have hk : okP p cc := by unfold okP; omega
                refine ⟨p + 1, ⟨rfl, rfl, trivial⟩, ⟨rfl, by omega, fun i h hi => ?_⟩, by omega⟩
                rcases Nat.lt_or_ge i p with h1 | h1
                · exact hok i h h1
                · obtain rfl : i = p := by omega
                  rw [hcc]; exact hk
            · skip
              simp only [decide_eq_true_eq, decide_eq_false_iff_not, beq_iff_eq, beq_eq_false_iff_ne, bne_iff_ne, bne_eq_false_iff_eq, ne_eq, Bool.not_eq_true', Bool.not_eq_false', Bool.not_eq_true, Bool.not_eq_false, ge_iff_le, gt_iff_lt] at hg40
              refine WL_skip rfl rfl rfl ?_
              refine WL_skip rfl rfl rfl ?_
              refine WL_skip rfl rfl rfl ?_
              refine WL_skipU rfl rfl ?_
              refine WL_skipU rfl rfl ?_
              refine WL_skip rfl rfl rfl ?_
              refine s_pick_f rfl rfl rfl ?_
              refine WL_nil ?_
              refine n_then ?_
              refine W_cond_f rfl ?_
              refine W_skip ?_
              refine n_blk ?_
              refine n_then ?_
              refine W_region ?_
              refine s_move rfl rfl ?_
              first | (refine s_add' rfl rfl rfl ?hx ?_; case hx => (constructor <;> first | omega | (simp only; omega))) | refine s_add rfl rfl rfl ?_
              refine s_assign rfl rfl ?_
              refine WL_nil ?_
              refine n_loop ?_
              have hk : okP p cc := by unfold okP; omega
              refine ⟨p + 1, ⟨rfl, rfl, trivial⟩, ⟨rfl, by omega, fun i h hi => ?_⟩, by omega⟩
              rcases Nat.lt_or_ge i p with h1 | h1
              · exact hok i h h1
              · obtain rfl : i = p := by omega
                rw [hcc]; exact hk
          · skip
            simp only [decide_eq_true_eq, decide_eq_false_iff_not, beq_iff_eq, beq_eq_false_iff_ne, bne_iff_ne, bne_eq_false_iff_eq, ne_eq, Bool.not_eq_true', Bool.not_eq_false', Bool.not_eq_true, Bool.not_eq_false, ge_iff_le, gt_iff_lt] at hg29
            refine WL_take rfl ?_
            refine s_move rfl rfl ?_
            refine WL_take rfl ?_
            refine s_move rfl rfl ?_
            refine WL_take rfl ?_
            refine s_index_S Try.underlying9 rfl rfl rfl hpl hcc ?_
            refine WL_take rfl ?_
            refine s_eql rfl rfl rfl ?_
            refine s_pick_f rfl rfl rfl ?_
            refine s_assign rfl rfl ?_
            refine WL_nil ?_
            refine n_then ?_
            refine W_seq ?_
            refine W_region ?_
            refine s_move rfl rfl ?_
            refine s_move rfl rfl ?_
            refine s_index_S Try.underlying9 rfl rfl rfl hpl hcc ?_
            refine s_call Try.call55 rfl rfl (fLetter_ok cc _) ?_
            rintro r w1 ⟨hw1, rfl⟩
            rw [hw1]; clear hw1 w1
            refine s_not rfl rfl ?_
            refine s_move rfl rfl ?_
            refine WL_case (s := 40) rfl (fun hg40 => ?_) (fun hg40 => ?_)
            · skip
              simp only [decide_eq_true_eq, decide_eq_false_iff_not, beq_iff_eq, beq_eq_false_iff_ne, bne_iff_ne, bne_eq_false_iff_eq, ne_eq, Bool.not_eq_true', Bool.not_eq_false', Bool.not_eq_true, Bool.not_eq_false, ge_iff_le, gt_iff_lt] at hg40
              refine WL_take rfl ?_
              refine s_move rfl rfl ?_
              refine WL_take rfl ?_
              refine s_eql rfl rfl rfl ?_
              refine WL_take rfl ?_
              refine s_move rfl rfl ?_
              refine WL_case (s := 43) rfl (fun hg43 => ?_) (fun hg43 => ?_)
              · skip
                simp only [decide_eq_true_eq, decide_eq_false_iff_not, beq_iff_eq, beq_eq_false_iff_ne, bne_iff_ne, bne_eq_false_iff_eq, ne_eq, Bool.not_eq_true', Bool.not_eq_false', Bool.not_eq_true, Bool.not_eq_false, ge_iff_le, gt_iff_lt] at hg43
                refine WL_skip rfl rfl rfl ?_
                refine WL_skip rfl rfl rfl ?_
                refine WL_take rfl ?_
                refine s_pick_t rfl rfl rfl ?_
                refine s_pick_t rfl rfl rfl ?_
                refine WL_nil ?_
                refine n_then ?_
                refine W_cond_t rfl ?_
                refine W_seq ?_
                refine W_region ?_
                refine s_assign rfl rfl ?_
                refine WL_nil ?_
                refine n_then ?_
                refine W_ret ?_
                refine r_blk ?_
                refine r_then ?_
                refine r_then ?_
                refine r_blk ?_
                refine r_then ?_
                first
                  | exact end1 rfl rfl ⟨rfl, congrArg Value.bool (by symm; rw [decide_eq_false_iff_not]; rintro ⟨h1, h2, _⟩; omega)⟩
                  | exact end1 rfl rfl ⟨rfl, congrArg Value.bool (by symm; rw [decide_eq_false_iff_not]; rintro ⟨h1, h2, h3⟩; have h4 := h3 p hpl; rw [hcc] at h4; unfold okP at h4; omega)⟩
                  | exact end1 rfl rfl ⟨rfl, congrArg Value.bool (by symm; rw [decide_eq_true_eq]; exact ⟨by omega, by omega, fun i h => hok i h (by omega)⟩)⟩
              · skip
                simp only [decide_eq_true_eq, decide_eq_false_iff_not, beq_iff_eq, beq_eq_false_iff_ne, bne_iff_ne, bne_eq_false_iff_eq, ne_eq, Bool.not_eq_true', Bool.not_eq_false', Bool.not_eq_true, Bool.not_eq_false, ge_iff_le, gt_iff_lt] at hg43
                refine WL_take rfl ?_
                refine s_move rfl rfl ?_
                refine WL_take rfl ?_
                refine s_not rfl rfl ?_
                refine WL_take rfl ?_
                refine s_pick_f rfl rfl rfl ?_
                refine s_pick_t rfl rfl rfl ?_
                refine WL_nil ?_
                refine n_then ?_
                refine W_cond rfl (fun hc47 => ?_) (fun hc47 => ?_)
                · skip
                  simp only [decide_eq_true_eq, decide_eq_false_iff_not, beq_iff_eq, beq_eq_false_iff_ne, bne_iff_ne, bne_eq_false_iff_eq, ne_eq, Bool.not_eq_true', Bool.not_eq_false', Bool.not_eq_true, Bool.not_eq_false, ge_iff_le, gt_iff_lt] at hc47
                  refine W_seq ?_
                  refine W_region ?_
                  refine s_assign rfl rfl ?_
                  refine WL_nil ?_
                  refine n_then ?_
                  refine W_ret ?_
                  refine r_blk ?_
                  refine r_then ?_
                  refine r_then ?_
                  refine r_blk ?_
                  refine r_then ?_
                  first
                    | exact end1 rfl rfl ⟨rfl, congrArg Value.bool (by symm; rw [decide_eq_false_iff_not]; rintro ⟨h1, h2, _⟩; omega)⟩
                    | exact end1 rfl rfl ⟨rfl, congrArg Value.bool (by symm; rw [decide_eq_false_iff_not]; rintro ⟨h1, h2, h3⟩; have h4 := h3 p hpl; rw [hcc] at h4; unfold okP at h4; omega)⟩
                    | exact end1 rfl rfl ⟨rfl, congrArg Value.bool (by symm; rw [decide_eq_true_eq]; exact ⟨by omega, by omega, fun i h => hok i h (by omega)⟩)⟩
                · skip
                  simp only [decide_eq_true_eq, decide_eq_false_iff_not, beq_iff_eq, beq_eq_false_iff_ne, bne_iff_ne, bne_eq_false_iff_eq, ne_eq, Bool.not_eq_true', Bool.not_eq_false', Bool.not_eq_true, Bool.not_eq_false, ge_iff_le, gt_iff_lt] at hc47
                  refine W_skip ?_
                  refine n_blk ?_
                  refine n_then ?_
                  refine W_region ?_
                  refine s_move rfl rfl ?_
                  first | (refine s_add' rfl rfl rfl ?hx ?_; case hx => (constructor <;> first | omega | (simp only; omega))) | refine s_add rfl rfl rfl ?_
                  refine s_assign rfl rfl ?_
                  refine WL_nil ?_
                  refine n_loop ?_
                  have hk : okP p cc := by unfold okP; omega
                  refine ⟨p + 1, ⟨rfl, rfl, trivial⟩, ⟨rfl, by omega, fun i h hi => ?_⟩, by omega⟩
                  rcases Nat.lt_or_ge i p with h1 | h1
                  · exact hok i h h1
                  · obtain rfl : i = p := by omega
                    rw [hcc]; exact hk
            · skip
              simp only [decide_eq_true_eq, decide_eq_false_iff_not, beq_iff_eq, beq_eq_false_iff_ne, bne_iff_ne, bne_eq_false_iff_eq, ne_eq, Bool.not_eq_true', Bool.not_eq_false', Bool.not_eq_true, Bool.not_eq_false, ge_iff_le, gt_iff_lt] at hg40
              refine WL_skip rfl rfl rfl ?_
              refine WL_skip rfl rfl rfl ?_
              refine WL_skip rfl rfl rfl ?_
              refine WL_skipU rfl rfl ?_
              refine WL_skipU rfl rfl ?_
              refine WL_skip rfl rfl rfl ?_
              refine s_pick_f rfl rfl rfl ?_
              refine WL_nil ?_
              refine n_then ?_
              refine W_cond_f rfl ?_
              refine W_skip ?_
              refine n_blk ?_
              refine n_then ?_
              refine W_region ?_
              refine s_move rfl rfl ?_
              first | (refine s_add' rfl rfl rfl ?hx ?_; case hx => (constructor <;> first | omega | (simp only; omega))) | refine s_add rfl rfl rfl ?_
              refine s_assign rfl rfl ?_
              refine WL_nil ?_
              refine n_loop ?_
              have hk : okP p cc := by unfold okP; omega
              refine ⟨p + 1, ⟨rfl, rfl, trivial⟩, ⟨rfl, by omega, fun i h hi => ?_⟩, by omega⟩
              rcases Nat.lt_or_ge i p with h1 | h1
              · exact hok i h h1
              · obtain rfl : i = p := by omega
                rw [hcc]; exact hk
        · skip
          simp only [decide_eq_true_eq, decide_eq_false_iff_not, beq_iff_eq, beq_eq_false_iff_ne, bne_iff_ne, bne_eq_false_iff_eq, ne_eq, Bool.not_eq_true', Bool.not_eq_false', Bool.not_eq_true, Bool.not_eq_false, ge_iff_le, gt_iff_lt] at hg23
          refine WL_skip rfl rfl rfl ?_
          refine WL_skip rfl rfl rfl ?_
          refine WL_skip rfl rfl rfl ?_
          refine WL_skip rfl rfl rfl ?_
          refine s_pick_f rfl rfl rfl ?_
          refine s_move rfl rfl ?_
          refine WL_take rfl ?_
          refine s_move rfl rfl ?_
          refine WL_take rfl ?_
          refine s_move rfl rfl ?_
          refine WL_take rfl ?_
          refine s_index_S Try.underlying9 rfl rfl rfl hpl hcc ?_
          refine WL_take rfl ?_
          refine s_eql rfl rfl rfl ?_
          refine s_pick_f rfl rfl rfl ?_
          refine s_assign rfl rfl ?_
          refine WL_nil ?_
          refine n_then ?_
          refine W_seq ?_
          refine W_region ?_
          refine s_move rfl rfl ?_
          refine s_move rfl rfl ?_
          refine s_index_S Try.underlying9 rfl rfl rfl hpl hcc ?_
          refine s_call Try.call55 rfl rfl (fLetter_ok cc _) ?_
          rintro r w1 ⟨hw1, rfl⟩
          rw [hw1]; clear hw1 w1
          refine s_not rfl rfl ?_
          refine s_move rfl rfl ?_
          refine WL_case (s := 40) rfl (fun hg40 => ?_) (fun hg40 => ?_)
          · skip
            simp only [decide_eq_true_eq, decide_eq_false_iff_not, beq_iff_eq, beq_eq_false_iff_ne, bne_iff_ne, bne_eq_false_iff_eq, ne_eq, Bool.not_eq_true', Bool.not_eq_false', Bool.not_eq_true, Bool.not_eq_false, ge_iff_le, gt_iff_lt] at hg40
            refine WL_take rfl ?_
            refine s_move rfl rfl ?_
            refine WL_take rfl ?_
            refine s_eql rfl rfl rfl ?_
            refine WL_take rfl ?_
            refine s_move rfl rfl ?_
            refine WL_case (s := 43) rfl (fun hg43 => ?_) (fun hg43 => ?_)
            · skip
              simp only [decide_eq_true_eq, decide_eq_false_iff_not, beq_iff_eq, beq_eq_false_iff_ne, bne_iff_ne, bne_eq_false_iff_eq, ne_eq, Bool.not_eq_true', Bool.not_eq_false', Bool.not_eq_true, Bool.not_eq_false, ge_iff_le, gt_iff_lt] at hg43
              refine WL_skip rfl rfl rfl ?_
              refine WL_skip rfl rfl rfl ?_
              refine WL_take rfl ?_
              refine s_pick_t rfl rfl rfl ?_
              refine s_pick_t rfl rfl rfl ?_
              refine WL_nil ?_
              refine n_then ?_
              refine W_cond_t rfl ?_
              refine W_seq ?_
              refine W_region ?_
              refine s_assign rfl rfl ?_
              refine WL_nil ?_
              refine n_then ?_
              refine W_ret ?_
              refine r_blk ?_
              refine r_then ?_
              refine r_then ?_
              refine r_blk ?_
              refine r_then ?_
              first
                | exact end1 rfl rfl ⟨rfl, congrArg Value.bool (by symm; rw [decide_eq_false_iff_not]; rintro ⟨h1, h2, _⟩; omega)⟩
                | exact end1 rfl rfl ⟨rfl, congrArg Value.bool (by symm; rw [decide_eq_false_iff_not]; rintro ⟨h1, h2, h3⟩; have h4 := h3 p hpl; rw [hcc] at h4; unfold okP at h4; omega)⟩
                | exact end1 rfl rfl ⟨rfl, congrArg Value.bool (by symm; rw [decide_eq_true_eq]; exact ⟨by omega, by omega, fun i h => hok i h (by omega)⟩)⟩
            · skip
              simp only [decide_eq_true_eq, decide_eq_false_iff_not, beq_iff_eq, beq_eq_false_iff_ne, bne_iff_ne, bne_eq_false_iff_eq, ne_eq, Bool.not_eq_true', Bool.not_eq_false', Bool.not_eq_true, Bool.not_eq_false, ge_iff_le, gt_iff_lt] at hg43
              refine WL_take rfl ?_
              refine s_move rfl rfl ?_
              refine WL_take rfl ?_
              refine s_not rfl rfl ?_
              refine WL_take rfl ?_
              refine s_pick_f rfl rfl rfl ?_
              refine s_pick_t rfl rfl rfl ?_
              refine WL_nil ?_
              refine n_then ?_
              refine W_cond rfl (fun hc47 => ?_) (fun hc47 => ?_)
              · skip
                simp only [decide_eq_true_eq, decide_eq_false_iff_not, beq_iff_eq, beq_eq_false_iff_ne, bne_iff_ne, bne_eq_false_iff_eq, ne_eq, Bool.not_eq_true', Bool.not_eq_false', Bool.not_eq_true, Bool.not_eq_false, ge_iff_le, gt_iff_lt] at hc47
                refine W_seq ?_
                refine W_region ?_
                refine s_assign rfl rfl ?_
                refine WL_nil ?_
                refine n_then ?_
                refine W_ret ?_
                refine r_blk ?_
                refine r_then ?_
                refine r_then ?_
                refine r_blk ?_
                refine r_then ?_
                first
                  | exact end1 rfl rfl ⟨rfl, congrArg Value.bool (by symm; rw [decide_eq_false_iff_not]; rintro ⟨h1, h2, _⟩; omega)⟩
                  | exact end1 rfl rfl ⟨rfl, congrArg Value.bool (by symm; rw [decide_eq_false_iff_not]; rintro ⟨h1, h2, h3⟩; have h4 := h3 p hpl; rw [hcc] at h4; unfold okP at h4; omega)⟩
                  | exact end1 rfl rfl ⟨rfl, congrArg Value.bool (by symm; rw [decide_eq_true_eq]; exact ⟨by omega, by omega, fun i h => hok i h (by omega)⟩)⟩
              · skip
                simp only [decide_eq_true_eq, decide_eq_false_iff_not, beq_iff_eq, beq_eq_false_iff_ne, bne_iff_ne, bne_eq_false_iff_eq, ne_eq, Bool.not_eq_true', Bool.not_eq_false', Bool.not_eq_true, Bool.not_eq_false, ge_iff_le, gt_iff_lt] at hc47
                refine W_skip ?_
                refine n_blk ?_
                refine n_then ?_
                refine W_region ?_
                refine s_move rfl rfl ?_
                first | (refine s_add' rfl rfl rfl ?hx ?_; case hx => (constructor <;> first | omega | (simp only; omega))) | refine s_add rfl rfl rfl ?_
                refine s_assign rfl rfl ?_
                refine WL_nil ?_
                refine n_loop ?_
                have hk : okP p cc := by unfold okP; omega
                refine ⟨p + 1, ⟨rfl, rfl, trivial⟩, ⟨rfl, by omega, fun i h hi => ?_⟩, by omega⟩
                rcases Nat.lt_or_ge i p with h1 | h1
                · exact hok i h h1
                · obtain rfl : i = p := by omega
                  rw [hcc]; exact hk
          · skip
            simp only [decide_eq_true_eq, decide_eq_false_iff_not, beq_iff_eq, beq_eq_false_iff_ne, bne_iff_ne, bne_eq_false_iff_eq, ne_eq, Bool.not_eq_true', Bool.not_eq_false', Bool.not_eq_true, Bool.not_eq_false, ge_iff_le, gt_iff_lt] at hg40
            refine WL_skip rfl rfl rfl ?_
            refine WL_skip rfl rfl rfl ?_
            refine WL_skip rfl rfl rfl ?_
            refine WL_skipU rfl rfl ?_
            refine WL_skipU rfl rfl ?_
            refine WL_skip rfl rfl rfl ?_
            refine s_pick_f rfl rfl rfl ?_
            refine WL_nil ?_
            refine n_then ?_
            refine W_cond_f rfl ?_
            refine W_skip ?_
            refine n_blk ?_
            refine n_then ?_
            refine W_region ?_
            refine s_move rfl rfl ?_
            first | (refine s_add' rfl rfl rfl ?hx ?_; case hx => (constructor <;> first | omega | (simp only; omega))) | refine s_add rfl rfl rfl ?_
            refine s_assign rfl rfl ?_
            refine WL_nil ?_
            refine n_loop ?_
            have hk : okP p cc := by unfold okP; omega
            refine ⟨p + 1, ⟨rfl, rfl, trivial⟩, ⟨rfl, by omega, fun i h hi => ?_⟩, by omega⟩
            rcases Nat.lt_or_ge i p with h1 | h1
            · exact hok i h h1
            · obtain rfl : i = p := by omega
              rw [hcc]; exact hk
      · skip
        simp only [decide_eq_true_eq, decide_eq_false_iff_not, beq_iff_eq, beq_eq_false_iff_ne, bne_iff_ne, bne_eq_false_iff_eq, ne_eq, Bool.not_eq_true', Bool.not_eq_false', Bool.not_eq_true, Bool.not_eq_false, ge_iff_le, gt_iff_lt] at hc16
        refine W_exit ?_
        refine x_then ?_
        refine x_then ?_
        refine exit_hit ?_
        refine n_then ?_
        refine W_seq ?_
        refine W_region ?_
        refine s_assign rfl rfl ?_
        refine WL_nil ?_
        refine n_then ?_
        refine W_ret ?_
        first
          | exact end1 rfl rfl ⟨rfl, congrArg Value.bool (by symm; rw [decide_eq_false_iff_not]; rintro ⟨h1, h2, _⟩; omega)⟩
          | exact end1 rfl rfl ⟨rfl, congrArg Value.bool (by symm; rw [decide_eq_false_iff_not]; rintro ⟨h1, h2, h3⟩; have h4 := h3 p hpl; rw [hcc] at h4; unfold okP at h4; omega)⟩
          | exact end1 rfl rfl ⟨rfl, congrArg Value.bool (by symm; rw [decide_eq_true_eq]; exact ⟨by omega, by omega, fun i h => hok i h (by omega)⟩)⟩
theorem fValue_ok (s : ByteArray) (w0 : World) : Ret Try.prog 63 [.string s].toArray w0 fun r w' => w' = w0 ∧ r = .bool (decide (valueP s)) := by
  refine Ret_of Try.func63 rfl Try.ntmps63 rfl ?_
  refine W_seq ?_
  refine W_region ?_
  refine s_assign rfl rfl ?_
  refine WL_nil ?_
  refine n_then ?_
  refine W_seq ?_
  refine W_seq ?_
  refine W_region ?_
  refine s_move rfl rfl ?_
  refine s_len rfl rfl (LN9 _ _) ?_
  refine s_gtr rfl rfl rfl ?_
  refine WL_nil ?_
  refine n_then ?_
  refine W_cond rfl (fun hc7 => ?_) (fun hc7 => ?_)
  · skip
    simp only [decide_eq_true_eq, decide_eq_false_iff_not, beq_iff_eq, beq_eq_false_iff_ne, bne_iff_ne, bne_eq_false_iff_eq, ne_eq, Bool.not_eq_true', Bool.not_eq_false', Bool.not_eq_true, Bool.not_eq_false, ge_iff_le, gt_iff_lt] at hc7
    refine W_seq ?_
    refine W_region ?_
    refine s_assign rfl rfl ?_
    refine WL_nil ?_
    refine n_then ?_
    refine W_ret ?_
    refine r_then ?_
    first
      | exact end1 rfl rfl ⟨rfl, congrArg Value.bool (by symm; rw [decide_eq_false_iff_not]; rintro ⟨h1, _⟩; omega)⟩
      | exact end1 rfl rfl ⟨rfl, congrArg Value.bool (by symm; rw [decide_eq_false_iff_not]; rintro ⟨h1, h3⟩; have h4 := h3 p hpl; rw [hcc] at h4; unfold okV at h4; omega)⟩
      | exact end1 rfl rfl ⟨rfl, congrArg Value.bool (by symm; rw [decide_eq_true_eq]; exact ⟨by omega, fun i h => hok i h (by omega)⟩)⟩
  · skip
    simp only [decide_eq_true_eq, decide_eq_false_iff_not, beq_iff_eq, beq_eq_false_iff_ne, bne_iff_ne, bne_eq_false_iff_eq, ne_eq, Bool.not_eq_true', Bool.not_eq_false', Bool.not_eq_true, Bool.not_eq_false, ge_iff_le, gt_iff_lt] at hc7
    refine W_skip ?_
    refine n_then ?_
    refine W_seq ?_
    refine W_seq ?_
    refine W_region ?_
    refine s_assign rfl rfl ?_
    refine WL_nil ?_
    refine n_then ?_
    refine W_block ?_
    refine W_loop (σ := Nat) (fun p => [(0, .string s), (3, .int .i64 (p : Int))]) (fun p w => w = w0 ∧ p ≤ s.size ∧ (∀ i, (h : i < s.size) → i < p → okV (s[i]'h).toNat)) (fun p => s.size - p) 0 ⟨rfl, rfl, trivial⟩ ⟨rfl, Nat.zero_le _, by omega⟩ ?_
    rintro p w ⟨hw, hp, hok⟩
    rw [hw]
    clear hw w
    refine W_seq ?_
    refine W_seq ?_
    refine W_region ?_
    refine s_move rfl rfl ?_
    refine s_move rfl rfl ?_
    refine s_len rfl rfl (LN9 _ _) ?_
    refine s_lss rfl rfl rfl ?_
    refine WL_nil ?_
    refine n_then ?_
    refine W_cond rfl (fun hc11 => ?_) (fun hc11 => ?_)
    · skip
      simp only [decide_eq_true_eq, decide_eq_false_iff_not, beq_iff_eq, beq_eq_false_iff_ne, bne_iff_ne, bne_eq_false_iff_eq, ne_eq, Bool.not_eq_true', Bool.not_eq_false', Bool.not_eq_true, Bool.not_eq_false, ge_iff_le, gt_iff_lt] at hc11
      have hpl : p < s.size := by omega
      obtain ⟨cc, hcc⟩ : ∃ cc, (s[p]'hpl).toNat = cc := ⟨_, rfl⟩
      refine W_skip ?_
      refine n_then ?_
      refine W_seq ?_
      refine W_block ?_
      refine W_seq ?_
      refine W_region ?_
      refine s_move rfl rfl ?_
      refine s_move rfl rfl ?_
      refine s_index_S Try.underlying9 rfl rfl rfl hpl hcc ?_
      refine s_assign rfl rfl ?_
      refine WL_nil ?_
      refine n_then ?_
      refine W_seq ?_
      refine W_region ?_
      refine s_move rfl rfl ?_
      refine s_lss rfl rfl rfl ?_
      refine s_move rfl rfl ?_
      refine WL_case (s := 19) rfl (fun hg19 => ?_) (fun hg19 => ?_)
      · skip
        simp only [decide_eq_true_eq, decide_eq_false_iff_not, beq_iff_eq, beq_eq_false_iff_ne, bne_iff_ne, bne_eq_false_iff_eq, ne_eq, Bool.not_eq_true', Bool.not_eq_false', Bool.not_eq_true, Bool.not_eq_false, ge_iff_le, gt_iff_lt] at hg19
        refine WL_skip rfl rfl rfl ?_
        refine WL_skip rfl rfl rfl ?_
        refine s_pick_t rfl rfl rfl ?_
        refine s_move rfl rfl ?_
        refine WL_skip rfl rfl rfl ?_
        refine WL_skip rfl rfl rfl ?_
        refine s_pick_t rfl rfl rfl ?_
        refine s_move rfl rfl ?_
        refine WL_skip rfl rfl rfl ?_
        refine WL_skip rfl rfl rfl ?_
        refine s_pick_t rfl rfl rfl ?_
        refine s_move rfl rfl ?_
        refine WL_skip rfl rfl rfl ?_
        refine WL_skip rfl rfl rfl ?_
        refine s_pick_t rfl rfl rfl ?_
        refine s_move rfl rfl ?_
        refine WL_skip rfl rfl rfl ?_
        refine WL_skip rfl rfl rfl ?_
        refine s_pick_t rfl rfl rfl ?_
        refine s_move rfl rfl ?_
        refine WL_skip rfl rfl rfl ?_
        refine WL_skip rfl rfl rfl ?_
        refine s_pick_t rfl rfl rfl ?_
        refine WL_nil ?_
        refine n_then ?_
        refine W_cond_t rfl ?_
        refine W_seq ?_
        refine W_region ?_
        refine s_assign rfl rfl ?_
        refine WL_nil ?_
        refine n_then ?_
        refine W_ret ?_
        refine r_blk ?_
        refine r_then ?_
        refine r_then ?_
        refine r_blk ?_
        refine r_then ?_
        first
          | exact end1 rfl rfl ⟨rfl, congrArg Value.bool (by symm; rw [decide_eq_false_iff_not]; rintro ⟨h1, _⟩; omega)⟩
          | exact end1 rfl rfl ⟨rfl, congrArg Value.bool (by symm; rw [decide_eq_false_iff_not]; rintro ⟨h1, h3⟩; have h4 := h3 p hpl; rw [hcc] at h4; unfold okV at h4; omega)⟩
          | exact end1 rfl rfl ⟨rfl, congrArg Value.bool (by symm; rw [decide_eq_true_eq]; exact ⟨by omega, fun i h => hok i h (by omega)⟩)⟩
      · skip
        simp only [decide_eq_true_eq, decide_eq_false_iff_not, beq_iff_eq, beq_eq_false_iff_ne, bne_iff_ne, bne_eq_false_iff_eq, ne_eq, Bool.not_eq_true', Bool.not_eq_false', Bool.not_eq_true, Bool.not_eq_false, ge_iff_le, gt_iff_lt] at hg19
        refine WL_take rfl ?_
        refine s_move rfl rfl ?_
        refine WL_take rfl ?_
        refine s_gtr rfl rfl rfl ?_
        refine s_pick_f rfl rfl rfl ?_
        refine s_move rfl rfl ?_
        refine WL_case (s := 23) rfl (fun hg23 => ?_) (fun hg23 => ?_)
        · skip
          simp only [decide_eq_true_eq, decide_eq_false_iff_not, beq_iff_eq, beq_eq_false_iff_ne, bne_iff_ne, bne_eq_false_iff_eq, ne_eq, Bool.not_eq_true', Bool.not_eq_false', Bool.not_eq_true, Bool.not_eq_false, ge_iff_le, gt_iff_lt] at hg23
          refine WL_skip rfl rfl rfl ?_
          refine WL_skip rfl rfl rfl ?_
          refine s_pick_t rfl rfl rfl ?_
          refine s_move rfl rfl ?_
          refine WL_skip rfl rfl rfl ?_
          refine WL_skip rfl rfl rfl ?_
          refine s_pick_t rfl rfl rfl ?_
          refine s_move rfl rfl ?_
          refine WL_skip rfl rfl rfl ?_
          refine WL_skip rfl rfl rfl ?_
          refine s_pick_t rfl rfl rfl ?_
          refine s_move rfl rfl ?_
          refine WL_skip rfl rfl rfl ?_
          refine WL_skip rfl rfl rfl ?_
          refine s_pick_t rfl rfl rfl ?_
          refine s_move rfl rfl ?_
          refine WL_skip rfl rfl rfl ?_
          refine WL_skip rfl rfl rfl ?_
          refine s_pick_t rfl rfl rfl ?_
          refine WL_nil ?_
          refine n_then ?_
          refine W_cond_t rfl ?_
          refine W_seq ?_
          refine W_region ?_
          refine s_assign rfl rfl ?_
          refine WL_nil ?_
          refine n_then ?_
          refine W_ret ?_
          refine r_blk ?_
          refine r_then ?_
          refine r_then ?_
          refine r_blk ?_
          refine r_then ?_
          first
            | exact end1 rfl rfl ⟨rfl, congrArg Value.bool (by symm; rw [decide_eq_false_iff_not]; rintro ⟨h1, _⟩; omega)⟩
            | exact end1 rfl rfl ⟨rfl, congrArg Value.bool (by symm; rw [decide_eq_false_iff_not]; rintro ⟨h1, h3⟩; have h4 := h3 p hpl; rw [hcc] at h4; unfold okV at h4; omega)⟩
            | exact end1 rfl rfl ⟨rfl, congrArg Value.bool (by symm; rw [decide_eq_true_eq]; exact ⟨by omega, fun i h => hok i h (by omega)⟩)⟩
        · skip
          simp only [decide_eq_true_eq, decide_eq_false_iff_not, beq_iff_eq, beq_eq_false_iff_ne, bne_iff_ne, bne_eq_false_iff_eq, ne_eq, Bool.not_eq_true', Bool.not_eq_false', Bool.not_eq_true, Bool.not_eq_false, ge_iff_le, gt_iff_lt] at hg23
          refine WL_take rfl ?_
          refine s_move rfl rfl ?_
          refine WL_take rfl ?_
          refine s_eql rfl rfl rfl ?_
          refine s_pick_f rfl rfl rfl ?_
          refine s_move rfl rfl ?_
          refine WL_case (s := 27) rfl (fun hg27 => ?_) (fun hg27 => ?_)
          · skip
            simp only [decide_eq_true_eq, decide_eq_false_iff_not, beq_iff_eq, beq_eq_false_iff_ne, bne_iff_ne, bne_eq_false_iff_eq, ne_eq, Bool.not_eq_true', Bool.not_eq_false', Bool.not_eq_true, Bool.not_eq_false, ge_iff_le, gt_iff_lt] at hg27
            refine WL_skip rfl rfl rfl ?_
            refine WL_skip rfl rfl rfl ?_
            refine s_pick_t rfl rfl rfl ?_
            refine s_move rfl rfl ?_
            refine WL_skip rfl rfl rfl ?_
            refine WL_skip rfl rfl rfl ?_
            refine s_pick_t rfl rfl rfl ?_
            refine s_move rfl rfl ?_
            refine WL_skip rfl rfl rfl ?_
            refine WL_skip rfl rfl rfl ?_
            refine s_pick_t rfl rfl rfl ?_
            refine s_move rfl rfl ?_
            refine WL_skip rfl rfl rfl ?_
            refine WL_skip rfl rfl rfl ?_
            refine s_pick_t rfl rfl rfl ?_
            refine WL_nil ?_
            refine n_then ?_
            refine W_cond_t rfl ?_
            refine W_seq ?_
            refine W_region ?_
            refine s_assign rfl rfl ?_
            refine WL_nil ?_
            refine n_then ?_
            refine W_ret ?_
            refine r_blk ?_
            refine r_then ?_
            refine r_then ?_
            refine r_blk ?_
            refine r_then ?_
            first
              | exact end1 rfl rfl ⟨rfl, congrArg Value.bool (by symm; rw [decide_eq_false_iff_not]; rintro ⟨h1, _⟩; omega)⟩
              | exact end1 rfl rfl ⟨rfl, congrArg Value.bool (by symm; rw [decide_eq_false_iff_not]; rintro ⟨h1, h3⟩; have h4 := h3 p hpl; rw [hcc] at h4; unfold okV at h4; omega)⟩
              | exact end1 rfl rfl ⟨rfl, congrArg Value.bool (by symm; rw [decide_eq_true_eq]; exact ⟨by omega, fun i h => hok i h (by omega)⟩)⟩
          · skip
            simp only [decide_eq_true_eq, decide_eq_false_iff_not, beq_iff_eq, beq_eq_false_iff_ne, bne_iff_ne, bne_eq_false_iff_eq, ne_eq, Bool.not_eq_true', Bool.not_eq_false', Bool.not_eq_true, Bool.not_eq_false, ge_iff_le, gt_iff_lt] at hg27
            refine WL_take rfl ?_
            refine s_move rfl rfl ?_
            refine WL_take rfl ?_
            refine s_eql rfl rfl rfl ?_
            refine s_pick_f rfl rfl rfl ?_
            refine s_move rfl rfl ?_
            refine WL_case (s := 31) rfl (fun hg31 => ?_) (fun hg31 => ?_)
            · skip
              simp only [decide_eq_true_eq, decide_eq_false_iff_not, beq_iff_eq, beq_eq_false_iff_ne, bne_iff_ne, bne_eq_false_iff_eq, ne_eq, Bool.not_eq_true', Bool.not_eq_false', Bool.not_eq_true, Bool.not_eq_false, ge_iff_le, gt_iff_lt] at hg31
              refine WL_skip rfl rfl rfl ?_
              refine WL_skip rfl rfl rfl ?_
              refine s_pick_t rfl rfl rfl ?_
              refine s_move rfl rfl ?_
              refine WL_skip rfl rfl rfl ?_
              refine WL_skip rfl rfl rfl ?_
              refine s_pick_t rfl rfl rfl ?_
              refine s_move rfl rfl ?_
              refine WL_skip rfl rfl rfl ?_
              refine WL_skip rfl rfl rfl ?_
              refine s_pick_t rfl rfl rfl ?_
              refine WL_nil ?_
              refine n_then ?_
              refine W_cond_t rfl ?_
              refine W_seq ?_
              refine W_region ?_
              refine s_assign rfl rfl ?_
              refine WL_nil ?_
              refine n_then ?_
              refine W_ret ?_
              refine r_blk ?_
              refine r_then ?_
              refine r_then ?_
              refine r_blk ?_
              refine r_then ?_
              first
                | exact end1 rfl rfl ⟨rfl, congrArg Value.bool (by symm; rw [decide_eq_false_iff_not]; rintro ⟨h1, _⟩; omega)⟩
                | exact end1 rfl rfl ⟨rfl, congrArg Value.bool (by symm; rw [decide_eq_false_iff_not]; rintro ⟨h1, h3⟩; have h4 := h3 p hpl; rw [hcc] at h4; unfold okV at h4; omega)⟩
                | exact end1 rfl rfl ⟨rfl, congrArg Value.bool (by symm; rw [decide_eq_true_eq]; exact ⟨by omega, fun i h => hok i h (by omega)⟩)⟩
            · skip
              simp only [decide_eq_true_eq, decide_eq_false_iff_not, beq_iff_eq, beq_eq_false_iff_ne, bne_iff_ne, bne_eq_false_iff_eq, ne_eq, Bool.not_eq_true', Bool.not_eq_false', Bool.not_eq_true, Bool.not_eq_false, ge_iff_le, gt_iff_lt] at hg31
              refine WL_take rfl ?_
              refine s_move rfl rfl ?_
              refine WL_take rfl ?_
              refine s_eql rfl rfl rfl ?_
              refine s_pick_f rfl rfl rfl ?_
              refine s_move rfl rfl ?_
              refine WL_case (s := 35) rfl (fun hg35 => ?_) (fun hg35 => ?_)
              · skip
                simp only [decide_eq_true_eq, decide_eq_false_iff_not, beq_iff_eq, beq_eq_false_iff_ne, bne_iff_ne, bne_eq_false_iff_eq, ne_eq, Bool.not_eq_true', Bool.not_eq_false', Bool.not_eq_true, Bool.not_eq_false, ge_iff_le, gt_iff_lt] at hg35
                refine WL_skip rfl rfl rfl ?_
                refine WL_skip rfl rfl rfl ?_
                refine s_pick_t rfl rfl rfl ?_
                refine s_move rfl rfl ?_
                refine WL_skip rfl rfl rfl ?_
                refine WL_skip rfl rfl rfl ?_
                refine s_pick_t rfl rfl rfl ?_
                refine WL_nil ?_
                refine n_then ?_
                refine W_cond_t rfl ?_
                refine W_seq ?_
                refine W_region ?_
                refine s_assign rfl rfl ?_
                refine WL_nil ?_
                refine n_then ?_
                refine W_ret ?_
                refine r_blk ?_
                refine r_then ?_
                refine r_then ?_
                refine r_blk ?_
                refine r_then ?_
                first
                  | exact end1 rfl rfl ⟨rfl, congrArg Value.bool (by symm; rw [decide_eq_false_iff_not]; rintro ⟨h1, _⟩; omega)⟩
                  | exact end1 rfl rfl ⟨rfl, congrArg Value.bool (by symm; rw [decide_eq_false_iff_not]; rintro ⟨h1, h3⟩; have h4 := h3 p hpl; rw [hcc] at h4; unfold okV at h4; omega)⟩
                  | exact end1 rfl rfl ⟨rfl, congrArg Value.bool (by symm; rw [decide_eq_true_eq]; exact ⟨by omega, fun i h => hok i h (by omega)⟩)⟩
              · skip
                simp only [decide_eq_true_eq, decide_eq_false_iff_not, beq_iff_eq, beq_eq_false_iff_ne, bne_iff_ne, bne_eq_false_iff_eq, ne_eq, Bool.not_eq_true', Bool.not_eq_false', Bool.not_eq_true, Bool.not_eq_false, ge_iff_le, gt_iff_lt] at hg35
                refine WL_take rfl ?_
                refine s_move rfl rfl ?_
                refine WL_take rfl ?_
                refine s_eql rfl rfl rfl ?_
                refine s_pick_f rfl rfl rfl ?_
                refine s_move rfl rfl ?_
                refine WL_case (s := 39) rfl (fun hg39 => ?_) (fun hg39 => ?_)
                · skip
                  simp only [decide_eq_true_eq, decide_eq_false_iff_not, beq_iff_eq, beq_eq_false_iff_ne, bne_iff_ne, bne_eq_false_iff_eq, ne_eq, Bool.not_eq_true', Bool.not_eq_false', Bool.not_eq_true, Bool.not_eq_false, ge_iff_le, gt_iff_lt] at hg39
                  refine WL_skip rfl rfl rfl ?_
                  refine WL_skip rfl rfl rfl ?_
                  refine s_pick_t rfl rfl rfl ?_
                  refine WL_nil ?_
                  refine n_then ?_
                  refine W_cond_t rfl ?_
                  refine W_seq ?_
                  refine W_region ?_
                  refine s_assign rfl rfl ?_
                  refine WL_nil ?_
                  refine n_then ?_
                  refine W_ret ?_
                  refine r_blk ?_
                  refine r_then ?_
                  refine r_then ?_
                  refine r_blk ?_
                  refine r_then ?_
                  first
                    | exact end1 rfl rfl ⟨rfl, congrArg Value.bool (by symm; rw [decide_eq_false_iff_not]; rintro ⟨h1, _⟩; omega)⟩
                    | exact end1 rfl rfl ⟨rfl, congrArg Value.bool (by symm; rw [decide_eq_false_iff_not]; rintro ⟨h1, h3⟩; have h4 := h3 p hpl; rw [hcc] at h4; unfold okV at h4; omega)⟩
                    | exact end1 rfl rfl ⟨rfl, congrArg Value.bool (by symm; rw [decide_eq_true_eq]; exact ⟨by omega, fun i h => hok i h (by omega)⟩)⟩
                · skip
                  simp only [decide_eq_true_eq, decide_eq_false_iff_not, beq_iff_eq, beq_eq_false_iff_ne, bne_iff_ne, bne_eq_false_iff_eq, ne_eq, Bool.not_eq_true', Bool.not_eq_false', Bool.not_eq_true, Bool.not_eq_false, ge_iff_le, gt_iff_lt] at hg39
                  refine WL_take rfl ?_
                  refine s_move rfl rfl ?_
                  refine WL_take rfl ?_
                  refine s_eql rfl rfl rfl ?_
                  refine s_pick_f rfl rfl rfl ?_
                  refine WL_nil ?_
                  refine n_then ?_
                  refine W_cond rfl (fun hc42 => ?_) (fun hc42 => ?_)
                  · skip
                    simp only [decide_eq_true_eq, decide_eq_false_iff_not, beq_iff_eq, beq_eq_false_iff_ne, bne_iff_ne, bne_eq_false_iff_eq, ne_eq, Bool.not_eq_true', Bool.not_eq_false', Bool.not_eq_true, Bool.not_eq_false, ge_iff_le, gt_iff_lt] at hc42
                    refine W_seq ?_
                    refine W_region ?_
                    refine s_assign rfl rfl ?_
                    refine WL_nil ?_
                    refine n_then ?_
                    refine W_ret ?_
                    refine r_blk ?_
                    refine r_then ?_
                    refine r_then ?_
                    refine r_blk ?_
                    refine r_then ?_
                    first
                      | exact end1 rfl rfl ⟨rfl, congrArg Value.bool (by symm; rw [decide_eq_false_iff_not]; rintro ⟨h1, _⟩; omega)⟩
                      | exact end1 rfl rfl ⟨rfl, congrArg Value.bool (by symm; rw [decide_eq_false_iff_not]; rintro ⟨h1, h3⟩; have h4 := h3 p hpl; rw [hcc] at h4; unfold okV at h4; omega)⟩
                      | exact end1 rfl rfl ⟨rfl, congrArg Value.bool (by symm; rw [decide_eq_true_eq]; exact ⟨by omega, fun i h => hok i h (by omega)⟩)⟩
                  · skip
                    simp only [decide_eq_true_eq, decide_eq_false_iff_not, beq_iff_eq, beq_eq_false_iff_ne, bne_iff_ne, bne_eq_false_iff_eq, ne_eq, Bool.not_eq_true', Bool.not_eq_false', Bool.not_eq_true, Bool.not_eq_false, ge_iff_le, gt_iff_lt] at hc42
                    refine W_skip ?_
                    refine n_blk ?_
                    refine n_then ?_
                    refine W_region ?_
                    refine s_move rfl rfl ?_
                    first | (refine s_add' rfl rfl rfl ?hx ?_; case hx => (constructor <;> first | omega | (simp only; omega))) | refine s_add rfl rfl rfl ?_
                    refine s_assign rfl rfl ?_
                    refine WL_nil ?_
                    refine n_loop ?_
                    have hk : okV cc := by unfold okV; omega
                    refine ⟨p + 1, ⟨rfl, rfl, trivial⟩, ⟨rfl, by omega, fun i h hi => ?_⟩, by omega⟩
                    rcases Nat.lt_or_ge i p with h1 | h1
                    · exact hok i h h1
                    · obtain rfl : i = p := by omega
                      rw [hcc]; exact hk
    · skip
      simp only [decide_eq_true_eq, decide_eq_false_iff_not, beq_iff_eq, beq_eq_false_iff_ne, bne_iff_ne, bne_eq_false_iff_eq, ne_eq, Bool.not_eq_true', Bool.not_eq_false', Bool.not_eq_true, Bool.not_eq_false, ge_iff_le, gt_iff_lt] at hc11
      refine W_exit ?_
      refine x_then ?_
      refine x_then ?_
      refine exit_hit ?_
      refine n_then ?_
      refine W_seq ?_
      refine W_region ?_
      refine s_assign rfl rfl ?_
      refine WL_nil ?_
      refine n_then ?_
      refine W_ret ?_
      first
        | exact end1 rfl rfl ⟨rfl, congrArg Value.bool (by symm; rw [decide_eq_false_iff_not]; rintro ⟨h1, _⟩; omega)⟩
        | exact end1 rfl rfl ⟨rfl, congrArg Value.bool (by symm; rw [decide_eq_false_iff_not]; rintro ⟨h1, h3⟩; have h4 := h3 p hpl; rw [hcc] at h4; unfold okV at h4; omega)⟩
        | exact end1 rfl rfl ⟨rfl, congrArg Value.bool (by symm; rw [decide_eq_true_eq]; exact ⟨by omega, fun i h => hok i h (by omega)⟩)⟩
theorem fSame_ok (va vb : Value) (xs ys : List Lb) (w0 : World) (ha : Sl w0 va xs.length (lbcells xs)) (hb : Sl w0 vb ys.length (lbcells ys)) (hl : xs.length ≤ 4611686018427387904) :
    Ret Try.prog 57 [va, vb].toArray w0 fun v w' => Fwd [] w0 w' ∧ ∃ b, v = .bool b ∧ (b = true ↔ xs = ys) := by
  obtain ⟨a, ca, rfl, _⟩ := ha.len_le
  obtain ⟨b, cb, rfl, _⟩ := hb.len_le
  refine Ret_start fun w hs => ?_
  refine Ret_of Try.func57 rfl Try.ntmps57 rfl ?_
  refine W_seq ?_
  refine W_region ?_
  refine s_assign rfl rfl ?_
  refine WL_nil ?_
  refine n_then ?_
  refine W_seq ?_
  refine W_seq ?_
  refine W_region ?_
  refine s_move rfl rfl ?_
  refine s_len rfl rfl (LN23 _ _ _ _) ?_
  refine s_move rfl rfl ?_
  refine s_len rfl rfl (LN23 _ _ _ _) ?_
  refine s_neq rfl rfl rfl ?_
  refine WL_nil ?_
  refine n_then ?_
  refine W_cond rfl (fun hc10 => ?_) (fun hc10 => ?_)
  · skip
    try simp only [decide_eq_true_eq, decide_eq_false_iff_not, bne_iff_ne, bne_eq_false_iff_eq, ne_eq, Bool.not_eq_true', Bool.not_eq_false'] at hc10
    refine W_seq ?_
    refine W_region ?_
    refine s_assign rfl rfl ?_
    refine WL_nil ?_
    refine n_then ?_
    refine W_ret ?_
    refine r_then ?_
    first
      | exact end1 rfl rfl ⟨hs.fwd, false, rfl, by simp, fun h => by rw [h] at hc10; exact absurd rfl hc10⟩
      | exact end1 rfl rfl ⟨hs.fwd, true, rfl, fun _ => by rw [List.take_of_length_le (by omega), List.take_of_length_le (by omega)] at htk; exact htk, fun _ => rfl⟩
      | exact end1 rfl rfl ⟨hs.fwd, false, rfl, by simp, fun h => by
          rw [h, hyi] at hxi; cases hxi; exact absurd ⟨rfl, rfl⟩ hc25⟩
  · skip
    try simp only [decide_eq_true_eq, decide_eq_false_iff_not, bne_iff_ne, bne_eq_false_iff_eq, ne_eq, Bool.not_eq_true', Bool.not_eq_false'] at hc10
    refine W_skip ?_
    refine n_then ?_
    refine W_seq ?_
    refine W_seq ?_
    refine W_region ?_
    refine s_assign rfl rfl ?_
    refine WL_nil ?_
    refine n_then ?_
    refine W_block ?_
    refine W_loop (σ := Nat) (fun k => [(0, .slice a xs.length ca), (1, .slice b ys.length cb), (5, .int .i64 (k : Int))]) (fun k w => St [] w0 w [] ∧ k ≤ xs.length ∧ xs.take k = ys.take k) (fun k => xs.length - k) 0 ⟨rfl, rfl, rfl, trivial⟩ ⟨hs, Nat.zero_le _, rfl⟩ ?_
    clear hs
    intro k w ⟨hs, hk, htk⟩
    refine W_seq ?_
    refine W_seq ?_
    refine W_region ?_
    refine s_move rfl rfl ?_
    refine s_move rfl rfl ?_
    refine s_len rfl rfl (LN23 _ _ _ _) ?_
    refine s_lss rfl rfl rfl ?_
    refine WL_nil ?_
    refine n_then ?_
    refine W_cond rfl (fun hc14 => ?_) (fun hc14 => ?_)
    · skip
      try simp only [decide_eq_true_eq, decide_eq_false_iff_not, bne_iff_ne, bne_eq_false_iff_eq, ne_eq, Bool.not_eq_true', Bool.not_eq_false'] at hc14
      have hkl : k < xs.length := by omega
      have hkb : k < ys.length := by omega
      have hxi : xs[k]? = some xs[k] := List.getElem?_eq_getElem hkl
      have hyi : ys[k]? = some ys[k] := List.getElem?_eq_getElem hkb
      generalize xs[k] = x at hxi
      generalize ys[k] = y at hyi
      obtain ⟨b1, o1, hA1, hB1, hc1, hc2⟩ := sl2 ha hxi
      obtain ⟨b2, o2, hA2, hB2, hc3, hc4⟩ := sl2 hb hyi
      refine W_skip ?_
      refine n_then ?_
      refine W_seq ?_
      refine W_block ?_
      refine W_seq ?_
      refine W_draw [(0, true, []), (1, true, []), (2, true, []), (3, true, []), (4, true, []), (5, true, []), (6, true, []), (7, true, []), (8, true, [])] [[], [], [0, 1], [0, 1, 2], [], [], [4, 5], [4, 5, 6], [0, 1, 2, 3, 4, 5, 6, 7]] MX (by kernel_rfl) ?_
      intro w1 hw1 hw2 hw3 hw4; replace hs := hs.redrawn hw1 hw2 hw3 hw4; clear hw1 hw2 hw3 hw4
      obtain ⟨w, rfl⟩ : ∃ w : World, w = w1 := ⟨_, rfl⟩
      refine D_q rfl rfl ?_
      refine s_move rfl rfl ?_
      refine D_qn ?_
      refine D_q rfl rfl ?_
      refine s_move rfl rfl ?_
      refine D_qn ?_
      refine D_q rfl rfl ?_
      (refine s_indexAddrP El23 rfl rfl rfl hA1 ?hx ?_; case hx => (constructor <;> omega))
      refine D_qn ?_
      refine D_q rfl rfl ?_
      refine s_load_2 Try.isAgg51 Try.sizeOf51 rfl rfl ((hs.oldcell (a := ⟨b1, _, none⟩) hB1 (by simp)).trans hc1) ((hs.oldcell (a := ⟨b1, _, none⟩) hB1 (by simp)).trans hc2) ?_
      refine D_qn ?_
      refine D_q rfl rfl ?_
      refine s_move rfl rfl ?_
      refine D_qn ?_
      refine D_q rfl rfl ?_
      refine s_move rfl rfl ?_
      refine D_qn ?_
      refine D_q rfl rfl ?_
      (refine s_indexAddrP El23 rfl rfl rfl hA2 ?hx ?_; case hx => (constructor <;> omega))
      refine D_qn ?_
      refine D_q rfl rfl ?_
      refine s_load_2 Try.isAgg51 Try.sizeOf51 rfl rfl ((hs.oldcell (a := ⟨b2, _, none⟩) hB2 (by simp)).trans hc3) ((hs.oldcell (a := ⟨b2, _, none⟩) hB2 (by simp)).trans hc4) ?_
      refine D_qn ?_
      refine D_q rfl rfl ?_
      refine s_neq_agg EG51 rfl rfl rfl (SE51 _ _ _ _) ?_
      refine D_qn ?_
      refine D_nil ?_
      refine n_then ?_
      refine W_cond rfl (fun hc25 => ?_) (fun hc25 => ?_)
      · skip
        try simp only [decide_eq_true_eq, decide_eq_false_iff_not, bne_iff_ne, bne_eq_false_iff_eq, ne_eq, Bool.not_eq_true', Bool.not_eq_false'] at hc25
        refine W_seq ?_
        refine W_region ?_
        refine s_assign rfl rfl ?_
        refine WL_nil ?_
        refine n_then ?_
        refine W_ret ?_
        refine r_blk ?_
        refine r_then ?_
        refine r_then ?_
        refine r_blk ?_
        refine r_then ?_
        first
          | exact end1 rfl rfl ⟨hs.fwd, false, rfl, by simp, fun h => by rw [h] at hc10; exact absurd rfl hc10⟩
          | exact end1 rfl rfl ⟨hs.fwd, true, rfl, fun _ => by rw [List.take_of_length_le (by omega), List.take_of_length_le (by omega)] at htk; exact htk, fun _ => rfl⟩
          | exact end1 rfl rfl ⟨hs.fwd, false, rfl, by simp, fun h => by
              rw [h, hyi] at hxi; cases hxi; exact absurd ⟨rfl, rfl⟩ hc25⟩
      · skip
        try simp only [decide_eq_true_eq, decide_eq_false_iff_not, bne_iff_ne, bne_eq_false_iff_eq, ne_eq, Bool.not_eq_true', Bool.not_eq_false'] at hc25
        refine W_skip ?_
        refine n_blk ?_
        refine n_then ?_
        refine W_region ?_
        refine s_move rfl rfl ?_
        first | (refine s_add' rfl rfl rfl ?hx ?_; case hx => (constructor <;> first | omega | (simp only; omega))) | refine s_add rfl rfl rfl ?_
        refine s_assign rfl rfl ?_
        refine WL_nil ?_
        refine n_loop ?_
        refine ⟨k + 1, ⟨rfl, rfl, rfl, trivial⟩, ⟨hs, by omega, ?_⟩, by omega⟩
        rw [List.take_add_one, List.take_add_one, hxi, hyi, htk, show x = y from Prod.ext hc25.1 hc25.2]
    · skip
      try simp only [decide_eq_true_eq, decide_eq_false_iff_not, bne_iff_ne, bne_eq_false_iff_eq, ne_eq, Bool.not_eq_true', Bool.not_eq_false'] at hc14
      refine W_exit ?_
      refine x_then ?_
      refine x_then ?_
      refine exit_hit ?_
      refine n_then ?_
      refine W_seq ?_
      refine W_region ?_
      refine s_assign rfl rfl ?_
      refine WL_nil ?_
      refine n_then ?_
      refine W_ret ?_
      first
        | exact end1 rfl rfl ⟨hs.fwd, false, rfl, by simp, fun h => by rw [h] at hc10; exact absurd rfl hc10⟩
        | exact end1 rfl rfl ⟨hs.fwd, true, rfl, fun _ => by rw [List.take_of_length_le (by omega), List.take_of_length_le (by omega)] at htk; exact htk, fun _ => rfl⟩
        | exact end1 rfl rfl ⟨hs.fwd, false, rfl, by simp, fun h => by
            rw [h, hyi] at hxi; cases hxi; exact absurd ⟨rfl, rfl⟩ hc25⟩
theorem lb_one {ls : List Lb} {c : Value} (h : c ∈ lbcells ls) : c.oneCell' = true := by
  simp only [lbcells, List.mem_flatMap, lbC] at h
  obtain ⟨x, _, h⟩ := h
  simp at h
  rcases h with rfl | rfl <;> rfl
theorem lb_drop : ∀ (os : List Lb) (k : Nat), (lbcells os).drop (k * 2) = lbcells (os.drop k)
  | _, 0 => by simp
  | [], _ + 1 => by simp [lbcells]
  | x :: os, k + 1 => by
    rw [show (k + 1) * 2 = k * 2 + 2 by omega]
    simpa [lbcells, lbC] using lb_drop os k
theorem lb_ins (os : List Lb) (x : Lb) (k : Nat) : lbcells (os.take k ++ x :: os.drop k) = lbcells (os.take k) ++ [.string x.1, .string x.2] ++ (lbcells os).drop (k * 2) := by
  rw [lb_drop]; simp [lbcells, lbC]
structure NS where
  i : Nat
  v : Value
  os : List Lb
  L : Hp
structure NI (ls : List Lb) (i : Nat) (os : List Lb) : Prop where
  len : os.length = i
  srt : sortedP os
  ok : ∀ (j : Nat) x, j < i → ls[j]? = some x → validL x
  same : sortedP (ls.take i) → os = ls.take i
set_option maxHeartbeats 4000000 in
theorem fNew_ok (v : Value) (ls : List Lb) (w0 : World) (hv : Sl w0 v ls.length (lbcells ls)) :
    Ret Try.prog 56 [v].toArray w0 fun r w' => ∃ sv e os Lr, r = .tuple #[sv, .int .i64 e] ∧ St [] w0 w' Lr ∧ (∃ x y z, sv = .slice x y z) ∧ ((e = 0 ∧ ls.length ≤ 8 ∧ OwnS 51 2 sv os.length (lbcells os) Lr ∧ NI ls ls.length os) ∨ (e ≠ 0 ∧ ¬ labsP ls)) := by
  obtain ⟨a, c, rfl, hac⟩ := hv.len_le
  refine Ret_start fun w hs => ?_
  refine Ret_of Try.func56 rfl Try.ntmps56 rfl ?_
  refine W_seq ?_
  refine W_region ?_
  refine s_assign rfl rfl ?_
  refine s_assign rfl rfl ?_
  refine WL_nil ?_
  refine n_then ?_
  refine W_seq ?_
  refine W_seq ?_
  refine W_region ?_
  refine s_move rfl rfl ?_
  refine s_len rfl rfl (LN23 _ _ _ _) ?_
  refine s_gtr rfl rfl rfl ?_
  refine WL_nil ?_
  refine n_then ?_
  refine W_cond rfl (fun hc10 => ?_) (fun hc10 => ?_)
  · skip
    try simp only [decide_eq_true_eq, decide_eq_false_iff_not, beq_iff_eq, beq_eq_false_iff_ne, bne_iff_ne, bne_eq_false_iff_eq, ne_eq, Bool.not_eq_true', Bool.not_eq_false', Bool.not_eq_true, Bool.not_eq_false, gt_iff_lt] at hc10
    refine W_seq ?_
    refine W_region ?_
    refine s_assign rfl rfl ?_
    refine s_assign rfl rfl ?_
    refine WL_nil ?_
    refine n_then ?_
    refine W_ret ?_
    refine r_then ?_
    first
      | exact end2 rfl rfl rfl ⟨_, _, [], _, rfl, hs, ⟨_, _, _, rfl⟩, .inr ⟨by simp, fun h => by have := h.1; omega⟩⟩
      | exact end2 rfl rfl rfl ⟨_, _, os, _, rfl, hs, ⟨_, _, _, rfl⟩, .inl ⟨rfl, by omega, hO, by rw [show ls.length = i by omega]; exact hN⟩⟩
      | exact end2 rfl rfl rfl ⟨_, _, [], _, rfl, hs, ⟨_, _, _, rfl⟩, .inr ⟨by simp, fun h => absurd (((labsP_iff ls).1 h).2.1 i x hli).1 ‹_›⟩⟩
      | exact end2 rfl rfl rfl ⟨_, _, [], _, rfl, hs, ⟨_, _, _, rfl⟩, .inr ⟨by simp, fun h => absurd ‹_› (((labsP_iff ls).1 h).2.1 i x hli).2.1⟩⟩
      | exact end2 rfl rfl rfl ⟨_, _, [], _, rfl, hs, ⟨_, _, _, rfl⟩, .inr ⟨by simp, fun h => absurd (((labsP_iff ls).1 h).2.1 i x hli).2.2 ‹_›⟩⟩
      | exact end2 rfl rfl rfl ⟨_, _, [], _, rfl, hs, ⟨_, _, _, rfl⟩, .inr ⟨by simp, fun h => no_twice hli h hN.same hki hc81⟩⟩
  · skip
    try simp only [decide_eq_true_eq, decide_eq_false_iff_not, beq_iff_eq, beq_eq_false_iff_ne, bne_iff_ne, bne_eq_false_iff_eq, ne_eq, Bool.not_eq_true', Bool.not_eq_false', Bool.not_eq_true, Bool.not_eq_false, gt_iff_lt] at hc10
    refine W_skip ?_
    refine n_then ?_
    refine W_seq ?_
    refine W_region ?_
    refine s_assign rfl rfl ?_
    refine WL_nil ?_
    refine n_then ?_
    refine W_seq ?_
    refine W_seq ?_
    refine W_region ?_
    refine s_assign rfl rfl ?_
    refine WL_nil ?_
    refine n_then ?_
    refine W_block ?_
    refine W_loop (σ := NS) (fun s => [(0, .slice a ls.length c), (4, s.v), (5, .int .i64 (s.i : Int))]) (fun s w => St [] w0 w s.L ∧ OwnS 51 2 s.v s.os.length (lbcells s.os) s.L ∧ NI ls s.i s.os ∧ s.i ≤ ls.length) (fun s => ls.length - s.i) ⟨0, .slice none 0 0, [], []⟩ ⟨rfl, rfl, rfl, trivial⟩ ⟨hs, OwnS.nil _ _, ⟨rfl, fun j y z h => by simp at h, fun j _ h => absurd h (Nat.not_lt_zero _), fun _ => rfl⟩, Nat.zero_le _⟩ ?_
    clear hs
    rintro ⟨i, v4, os, L4⟩ w ⟨hs, hO, hN, hi⟩
    simp only at hs hO hN hi ⊢
    have hol := hN.len
    obtain ⟨ol, oc, oa, rfl, hol2⟩ := hO.form
    subst hol2
    refine W_seq ?_
    refine W_seq ?_
    refine W_region ?_
    refine s_move rfl rfl ?_
    refine s_move rfl rfl ?_
    refine s_len rfl rfl (LN23 _ _ _ _) ?_
    refine s_lss rfl rfl rfl ?_
    refine WL_nil ?_
    refine n_then ?_
    refine W_cond rfl (fun hc14 => ?_) (fun hc14 => ?_)
    · skip
      try simp only [decide_eq_true_eq, decide_eq_false_iff_not, beq_iff_eq, beq_eq_false_iff_ne, bne_iff_ne, bne_eq_false_iff_eq, ne_eq, Bool.not_eq_true', Bool.not_eq_false', Bool.not_eq_true, Bool.not_eq_false, gt_iff_lt] at hc14
      have hix : i < ls.length := by omega
      have hli : ls[i]? = some ls[i] := List.getElem?_eq_getElem hix
      generalize ls[i] = x at hli
      obtain ⟨b1, o1, hA1, hB1, hc1, hc2⟩ := sl2 hv hli
      have hld1 : ∀ {w : World} {L : Hp}, St [] w0 w L → w.cell? ⟨b1, o1 + (i : Int).toNat * 2 + 0, none⟩ = some (.string x.1) := fun hs => (hs.oldcell (a := ⟨b1, _, none⟩) hB1 (by simp)).trans hc1
      have hld2 : ∀ {w : World} {L : Hp}, St [] w0 w L → w.cell? ⟨b1, o1 + (i : Int).toNat * 2 + 1, none⟩ = some (.string x.2) := fun hs => (hs.oldcell (a := ⟨b1, _, none⟩) hB1 (by simp)).trans hc2
      refine W_skip ?_
      refine n_then ?_
      refine W_seq ?_
      refine W_block ?_
      refine W_seq ?_
      refine W_seq ?_
      refine W_region ?_
      refine s_move rfl rfl ?_
      refine s_move rfl rfl ?_
      (refine s_indexAddrP El23 rfl rfl rfl hA1 ?hx ?_; case hx => (constructor <;> omega))
      refine s_fieldAddr rfl rfl (FA51_0 _ _) ?_
      refine s_load Try.isAgg9 rfl rfl (hld1 hs) ?_
      refine s_call Try.call36 rfl rfl (fName_ok x.1 w) ?_
      rintro r w1 ⟨hw1, rfl⟩
      rw [hw1]; clear hw1 w1
      refine s_not rfl rfl ?_
      refine WL_nil ?_
      refine n_then ?_
      refine W_cond rfl (fun hc23 => ?_) (fun hc23 => ?_)
      · skip
        try simp only [decide_eq_true_eq, decide_eq_false_iff_not, beq_iff_eq, beq_eq_false_iff_ne, bne_iff_ne, bne_eq_false_iff_eq, ne_eq, Bool.not_eq_true', Bool.not_eq_false', Bool.not_eq_true, Bool.not_eq_false, gt_iff_lt] at hc23
        refine W_seq ?_
        refine W_region ?_
        refine s_assign rfl rfl ?_
        refine s_assign rfl rfl ?_
        refine WL_nil ?_
        refine n_then ?_
        refine W_ret ?_
        refine r_then ?_
        refine r_blk ?_
        refine r_then ?_
        refine r_then ?_
        refine r_blk ?_
        refine r_then ?_
        first
          | exact end2 rfl rfl rfl ⟨_, _, [], _, rfl, hs, ⟨_, _, _, rfl⟩, .inr ⟨by simp, fun h => by have := h.1; omega⟩⟩
          | exact end2 rfl rfl rfl ⟨_, _, os, _, rfl, hs, ⟨_, _, _, rfl⟩, .inl ⟨rfl, by omega, hO, by rw [show ls.length = i by omega]; exact hN⟩⟩
          | exact end2 rfl rfl rfl ⟨_, _, [], _, rfl, hs, ⟨_, _, _, rfl⟩, .inr ⟨by simp, fun h => absurd (((labsP_iff ls).1 h).2.1 i x hli).1 ‹_›⟩⟩
          | exact end2 rfl rfl rfl ⟨_, _, [], _, rfl, hs, ⟨_, _, _, rfl⟩, .inr ⟨by simp, fun h => absurd ‹_› (((labsP_iff ls).1 h).2.1 i x hli).2.1⟩⟩
          | exact end2 rfl rfl rfl ⟨_, _, [], _, rfl, hs, ⟨_, _, _, rfl⟩, .inr ⟨by simp, fun h => absurd (((labsP_iff ls).1 h).2.1 i x hli).2.2 ‹_›⟩⟩
          | exact end2 rfl rfl rfl ⟨_, _, [], _, rfl, hs, ⟨_, _, _, rfl⟩, .inr ⟨by simp, fun h => no_twice hli h hN.same hki hc81⟩⟩
      · skip
        try simp only [decide_eq_true_eq, decide_eq_false_iff_not, beq_iff_eq, beq_eq_false_iff_ne, bne_iff_ne, bne_eq_false_iff_eq, ne_eq, Bool.not_eq_true', Bool.not_eq_false', Bool.not_eq_true, Bool.not_eq_false, gt_iff_lt] at hc23
        refine W_skip ?_
        refine n_then ?_
        refine W_seq ?_
        refine W_seq ?_
        refine W_region ?_
        refine s_move rfl rfl ?_
        refine s_move rfl rfl ?_
        (refine s_indexAddrP El23 rfl rfl rfl hA1 ?hx ?_; case hx => (constructor <;> omega))
        refine s_fieldAddr rfl rfl (FA51_1 _ _) ?_
        refine s_load Try.isAgg9 rfl rfl (hld2 hs) ?_
        refine s_eql_S rfl rfl rfl ?_
        refine s_move rfl rfl ?_
        refine WL_case (s := 30) rfl (fun hg30 => ?_) (fun hg30 => ?_)
        · skip
          try simp only [decide_eq_true_eq, decide_eq_false_iff_not, beq_iff_eq, beq_eq_false_iff_ne, bne_iff_ne, bne_eq_false_iff_eq, ne_eq, Bool.not_eq_true', Bool.not_eq_false', Bool.not_eq_true, Bool.not_eq_false, gt_iff_lt] at hg30
          refine WL_skip rfl rfl rfl ?_
          refine WL_skip rfl rfl rfl ?_
          refine WL_skip rfl rfl rfl ?_
          refine WL_skip rfl rfl rfl ?_
          refine WL_skip rfl rfl rfl ?_
          refine WL_skip rfl rfl rfl ?_
          refine WL_skip rfl rfl rfl ?_
          refine s_pick_t rfl rfl rfl ?_
          refine WL_nil ?_
          refine n_then ?_
          refine W_cond_t rfl ?_
          refine W_seq ?_
          refine W_region ?_
          refine s_assign rfl rfl ?_
          refine s_assign rfl rfl ?_
          refine WL_nil ?_
          refine n_then ?_
          refine W_ret ?_
          refine r_then ?_
          refine r_blk ?_
          refine r_then ?_
          refine r_then ?_
          refine r_blk ?_
          refine r_then ?_
          first
            | exact end2 rfl rfl rfl ⟨_, _, [], _, rfl, hs, ⟨_, _, _, rfl⟩, .inr ⟨by simp, fun h => by have := h.1; omega⟩⟩
            | exact end2 rfl rfl rfl ⟨_, _, os, _, rfl, hs, ⟨_, _, _, rfl⟩, .inl ⟨rfl, by omega, hO, by rw [show ls.length = i by omega]; exact hN⟩⟩
            | exact end2 rfl rfl rfl ⟨_, _, [], _, rfl, hs, ⟨_, _, _, rfl⟩, .inr ⟨by simp, fun h => absurd (((labsP_iff ls).1 h).2.1 i x hli).1 ‹_›⟩⟩
            | exact end2 rfl rfl rfl ⟨_, _, [], _, rfl, hs, ⟨_, _, _, rfl⟩, .inr ⟨by simp, fun h => absurd ‹_› (((labsP_iff ls).1 h).2.1 i x hli).2.1⟩⟩
            | exact end2 rfl rfl rfl ⟨_, _, [], _, rfl, hs, ⟨_, _, _, rfl⟩, .inr ⟨by simp, fun h => absurd (((labsP_iff ls).1 h).2.1 i x hli).2.2 ‹_›⟩⟩
            | exact end2 rfl rfl rfl ⟨_, _, [], _, rfl, hs, ⟨_, _, _, rfl⟩, .inr ⟨by simp, fun h => no_twice hli h hN.same hki hc81⟩⟩
        · skip
          try simp only [decide_eq_true_eq, decide_eq_false_iff_not, beq_iff_eq, beq_eq_false_iff_ne, bne_iff_ne, bne_eq_false_iff_eq, ne_eq, Bool.not_eq_true', Bool.not_eq_false', Bool.not_eq_true, Bool.not_eq_false, gt_iff_lt] at hg30
          refine WL_take rfl ?_
          refine s_move rfl rfl ?_
          refine WL_take rfl ?_
          refine s_move rfl rfl ?_
          refine WL_take rfl ?_
          (refine s_indexAddrP El23 rfl rfl rfl hA1 ?hx ?_; case hx => (constructor <;> omega))
          refine WL_take rfl ?_
          refine s_fieldAddr rfl rfl (FA51_1 _ _) ?_
          refine WL_take rfl ?_
          refine s_load Try.isAgg9 rfl rfl (hld2 hs) ?_
          refine WL_take rfl ?_
          refine s_call Try.call63 rfl rfl (fValue_ok x.2 w) ?_
          rintro r w1 ⟨hw1, rfl⟩
          rw [hw1]; clear hw1 w1
          refine WL_take rfl ?_
          refine s_not rfl rfl ?_
          refine s_pick_f rfl rfl rfl ?_
          refine WL_nil ?_
          refine n_then ?_
          refine W_cond rfl (fun hc38 => ?_) (fun hc38 => ?_)
          · skip
            try simp only [decide_eq_true_eq, decide_eq_false_iff_not, beq_iff_eq, beq_eq_false_iff_ne, bne_iff_ne, bne_eq_false_iff_eq, ne_eq, Bool.not_eq_true', Bool.not_eq_false', Bool.not_eq_true, Bool.not_eq_false, gt_iff_lt] at hc38
            refine W_seq ?_
            refine W_region ?_
            refine s_assign rfl rfl ?_
            refine s_assign rfl rfl ?_
            refine WL_nil ?_
            refine n_then ?_
            refine W_ret ?_
            refine r_then ?_
            refine r_blk ?_
            refine r_then ?_
            refine r_then ?_
            refine r_blk ?_
            refine r_then ?_
            first
              | exact end2 rfl rfl rfl ⟨_, _, [], _, rfl, hs, ⟨_, _, _, rfl⟩, .inr ⟨by simp, fun h => by have := h.1; omega⟩⟩
              | exact end2 rfl rfl rfl ⟨_, _, os, _, rfl, hs, ⟨_, _, _, rfl⟩, .inl ⟨rfl, by omega, hO, by rw [show ls.length = i by omega]; exact hN⟩⟩
              | exact end2 rfl rfl rfl ⟨_, _, [], _, rfl, hs, ⟨_, _, _, rfl⟩, .inr ⟨by simp, fun h => absurd (((labsP_iff ls).1 h).2.1 i x hli).1 ‹_›⟩⟩
              | exact end2 rfl rfl rfl ⟨_, _, [], _, rfl, hs, ⟨_, _, _, rfl⟩, .inr ⟨by simp, fun h => absurd ‹_› (((labsP_iff ls).1 h).2.1 i x hli).2.1⟩⟩
              | exact end2 rfl rfl rfl ⟨_, _, [], _, rfl, hs, ⟨_, _, _, rfl⟩, .inr ⟨by simp, fun h => absurd (((labsP_iff ls).1 h).2.1 i x hli).2.2 ‹_›⟩⟩
              | exact end2 rfl rfl rfl ⟨_, _, [], _, rfl, hs, ⟨_, _, _, rfl⟩, .inr ⟨by simp, fun h => no_twice hli h hN.same hki hc81⟩⟩
          · skip
            try simp only [decide_eq_true_eq, decide_eq_false_iff_not, beq_iff_eq, beq_eq_false_iff_ne, bne_iff_ne, bne_eq_false_iff_eq, ne_eq, Bool.not_eq_true', Bool.not_eq_false', Bool.not_eq_true, Bool.not_eq_false, gt_iff_lt] at hc38
            refine W_skip ?_
            refine n_then ?_
            refine W_seq ?_
            refine W_region ?_
            refine s_assign rfl rfl ?_
            refine WL_nil ?_
            refine n_then ?_
            refine W_seq ?_
            refine W_region ?_
            refine s_assign rfl rfl ?_
            refine WL_nil ?_
            refine n_then ?_
            refine W_cut (σ := Nat × Value × Hp) (fun s => [(0, .slice a ls.length c), (4, .slice oa os.length oc), (5, .int .i64 (i : Int)), (6, s.2.1), (7, .int .i64 (s.1 : Int))]) (fun s w => St [] w0 w (L4 ++ s.2.2) ∧ OwnS 51 2 s.2.1 s.1 (lbcells (os.take s.1)) s.2.2 ∧ s.1 ≤ os.length ∧ (∀ (j : Nat) y, j < s.1 → os[j]? = some y → nlt y x) ∧ (∀ y, os[s.1]? = some y → ¬ nlt y x)) ?_ ?_
            · skip
              refine W_block ?_
              refine W_loop (σ := Nat × Value × Hp) (fun s => [(0, .slice a ls.length c), (4, .slice oa os.length oc), (5, .int .i64 (i : Int)), (6, s.2.1), (7, .int .i64 (s.1 : Int))]) (fun s w => St [] w0 w (L4 ++ s.2.2) ∧ OwnS 51 2 s.2.1 s.1 (lbcells (os.take s.1)) s.2.2 ∧ s.1 ≤ os.length ∧ (∀ (j : Nat) y, j < s.1 → os[j]? = some y → nlt y x)) (fun s => os.length - s.1) (0, .slice none 0 0, []) ⟨rfl, rfl, rfl, rfl, rfl, trivial⟩ ⟨by simpa using hs, OwnS.nil _ _, Nat.zero_le _, by simp⟩ ?_
              clear hs
              rintro ⟨k, v6, L6⟩ w ⟨hs, hO6, hk, hlt⟩
              simp only at hs hO6 hk hlt ⊢
              refine W_seq ?_
              refine W_seq ?_
              refine W_draw [(0, true, []), (1, true, []), (2, true, []), (3, true, []), (4, true, []), (5, true, []), (6, true, []), (7, true, []), (8, true, []), (9, true, []), (10, true, []), (11, true, []), (12, true, []), (13, true, []), (14, true, []), (15, true, []), (16, true, [])] [[], [], [1], [0, 1, 2], [0, 1, 2, 3], [0, 1, 2, 3, 4], [0, 1, 2, 3, 4], [0, 1, 2, 3, 4, 5, 6], [0, 1, 2, 3, 4, 5, 6, 7], [0, 1, 2, 3, 4, 5, 6, 7, 8], [0, 1, 2, 3, 4], [0, 1, 2, 3, 4], [0, 1, 2, 3, 4, 10, 11], [0, 1, 2, 3, 4, 10, 11, 12], [0, 1, 2, 3, 4, 10, 11, 12, 13], [0, 1, 2, 3, 4, 5, 6, 7, 8, 9, 10, 11, 12, 13, 14], [0, 1, 2, 3, 4, 5, 6, 7, 8, 9, 10, 11, 12, 13, 14, 15]] MX (by kernel_rfl) ?_
              intro w1 hw1 hw2 hw3 hw4; replace hs := hs.redrawn hw1 hw2 hw3 hw4; clear hw1 hw2 hw3 hw4
              obtain ⟨w, rfl⟩ : ∃ w : World, w = w1 := ⟨_, rfl⟩
              refine D_q rfl rfl ?_
              refine s_move rfl rfl ?_
              refine D_qn ?_
              refine D_q rfl rfl ?_
              refine s_move rfl rfl ?_
              refine D_qn ?_
              refine D_q rfl rfl ?_
              refine s_len rfl rfl (LN23 _ _ _ _) ?_
              refine D_qn ?_
              refine D_q rfl rfl ?_
              refine s_lss rfl rfl rfl ?_
              refine D_qn ?_
              refine D_q rfl rfl ?_
              refine s_move rfl rfl ?_
              refine WL_case (s := 43) rfl (fun hg43 => ?_) (fun hg43 => ?_)
              · skip
                try simp only [decide_eq_true_eq, decide_eq_false_iff_not, beq_iff_eq, beq_eq_false_iff_ne, bne_iff_ne, bne_eq_false_iff_eq, ne_eq, Bool.not_eq_true', Bool.not_eq_false', Bool.not_eq_true, Bool.not_eq_false, gt_iff_lt] at hg43
                have hkx : k < os.length := by omega
                have hki : os[k]? = some os[k] := List.getElem?_eq_getElem hkx
                generalize os[k] = y at hki
                obtain ⟨g, gc, sp, hgv, hgc, rfl⟩ := hO.block (by omega)
                cases hgv
                simp only [List.cons_append, List.nil_append] at hs
                have c0 := flat_at' (sp := sp) (u := .string y.1) lbC_length (show 0 < 2 by omega) hki rfl
                have c1 := flat_at' (sp := sp) (u := .string y.2) lbC_length (show 1 < 2 by omega) hki rfl
                refine D_qn ?_
                refine D_q rfl rfl ?_
                refine WL_take rfl ?_
                refine s_move rfl rfl ?_
                refine D_qn ?_
                refine D_q rfl rfl ?_
                refine WL_take rfl ?_
                refine s_move rfl rfl ?_
                refine D_qn ?_
                refine D_q rfl rfl ?_
                refine WL_take rfl ?_
                (refine s_indexAddr El23 rfl rfl rfl ?hx ?_; case hx => (constructor <;> first | omega | (simp; omega)))
                refine D_qn ?_
                refine D_q rfl rfl ?_
                refine WL_take rfl ?_
                refine s_fieldAddr rfl rfl (FA51_0 _ _) ?_
                refine D_qn ?_
                refine D_q rfl rfl ?_
                refine WL_take rfl ?_
                refine s_load Try.isAgg9 rfl rfl (hs.cell (k := 0) rfl c0) ?_
                refine D_qn ?_
                refine D_q rfl rfl ?_
                refine WL_take rfl ?_
                refine s_move rfl rfl ?_
                refine D_qn ?_
                refine D_q rfl rfl ?_
                refine WL_take rfl ?_
                refine s_move rfl rfl ?_
                refine D_qn ?_
                refine D_q rfl rfl ?_
                refine WL_take rfl ?_
                (refine s_indexAddrP El23 rfl rfl rfl hA1 ?hx ?_; case hx => (constructor <;> omega))
                refine D_qn ?_
                refine D_q rfl rfl ?_
                refine WL_take rfl ?_
                refine s_fieldAddr rfl rfl (FA51_0 _ _) ?_
                refine D_qn ?_
                refine D_q rfl rfl ?_
                refine WL_take rfl ?_
                refine s_load Try.isAgg9 rfl rfl (hld1 hs) ?_
                refine D_qn ?_
                refine D_q rfl rfl ?_
                refine WL_take rfl ?_
                refine s_lss_B rfl rfl rfl ?_
                rw [less_lex]
                refine D_qn ?_
                refine D_q rfl rfl ?_
                refine s_pick_t rfl rfl rfl ?_
                refine D_qn ?_
                refine D_nil ?_
                refine n_then ?_
                refine W_cond rfl (fun hc55 => ?_) (fun hc55 => ?_)
                · skip
                  try simp only [decide_eq_true_eq, decide_eq_false_iff_not, beq_iff_eq, beq_eq_false_iff_ne, bne_iff_ne, bne_eq_false_iff_eq, ne_eq, Bool.not_eq_true', Bool.not_eq_false', Bool.not_eq_true, Bool.not_eq_false, gt_iff_lt] at hc55
                  refine W_skip ?_
                  refine n_then ?_
                  refine W_block ?_
                  refine W_seq ?_
                  refine W_region ?_
                  refine s_move rfl rfl ?_
                  refine s_move rfl rfl ?_
                  refine s_move rfl rfl ?_
                  (refine s_indexAddr El23 rfl rfl rfl ?hx ?_; case hx => (constructor <;> first | omega | (simp; omega)))
                  refine s_load_2 Try.isAgg51 Try.sizeOf51 rfl rfl (hs.cell (k := 0) rfl c0) (hs.cell (k := 0) rfl c1) ?_
                  refine s_buildSlice rfl rfl (BS23_1 _ _) hs ?_; clear hs; intro b61 w hs
                  refine s_appendM (M := [_, _]) (X := []) El23 rfl rfl rfl hO6 (by simp only [List.append_nil]; exact hs) (hs.sl (k := 0) (ds := [_, _]) rfl (Nat.le_refl _) (by intro j u hj; rw [Nat.zero_add]; exact hj)) rfl (by simp [Value.oneCell']) (by omega) ?_
                  clear hs; intro v' w Lv' hO' hs
                  simp only [List.cons_append, List.nil_append, List.append_nil] at hs
                  refine s_assign rfl rfl ?_
                  refine WL_nil ?_
                  refine n_then ?_
                  refine W_region ?_
                  refine s_move rfl rfl ?_
                  first | (refine s_add' rfl rfl rfl ?hx ?_; case hx => (constructor <;> first | omega | (simp only; omega))) | refine s_add rfl rfl rfl ?_
                  refine s_assign rfl rfl ?_
                  refine WL_nil ?_
                  refine n_blk ?_
                  refine n_loop ?_
                  refine ⟨(k + 1, v', Lv'), ⟨rfl, rfl, rfl, rfl, rfl, trivial⟩, ⟨hs.tail, ?_, by simp only; omega, fun j y' hj hy' => ?_⟩, by simp only; omega⟩
                  · simp only
                    rw [List.take_add_one, hki]
                    simpa [lbC] using hO'
                  · rcases Nat.lt_or_ge j k with h1 | h1
                    · exact hlt j y' h1 hy'
                    · obtain rfl : j = k := by simp only at hj; omega
                      rw [hki] at hy'; cases hy'; exact hc55
                · skip
                  try simp only [decide_eq_true_eq, decide_eq_false_iff_not, beq_iff_eq, beq_eq_false_iff_ne, bne_iff_ne, bne_eq_false_iff_eq, ne_eq, Bool.not_eq_true', Bool.not_eq_false', Bool.not_eq_true, Bool.not_eq_false, gt_iff_lt] at hc55
                  refine W_exit ?_
                  refine x_then ?_
                  refine x_then ?_
                  refine exit_hit ?_
                  refine n_loop ?_
                  first
                    | exact ⟨(k, v6, L6), ⟨rfl, rfl, rfl, rfl, rfl, trivial⟩, hs, hO6, hk, hlt, fun y' hy' => by have := (List.getElem?_eq_some_iff.1 hy').1; simp only at this; omega⟩
                    | exact ⟨(k, v6, L6), ⟨rfl, rfl, rfl, rfl, rfl, trivial⟩, hs, hO6, hk, hlt, fun y' hy' => by
                        simp only at hy'
                        rw [hki] at hy'; cases hy'
                        unfold nlt; rw [hc55]; simp⟩
              · skip
                try simp only [decide_eq_true_eq, decide_eq_false_iff_not, beq_iff_eq, beq_eq_false_iff_ne, bne_iff_ne, bne_eq_false_iff_eq, ne_eq, Bool.not_eq_true', Bool.not_eq_false', Bool.not_eq_true, Bool.not_eq_false, gt_iff_lt] at hg43
                refine D_qn ?_
                refine D_q rfl rfl ?_
                refine WL_skip rfl rfl rfl ?_
                refine D_qn ?_
                refine D_q rfl rfl ?_
                refine WL_skip rfl rfl rfl ?_
                refine D_qn ?_
                refine D_q rfl rfl ?_
                refine WL_skip rfl rfl rfl ?_
                refine D_qn ?_
                refine D_q rfl rfl ?_
                refine WL_skip rfl rfl rfl ?_
                refine D_qn ?_
                refine D_q rfl rfl ?_
                refine WL_skip rfl rfl rfl ?_
                refine D_qn ?_
                refine D_q rfl rfl ?_
                refine WL_skip rfl rfl rfl ?_
                refine D_qn ?_
                refine D_q rfl rfl ?_
                refine WL_skip rfl rfl rfl ?_
                refine D_qn ?_
                refine D_q rfl rfl ?_
                refine WL_skip rfl rfl rfl ?_
                refine D_qn ?_
                refine D_q rfl rfl ?_
                refine WL_skip rfl rfl rfl ?_
                refine D_qn ?_
                refine D_q rfl rfl ?_
                refine WL_skip rfl rfl rfl ?_
                refine D_qn ?_
                refine D_q rfl rfl ?_
                refine WL_skip rfl rfl rfl ?_
                refine D_qn ?_
                refine D_q rfl rfl ?_
                refine s_pick_f rfl rfl rfl ?_
                refine D_qn ?_
                refine D_nil ?_
                refine n_then ?_
                refine W_cond_f rfl ?_
                refine W_exit ?_
                refine x_then ?_
                refine x_then ?_
                refine exit_hit ?_
                refine n_loop ?_
                first
                  | exact ⟨(k, v6, L6), ⟨rfl, rfl, rfl, rfl, rfl, trivial⟩, hs, hO6, hk, hlt, fun y' hy' => by have := (List.getElem?_eq_some_iff.1 hy').1; simp only at this; omega⟩
                  | exact ⟨(k, v6, L6), ⟨rfl, rfl, rfl, rfl, rfl, trivial⟩, hs, hO6, hk, hlt, fun y' hy' => by
                      simp only at hy'
                      rw [hki] at hy'; cases hy'
                      unfold nlt; rw [hc55]; simp⟩
            · skip
              clear hs
              rintro ⟨k, v6, L6⟩ w ⟨hs, hO6, hk, hlt, hge⟩
              simp only at hs hO6 hk hlt hge ⊢
              refine W_seq ?_
              refine W_seq ?_
              refine W_draw [(0, true, []), (1, true, []), (2, true, []), (3, true, []), (4, true, []), (5, true, []), (6, true, []), (7, true, []), (8, true, []), (9, true, []), (10, true, []), (11, true, []), (12, true, []), (13, true, []), (14, true, []), (15, true, []), (16, true, [])] [[], [], [1], [0, 1, 2], [0, 1, 2, 3], [0, 1, 2, 3, 4], [0, 1, 2, 3, 4], [0, 1, 2, 3, 4, 5, 6], [0, 1, 2, 3, 4, 5, 6, 7], [0, 1, 2, 3, 4, 5, 6, 7, 8], [0, 1, 2, 3, 4], [0, 1, 2, 3, 4], [0, 1, 2, 3, 4, 10, 11], [0, 1, 2, 3, 4, 10, 11, 12], [0, 1, 2, 3, 4, 10, 11, 12, 13], [0, 1, 2, 3, 4, 5, 6, 7, 8, 9, 10, 11, 12, 13, 14], [0, 1, 2, 3, 4, 5, 6, 7, 8, 9, 10, 11, 12, 13, 14, 15]] MX (by kernel_rfl) ?_
              intro w1 hw1 hw2 hw3 hw4; replace hs := hs.redrawn hw1 hw2 hw3 hw4; clear hw1 hw2 hw3 hw4
              obtain ⟨w, rfl⟩ : ∃ w : World, w = w1 := ⟨_, rfl⟩
              refine D_q rfl rfl ?_
              refine s_move rfl rfl ?_
              refine D_qn ?_
              refine D_q rfl rfl ?_
              refine s_move rfl rfl ?_
              refine D_qn ?_
              refine D_q rfl rfl ?_
              refine s_len rfl rfl (LN23 _ _ _ _) ?_
              refine D_qn ?_
              refine D_q rfl rfl ?_
              refine s_lss rfl rfl rfl ?_
              refine D_qn ?_
              refine D_q rfl rfl ?_
              refine s_move rfl rfl ?_
              refine WL_case (s := 69) rfl (fun hg69 => ?_) (fun hg69 => ?_)
              · skip
                try simp only [decide_eq_true_eq, decide_eq_false_iff_not, beq_iff_eq, beq_eq_false_iff_ne, bne_iff_ne, bne_eq_false_iff_eq, ne_eq, Bool.not_eq_true', Bool.not_eq_false', Bool.not_eq_true, Bool.not_eq_false, gt_iff_lt] at hg69
                have hkx : k < os.length := by omega
                have hki : os[k]? = some os[k] := List.getElem?_eq_getElem hkx
                generalize os[k] = y at hki
                obtain ⟨b2, o2, hA2, hB2, hd1, hd2⟩ := sl2 (hO.sl hs) hki
                refine D_qn ?_
                refine D_q rfl rfl ?_
                refine WL_take rfl ?_
                refine s_move rfl rfl ?_
                refine D_qn ?_
                refine D_q rfl rfl ?_
                refine WL_take rfl ?_
                refine s_move rfl rfl ?_
                refine D_qn ?_
                refine D_q rfl rfl ?_
                refine WL_take rfl ?_
                (refine s_indexAddrP El23 rfl rfl rfl hA2 ?hx ?_; case hx => (constructor <;> omega))
                refine D_qn ?_
                refine D_q rfl rfl ?_
                refine WL_take rfl ?_
                refine s_fieldAddr rfl rfl (FA51_0 _ _) ?_
                refine D_qn ?_
                refine D_q rfl rfl ?_
                refine WL_take rfl ?_
                refine s_load Try.isAgg9 rfl rfl hd1 ?_
                refine D_qn ?_
                refine D_q rfl rfl ?_
                refine WL_take rfl ?_
                refine s_move rfl rfl ?_
                refine D_qn ?_
                refine D_q rfl rfl ?_
                refine WL_take rfl ?_
                refine s_move rfl rfl ?_
                refine D_qn ?_
                refine D_q rfl rfl ?_
                refine WL_take rfl ?_
                (refine s_indexAddrP El23 rfl rfl rfl hA1 ?hx ?_; case hx => (constructor <;> omega))
                refine D_qn ?_
                refine D_q rfl rfl ?_
                refine WL_take rfl ?_
                refine s_fieldAddr rfl rfl (FA51_0 _ _) ?_
                refine D_qn ?_
                refine D_q rfl rfl ?_
                refine WL_take rfl ?_
                refine s_load Try.isAgg9 rfl rfl (hld1 hs) ?_
                refine D_qn ?_
                refine D_q rfl rfl ?_
                refine WL_take rfl ?_
                refine s_eql_S rfl rfl rfl ?_
                refine D_qn ?_
                refine D_q rfl rfl ?_
                refine s_pick_t rfl rfl rfl ?_
                refine D_qn ?_
                refine D_nil ?_
                refine n_then ?_
                refine W_cond rfl (fun hc81 => ?_) (fun hc81 => ?_)
                · skip
                  try simp only [decide_eq_true_eq, decide_eq_false_iff_not, beq_iff_eq, beq_eq_false_iff_ne, bne_iff_ne, bne_eq_false_iff_eq, ne_eq, Bool.not_eq_true', Bool.not_eq_false', Bool.not_eq_true, Bool.not_eq_false, gt_iff_lt] at hc81
                  refine W_seq ?_
                  refine W_region ?_
                  refine s_assign rfl rfl ?_
                  refine s_assign rfl rfl ?_
                  refine WL_nil ?_
                  refine n_then ?_
                  refine W_ret ?_
                  refine r_then ?_
                  refine r_blk ?_
                  refine r_then ?_
                  refine r_then ?_
                  refine r_blk ?_
                  refine r_then ?_
                  first
                    | exact end2 rfl rfl rfl ⟨_, _, [], _, rfl, hs, ⟨_, _, _, rfl⟩, .inr ⟨by simp, fun h => by have := h.1; omega⟩⟩
                    | exact end2 rfl rfl rfl ⟨_, _, os, _, rfl, hs, ⟨_, _, _, rfl⟩, .inl ⟨rfl, by omega, hO, by rw [show ls.length = i by omega]; exact hN⟩⟩
                    | exact end2 rfl rfl rfl ⟨_, _, [], _, rfl, hs, ⟨_, _, _, rfl⟩, .inr ⟨by simp, fun h => absurd (((labsP_iff ls).1 h).2.1 i x hli).1 ‹_›⟩⟩
                    | exact end2 rfl rfl rfl ⟨_, _, [], _, rfl, hs, ⟨_, _, _, rfl⟩, .inr ⟨by simp, fun h => absurd ‹_› (((labsP_iff ls).1 h).2.1 i x hli).2.1⟩⟩
                    | exact end2 rfl rfl rfl ⟨_, _, [], _, rfl, hs, ⟨_, _, _, rfl⟩, .inr ⟨by simp, fun h => absurd (((labsP_iff ls).1 h).2.1 i x hli).2.2 ‹_›⟩⟩
                    | exact end2 rfl rfl rfl ⟨_, _, [], _, rfl, hs, ⟨_, _, _, rfl⟩, .inr ⟨by simp, fun h => no_twice hli h hN.same hki hc81⟩⟩
                · skip
                  try simp only [decide_eq_true_eq, decide_eq_false_iff_not, beq_iff_eq, beq_eq_false_iff_ne, bne_iff_ne, bne_eq_false_iff_eq, ne_eq, Bool.not_eq_true', Bool.not_eq_false', Bool.not_eq_true, Bool.not_eq_false, gt_iff_lt] at hc81
                  refine W_skip ?_
                  refine n_then ?_
                  refine W_seq ?_
                  refine W_region ?_
                  refine s_move rfl rfl ?_
                  refine s_move rfl rfl ?_
                  refine s_move rfl rfl ?_
                  (refine s_indexAddrP El23 rfl rfl rfl hA1 ?hx ?_; case hx => (constructor <;> omega))
                  refine s_load_2 Try.isAgg51 Try.sizeOf51 rfl rfl (hld1 hs) (hld2 hs) ?_
                  refine s_buildSlice rfl rfl (BS23_1 _ _) hs ?_; clear hs; intro b87 w hs
                  refine s_appendM (M := _ :: L4) (X := []) El23 rfl rfl rfl hO6 (by simp only [List.append_nil, List.cons_append]; exact hs) (hs.sl (k := 0) (ds := [_, _]) rfl (Nat.le_refl _) (by intro j u hj; rw [Nat.zero_add]; exact hj)) rfl (by simp [Value.oneCell']) (by omega) ?_
                  clear hs; intro v7 w Lv7 hO7 hs
                  simp only [List.append_nil] at hs
                  have hs2 := hs.tail
                  refine s_assign rfl rfl ?_
                  refine WL_nil ?_
                  refine n_then ?_
                  refine W_region ?_
                  refine s_move rfl rfl ?_
                  refine s_move rfl rfl ?_
                  refine s_move rfl rfl ?_
                  refine s_slice_own El23 rfl rfl rfl hO hs2 rfl hk ?_
                  intro u hu
                  refine s_appendM (M := _ :: L4) (X := []) El23 rfl rfl rfl hO7 (by simp only [List.append_nil]; exact hs) hu (by rw [List.length_drop, hO.1]; omega) (fun c hc => lb_one (List.mem_of_mem_drop hc)) (by omega) ?_
                  clear hs; intro v8 w Lv8 hO8 hs
                  simp only [List.append_nil] at hs
                  have hs8 := hs.tail.right
                  have hO9 : OwnS 51 2 v8 (os.take k ++ x :: os.drop k).length (lbcells (os.take k ++ x :: os.drop k)) Lv8 := by
                    rw [show (os.take k ++ x :: os.drop k).length = k + 1 + (os.length - k) by simp; omega]
                    rw [lb_ins]; exact hO8
                  refine s_assign rfl rfl ?_
                  refine WL_nil ?_
                  refine n_blk ?_
                  refine n_then ?_
                  refine W_region ?_
                  refine s_move rfl rfl ?_
                  first | (refine s_add' rfl rfl rfl ?hx ?_; case hx => (constructor <;> first | omega | (simp only; omega))) | refine s_add rfl rfl rfl ?_
                  refine s_assign rfl rfl ?_
                  refine WL_nil ?_
                  refine n_loop ?_
                  have hN' : NI ls (i + 1) (os.take k ++ x :: os.drop k) := by
                    refine ⟨by simp; omega, ins_sorted hN.srt hk hlt ?_, fun j x' hj hx' => ?_, fun h => ?_⟩
                    · intro y' hy'
                      first
                        | (rw [hki] at hy'; cases hy'
                           refine lex_total (fun e => ?_) (by have := hge y hki; unfold nlt at this; simpa using this)
                           exact absurd (bytesOf_inj e) ‹¬ y.1 = x.1›)
                        | (have := (List.getElem?_eq_some_iff.1 hy').1; omega)
                    · rcases Nat.lt_or_ge j i with h1 | h1
                      · exact hN.ok j x' h1 hx'
                      · obtain rfl : j = i := by omega
                        rw [hli] at hx'; cases hx'
                        exact ⟨by assumption, by assumption, by assumption⟩
                    · exact ins_last hli h (hN.same (by have := sorted_take (k := i) h; rwa [List.take_take, Nat.min_eq_left (by omega)] at this)) hk hge
                  exact ⟨⟨i + 1, v8, _, Lv8⟩, ⟨rfl, rfl, rfl, trivial⟩, ⟨hs8, hO9, hN', by simp only; omega⟩, by simp only; omega⟩
              · skip
                try simp only [decide_eq_true_eq, decide_eq_false_iff_not, beq_iff_eq, beq_eq_false_iff_ne, bne_iff_ne, bne_eq_false_iff_eq, ne_eq, Bool.not_eq_true', Bool.not_eq_false', Bool.not_eq_true, Bool.not_eq_false, gt_iff_lt] at hg69
                refine D_qn ?_
                refine D_q rfl rfl ?_
                refine WL_skip rfl rfl rfl ?_
                refine D_qn ?_
                refine D_q rfl rfl ?_
                refine WL_skip rfl rfl rfl ?_
                refine D_qn ?_
                refine D_q rfl rfl ?_
                refine WL_skip rfl rfl rfl ?_
                refine D_qn ?_
                refine D_q rfl rfl ?_
                refine WL_skip rfl rfl rfl ?_
                refine D_qn ?_
                refine D_q rfl rfl ?_
                refine WL_skip rfl rfl rfl ?_
                refine D_qn ?_
                refine D_q rfl rfl ?_
                refine WL_skip rfl rfl rfl ?_
                refine D_qn ?_
                refine D_q rfl rfl ?_
                refine WL_skip rfl rfl rfl ?_
                refine D_qn ?_
                refine D_q rfl rfl ?_
                refine WL_skip rfl rfl rfl ?_
                refine D_qn ?_
                refine D_q rfl rfl ?_
                refine WL_skip rfl rfl rfl ?_
                refine D_qn ?_
                refine D_q rfl rfl ?_
                refine WL_skip rfl rfl rfl ?_
                refine D_qn ?_
                refine D_q rfl rfl ?_
                refine WL_skip rfl rfl rfl ?_
                refine D_qn ?_
                refine D_q rfl rfl ?_
                refine s_pick_f rfl rfl rfl ?_
                refine D_qn ?_
                refine D_nil ?_
                refine n_then ?_
                refine W_cond_f rfl ?_
                refine W_skip ?_
                refine n_then ?_
                refine W_seq ?_
                refine W_region ?_
                refine s_move rfl rfl ?_
                refine s_move rfl rfl ?_
                refine s_move rfl rfl ?_
                (refine s_indexAddrP El23 rfl rfl rfl hA1 ?hx ?_; case hx => (constructor <;> omega))
                refine s_load_2 Try.isAgg51 Try.sizeOf51 rfl rfl (hld1 hs) (hld2 hs) ?_
                refine s_buildSlice rfl rfl (BS23_1 _ _) hs ?_; clear hs; intro b87 w hs
                refine s_appendM (M := _ :: L4) (X := []) El23 rfl rfl rfl hO6 (by simp only [List.append_nil, List.cons_append]; exact hs) (hs.sl (k := 0) (ds := [_, _]) rfl (Nat.le_refl _) (by intro j u hj; rw [Nat.zero_add]; exact hj)) rfl (by simp [Value.oneCell']) (by omega) ?_
                clear hs; intro v7 w Lv7 hO7 hs
                simp only [List.append_nil] at hs
                have hs2 := hs.tail
                refine s_assign rfl rfl ?_
                refine WL_nil ?_
                refine n_then ?_
                refine W_region ?_
                refine s_move rfl rfl ?_
                refine s_move rfl rfl ?_
                refine s_move rfl rfl ?_
                refine s_slice_own El23 rfl rfl rfl hO hs2 rfl hk ?_
                intro u hu
                refine s_appendM (M := _ :: L4) (X := []) El23 rfl rfl rfl hO7 (by simp only [List.append_nil]; exact hs) hu (by rw [List.length_drop, hO.1]; omega) (fun c hc => lb_one (List.mem_of_mem_drop hc)) (by omega) ?_
                clear hs; intro v8 w Lv8 hO8 hs
                simp only [List.append_nil] at hs
                have hs8 := hs.tail.right
                have hO9 : OwnS 51 2 v8 (os.take k ++ x :: os.drop k).length (lbcells (os.take k ++ x :: os.drop k)) Lv8 := by
                  rw [show (os.take k ++ x :: os.drop k).length = k + 1 + (os.length - k) by simp; omega]
                  rw [lb_ins]; exact hO8
                refine s_assign rfl rfl ?_
                refine WL_nil ?_
                refine n_blk ?_
                refine n_then ?_
                refine W_region ?_
                refine s_move rfl rfl ?_
                first | (refine s_add' rfl rfl rfl ?hx ?_; case hx => (constructor <;> first | omega | (simp only; omega))) | refine s_add rfl rfl rfl ?_
                refine s_assign rfl rfl ?_
                refine WL_nil ?_
                refine n_loop ?_
                have hN' : NI ls (i + 1) (os.take k ++ x :: os.drop k) := by
                  refine ⟨by simp; omega, ins_sorted hN.srt hk hlt ?_, fun j x' hj hx' => ?_, fun h => ?_⟩
                  · intro y' hy'
                    first
                      | (rw [hki] at hy'; cases hy'
                         refine lex_total (fun e => ?_) (by have := hge y hki; unfold nlt at this; simpa using this)
                         exact absurd (bytesOf_inj e) ‹¬ y.1 = x.1›)
                      | (have := (List.getElem?_eq_some_iff.1 hy').1; omega)
                  · rcases Nat.lt_or_ge j i with h1 | h1
                    · exact hN.ok j x' h1 hx'
                    · obtain rfl : j = i := by omega
                      rw [hli] at hx'; cases hx'
                      exact ⟨by assumption, by assumption, by assumption⟩
                  · exact ins_last hli h (hN.same (by have := sorted_take (k := i) h; rwa [List.take_take, Nat.min_eq_left (by omega)] at this)) hk hge
                exact ⟨⟨i + 1, v8, _, Lv8⟩, ⟨rfl, rfl, rfl, trivial⟩, ⟨hs8, hO9, hN', by simp only; omega⟩, by simp only; omega⟩
    · skip
      try simp only [decide_eq_true_eq, decide_eq_false_iff_not, beq_iff_eq, beq_eq_false_iff_ne, bne_iff_ne, bne_eq_false_iff_eq, ne_eq, Bool.not_eq_true', Bool.not_eq_false', Bool.not_eq_true, Bool.not_eq_false, gt_iff_lt] at hc14
      refine W_exit ?_
      refine x_then ?_
      refine x_then ?_
      refine exit_hit ?_
      refine n_then ?_
      refine W_seq ?_
      refine W_region ?_
      refine s_move rfl rfl ?_
      refine s_assign rfl rfl ?_
      refine s_assign rfl rfl ?_
      refine WL_nil ?_
      refine n_then ?_
      refine W_ret ?_
      first
        | exact end2 rfl rfl rfl ⟨_, _, [], _, rfl, hs, ⟨_, _, _, rfl⟩, .inr ⟨by simp, fun h => by have := h.1; omega⟩⟩
        | exact end2 rfl rfl rfl ⟨_, _, os, _, rfl, hs, ⟨_, _, _, rfl⟩, .inl ⟨rfl, by omega, hO, by rw [show ls.length = i by omega]; exact hN⟩⟩
        | exact end2 rfl rfl rfl ⟨_, _, [], _, rfl, hs, ⟨_, _, _, rfl⟩, .inr ⟨by simp, fun h => absurd (((labsP_iff ls).1 h).2.1 i x hli).1 ‹_›⟩⟩
        | exact end2 rfl rfl rfl ⟨_, _, [], _, rfl, hs, ⟨_, _, _, rfl⟩, .inr ⟨by simp, fun h => absurd ‹_› (((labsP_iff ls).1 h).2.1 i x hli).2.1⟩⟩
        | exact end2 rfl rfl rfl ⟨_, _, [], _, rfl, hs, ⟨_, _, _, rfl⟩, .inr ⟨by simp, fun h => absurd (((labsP_iff ls).1 h).2.1 i x hli).2.2 ‹_›⟩⟩
        | exact end2 rfl rfl rfl ⟨_, _, [], _, rfl, hs, ⟨_, _, _, rfl⟩, .inr ⟨by simp, fun h => no_twice hli h hN.same hki hc81⟩⟩
end Go.Proofs.Ytmjjdcfakkaiiaa
