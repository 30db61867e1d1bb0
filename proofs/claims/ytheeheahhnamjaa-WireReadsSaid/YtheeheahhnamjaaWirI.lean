/- Contracts of the reference model's reader: all methods. -/
import Derived.Test.YtheeheahhnamjaaWirH
set_option linter.unusedVariables false
set_option linter.unusedSimpArgs false
namespace Go.Proofs.Ytheeheahhnamjaa
open Go.SL
/-- what a caller of the model's reader owes and gets -/
theorem RfAt_of {q : Nat} {s : RS} {Ls L : Hp} {P : Option Addr → Prop} (h : ∃ a n c, L = [(q, Blk 44 [.slice a n c, .int .i64 s.e])] ∧ RfOk s a n c Ls ∧ P a) : RfAt q s Ls L := by
  obtain ⟨a, n, c, h1, h2, _⟩ := h; exact ⟨a, n, c, h1, h2⟩
theorem src_kept {q : Nat} {Ls L0 L : Hp} {w0 w : World} (hF : ids L0 = [q]) (hsrc : ∀ p ∈ Ls, w0.heap[p.1]? = some p.2) (hq : q ∉ ids Ls) (h : St (ids L0) w0 w L) : ∀ p ∈ Ls, w.heap[p.1]? = some p.2 := fun p hp =>
  (h.old (Array.getElem?_eq_some_iff.1 (hsrc p hp)).1 (by rw [hF]; intro h1; simp at h1; exact hq (h1 ▸ mem_ids_of hp))).trans (hsrc p hp)
theorem src_fwd {q : Nat} {Ls : Hp} {w0 w : World} (hsrc : ∀ p ∈ Ls, w0.heap[p.1]? = some p.2) (hq : q ∉ ids Ls) (h : Fwd [q] w0 w) : ∀ p ∈ Ls, w.heap[p.1]? = some p.2 := fun p hp =>
  (h.block p.1 (Array.getElem?_eq_some_iff.1 (hsrc p hp)).1 (by intro h1; simp at h1; exact hq (h1 ▸ mem_ids_of hp))).trans (hsrc p hp)
theorem RfAt.ids {q : Nat} {s : RS} {Ls L : Hp} (h : RfAt q s Ls L) : ids L = [q] := by obtain ⟨a, n, c, rfl, _⟩ := h; rfl
theorem fRInt_ok (q : Nat) (s : RS) (Ls L0 : Hp) (w0 : World) (hR : RfAt q s Ls L0) (hs : St (ids L0) w0 w0 L0) (hsrc : ∀ p ∈ Ls, w0.heap[p.1]? = some p.2) (hq : q ∉ ids Ls) :
    Ret Try.prog 50 [.pointer (some ⟨q, 0, none⟩)].toArray w0 fun r w' => ∃ L', St (ids L0) w0 w' L' ∧ RfAt q (rdI s).2 Ls L' ∧ r = .int .i64 (rdI s).1 := by
  refine Ret_startL hs fun w hs => ?_
  have hb : s.e = 0 → ∀ b ∈ s.rest, isB b := by obtain ⟨_, _, _, _, h⟩ := hR; exact h.b
  have hm := rdU_lt hb
  refine Ret_of Try.func50 rfl Try.ntmps50 rfl ?_
  refine W_seq ?_
  refine W_region ?_
  refine s_assign rfl rfl ?_
  refine WL_nil ?_
  refine n_then ?_
  refine W_seq ?_
  refine W_region ?_
  refine s_move rfl rfl ?_
  refine s_callL (M := []) (L1 := L0) (X := []) Try.call49 rfl rfl (by simpa using hs) (fun h => fRUint_ok q s Ls L0 w hR h (src_kept hR.ids hsrc hq hs) hq) ?_
  clear hs; rintro v w L2 ⟨hR2, rfl⟩ - hs
  simp only [List.nil_append, List.append_nil] at hs
  refine s_call Try.call60 rfl rfl (fBack_ok _ w hm) ?_
  rintro r w ⟨rfl, rfl⟩
  refine s_assign rfl rfl ?_
  refine WL_nil ?_
  refine n_then ?_
  refine W_ret ?_
  exact end1 rfl rfl ⟨_, hs, RfAt_of hR2, rfl⟩
theorem fREnd_ok (q : Nat) (s : RS) (Ls L0 : Hp) (w0 : World) (hR : RfAt q s Ls L0) (hs : St (ids L0) w0 w0 L0) :
    Ret Try.prog 26 [.pointer (some ⟨q, 0, none⟩)].toArray w0 fun r w' => ∃ L', St (ids L0) w0 w' L' ∧ L' = L0 ∧ r = .int .i64 (rdEnd s) := by
  obtain ⟨a, n, c, hL, hok⟩ := hR
  replace hs : St (ids L0) w0 w0 [(q, Blk 44 [.slice a n c, .int .i64 s.e])] := by rw [hL] at hs ⊢; exact hs
  refine Ret_startL hs fun w hs => ?_
  refine Ret_of Try.func26 rfl Try.ntmps26 rfl ?_
  refine W_seq ?_
  refine W_region ?_
  refine s_assign rfl rfl ?_
  refine WL_nil ?_
  refine n_then ?_
  refine W_seq ?_
  refine W_seq ?_
  refine W_region ?_
  refine s_move rfl rfl ?_
  refine s_nilCheck rfl rfl ?_
  refine s_fieldAddr rfl rfl (FA44_1 _ _) ?_
  first
    | refine s_load Try.isAgg42 rfl rfl (hs.cell (k := 0) rfl rfl) ?_
    | refine s_load Try.isAgg42 rfl rfl (hs.cell (k := 1) rfl rfl) ?_
  refine s_eql rfl rfl rfl ?_
  refine s_move rfl rfl ?_
  refine WL_case (s := 8) rfl (fun hg8 => ?_) (fun hg8 => ?_)
  · skip
    simp only [decide_eq_true_eq, decide_eq_false_iff_not, beq_iff_eq, beq_eq_false_iff_ne, ne_eq] at hg8
    refine WL_take rfl ?_
    refine s_move rfl rfl ?_
    refine WL_take rfl ?_
    refine s_nilCheck rfl rfl ?_
    refine WL_take rfl ?_
    refine s_fieldAddr rfl rfl (FA44_0 _ _) ?_
    refine WL_take rfl ?_
    first
      | refine s_load Try.isAgg24 rfl rfl (hs.cell (k := 0) rfl rfl) ?_
      | refine s_load Try.isAgg24 rfl rfl (hs.cell (k := 1) rfl rfl) ?_
    refine WL_take rfl ?_
    refine s_len rfl rfl (LN24 _ _ _ _) ?_
    refine WL_take rfl ?_
    refine s_gtr rfl rfl rfl ?_
    refine s_pick_t rfl rfl rfl ?_
    refine WL_nil ?_
    refine n_then ?_
    refine W_cond rfl (fun hc15 => ?_) (fun hc15 => ?_)
    · skip
      simp only [decide_eq_true_eq, decide_eq_false_iff_not, beq_iff_eq, beq_eq_false_iff_ne, ne_eq] at hc15
      refine W_seq ?_
      refine W_region ?_
      refine s_assign rfl rfl ?_
      refine WL_nil ?_
      refine n_then ?_
      refine W_ret ?_
      refine r_then ?_
      refine end1 rfl rfl ⟨_, hs, hL.symm, congrArg (Value.int .i64) ?_⟩
      first
        | (rw [rdEnd, if_pos ‹_›]; done)
        | (have h0 : s.e = 0 := ‹_›
           have hl := hok.len h0
           rw [rdEnd, if_neg (by simpa using h0), if_neg (by intro h9; rw [h9] at hl; simp at hl; omega)]; done)
        | (have h0 : s.e = 0 := ‹_›
           have hl := hok.len h0
           rw [rdEnd, if_neg (by simpa using h0), if_pos (List.eq_nil_of_length_eq_zero (by omega)), h0]; done)
    · skip
      simp only [decide_eq_true_eq, decide_eq_false_iff_not, beq_iff_eq, beq_eq_false_iff_ne, ne_eq] at hc15
      refine W_skip ?_
      refine n_then ?_
      refine W_seq ?_
      refine W_region ?_
      refine s_move rfl rfl ?_
      refine s_nilCheck rfl rfl ?_
      refine s_fieldAddr rfl rfl (FA44_1 _ _) ?_
      first
        | refine s_load Try.isAgg42 rfl rfl (hs.cell (k := 0) rfl rfl) ?_
        | refine s_load Try.isAgg42 rfl rfl (hs.cell (k := 1) rfl rfl) ?_
      refine s_assign rfl rfl ?_
      refine WL_nil ?_
      refine n_then ?_
      refine W_ret ?_
      refine end1 rfl rfl ⟨_, hs, hL.symm, congrArg (Value.int .i64) ?_⟩
      first
        | (rw [rdEnd, if_pos ‹_›]; done)
        | (have h0 : s.e = 0 := ‹_›
           have hl := hok.len h0
           rw [rdEnd, if_neg (by simpa using h0), if_neg (by intro h9; rw [h9] at hl; simp at hl; omega)]; done)
        | (have h0 : s.e = 0 := ‹_›
           have hl := hok.len h0
           rw [rdEnd, if_neg (by simpa using h0), if_pos (List.eq_nil_of_length_eq_zero (by omega)), h0]; done)
  · skip
    simp only [decide_eq_true_eq, decide_eq_false_iff_not, beq_iff_eq, beq_eq_false_iff_ne, ne_eq] at hg8
    refine WL_skip rfl rfl rfl ?_
    refine WL_skip rfl rfl rfl ?_
    refine WL_skip rfl rfl rfl ?_
    refine WL_skip rfl rfl rfl ?_
    refine WL_skip rfl rfl rfl ?_
    refine WL_skip rfl rfl rfl ?_
    refine s_pick_f rfl rfl rfl ?_
    refine WL_nil ?_
    refine n_then ?_
    refine W_cond_f rfl ?_
    refine W_skip ?_
    refine n_then ?_
    refine W_seq ?_
    refine W_region ?_
    refine s_move rfl rfl ?_
    refine s_nilCheck rfl rfl ?_
    refine s_fieldAddr rfl rfl (FA44_1 _ _) ?_
    first
      | refine s_load Try.isAgg42 rfl rfl (hs.cell (k := 0) rfl rfl) ?_
      | refine s_load Try.isAgg42 rfl rfl (hs.cell (k := 1) rfl rfl) ?_
    refine s_assign rfl rfl ?_
    refine WL_nil ?_
    refine n_then ?_
    refine W_ret ?_
    refine end1 rfl rfl ⟨_, hs, hL.symm, congrArg (Value.int .i64) ?_⟩
    first
      | (rw [rdEnd, if_pos ‹_›]; done)
      | (have h0 : s.e = 0 := ‹_›
         have hl := hok.len h0
         rw [rdEnd, if_neg (by simpa using h0), if_neg (by intro h9; rw [h9] at hl; simp at hl; omega)]; done)
      | (have h0 : s.e = 0 := ‹_›
         have hl := hok.len h0
         rw [rdEnd, if_neg (by simpa using h0), if_pos (List.eq_nil_of_length_eq_zero (by omega)), h0]; done)
set_option maxHeartbeats 2000000 in
theorem fRBool_ok (q : Nat) (s : RS) (Ls L0 : Hp) (w0 : World) (hR : RfAt q s Ls L0) (hs : St (ids L0) w0 w0 L0) (hsrc : ∀ p ∈ Ls, w0.heap[p.1]? = some p.2) (hq : q ∉ ids Ls) :
    Ret Try.prog 51 [.pointer (some ⟨q, 0, none⟩)].toArray w0 fun r w' => ∃ L', St (ids L0) w0 w' L' ∧ RfAt q (rdB s).2 Ls L' ∧ r = .bool (rdB s).1 := by
  have hids := hR.ids
  obtain ⟨a, n, c, hL, hok⟩ := hR
  replace hs : St (ids L0) w0 w0 [(q, Blk 44 [.slice a n c, .int .i64 s.e])] := by rw [hL] at hs ⊢; exact hs
  refine Ret_startL hs fun w hs => ?_
  rcases Decidable.em (s.e = 0) with hs0 | hs0
  case inr =>
    have hO1 : rdO s = (0, s) := by rw [rdO, if_pos hs0]
    have h1 : rdB s = (false, s) := by rw [rdB, hO1]; simp
    rw [h1]
    refine Ret_of Try.func51 rfl Try.ntmps51 rfl ?_
    refine W_seq ?_
    refine W_region ?_
    refine s_assign rfl rfl ?_
    refine WL_nil ?_
    refine n_then ?_
    refine W_seq ?_
    refine W_seq ?_
    refine W_region ?_
    refine s_move rfl rfl ?_
    refine s_nilCheck rfl rfl ?_
    refine s_fieldAddr rfl rfl (FA44_1 _ _) ?_
    first
      | refine s_load Try.isAgg42 rfl rfl (hs.cell (k := 0) rfl rfl) ?_
      | refine s_load Try.isAgg42 rfl rfl (hs.cell (k := 1) rfl rfl) ?_
    refine s_eql rfl rfl rfl ?_
    refine s_move rfl rfl ?_
    refine WL_know (s := 9) (c := false) rfl ((by simpa using hs0)) ?_
    refine WL_skip rfl rfl rfl ?_
    refine WL_skip rfl rfl rfl ?_
    refine WL_skip rfl rfl rfl ?_
    refine WL_skip rfl rfl rfl ?_
    refine WL_skip rfl rfl rfl ?_
    refine WL_skip rfl rfl rfl ?_
    refine s_pick_f rfl rfl rfl ?_
    refine WL_nil ?_
    refine n_then ?_
    refine W_cond_f rfl ?_
    refine W_skip ?_
    refine n_then ?_
    refine W_seq ?_
    refine W_seq ?_
    refine W_region ?_
    refine s_move rfl rfl ?_
    refine s_nilCheck rfl rfl ?_
    refine s_fieldAddr rfl rfl (FA44_1 _ _) ?_
    first
      | refine s_load Try.isAgg42 rfl rfl (hs.cell (k := 0) rfl rfl) ?_
      | refine s_load Try.isAgg42 rfl rfl (hs.cell (k := 1) rfl rfl) ?_
    refine s_eql rfl rfl rfl ?_
    refine s_move rfl rfl ?_
    refine WL_know (s := 25) (c := false) rfl ((by simpa using hs0)) ?_
    refine WL_skip rfl rfl rfl ?_
    refine WL_skip rfl rfl rfl ?_
    refine WL_skip rfl rfl rfl ?_
    refine WL_skip rfl rfl rfl ?_
    refine WL_skip rfl rfl rfl ?_
    refine WL_skip rfl rfl rfl ?_
    refine WL_skip rfl rfl rfl ?_
    refine s_pick_f rfl rfl rfl ?_
    refine WL_nil ?_
    refine n_then ?_
    refine W_cond_f rfl ?_
    refine W_skip ?_
    refine n_then ?_
    refine W_seq ?_
    refine W_seq ?_
    refine W_region ?_
    refine s_move rfl rfl ?_
    refine s_nilCheck rfl rfl ?_
    refine s_fieldAddr rfl rfl (FA44_1 _ _) ?_
    first
      | refine s_load Try.isAgg42 rfl rfl (hs.cell (k := 0) rfl rfl) ?_
      | refine s_load Try.isAgg42 rfl rfl (hs.cell (k := 1) rfl rfl) ?_
    refine s_neq rfl rfl rfl ?_
    refine WL_nil ?_
    refine n_then ?_
    refine W_cond_kt rfl ((by simpa using hs0)) ?_
    refine W_seq ?_
    refine W_region ?_
    refine s_assign rfl rfl ?_
    refine WL_nil ?_
    refine n_then ?_
    refine W_ret ?_
    refine r_then ?_
    exact end1 rfl rfl ⟨_, hs, ⟨a, n, c, rfl, hok⟩, rfl⟩
  case inl =>
    have hn := hok.len hs0
    rcases Nat.eq_zero_or_pos n with hz | hp
    · have hre : s.rest = [] := List.eq_nil_of_length_eq_zero (by omega)
      have hO1 : rdO s = (0, ⟨[], 3⟩) := by rw [rdO, if_neg (by simpa using hs0), hre]
      have h1 : rdB s = (false, ⟨[], 3⟩) := by rw [rdB, hO1]; simp
      rw [h1]
      rw [hs0] at hs
      refine Ret_of Try.func51 rfl Try.ntmps51 rfl ?_
      refine W_seq ?_
      refine W_region ?_
      refine s_assign rfl rfl ?_
      refine WL_nil ?_
      refine n_then ?_
      refine W_seq ?_
      refine W_seq ?_
      refine W_region ?_
      refine s_move rfl rfl ?_
      refine s_nilCheck rfl rfl ?_
      refine s_fieldAddr rfl rfl (FA44_1 _ _) ?_
      first
        | refine s_load Try.isAgg42 rfl rfl (hs.cell (k := 0) rfl rfl) ?_
        | refine s_load Try.isAgg42 rfl rfl (hs.cell (k := 1) rfl rfl) ?_
      refine s_eql rfl rfl rfl ?_
      refine s_move rfl rfl ?_
      refine WL_know (s := 9) (c := true) rfl (rfl) ?_
      refine WL_take rfl ?_
      refine s_move rfl rfl ?_
      refine WL_take rfl ?_
      refine s_nilCheck rfl rfl ?_
      refine WL_take rfl ?_
      refine s_fieldAddr rfl rfl (FA44_0 _ _) ?_
      refine WL_take rfl ?_
      first
        | refine s_load Try.isAgg24 rfl rfl (hs.cell (k := 0) rfl rfl) ?_
        | refine s_load Try.isAgg24 rfl rfl (hs.cell (k := 1) rfl rfl) ?_
      refine WL_take rfl ?_
      refine s_len rfl rfl (LN24 _ _ _ _) ?_
      refine WL_take rfl ?_
      refine s_eql rfl rfl rfl ?_
      refine s_pick_t rfl rfl rfl ?_
      refine WL_nil ?_
      refine n_then ?_
      refine W_cond_kt rfl ((by simp [hz])) ?_
      refine W_region ?_
      refine s_move rfl rfl ?_
      refine s_nilCheck rfl rfl ?_
      refine s_fieldAddr rfl rfl (FA44_1 _ _) ?_
      first
        | refine s_storeB Try.sizeOf42 rfl rfl rfl hs (kk := 0) rfl rfl ?_
        | refine s_storeB Try.sizeOf42 rfl rfl rfl hs (kk := 1) rfl rfl ?_
      clear hs; intro w hs; try simp only [List.set_cons_zero, List.set_cons_succ, splice, List.take_succ_cons, List.take_zero, List.drop_succ_cons, List.drop_zero, List.nil_append, List.cons_append, List.length_cons, List.length_nil, Nat.reduceAdd, List.append_assoc] at hs
      refine WL_nil ?_
      refine n_then ?_
      refine W_seq ?_
      refine W_seq ?_
      refine W_region ?_
      refine s_move rfl rfl ?_
      refine s_nilCheck rfl rfl ?_
      refine s_fieldAddr rfl rfl (FA44_1 _ _) ?_
      first
        | refine s_load Try.isAgg42 rfl rfl (hs.cell (k := 0) rfl rfl) ?_
        | refine s_load Try.isAgg42 rfl rfl (hs.cell (k := 1) rfl rfl) ?_
      refine s_eql rfl rfl rfl ?_
      refine s_move rfl rfl ?_
      refine WL_know (s := 25) (c := false) rfl (rfl) ?_
      refine WL_skip rfl rfl rfl ?_
      refine WL_skip rfl rfl rfl ?_
      refine WL_skip rfl rfl rfl ?_
      refine WL_skip rfl rfl rfl ?_
      refine WL_skip rfl rfl rfl ?_
      refine WL_skip rfl rfl rfl ?_
      refine WL_skip rfl rfl rfl ?_
      refine s_pick_f rfl rfl rfl ?_
      refine WL_nil ?_
      refine n_then ?_
      refine W_cond_f rfl ?_
      refine W_skip ?_
      refine n_then ?_
      refine W_seq ?_
      refine W_seq ?_
      refine W_region ?_
      refine s_move rfl rfl ?_
      refine s_nilCheck rfl rfl ?_
      refine s_fieldAddr rfl rfl (FA44_1 _ _) ?_
      first
        | refine s_load Try.isAgg42 rfl rfl (hs.cell (k := 0) rfl rfl) ?_
        | refine s_load Try.isAgg42 rfl rfl (hs.cell (k := 1) rfl rfl) ?_
      refine s_neq rfl rfl rfl ?_
      refine WL_nil ?_
      refine n_then ?_
      refine W_cond_kt rfl (rfl) ?_
      refine W_seq ?_
      refine W_region ?_
      refine s_assign rfl rfl ?_
      refine WL_nil ?_
      refine n_then ?_
      refine W_ret ?_
      refine r_then ?_
      exact end1 rfl rfl ⟨_, hs, ⟨a, n, c, rfl, ⟨by simp, by simp, by simp, by simp⟩⟩, rfl⟩
    · obtain ⟨c0, r, hre⟩ : ∃ c0 r, s.rest = c0 :: r := by
        cases h : s.rest with
        | nil => rw [h] at hn; simp at hn; omega
        | cons c0 r => exact ⟨c0, r, rfl⟩
      have hcB := hok.b hs0 c0 (by rw [hre]; simp)
      unfold isB at hcB
      have hO1 : rdO s = (c0, ⟨r, 0⟩) := by rw [rdO, if_neg (by simpa using hs0), hre]
      have h1 : rdB s = if 1 < c0 then (false, ⟨[], 2⟩) else (c0 == 1, ⟨r, 0⟩) := by rw [rdB, hO1]
      obtain ⟨b1, o1, hA1, hc1⟩ := ((hok.sl hs0).sl w (src_kept hids hsrc hq hs)).at (k := 0) (u := .int .u8 c0) (by simp [hre])
      have hB1 : b1 < w0.heap.size := by
        have h2 := (hok.sl hs0).inL ⟨b1, o1, none⟩ _ _ (by rw [hA1]) (by simp [hre])
        obtain ⟨o9, ho9⟩ := mem_ids.1 h2
        exact (Array.getElem?_eq_some_iff.1 (hsrc _ ho9)).1
      have hNF : b1 ∉ ids L0 := by
        have h2 := (hok.sl hs0).inL ⟨b1, o1, none⟩ _ _ (by rw [hA1]) (by simp [hre])
        rw [hids]; intro h3; simp at h3; exact hq (h3 ▸ h2)
      have hc0 : w0.cell? ⟨b1, o1 + 0, none⟩ = some (.int .u8 c0) := (hs.oldcell hB1 hNF).symm.trans hc1
      subst hA1
      rw [h1]
      rw [hs0] at hs
      refine Ret_of Try.func51 rfl Try.ntmps51 rfl ?_
      refine W_seq ?_
      refine W_region ?_
      refine s_assign rfl rfl ?_
      refine WL_nil ?_
      refine n_then ?_
      refine W_seq ?_
      refine W_seq ?_
      refine W_region ?_
      refine s_move rfl rfl ?_
      refine s_nilCheck rfl rfl ?_
      refine s_fieldAddr rfl rfl (FA44_1 _ _) ?_
      first
        | refine s_load Try.isAgg42 rfl rfl (hs.cell (k := 0) rfl rfl) ?_
        | refine s_load Try.isAgg42 rfl rfl (hs.cell (k := 1) rfl rfl) ?_
      refine s_eql rfl rfl rfl ?_
      refine s_move rfl rfl ?_
      refine WL_know (s := 9) (c := true) rfl (rfl) ?_
      refine WL_take rfl ?_
      refine s_move rfl rfl ?_
      refine WL_take rfl ?_
      refine s_nilCheck rfl rfl ?_
      refine WL_take rfl ?_
      refine s_fieldAddr rfl rfl (FA44_0 _ _) ?_
      refine WL_take rfl ?_
      first
        | refine s_load Try.isAgg24 rfl rfl (hs.cell (k := 0) rfl rfl) ?_
        | refine s_load Try.isAgg24 rfl rfl (hs.cell (k := 1) rfl rfl) ?_
      refine WL_take rfl ?_
      refine s_len rfl rfl (LN24 _ _ _ _) ?_
      refine WL_take rfl ?_
      refine s_eql rfl rfl rfl ?_
      refine s_pick_t rfl rfl rfl ?_
      refine WL_nil ?_
      refine n_then ?_
      refine W_cond_kf rfl ((by simp; omega)) ?_
      refine W_skip ?_
      refine n_then ?_
      refine W_seq ?_
      refine W_seq ?_
      refine W_region ?_
      refine s_move rfl rfl ?_
      refine s_nilCheck rfl rfl ?_
      refine s_fieldAddr rfl rfl (FA44_1 _ _) ?_
      first
        | refine s_load Try.isAgg42 rfl rfl (hs.cell (k := 0) rfl rfl) ?_
        | refine s_load Try.isAgg42 rfl rfl (hs.cell (k := 1) rfl rfl) ?_
      refine s_eql rfl rfl rfl ?_
      refine s_move rfl rfl ?_
      refine WL_know (s := 25) (c := true) rfl (rfl) ?_
      refine WL_take rfl ?_
      refine s_move rfl rfl ?_
      refine WL_take rfl ?_
      refine s_nilCheck rfl rfl ?_
      refine WL_take rfl ?_
      refine s_fieldAddr rfl rfl (FA44_0 _ _) ?_
      refine WL_take rfl ?_
      first
        | refine s_load Try.isAgg24 rfl rfl (hs.cell (k := 0) rfl rfl) ?_
        | refine s_load Try.isAgg24 rfl rfl (hs.cell (k := 1) rfl rfl) ?_
      refine WL_take rfl ?_
      (refine s_indexAddr1 El24 rfl rfl rfl ?hx ?_; case hx => (constructor <;> omega))
      refine WL_take rfl ?_
      refine s_load Try.isAgg5 rfl rfl ((hs.oldcell (a := ⟨b1, o1 + 0, none⟩) hB1 hNF).trans hc0) ?_
      refine WL_take rfl ?_
      refine s_gtr rfl rfl rfl ?_
      refine s_pick_t rfl rfl rfl ?_
      refine WL_nil ?_
      refine n_then ?_
      refine W_cond rfl (fun hc33 => ?_) (fun hc33 => ?_)
      · skip
        simp only [decide_eq_true_eq, decide_eq_false_iff_not] at hc33
        rw [if_pos hc33]
        refine W_region ?_
        refine s_move rfl rfl ?_
        refine s_nilCheck rfl rfl ?_
        refine s_fieldAddr rfl rfl (FA44_1 _ _) ?_
        first
          | refine s_storeB Try.sizeOf42 rfl rfl rfl hs (kk := 0) rfl rfl ?_
          | refine s_storeB Try.sizeOf42 rfl rfl rfl hs (kk := 1) rfl rfl ?_
        clear hs; intro w hs; try simp only [List.set_cons_zero, List.set_cons_succ, splice, List.take_succ_cons, List.take_zero, List.drop_succ_cons, List.drop_zero, List.nil_append, List.cons_append, List.length_cons, List.length_nil, Nat.reduceAdd, List.append_assoc] at hs
        refine WL_nil ?_
        refine n_then ?_
        refine W_seq ?_
        refine W_seq ?_
        refine W_region ?_
        refine s_move rfl rfl ?_
        refine s_nilCheck rfl rfl ?_
        refine s_fieldAddr rfl rfl (FA44_1 _ _) ?_
        first
          | refine s_load Try.isAgg42 rfl rfl (hs.cell (k := 0) rfl rfl) ?_
          | refine s_load Try.isAgg42 rfl rfl (hs.cell (k := 1) rfl rfl) ?_
        refine s_neq rfl rfl rfl ?_
        refine WL_nil ?_
        refine n_then ?_
        refine W_cond rfl (fun hc41 => ?_) (fun hc41 => ?_)
        · skip
          skip
          refine W_seq ?_
          refine W_region ?_
          refine s_assign rfl rfl ?_
          refine WL_nil ?_
          refine n_then ?_
          refine W_ret ?_
          refine r_then ?_
          first
            | exact absurd hc41 (by decide)
            | exact end1 rfl rfl ⟨_, hs, ⟨_, n, c, rfl, ⟨by simp, by simp, by simp, by simp⟩⟩, rfl⟩
            | (have hrd := RdS_drop (k := 1) (hok.sl hs0) hn.symm (by omega)
               rw [hre, List.drop_one, List.tail_cons] at hrd
               refine end1 rfl rfl ⟨_, hs, ⟨some ⟨b1, if c = 1 then o1 else o1 + 1 * 1, none⟩, n - 1, c - 1, rfl, ⟨fun _ => by rw [hre] at hn; simp at hn ⊢; omega, fun _ => hrd, fun _ b hb => hok.b hs0 b (by rw [hre]; exact List.mem_cons_of_mem _ hb), fun _ => by have := hok.small hs0; rw [hre] at this; simp at this ⊢; omega⟩⟩, rfl⟩)
        · skip
          skip
          refine W_skip ?_
          refine n_then ?_
          refine W_seq ?_
          refine W_region ?_
          refine s_move rfl rfl ?_
          refine s_nilCheck rfl rfl ?_
          refine s_fieldAddr rfl rfl (FA44_0 _ _) ?_
          first
            | refine s_load Try.isAgg24 rfl rfl (hs.cell (k := 0) rfl rfl) ?_
            | refine s_load Try.isAgg24 rfl rfl (hs.cell (k := 1) rfl rfl) ?_
          (refine s_indexAddr1 El24 rfl rfl rfl ?hx ?_; case hx => (constructor <;> omega))
          refine s_load Try.isAgg5 rfl rfl ((hs.oldcell (a := ⟨b1, o1 + 0, none⟩) hB1 hNF).trans hc0) ?_
          refine s_eql rfl rfl rfl ?_
          refine s_assign rfl rfl ?_
          refine WL_nil ?_
          refine n_then ?_
          refine W_seq ?_
          refine W_region ?_
          refine s_move rfl rfl ?_
          refine s_move rfl rfl ?_
          refine s_nilCheck rfl rfl ?_
          refine s_fieldAddr rfl rfl (FA44_0 _ _) ?_
          first
            | refine s_load Try.isAgg24 rfl rfl (hs.cell (k := 0) rfl rfl) ?_
            | refine s_load Try.isAgg24 rfl rfl (hs.cell (k := 1) rfl rfl) ?_
          (refine s_slice_lo El24 rfl rfl rfl ?hx ?_; case hx => (constructor <;> omega))
          refine s_nilCheck rfl rfl ?_
          refine s_fieldAddr rfl rfl (FA44_0 _ _) ?_
          first
            | refine s_storeB Try.sizeOf24 rfl rfl rfl hs (kk := 0) rfl rfl ?_
            | refine s_storeB Try.sizeOf24 rfl rfl rfl hs (kk := 1) rfl rfl ?_
          clear hs; intro w hs; try simp only [List.set_cons_zero, List.set_cons_succ, splice, List.take_succ_cons, List.take_zero, List.drop_succ_cons, List.drop_zero, List.nil_append, List.cons_append, List.length_cons, List.length_nil, Nat.reduceAdd, List.append_assoc] at hs
          refine WL_nil ?_
          refine n_then ?_
          refine W_seq ?_
          refine W_region ?_
          refine s_move rfl rfl ?_
          refine s_assign rfl rfl ?_
          refine WL_nil ?_
          refine n_then ?_
          refine W_ret ?_
          first
            | exact absurd hc41 (by decide)
            | exact end1 rfl rfl ⟨_, hs, ⟨_, n, c, rfl, ⟨by simp, by simp, by simp, by simp⟩⟩, rfl⟩
            | (have hrd := RdS_drop (k := 1) (hok.sl hs0) hn.symm (by omega)
               rw [hre, List.drop_one, List.tail_cons] at hrd
               refine end1 rfl rfl ⟨_, hs, ⟨some ⟨b1, if c = 1 then o1 else o1 + 1 * 1, none⟩, n - 1, c - 1, rfl, ⟨fun _ => by rw [hre] at hn; simp at hn ⊢; omega, fun _ => hrd, fun _ b hb => hok.b hs0 b (by rw [hre]; exact List.mem_cons_of_mem _ hb), fun _ => by have := hok.small hs0; rw [hre] at this; simp at this ⊢; omega⟩⟩, rfl⟩)
      · skip
        simp only [decide_eq_true_eq, decide_eq_false_iff_not] at hc33
        rw [if_neg hc33]
        refine W_skip ?_
        refine n_then ?_
        refine W_seq ?_
        refine W_seq ?_
        refine W_region ?_
        refine s_move rfl rfl ?_
        refine s_nilCheck rfl rfl ?_
        refine s_fieldAddr rfl rfl (FA44_1 _ _) ?_
        first
          | refine s_load Try.isAgg42 rfl rfl (hs.cell (k := 0) rfl rfl) ?_
          | refine s_load Try.isAgg42 rfl rfl (hs.cell (k := 1) rfl rfl) ?_
        refine s_neq rfl rfl rfl ?_
        refine WL_nil ?_
        refine n_then ?_
        refine W_cond rfl (fun hc41 => ?_) (fun hc41 => ?_)
        · skip
          skip
          refine W_seq ?_
          refine W_region ?_
          refine s_assign rfl rfl ?_
          refine WL_nil ?_
          refine n_then ?_
          refine W_ret ?_
          refine r_then ?_
          first
            | exact absurd hc41 (by decide)
            | exact end1 rfl rfl ⟨_, hs, ⟨_, n, c, rfl, ⟨by simp, by simp, by simp, by simp⟩⟩, rfl⟩
            | (have hrd := RdS_drop (k := 1) (hok.sl hs0) hn.symm (by omega)
               rw [hre, List.drop_one, List.tail_cons] at hrd
               refine end1 rfl rfl ⟨_, hs, ⟨some ⟨b1, if c = 1 then o1 else o1 + 1 * 1, none⟩, n - 1, c - 1, rfl, ⟨fun _ => by rw [hre] at hn; simp at hn ⊢; omega, fun _ => hrd, fun _ b hb => hok.b hs0 b (by rw [hre]; exact List.mem_cons_of_mem _ hb), fun _ => by have := hok.small hs0; rw [hre] at this; simp at this ⊢; omega⟩⟩, rfl⟩)
        · skip
          skip
          refine W_skip ?_
          refine n_then ?_
          refine W_seq ?_
          refine W_region ?_
          refine s_move rfl rfl ?_
          refine s_nilCheck rfl rfl ?_
          refine s_fieldAddr rfl rfl (FA44_0 _ _) ?_
          first
            | refine s_load Try.isAgg24 rfl rfl (hs.cell (k := 0) rfl rfl) ?_
            | refine s_load Try.isAgg24 rfl rfl (hs.cell (k := 1) rfl rfl) ?_
          (refine s_indexAddr1 El24 rfl rfl rfl ?hx ?_; case hx => (constructor <;> omega))
          refine s_load Try.isAgg5 rfl rfl ((hs.oldcell (a := ⟨b1, o1 + 0, none⟩) hB1 hNF).trans hc0) ?_
          refine s_eql rfl rfl rfl ?_
          refine s_assign rfl rfl ?_
          refine WL_nil ?_
          refine n_then ?_
          refine W_seq ?_
          refine W_region ?_
          refine s_move rfl rfl ?_
          refine s_move rfl rfl ?_
          refine s_nilCheck rfl rfl ?_
          refine s_fieldAddr rfl rfl (FA44_0 _ _) ?_
          first
            | refine s_load Try.isAgg24 rfl rfl (hs.cell (k := 0) rfl rfl) ?_
            | refine s_load Try.isAgg24 rfl rfl (hs.cell (k := 1) rfl rfl) ?_
          (refine s_slice_lo El24 rfl rfl rfl ?hx ?_; case hx => (constructor <;> omega))
          refine s_nilCheck rfl rfl ?_
          refine s_fieldAddr rfl rfl (FA44_0 _ _) ?_
          first
            | refine s_storeB Try.sizeOf24 rfl rfl rfl hs (kk := 0) rfl rfl ?_
            | refine s_storeB Try.sizeOf24 rfl rfl rfl hs (kk := 1) rfl rfl ?_
          clear hs; intro w hs; try simp only [List.set_cons_zero, List.set_cons_succ, splice, List.take_succ_cons, List.take_zero, List.drop_succ_cons, List.drop_zero, List.nil_append, List.cons_append, List.length_cons, List.length_nil, Nat.reduceAdd, List.append_assoc] at hs
          refine WL_nil ?_
          refine n_then ?_
          refine W_seq ?_
          refine W_region ?_
          refine s_move rfl rfl ?_
          refine s_assign rfl rfl ?_
          refine WL_nil ?_
          refine n_then ?_
          refine W_ret ?_
          first
            | exact absurd hc41 (by decide)
            | exact end1 rfl rfl ⟨_, hs, ⟨_, n, c, rfl, ⟨by simp, by simp, by simp, by simp⟩⟩, rfl⟩
            | (have hrd := RdS_drop (k := 1) (hok.sl hs0) hn.symm (by omega)
               rw [hre, List.drop_one, List.tail_cons] at hrd
               refine end1 rfl rfl ⟨_, hs, ⟨some ⟨b1, if c = 1 then o1 else o1 + 1 * 1, none⟩, n - 1, c - 1, rfl, ⟨fun _ => by rw [hre] at hn; simp at hn ⊢; omega, fun _ => hrd, fun _ b hb => hok.b hs0 b (by rw [hre]; exact List.mem_cons_of_mem _ hb), fun _ => by have := hok.small hs0; rw [hre] at this; simp at this ⊢; omega⟩⟩, rfl⟩)
theorem fRLen_ok (q : Nat) (s : RS) (Ls L0 : Hp) (w0 : World) (hR : RfAt q s Ls L0) (hs : St (ids L0) w0 w0 L0) (hsrc : ∀ p ∈ Ls, w0.heap[p.1]? = some p.2) (hq : q ∉ ids Ls) :
    Ret Try.prog 61 [.pointer (some ⟨q, 0, none⟩)].toArray w0 fun r w' => ∃ L', St (ids L0) w0 w' L' ∧
      ((∃ e, e ≠ 0 ∧ RfAt q ⟨[], e⟩ Ls L' ∧ r = .int .i64 0 ∧ (((rdU s).2.e ≠ 0 ∧ (rdU s).2.e = e) ∨ ((rdU s).2.e = 0 ∧ (rdU s).2.rest.length < (rdU s).1 ∧ e = 3))) ∨
       (∃ b o n c, (rdU s).2.e = 0 ∧ ¬ (rdU s).2.rest.length < (rdU s).1 ∧ L' = [(q, Blk 44 [.slice (some ⟨b, o, none⟩) n c, .int .i64 0])] ∧ RfOk (rdU s).2 (some ⟨b, o, none⟩) n c Ls ∧ r = .int .i64 ((rdU s).1 : Int))) := by
  refine Ret_startL hs fun w hs => ?_
  have hb : s.e = 0 → ∀ b ∈ s.rest, isB b := by obtain ⟨_, _, _, _, h⟩ := hR; exact h.b
  have hm := rdU_lt hb
  refine Ret_of Try.func61 rfl Try.ntmps61 rfl ?_
  refine W_seq ?_
  refine W_region ?_
  refine s_assign rfl rfl ?_
  refine WL_nil ?_
  refine n_then ?_
  refine W_seq ?_
  refine W_region ?_
  refine s_move rfl rfl ?_
  refine s_callL (M := []) (L1 := L0) (X := []) Try.call49 rfl rfl (by simpa using hs) (fun h => fRUint_ok q s Ls L0 w hR h (src_kept hR.ids hsrc hq hs) hq) ?_
  clear hs; rintro v w L2 ⟨⟨a, n, c, rfl, hok, hsome⟩, rfl⟩ - hs
  simp only [List.nil_append, List.append_nil] at hs
  generalize (rdU s).1 = m at hm
  generalize (rdU s).2 = s1 at hok hsome hs
  refine s_assign rfl rfl ?_
  refine WL_nil ?_
  refine n_then ?_
  refine W_seq ?_
  refine W_seq ?_
  refine W_region ?_
  refine s_move rfl rfl ?_
  refine s_nilCheck rfl rfl ?_
  refine s_fieldAddr rfl rfl (FA44_1 _ _) ?_
  first
    | refine s_load Try.isAgg42 rfl rfl (hs.cell (k := 0) rfl rfl) ?_
    | refine s_load Try.isAgg42 rfl rfl (hs.cell (k := 1) rfl rfl) ?_
  refine s_eql rfl rfl rfl ?_
  refine s_move rfl rfl ?_
  refine WL_case (s := 11) rfl (fun hg11 => ?_) (fun hg11 => ?_)
  · skip
    simp only [decide_eq_true_eq, decide_eq_false_iff_not, beq_iff_eq, beq_eq_false_iff_ne, ne_eq, bne_iff_ne, bne_eq_false_iff_eq] at hg11
    refine WL_take rfl ?_
    refine s_move rfl rfl ?_
    refine WL_take rfl ?_
    refine s_move rfl rfl ?_
    refine WL_take rfl ?_
    refine s_nilCheck rfl rfl ?_
    refine WL_take rfl ?_
    refine s_fieldAddr rfl rfl (FA44_0 _ _) ?_
    refine WL_take rfl ?_
    first
      | refine s_load Try.isAgg24 rfl rfl (hs.cell (k := 0) rfl rfl) ?_
      | refine s_load Try.isAgg24 rfl rfl (hs.cell (k := 1) rfl rfl) ?_
    refine WL_take rfl ?_
    refine s_len rfl rfl (LN24 _ _ _ _) ?_
    refine WL_take rfl ?_
    refine s_convert rfl rfl (CV3_22 _) ?_
    rw [u64w (by have := hok.len ‹_›; have := hok.small ‹_›; omega)]
    refine WL_take rfl ?_
    refine s_gtr rfl rfl rfl ?_
    refine s_pick_t rfl rfl rfl ?_
    refine WL_nil ?_
    refine n_then ?_
    refine W_cond rfl (fun hc20 => ?_) (fun hc20 => ?_)
    · skip
      simp only [decide_eq_true_eq, decide_eq_false_iff_not, beq_iff_eq, beq_eq_false_iff_ne, ne_eq, bne_iff_ne, bne_eq_false_iff_eq] at hc20
      refine W_region ?_
      refine s_move rfl rfl ?_
      refine s_nilCheck rfl rfl ?_
      refine s_fieldAddr rfl rfl (FA44_1 _ _) ?_
      first
        | refine s_storeB Try.sizeOf42 rfl rfl rfl hs (kk := 0) rfl rfl ?_
        | refine s_storeB Try.sizeOf42 rfl rfl rfl hs (kk := 1) rfl rfl ?_
      clear hs; intro w hs; try simp only [List.set_cons_zero, List.set_cons_succ, splice, List.take_succ_cons, List.take_zero, List.drop_succ_cons, List.drop_zero, List.nil_append, List.cons_append, List.length_cons, List.length_nil, Nat.reduceAdd, List.append_assoc] at hs
      refine WL_nil ?_
      refine n_then ?_
      refine W_seq ?_
      refine W_seq ?_
      refine W_region ?_
      refine s_move rfl rfl ?_
      refine s_nilCheck rfl rfl ?_
      refine s_fieldAddr rfl rfl (FA44_1 _ _) ?_
      first
        | refine s_load Try.isAgg42 rfl rfl (hs.cell (k := 0) rfl rfl) ?_
        | refine s_load Try.isAgg42 rfl rfl (hs.cell (k := 1) rfl rfl) ?_
      refine s_neq rfl rfl rfl ?_
      refine WL_nil ?_
      refine n_then ?_
      refine W_cond rfl (fun hc28 => ?_) (fun hc28 => ?_)
      · skip
        skip
        refine W_seq ?_
        refine W_region ?_
        refine s_assign rfl rfl ?_
        refine WL_nil ?_
        refine n_then ?_
        refine W_ret ?_
        refine r_then ?_
        first
          | exact absurd hc28 (by decide)
          | exact absurd (show s1.e = 0 by simpa using hc28) ‹¬ s1.e = 0›
          | (have he : s1.e ≠ 0 := by simpa using hc28
             refine end1 rfl rfl ⟨_, hs, .inl ⟨s1.e, he, ⟨a, n, c, rfl, ⟨fun h => absurd h he, fun h => absurd h he, fun h => absurd h he, fun h => absurd h he⟩⟩, rfl, .inl ⟨he, rfl⟩⟩⟩)
          | (have he : s1.e = 0 := ‹_›
             have hl := hok.len he
             exact end1 rfl rfl ⟨_, hs, .inl ⟨3, by decide, ⟨a, n, c, rfl, ⟨by simp, by simp, by simp, by simp⟩⟩, rfl, .inr ⟨he, by omega, rfl⟩⟩⟩)
          | (have he : s1.e = 0 := ‹_›
             have hl := hok.len he
             obtain ⟨b, o, rfl⟩ := hsome he
             exact end1 rfl rfl ⟨_, hs, .inr ⟨b, o, n, c, he, by omega, by rw [he], hok, by rw [IntWalk.i64_in _ (by have := hok.small he; omega)]⟩⟩)
      · skip
        skip
        refine W_skip ?_
        refine n_then ?_
        refine W_seq ?_
        refine W_region ?_
        refine s_move rfl rfl ?_
        refine s_convert rfl rfl (CV22_3 _) ?_
        refine s_assign rfl rfl ?_
        refine WL_nil ?_
        refine n_then ?_
        refine W_ret ?_
        first
          | exact absurd hc28 (by decide)
          | exact absurd (show s1.e = 0 by simpa using hc28) ‹¬ s1.e = 0›
          | (have he : s1.e ≠ 0 := by simpa using hc28
             refine end1 rfl rfl ⟨_, hs, .inl ⟨s1.e, he, ⟨a, n, c, rfl, ⟨fun h => absurd h he, fun h => absurd h he, fun h => absurd h he, fun h => absurd h he⟩⟩, rfl, .inl ⟨he, rfl⟩⟩⟩)
          | (have he : s1.e = 0 := ‹_›
             have hl := hok.len he
             exact end1 rfl rfl ⟨_, hs, .inl ⟨3, by decide, ⟨a, n, c, rfl, ⟨by simp, by simp, by simp, by simp⟩⟩, rfl, .inr ⟨he, by omega, rfl⟩⟩⟩)
          | (have he : s1.e = 0 := ‹_›
             have hl := hok.len he
             obtain ⟨b, o, rfl⟩ := hsome he
             exact end1 rfl rfl ⟨_, hs, .inr ⟨b, o, n, c, he, by omega, by rw [he], hok, by rw [IntWalk.i64_in _ (by have := hok.small he; omega)]⟩⟩)
    · skip
      simp only [decide_eq_true_eq, decide_eq_false_iff_not, beq_iff_eq, beq_eq_false_iff_ne, ne_eq, bne_iff_ne, bne_eq_false_iff_eq] at hc20
      refine W_skip ?_
      refine n_then ?_
      refine W_seq ?_
      refine W_seq ?_
      refine W_region ?_
      refine s_move rfl rfl ?_
      refine s_nilCheck rfl rfl ?_
      refine s_fieldAddr rfl rfl (FA44_1 _ _) ?_
      first
        | refine s_load Try.isAgg42 rfl rfl (hs.cell (k := 0) rfl rfl) ?_
        | refine s_load Try.isAgg42 rfl rfl (hs.cell (k := 1) rfl rfl) ?_
      refine s_neq rfl rfl rfl ?_
      refine WL_nil ?_
      refine n_then ?_
      refine W_cond rfl (fun hc28 => ?_) (fun hc28 => ?_)
      · skip
        skip
        refine W_seq ?_
        refine W_region ?_
        refine s_assign rfl rfl ?_
        refine WL_nil ?_
        refine n_then ?_
        refine W_ret ?_
        refine r_then ?_
        first
          | exact absurd hc28 (by decide)
          | exact absurd (show s1.e = 0 by simpa using hc28) ‹¬ s1.e = 0›
          | (have he : s1.e ≠ 0 := by simpa using hc28
             refine end1 rfl rfl ⟨_, hs, .inl ⟨s1.e, he, ⟨a, n, c, rfl, ⟨fun h => absurd h he, fun h => absurd h he, fun h => absurd h he, fun h => absurd h he⟩⟩, rfl, .inl ⟨he, rfl⟩⟩⟩)
          | (have he : s1.e = 0 := ‹_›
             have hl := hok.len he
             exact end1 rfl rfl ⟨_, hs, .inl ⟨3, by decide, ⟨a, n, c, rfl, ⟨by simp, by simp, by simp, by simp⟩⟩, rfl, .inr ⟨he, by omega, rfl⟩⟩⟩)
          | (have he : s1.e = 0 := ‹_›
             have hl := hok.len he
             obtain ⟨b, o, rfl⟩ := hsome he
             exact end1 rfl rfl ⟨_, hs, .inr ⟨b, o, n, c, he, by omega, by rw [he], hok, by rw [IntWalk.i64_in _ (by have := hok.small he; omega)]⟩⟩)
      · skip
        skip
        refine W_skip ?_
        refine n_then ?_
        refine W_seq ?_
        refine W_region ?_
        refine s_move rfl rfl ?_
        refine s_convert rfl rfl (CV22_3 _) ?_
        refine s_assign rfl rfl ?_
        refine WL_nil ?_
        refine n_then ?_
        refine W_ret ?_
        first
          | exact absurd hc28 (by decide)
          | exact absurd (show s1.e = 0 by simpa using hc28) ‹¬ s1.e = 0›
          | (have he : s1.e ≠ 0 := by simpa using hc28
             refine end1 rfl rfl ⟨_, hs, .inl ⟨s1.e, he, ⟨a, n, c, rfl, ⟨fun h => absurd h he, fun h => absurd h he, fun h => absurd h he, fun h => absurd h he⟩⟩, rfl, .inl ⟨he, rfl⟩⟩⟩)
          | (have he : s1.e = 0 := ‹_›
             have hl := hok.len he
             exact end1 rfl rfl ⟨_, hs, .inl ⟨3, by decide, ⟨a, n, c, rfl, ⟨by simp, by simp, by simp, by simp⟩⟩, rfl, .inr ⟨he, by omega, rfl⟩⟩⟩)
          | (have he : s1.e = 0 := ‹_›
             have hl := hok.len he
             obtain ⟨b, o, rfl⟩ := hsome he
             exact end1 rfl rfl ⟨_, hs, .inr ⟨b, o, n, c, he, by omega, by rw [he], hok, by rw [IntWalk.i64_in _ (by have := hok.small he; omega)]⟩⟩)
  · skip
    simp only [decide_eq_true_eq, decide_eq_false_iff_not, beq_iff_eq, beq_eq_false_iff_ne, ne_eq, bne_iff_ne, bne_eq_false_iff_eq] at hg11
    refine WL_skip rfl rfl rfl ?_
    refine WL_skip rfl rfl rfl ?_
    refine WL_skip rfl rfl rfl ?_
    refine WL_skip rfl rfl rfl ?_
    refine WL_skip rfl rfl rfl ?_
    refine WL_skip rfl rfl rfl ?_
    refine WL_skip rfl rfl rfl ?_
    refine WL_skip rfl rfl rfl ?_
    refine s_pick_f rfl rfl rfl ?_
    refine WL_nil ?_
    refine n_then ?_
    refine W_cond_f rfl ?_
    refine W_skip ?_
    refine n_then ?_
    refine W_seq ?_
    refine W_seq ?_
    refine W_region ?_
    refine s_move rfl rfl ?_
    refine s_nilCheck rfl rfl ?_
    refine s_fieldAddr rfl rfl (FA44_1 _ _) ?_
    first
      | refine s_load Try.isAgg42 rfl rfl (hs.cell (k := 0) rfl rfl) ?_
      | refine s_load Try.isAgg42 rfl rfl (hs.cell (k := 1) rfl rfl) ?_
    refine s_neq rfl rfl rfl ?_
    refine WL_nil ?_
    refine n_then ?_
    refine W_cond rfl (fun hc28 => ?_) (fun hc28 => ?_)
    · skip
      skip
      refine W_seq ?_
      refine W_region ?_
      refine s_assign rfl rfl ?_
      refine WL_nil ?_
      refine n_then ?_
      refine W_ret ?_
      refine r_then ?_
      first
        | exact absurd hc28 (by decide)
        | exact absurd (show s1.e = 0 by simpa using hc28) ‹¬ s1.e = 0›
        | (have he : s1.e ≠ 0 := by simpa using hc28
           refine end1 rfl rfl ⟨_, hs, .inl ⟨s1.e, he, ⟨a, n, c, rfl, ⟨fun h => absurd h he, fun h => absurd h he, fun h => absurd h he, fun h => absurd h he⟩⟩, rfl, .inl ⟨he, rfl⟩⟩⟩)
        | (have he : s1.e = 0 := ‹_›
           have hl := hok.len he
           exact end1 rfl rfl ⟨_, hs, .inl ⟨3, by decide, ⟨a, n, c, rfl, ⟨by simp, by simp, by simp, by simp⟩⟩, rfl, .inr ⟨he, by omega, rfl⟩⟩⟩)
        | (have he : s1.e = 0 := ‹_›
           have hl := hok.len he
           obtain ⟨b, o, rfl⟩ := hsome he
           exact end1 rfl rfl ⟨_, hs, .inr ⟨b, o, n, c, he, by omega, by rw [he], hok, by rw [IntWalk.i64_in _ (by have := hok.small he; omega)]⟩⟩)
    · skip
      skip
      refine W_skip ?_
      refine n_then ?_
      refine W_seq ?_
      refine W_region ?_
      refine s_move rfl rfl ?_
      refine s_convert rfl rfl (CV22_3 _) ?_
      refine s_assign rfl rfl ?_
      refine WL_nil ?_
      refine n_then ?_
      refine W_ret ?_
      first
        | exact absurd hc28 (by decide)
        | exact absurd (show s1.e = 0 by simpa using hc28) ‹¬ s1.e = 0›
        | (have he : s1.e ≠ 0 := by simpa using hc28
           refine end1 rfl rfl ⟨_, hs, .inl ⟨s1.e, he, ⟨a, n, c, rfl, ⟨fun h => absurd h he, fun h => absurd h he, fun h => absurd h he, fun h => absurd h he⟩⟩, rfl, .inl ⟨he, rfl⟩⟩⟩)
        | (have he : s1.e = 0 := ‹_›
           have hl := hok.len he
           exact end1 rfl rfl ⟨_, hs, .inl ⟨3, by decide, ⟨a, n, c, rfl, ⟨by simp, by simp, by simp, by simp⟩⟩, rfl, .inr ⟨he, by omega, rfl⟩⟩⟩)
        | (have he : s1.e = 0 := ‹_›
           have hl := hok.len he
           obtain ⟨b, o, rfl⟩ := hsome he
           exact end1 rfl rfl ⟨_, hs, .inr ⟨b, o, n, c, he, by omega, by rw [he], hok, by rw [IntWalk.i64_in _ (by have := hok.small he; omega)]⟩⟩)
set_option maxHeartbeats 2000000 in
theorem fRRaw_ok (q : Nat) (s : RS) (Ls L0 : Hp) (w0 : World) (hR : RfAt q s Ls L0) (hs : St (ids L0) w0 w0 L0) (hsrc : ∀ p ∈ Ls, w0.heap[p.1]? = some p.2) (hq : q ∉ ids Ls) :
    Ret Try.prog 52 [.pointer (some ⟨q, 0, none⟩)].toArray w0 fun r w' => ∃ L', St (ids L0) w0 w' L' ∧ RfAt q (rdRaw s).2 Ls L' ∧ ∃ a c, r = .slice a (rdRaw s).1.length c ∧ RdS r (rdRaw s).1.length (u8s (rdRaw s).1) Ls := by
  refine Ret_startL hs fun w hs => ?_
  refine Ret_of Try.func52 rfl Try.ntmps52 rfl ?_
  refine W_seq ?_
  refine W_region ?_
  refine s_assign rfl rfl ?_
  refine WL_nil ?_
  refine n_then ?_
  refine W_seq ?_
  refine W_region ?_
  refine s_move rfl rfl ?_
  refine s_callL (M := []) (L1 := L0) (X := []) Try.call61 rfl rfl (by simpa using hs) (fun h => fRLen_ok q s Ls L0 w hR h (src_kept hR.ids hsrc hq hs) hq) ?_
  clear hs; intro v w L2 h _ hs
  simp only [List.nil_append, List.append_nil] at hs
  obtain ⟨e, he, ⟨a, n, c, rfl, hok⟩, rfl, hcase⟩ | ⟨b, o, n, c, he, hge, rfl, hok, rfl⟩ := h
  · skip
    refine s_assign rfl rfl ?_
    refine WL_nil ?_
    refine n_then ?_
    refine W_seq ?_
    refine W_seq ?_
    refine W_region ?_
    refine s_move rfl rfl ?_
    refine s_nilCheck rfl rfl ?_
    refine s_fieldAddr rfl rfl (FA44_1 _ _) ?_
    first
      | refine s_load Try.isAgg42 rfl rfl (hs.cell (k := 0) rfl rfl) ?_
      | refine s_load Try.isAgg42 rfl rfl (hs.cell (k := 1) rfl rfl) ?_
    refine s_neq rfl rfl rfl ?_
    refine WL_nil ?_
    refine n_then ?_
    refine W_cond_kt rfl ((by simpa using he)) ?_
    refine W_seq ?_
    refine W_region ?_
    refine s_assign rfl rfl ?_
    refine WL_nil ?_
    refine n_then ?_
    refine W_ret ?_
    refine r_then ?_
    have h0 : rdRaw s = ([], ⟨[], e⟩) ∨ rdRaw s = ([], (rdU s).2) ∧ (rdU s).2.e = e := by
      rcases hcase with ⟨h1, h2⟩ | ⟨h1, h2, rfl⟩
      · right; exact ⟨by rw [rdRaw, if_pos h1], h2⟩
      · left; rw [rdRaw, if_neg (by simpa using h1), if_pos h2]
    rcases h0 with h0 | ⟨h0, h00⟩
    · rw [h0]; exact end1 rfl rfl ⟨_, hs, ⟨a, n, c, rfl, hok⟩, none, 0, rfl, ⟨fun _ _ => ⟨none, 0, rfl, Nat.le_refl _, .inl rfl⟩, fun a m c h => by cases h⟩⟩
    · rw [h0]; exact end1 rfl rfl ⟨_, hs, ⟨a, n, c, by simp only [h00], ⟨fun h => absurd (h00.symm.trans h) he, fun h => absurd (h00.symm.trans h) he, fun h => absurd (h00.symm.trans h) he, fun h => absurd (h00.symm.trans h) he⟩⟩, none, 0, rfl, ⟨fun _ _ => ⟨none, 0, rfl, Nat.le_refl _, .inl rfl⟩, fun a m c h => by cases h⟩⟩
  · skip
    have hl := hok.len he
    have hraw : rdRaw s = ((rdU s).2.rest.take (rdU s).1, ⟨(rdU s).2.rest.drop (rdU s).1, 0⟩) := by rw [rdRaw, if_neg (by simpa using he), if_neg hge]
    generalize (rdU s).1 = m at hge hraw
    generalize (rdU s).2 = s1 at hok hge hraw he hl
    obtain ⟨_, _, h9, hnc⟩ := ((hok.sl he).sl w (src_kept hR.ids hsrc hq hs)).len_le
    cases h9
    refine s_assign rfl rfl ?_
    refine WL_nil ?_
    refine n_then ?_
    refine W_seq ?_
    refine W_seq ?_
    refine W_region ?_
    refine s_move rfl rfl ?_
    refine s_nilCheck rfl rfl ?_
    refine s_fieldAddr rfl rfl (FA44_1 _ _) ?_
    first
      | refine s_load Try.isAgg42 rfl rfl (hs.cell (k := 0) rfl rfl) ?_
      | refine s_load Try.isAgg42 rfl rfl (hs.cell (k := 1) rfl rfl) ?_
    refine s_neq rfl rfl rfl ?_
    refine WL_nil ?_
    refine n_then ?_
    refine W_cond_kf rfl (rfl) ?_
    refine W_skip ?_
    refine n_then ?_
    refine W_seq ?_
    refine W_region ?_
    refine s_move rfl rfl ?_
    refine s_nilCheck rfl rfl ?_
    refine s_fieldAddr rfl rfl (FA44_0 _ _) ?_
    first
      | refine s_load Try.isAgg24 rfl rfl (hs.cell (k := 0) rfl rfl) ?_
      | refine s_load Try.isAgg24 rfl rfl (hs.cell (k := 1) rfl rfl) ?_
    refine s_move rfl rfl ?_
    (refine s_slice_hi El24 rfl rfl rfl ?hx ?_; case hx => (constructor <;> omega))
    refine s_assign rfl rfl ?_
    refine WL_nil ?_
    refine n_then ?_
    refine W_seq ?_
    refine W_region ?_
    refine s_move rfl rfl ?_
    refine s_move rfl rfl ?_
    refine s_nilCheck rfl rfl ?_
    refine s_fieldAddr rfl rfl (FA44_0 _ _) ?_
    first
      | refine s_load Try.isAgg24 rfl rfl (hs.cell (k := 0) rfl rfl) ?_
      | refine s_load Try.isAgg24 rfl rfl (hs.cell (k := 1) rfl rfl) ?_
    refine s_move rfl rfl ?_
    (refine s_slice_lo El24 rfl rfl rfl ?hx ?_; case hx => (constructor <;> omega))
    refine s_nilCheck rfl rfl ?_
    refine s_fieldAddr rfl rfl (FA44_0 _ _) ?_
    first
      | refine s_storeB Try.sizeOf24 rfl rfl rfl hs (kk := 0) rfl rfl ?_
      | refine s_storeB Try.sizeOf24 rfl rfl rfl hs (kk := 1) rfl rfl ?_
    clear hs; intro w hs; try simp only [List.set_cons_zero, List.set_cons_succ, splice, List.take_succ_cons, List.take_zero, List.drop_succ_cons, List.drop_zero, List.nil_append, List.cons_append, List.length_cons, List.length_nil, Nat.reduceAdd, List.append_assoc] at hs
    refine WL_nil ?_
    refine n_then ?_
    refine W_seq ?_
    refine W_region ?_
    refine s_move rfl rfl ?_
    refine s_assign rfl rfl ?_
    refine WL_nil ?_
    refine n_then ?_
    refine W_ret ?_
    have htl : (s1.rest.take m).length = m := by rw [List.length_take]; omega
    rw [hraw]
    rw [Int.toNat_natCast] at hs
    have hrd := RdS_drop (k := m) (hok.sl he) hl.symm (by omega)
    refine end1 rfl rfl ⟨_, hs, ⟨some ⟨b, if c = m then o else o + m * 1, none⟩, n - m, c - m, rfl, ⟨fun _ => by simp only [List.length_drop]; omega, fun _ => hrd, fun _ b hb => hok.b he b (List.mem_of_mem_drop hb), fun _ => by have := hok.small he; simp only [List.length_drop]; omega⟩⟩, some ⟨b, o, none⟩, c, ?_, ?_⟩
    · simp only [htl, Int.toNat_natCast]
    · simp only [htl, Int.toNat_natCast]; exact RdS_take (hok.sl he) (by omega)
set_option maxHeartbeats 2000000 in
theorem fRInts_ok (q : Nat) (s : RS) (Ls L0 : Hp) (w0 : World) (hR : RfAt q s Ls L0) (hs : St (ids L0) w0 w0 L0) (hsrc : ∀ p ∈ Ls, w0.heap[p.1]? = some p.2) (hq : q ∉ ids Ls) :
    Ret Try.prog 53 [.pointer (some ⟨q, 0, none⟩)].toArray w0 fun r w' => ∃ L', St (ids L0) w0 w' L' ∧ ∃ LR Lr, L' = LR ++ Lr ∧ RfAt q (rdInts s).2 Ls LR ∧ OwnS 3 1 r (rdInts s).1.length (i64s (rdInts s).1) Lr := by
  refine Ret_startL hs fun w hs => ?_
  refine Ret_of Try.func53 rfl Try.ntmps53 rfl ?_
  refine W_seq ?_
  refine W_region ?_
  refine s_assign rfl rfl ?_
  refine WL_nil ?_
  refine n_then ?_
  refine W_seq ?_
  refine W_region ?_
  refine s_move rfl rfl ?_
  refine s_callL (M := []) (L1 := L0) (X := []) Try.call61 rfl rfl (by simpa using hs) (fun h => fRLen_ok q s Ls L0 w hR h (src_kept hR.ids hsrc hq hs) hq) ?_
  clear hs; intro v w L2 h _ hs
  simp only [List.nil_append, List.append_nil] at hs
  have hpost : ∃ (m : Nat) (s1 : RS), RfAt q s1 Ls L2 ∧ v = .int .i64 (m : Int) ∧ m ≤ 4294967296 ∧ rdInts s = rdN m s1 ∧ (s1.e ≠ 0 → m = 0) := by
    obtain ⟨e, he, hRf, rfl, hcase⟩ | ⟨b, o, n, c, he, hge, rfl, hok, rfl⟩ := h
    · rcases hcase with ⟨h1, h2⟩ | ⟨h1, h2, rfl⟩
      · refine ⟨0, (rdU s).2, ?_, rfl, by omega, by rw [rdInts, if_pos h1]; rfl, fun _ => rfl⟩
        obtain ⟨a, n, c, rfl, _⟩ := hRf
        exact ⟨a, n, c, by simp only [h2], ⟨fun h => absurd h h1, fun h => absurd h h1, fun h => absurd h h1, fun h => absurd h h1⟩⟩
      · exact ⟨0, ⟨[], 3⟩, hRf, rfl, by omega, by rw [rdInts, if_neg (by simpa using h1), if_pos h2]; rfl, fun _ => rfl⟩
    · refine ⟨(rdU s).1, (rdU s).2, ⟨some ⟨b, o, none⟩, n, c, by rw [he], hok⟩, rfl, ?_, by rw [rdInts, if_neg (by simpa using he), if_neg hge], fun h => absurd he h⟩
      have := hok.small he; omega
  clear h
  obtain ⟨m, s1, hR1, rfl, hml, hints, hm0⟩ := hpost
  refine s_assign rfl rfl ?_
  refine WL_nil ?_
  refine n_then ?_
  refine W_seq ?_
  refine W_region ?_
  refine s_assign rfl rfl ?_
  refine WL_nil ?_
  refine n_then ?_
  refine W_seq ?_
  refine W_seq ?_
  refine W_region ?_
  refine s_assign rfl rfl ?_
  refine WL_nil ?_
  refine n_then ?_
  refine W_block ?_
  refine W_loop (σ := LS) (fun u => [(0, .pointer (some ⟨q, 0, none⟩)), (3, .int .i64 (m : Int)), (4, u.v), (5, .int .i64 (u.i : Int))])
    (fun u w => St (ids L0) w0 w (u.L ++ u.Lv) ∧ RfAt q u.s Ls u.L ∧ u.i ≤ m ∧ ∃ acc, rdN m s1 = comb acc (rdN (m - u.i) u.s) ∧ OwnS 3 1 u.v u.i (i64s acc) u.Lv) (fun u => m - u.i) ⟨0, .slice none 0 0, s1, [], L2⟩ ⟨rfl, rfl, rfl, rfl, trivial⟩ ⟨by simpa using hs, hR1, Nat.zero_le _, [], by simp only [Nat.sub_zero]; rw [comb_nil], OwnS.nil _ _⟩ ?_
  clear hs hR1
  rintro ⟨i, v, u, Lv, L⟩ w ⟨hs, hR1, him, acc, hacc, hO⟩
  simp only at hs hR1 him hacc hO ⊢
  obtain ⟨a, n, c, rfl, hok⟩ := id hR1
  simp only [List.cons_append, List.nil_append] at hs
  refine W_seq ?_
  refine W_seq ?_
  refine W_region ?_
  refine s_move rfl rfl ?_
  refine s_move rfl rfl ?_
  refine s_lss rfl rfl rfl ?_
  refine s_move rfl rfl ?_
  refine WL_case (s := 11) rfl (fun hg11 => ?_) (fun hg11 => ?_)
  · skip
    try simp only [decide_eq_true_eq, decide_eq_false_iff_not, beq_iff_eq, beq_eq_false_iff_ne, ne_eq, bne_iff_ne, bne_eq_false_iff_eq] at hg11
    refine WL_take rfl ?_
    refine s_move rfl rfl ?_
    refine WL_take rfl ?_
    refine s_nilCheck rfl rfl ?_
    refine WL_take rfl ?_
    refine s_fieldAddr rfl rfl (FA44_1 _ _) ?_
    refine WL_take rfl ?_
    first
      | refine s_load Try.isAgg42 rfl rfl (hs.cell (k := 0) rfl rfl) ?_
      | refine s_load Try.isAgg42 rfl rfl (hs.cell (k := 1) rfl rfl) ?_
    refine WL_take rfl ?_
    refine s_eql rfl rfl rfl ?_
    refine s_pick_t rfl rfl rfl ?_
    refine WL_nil ?_
    refine n_then ?_
    refine W_cond rfl (fun hc17 => ?_) (fun hc17 => ?_)
    · skip
      try simp only [decide_eq_true_eq, decide_eq_false_iff_not, beq_iff_eq, beq_eq_false_iff_ne, ne_eq, bne_iff_ne, bne_eq_false_iff_eq] at hc17
      refine W_skip ?_
      refine n_then ?_
      refine W_seq ?_
      refine W_block ?_
      refine W_region ?_
      refine s_move rfl rfl ?_
      refine s_move rfl rfl ?_
      refine s_callL (M := []) (L1 := [_]) (X := Lv) Try.call50 rfl rfl hs (fun h => fRInt_ok q u Ls _ w hR1 h (src_kept hR.ids hsrc hq hs) hq) ?_
      clear hs; rintro v9 w L3 ⟨hR3, rfl⟩ - hs
      simp only [List.nil_append] at hs
      have hsu := rdN_succ (m - i - 1) u
      rw [show m - i - 1 + 1 = m - i by omega] at hsu
      rw [hsu] at hacc
      generalize (rdI u).1 = x3 at hacc
      generalize (rdI u).2 = u3 at hacc hR3
      refine s_buildSlice rfl rfl (BS33_1 _) hs ?_; clear hs; intro b23 w hs
      refine s_appendM (M := _ :: L3) (Lv := Lv) (X := []) El33 rfl rfl rfl hO (by simpa using hs) (hs.sl (k := 0) (ds := [_]) rfl (Nat.le_refl _) (by intro j u hj; rw [Nat.zero_add]; exact hj)) rfl (by simp [Value.oneCell']) (by omega) ?_
      clear hs; intro v' w Lv' hO' hs
      simp only [List.cons_append, List.append_nil] at hs
      refine s_assign rfl rfl ?_
      refine WL_nil ?_
      refine n_blk ?_
      refine n_then ?_
      refine W_region ?_
      refine s_move rfl rfl ?_
      first | (refine s_add' rfl rfl rfl ?hx ?_; case hx => (constructor <;> first | omega | (simp only; omega))) | refine s_add rfl rfl rfl ?_
      refine s_assign rfl rfl ?_
      refine WL_nil ?_
      refine n_loop ?_
      by_cases h3 : u3.e = 0
      · rw [if_neg (by simpa using h3), comb_comb] at hacc
        refine ⟨⟨i + 1, v', u3, Lv', L3⟩, ⟨rfl, rfl, rfl, rfl, trivial⟩, ⟨hs.tail, hR3, by simp only; omega, acc ++ [x3], ?_, ?_⟩, by simp only; omega⟩
        · rw [hacc]; rfl
        · simp only; rw [i64s, List.map_append]; exact hO'
      · rw [if_pos (by simpa using h3), comb, if_pos (by simpa using h3)] at hacc
        have hz : ∀ k, comb (acc ++ [x3]) (rdN k u3) = ([], u3) := by
          intro k
          have : rdN k u3 = ([], u3) := by
            cases k with
            | zero => rfl
            | succ k => rw [rdN, if_pos (by rw [rdI, rdU, if_pos h3]; exact h3), rdI, rdU, if_pos h3]
          rw [this, comb, if_pos (by simpa using h3)]
        refine ⟨⟨i + 1, v', u3, Lv', L3⟩, ⟨rfl, rfl, rfl, rfl, trivial⟩, ⟨hs.tail, hR3, by simp only; omega, acc ++ [x3], ?_, ?_⟩, by simp only; omega⟩
        · rw [hacc, hz]
        · simp only; rw [i64s, List.map_append]; exact hO'
    · skip
      try simp only [decide_eq_true_eq, decide_eq_false_iff_not, beq_iff_eq, beq_eq_false_iff_ne, ne_eq, bne_iff_ne, bne_eq_false_iff_eq] at hc17
      refine W_exit ?_
      refine x_then ?_
      refine x_then ?_
      refine exit_hit ?_
      refine n_then ?_
      refine W_seq ?_
      refine W_seq ?_
      refine W_region ?_
      refine s_move rfl rfl ?_
      refine s_nilCheck rfl rfl ?_
      refine s_fieldAddr rfl rfl (FA44_1 _ _) ?_
      first
        | refine s_load Try.isAgg42 rfl rfl (hs.cell (k := 0) rfl rfl) ?_
        | refine s_load Try.isAgg42 rfl rfl (hs.cell (k := 1) rfl rfl) ?_
      refine s_neq rfl rfl rfl ?_
      refine WL_nil ?_
      refine n_then ?_
      refine W_cond rfl (fun hc29 => ?_) (fun hc29 => ?_)
      · skip
        try simp only [decide_eq_true_eq, decide_eq_false_iff_not, beq_iff_eq, beq_eq_false_iff_ne, ne_eq, bne_iff_ne, bne_eq_false_iff_eq] at hc29
        refine W_seq ?_
        refine W_region ?_
        refine s_assign rfl rfl ?_
        refine WL_nil ?_
        refine n_then ?_
        refine W_ret ?_
        refine r_then ?_
        first
          | (have h3 : u.e ≠ 0 := ‹_›
             have hz : ∀ k, rdN k u = ([], u) := by
               intro k
               cases k with
               | zero => rfl
               | succ k => rw [rdN, if_pos (by rw [rdI, rdU, if_pos h3]; exact h3), rdI, rdU, if_pos h3]
             rw [hints, hacc, hz, comb, if_pos (by simpa using h3)]
             exact end1 rfl rfl ⟨_, St.left (L := [_]) (M := Lv) hs, _, [], by rw [List.append_nil], hR1, OwnS.nil _ _⟩)
          | (have h3 : u.e = 0 := ‹_›
             have hie : i = m := by omega
             subst hie
             have hfin : rdN i s1 = (acc, u) := by rw [hacc, Nat.sub_self, rdN, comb, if_neg (by simpa using h3)]; simp
             have hal : acc.length = i := by have := hO.1; simpa using this
             rw [hints, hfin]
             refine end1 rfl rfl ⟨_, hs, [_], Lv, rfl, hR1, ?_⟩
             simp only
             rw [hal]; exact hO)
          | exact absurd (show u.e = 0 from ‹_›) ‹¬ u.e = 0›
      · skip
        try simp only [decide_eq_true_eq, decide_eq_false_iff_not, beq_iff_eq, beq_eq_false_iff_ne, ne_eq, bne_iff_ne, bne_eq_false_iff_eq] at hc29
        refine W_skip ?_
        refine n_then ?_
        refine W_seq ?_
        refine W_region ?_
        refine s_move rfl rfl ?_
        refine s_assign rfl rfl ?_
        refine WL_nil ?_
        refine n_then ?_
        refine W_ret ?_
        first
          | (have h3 : u.e ≠ 0 := ‹_›
             have hz : ∀ k, rdN k u = ([], u) := by
               intro k
               cases k with
               | zero => rfl
               | succ k => rw [rdN, if_pos (by rw [rdI, rdU, if_pos h3]; exact h3), rdI, rdU, if_pos h3]
             rw [hints, hacc, hz, comb, if_pos (by simpa using h3)]
             exact end1 rfl rfl ⟨_, St.left (L := [_]) (M := Lv) hs, _, [], by rw [List.append_nil], hR1, OwnS.nil _ _⟩)
          | (have h3 : u.e = 0 := ‹_›
             have hie : i = m := by omega
             subst hie
             have hfin : rdN i s1 = (acc, u) := by rw [hacc, Nat.sub_self, rdN, comb, if_neg (by simpa using h3)]; simp
             have hal : acc.length = i := by have := hO.1; simpa using this
             rw [hints, hfin]
             refine end1 rfl rfl ⟨_, hs, [_], Lv, rfl, hR1, ?_⟩
             simp only
             rw [hal]; exact hO)
          | exact absurd (show u.e = 0 from ‹_›) ‹¬ u.e = 0›
  · skip
    try simp only [decide_eq_true_eq, decide_eq_false_iff_not, beq_iff_eq, beq_eq_false_iff_ne, ne_eq, bne_iff_ne, bne_eq_false_iff_eq] at hg11
    refine WL_skip rfl rfl rfl ?_
    refine WL_skip rfl rfl rfl ?_
    refine WL_skip rfl rfl rfl ?_
    refine WL_skip rfl rfl rfl ?_
    refine WL_skip rfl rfl rfl ?_
    refine s_pick_f rfl rfl rfl ?_
    refine WL_nil ?_
    refine n_then ?_
    refine W_cond_f rfl ?_
    refine W_exit ?_
    refine x_then ?_
    refine x_then ?_
    refine exit_hit ?_
    refine n_then ?_
    refine W_seq ?_
    refine W_seq ?_
    refine W_region ?_
    refine s_move rfl rfl ?_
    refine s_nilCheck rfl rfl ?_
    refine s_fieldAddr rfl rfl (FA44_1 _ _) ?_
    first
      | refine s_load Try.isAgg42 rfl rfl (hs.cell (k := 0) rfl rfl) ?_
      | refine s_load Try.isAgg42 rfl rfl (hs.cell (k := 1) rfl rfl) ?_
    refine s_neq rfl rfl rfl ?_
    refine WL_nil ?_
    refine n_then ?_
    refine W_cond rfl (fun hc29 => ?_) (fun hc29 => ?_)
    · skip
      try simp only [decide_eq_true_eq, decide_eq_false_iff_not, beq_iff_eq, beq_eq_false_iff_ne, ne_eq, bne_iff_ne, bne_eq_false_iff_eq] at hc29
      refine W_seq ?_
      refine W_region ?_
      refine s_assign rfl rfl ?_
      refine WL_nil ?_
      refine n_then ?_
      refine W_ret ?_
      refine r_then ?_
      first
        | (have h3 : u.e ≠ 0 := ‹_›
           have hz : ∀ k, rdN k u = ([], u) := by
             intro k
             cases k with
             | zero => rfl
             | succ k => rw [rdN, if_pos (by rw [rdI, rdU, if_pos h3]; exact h3), rdI, rdU, if_pos h3]
           rw [hints, hacc, hz, comb, if_pos (by simpa using h3)]
           exact end1 rfl rfl ⟨_, St.left (L := [_]) (M := Lv) hs, _, [], by rw [List.append_nil], hR1, OwnS.nil _ _⟩)
        | (have h3 : u.e = 0 := ‹_›
           have hie : i = m := by omega
           subst hie
           have hfin : rdN i s1 = (acc, u) := by rw [hacc, Nat.sub_self, rdN, comb, if_neg (by simpa using h3)]; simp
           have hal : acc.length = i := by have := hO.1; simpa using this
           rw [hints, hfin]
           refine end1 rfl rfl ⟨_, hs, [_], Lv, rfl, hR1, ?_⟩
           simp only
           rw [hal]; exact hO)
        | exact absurd (show u.e = 0 from ‹_›) ‹¬ u.e = 0›
    · skip
      try simp only [decide_eq_true_eq, decide_eq_false_iff_not, beq_iff_eq, beq_eq_false_iff_ne, ne_eq, bne_iff_ne, bne_eq_false_iff_eq] at hc29
      refine W_skip ?_
      refine n_then ?_
      refine W_seq ?_
      refine W_region ?_
      refine s_move rfl rfl ?_
      refine s_assign rfl rfl ?_
      refine WL_nil ?_
      refine n_then ?_
      refine W_ret ?_
      first
        | (have h3 : u.e ≠ 0 := ‹_›
           have hz : ∀ k, rdN k u = ([], u) := by
             intro k
             cases k with
             | zero => rfl
             | succ k => rw [rdN, if_pos (by rw [rdI, rdU, if_pos h3]; exact h3), rdI, rdU, if_pos h3]
           rw [hints, hacc, hz, comb, if_pos (by simpa using h3)]
           exact end1 rfl rfl ⟨_, St.left (L := [_]) (M := Lv) hs, _, [], by rw [List.append_nil], hR1, OwnS.nil _ _⟩)
        | (have h3 : u.e = 0 := ‹_›
           have hie : i = m := by omega
           subst hie
           have hfin : rdN i s1 = (acc, u) := by rw [hacc, Nat.sub_self, rdN, comb, if_neg (by simpa using h3)]; simp
           have hal : acc.length = i := by have := hO.1; simpa using this
           rw [hints, hfin]
           refine end1 rfl rfl ⟨_, hs, [_], Lv, rfl, hR1, ?_⟩
           simp only
           rw [hal]; exact hO)
        | exact absurd (show u.e = 0 from ‹_›) ‹¬ u.e = 0›
end Go.Proofs.Ytheeheahhnamjaa
