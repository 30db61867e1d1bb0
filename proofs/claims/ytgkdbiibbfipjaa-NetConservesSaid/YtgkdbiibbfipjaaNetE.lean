/- The example of the section holds. -/
import Derived.Test.YtgkdbiibbfipjaaNetD
set_option linter.unusedVariables false
set_option linter.unusedSimpArgs false
namespace Go.Proofs.Ytgkdbiibbfipjaa
open Go.SL
theorem lives_ok (w0 : World) : Ret Try.prog 24 [].toArray w0 fun r w' => Fwd [] w0 w' ∧ r = .bool true := by
  refine Ret_start fun w hs => ?_
  refine Ret_of Try.func24 rfl Try.ntmps24 rfl ?_
  refine W_seq ?_
  refine W_region ?_
  refine s_assign rfl rfl ?_
  refine WL_nil ?_
  refine n_then ?_
  refine W_seq ?_
  refine W_region ?_
  refine s_call Try.call25 rfl rfl (new_ok 2 w (by omega)) ?_
  rintro r w (⟨_, _, p, LN, rfl, hN, hst⟩ | ⟨h, _⟩)
  case inr => exact absurd ⟨by omega, by omega⟩ h
  replace hs : St [] w0 w (LN ++ []) := St.back0 hs hst
  replace hN : NetAt p [0, 0] [] LN := hN
  clear hst
  refine s_move rfl rfl ?_
  refine s_extract rfl rfl rfl ?_
  refine s_extract rfl rfl rfl ?_
  refine s_assign rfl rfl ?_
  refine s_assign rfl rfl ?_
  refine WL_nil ?_
  refine n_then ?_
  refine W_seq ?_
  refine W_seq ?_
  refine W_region ?_
  refine s_move rfl rfl ?_
  refine s_eql_ptr_nil Try.underlying23 rfl rfl rfl ?_
  refine s_move rfl rfl ?_
  refine WL_know (s := 16) (c := false) rfl (rfl) ?_
  refine WL_take rfl ?_
  refine s_move rfl rfl ?_
  refine WL_take rfl ?_
  refine s_neq rfl rfl rfl ?_
  refine s_pick_f rfl rfl rfl ?_
  refine WL_nil ?_
  refine n_then ?_
  refine W_cond_kf rfl (rfl) ?_
  refine W_skip ?_
  refine n_then ?_
  refine W_seq ?_
  refine W_region ?_
  refine s_move rfl rfl ?_
  refine s_buildSlice rfl rfl (BS30_1 _) hs ?_; clear hs; intro b21 w hs
  first
    | refine s_conv_mark Try.underlying30 Try.underlying5 rfl rfl hs (kk := 0) rfl ?_
    | refine s_conv_mark Try.underlying30 Try.underlying5 rfl rfl hs (kk := 1) rfl ?_
    | refine s_conv_mark Try.underlying30 Try.underlying5 rfl rfl hs (kk := 2) rfl ?_
    | refine s_conv_mark Try.underlying30 Try.underlying5 rfl rfl hs (kk := 3) rfl ?_
    | refine s_conv_mark Try.underlying30 Try.underlying5 rfl rfl hs (kk := 4) rfl ?_
    | refine s_conv_mark Try.underlying30 Try.underlying5 rfl rfl hs (kk := 5) rfl ?_
    | refine s_conv_mark Try.underlying30 Try.underlying5 rfl rfl hs (kk := 6) rfl ?_
    | refine s_conv_mark Try.underlying30 Try.underlying5 rfl rfl hs (kk := 7) rfl ?_
    | refine s_conv_mark Try.underlying30 Try.underlying5 rfl rfl hs (kk := 8) rfl ?_
    | refine s_conv_mark Try.underlying30 Try.underlying5 rfl rfl hs (kk := 9) rfl ?_
  clear hs; intro w hs; try simp only [List.set_cons_zero, List.set_cons_succ, splice, List.take_succ_cons, List.take_zero, List.drop_succ_cons, List.drop_zero, List.nil_append, List.cons_append, List.length_cons, List.length_nil, Nat.reduceAdd, List.append_assoc] at hs
  refine s_build rfl rfl (BD32_1_2 _ _ _ _) ?_
  refine s_callL (M := [_]) (L1 := LN) (X := []) Try.call12 rfl rfl hs (fun h => send_ok p [0, 0] [] 0 1 _ [97] LN w hN h (hs.sl (k := 0) rfl (Nat.le_refl _) (fun j u hj => by rw [Nat.zero_add]; exact hj)) (by simp) (fun a m c he _ => by cases he; exact hs.notin (M := [_]) (by simp [ids]))) ?_
  clear hs; rintro v w LN ⟨rfl, ms, hN, _, hms⟩ - hs
  obtain ⟨b1, rfl⟩ := hms (by decide)
  replace hs := St.right (M := [_]) hs
  refine WL_nil ?_
  refine n_then ?_
  refine W_seq ?_
  refine W_region ?_
  refine s_move rfl rfl ?_
  refine s_buildSlice rfl rfl (BS30_1 _) hs ?_; clear hs; intro b26 w hs
  first
    | refine s_conv_mark Try.underlying30 Try.underlying5 rfl rfl hs (kk := 0) rfl ?_
    | refine s_conv_mark Try.underlying30 Try.underlying5 rfl rfl hs (kk := 1) rfl ?_
    | refine s_conv_mark Try.underlying30 Try.underlying5 rfl rfl hs (kk := 2) rfl ?_
    | refine s_conv_mark Try.underlying30 Try.underlying5 rfl rfl hs (kk := 3) rfl ?_
    | refine s_conv_mark Try.underlying30 Try.underlying5 rfl rfl hs (kk := 4) rfl ?_
    | refine s_conv_mark Try.underlying30 Try.underlying5 rfl rfl hs (kk := 5) rfl ?_
    | refine s_conv_mark Try.underlying30 Try.underlying5 rfl rfl hs (kk := 6) rfl ?_
    | refine s_conv_mark Try.underlying30 Try.underlying5 rfl rfl hs (kk := 7) rfl ?_
    | refine s_conv_mark Try.underlying30 Try.underlying5 rfl rfl hs (kk := 8) rfl ?_
    | refine s_conv_mark Try.underlying30 Try.underlying5 rfl rfl hs (kk := 9) rfl ?_
  clear hs; intro w hs; try simp only [List.set_cons_zero, List.set_cons_succ, splice, List.take_succ_cons, List.take_zero, List.drop_succ_cons, List.drop_zero, List.nil_append, List.cons_append, List.length_cons, List.length_nil, Nat.reduceAdd, List.append_assoc] at hs
  refine s_build rfl rfl (BD32_0_2 _ _ _ _) ?_
  refine s_callL (M := [_]) (L1 := LN) (X := []) Try.call12 rfl rfl hs (fun h => send_ok p [0, 0] _ 1 0 _ [98] LN w hN h (hs.sl (k := 0) rfl (Nat.le_refl _) (fun j u hj => by rw [Nat.zero_add]; exact hj)) (by simp) (fun a m c he _ => by cases he; exact hs.notin (M := [_]) (by simp [ids]))) ?_
  clear hs; rintro v w LN ⟨rfl, ms, hN, _, hms⟩ - hs
  obtain ⟨b2, rfl⟩ := hms (by simp [sendE])
  replace hs := St.right (M := [_]) hs
  refine WL_nil ?_
  refine n_then ?_
  refine W_seq ?_
  refine W_region ?_
  refine s_move rfl rfl ?_
  refine s_callL (M := []) (L1 := LN) (X := []) Try.call17 rfl rfl hs (fun h => copy_yes p [0, 0] _ 0 LN w hN h (by simp) (by simp) (by simp)) ?_
  clear hs; intro v w LN h _ hs
  obtain ⟨h, _⟩ | ⟨_, rfl, m, b3, hm, hN⟩ := h
  case inl => exact absurd h (by simp)
  obtain rfl : m = ⟨0, 1, b1, [97]⟩ := by simpa using hm.symm
  clear hm
  refine s_assign rfl rfl ?_
  refine WL_nil ?_
  refine n_then ?_
  refine W_seq ?_
  refine W_region ?_
  refine s_move rfl rfl ?_
  refine s_call Try.call23 rfl rfl (len_ok p _ _ LN w hN (hs.lendM (M := []))) ?_
  rintro r w ⟨rfl, rfl⟩
  refine s_assign rfl rfl ?_
  refine WL_nil ?_
  refine n_then ?_
  refine W_seq ?_
  refine W_region ?_
  refine s_move rfl rfl ?_
  refine s_callL (M := []) (L1 := LN) (X := []) Try.call14 rfl rfl hs (fun h => take_yes p [0, 0] _ 1 LN w hN h (by simp) (by simp) _ (by simp; rfl) (by simp)) ?_
  clear hs; intro v w LN h _ hs
  obtain ⟨h, _⟩ | ⟨_, rfl, L1, rfl, hN⟩ := h
  case inl => exact absurd rfl h
  simp only [List.cons_append, List.nil_append] at hs
  simp only [Msg.cells]
  simp at hN
  refine s_move rfl rfl ?_
  refine s_extract rfl rfl rfl ?_
  refine s_extract rfl rfl rfl ?_
  refine s_alloc rfl AL32 hs ?_; clear hs; intro b5 w hs
  first
    | refine s_storeW Try.sizeOf32 rfl rfl rfl rfl hs (kk := 0) rfl rfl ?_
    | refine s_storeW Try.sizeOf32 rfl rfl rfl rfl hs (kk := 1) rfl rfl ?_
    | refine s_storeW Try.sizeOf32 rfl rfl rfl rfl hs (kk := 2) rfl rfl ?_
    | refine s_storeW Try.sizeOf32 rfl rfl rfl rfl hs (kk := 3) rfl rfl ?_
    | refine s_storeW Try.sizeOf32 rfl rfl rfl rfl hs (kk := 4) rfl rfl ?_
    | refine s_storeW Try.sizeOf32 rfl rfl rfl rfl hs (kk := 5) rfl rfl ?_
    | refine s_storeW Try.sizeOf32 rfl rfl rfl rfl hs (kk := 6) rfl rfl ?_
    | refine s_storeW Try.sizeOf32 rfl rfl rfl rfl hs (kk := 7) rfl rfl ?_
    | refine s_storeW Try.sizeOf32 rfl rfl rfl rfl hs (kk := 8) rfl rfl ?_
    | refine s_storeW Try.sizeOf32 rfl rfl rfl rfl hs (kk := 9) rfl rfl ?_
    | refine s_storeAB Try.sizeOf32 rfl rfl rfl rfl hs (kk := 0) rfl rfl ?_
    | refine s_storeAB Try.sizeOf32 rfl rfl rfl rfl hs (kk := 1) rfl rfl ?_
    | refine s_storeAB Try.sizeOf32 rfl rfl rfl rfl hs (kk := 2) rfl rfl ?_
    | refine s_storeAB Try.sizeOf32 rfl rfl rfl rfl hs (kk := 3) rfl rfl ?_
    | refine s_storeAB Try.sizeOf32 rfl rfl rfl rfl hs (kk := 4) rfl rfl ?_
    | refine s_storeAB Try.sizeOf32 rfl rfl rfl rfl hs (kk := 5) rfl rfl ?_
    | refine s_storeAB Try.sizeOf32 rfl rfl rfl rfl hs (kk := 6) rfl rfl ?_
    | refine s_storeAB Try.sizeOf32 rfl rfl rfl rfl hs (kk := 7) rfl rfl ?_
    | refine s_storeAB Try.sizeOf32 rfl rfl rfl rfl hs (kk := 8) rfl rfl ?_
    | refine s_storeAB Try.sizeOf32 rfl rfl rfl rfl hs (kk := 9) rfl rfl ?_
  clear hs; intro w hs; try simp only [List.set_cons_zero, List.set_cons_succ, splice, List.take_succ_cons, List.take_zero, List.drop_succ_cons, List.drop_zero, List.nil_append, List.cons_append, List.length_cons, List.length_nil, Nat.reduceAdd, List.append_assoc] at hs
  refine s_assign rfl rfl ?_
  refine WL_nil ?_
  refine n_then ?_
  refine W_seq ?_
  refine W_region ?_
  refine s_move rfl rfl ?_
  refine s_buildSlice rfl rfl (BS22_2 _ _) hs ?_; clear hs; intro b40 w hs
  refine s_callL (M := [_, _, _]) (L1 := L1) (X := []) Try.call21 rfl rfl hs (fun h => partition_yes p [0, 0] [0, 1] _ _ L1 w hN h (hs.sl (k := 0) rfl (Nat.le_refl _) (fun j u hj => by rw [Nat.zero_add]; exact hj)) rfl) ?_
  clear hs; rintro v w L2 ⟨rfl, hN⟩ - hs
  simp only [List.cons_append, List.nil_append] at hs
  replace hs := hs.tail
  refine WL_nil ?_
  refine n_then ?_
  refine W_seq ?_
  refine W_region ?_
  refine s_move rfl rfl ?_
  refine s_callL (M := [_, _]) (L1 := L2) (X := []) Try.call14 rfl rfl hs (fun h => take_yes p [0, 1] _ 0 L2 w hN h (by simp) (by simp) _ (by simp; rfl) (by simp)) ?_
  clear hs; intro v w L3 h _ hs
  obtain ⟨_, rfl, hN⟩ | ⟨h, _⟩ := h
  case inr => exact absurd h (by simp [grp])
  simp only [List.cons_append, List.nil_append] at hs
  refine s_move rfl rfl ?_
  refine s_extract rfl rfl rfl ?_
  refine s_extract rfl rfl rfl ?_
  refine s_alloc rfl AL32 hs ?_; clear hs; intro b7 w hs
  first
    | refine s_storeW Try.sizeOf32 rfl rfl rfl rfl hs (kk := 0) rfl rfl ?_
    | refine s_storeW Try.sizeOf32 rfl rfl rfl rfl hs (kk := 1) rfl rfl ?_
    | refine s_storeW Try.sizeOf32 rfl rfl rfl rfl hs (kk := 2) rfl rfl ?_
    | refine s_storeW Try.sizeOf32 rfl rfl rfl rfl hs (kk := 3) rfl rfl ?_
    | refine s_storeW Try.sizeOf32 rfl rfl rfl rfl hs (kk := 4) rfl rfl ?_
    | refine s_storeW Try.sizeOf32 rfl rfl rfl rfl hs (kk := 5) rfl rfl ?_
    | refine s_storeW Try.sizeOf32 rfl rfl rfl rfl hs (kk := 6) rfl rfl ?_
    | refine s_storeW Try.sizeOf32 rfl rfl rfl rfl hs (kk := 7) rfl rfl ?_
    | refine s_storeW Try.sizeOf32 rfl rfl rfl rfl hs (kk := 8) rfl rfl ?_
    | refine s_storeW Try.sizeOf32 rfl rfl rfl rfl hs (kk := 9) rfl rfl ?_
    | refine s_storeAB Try.sizeOf32 rfl rfl rfl rfl hs (kk := 0) rfl rfl ?_
    | refine s_storeAB Try.sizeOf32 rfl rfl rfl rfl hs (kk := 1) rfl rfl ?_
    | refine s_storeAB Try.sizeOf32 rfl rfl rfl rfl hs (kk := 2) rfl rfl ?_
    | refine s_storeAB Try.sizeOf32 rfl rfl rfl rfl hs (kk := 3) rfl rfl ?_
    | refine s_storeAB Try.sizeOf32 rfl rfl rfl rfl hs (kk := 4) rfl rfl ?_
    | refine s_storeAB Try.sizeOf32 rfl rfl rfl rfl hs (kk := 5) rfl rfl ?_
    | refine s_storeAB Try.sizeOf32 rfl rfl rfl rfl hs (kk := 6) rfl rfl ?_
    | refine s_storeAB Try.sizeOf32 rfl rfl rfl rfl hs (kk := 7) rfl rfl ?_
    | refine s_storeAB Try.sizeOf32 rfl rfl rfl rfl hs (kk := 8) rfl rfl ?_
    | refine s_storeAB Try.sizeOf32 rfl rfl rfl rfl hs (kk := 9) rfl rfl ?_
  clear hs; intro w hs; try simp only [List.set_cons_zero, List.set_cons_succ, splice, List.take_succ_cons, List.take_zero, List.drop_succ_cons, List.drop_zero, List.nil_append, List.cons_append, List.length_cons, List.length_nil, Nat.reduceAdd, List.append_assoc] at hs
  refine s_assign rfl rfl ?_
  refine WL_nil ?_
  refine n_then ?_
  refine W_seq ?_
  refine W_region ?_
  refine s_move rfl rfl ?_
  refine s_callL (M := [_, _, _]) (L1 := L3) (X := []) Try.call19 rfl rfl hs (fun h => drop_yes p [0, 1] _ 0 L3 w hN h (by simp) (by simp)) ?_
  clear hs; rintro v w L4 ⟨rfl, hN⟩ - hs
  simp only [List.cons_append, List.nil_append] at hs
  simp at hN
  refine s_assign rfl rfl ?_
  refine WL_nil ?_
  refine n_then ?_
  refine W_seq ?_
  refine W_region ?_
  refine s_move rfl rfl ?_
  refine s_eql rfl rfl rfl ?_
  refine s_move rfl rfl ?_
  refine WL_know (s := 51) (c := true) rfl ((by first | rfl | simp)) ?_
  refine WL_take rfl ?_
  refine s_move rfl rfl ?_
  refine WL_take rfl ?_
  refine s_eql rfl rfl rfl ?_
  refine s_pick_t rfl rfl rfl ?_
  refine s_move rfl rfl ?_
  refine WL_know (s := 55) (c := true) rfl ((by first | rfl | simp)) ?_
  refine WL_take rfl ?_
  refine s_move rfl rfl ?_
  refine WL_take rfl ?_
  refine s_eql rfl rfl rfl ?_
  refine s_pick_t rfl rfl rfl ?_
  refine s_move rfl rfl ?_
  refine WL_know (s := 59) (c := true) rfl ((by first | rfl | simp)) ?_
  refine WL_take rfl ?_
  refine s_fieldAddr rfl rfl (FA32_2 _ _) ?_
  refine WL_take rfl ?_
  first
    | refine s_load Try.isAgg30 rfl rfl (hs.cell (k := 0) rfl rfl) ?_
    | refine s_load Try.isAgg30 rfl rfl (hs.cell (k := 1) rfl rfl) ?_
    | refine s_load Try.isAgg30 rfl rfl (hs.cell (k := 2) rfl rfl) ?_
    | refine s_load Try.isAgg30 rfl rfl (hs.cell (k := 3) rfl rfl) ?_
    | refine s_load Try.isAgg30 rfl rfl (hs.cell (k := 4) rfl rfl) ?_
    | refine s_load Try.isAgg30 rfl rfl (hs.cell (k := 5) rfl rfl) ?_
    | refine s_load Try.isAgg30 rfl rfl (hs.cell (k := 6) rfl rfl) ?_
    | refine s_load Try.isAgg30 rfl rfl (hs.cell (k := 7) rfl rfl) ?_
    | refine s_load Try.isAgg30 rfl rfl (hs.cell (k := 8) rfl rfl) ?_
    | refine s_load Try.isAgg30 rfl rfl (hs.cell (k := 9) rfl rfl) ?_
  refine WL_take rfl ?_
  refine s_bytes_str (bs := [98]) Try.underlying30 Try.underlying5 Try.underlying9 rfl rfl (hs.sl (k := 2) (cs := u8s [98]) (fz := (0, 0)) rfl (Nat.le_refl _) (fun j u hj => by rw [Nat.zero_add]; exact hj)) rfl ?_
  refine WL_take rfl ?_
  refine s_eql_str rfl rfl rfl ?_
  refine s_pick_t rfl rfl rfl ?_
  refine s_move rfl rfl ?_
  refine WL_know (s := 65) (c := true) rfl ((by kernel_rfl)) ?_
  refine WL_take rfl ?_
  refine s_fieldAddr rfl rfl (FA32_0 _ _) ?_
  refine WL_take rfl ?_
  first
    | refine s_load Try.isAgg3 rfl rfl (hs.cell (k := 0) rfl rfl) ?_
    | refine s_load Try.isAgg3 rfl rfl (hs.cell (k := 1) rfl rfl) ?_
    | refine s_load Try.isAgg3 rfl rfl (hs.cell (k := 2) rfl rfl) ?_
    | refine s_load Try.isAgg3 rfl rfl (hs.cell (k := 3) rfl rfl) ?_
    | refine s_load Try.isAgg3 rfl rfl (hs.cell (k := 4) rfl rfl) ?_
    | refine s_load Try.isAgg3 rfl rfl (hs.cell (k := 5) rfl rfl) ?_
    | refine s_load Try.isAgg3 rfl rfl (hs.cell (k := 6) rfl rfl) ?_
    | refine s_load Try.isAgg3 rfl rfl (hs.cell (k := 7) rfl rfl) ?_
    | refine s_load Try.isAgg3 rfl rfl (hs.cell (k := 8) rfl rfl) ?_
    | refine s_load Try.isAgg3 rfl rfl (hs.cell (k := 9) rfl rfl) ?_
  refine WL_take rfl ?_
  refine s_eql rfl rfl rfl ?_
  refine s_pick_t rfl rfl rfl ?_
  refine s_move rfl rfl ?_
  refine WL_know (s := 70) (c := true) rfl ((by first | rfl | simp)) ?_
  refine WL_take rfl ?_
  refine s_fieldAddr rfl rfl (FA32_1 _ _) ?_
  refine WL_take rfl ?_
  first
    | refine s_load Try.isAgg3 rfl rfl (hs.cell (k := 0) rfl rfl) ?_
    | refine s_load Try.isAgg3 rfl rfl (hs.cell (k := 1) rfl rfl) ?_
    | refine s_load Try.isAgg3 rfl rfl (hs.cell (k := 2) rfl rfl) ?_
    | refine s_load Try.isAgg3 rfl rfl (hs.cell (k := 3) rfl rfl) ?_
    | refine s_load Try.isAgg3 rfl rfl (hs.cell (k := 4) rfl rfl) ?_
    | refine s_load Try.isAgg3 rfl rfl (hs.cell (k := 5) rfl rfl) ?_
    | refine s_load Try.isAgg3 rfl rfl (hs.cell (k := 6) rfl rfl) ?_
    | refine s_load Try.isAgg3 rfl rfl (hs.cell (k := 7) rfl rfl) ?_
    | refine s_load Try.isAgg3 rfl rfl (hs.cell (k := 8) rfl rfl) ?_
    | refine s_load Try.isAgg3 rfl rfl (hs.cell (k := 9) rfl rfl) ?_
  refine WL_take rfl ?_
  refine s_eql rfl rfl rfl ?_
  refine s_pick_t rfl rfl rfl ?_
  refine s_move rfl rfl ?_
  refine WL_know (s := 75) (c := true) rfl ((by first | rfl | simp)) ?_
  refine WL_take rfl ?_
  refine s_move rfl rfl ?_
  refine WL_take rfl ?_
  refine s_eql rfl rfl rfl ?_
  refine s_pick_t rfl rfl rfl ?_
  refine s_move rfl rfl ?_
  refine WL_know (s := 79) (c := true) rfl ((by first | rfl | simp)) ?_
  refine WL_take rfl ?_
  refine s_move rfl rfl ?_
  refine WL_take rfl ?_
  refine s_eql rfl rfl rfl ?_
  refine s_pick_t rfl rfl rfl ?_
  refine s_move rfl rfl ?_
  refine WL_know (s := 83) (c := true) rfl ((by first | rfl | simp)) ?_
  refine WL_take rfl ?_
  refine s_move rfl rfl ?_
  refine WL_take rfl ?_
  refine s_call Try.call23 rfl rfl (len_ok p _ _ L4 w hN (hs.lendM (M := [_, _, _]))) ?_
  rintro r w ⟨rfl, rfl⟩
  refine WL_take rfl ?_
  refine s_eql rfl rfl rfl ?_
  refine s_pick_t rfl rfl rfl ?_
  refine s_assign rfl rfl ?_
  refine WL_nil ?_
  refine n_then ?_
  refine W_ret ?_
  exact end1 rfl rfl ⟨hs.fwd, rfl⟩
end Go.Proofs.Ytgkdbiibbfipjaa
