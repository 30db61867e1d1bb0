/- The example of the section holds. -/
import Derived.Test.YtgjjdlgbbgijgaaDoorNetD
set_option linter.unusedVariables false
set_option linter.unusedSimpArgs false
namespace Go.Proofs.YtgjjdlgbbgijgaaDoor
open Go.SL
theorem lives_ok (w0 : World) : Ret Tryd.prog 20 [].toArray w0 fun r w' => Fwd [] w0 w' ∧ r = .bool true := by
  refine Ret_start fun w hs => ?_
  refine Ret_of Tryd.func20 rfl Tryd.ntmps20 rfl ?_
  refine W_seq ?_
  refine W_region ?_
  refine s_assign rfl rfl ?_
  refine WL_nil ?_
  refine n_then ?_
  refine W_seq ?_
  refine W_region ?_
  refine s_call Tryd.call4 rfl rfl (new_ok 2 w (by omega)) ?_
  rintro r w (⟨_, _, p, LN, rfl, hN, hst⟩ | ⟨h, _⟩)
  case inr => exact absurd ⟨by omega, by omega⟩ h
  replace hs : St [] w0 w (LN ++ []) := St.back0 hs hst
  replace hN : NetAt p [0, 0] [] LN := hN
  clear hst
  refine s_move rfl rfl ?_
  refine s_extract rfl rfl rfl ?_
  refine s_extract rfl rfl rfl ?_
  refine s_assign rfl rfl ?_
  refine s_assign rfl rfl ?_
  refine WL_nil ?_
  refine n_then ?_
  refine W_seq ?_
  refine W_seq ?_
  refine W_region ?_
  refine s_move rfl rfl ?_
  refine s_eql_ptr_nil Tryd.underlying23 rfl rfl rfl ?_
  refine s_move rfl rfl ?_
  refine WL_know (s := 16) (c := false) rfl (rfl) ?_
  refine WL_take rfl ?_
  refine s_move rfl rfl ?_
  refine WL_take rfl ?_
  refine s_neq rfl rfl rfl ?_
  refine s_pick_f rfl rfl rfl ?_
  refine WL_nil ?_
  refine n_then ?_
  refine W_cond_kf rfl (rfl) ?_
  refine W_skip ?_
  refine n_then ?_
  refine W_seq ?_
  refine W_region ?_
  refine s_move rfl rfl ?_
  refine s_buildSlice rfl rfl (BS33_1 _) hs ?_; clear hs; intro b21 w hs
  first
    | refine s_conv_mark Tryd.underlying33 Tryd.underlying5 rfl rfl hs (kk := 0) rfl ?_
    | refine s_conv_mark Tryd.underlying33 Tryd.underlying5 rfl rfl hs (kk := 1) rfl ?_
    | refine s_conv_mark Tryd.underlying33 Tryd.underlying5 rfl rfl hs (kk := 2) rfl ?_
    | refine s_conv_mark Tryd.underlying33 Tryd.underlying5 rfl rfl hs (kk := 3) rfl ?_
    | refine s_conv_mark Tryd.underlying33 Tryd.underlying5 rfl rfl hs (kk := 4) rfl ?_
    | refine s_conv_mark Tryd.underlying33 Tryd.underlying5 rfl rfl hs (kk := 5) rfl ?_
    | refine s_conv_mark Tryd.underlying33 Tryd.underlying5 rfl rfl hs (kk := 6) rfl ?_
    | refine s_conv_mark Tryd.underlying33 Tryd.underlying5 rfl rfl hs (kk := 7) rfl ?_
    | refine s_conv_mark Tryd.underlying33 Tryd.underlying5 rfl rfl hs (kk := 8) rfl ?_
    | refine s_conv_mark Tryd.underlying33 Tryd.underlying5 rfl rfl hs (kk := 9) rfl ?_
  clear hs; intro w hs; try simp only [List.set_cons_zero, List.set_cons_succ, splice, List.take_succ_cons, List.take_zero, List.drop_succ_cons, List.drop_zero, List.nil_append, List.cons_append, List.length_cons, List.length_nil, Nat.reduceAdd, List.append_assoc] at hs
  refine s_build rfl rfl (BD43_1_2 _ _ _ _) ?_
  refine s_callL (M := [_]) (L1 := LN) (X := []) Tryd.call9 rfl rfl hs (fun h => send_ok p [0, 0] [] 0 1 _ [97] LN w hN h (hs.sl (k := 0) rfl (Nat.le_refl _) (fun j u hj => by rw [Nat.zero_add]; exact hj)) (by simp) (fun a m c he _ => by cases he; exact hs.notin (M := [_]) (by simp [ids]))) ?_
  clear hs; rintro v w LN ⟨rfl, ms, hN, _, hms⟩ - hs
  obtain ⟨b1, rfl⟩ := hms (by decide)
  replace hs := St.right (M := [_]) hs
  refine WL_nil ?_
  refine n_then ?_
  refine W_seq ?_
  refine W_region ?_
  refine s_move rfl rfl ?_
  refine s_buildSlice rfl rfl (BS33_1 _) hs ?_; clear hs; intro b26 w hs
  first
    | refine s_conv_mark Tryd.underlying33 Tryd.underlying5 rfl rfl hs (kk := 0) rfl ?_
    | refine s_conv_mark Tryd.underlying33 Tryd.underlying5 rfl rfl hs (kk := 1) rfl ?_
    | refine s_conv_mark Tryd.underlying33 Tryd.underlying5 rfl rfl hs (kk := 2) rfl ?_
    | refine s_conv_mark Tryd.underlying33 Tryd.underlying5 rfl rfl hs (kk := 3) rfl ?_
    | refine s_conv_mark Tryd.underlying33 Tryd.underlying5 rfl rfl hs (kk := 4) rfl ?_
    | refine s_conv_mark Tryd.underlying33 Tryd.underlying5 rfl rfl hs (kk := 5) rfl ?_
    | refine s_conv_mark Tryd.underlying33 Tryd.underlying5 rfl rfl hs (kk := 6) rfl ?_
    | refine s_conv_mark Tryd.underlying33 Tryd.underlying5 rfl rfl hs (kk := 7) rfl ?_
    | refine s_conv_mark Tryd.underlying33 Tryd.underlying5 rfl rfl hs (kk := 8) rfl ?_
    | refine s_conv_mark Tryd.underlying33 Tryd.underlying5 rfl rfl hs (kk := 9) rfl ?_
  clear hs; intro w hs; try simp only [List.set_cons_zero, List.set_cons_succ, splice, List.take_succ_cons, List.take_zero, List.drop_succ_cons, List.drop_zero, List.nil_append, List.cons_append, List.length_cons, List.length_nil, Nat.reduceAdd, List.append_assoc] at hs
  refine s_build rfl rfl (BD43_0_2 _ _ _ _) ?_
  refine s_callL (M := [_]) (L1 := LN) (X := []) Tryd.call9 rfl rfl hs (fun h => send_ok p [0, 0] _ 1 0 _ [98] LN w hN h (hs.sl (k := 0) rfl (Nat.le_refl _) (fun j u hj => by rw [Nat.zero_add]; exact hj)) (by simp) (fun a m c he _ => by cases he; exact hs.notin (M := [_]) (by simp [ids]))) ?_
  clear hs; rintro v w LN ⟨rfl, ms, hN, _, hms⟩ - hs
  obtain ⟨b2, rfl⟩ := hms (by simp [sendE])
  replace hs := St.right (M := [_]) hs
  refine WL_nil ?_
  refine n_then ?_
  refine W_seq ?_
  refine W_region ?_
  refine s_move rfl rfl ?_
  refine s_callL (M := []) (L1 := LN) (X := []) Tryd.call12 rfl rfl hs (fun h => copy_yes p [0, 0] _ 0 LN w hN h (by simp) (by simp) (by simp)) ?_
  clear hs; intro v w LN h _ hs
  obtain ⟨h, _⟩ | ⟨_, rfl, m, b3, hm, hN⟩ := h
  case inl => exact absurd h (by simp)
  obtain rfl : m = ⟨0, 1, b1, [97]⟩ := by simpa using hm.symm
  clear hm
  refine s_assign rfl rfl ?_
  refine WL_nil ?_
  refine n_then ?_
  refine W_seq ?_
  refine W_region ?_
  refine s_move rfl rfl ?_
  refine s_call Tryd.call35 rfl rfl (len_ok p _ _ LN w hN (hs.lendM (M := []))) ?_
  rintro r w ⟨rfl, rfl⟩
  refine s_assign rfl rfl ?_
  refine WL_nil ?_
  refine n_then ?_
  refine W_seq ?_
  refine W_region ?_
  refine s_move rfl rfl ?_
  refine s_callL (M := []) (L1 := LN) (X := []) Tryd.call13 rfl rfl hs (fun h => take_yes p [0, 0] _ 1 LN w hN h (by simp) (by simp) _ (by simp; rfl) (by simp)) ?_
  clear hs; intro v w LN h _ hs
  obtain ⟨h, _⟩ | ⟨_, rfl, L1, rfl, hN⟩ := h
  case inl => exact absurd rfl h
  simp only [List.cons_append, List.nil_append] at hs
  simp only [Msg.cells]
  simp at hN
  refine s_move rfl rfl ?_
  refine s_extract rfl rfl rfl ?_
  refine s_extract rfl rfl rfl ?_
  refine s_alloc rfl AL43 hs ?_; clear hs; intro b5 w hs
  first
    | refine s_storeW Tryd.sizeOf43 rfl rfl rfl rfl hs (kk := 0) rfl rfl ?_
    | refine s_storeW Tryd.sizeOf43 rfl rfl rfl rfl hs (kk := 1) rfl rfl ?_
    | refine s_storeW Tryd.sizeOf43 rfl rfl rfl rfl hs (kk := 2) rfl rfl ?_
    | refine s_storeW Tryd.sizeOf43 rfl rfl rfl rfl hs (kk := 3) rfl rfl ?_
    | refine s_storeW Tryd.sizeOf43 rfl rfl rfl rfl hs (kk := 4) rfl rfl ?_
    | refine s_storeW Tryd.sizeOf43 rfl rfl rfl rfl hs (kk := 5) rfl rfl ?_
    | refine s_storeW Tryd.sizeOf43 rfl rfl rfl rfl hs (kk := 6) rfl rfl ?_
    | refine s_storeW Tryd.sizeOf43 rfl rfl rfl rfl hs (kk := 7) rfl rfl ?_
    | refine s_storeW Tryd.sizeOf43 rfl rfl rfl rfl hs (kk := 8) rfl rfl ?_
    | refine s_storeW Tryd.sizeOf43 rfl rfl rfl rfl hs (kk := 9) rfl rfl ?_
    | refine s_storeAB Tryd.sizeOf43 rfl rfl rfl rfl hs (kk := 0) rfl rfl ?_
    | refine s_storeAB Tryd.sizeOf43 rfl rfl rfl rfl hs (kk := 1) rfl rfl ?_
    | refine s_storeAB Tryd.sizeOf43 rfl rfl rfl rfl hs (kk := 2) rfl rfl ?_
    | refine s_storeAB Tryd.sizeOf43 rfl rfl rfl rfl hs (kk := 3) rfl rfl ?_
    | refine s_storeAB Tryd.sizeOf43 rfl rfl rfl rfl hs (kk := 4) rfl rfl ?_
    | refine s_storeAB Tryd.sizeOf43 rfl rfl rfl rfl hs (kk := 5) rfl rfl ?_
    | refine s_storeAB Tryd.sizeOf43 rfl rfl rfl rfl hs (kk := 6) rfl rfl ?_
    | refine s_storeAB Tryd.sizeOf43 rfl rfl rfl rfl hs (kk := 7) rfl rfl ?_
    | refine s_storeAB Tryd.sizeOf43 rfl rfl rfl rfl hs (kk := 8) rfl rfl ?_
    | refine s_storeAB Tryd.sizeOf43 rfl rfl rfl rfl hs (kk := 9) rfl rfl ?_
  clear hs; intro w hs; try simp only [List.set_cons_zero, List.set_cons_succ, splice, List.take_succ_cons, List.take_zero, List.drop_succ_cons, List.drop_zero, List.nil_append, List.cons_append, List.length_cons, List.length_nil, Nat.reduceAdd, List.append_assoc] at hs
  refine s_assign rfl rfl ?_
  refine WL_nil ?_
  refine n_then ?_
  refine W_seq ?_
  refine W_region ?_
  refine s_move rfl rfl ?_
  refine s_buildSlice rfl rfl (BS22_2 _ _) hs ?_; clear hs; intro b40 w hs
  refine s_callL (M := [_, _, _]) (L1 := L1) (X := []) Tryd.call36 rfl rfl hs (fun h => partition_yes p [0, 0] [0, 1] _ _ L1 w hN h (hs.sl (k := 0) rfl (Nat.le_refl _) (fun j u hj => by rw [Nat.zero_add]; exact hj)) rfl) ?_
  clear hs; rintro v w L2 ⟨rfl, hN⟩ - hs
  simp only [List.cons_append, List.nil_append] at hs
  replace hs := hs.tail
  refine WL_nil ?_
  refine n_then ?_
  refine W_seq ?_
  refine W_region ?_
  refine s_move rfl rfl ?_
  refine s_callL (M := [_, _]) (L1 := L2) (X := []) Tryd.call13 rfl rfl hs (fun h => take_yes p [0, 1] _ 0 L2 w hN h (by simp) (by simp) _ (by simp; rfl) (by simp)) ?_
  clear hs; intro v w L3 h _ hs
  obtain ⟨_, rfl, hN⟩ | ⟨h, _⟩ := h
  case inr => exact absurd h (by simp [grp])
  simp only [List.cons_append, List.nil_append] at hs
  refine s_move rfl rfl ?_
  refine s_extract rfl rfl rfl ?_
  refine s_extract rfl rfl rfl ?_
  refine s_alloc rfl AL43 hs ?_; clear hs; intro b7 w hs
  first
    | refine s_storeW Tryd.sizeOf43 rfl rfl rfl rfl hs (kk := 0) rfl rfl ?_
    | refine s_storeW Tryd.sizeOf43 rfl rfl rfl rfl hs (kk := 1) rfl rfl ?_
    | refine s_storeW Tryd.sizeOf43 rfl rfl rfl rfl hs (kk := 2) rfl rfl ?_
    | refine s_storeW Tryd.sizeOf43 rfl rfl rfl rfl hs (kk := 3) rfl rfl ?_
    | refine s_storeW Tryd.sizeOf43 rfl rfl rfl rfl hs (kk := 4) rfl rfl ?_
    | refine s_storeW Tryd.sizeOf43 rfl rfl rfl rfl hs (kk := 5) rfl rfl ?_
    | refine s_storeW Tryd.sizeOf43 rfl rfl rfl rfl hs (kk := 6) rfl rfl ?_
    | refine s_storeW Tryd.sizeOf43 rfl rfl rfl rfl hs (kk := 7) rfl rfl ?_
    | refine s_storeW Tryd.sizeOf43 rfl rfl rfl rfl hs (kk := 8) rfl rfl ?_
    | refine s_storeW Tryd.sizeOf43 rfl rfl rfl rfl hs (kk := 9) rfl rfl ?_
    | refine s_storeAB Tryd.sizeOf43 rfl rfl rfl rfl hs (kk := 0) rfl rfl ?_
    | refine s_storeAB Tryd.sizeOf43 rfl rfl rfl rfl hs (kk := 1) rfl rfl ?_
    | refine s_storeAB Tryd.sizeOf43 rfl rfl rfl rfl hs (kk := 2) rfl rfl ?_
    | refine s_storeAB Tryd.sizeOf43 rfl rfl rfl rfl hs (kk := 3) rfl rfl ?_
    | refine s_storeAB Tryd.sizeOf43 rfl rfl rfl rfl hs (kk := 4) rfl rfl ?_
    | refine s_storeAB Tryd.sizeOf43 rfl rfl rfl rfl hs (kk := 5) rfl rfl ?_
    | refine s_storeAB Tryd.sizeOf43 rfl rfl rfl rfl hs (kk := 6) rfl rfl ?_
    | refine s_storeAB Tryd.sizeOf43 rfl rfl rfl rfl hs (kk := 7) rfl rfl ?_
    | refine s_storeAB Tryd.sizeOf43 rfl rfl rfl rfl hs (kk := 8) rfl rfl ?_
    | refine s_storeAB Tryd.sizeOf43 rfl rfl rfl rfl hs (kk := 9) rfl rfl ?_
  clear hs; intro w hs; try simp only [List.set_cons_zero, List.set_cons_succ, splice, List.take_succ_cons, List.take_zero, List.drop_succ_cons, List.drop_zero, List.nil_append, List.cons_append, List.length_cons, List.length_nil, Nat.reduceAdd, List.append_assoc] at hs
  refine s_assign rfl rfl ?_
  refine WL_nil ?_
  refine n_then ?_
  refine W_seq ?_
  refine W_region ?_
  refine s_move rfl rfl ?_
  refine s_callL (M := [_, _, _]) (L1 := L3) (X := []) Tryd.call37 rfl rfl hs (fun h => drop_yes p [0, 1] _ 0 L3 w hN h (by simp) (by simp)) ?_
  clear hs; rintro v w L4 ⟨rfl, hN⟩ - hs
  simp only [List.cons_append, List.nil_append] at hs
  simp at hN
  refine s_assign rfl rfl ?_
  refine WL_nil ?_
  refine n_then ?_
  refine W_seq ?_
  refine W_region ?_
  refine s_move rfl rfl ?_
  refine s_eql rfl rfl rfl ?_
  refine s_move rfl rfl ?_
  refine WL_know (s := 51) (c := true) rfl ((by first | rfl | simp)) ?_
  refine WL_take rfl ?_
  refine s_move rfl rfl ?_
  refine WL_take rfl ?_
  refine s_eql rfl rfl rfl ?_
  refine s_pick_t rfl rfl rfl ?_
  refine s_move rfl rfl ?_
  refine WL_know (s := 55) (c := true) rfl ((by first | rfl | simp)) ?_
  refine WL_take rfl ?_
  refine s_move rfl rfl ?_
  refine WL_take rfl ?_
  refine s_eql rfl rfl rfl ?_
  refine s_pick_t rfl rfl rfl ?_
  refine s_move rfl rfl ?_
  refine WL_know (s := 59) (c := true) rfl ((by first | rfl | simp)) ?_
  refine WL_take rfl ?_
  refine s_fieldAddr rfl rfl (FA43_2 _ _) ?_
  refine WL_take rfl ?_
  first
    | refine s_load Tryd.isAgg33 rfl rfl (hs.cell (k := 0) rfl rfl) ?_
    | refine s_load Tryd.isAgg33 rfl rfl (hs.cell (k := 1) rfl rfl) ?_
    | refine s_load Tryd.isAgg33 rfl rfl (hs.cell (k := 2) rfl rfl) ?_
    | refine s_load Tryd.isAgg33 rfl rfl (hs.cell (k := 3) rfl rfl) ?_
    | refine s_load Tryd.isAgg33 rfl rfl (hs.cell (k := 4) rfl rfl) ?_
    | refine s_load Tryd.isAgg33 rfl rfl (hs.cell (k := 5) rfl rfl) ?_
    | refine s_load Tryd.isAgg33 rfl rfl (hs.cell (k := 6) rfl rfl) ?_
    | refine s_load Tryd.isAgg33 rfl rfl (hs.cell (k := 7) rfl rfl) ?_
    | refine s_load Tryd.isAgg33 rfl rfl (hs.cell (k := 8) rfl rfl) ?_
    | refine s_load Tryd.isAgg33 rfl rfl (hs.cell (k := 9) rfl rfl) ?_
  refine WL_take rfl ?_
  refine s_bytes_str (bs := [98]) Tryd.underlying33 Tryd.underlying5 Tryd.underlying9 rfl rfl (hs.sl (k := 2) (cs := u8s [98]) (fz := (0, 0)) rfl (Nat.le_refl _) (fun j u hj => by rw [Nat.zero_add]; exact hj)) rfl ?_
  refine WL_take rfl ?_
  refine s_eql_S rfl rfl rfl ?_
  refine s_pick_t rfl rfl rfl ?_
  refine s_move rfl rfl ?_
  refine WL_know (s := 65) (c := true) rfl ((by kernel_rfl)) ?_
  refine WL_take rfl ?_
  refine s_fieldAddr rfl rfl (FA43_0 _ _) ?_
  refine WL_take rfl ?_
  first
    | refine s_load Tryd.isAgg3 rfl rfl (hs.cell (k := 0) rfl rfl) ?_
    | refine s_load Tryd.isAgg3 rfl rfl (hs.cell (k := 1) rfl rfl) ?_
    | refine s_load Tryd.isAgg3 rfl rfl (hs.cell (k := 2) rfl rfl) ?_
    | refine s_load Tryd.isAgg3 rfl rfl (hs.cell (k := 3) rfl rfl) ?_
    | refine s_load Tryd.isAgg3 rfl rfl (hs.cell (k := 4) rfl rfl) ?_
    | refine s_load Tryd.isAgg3 rfl rfl (hs.cell (k := 5) rfl rfl) ?_
    | refine s_load Tryd.isAgg3 rfl rfl (hs.cell (k := 6) rfl rfl) ?_
    | refine s_load Tryd.isAgg3 rfl rfl (hs.cell (k := 7) rfl rfl) ?_
    | refine s_load Tryd.isAgg3 rfl rfl (hs.cell (k := 8) rfl rfl) ?_
    | refine s_load Tryd.isAgg3 rfl rfl (hs.cell (k := 9) rfl rfl) ?_
  refine WL_take rfl ?_
  refine s_eql rfl rfl rfl ?_
  refine s_pick_t rfl rfl rfl ?_
  refine s_move rfl rfl ?_
  refine WL_know (s := 70) (c := true) rfl ((by first | rfl | simp)) ?_
  refine WL_take rfl ?_
  refine s_fieldAddr rfl rfl (FA43_1 _ _) ?_
  refine WL_take rfl ?_
  first
    | refine s_load Tryd.isAgg3 rfl rfl (hs.cell (k := 0) rfl rfl) ?_
    | refine s_load Tryd.isAgg3 rfl rfl (hs.cell (k := 1) rfl rfl) ?_
    | refine s_load Tryd.isAgg3 rfl rfl (hs.cell (k := 2) rfl rfl) ?_
    | refine s_load Tryd.isAgg3 rfl rfl (hs.cell (k := 3) rfl rfl) ?_
    | refine s_load Tryd.isAgg3 rfl rfl (hs.cell (k := 4) rfl rfl) ?_
    | refine s_load Tryd.isAgg3 rfl rfl (hs.cell (k := 5) rfl rfl) ?_
    | refine s_load Tryd.isAgg3 rfl rfl (hs.cell (k := 6) rfl rfl) ?_
    | refine s_load Tryd.isAgg3 rfl rfl (hs.cell (k := 7) rfl rfl) ?_
    | refine s_load Tryd.isAgg3 rfl rfl (hs.cell (k := 8) rfl rfl) ?_
    | refine s_load Tryd.isAgg3 rfl rfl (hs.cell (k := 9) rfl rfl) ?_
  refine WL_take rfl ?_
  refine s_eql rfl rfl rfl ?_
  refine s_pick_t rfl rfl rfl ?_
  refine s_move rfl rfl ?_
  refine WL_know (s := 75) (c := true) rfl ((by first | rfl | simp)) ?_
  refine WL_take rfl ?_
  refine s_move rfl rfl ?_
  refine WL_take rfl ?_
  refine s_eql rfl rfl rfl ?_
  refine s_pick_t rfl rfl rfl ?_
  refine s_move rfl rfl ?_
  refine WL_know (s := 79) (c := true) rfl ((by first | rfl | simp)) ?_
  refine WL_take rfl ?_
  refine s_move rfl rfl ?_
  refine WL_take rfl ?_
  refine s_eql rfl rfl rfl ?_
  refine s_pick_t rfl rfl rfl ?_
  refine s_move rfl rfl ?_
  refine WL_know (s := 83) (c := true) rfl ((by first | rfl | simp)) ?_
  refine WL_take rfl ?_
  refine s_move rfl rfl ?_
  refine WL_take rfl ?_
  refine s_call Tryd.call35 rfl rfl (len_ok p _ _ L4 w hN (hs.lendM (M := [_, _, _]))) ?_
  rintro r w ⟨rfl, rfl⟩
  refine WL_take rfl ?_
  refine s_eql rfl rfl rfl ?_
  refine s_pick_t rfl rfl rfl ?_
  refine s_assign rfl rfl ?_
  refine WL_nil ?_
  refine n_then ?_
  refine W_ret ?_
  exact end1 rfl rfl ⟨hs.fwd, rfl⟩
end Go.Proofs.YtgjjdlgbbgijgaaDoor
