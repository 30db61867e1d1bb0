/- The examples of package bits. -/
import Derived.Test.YtifegkpjbdgniaaBtR
set_option linter.unusedVariables false
set_option linter.unusedSimpArgs false
namespace Go.Proofs.Ytifegkpjbdgniaa
open Go.SL
theorem wb_new (p : Nat) : WbAt p [] [(p, Blk 31 [.slice none 0 0, .int .i64 0])] := ⟨_, [], rfl, OwnS.nil _ _⟩
theorem live_pk : pk ([] ++ nb 5 (clampV 4).toNat ++ (List.replicate (capV 2).toNat true ++ [false])) = [92] := by decide +kernel
theorem live_len : ([] ++ nb 5 (clampV 4).toNat ++ (List.replicate (capV 2).toNat true ++ [false])).length = 7 := by decide +kernel
theorem live_1 : rbV [92] 0 0 4 = (5, 4, 0) := by decide +kernel
theorem live_2 : ruV [92] 4 0 2 = (2, 7, 0) := by decide +kernel
theorem live_3 : ruV [92] 4 0 1 = (0, 4, 4) := by decide +kernel
theorem live_4 : reV [92] 7 0 = 0 := by decide +kernel
theorem live_5 : reV [92] 4 4 = 4 := by decide +kernel
set_option maxHeartbeats 1000000 in
theorem lives_ok (w0 : World) : Ret Try.prog 20 [].toArray w0 fun r w' => Fwd [] w0 w' ∧ r = .bool true := by
  refine Ret_start fun w hs => ?_
  refine Ret_of Try.func20 rfl Try.ntmps20 rfl ?_
  refine W_seq ?_
  refine W_region ?_
  refine s_assign rfl rfl ?_
  refine WL_nil ?_
  refine n_then ?_
  refine W_seq ?_
  refine W_region ?_
  refine s_alloc rfl AL31 hs ?_; clear hs; intro b1 w hs
  refine WL_nil ?_
  refine n_then ?_
  refine W_seq ?_
  refine W_region ?_
  refine s_callL (M := []) (L1 := [_]) (X := []) Try.call33 rfl rfl hs (fun h => wBits_ok b1 [] 5 4 _ w (wb_new b1) h (by decide) (by simp)) ?_
  clear hs; rintro v w LW ⟨hW, rfl⟩ - hs
  simp only [List.nil_append, List.append_nil] at hs
  refine WL_nil ?_
  refine n_then ?_
  refine W_seq ?_
  refine W_region ?_
  refine s_callL (M := []) (L1 := LW) (X := []) Try.call34 rfl rfl (by simpa using hs) (fun h => wUnary_ok b1 _ 2 _ w hW h (by simp [nb_length]; have := (clampV_nat 4).2; omega)) ?_
  clear hs hW; rintro v w LW ⟨hW, rfl⟩ - hs
  simp only [List.nil_append, List.append_nil] at hs
  refine WL_nil ?_
  refine n_then ?_
  refine W_seq ?_
  refine W_region ?_
  refine s_callL (M := []) (L1 := LW) (X := []) Try.call18 rfl rfl (by simpa using hs) (fun h => wDone_ok b1 _ _ w hW h (by rw [live_len]; decide)) ?_
  clear hs; rintro v w LW2 ⟨Lr, rfl, hOr⟩ - hs
  simp only [List.nil_append, List.append_nil] at hs
  rw [live_pk] at hOr
  refine s_assign rfl rfl ?_
  refine WL_nil ?_
  refine n_then ?_
  refine W_seq ?_
  refine W_region ?_
  refine s_move rfl rfl ?_
  refine s_call Try.call22 rfl rfl (bRead_ok _ [92] w (hOr.sl (M := LW) hs.swap) (by decide) (by decide)) ?_
  rintro r w ⟨p, LP, rfl, hP, hst⟩
  replace hs := St.back0 hs hst
  clear hst
  refine s_assign rfl rfl ?_
  refine WL_nil ?_
  refine n_then ?_
  refine W_seq ?_
  refine W_region ?_
  refine s_move rfl rfl ?_
  refine s_call Try.call22 rfl rfl (bRead_ok _ [92] w (hOr.slM (M := LP ++ LW) (X := []) (by simpa using hs)) (by decide) (by decide)) ?_
  rintro r w ⟨q, LQ, rfl, hQ, hst⟩
  replace hs := St.back0 hs hst
  clear hst
  refine s_assign rfl rfl ?_
  refine WL_nil ?_
  refine n_then ?_
  refine W_seq ?_
  refine W_seq ?_
  refine W_region ?_
  refine s_move rfl rfl ?_
  refine s_eql_ptr_nil Try.underlying43 rfl rfl rfl ?_
  refine s_move rfl rfl ?_
  refine WL_know (s := 16) (c := false) rfl (rfl) ?_
  refine WL_take rfl ?_
  refine s_move rfl rfl ?_
  refine WL_take rfl ?_
  refine s_eql_ptr_nil Try.underlying43 rfl rfl rfl ?_
  refine s_pick_f rfl rfl rfl ?_
  refine WL_nil ?_
  refine n_then ?_
  refine W_cond_kf rfl (rfl) ?_
  refine W_skip ?_
  refine n_then ?_
  refine W_seq ?_
  refine W_region ?_
  refine s_move rfl rfl ?_
  refine s_callL (M := LQ) (L1 := LP) (X := LW ++ Lr) Try.call25 rfl rfl hs (fun h => rBits_ok p _ _ _ 4 _ w hP h) ?_
  clear hs hP; rintro v w LP ⟨hP, rfl⟩ - hs
  rw [live_1] at hP ⊢; simp only at hP ⊢
  refine s_assign rfl rfl ?_
  refine WL_nil ?_
  refine n_then ?_
  refine W_seq ?_
  refine W_region ?_
  refine s_move rfl rfl ?_
  refine s_callL (M := LQ) (L1 := LP) (X := LW ++ Lr) Try.call27 rfl rfl hs (fun h => rUnary_ok p _ _ _ 2 _ w hP h) ?_
  clear hs hP; rintro v w LP ⟨hP, rfl⟩ - hs
  rw [live_2] at hP ⊢; simp only at hP ⊢
  refine s_assign rfl rfl ?_
  refine WL_nil ?_
  refine n_then ?_
  refine W_seq ?_
  refine W_region ?_
  refine s_move rfl rfl ?_
  refine s_callL (M := []) (L1 := LQ) (X := LP ++ (LW ++ Lr)) Try.call25 rfl rfl hs (fun h => rBits_ok q _ _ _ 4 _ w hQ h) ?_
  clear hs hQ; rintro v w LQ ⟨hQ, rfl⟩ - hs
  rw [live_1] at hQ; simp only at hQ
  simp only [List.nil_append] at hs
  refine WL_nil ?_
  refine n_then ?_
  refine W_seq ?_
  refine W_region ?_
  refine s_move rfl rfl ?_
  refine s_callL (M := []) (L1 := LQ) (X := LP ++ (LW ++ Lr)) Try.call27 rfl rfl hs (fun h => rUnary_ok q _ _ _ 1 _ w hQ h) ?_
  clear hs hQ; rintro v w LQ ⟨hQ, rfl⟩ - hs
  rw [live_3] at hQ; simp only at hQ
  simp only [List.nil_append] at hs
  refine WL_nil ?_
  refine n_then ?_
  refine W_seq ?_
  refine W_region ?_
  refine s_callL (M := LQ ++ LP) (L1 := LW) (X := Lr) Try.call16 rfl rfl (by simpa using hs) (fun h => wLen_ok b1 _ _ w hW h) ?_
  clear hs; rintro v w L9 ⟨rfl, rfl⟩ - hs
  rw [live_len]
  simp only [List.append_assoc] at hs
  refine s_eql rfl rfl rfl ?_
  refine s_move rfl rfl ?_
  refine WL_know (s := 30) (c := true) rfl ((by decide)) ?_
  refine WL_take rfl ?_
  refine s_move rfl rfl ?_
  refine WL_take rfl ?_
  refine s_buildSlice rfl rfl (BS29_1 _) hs ?_; clear hs; intro b32 w hs
  refine WL_take rfl ?_
  refine s_call Try.call17 rfl rfl (sameBytes_ok _ _ [92] [92] w (hOr.slM (M := _ :: (LQ ++ (LP ++ L9))) (X := []) (by simpa using hs)) (hs.sl (k := 0) rfl (Nat.le_refl _) (by intro j u hj; rw [Nat.zero_add]; exact hj)) (by decide)) ?_
  rintro r w ⟨hst, rfl⟩
  replace hs := hs.fwd1 hst
  clear hst
  refine s_pick_t rfl rfl rfl ?_
  refine s_move rfl rfl ?_
  refine WL_know (s := 35) (c := true) rfl ((by decide)) ?_
  refine WL_take rfl ?_
  refine s_move rfl rfl ?_
  refine WL_take rfl ?_
  refine s_eql rfl rfl rfl ?_
  refine s_pick_t rfl rfl rfl ?_
  refine s_move rfl rfl ?_
  refine WL_know (s := 39) (c := true) rfl ((by decide)) ?_
  refine WL_take rfl ?_
  refine s_move rfl rfl ?_
  refine WL_take rfl ?_
  refine s_eql rfl rfl rfl ?_
  refine s_pick_t rfl rfl rfl ?_
  refine s_move rfl rfl ?_
  refine WL_know (s := 43) (c := true) rfl ((by decide)) ?_
  refine WL_take rfl ?_
  refine s_move rfl rfl ?_
  refine WL_take rfl ?_
  refine s_callL (M := _ :: LQ) (L1 := LP) (X := L9 ++ Lr) Try.call30 rfl rfl hs (fun h => rEnd_ok p _ _ _ _ w hP h) ?_
  clear hs; rintro v w LP2 ⟨rfl, rfl⟩ - hs
  rw [live_4]
  refine WL_take rfl ?_
  refine s_eql rfl rfl rfl ?_
  refine s_pick_t rfl rfl rfl ?_
  refine s_move rfl rfl ?_
  refine WL_know (s := 48) (c := true) rfl ((by decide)) ?_
  refine WL_take rfl ?_
  refine s_move rfl rfl ?_
  refine WL_take rfl ?_
  refine s_callL (M := _ :: LQ) (L1 := LP2) (X := L9 ++ Lr) Try.call29 rfl rfl hs (fun h => rAt_ok p _ _ _ _ w hP h) ?_
  clear hs; rintro v w LP3 ⟨rfl, rfl⟩ - hs
  refine WL_take rfl ?_
  refine s_eql rfl rfl rfl ?_
  refine s_pick_t rfl rfl rfl ?_
  refine s_move rfl rfl ?_
  refine WL_know (s := 53) (c := true) rfl ((by decide)) ?_
  refine WL_take rfl ?_
  refine s_move rfl rfl ?_
  refine WL_take rfl ?_
  refine s_callL (M := [_]) (L1 := LQ) (X := LP3 ++ (L9 ++ Lr)) Try.call30 rfl rfl hs (fun h => rEnd_ok q _ _ _ _ w hQ h) ?_
  clear hs; rintro v w LQ2 ⟨rfl, rfl⟩ - hs
  rw [live_5]
  refine WL_take rfl ?_
  refine s_eql rfl rfl rfl ?_
  refine s_pick_t rfl rfl rfl ?_
  refine s_assign rfl rfl ?_
  refine WL_nil ?_
  refine n_then ?_
  refine W_ret ?_
  exact end1 rfl rfl ⟨hs.fwd, rfl⟩
end Go.Proofs.Ytifegkpjbdgniaa
