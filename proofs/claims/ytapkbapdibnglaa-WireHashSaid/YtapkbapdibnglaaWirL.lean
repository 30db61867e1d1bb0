/- The examples of package wire; WireSizes. -/
import Derived.Test.YtapkbapdibnglaaWirR
set_option linter.unusedVariables false
set_option linter.unusedSimpArgs false
namespace Go.Proofs.Ytapkbapdibnglaa
open Go.SL
theorem live_bytes : ([] : List Int) ++ uvar 300 ++ uvar (zz (-1)) ++ uvar (ByteArray.size ⟨#[97, 98]⟩) ++ bytesOf ⟨#[97, 98]⟩ = [172, 2, 1, 2, 97, 98] := by
  have h1 : uvar 300 = [172, 2] := by rw [uvar_hi (by decide), uvar_lo (by decide)]; rfl
  have h2 : uvar (zz (-1)) = [1] := by rw [uvar_lo (by decide)]; rfl
  have h3 : uvar (ByteArray.size ⟨#[97, 98]⟩) = [2] := by rw [uvar_lo (by decide)]; rfl
  rw [h1, h2, h3]; rfl
set_option maxHeartbeats 1000000 in
theorem lives_ok (w0 : World) : Ret Try.prog 8 [].toArray w0 fun r w' => Fwd [] w0 w' ∧ r = .bool true := by
  refine Ret_start fun w hs => ?_
  refine Ret_of Try.func8 rfl Try.ntmps8 rfl ?_
  refine W_seq ?_
  refine W_region ?_
  refine s_assign rfl rfl ?_
  refine WL_nil ?_
  refine n_then ?_
  refine W_seq ?_
  refine W_region ?_
  refine s_alloc rfl AL26 hs ?_; clear hs; intro b1 w hs
  refine WL_nil ?_
  refine n_then ?_
  refine W_seq ?_
  refine W_region ?_
  refine s_callL (M := []) (L1 := [_]) (X := []) Try.call5 rfl rfl hs (fun h => wUint_ok b1 [] 300 _ w (wr_new b1) h (by decide) (by simp)) ?_
  clear hs; rintro v w LW ⟨hW, rfl⟩ - hs
  simp only [List.nil_append, List.append_nil] at hs
  refine WL_nil ?_
  refine n_then ?_
  refine W_seq ?_
  refine W_region ?_
  refine s_callL (M := []) (L1 := LW) (X := []) Try.call11 rfl rfl (by simpa using hs) (fun h => wInt_ok b1 _ (-1) _ w hW h (by unfold isI64; omega) (by have := uvar_len10 (n := 300) (by decide); simp; omega)) ?_
  clear hs hW; rintro v w LW ⟨hW, rfl⟩ - hs
  simp only [List.nil_append, List.append_nil] at hs
  refine WL_nil ?_
  refine n_then ?_
  refine W_seq ?_
  refine W_region ?_
  refine s_callL (M := []) (L1 := LW) (X := []) Try.call12 rfl rfl (by simpa using hs) (fun h => wText_ok b1 _ ⟨#[97, 98]⟩ _ w hW h (by have := uvar_len10 (n := 300) (by decide); have := uvar_len10 (n := zz (-1)) (by decide); simp only [List.length_append, List.length_nil]; omega) (by decide)) ?_
  clear hs hW; rintro v w LW ⟨hW, rfl⟩ - hs
  simp only [List.nil_append, List.append_nil] at hs
  replace hW : WrAt b1 [172, 2, 1, 2, 97, 98] LW := by rw [live_bytes] at hW; exact hW
  refine WL_nil ?_
  refine n_then ?_
  refine W_seq ?_
  refine W_region ?_
  refine s_callL (M := []) (L1 := LW) (X := []) Try.call6 rfl rfl (by simpa using hs) (fun h => wDone_ok b1 _ _ w hW h (by decide)) ?_
  clear hs; rintro v w LW2 ⟨Lr, rfl, hOr⟩ - hs
  simp only [List.nil_append, List.append_nil] at hs
  replace hs : St [] w0 w Lr := hs.right
  refine s_assign rfl rfl ?_
  refine WL_nil ?_
  refine n_then ?_
  refine W_seq ?_
  refine W_region ?_
  refine s_move rfl rfl ?_
  refine s_call Try.call13 rfl rfl (read_ok _ [172, 2, 1, 2, 97, 98] w (hOr.sl (M := []) (by simpa using hs)) (by decide) (by decide)) ?_
  rintro r w ⟨p, LP, rfl, hP, hst⟩
  replace hs := St.back0 hs hst
  clear hst
  refine s_assign rfl rfl ?_
  refine WL_nil ?_
  refine n_then ?_
  refine W_seq ?_
  refine W_region ?_
  refine s_buildSlice rfl rfl (BS24_2 _ _) hs ?_; clear hs; intro b14 w hs
  refine s_call Try.call13 rfl rfl (read_ok _ [128, 0] w (hs.sl (k := 0) rfl (Nat.le_refl _) (by intro j u hj; rw [Nat.zero_add]; exact hj)) (by decide) (by decide)) ?_
  rintro r w ⟨q, LQ, rfl, hQ, hst⟩
  replace hs := (St.back0 hs.tail hst)
  clear hst
  refine s_assign rfl rfl ?_
  refine WL_nil ?_
  refine n_then ?_
  refine W_seq ?_
  refine W_seq ?_
  refine W_region ?_
  refine s_move rfl rfl ?_
  refine s_eql_ptr_nil Try.underlying38 rfl rfl rfl ?_
  refine s_move rfl rfl ?_
  refine WL_know (s := 18) (c := false) rfl (rfl) ?_
  refine WL_take rfl ?_
  refine s_move rfl rfl ?_
  refine WL_take rfl ?_
  refine s_eql_ptr_nil Try.underlying38 rfl rfl rfl ?_
  refine s_pick_f rfl rfl rfl ?_
  refine WL_nil ?_
  refine n_then ?_
  refine W_cond_kf rfl (rfl) ?_
  refine W_skip ?_
  refine n_then ?_
  refine W_seq ?_
  refine W_region ?_
  refine s_move rfl rfl ?_
  refine s_callL (M := LQ) (L1 := LP) (X := Lr) Try.call14 rfl rfl hs (fun h => rUint_ok p _ _ w hP h) ?_
  clear hs hP; rintro v w LP ⟨hP, rfl⟩ - hs
  replace hP : RdAt p ⟨[1, 2, 97, 98], 0⟩ LP := hP
  refine s_assign rfl rfl ?_
  refine WL_nil ?_
  refine n_then ?_
  refine W_seq ?_
  refine W_region ?_
  refine s_move rfl rfl ?_
  refine s_callL (M := LQ) (L1 := LP) (X := Lr) Try.call15 rfl rfl hs (fun h => rInt_ok p _ _ w hP h) ?_
  clear hs hP; rintro v w LP ⟨hP, rfl⟩ - hs
  replace hP : RdAt p ⟨[2, 97, 98], 0⟩ LP := hP
  refine s_assign rfl rfl ?_
  refine WL_nil ?_
  refine n_then ?_
  refine W_seq ?_
  refine W_region ?_
  refine s_move rfl rfl ?_
  refine s_callL (M := LQ) (L1 := LP) (X := Lr) Try.call16 rfl rfl hs (fun h => rText_ok p _ _ w hP h) ?_
  clear hs hP; rintro v w LP ⟨hP, rfl⟩ - hs
  replace hP : RdAt p ⟨[], 0⟩ LP := hP
  refine s_assign rfl rfl ?_
  refine WL_nil ?_
  refine n_then ?_
  refine W_seq ?_
  refine W_region ?_
  refine s_move rfl rfl ?_
  refine s_callL (M := []) (L1 := LQ) (X := LP ++ Lr) Try.call15 rfl rfl hs (fun h => rInt_ok q _ _ w hQ h) ?_
  clear hs hQ; rintro v w LQ ⟨hQ, rfl⟩ - hs
  replace hQ : RdAt q ⟨[], 2⟩ LQ := hQ
  simp only [List.nil_append] at hs
  refine WL_nil ?_
  refine n_then ?_
  refine W_seq ?_
  refine W_region ?_
  refine s_move rfl rfl ?_
  refine s_buildSlice rfl rfl (BS24_6 _ _ _ _ _ _) hs ?_; clear hs; intro b31 w hs
  refine s_call Try.call17 rfl rfl (sameBytes_ok _ _ [172, 2, 1, 2, 97, 98] [172, 2, 1, 2, 97, 98] w (St_lastSl (M := _ :: LQ) (A := LP) hs hOr) (hs.sl (k := 0) rfl (Nat.le_refl _) (by intro j u hj; rw [Nat.zero_add]; exact hj)) (by decide)) ?_
  rintro r w ⟨hst, rfl⟩
  replace hs := hs.fwd1 hst
  clear hst
  refine s_move rfl rfl ?_
  refine WL_know (s := 33) (c := true) rfl ((by decide)) ?_
  refine WL_take rfl ?_
  refine s_move rfl rfl ?_
  refine WL_take rfl ?_
  refine s_eql rfl rfl rfl ?_
  refine s_pick_t rfl rfl rfl ?_
  refine s_move rfl rfl ?_
  refine WL_know (s := 37) (c := true) rfl ((by decide)) ?_
  refine WL_take rfl ?_
  refine s_move rfl rfl ?_
  refine WL_take rfl ?_
  refine s_eql rfl rfl rfl ?_
  refine s_pick_t rfl rfl rfl ?_
  refine s_move rfl rfl ?_
  refine WL_know (s := 41) (c := true) rfl ((by decide)) ?_
  refine WL_take rfl ?_
  refine s_move rfl rfl ?_
  refine WL_take rfl ?_
  refine s_eql_S rfl rfl rfl ?_
  refine s_pick_t rfl rfl rfl ?_
  refine s_move rfl rfl ?_
  refine WL_know (s := 45) (c := true) rfl ((by decide)) ?_
  refine WL_take rfl ?_
  refine s_move rfl rfl ?_
  refine WL_take rfl ?_
  refine s_callL (M := _ :: LQ) (L1 := LP) (X := Lr) Try.call18 rfl rfl hs (fun h => rEnd_ok p _ _ w hP h) ?_
  clear hs; rintro v w LP2 ⟨rfl, rfl⟩ - hs
  refine WL_take rfl ?_
  refine s_eql rfl rfl rfl ?_
  refine s_pick_t rfl rfl rfl ?_
  refine s_move rfl rfl ?_
  refine WL_know (s := 50) (c := true) rfl ((by decide)) ?_
  refine WL_take rfl ?_
  refine s_move rfl rfl ?_
  refine WL_take rfl ?_
  refine s_callL (M := [_]) (L1 := LQ) (X := LP2 ++ Lr) Try.call18 rfl rfl hs (fun h => rEnd_ok q _ _ w hQ h) ?_
  clear hs; rintro v w LQ2 ⟨rfl, rfl⟩ - hs
  refine WL_take rfl ?_
  refine s_eql rfl rfl rfl ?_
  refine s_pick_t rfl rfl rfl ?_
  refine s_assign rfl rfl ?_
  refine WL_nil ?_
  refine n_then ?_
  refine W_ret ?_
  exact end1 rfl rfl ⟨hs.fwd, rfl⟩
end Go.Proofs.Ytapkbapdibnglaa
