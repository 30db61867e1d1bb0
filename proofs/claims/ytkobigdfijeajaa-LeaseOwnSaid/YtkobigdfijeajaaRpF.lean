/- decode of no bytes. -/
import Derived.Test.YtkobigdfijeajaaRpE
set_option linter.unusedVariables false
set_option linter.unusedSimpArgs false
namespace Go.Proofs.Ytkobigdfijeajaa
open Go.SL
theorem rdI_none : rdI ⟨[], 0⟩ = (0, ⟨[], 3⟩) := by simp [rdI, rdU, pu, unzz]
theorem rdI_bad : rdI ⟨[], 3⟩ = (0, ⟨[], 3⟩) := by simp [rdI, rdU, unzz]
set_option maxHeartbeats 2000000 in
theorem mDecode0_ok (v : Value) (w0 : World) (hv : Sl w0 v 0 []) :
    Ret Try.prog 47 [v].toArray w0 fun r w' => ∃ x, r = .tuple #[.agg x, .bool false] ∧ (∃ y, x = (mesCells ⟨0, 0, 0, 0, 0, []⟩ 0 y).toArray ∧ y = .slice none 0 0) ∧ Fwd [] w0 w' := by
  obtain ⟨a, c, rfl, hac⟩ := hv.len_le
  refine Ret_start fun w hs => ?_
  refine Ret_of Try.func47 rfl Try.ntmps47 rfl ?_
  refine W_seq ?_
  refine W_region ?_
  refine s_alloc rfl AL94 hs ?_; clear hs; intro b2 w hs
  refine s_assign rfl rfl ?_
  refine WL_nil ?_
  refine n_then ?_
  refine W_seq ?_
  refine W_region ?_
  refine s_move rfl rfl ?_
  refine s_call Try.call67 rfl rfl (read_ok _ [] w (hv.fwd0 hs.fwd) (by simp) (by simp)) ?_
  rintro r w ⟨p, LO, rfl, hR, hst⟩
  replace hs := (St.back0 hs hst).swap (A := LO)
  clear hst
  refine s_assign rfl rfl ?_
  refine WL_nil ?_
  refine n_then ?_
  refine W_seq ?_
  refine W_region ?_
  refine s_move rfl rfl ?_
  refine s_callL (M := [_]) (L1 := LO) (X := []) Try.call68 rfl rfl (by simpa using hs) (fun h => rInt_ok p ⟨[], 0⟩ LO w hR h) ?_
  clear hs hR; rintro v1 w LO ⟨hR, rfl⟩ - hs
  rw [rdI_none] at hR ⊢
  refine s_move rfl rfl ?_
  refine s_callL (M := [_]) (L1 := LO) (X := []) Try.call68 rfl rfl hs (fun h => rInt_ok p ⟨[], 3⟩ LO w hR h) ?_
  clear hs hR; rintro v1 w LO ⟨hR, rfl⟩ - hs
  rw [rdI_bad] at hR ⊢
  refine s_move rfl rfl ?_
  refine s_callL (M := [_]) (L1 := LO) (X := []) Try.call68 rfl rfl hs (fun h => rInt_ok p ⟨[], 3⟩ LO w hR h) ?_
  clear hs hR; rintro v1 w LO ⟨hR, rfl⟩ - hs
  rw [rdI_bad] at hR ⊢
  refine s_move rfl rfl ?_
  refine s_callL (M := [_]) (L1 := LO) (X := []) Try.call68 rfl rfl hs (fun h => rInt_ok p ⟨[], 3⟩ LO w hR h) ?_
  clear hs hR; rintro v1 w LO ⟨hR, rfl⟩ - hs
  rw [rdI_bad] at hR ⊢
  refine s_move rfl rfl ?_
  refine s_callL (M := [_]) (L1 := LO) (X := []) Try.call68 rfl rfl hs (fun h => rInt_ok p ⟨[], 3⟩ LO w hR h) ?_
  clear hs hR; rintro v1 w LO ⟨hR, rfl⟩ - hs
  rw [rdI_bad] at hR ⊢
  simp only at hR ⊢
  refine s_build rfl rfl (BD94_0_2_3_4_5 _ _ _ _ _) ?_
  refine s_alloc rfl AL94 hs ?_; clear hs; intro b5 w hs
  first
    | refine s_storeW Try.sizeOf94 rfl rfl rfl rfl hs (kk := 0) rfl rfl ?_
    | refine s_storeW Try.sizeOf94 rfl rfl rfl rfl hs (kk := 1) rfl rfl ?_
    | refine s_storeW Try.sizeOf94 rfl rfl rfl rfl hs (kk := 2) rfl rfl ?_
    | refine s_storeAB Try.sizeOf94 rfl rfl rfl rfl hs (kk := 0) rfl rfl ?_
    | refine s_storeAB Try.sizeOf94 rfl rfl rfl rfl hs (kk := 1) rfl rfl ?_
    | refine s_storeAB Try.sizeOf94 rfl rfl rfl rfl hs (kk := 2) rfl rfl ?_
  clear hs; intro w hs; try simp only [List.set_cons_zero, List.set_cons_succ, splice, List.take_succ_cons, List.take_zero, List.drop_succ_cons, List.drop_zero, List.nil_append, List.cons_append, List.length_cons, List.length_nil, Nat.reduceAdd, List.append_assoc] at hs
  refine WL_nil ?_
  refine n_then ?_
  refine W_seq ?_
  refine W_region ?_
  refine s_move rfl rfl ?_
  refine s_callL (M := [_, _]) (L1 := LO) (X := []) Try.call68 rfl rfl (by simpa using hs) (fun h => rInt_ok p ⟨[], 3⟩ LO w hR h) ?_
  clear hs hR; rintro v1 w LO ⟨hR, rfl⟩ - hs
  rw [rdI_bad] at hR ⊢
  simp only at hR ⊢
  refine s_assign rfl rfl ?_
  refine WL_nil ?_
  refine n_then ?_
  refine W_seq ?_
  refine W_seq ?_
  refine W_region ?_
  refine s_move rfl rfl ?_
  refine s_lss rfl rfl rfl ?_
  refine s_move rfl rfl ?_
  refine WL_know (s := 26) (c := false) rfl (rfl) ?_
  refine WL_take rfl ?_
  refine s_move rfl rfl ?_
  refine WL_take rfl ?_
  refine s_gtr rfl rfl rfl ?_
  refine s_pick_f rfl rfl rfl ?_
  refine WL_nil ?_
  refine n_then ?_
  refine W_cond_kf rfl (rfl) ?_
  refine W_skip ?_
  refine n_then ?_
  refine W_seq ?_
  refine W_seq ?_
  refine W_region ?_
  refine s_move rfl rfl ?_
  refine s_move rfl rfl ?_
  refine WL_nil ?_
  refine n_then ?_
  refine W_block ?_
  refine W_loop (σ := Unit) (fun _ => [(2, .pointer (some ⟨b2, 0, none⟩)), (3, .bool false), (4, .pointer (some ⟨p, 0, none⟩)), (5, .pointer (some ⟨b5, 0, none⟩)), (6, .int .i64 0), (31, .int .i64 0), (32, .int .i64 0)])
    (fun s w => St [] w0 w ([(b5, _), (b2, Blk 94 [.int .i64 0, .int .i64 0, .int .i64 0, .int .i64 0, .int .i64 0, .int .i64 0, .slice none 0 0])] ++ (LO ++ []))) (fun s => 0) () ⟨rfl, rfl, rfl, rfl, rfl, rfl, rfl, trivial⟩ hs ?_
  clear hs
  rintro - w hs
  refine W_seq ?_
  refine W_region ?_
  refine s_lss rfl rfl rfl ?_
  refine WL_nil ?_
  refine n_then ?_
  refine W_seq ?_
  refine W_cond_kf rfl (rfl) ?_
  refine W_exit ?_
  refine x_then ?_
  refine x_then ?_
  refine exit_hit ?_
  refine n_then ?_
  refine W_seq ?_
  refine W_seq ?_
  refine W_region ?_
  refine s_move rfl rfl ?_
  refine s_callL (M := [_, _]) (L1 := LO) (X := []) Try.call71 rfl rfl hs (fun h => rEnd_ok p _ LO w hR h) ?_
  clear hs; rintro v2 w L9 ⟨hL9, rfl⟩ - hs
  rw [hL9] at hs; clear hL9 L9
  simp only [List.cons_append, List.nil_append, rdEnd] at hs ⊢
  refine s_neq rfl rfl rfl ?_
  refine s_move rfl rfl ?_
  refine WL_know (s := 53) (c := true) rfl (rfl) ?_
  refine WL_skip rfl rfl rfl ?_
  refine WL_skip rfl rfl rfl ?_
  refine WL_skip rfl rfl rfl ?_
  refine s_pick_t rfl rfl rfl ?_
  refine s_move rfl rfl ?_
  refine WL_skip rfl rfl rfl ?_
  refine WL_skip rfl rfl rfl ?_
  refine WL_skip rfl rfl rfl ?_
  refine s_pick_t rfl rfl rfl ?_
  refine s_move rfl rfl ?_
  refine WL_skip rfl rfl rfl ?_
  refine WL_skip rfl rfl rfl ?_
  refine WL_skip rfl rfl rfl ?_
  refine s_pick_t rfl rfl rfl ?_
  refine s_move rfl rfl ?_
  refine WL_skip rfl rfl rfl ?_
  refine WL_skip rfl rfl rfl ?_
  refine WL_skip rfl rfl rfl ?_
  refine WL_skip rfl rfl rfl ?_
  refine s_pick_t rfl rfl rfl ?_
  refine WL_nil ?_
  refine n_then ?_
  refine W_cond_t rfl ?_
  refine W_seq ?_
  refine W_region ?_
  refine s_build rfl rfl (BD94_ ) ?_
  refine s_storeW Try.sizeOf94 rfl rfl rfl rfl hs (kk := 1) rfl rfl ?_
  clear hs; intro w hs; simp only [List.set_cons_zero, List.set_cons_succ, List.cons_append, List.nil_append] at hs
  refine s_assign rfl rfl ?_
  refine WL_nil ?_
  refine n_then ?_
  refine W_ret ?_
  refine r_then ?_
  exact end2 rfl (resOk_block Try.isAgg94 Try.sizeOf94 hs rfl (kk := 1) rfl rfl) rfl ⟨_, rfl, ⟨_, rfl, rfl⟩, hs.fwd⟩
end Go.Proofs.Ytkobigdfijeajaa
