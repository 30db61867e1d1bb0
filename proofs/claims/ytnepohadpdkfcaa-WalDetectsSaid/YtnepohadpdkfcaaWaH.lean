/- The reference's Frame. -/
import Derived.Test.YtnepohadpdkfcaaWaG
set_option linter.unusedVariables false
set_option linter.unusedSimpArgs false
namespace Go.Proofs.Ytnepohadpdkfcaa
open Go.SL
theorem fFrame_ok {mx : Nat → Nat → Nat} (hmx : IsMix mx) (n : Int) (v : Value) (x : List Int) (w0 : World) (hv : Sl w0 v x.length (u8s x)) (hn : isI64 n) (hB : ∀ b ∈ x, isB b) (hx : x.length ≤ 1048576) :
    Ret Try.prog 9 [.int .i64 n, v].toArray w0 fun r w' => ∃ Lr, OwnS 5 1 r (frameV mx n x).length (u8s (frameV mx n x)) Lr ∧ St [] w0 w' Lr := by
  have hcl := coreV_len hn hx
  have hcB := coreV_isB (n := n) hB
  have hhl := hashV_lt hmx (bytesOf sWal) (coreV n x)
  have hul := uvar_len10 (n := (coreV n x).length) (by omega)
  have huh := uvar_len10 hhl
  refine Ret_start fun w hs => ?_
  refine Ret_of Try.func9 rfl Try.ntmps9 rfl ?_
  refine W_seq ?_
  refine W_region ?_
  refine s_assign rfl rfl ?_
  refine WL_nil ?_
  refine n_then ?_
  refine W_seq ?_
  refine W_region ?_
  refine s_move rfl rfl ?_
  refine s_move rfl rfl ?_
  refine s_call Try.call25 rfl rfl (fCore_ok n v x w (hv.fwd0 hs.fwd) hn hx) ?_
  rintro r w ⟨L1, hO1, hst⟩
  replace hs := (St.back0 hs hst).left
  clear hst
  refine s_assign rfl rfl ?_
  refine WL_nil ?_
  refine n_then ?_
  refine W_seq ?_
  refine W_region ?_
  refine s_move rfl rfl ?_
  refine s_call Try.call26 rfl rfl (fRaw_ok _ (coreV n x) w (OwnS_slIn hO1 fun y hy => hs.own y hy) (by omega)) ?_
  rintro r w ⟨L2, hO2, hst⟩
  replace hs := St.back0 hs hst
  clear hst
  refine s_assign rfl rfl ?_
  refine WL_nil ?_
  refine n_then ?_
  refine W_seq ?_
  refine W_region ?_
  refine s_move rfl rfl ?_
  refine s_move rfl rfl ?_
  refine s_call Try.call28 rfl rfl (fBytes_ok hmx sWal _ (coreV n x) w (OwnS_slIn hO1 fun y hy => hs.own y (List.mem_append_right _ hy)) hcB (by decide +kernel) (by omega)) ?_
  rintro r w ⟨hst, rfl⟩
  replace hs := hs.fwd1 hst
  clear hst
  refine s_call Try.call27 rfl rfl (fUint_ok _ w hhl) ?_
  rintro r w ⟨L3, hO3, hst⟩
  replace hs := St.back0 hs hst
  clear hst
  refine s_appendM (M := L3) (X := L1) El23 rfl rfl rfl hO2 hs (hO3.sl hs) (by rw [hO3.1]) (fun c hc => by simp only [u8s, List.mem_map] at hc; obtain ⟨z, _, rfl⟩ := hc; rfl) (by simp only [List.length_append]; omega) ?_
  clear hs; intro v' w Lv' hO' hs
  refine s_assign rfl rfl ?_
  refine WL_nil ?_
  refine n_then ?_
  refine W_ret ?_
  refine end1 rfl rfl ⟨Lv', ?_, (hs.right (M := L3)).left⟩
  rw [frameV, List.length_append, u8s, List.map_append]; exact hO'
end Go.Proofs.Ytnepohadpdkfcaa
