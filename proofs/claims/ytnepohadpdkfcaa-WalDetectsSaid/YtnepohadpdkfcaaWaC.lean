/- The reference's Core. -/
import Derived.Test.YtnepohadpdkfcaaWaB
set_option linter.unusedVariables false
set_option linter.unusedSimpArgs false
namespace Go.Proofs.Ytnepohadpdkfcaa
open Go.SL
theorem fCore_ok (n : Int) (v : Value) (x : List Int) (w0 : World) (hv : Sl w0 v x.length (u8s x)) (hn : isI64 n) (hx : x.length ≤ 1048576) :
    Ret Try.prog 25 [.int .i64 n, v].toArray w0 fun r w' => ∃ Lr, OwnS 5 1 r (coreV n x).length (u8s (coreV n x)) Lr ∧ St [] w0 w' Lr := by
  have hul := uvar_len10 (zz_lt hn)
  have hul2 := uvar_len10 (n := x.length) (by omega)
  refine Ret_start fun w hs => ?_
  refine Ret_of Try.func25 rfl Try.ntmps25 rfl ?_
  refine W_seq ?_
  refine W_region ?_
  refine s_assign rfl rfl ?_
  refine WL_nil ?_
  refine n_then ?_
  refine W_seq ?_
  refine W_region ?_
  refine s_move rfl rfl ?_
  refine s_call Try.call36 rfl rfl (fInt_ok n w hn) ?_
  rintro r w ⟨L1, hO1, hst⟩
  replace hs := St.back0 hs hst
  simp only [List.append_nil] at hs
  clear hst
  refine s_assign rfl rfl ?_
  refine WL_nil ?_
  refine n_then ?_
  refine W_seq ?_
  refine W_region ?_
  refine s_move rfl rfl ?_
  refine s_move rfl rfl ?_
  refine s_call Try.call26 rfl rfl (fRaw_ok v x w (hv.fwd0 hs.fwd) (by omega)) ?_
  rintro r w ⟨L2, hO2, hst⟩
  replace hs := St.back0 hs hst
  clear hst
  refine s_appendM (M := L2) (X := []) El23 rfl rfl rfl hO1 (by simp only [List.append_nil]; exact hs) (hO2.sl hs) (by rw [hO2.1]) (fun c hc => by simp only [u8s, List.mem_map] at hc; obtain ⟨z, _, rfl⟩ := hc; rfl) (by simp only [List.length_append]; omega) ?_
  clear hs; intro v' w Lv' hO' hs
  simp only [List.append_nil] at hs
  refine s_assign rfl rfl ?_
  refine WL_nil ?_
  refine n_then ?_
  refine W_ret ?_
  refine end1 rfl rfl ⟨Lv', ?_, hs.right⟩
  rw [coreV, List.append_assoc, List.length_append, u8s, List.map_append]; exact hO'
end Go.Proofs.Ytnepohadpdkfcaa
