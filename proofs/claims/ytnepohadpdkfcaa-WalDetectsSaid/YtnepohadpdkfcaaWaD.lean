/- The reference's mix, Words, Sum, Bytes. -/
import Derived.Test.YtnepohadpdkfcaaWaC
set_option linter.unusedVariables false
set_option linter.unusedSimpArgs false
namespace Go.Proofs.Ytnepohadpdkfcaa
open Go.SL
theorem fMix_ok {mx : Nat → Nat → Nat} (hmx : IsMix mx) (s v : Nat) (w0 : World) (hs : s < 18446744073709551616) (hv : v < 18446744073709551616) : Ret Try.prog 48 [.int .u64 (s : Int), .int .u64 (v : Int)].toArray w0 fun r w' => w' = w0 ∧ r = .int .u64 (mx s v : Int) := by
  obtain ⟨m, hmd⟩ : ∃ m, m = (s ^^^ v) * 11400714819323198485 % 18446744073709551616 := ⟨_, rfl⟩
  have hm : m < 18446744073709551616 := by rw [hmd]; exact Nat.mod_lt _ (Nat.succ_pos _)
  have hm2 : m / 4294967296 < 18446744073709551616 := Nat.lt_of_le_of_lt (Nat.div_le_self _ _) hm
  rw [hmx, mixV_at hmd]
  have hmu := mulU _ _ hmd
  clear hmd
  have hq : IntKind.u64.wrap ((m : Int).tdiv 4294967296) = ((m / 4294967296 : Nat) : Int) := by
    rw [show (m : Int).tdiv 4294967296 = ((m / 4294967296 : Nat) : Int) by rw [Int.tdiv_eq_ediv_of_nonneg (by omega)]; omega, u64w hm2]
  refine Ret_of Try.func48 rfl Try.ntmps48 rfl ?_
  refine W_seq ?_
  refine W_region ?_
  refine s_assign rfl rfl ?_
  refine WL_nil ?_
  refine n_then ?_
  refine W_seq ?_
  refine W_region ?_
  refine s_move rfl rfl ?_
  refine s_move rfl rfl ?_
  refine s_xor rfl rfl rfl ?_
  rw [xor64 _ _ hs hv]
  refine s_mul rfl rfl rfl ?_
  rw [hmu]
  refine s_assign rfl rfl ?_
  refine WL_nil ?_
  refine n_then ?_
  refine W_seq ?_
  refine W_region ?_
  refine s_move rfl rfl ?_
  refine s_move rfl rfl ?_
  (refine s_quo rfl rfl rfl ?hx ?_; case hx => omega)
  refine s_xor rfl rfl rfl ?_
  rw [hq, xor64 _ _ hm hm2]
  refine s_assign rfl rfl ?_
  refine WL_nil ?_
  refine n_then ?_
  refine W_ret ?_
  exact end1 rfl rfl ⟨rfl, rfl⟩
end Go.Proofs.Ytnepohadpdkfcaa
