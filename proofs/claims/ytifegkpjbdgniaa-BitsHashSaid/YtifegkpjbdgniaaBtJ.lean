/- Reading what was written: plain. -/
import Derived.Test.YtifegkpjbdgniaaBtH
set_option linter.unusedVariables false
set_option linter.unusedSimpArgs false
namespace Go.Proofs.Ytifegkpjbdgniaa
open Go.SL
theorem bitsAt_pk (bs : List Bool) (k : Nat) : ∀ c, k + c ≤ bs.length → bitsAt (pk bs) k c = (bs.drop k).take c
  | 0, _ => by simp [bitsAt]
  | c + 1, h => by
    have hl := pk_length bs
    rw [bitsAt, bitsAt_pk bs k c (by omega), bitAt_pk bs _ (by omega), List.take_add_one]
    congr 1
    simp [gb, show k + c < bs.length by omega]
theorem va_nb' (n : Nat) : ∀ c a, List.foldl (fun a (b : Bool) => 2 * a + b.toNat) a (nb n c) = a * 2 ^ c + n % 2 ^ c
  | 0, a => by simp [nb, Nat.mod_one]
  | c + 1, a => by
    rw [nb, List.foldl_cons, va_nb' n c, Nat.mod_pow_succ, Nat.testBit_eq_decide_div_mod_eq]
    rcases Nat.mod_two_eq_zero_or_one (n / 2 ^ c) with h | h <;> rw [h] <;> simp [Nat.pow_succ, Nat.add_mul] <;> rw [Nat.mul_comm 2 a, Nat.mul_assoc, Nat.mul_comm 2] <;> omega
theorem va_nb (n c : Nat) : va (nb n c) = n % 2 ^ c := by have := va_nb' n c 0; simpa [va] using this
end Go.Proofs.Ytifegkpjbdgniaa
