/- Bits of numbers, as the model's operations spell them. No program in sight. -/
import Derived.IntWalk
import Derived.Laws.Bits64
set_option linter.unusedVariables false
set_option linter.unusedSimpArgs false
namespace Go.SL
theorem u64w {n : Nat} (h : n < 18446744073709551616) : IntKind.u64.wrap (n : Int) = n := IntWalk.u64_in _ (by omega)
theorem u8w (n : Nat) : IntKind.u8.wrap (n : Int) = ((n % 256 : Nat) : Int) := by rw [IntKind.wrap_u8]; omega
theorem bits8 : IntKind.u8.bits = 8 := rfl
theorem bits64 : IntKind.u64.bits = 64 := rfl
theorem bitsi64 : IntKind.i64.bits = 64 := rfl
theorem ofInt_nat (w n : Nat) : (BitVec.ofInt w (n : Int)) = BitVec.ofNat w n := by
  apply BitVec.eq_of_toNat_eq; simp [BitVec.toNat_ofInt]
/-- n | 128, the number n seen as a byte -/
theorem or128 (n : Nat) : IntKind.u8.wrap (((BitVec.ofInt IntKind.u8.bits (IntKind.u8.wrap (n : Int)) ||| BitVec.ofInt IntKind.u8.bits 128).toNat : Nat) : Int) = ((n % 128 + 128 : Nat) : Int) := by
  rw [u8w n, bits8, show (128 : Int) = ((128 : Nat) : Int) from rfl, ofInt_nat, ofInt_nat, BitVec.toNat_or, BitVec.toNat_ofNat, BitVec.toNat_ofNat]
  have h : ∀ x, x < 256 → x ||| 128 = x % 128 + 128 := by decide +kernel
  have h1 : n % 256 % 2 ^ 8 = n % 256 := by omega
  rw [h1, show 128 % 2 ^ 8 = 128 from rfl, h _ (by omega), u8w]
  omega
/-- c & 127 -/
theorem and127 (n : Nat) (hn : n < 256) : IntKind.u8.wrap (((BitVec.ofInt IntKind.u8.bits (n : Int) &&& BitVec.ofInt IntKind.u8.bits 127).toNat : Nat) : Int) = ((n % 128 : Nat) : Int) := by
  rw [bits8, show (127 : Int) = ((127 : Nat) : Int) from rfl, ofInt_nat, ofInt_nat, BitVec.toNat_and, BitVec.toNat_ofNat, BitVec.toNat_ofNat]
  have h : ∀ x, x < 256 → x &&& 127 = x % 128 := by decide +kernel
  rw [Nat.mod_eq_of_lt (show n < 2 ^ 8 by omega), show 127 % 2 ^ 8 = 127 from rfl, h _ hn, u8w]
  omega
/-- n & 1 -/
theorem and1 (n : Nat) (hn : n < 18446744073709551616) : IntKind.u64.wrap (((BitVec.ofInt IntKind.u64.bits (n : Int) &&& BitVec.ofInt IntKind.u64.bits 1).toNat : Nat) : Int) = ((n % 2 : Nat) : Int) := by
  rw [bits64, show (1 : Int) = ((1 : Nat) : Int) from rfl, ofInt_nat, ofInt_nat, BitVec.toNat_and, BitVec.toNat_ofNat, BitVec.toNat_ofNat, Nat.mod_eq_of_lt (show n < 2 ^ 64 by omega), show 1 % 2 ^ 64 = 1 from rfl, Nat.and_one_is_mod, u64w (by omega)]
/-- p | x << k: the parts do not meet -/
theorem or_shl (p x k : Nat) (hp : p < 2 ^ k) (hx : x * 2 ^ k + p < 18446744073709551616) : IntKind.u64.wrap (((BitVec.ofInt IntKind.u64.bits (p : Int) ||| BitVec.ofInt IntKind.u64.bits ((x * 2 ^ k : Nat) : Int)).toNat : Nat) : Int) = ((x * 2 ^ k + p : Nat) : Int) := by
  rw [bits64, ofInt_nat, ofInt_nat, BitVec.toNat_or, BitVec.toNat_ofNat, BitVec.toNat_ofNat, Nat.mod_eq_of_lt (show p < 2 ^ 64 by omega), Nat.mod_eq_of_lt (show x * 2 ^ k < 2 ^ 64 by omega), Nat.or_comm]
  have := Nat.two_pow_add_eq_or_of_lt hp x
  rw [Nat.mul_comm x, ← this, u64w (by rw [Nat.mul_comm]; exact hx)]
/-- the zigzag form of a number -/
def zz (n : Int) : Nat := if n < 0 then (-2 * n - 1).toNat else (2 * n).toNat
def unzz (m : Nat) : Int := if m % 2 = 1 then -((m / 2 : Nat) : Int) - 1 else ((m / 2 : Nat) : Int)
theorem zz_lt {n : Int} (h : -9223372036854775808 ≤ n ∧ n ≤ 9223372036854775807) : zz n < 18446744073709551616 := by unfold zz; split <;> omega
theorem unzz_zz (n : Int) : unzz (zz n) = n := by unfold zz unzz; split <;> split <;> omega
theorem wrapU64 (x : Int) : IntKind.u64.wrap x = x % 18446744073709551616 := by
  rw [show IntKind.u64.wrap x = x % (2 ^ 64 : Int) from rfl]; rfl
theorem wrapI64 (x : Int) : IntKind.i64.wrap x = if x % 18446744073709551616 < 9223372036854775808 then x % 18446744073709551616 else x % 18446744073709551616 - 18446744073709551616 := by
  rw [IntKind.wrap_i64]; split <;> omega
/-- uint64(n) << 1 ^ uint64(n >> 63) -/
theorem zig (n : Int) (h : -9223372036854775808 ≤ n ∧ n ≤ 9223372036854775807) :
    IntKind.u64.wrap (((BitVec.ofInt IntKind.u64.bits (IntKind.u64.wrap (IntKind.u64.wrap n * 2 ^ (min (1 : Int).toNat IntKind.u64.bits))) ^^^ BitVec.ofInt IntKind.u64.bits (IntKind.u64.wrap (n.fdiv (2 ^ (min (63 : Int).toNat IntKind.i64.bits))))).toNat : Nat) : Int) = (zz n : Int) := by
  have e1 : (2 : Int) ^ (min (1 : Int).toNat IntKind.u64.bits) = 2 := rfl
  have e2 : (2 : Int) ^ (min (63 : Int).toNat IntKind.i64.bits) = 9223372036854775808 := rfl
  rw [e1, e2, Int.fdiv_eq_ediv_of_nonneg _ (by omega), bits64]
  simp only [wrapU64]
  unfold zz
  split
  · have ha : n % 18446744073709551616 * 2 % 18446744073709551616 = ((18446744073709551616 + 2 * n).toNat : Int) := by omega
    have hb : n / 9223372036854775808 % 18446744073709551616 = ((18446744073709551615 : Nat) : Int) := by omega
    rw [ha, hb, ofInt_nat, ofInt_nat, show BitVec.ofNat 64 18446744073709551615 = BitVec.allOnes 64 from rfl, BitVec.xor_allOnes, BitVec.toNat_not, BitVec.toNat_ofNat]
    have : (18446744073709551616 + 2 * n).toNat % 2 ^ 64 = (18446744073709551616 + 2 * n).toNat := by omega
    rw [this]; omega
  · have ha : n % 18446744073709551616 * 2 % 18446744073709551616 = ((2 * n).toNat : Int) := by omega
    have hb : n / 9223372036854775808 % 18446744073709551616 = ((0 : Nat) : Int) := by omega
    rw [ha, hb, ofInt_nat, ofInt_nat, show BitVec.ofNat 64 0 = 0#64 from rfl, BitVec.xor_zero, BitVec.toNat_ofNat]
    have : (2 * n).toNat % 2 ^ 64 = (2 * n).toNat := by omega
    rw [this]; omega
/-- int(n >> 1) ^ -int(n & 1) -/
theorem zag (m : Nat) (h : m < 18446744073709551616) :
    IntKind.i64.wrap (((BitVec.ofInt IntKind.i64.bits (IntKind.i64.wrap ((m / 2 : Nat) : Int)) ^^^ BitVec.ofInt IntKind.i64.bits (-((m % 2 : Nat) : Int))).toNat : Nat) : Int) = unzz m := by
  have ha : IntKind.i64.wrap ((m / 2 : Nat) : Int) = ((m / 2 : Nat) : Int) := IntWalk.i64_in _ (by omega)
  rw [ha, bitsi64, ofInt_nat]
  unfold unzz
  split
  · rename_i hm
    rw [hm, show BitVec.ofInt 64 (-((1 : Nat) : Int)) = BitVec.allOnes 64 from by decide, BitVec.xor_allOnes, BitVec.toNat_not, BitVec.toNat_ofNat, wrapI64]
    have : m / 2 % 2 ^ 64 = m / 2 := by omega
    rw [this]; split <;> omega
  · have hm : m % 2 = 0 := by omega
    rw [hm, show BitVec.ofInt 64 (-((0 : Nat) : Int)) = 0#64 from by decide, BitVec.xor_zero, BitVec.toNat_ofNat, wrapI64]
    have : m / 2 % 2 ^ 64 = m / 2 := by omega
    rw [this]; split <;> omega
end Go.SL
