/- Plain bit streams: bits packed into bytes. No program in sight. -/
import Derived.Test.YtbcdnpjcbchbjaaDoorLib
import Derived.Test.YtbcdnpjcbchbjaaDoorBit
set_option linter.unusedVariables false
set_option linter.unusedSimpArgs false
namespace Go.Proofs.YtbcdnpjcbchbjaaDoor
open Go.SL
def gb (bs : List Bool) (i : Nat) : Bool := (bs[i]?).getD false
def b8 (f : Nat → Bool) : Nat := (f 0).toNat * 128 + (f 1).toNat * 64 + (f 2).toNat * 32 + (f 3).toNat * 16 + (f 4).toNat * 8 + (f 5).toNat * 4 + (f 6).toNat * 2 + (f 7).toNat
def byteAt (bs : List Bool) (j : Nat) : Nat := b8 (fun i => gb bs (8 * j + i))
def pk (bs : List Bool) : List Int := (List.range ((bs.length + 7) / 8)).map fun j => (byteAt bs j : Int)
/-- with the byte that the next bit goes to -/
def pkx (bs : List Bool) : List Int := (List.range (bs.length / 8 + 1)).map fun j => (byteAt bs j : Int)
theorem b8_lt (f : Nat → Bool) : b8 f < 256 := by
  have h : ∀ b : Bool, b.toNat ≤ 1 := fun b => by cases b <;> decide
  have h0 := h (f 0); have h1 := h (f 1); have h2 := h (f 2); have h3 := h (f 3); have h4 := h (f 4); have h5 := h (f 5); have h6 := h (f 6); have h7 := h (f 7)
  unfold b8; omega
theorem byteAt_lt (bs : List Bool) (j : Nat) : byteAt bs j < 256 := b8_lt _
theorem pk_length (bs : List Bool) : (pk bs).length = (bs.length + 7) / 8 := by simp [pk]
theorem pkx_length (bs : List Bool) : (pkx bs).length = bs.length / 8 + 1 := by simp [pkx]
theorem pkx_at {bs : List Bool} {j : Nat} (h : j < bs.length / 8 + 1) : (pkx bs)[j]? = some (byteAt bs j : Int) := by simp [pkx, h]
theorem gb_ge {bs : List Bool} {i : Nat} (h : bs.length ≤ i) : gb bs i = false := by simp [gb, h]
theorem gb_snoc (bs : List Bool) (b : Bool) (i : Nat) : gb (bs ++ [b]) i = if i = bs.length then b else gb bs i := by
  unfold gb
  by_cases h : i = bs.length
  · simp [h]
  · rw [if_neg h]
    rcases Nat.lt_or_gt_of_ne h with h1 | h1
    · rw [List.getElem?_append_left h1]
    · rw [List.getElem?_append_right (by omega), List.getElem?_eq_none (by simp; omega), List.getElem?_eq_none (by omega)]
theorem byteAt_snoc (bs : List Bool) (b : Bool) (j : Nat) : byteAt (bs ++ [b]) j = byteAt bs j + if j = bs.length / 8 then b.toNat * (128 / 2 ^ (bs.length % 8)) else 0 := by
  unfold byteAt b8
  simp only [gb_snoc]
  have hd := Nat.div_add_mod bs.length 8
  have hk := Nat.mod_lt bs.length (show 8 > 0 by decide)
  generalize hq : bs.length / 8 = q at *
  generalize hkk : bs.length % 8 = k at *
  by_cases hj : j = q
  · subst hj
    have hf : gb bs (8 * j + k) = false := gb_ge (by omega)
    have hc : k = 0 ∨ k = 1 ∨ k = 2 ∨ k = 3 ∨ k = 4 ∨ k = 5 ∨ k = 6 ∨ k = 7 := by omega
    rw [← hd]
    rcases hc with h | h | h | h | h | h | h | h <;> subst h <;> simp [hf] at * <;> omega
  · rw [if_neg hj]
    have hi : ∀ i, i < 8 → ¬ 8 * j + i = bs.length := fun i hi => by omega
    rw [if_neg (hi 0 (by decide)), if_neg (hi 1 (by decide)), if_neg (hi 2 (by decide)), if_neg (hi 3 (by decide)), if_neg (hi 4 (by decide)), if_neg (hi 5 (by decide)), if_neg (hi 6 (by decide)), if_neg (hi 7 (by decide))]
    rfl
theorem byteAt_zero {bs : List Bool} (h : bs.length % 8 = 0) : byteAt bs (bs.length / 8) = 0 := by
  unfold byteAt b8
  have hi : ∀ i, gb bs (8 * (bs.length / 8) + i) = false := fun i => gb_ge (by omega)
  simp only [hi]; rfl
theorem pk_pkx_new {bs : List Bool} (h : bs.length % 8 = 0) : pk bs ++ [0] = pkx bs := by
  unfold pk pkx
  rw [show (bs.length + 7) / 8 = bs.length / 8 by omega, List.range_succ, List.map_append]
  simp [byteAt_zero h]
theorem pk_pkx_old {bs : List Bool} (h : bs.length % 8 ≠ 0) : pk bs = pkx bs := by
  unfold pk pkx
  rw [show (bs.length + 7) / 8 = bs.length / 8 + 1 by omega]
theorem pk_snoc (bs : List Bool) (b : Bool) : pk (bs ++ [b]) = (pkx bs).set (bs.length / 8) ((byteAt bs (bs.length / 8) + b.toNat * (128 / 2 ^ (bs.length % 8)) : Nat) : Int) := by
  apply List.ext_getElem?
  intro j
  have hl : ((bs ++ [b]).length + 7) / 8 = bs.length / 8 + 1 := by simp; omega
  rw [List.getElem?_set]
  unfold pk
  rw [hl]
  by_cases hj : j < bs.length / 8 + 1
  · simp only [List.getElem?_map, List.getElem?_range hj, Option.map_some, byteAt_snoc]
    by_cases he : bs.length / 8 = j
    · have hx : bs.length / 8 < (pkx bs).length := by rw [pkx_length]; omega
      rw [if_pos he, if_pos hx, if_pos he.symm, he]
    · rw [if_neg he, if_neg (fun h => he h.symm), pkx_at hj]; simp
  · rw [List.getElem?_eq_none (by simp; omega)]
    rw [if_neg (by omega), List.getElem?_eq_none (by rw [pkx_length]; omega)]
theorem pk_snoc_false (bs : List Bool) : pk (bs ++ [false]) = pkx bs := by
  rw [pk_snoc]
  apply List.ext_getElem?
  intro j
  rw [List.getElem?_set]
  by_cases he : bs.length / 8 = j
  · rw [if_pos he, if_pos (by rw [pkx_length]; omega), ← he, pkx_at (by omega)]; simp
  · rw [if_neg he]
theorem or_b8 : ∀ (f0 f1 f2 f3 f4 f5 f6 f7 : Bool) (k : Fin 8), [f0, f1, f2, f3, f4, f5, f6, f7][k] = false →
    (f0.toNat * 128 + f1.toNat * 64 + f2.toNat * 32 + f3.toNat * 16 + f4.toNat * 8 + f5.toNat * 4 + f6.toNat * 2 + f7.toNat) ||| (128 / 2 ^ k.val) = (f0.toNat * 128 + f1.toNat * 64 + f2.toNat * 32 + f3.toNat * 16 + f4.toNat * 8 + f5.toNat * 4 + f6.toNat * 2 + f7.toNat) + 128 / 2 ^ k.val := by decide +kernel
theorem and_b8 : ∀ (f0 f1 f2 f3 f4 f5 f6 f7 : Bool) (k : Fin 8), 
    ((f0.toNat * 128 + f1.toNat * 64 + f2.toNat * 32 + f3.toNat * 16 + f4.toNat * 8 + f5.toNat * 4 + f6.toNat * 2 + f7.toNat) &&& (128 / 2 ^ k.val) != 0) = [f0, f1, f2, f3, f4, f5, f6, f7][k] := by decide +kernel
theorem b8_list (f : Nat → Bool) (k : Fin 8) : [f 0, f 1, f 2, f 3, f 4, f 5, f 6, f 7][k] = f k := by
  obtain ⟨k, hk⟩ := k
  have hc : k = 0 ∨ k = 1 ∨ k = 2 ∨ k = 3 ∨ k = 4 ∨ k = 5 ∨ k = 6 ∨ k = 7 := by omega
  rcases hc with h | h | h | h | h | h | h | h <;> subst h <;> rfl
theorem b8_or (f : Nat → Bool) (k : Nat) (hk : k < 8) (hf : f k = false) : b8 f ||| (128 / 2 ^ k) = b8 f + 128 / 2 ^ k := or_b8 (f 0) (f 1) (f 2) (f 3) (f 4) (f 5) (f 6) (f 7) ⟨k, hk⟩ (by rw [b8_list]; exact hf)
theorem b8_and (f : Nat → Bool) (k : Nat) (hk : k < 8) : (b8 f &&& (128 / 2 ^ k) != 0) = f k := (and_b8 (f 0) (f 1) (f 2) (f 3) (f 4) (f 5) (f 6) (f 7) ⟨k, hk⟩).trans (b8_list f ⟨k, hk⟩)
theorem p2_le (k : Nat) : 128 / 2 ^ k < 256 := Nat.lt_of_le_of_lt (Nat.div_le_self _ _) (by decide)
theorem shr128 (k : Nat) (hk : k < 8) : (128 : Int).fdiv (2 ^ (min ((k : Nat) : Int).toNat IntKind.u8.bits)) = ((128 / 2 ^ k : Nat) : Int) := by
  have hc : k = 0 ∨ k = 1 ∨ k = 2 ∨ k = 3 ∨ k = 4 ∨ k = 5 ∨ k = 6 ∨ k = 7 := by omega
  rcases hc with h | h | h | h | h | h | h | h <;> subst h <;> rfl
theorem or8 (a b : Nat) (ha : a < 256) (hb : b < 256) : IntKind.u8.wrap (((BitVec.ofInt IntKind.u8.bits (a : Int) ||| BitVec.ofInt IntKind.u8.bits (b : Int)).toNat : Nat) : Int) = ((a ||| b : Nat) : Int) := by
  have h1 : a ||| b < 256 := Nat.or_lt_two_pow (n := 8) ha hb
  rw [bits8, ofInt_nat, ofInt_nat, BitVec.toNat_or, BitVec.toNat_ofNat, BitVec.toNat_ofNat, Nat.mod_eq_of_lt (show a < 2 ^ 8 by omega), Nat.mod_eq_of_lt (show b < 2 ^ 8 by omega), IntWalk.u8_in _ (by omega)]
theorem and8 (a b : Nat) (ha : a < 256) (hb : b < 256) : IntKind.u8.wrap (((BitVec.ofInt IntKind.u8.bits (a : Int) &&& BitVec.ofInt IntKind.u8.bits (b : Int)).toNat : Nat) : Int) = ((a &&& b : Nat) : Int) := by
  have h1 : a &&& b ≤ a := Nat.and_le_left
  rw [bits8, ofInt_nat, ofInt_nat, BitVec.toNat_and, BitVec.toNat_ofNat, BitVec.toNat_ofNat, Nat.mod_eq_of_lt (show a < 2 ^ 8 by omega), Nat.mod_eq_of_lt (show b < 2 ^ 8 by omega), IntWalk.u8_in _ (by omega)]
/-- the c lowest bits of n, the highest first -/
def nb (n : Nat) : Nat → List Bool
  | 0 => []
  | c + 1 => n.testBit c :: nb n c
theorem nb_length (n c : Nat) : (nb n c).length = c := by induction c <;> simp_all [nb]
end Go.Proofs.YtbcdnpjcbchbjaaDoor
