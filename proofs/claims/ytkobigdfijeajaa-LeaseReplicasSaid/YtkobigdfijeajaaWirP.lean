/- Varints, in plain words: what a writer appends, what a reader reads. No program in sight. -/
import Derived.Test.YtkobigdfijeajaaBit
set_option linter.unusedVariables false
set_option linter.unusedSimpArgs false
namespace Go.SL
def isB (b : Int) : Prop := 0 ≤ b ∧ b ≤ 255
instance (b : Int) : Decidable (isB b) := by unfold isB; infer_instance
/-- the varint of a number -/
def uvar (n : Nat) : List Int := if n < 128 then [(n : Int)] else ((n % 128 + 128 : Nat) : Int) :: uvar (n / 128)
termination_by n
decreasing_by omega
theorem uvar_lo {n : Nat} (h : n < 128) : uvar n = [(n : Int)] := by rw [uvar, if_pos h]
theorem uvar_hi {n : Nat} (h : ¬ n < 128) : uvar n = ((n % 128 + 128 : Nat) : Int) :: uvar (n / 128) := by rw [uvar, if_neg h]
theorem uvar_isB (n : Nat) : ∀ b ∈ uvar n, isB b := by
  induction n using Nat.strongRecOn with
  | _ n ih =>
    rw [uvar]; split
    · intro b hb; simp at hb; subst hb; unfold isB; omega
    · intro b hb; rcases List.mem_cons.1 hb with rfl | hb
      · unfold isB; omega
      · exact ih (n / 128) (by omega) b hb
theorem uvar_len (n k : Nat) (h : n < 128 ^ (k + 1)) : (uvar n).length ≤ k + 1 := by
  induction k generalizing n with
  | zero => rw [uvar_lo (by simpa using h)]; simp
  | succ k ih =>
    by_cases hn : n < 128
    · rw [uvar_lo hn]; simp
    · rw [uvar_hi hn]; simp only [List.length_cons]
      have := ih (n / 128) (by rw [Nat.pow_succ] at h; exact Nat.div_lt_of_lt_mul (by omega)); omega
theorem uvar_len10 {n : Nat} (h : n < 18446744073709551616) : (uvar n).length ≤ 10 := uvar_len n 9 (by omega)
/-- what a reader reads: a number and what is left, or an error (2: malformed, 3: incomplete) -/
def pu : Nat → List Int → Except Int (Nat × List Int)
  | _, [] => .error 3
  | i, c :: r => if (i = 9 ∧ 1 < c) ∨ (0 < i ∧ c = 0) then .error 2 else if c < 128 then .ok (c.toNat, r) else
    match pu (i + 1) r with
    | .ok (n, r') => .ok ((c - 128).toNat + 128 * n, r')
    | .error e => .error e
/-- a reader: what is left, the error -/
structure RS where
  rest : List Int
  e : Int
def rdU (s : RS) : Nat × RS := if s.e ≠ 0 then (0, s) else match pu 0 s.rest with
  | .ok (n, r) => (n, ⟨r, 0⟩)
  | .error c => (0, ⟨[], c⟩)
def rdI (s : RS) : Int × RS := (unzz (rdU s).1, (rdU s).2)
def rdO (s : RS) : Int × RS := if s.e ≠ 0 then (0, s) else match s.rest with
  | [] => (0, ⟨[], 3⟩)
  | c :: r => (c, ⟨r, 0⟩)
def rdB (s : RS) : Bool × RS := if 1 < (rdO s).1 then (false, ⟨[], 2⟩) else ((rdO s).1 == 1, (rdO s).2)
def rdRaw (s : RS) : List Int × RS := if (rdU s).2.e ≠ 0 then ([], (rdU s).2) else if (rdU s).2.rest.length < (rdU s).1 then ([], ⟨[], 3⟩) else ((rdU s).2.rest.take (rdU s).1, ⟨(rdU s).2.rest.drop (rdU s).1, 0⟩)
def rdEnd (s : RS) : Int := if s.e ≠ 0 then s.e else if s.rest = [] then 0 else 2
theorem mul_room {a n m q N : Nat} (hN : N = m * q) (ha : a < m) (hn : n * m < N) : a + n * m < N := by
  subst hN
  have hq : n < q := by
    rcases Nat.lt_or_ge n q with h | h
    · exact h
    · have := Nat.mul_le_mul_right m h; rw [Nat.mul_comm q] at this; omega
  have := Nat.mul_le_mul_right m (show n + 1 ≤ q by omega)
  rw [Nat.mul_comm q, Nat.add_mul] at this
  omega
theorem pu_bound {i n : Nat} {l r : List Int} (hl : ∀ b ∈ l, isB b) (hi : i ≤ 9) (h : pu i l = .ok (n, r)) : n * 128 ^ i < 18446744073709551616 ∧ ∃ k, k ≤ l.length ∧ r = l.drop k := by
  induction l generalizing i n r with
  | nil => simp [pu] at h
  | cons c l ih =>
    have hc := hl c (by simp)
    unfold isB at hc
    simp only [pu] at h
    split at h
    · cases h
    · rename_i h1
      split at h
      · rename_i h2
        simp at h; obtain ⟨rfl, rfl⟩ := h
        refine ⟨?_, 1, by simp, rfl⟩
        by_cases h9 : i = 9
        · subst h9
          have : c.toNat ≤ 1 := by omega
          have := Nat.mul_le_mul_right (128 ^ 9) this
          omega
        · have h8 : 128 ^ i ≤ 128 ^ 8 := Nat.pow_le_pow_right (by omega) (by omega)
          have : c.toNat ≤ 127 := by omega
          have := Nat.mul_le_mul this h8
          omega
      · rename_i h2
        split at h
        · rename_i n' r' hp
          simp at h; obtain ⟨rfl, rfl⟩ := h
          have h9 : i ≠ 9 := by omega
          obtain ⟨hb, k, hk, hr⟩ := ih (fun b hb => hl b (List.mem_cons_of_mem _ hb)) (by omega) hp
          refine ⟨?_, k + 1, by simp; omega, by simpa using hr⟩
          have h0 : n' ≠ 0 ∨ n' = 0 := by omega
          have hA : ((c - 128).toNat + 128 * n') * 128 ^ i = (c - 128).toNat * 128 ^ i + n' * 128 ^ (i + 1) := by rw [Nat.add_mul, Nat.pow_succ]; congr 1; rw [Nat.mul_comm 128 n', Nat.mul_assoc, Nat.mul_comm 128]
          rw [hA]
          clear hA
          -- n' * 128^(i+1) is a multiple of 128^(i+1), below 2^64; what is added is below 128^(i+1)
          have hd : (c - 128).toNat ≤ 127 := by omega
          have hlt : (c - 128).toNat * 128 ^ i < 128 ^ (i + 1) := by
            rw [Nat.pow_succ, Nat.mul_comm (128 ^ i)]
            exact Nat.mul_lt_mul_of_pos_right (by omega) (Nat.pow_pos (by omega))
          obtain ⟨q, hdvd⟩ : ∃ q, 18446744073709551616 = 128 ^ (i + 1) * q := by
              have : i = 0 ∨ i = 1 ∨ i = 2 ∨ i = 3 ∨ i = 4 ∨ i = 5 ∨ i = 6 ∨ i = 7 ∨ i = 8 := by omega
              rcases this with h | h | h | h | h | h | h | h | h <;> subst h
              · exact ⟨2 ^ 57, rfl⟩
              · exact ⟨2 ^ 50, rfl⟩
              · exact ⟨2 ^ 43, rfl⟩
              · exact ⟨2 ^ 36, rfl⟩
              · exact ⟨2 ^ 29, rfl⟩
              · exact ⟨2 ^ 22, rfl⟩
              · exact ⟨2 ^ 15, rfl⟩
              · exact ⟨2 ^ 8, rfl⟩
              · exact ⟨2, rfl⟩
          have hfin := @mul_room ((c - 128).toNat * 128 ^ i) n' (128 ^ (i + 1)) q 18446744073709551616 hdvd hlt hb
          exact hfin
        · cases h
theorem pu_uvar (n : Nat) : ∀ (i : Nat) (r : List Int), n * 128 ^ i < 18446744073709551616 → (i = 0 ∨ n ≠ 0) → i ≤ 9 → pu i (uvar n ++ r) = .ok (n, r) := by
  induction n using Nat.strongRecOn with
  | _ n ih =>
    intro i r hb h0 hi
    have h9 : i = 9 → n ≤ 1 := by
      rintro rfl
      rcases Nat.lt_or_ge n 2 with h | h
      · omega
      · have h2 := Nat.mul_le_mul_right (128 ^ 9) h
        have h3 : 2 * 128 ^ 9 = 18446744073709551616 := by decide +kernel
        rw [h3] at h2; exact absurd hb (Nat.not_lt.2 h2)
    by_cases hn : n < 128
    · rw [uvar_lo hn]
      simp only [List.cons_append, List.nil_append, pu]
      rw [if_neg (by omega), if_pos (by omega)]; simp
    · rw [uvar_hi hn]
      simp only [List.cons_append, pu]
      have h5 : n / 128 * 128 ^ (i + 1) ≤ n * 128 ^ i := by
        rw [Nat.pow_succ, Nat.mul_comm (128 ^ i), ← Nat.mul_assoc]
        exact Nat.mul_le_mul_right _ (Nat.div_mul_le_self n 128)
      rw [if_neg (by omega), if_neg (by omega), ih (n / 128) (by omega) (i + 1) r (Nat.lt_of_le_of_lt h5 hb) (by omega) (by omega)]
      simp only [Except.ok.injEq, Prod.mk.injEq, and_true]
      omega
theorem rdU_uvar {n : Nat} {r : List Int} (h : n < 18446744073709551616) : rdU ⟨uvar n ++ r, 0⟩ = (n, ⟨r, 0⟩) := by
  rw [rdU, if_neg (by simp), pu_uvar n 0 r (by simpa using h) (.inl rfl) (by omega)]
theorem rdI_uvar {n : Int} {r : List Int} (h : -9223372036854775808 ≤ n ∧ n ≤ 9223372036854775807) : rdI ⟨uvar (zz n) ++ r, 0⟩ = (n, ⟨r, 0⟩) := by
  rw [rdI, rdU_uvar (zz_lt h), unzz_zz]
theorem rdRaw_uvar {bs r : List Int} (h : bs.length < 18446744073709551616) : rdRaw ⟨uvar bs.length ++ (bs ++ r), 0⟩ = (bs, ⟨r, 0⟩) := by
  rw [rdRaw, rdU_uvar h]; simp
end Go.SL
