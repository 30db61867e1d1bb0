/- Varints, in plain words: what a writer appends, what a reader reads. No program in sight. -/
import Derived.Test.YtkobigdfijeajaaBit
set_option linter.unusedVariables false
set_option linter.unusedSimpArgs false
namespace Go.SL
def isB (b : Int) : Prop := 0 ≤ b ∧ b ≤ 255
instance (b : Int) : Decidable (isB b) := by unfold isB; infer_instance
/-- the varint of a number -/
def uvar (n : Nat) : List Int := if n < 128 then [(n : Int)] else ((n % 128 + 128 : Nat) : Int) :: uvar (n / 128)
termination_by n
decreasing_by omega
theorem uvar_lo {n : Nat} (h : n < 128) : uvar n = [(n : Int)] := by rw [uvar, if_pos h]
theorem uvar_hi {n : Nat} (h : ¬ n < 128) : uvar n = ((n % 128 + 128 : Nat) : Int) :: uvar (n / 128) := by rw [uvar, if_neg h]
theorem uvar_ne (n : Nat) : uvar n ≠ [] := by rw [uvar]; split <;> simp
theorem uvar_isB (n : Nat) : ∀ b ∈ uvar n, isB b := by
  induction n using Nat.strongRecOn with
  | _ n ih =>
    rw [uvar]; split
    · intro b hb; simp at hb; subst hb; unfold isB; omega
    · intro b hb; rcases List.mem_cons.1 hb with rfl | hb
      · unfold isB; omega
      · exact ih (n / 128) (by omega) b hb
theorem uvar_len (n k : Nat) (h : n < 128 ^ (k + 1)) : (uvar n).length ≤ k + 1 := by
  induction k generalizing n with
  | zero => rw [uvar_lo (by simpa using h)]; simp
  | succ k ih =>
    by_cases hn : n < 128
    · rw [uvar_lo hn]; simp
    · rw [uvar_hi hn]; simp only [List.length_cons]
      have := ih (n / 128) (by rw [Nat.pow_succ] at h; exact Nat.div_lt_of_lt_mul (by omega)); omega
theorem uvar_len10 {n : Nat} (h : n < 18446744073709551616) : (uvar n).length ≤ 10 := uvar_len n 9 (by omega)
/-- what a reader reads: a number and what is left, or an error (2: malformed, 3: incomplete) -/
def pu : Nat → List Int → Except Int (Nat × List Int)
  | _, [] => .error 3
  | i, c :: r => if (i = 9 ∧ 1 < c) ∨ (0 < i ∧ c = 0) then .error 2 else if c < 128 then .ok (c.toNat, r) else
    match pu (i + 1) r with
    | .ok (n, r') => .ok ((c - 128).toNat + 128 * n, r')
    | .error e => .error e
/-- a reader: what is left, the error -/
structure RS where
  rest : List Int
  e : Int
def rdU (s : RS) : Nat × RS := if s.e ≠ 0 then (0, s) else match pu 0 s.rest with
  | .ok (n, r) => (n, ⟨r, 0⟩)
  | .error c => (0, ⟨[], c⟩)
def rdI (s : RS) : Int × RS := (unzz (rdU s).1, (rdU s).2)
def rdO (s : RS) : Int × RS := if s.e ≠ 0 then (0, s) else match s.rest with
  | [] => (0, ⟨[], 3⟩)
  | c :: r => (c, ⟨r, 0⟩)
def rdB (s : RS) : Bool × RS := if 1 < (rdO s).1 then (false, ⟨[], 2⟩) else ((rdO s).1 == 1, (rdO s).2)
def rdRaw (s : RS) : List Int × RS := if (rdU s).2.e ≠ 0 then ([], (rdU s).2) else if (rdU s).2.rest.length < (rdU s).1 then ([], ⟨[], 3⟩) else ((rdU s).2.rest.take (rdU s).1, ⟨(rdU s).2.rest.drop (rdU s).1, 0⟩)
def rdN : Nat → RS → List Int × RS
  | 0, s => ([], s)
  | n + 1, s => if (rdI s).2.e ≠ 0 then ([], (rdI s).2) else if (rdN n (rdI s).2).2.e ≠ 0 then ([], (rdN n (rdI s).2).2) else ((rdI s).1 :: (rdN n (rdI s).2).1, (rdN n (rdI s).2).2)
def rdInts (s : RS) : List Int × RS := if (rdU s).2.e ≠ 0 then ([], (rdU s).2) else if (rdU s).2.rest.length < (rdU s).1 then ([], ⟨[], 3⟩) else rdN (rdU s).1 (rdU s).2
def rdEnd (s : RS) : Int := if s.e ≠ 0 then s.e else if s.rest = [] then 0 else 2
def comb (acc : List Int) (x : List Int × RS) : List Int × RS := if x.2.e ≠ 0 then ([], x.2) else (acc ++ x.1, x.2)
theorem comb_comb (a b : List Int) (x : List Int × RS) : comb a (comb b x) = comb (a ++ b) x := by
  unfold comb; split <;> simp_all
theorem rdN_succ (n : Nat) (s : RS) : rdN (n + 1) s = if (rdI s).2.e ≠ 0 then ([], (rdI s).2) else comb [(rdI s).1] (rdN n (rdI s).2) := by
  rw [rdN]; split
  · rfl
  · unfold comb; split <;> rfl
theorem comb_nil (n : Nat) (s : RS) : comb [] (rdN n s) = rdN n s := by
  unfold comb
  split
  · rename_i h
    cases n with
    | zero => rfl
    | succ n =>
      rw [rdN] at h ⊢
      split at h <;> rename_i h1
      · rw [if_pos h1]
      · rw [if_neg h1]
        split at h <;> rename_i h2
        · rw [if_pos h2]
        · exact absurd h h2
  · rfl
theorem mul_room {a n m q N : Nat} (hN : N = m * q) (ha : a < m) (hn : n * m < N) : a + n * m < N := by
  subst hN
  have hq : n < q := by
    rcases Nat.lt_or_ge n q with h | h
    · exact h
    · have := Nat.mul_le_mul_right m h; rw [Nat.mul_comm q] at this; omega
  have := Nat.mul_le_mul_right m (show n + 1 ≤ q by omega)
  rw [Nat.mul_comm q, Nat.add_mul] at this
  omega
theorem pu_bound {i n : Nat} {l r : List Int} (hl : ∀ b ∈ l, isB b) (hi : i ≤ 9) (h : pu i l = .ok (n, r)) : n * 128 ^ i < 18446744073709551616 ∧ ∃ k, k ≤ l.length ∧ r = l.drop k := by
  induction l generalizing i n r with
  | nil => simp [pu] at h
  | cons c l ih =>
    have hc := hl c (by simp)
    unfold isB at hc
    simp only [pu] at h
    split at h
    · cases h
    · rename_i h1
      split at h
      · rename_i h2
        simp at h; obtain ⟨rfl, rfl⟩ := h
        refine ⟨?_, 1, by simp, rfl⟩
        by_cases h9 : i = 9
        · subst h9
          have : c.toNat ≤ 1 := by omega
          have := Nat.mul_le_mul_right (128 ^ 9) this
          omega
        · have h8 : 128 ^ i ≤ 128 ^ 8 := Nat.pow_le_pow_right (by omega) (by omega)
          have : c.toNat ≤ 127 := by omega
          have := Nat.mul_le_mul this h8
          omega
      · rename_i h2
        split at h
        · rename_i n' r' hp
          simp at h; obtain ⟨rfl, rfl⟩ := h
          have h9 : i ≠ 9 := by omega
          obtain ⟨hb, k, hk, hr⟩ := ih (fun b hb => hl b (List.mem_cons_of_mem _ hb)) (by omega) hp
          refine ⟨?_, k + 1, by simp; omega, by simpa using hr⟩
          have h0 : n' ≠ 0 ∨ n' = 0 := by omega
          have hA : ((c - 128).toNat + 128 * n') * 128 ^ i = (c - 128).toNat * 128 ^ i + n' * 128 ^ (i + 1) := by rw [Nat.add_mul, Nat.pow_succ]; congr 1; rw [Nat.mul_comm 128 n', Nat.mul_assoc, Nat.mul_comm 128]
          rw [hA]
          clear hA
          -- n' * 128^(i+1) is a multiple of 128^(i+1), below 2^64; what is added is below 128^(i+1)
          have hd : (c - 128).toNat ≤ 127 := by omega
          have hlt : (c - 128).toNat * 128 ^ i < 128 ^ (i + 1) := by
            rw [Nat.pow_succ, Nat.mul_comm (128 ^ i)]
            exact Nat.mul_lt_mul_of_pos_right (by omega) (Nat.pow_pos (by omega))
          obtain ⟨q, hdvd⟩ : ∃ q, 18446744073709551616 = 128 ^ (i + 1) * q := by
              have : i = 0 ∨ i = 1 ∨ i = 2 ∨ i = 3 ∨ i = 4 ∨ i = 5 ∨ i = 6 ∨ i = 7 ∨ i = 8 := by omega
              rcases this with h | h | h | h | h | h | h | h | h <;> subst h
              · exact ⟨2 ^ 57, rfl⟩
              · exact ⟨2 ^ 50, rfl⟩
              · exact ⟨2 ^ 43, rfl⟩
              · exact ⟨2 ^ 36, rfl⟩
              · exact ⟨2 ^ 29, rfl⟩
              · exact ⟨2 ^ 22, rfl⟩
              · exact ⟨2 ^ 15, rfl⟩
              · exact ⟨2 ^ 8, rfl⟩
              · exact ⟨2, rfl⟩
          have hfin := @mul_room ((c - 128).toNat * 128 ^ i) n' (128 ^ (i + 1)) q 18446744073709551616 hdvd hlt hb
          exact hfin
        · cases h
theorem pu_uvar (n : Nat) : ∀ (i : Nat) (r : List Int), n * 128 ^ i < 18446744073709551616 → (i = 0 ∨ n ≠ 0) → i ≤ 9 → pu i (uvar n ++ r) = .ok (n, r) := by
  induction n using Nat.strongRecOn with
  | _ n ih =>
    intro i r hb h0 hi
    have h9 : i = 9 → n ≤ 1 := by
      rintro rfl
      rcases Nat.lt_or_ge n 2 with h | h
      · omega
      · have h2 := Nat.mul_le_mul_right (128 ^ 9) h
        have h3 : 2 * 128 ^ 9 = 18446744073709551616 := by decide +kernel
        rw [h3] at h2; exact absurd hb (Nat.not_lt.2 h2)
    by_cases hn : n < 128
    · rw [uvar_lo hn]
      simp only [List.cons_append, List.nil_append, pu]
      rw [if_neg (by omega), if_pos (by omega)]; simp
    · rw [uvar_hi hn]
      simp only [List.cons_append, pu]
      have h5 : n / 128 * 128 ^ (i + 1) ≤ n * 128 ^ i := by
        rw [Nat.pow_succ, Nat.mul_comm (128 ^ i), ← Nat.mul_assoc]
        exact Nat.mul_le_mul_right _ (Nat.div_mul_le_self n 128)
      rw [if_neg (by omega), if_neg (by omega), ih (n / 128) (by omega) (i + 1) r (Nat.lt_of_le_of_lt h5 hb) (by omega) (by omega)]
      simp only [Except.ok.injEq, Prod.mk.injEq, and_true]
      omega
theorem rdU_uvar {n : Nat} {r : List Int} (h : n < 18446744073709551616) : rdU ⟨uvar n ++ r, 0⟩ = (n, ⟨r, 0⟩) := by
  rw [rdU, if_neg (by simp), pu_uvar n 0 r (by simpa using h) (.inl rfl) (by omega)]
theorem rdI_uvar {n : Int} {r : List Int} (h : -9223372036854775808 ≤ n ∧ n ≤ 9223372036854775807) : rdI ⟨uvar (zz n) ++ r, 0⟩ = (n, ⟨r, 0⟩) := by
  rw [rdI, rdU_uvar (zz_lt h), unzz_zz]
theorem rdRaw_uvar {bs r : List Int} (h : bs.length < 18446744073709551616) : rdRaw ⟨uvar bs.length ++ (bs ++ r), 0⟩ = (bs, ⟨r, 0⟩) := by
  rw [rdRaw, rdU_uvar h]; simp
theorem rdN_enc (xs r : List Int) (h : ∀ z ∈ xs, -9223372036854775808 ≤ z ∧ z ≤ 9223372036854775807) : rdN xs.length ⟨xs.flatMap (fun n => uvar (zz n)) ++ r, 0⟩ = (xs, ⟨r, 0⟩) := by
  induction xs with
  | nil => rfl
  | cons x xs ih =>
    rw [List.length_cons, rdN, List.flatMap_cons, List.append_assoc, rdI_uvar (h x (by simp)), if_neg (by simp)]
    simp only
    rw [ih (fun z hz => h z (List.mem_cons_of_mem _ hz))]; simp
theorem enc_length (xs : List Int) : xs.length ≤ (xs.flatMap (fun n => uvar (zz n))).length := by
  induction xs with
  | nil => simp
  | cons x xs ih =>
    rw [List.flatMap_cons, List.length_append, List.length_cons]
    have := List.length_pos_iff.2 (uvar_ne (zz x)); omega
theorem rdInts_uvar {xs r : List Int} (h : ∀ z ∈ xs, -9223372036854775808 ≤ z ∧ z ≤ 9223372036854775807) (hl : xs.length < 18446744073709551616) : rdInts ⟨uvar xs.length ++ (xs.flatMap (fun n => uvar (zz n)) ++ r), 0⟩ = (xs, ⟨r, 0⟩) := by
  rw [rdInts, rdU_uvar hl]
  simp only
  rw [if_neg (by simp), if_neg (by have := enc_length xs; rw [List.length_append]; omega), rdN_enc xs r h]
theorem uvar_step (k : Nat) : (uvar k).length = 1 + if k / 128 = 0 then 0 else (uvar (k / 128)).length := by
  by_cases h : k < 128
  · rw [uvar_lo h, if_pos (by omega)]; rfl
  · rw [uvar_hi h, if_neg (by omega)]; simp; omega
theorem rdU_rest {s : RS} (h : s.e = 0 → ∀ b ∈ s.rest, isB b) (he : (rdU s).2.e = 0) : s.e = 0 ∧ ∃ k, k ≤ s.rest.length ∧ (rdU s).2.rest = s.rest.drop k := by
  unfold rdU at he ⊢
  split at he
  · rename_i h1; exact absurd he h1
  · rename_i h1
    have h0 : s.e = 0 := by simpa using h1
    rw [if_neg h1]
    split at he
    · rename_i n r hp
      have := (pu_bound (h h0) (by omega) hp).2
      exact ⟨h0, this⟩
    · rename_i c hp
      exfalso
      have key : ∀ (l : List Int) (i : Nat) (c : Int), pu i l = .error c → c = 2 ∨ c = 3 := by
        intro l
        induction l with
        | nil => intro i c h; simp [pu] at h; omega
        | cons b l ih =>
          intro i c h
          simp only [pu] at h
          split at h
          · cases h; exact .inl rfl
          · split at h
            · cases h
            · split at h
              · cases h
              · rename_i e he; cases h; exact ih _ _ he
      have := key _ _ _ hp
      simp only at he; omega
theorem rdU_lt' {s : RS} (h : s.e = 0 → ∀ b ∈ s.rest, isB b) : (rdU s).1 < 18446744073709551616 := by
  unfold rdU
  split
  · simp
  · rename_i he
    split
    · rename_i n r hp
      have := (pu_bound (h (by simpa using he)) (by omega) hp).1
      simpa using this
    · simp
theorem rdRaw_mem {s : RS} {N : Nat} (h : s.e = 0 → (∀ b ∈ s.rest, isB b) ∧ s.rest.length ≤ N) : (∀ b ∈ (rdRaw s).1, isB b) ∧ (rdRaw s).1.length ≤ N := by
  unfold rdRaw
  split
  · simp
  · rename_i h1
    obtain ⟨h0, k, hk, hr⟩ := rdU_rest (fun h' => (h h').1) (by simpa using h1)
    split
    · simp
    · refine ⟨fun b hb => ?_, ?_⟩
      · simp only [hr] at hb; exact (h h0).1 b (List.mem_of_mem_drop (List.mem_of_mem_take hb))
      · simp only [hr, List.length_take, List.length_drop]; have := (h h0).2; omega
theorem rdN_mem (n : Nat) : ∀ {s : RS}, s.e = 0 → (∀ b ∈ s.rest, isB b) → (∀ z ∈ (rdN n s).1, -9223372036854775808 ≤ z ∧ z ≤ 9223372036854775807) ∧ (rdN n s).1.length ≤ n := by
  induction n with
  | zero => intro s _ _; simp [rdN]
  | succ n ih =>
    intro s he h
    rw [rdN]
    split
    · simp
    · rename_i h1
      split
      · simp
      · obtain ⟨_, k, _, hr⟩ := rdU_rest (fun _ => h) (show (rdU s).2.e = 0 by simpa [rdI] using h1)
        obtain ⟨i1, i2⟩ := ih (s := (rdI s).2) (by simpa using h1) (by intro b hb; simp only [rdI, hr] at hb; exact h b (List.mem_of_mem_drop hb))
        refine ⟨fun z hz => ?_, by simp only [List.length_cons]; omega⟩
        rcases List.mem_cons.1 hz with rfl | hz
        · exact unzz_in (rdU_lt' (fun _ => h))
        · exact i1 z hz
theorem rdInts_mem {s : RS} {N : Nat} (h : s.e = 0 → (∀ b ∈ s.rest, isB b) ∧ s.rest.length ≤ N) : (∀ z ∈ (rdInts s).1, -9223372036854775808 ≤ z ∧ z ≤ 9223372036854775807) ∧ (rdInts s).1.length ≤ N := by
  unfold rdInts
  split
  · simp
  · rename_i h1
    obtain ⟨h0, k, hk, hr⟩ := rdU_rest (fun h' => (h h').1) (by simpa using h1)
    split
    · simp
    · rename_i h2
      obtain ⟨i1, i2⟩ := rdN_mem (rdU s).1 (s := (rdU s).2) (by simpa using h1) (by intro b hb; rw [hr] at hb; exact (h h0).1 b (List.mem_of_mem_drop hb))
      refine ⟨i1, ?_⟩
      rw [hr, List.length_drop] at h2
      have := (h h0).2; omega
end Go.SL
