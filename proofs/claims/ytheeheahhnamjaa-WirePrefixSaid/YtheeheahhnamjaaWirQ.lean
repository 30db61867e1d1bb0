/- Plain laws: one encoding; proper prefixes. -/
import Derived.Test.YtheeheahhnamjaaWirT
set_option linter.unusedVariables false
set_option linter.unusedSimpArgs false
namespace Go.Proofs.Ytheeheahhnamjaa
open Go.SL
theorem pu_inv {l : List Int} : ∀ {i n : Nat} {r : List Int}, (∀ b ∈ l, isB b) → pu i l = .ok (n, r) → l = uvar n ++ r ∧ (0 < i → n ≠ 0) := by
  induction l with
  | nil => intro i n r _ h; simp [pu] at h
  | cons c l ih =>
    intro i n r hl h
    have hc := hl c (by simp)
    unfold isB at hc
    simp only [pu] at h
    split at h
    · cases h
    · rename_i h1
      split at h
      · simp at h; obtain ⟨rfl, rfl⟩ := h
        refine ⟨?_, by omega⟩
        rw [uvar_lo (by omega)]; simp; omega
      · split at h
        · rename_i n' r' hp
          simp at h; obtain ⟨rfl, rfl⟩ := h
          obtain ⟨h2, h3⟩ := ih (fun b hb => hl b (List.mem_cons_of_mem _ hb)) hp
          have h4 := h3 (by omega)
          refine ⟨?_, by omega⟩
          rw [uvar_hi (by omega), show ((c - 128).toNat + 128 * n') / 128 = n' by omega, List.cons_append, ← h2]
          congr 1; omega
        · cases h
theorem rdU_inv {s : RS} (hb : s.e = 0 → ∀ b ∈ s.rest, isB b) (h : (rdU s).2.e = 0) : s.e = 0 ∧ s.rest = uvar (rdU s).1 ++ (rdU s).2.rest := by
  have h0 := (rdU_rest hb h).1
  refine ⟨h0, ?_⟩
  unfold rdU at h ⊢
  rw [if_neg (by simpa using h0)] at h ⊢
  split at h
  · rename_i n r hp; exact (pu_inv (hb h0) hp).1
  · rename_i c hp
    exfalso
    have := rdU_rest (s := s) hb
    rw [rdU, if_neg (by simpa using h0), hp] at this
    obtain ⟨_, k, _, hk⟩ := this h
    -- an error is never 0
    have key : ∀ (l : List Int) (i : Nat) (c : Int), pu i l = .error c → c = 2 ∨ c = 3 := by
      intro l
      induction l with
      | nil => intro i c h; simp [pu] at h; omega
      | cons b l ih =>
        intro i c h
        simp only [pu] at h
        split at h
        · cases h; exact .inl rfl
        · split at h
          · cases h
          · split at h
            · cases h
            · rename_i e he; cases h; exact ih _ _ he
    have := key _ _ _ hp
    simp only at h; omega
theorem isB_after {s : RS} (hb : s.e = 0 → ∀ b ∈ s.rest, isB b) (h : (rdU s).2.e = 0) : ∀ b ∈ (rdU s).2.rest, isB b := by
  obtain ⟨h0, h1⟩ := rdU_inv hb h
  intro b hbb
  exact hb h0 b (by rw [h1]; exact List.mem_append_right _ hbb)
theorem rdN_inv (n : Nat) : ∀ {s : RS}, s.e = 0 → (∀ b ∈ s.rest, isB b) → (rdN n s).2.e = 0 → s.rest = encInts (rdN n s).1 ++ (rdN n s).2.rest ∧ (rdN n s).1.length = n := by
  induction n with
  | zero => intro s _ _ _; simp [rdN, encInts]
  | succ n ih =>
    intro s h0 hb h
    rw [rdN] at h ⊢
    split at h
    · rename_i h1; exact absurd h h1
    · rename_i h1
      rw [if_neg h1]
      split at h
      · rename_i h2; exact absurd h h2
      · rename_i h2
        rw [if_neg h2]
        have h3 : (rdU s).2.e = 0 := by simpa [rdI] using h1
        obtain ⟨_, h4⟩ := rdU_inv (fun _ => hb) h3
        obtain ⟨h5, h6⟩ := ih (s := (rdI s).2) (by simpa using h1) (isB_after (fun _ => hb) h3) h
        refine ⟨?_, by simp [h6]⟩
        simp only
        rw [h4, encInts, List.flatMap_cons, List.append_assoc]
        have h7 : (rdI s).2.rest = (rdU s).2.rest := rfl
        rw [← h7, h5]
        simp only [rdI, zz_unzz, encInts]
theorem rdV_inv {k : Int} {s : RS} (hb : s.e = 0 → ∀ b ∈ s.rest, isB b) (h : (rdV k s).2.e = 0) : s.e = 0 ∧ s.rest = encV (rdV k s).1 ++ (rdV k s).2.rest := by
  unfold rdV at h ⊢
  split at h
  · rename_i hk; simp only [if_pos hk, encV]; exact rdU_inv hb h
  · rename_i hk0
    rw [if_neg hk0]
    split at h
    · rename_i hk; simp only [if_pos hk, encV, if_neg hk0, rdI, zz_unzz]; exact rdU_inv hb h
    · rename_i hk1
      rw [if_neg hk1]
      split at h
      · rename_i hk
        simp only [if_pos hk, encV, if_neg hk0, if_neg hk1]
        simp only at h
        unfold rdB at h ⊢
        split at h
        · cases h
        · rename_i h1
          rw [if_neg h1]
          simp only at h ⊢
          unfold rdO at h h1 ⊢
          split at h
          · rename_i h2; exact absurd h h2
          · rename_i h2
            have h0 : s.e = 0 := by simpa using h2
            rw [if_neg h2] at h1 ⊢
            refine ⟨h0, ?_⟩
            cases hr : s.rest with
            | nil => rw [hr] at h; cases h
            | cons c r =>
              rw [hr] at h1
              have hc := hb h0 c (by rw [hr]; simp)
              unfold isB at hc
              simp only at h1 ⊢
              have : c = 0 ∨ c = 1 := by omega
              rcases this with rfl | rfl <;> simp
      · rename_i hk2
        rw [if_neg hk2]
        split at h
        · rename_i hk
          simp only [if_pos hk, encV, if_neg hk0, if_neg hk1, if_neg hk2]
          simp only at h
          unfold rdRaw at h ⊢
          split at h
          · rename_i h1; exact absurd h h1
          · rename_i h1
            rw [if_neg h1]
            split at h
            · cases h
            · rename_i h2
              rw [if_neg h2]
              obtain ⟨h0, h3⟩ := rdU_inv hb (by simpa using h1)
              refine ⟨h0, ?_⟩
              simp only
              rw [List.length_take, Nat.min_eq_left (by omega), List.append_assoc, List.take_append_drop]; exact h3
        · rename_i hk3
          simp only [if_neg hk3, encV, if_neg hk0, if_neg hk1, if_neg hk2]
          simp only at h
          unfold rdInts at h ⊢
          split at h
          · rename_i h1; exact absurd h h1
          · rename_i h1
            rw [if_neg h1]
            split at h
            · cases h
            · rename_i h2
              rw [if_neg h2]
              have h1' : (rdU s).2.e = 0 := by simpa using h1
              obtain ⟨h0, h3⟩ := rdU_inv hb h1'
              obtain ⟨h4, h5⟩ := rdN_inv (rdU s).1 h1' (isB_after hb h1') h
              refine ⟨h0, ?_⟩
              rw [h5, List.append_assoc, ← h4]; exact h3
theorem pu_pre (n : Nat) : ∀ (i k : Nat), k < (uvar n).length → n * 128 ^ i < 18446744073709551616 → (i = 0 ∨ n ≠ 0) → i ≤ 9 → pu i ((uvar n).take k) = .error 3 := by
  induction n using Nat.strongRecOn with
  | _ n ih =>
    intro i k hk hb h0 hi
    cases k with
    | zero => rfl
    | succ k =>
      by_cases hn : n < 128
      · rw [uvar_lo hn] at hk; simp at hk
      · have h9 : i ≠ 9 := by
          rintro rfl
          have h2 := Nat.mul_le_mul_right (128 ^ 9) (show 2 ≤ n by omega)
          have h3 : 2 * 128 ^ 9 = 18446744073709551616 := by decide +kernel
          rw [h3] at h2; exact absurd hb (Nat.not_lt.2 h2)
        rw [uvar_hi hn] at hk ⊢
        simp only [List.take_succ_cons, pu]
        have h5 : n / 128 * 128 ^ (i + 1) ≤ n * 128 ^ i := by
          rw [Nat.pow_succ, Nat.mul_comm (128 ^ i), ← Nat.mul_assoc]
          exact Nat.mul_le_mul_right _ (Nat.div_mul_le_self n 128)
        rw [if_neg (by omega), if_neg (by omega), ih (n / 128) (by omega) (i + 1) k (by simpa using hk) (Nat.lt_of_le_of_lt h5 hb) (by omega) (by omega)]
theorem rdU_pre {n k : Nat} (h : n < 18446744073709551616) (hk : k < (uvar n).length) : rdU ⟨(uvar n).take k, 0⟩ = (0, ⟨[], 3⟩) := by
  rw [rdU, if_neg (by simp), pu_pre n 0 k hk (by simpa using h) (.inl rfl) (by omega)]
theorem rdN_pre (ls : List Int) : ∀ k, k < (encInts ls).length → (∀ z ∈ ls, isI64 z) → (rdN ls.length ⟨(encInts ls).take k, 0⟩).2.e = 3 := by
  induction ls with
  | nil => intro k hk; simp [encInts] at hk
  | cons z ls ih =>
    intro k hk hz
    have hzz := zz_lt (hz z (by simp))
    have he : encInts (z :: ls) = uvar (zz z) ++ encInts ls := rfl
    rw [he] at hk ⊢
    rw [List.length_cons, rdN]
    rcases Nat.lt_or_ge k (uvar (zz z)).length with h | h
    · have h1 : (uvar (zz z) ++ encInts ls).take k = (uvar (zz z)).take k := by rw [List.take_append_of_le_length (by omega)]
      rw [h1]
      have h2 : rdI ⟨(uvar (zz z)).take k, 0⟩ = (unzz 0, ⟨[], 3⟩) := by rw [rdI, rdU_pre hzz h]
      rw [h2, if_pos (by simp)]
    · obtain ⟨k', rfl⟩ : ∃ k', k = (uvar (zz z)).length + k' := ⟨k - (uvar (zz z)).length, by omega⟩
      rw [List.take_length_add_append]
      have h3 := rdI_uvar (r := (encInts ls).take k') (hz z (by simp))
      rw [h3, if_neg (by simp)]
      simp only
      have h4 := ih k' (by rw [List.length_append] at hk; omega) (fun q hq => hz q (List.mem_cons_of_mem _ hq))
      rw [if_pos (by rw [h4]; decide), h4]
theorem rdV_pre {p : PV} {k : Nat} (h : p.ok) (hn : p.norm) (hk : k < (encV p).length) : (rdV p.kind ⟨(encV p).take k, 0⟩).2.e = 3 := by
  obtain ⟨kd, u, n, bs, ls⟩ := p
  obtain ⟨hu, hnn, hb, hl, hbl, hll⟩ := h
  simp only at hu hnn hb hl hbl hll hk ⊢
  rcases hn with ⟨rfl, rfl, rfl, rfl⟩ | ⟨rfl, rfl, rfl, rfl⟩ | ⟨rfl, rfl, h01, rfl, rfl⟩ | ⟨h34, rfl, rfl, rfl⟩ | ⟨rfl, rfl, rfl, rfl⟩
  · have h1 : encV ⟨0, u, 0, [], []⟩ = uvar u := by simp [encV]
    rw [h1] at hk ⊢
    rw [rdV, if_pos rfl, rdU_pre hu hk]
  · have h1 : encV ⟨1, 0, n, [], []⟩ = uvar (zz n) := by simp [encV]
    rw [h1] at hk ⊢
    rw [rdV, if_neg (by simp), if_pos rfl, rdI, rdU_pre (zz_lt hnn) hk]
  · have h1 : encV ⟨2, 0, n, [], []⟩ = [if n = 1 then 1 else 0] := by simp [encV]
    rw [h1] at hk ⊢
    have : k = 0 := by simpa using hk
    subst this
    simp [rdV, rdB, rdO]
  · simp only at h34
    have h1 : encV ⟨kd, 0, 0, bs, []⟩ = uvar bs.length ++ bs := by rw [encV, if_neg (by simp only; omega), if_neg (by simp only; omega), if_neg (by simp only; omega), if_pos h34]
    rw [h1] at hk ⊢
    rw [rdV, if_neg (by omega), if_neg (by omega), if_neg (by omega), if_pos h34]
    simp only
    rcases Nat.lt_or_ge k (uvar bs.length).length with h | h
    · rw [List.take_append_of_le_length (by omega), rdRaw, rdU_pre (by omega) h]; simp
    · obtain ⟨k', rfl⟩ : ∃ k', k = (uvar bs.length).length + k' := ⟨k - (uvar bs.length).length, by omega⟩
      rw [List.length_append] at hk
      rw [List.take_length_add_append, rdRaw, rdU_uvar (by omega)]
      simp only
      rw [if_neg (by simp), if_pos (by rw [List.length_take]; omega)]
  · have h1 : encV ⟨5, 0, 0, [], ls⟩ = uvar ls.length ++ encInts ls := by simp [encV]
    rw [h1] at hk ⊢
    rw [rdV, if_neg (by simp), if_neg (by simp), if_neg (by simp), if_neg (by simp)]
    simp only
    rcases Nat.lt_or_ge k (uvar ls.length).length with h | h
    · rw [List.take_append_of_le_length (by omega), rdInts, rdU_pre (by omega) h]; simp
    · obtain ⟨k', rfl⟩ : ∃ k', k = (uvar ls.length).length + k' := ⟨k - (uvar ls.length).length, by omega⟩
      rw [List.length_append] at hk
      rw [List.take_length_add_append, rdInts, rdU_uvar (by omega)]
      simp only
      rw [if_neg (by simp)]
      split
      · rfl
      · exact rdN_pre ls k' (by omega) hl
theorem rdV_err {s : RS} (k : Int) (h : s.e ≠ 0) : rdV k s = (⟨k, 0, 0, [], []⟩, s) := by
  have h1 : rdU s = (0, s) := by rw [rdU, if_pos h]
  have h2 : rdO s = (0, s) := by rw [rdO, if_pos h]
  simp only [rdV, rdI, rdB, rdRaw, rdInts, h1, h2]
  have h3 : unzz 0 = 0 := rfl
  rw [h3]
  split
  · rfl
  · split
    · rfl
    · split
      · simp
      · split
        · rfl
        · rfl
end Go.Proofs.Ytheeheahhnamjaa
