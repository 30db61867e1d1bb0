/- Sorted lists of labels: plain. -/
import Derived.Test.YtmjjdcfakkaiiaaDeG
set_option linter.unusedVariables false
set_option linter.unusedSimpArgs false
namespace Go.Proofs.Ytmjjdcfakkaiiaa
open Go.SL
theorem lex_irr : ∀ a : List Int, lexLt a a = false
  | [] => rfl
  | x :: a => by simp [lexLt, lex_irr a]
theorem lex_trans : ∀ {a b c : List Int}, lexLt a b = true → lexLt b c = true → lexLt a c = true
  | _, _, [], _, h => by cases ‹List Int› <;> simp [lexLt] at h
  | _, [], _ :: _, h, _ => by cases ‹List Int› <;> simp [lexLt] at h
  | [], _ :: _, _ :: _, _, _ => rfl
  | x :: a, y :: b, z :: c, h1, h2 => by
    simp only [lexLt, Bool.or_eq_true, Bool.and_eq_true, decide_eq_true_eq] at h1 h2 ⊢
    rcases h1 with h1 | ⟨h1, h1'⟩ <;> rcases h2 with h2 | ⟨h2, h2'⟩
    · left; omega
    · left; omega
    · left; omega
    · right; exact ⟨by omega, lex_trans h1' h2'⟩
theorem lex_total : ∀ {a b : List Int}, a ≠ b → lexLt a b = false → lexLt b a = true
  | [], [], h, _ => absurd rfl h
  | [], _ :: _, _, h => by simp [lexLt] at h
  | _ :: _, [], _, _ => rfl
  | x :: a, y :: b, h, h1 => by
    simp only [lexLt, Bool.or_eq_false_iff, Bool.and_eq_false_iff, decide_eq_false_iff_not] at h1
    simp only [lexLt, Bool.or_eq_true, Bool.and_eq_true, decide_eq_true_eq]
    by_cases hxy : x = y
    · subst hxy
      right
      refine ⟨rfl, lex_total (fun e => h (by rw [e])) ?_⟩
      rcases h1.2 with h2 | h2
      · exact absurd rfl h2
      · exact h2
    · left; omega
/-- the name comes before -/
def nlt (y z : Lb) : Prop := lexLt (bytesOf y.1) (bytesOf z.1) = true
def sortedP (os : List Lb) : Prop := ∀ (j : Nat) (y z : Lb), os[j]? = some y → os[j + 1]? = some z → nlt y z
def validL (x : Lb) : Prop := nameP x.1 ∧ x.2 ≠ ByteArray.empty ∧ valueP x.2
theorem labsP_iff (ls : List Lb) : labsP ls ↔ ls.length ≤ 8 ∧ (∀ (j : Nat) x, ls[j]? = some x → validL x) ∧ sortedP ls := by
  constructor
  · rintro ⟨h1, h2⟩
    refine ⟨h1, fun j x hx => ?_, fun j y z hy hz => ?_⟩
    · have := h2 j (List.getElem?_eq_some_iff.1 hx).1 x hx
      exact ⟨this.1, this.2.1, this.2.2.1⟩
    · have := h2 (j + 1) (List.getElem?_eq_some_iff.1 hz).1 z hz
      exact this.2.2.2 (by omega) y (by simpa using hy)
  · rintro ⟨h1, h2, h3⟩
    refine ⟨h1, fun i hi x hx => ?_⟩
    obtain ⟨a, b, c⟩ := h2 i x hx
    refine ⟨a, b, c, fun hp y hy => ?_⟩
    exact h3 (i - 1) y x hy (by rw [show i - 1 + 1 = i by omega]; exact hx)
theorem sorted_take {ls : List Lb} {k : Nat} (h : sortedP ls) : sortedP (ls.take k) := by
  intro j y z hy hz
  rw [List.getElem?_take] at hy hz
  split at hy <;> split at hz <;> first | exact h j y z hy hz | cases hy | cases hz
/-- each earlier one comes before -/
theorem sorted_lt {ls : List Lb} (h : sortedP ls) : ∀ (d j : Nat) (y z : Lb), ls[j]? = some y → ls[j + d + 1]? = some z → nlt y z
  | 0, j, y, z, hy, hz => h j y z hy hz
  | d + 1, j, y, z, hy, hz => by
    have hlt := (List.getElem?_eq_some_iff.1 hz).1
    have hm : ls[j + d + 1]? = some (ls[j + d + 1]'(by omega)) := List.getElem?_eq_getElem _
    exact lex_trans (sorted_lt h d j y _ hy hm) (h (j + d + 1) _ z hm (by rw [show j + d + 1 + 1 = j + (d + 1) + 1 by omega]; exact hz))
theorem ins_sorted {os : List Lb} {x : Lb} {k : Nat} (h : sortedP os) (hk : k ≤ os.length) (h1 : ∀ (j : Nat) y, j < k → os[j]? = some y → nlt y x) (h2 : ∀ y, os[k]? = some y → nlt x y) : sortedP (os.take k ++ x :: os.drop k) := by
  have hl : (os.take k).length = k := by simp; omega
  intro j y z hy hz
  rcases Nat.lt_trichotomy (j + 1) k with hlt | heq | hgt
  · rw [List.getElem?_append_left (by omega), List.getElem?_take] at hy hz
    rw [if_pos (by omega)] at hy hz
    exact h j y z hy hz
  · rw [List.getElem?_append_left (by omega), List.getElem?_take, if_pos (by omega)] at hy
    rw [List.getElem?_append_right (by omega), hl, show j + 1 - k = 0 by omega] at hz
    simp at hz; subst hz
    exact h1 j y (by omega) hy
  · rcases Nat.lt_or_ge k j with hkj | hkj
    · rw [List.getElem?_append_right (by omega), hl, show j - k = (j - k - 1) + 1 by omega, List.getElem?_cons_succ, List.getElem?_drop] at hy
      rw [List.getElem?_append_right (by omega), hl, show j + 1 - k = (j - k) + 1 by omega, List.getElem?_cons_succ, List.getElem?_drop] at hz
      exact h (j - 1) y z (by rw [← hy]; congr 1; omega) (by rw [← hz]; congr 1; omega)
    · have : j = k := by omega
      subst this
      rw [List.getElem?_append_right (by omega), hl, Nat.sub_self] at hy
      simp at hy; subst hy
      rw [List.getElem?_append_right (by omega), hl, show j + 1 - j = 0 + 1 by omega, List.getElem?_cons_succ, List.getElem?_drop] at hz
      exact h2 z (by simpa using hz)
theorem ins_last {ls os : List Lb} {x : Lb} {i k : Nat} (hx : ls[i]? = some x) (hs : sortedP (ls.take (i + 1))) (ho : os = ls.take i) (hk : k ≤ os.length) (h2 : ∀ y, os[k]? = some y → ¬ nlt y x) : os.take k ++ x :: os.drop k = ls.take (i + 1) := by
  have hi := (List.getElem?_eq_some_iff.1 hx).1
  have hol : os.length = i := by rw [ho]; simp; omega
  have hki : k = i := by
    rcases Nat.lt_or_ge k i with h | h
    · exfalso
      have hy : os[k]? = some (os[k]'(by omega)) := List.getElem?_eq_getElem _
      refine h2 _ hy ?_
      refine sorted_lt hs (i - k - 1) k _ x ?_ ?_
      · rw [List.getElem?_take, if_pos (by omega), ← hy, ho, List.getElem?_take, if_pos h]
      · rw [List.getElem?_take, if_pos (by omega), show k + (i - k - 1) + 1 = i by omega]; exact hx
    · omega
  subst hki
  rw [List.take_of_length_le (by omega), List.drop_of_length_le (by omega), ho, List.take_add_one, hx]; rfl
theorem no_twice {ls os : List Lb} {x y : Lb} {i k : Nat} (hx : ls[i]? = some x) (hl : labsP ls) (ho : sortedP (ls.take i) → os = ls.take i) (hy : os[k]? = some y) (he : y.1 = x.1) : False := by
  have hs := ((labsP_iff ls).1 hl).2.2
  have ho' := ho (sorted_take hs)
  have hk : k < i := by
    have := (List.getElem?_eq_some_iff.1 hy).1
    rw [ho'] at this; simp at this; omega
  have h1 : nlt y x := sorted_lt hs (i - k - 1) k y x (by rw [ho', List.getElem?_take, if_pos hk] at hy; exact hy) (by rw [show k + (i - k - 1) + 1 = i by omega]; exact hx)
  unfold nlt at h1
  rw [he, lex_irr] at h1; cases h1
end Go.Proofs.Ytmjjdcfakkaiiaa
