/- What a crash leaves of each file. No program in sight. -/
import Derived.Test.YtbcdnpjcbchbjaaDoorDkF
set_option linter.unusedVariables false
set_option linter.unusedSimpArgs false
namespace Go.Proofs.YtbcdnpjcbchbjaaDoor
open Go.SL
/-- of each file the durable bytes are as they were, and there are no more bytes than before -/
structure Pre (D E : Dk) : Prop where
  d : E.d = D.d
  len : ∀ f, (E.c f).length ≤ (D.c f).length
  dur : ∀ f, D.d f ≤ (E.c f).length
  pre : ∀ f, (E.c f).take (D.d f) = (D.c f).take (D.d f)
theorem Pre.refl {D : Dk} (h : firmOk D) : Pre D D := ⟨rfl, fun _ => Nat.le_refl _, h, fun _ => rfl⟩
theorem Pre.set {D E : Dk} (h : Pre D E) {f : Int} {bs : List Int} (hl : bs.length ≤ (E.c f).length) (hd : D.d f ≤ bs.length) (hp : bs.take (D.d f) = (E.c f).take (D.d f)) : Pre D (E.set f bs (E.d f)) := by
  refine ⟨?_, fun q => ?_, fun q => ?_, fun q => ?_⟩
  · rw [← h.d]; funext q; simp only [Dk.set]; split
    · rename_i e; rw [e]
    · rfl
  · simp only [Dk.set]; split
    · rename_i e; rw [e]; exact Nat.le_trans hl (h.len f)
    · exact h.len q
  · simp only [Dk.set]; split
    · rename_i e; rw [e]; exact hd
    · exact h.dur q
  · simp only [Dk.set]; split
    · rename_i e; rw [e, hp]; exact h.pre f
    · exact h.pre q
theorem cutL_pre {D : Dk} (keep : List Int) : ∀ (fs : List Int) (i : Nat) (E : Dk) (n : Nat), Pre D E → Pre D (cutL keep fs i E n).1
  | [], _, _, _, h => h
  | f :: r, i, E, n, h => by
    rw [cutL]
    refine cutL_pre keep r _ _ _ (h.set ?_ ?_ ?_)
    · rw [List.length_take]; exact Nat.min_le_right _ _
    · rw [List.length_take]
      have h1 := h.dur f
      have h2 : E.d f = D.d f := congrFun h.d f
      omega
    · rw [List.take_take]
      congr 1
      have h2 : E.d f = D.d f := congrFun h.d f
      omega
theorem invF_take (bs : List Int) (d : Nat) (at_ : Int) : (invF bs d at_).take d = bs.take d := by
  unfold invF; split
  · rw [List.take_set_of_le (by omega)]
  · rfl
theorem invL_pre {D : Dk} : ∀ (fs : List Int) (at_ : Int) (E : Dk), Pre D E → Pre D (invL fs at_ E)
  | [], _, _, h => h
  | f :: r, at_, E, h => by
    rw [invL]
    refine invL_pre r _ _ (h.set ?_ ?_ ?_)
    · rw [invF_length]; exact Nat.le_refl _
    · rw [invF_length]; exact h.dur f
    · have h2 : E.d f = D.d f := congrFun h.d f
      rw [h2, invF_take]
theorem crash_pre {D : Dk} (h : firmOk D) (keep : List Int) (flip : Int) : (∀ f, ((D.crash keep flip).c f).length ≤ (D.c f).length ∧ D.d f ≤ ((D.crash keep flip).c f).length ∧ ((D.crash keep flip).c f).take (D.d f) = (D.c f).take (D.d f)) ∧ (D.crash keep flip).off = false := by
  have h1 := cutL_pre (D := D) keep (filesV D) 0 D 0 (Pre.refl h)
  have h2 : Pre D (if 0 ≤ flip ∧ 0 < (cutL keep (filesV D) 0 D 0).2 then invL (filesV D) (flip % (8 * ((cutL keep (filesV D) 0 D 0).2 : Int))) (cutL keep (filesV D) 0 D 0).1 else (cutL keep (filesV D) 0 D 0).1) := by
    split
    · exact invL_pre _ _ _ h1
    · exact h1
  exact ⟨fun f => ⟨h2.len f, h2.dur f, h2.pre f⟩, rfl⟩
theorem crash_solid {D : Dk} (keep : List Int) (flip : Int) (h : ∀ f, D.d f = (D.c f).length) (f : Int) : (D.crash keep flip).c f = D.c f := by
  obtain ⟨h1, -⟩ := crash_pre (D := D) (fun f => by rw [h f]; exact Nat.le_refl _) keep flip
  obtain ⟨h2, h3, h4⟩ := h1 f
  rw [h f] at h3 h4
  rw [List.take_of_length_le (by omega), List.take_of_length_le (Nat.le_refl _)] at h4
  exact h4
end Go.Proofs.YtbcdnpjcbchbjaaDoor
