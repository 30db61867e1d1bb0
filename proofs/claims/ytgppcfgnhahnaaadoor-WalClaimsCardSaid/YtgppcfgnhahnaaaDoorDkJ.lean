/- DiskArguments. -/
import Derived.Test.YtgppcfgnhahnaaaDoorDkI
set_option linter.unusedVariables false
set_option linter.unusedSimpArgs false
namespace Go.Proofs.YtgppcfgnhahnaaaDoor
open Go.SL
theorem new_step (room : Int) : (newDk room).step = (newDk room, false) := by simp [Dk.step, newDk]
theorem new_app_arg {room f : Int} {bs : List Int} (h : f < 0 ∨ 63 < f) : (newDk room).app f bs = (newDk room, 1) := by rw [Dk.app, if_pos h]
theorem new_app_full {room f : Int} {bs : List Int} (h : 0 ≤ f ∧ f ≤ 63) (hl : room < (bs.length : Int)) : (newDk room).app f bs = (newDk room, 17) := by
  rw [Dk.app, if_neg (by omega), if_neg (by simp [newDk]), if_pos (by simp only [newDk]; rw [total_nil]; omega)]
theorem new_app_ok {room f : Int} {bs : List Int} (h : 0 ≤ f ∧ f ≤ 63) (hl : (bs.length : Int) ≤ room) : (newDk room).app f bs = ((newDk room).set f bs 0, 0) := by
  rw [Dk.app, if_neg (by omega), if_neg (by simp [newDk]), if_neg (by simp only [newDk]; rw [total_nil]; omega), new_step]
  rfl
theorem new_set_total {room f : Int} {bs : List Int} {d : Nat} (h : 0 ≤ f ∧ f ≤ 63) : total ((newDk room).set f bs d).c = bs.length := by
  have := total_set (D := newDk room) (bs := bs) (d := d) h
  have h0 : total (newDk room).c = 0 := total_nil
  have h1 : ((newDk room).c f).length = 0 := rfl
  omega
theorem set_c (D : Dk) (f : Int) (bs : List Int) (d : Nat) : (D.set f bs d).c f = bs ∧ (D.set f bs d).d f = d ∧ (D.set f bs d).off = D.off ∧ (D.set f bs d).armed = D.armed := ⟨by simp [Dk.set], by simp [Dk.set], rfl, rfl⟩
theorem set_set (D : Dk) (f : Int) (bs bs' : List Int) (d d' : Nat) : (D.set f bs d).set f bs' d' = D.set f bs' d' := by
  simp only [Dk.set]; congr 1
  · funext q; split <;> rfl
  · funext q; split <;> rfl
theorem step_free {D : Dk} (h : D.armed = false) : D.step = (D, false) := by rw [Dk.step, if_pos h]
theorem readE_ok {D : Dk} {f : Int} (h : 0 ≤ f ∧ f ≤ 63) (ho : D.off = false) : D.readE f = 0 ∧ D.readV f = D.c f := by
  have : D.readE f = 0 := by rw [Dk.readE, if_neg (by omega), if_neg (by simp [ho])]
  exact ⟨this, by rw [Dk.readV, if_pos this]⟩
theorem readE_arg {D : Dk} {f : Int} (h : f < 0 ∨ 63 < f) : D.readE f = 1 ∧ D.readV f = [] := by
  have : D.readE f = 1 := by rw [Dk.readE, if_pos h]
  exact ⟨this, by rw [Dk.readV, if_neg (by rw [this]; decide)]⟩
theorem readE_off {D : Dk} {f : Int} (h : 0 ≤ f ∧ f ≤ 63) (ho : D.off = true) : D.readE f = 18 ∧ D.readV f = [] := by
  have : D.readE f = 18 := by rw [Dk.readE, if_neg (by omega), if_pos ho]
  exact ⟨this, by rw [Dk.readV, if_neg (by rw [this]; decide)]⟩
theorem trunc_set_ok {D : Dk} {f n : Int} {bs : List Int} {d : Nat} (hf : 0 ≤ f ∧ f ≤ 63) (hn : 0 ≤ n ∧ n ≤ bs.length) (ho : D.off = false) (ha : D.armed = false) : (D.set f bs d).trunc f n = (D.set f (bs.take n.toNat) (min d n.toNat), 0) := by
  obtain ⟨h1, h2, h3, h4⟩ := set_c D f bs d
  rw [Dk.trunc, h1, if_neg (by omega), if_neg (by rw [h3, ho]; simp), step_free (by rw [h4]; exact ha), if_neg (by simp), h2, set_set]
theorem trunc_arg {D : Dk} {f n : Int} (h : f < 0 ∨ 63 < f ∨ n < 0 ∨ ((D.c f).length : Int) < n) : D.trunc f n = (D, 1) := by rw [Dk.trunc, if_pos h]
end Go.Proofs.YtgppcfgnhahnaaaDoor
