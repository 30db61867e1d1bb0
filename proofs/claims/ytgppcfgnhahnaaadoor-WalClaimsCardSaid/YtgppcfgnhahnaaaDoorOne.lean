/- Disks with one file: what the operations do to them. No program in sight. -/
import Derived.Test.YtgppcfgnhahnaaaDoorDkJ
set_option linter.unusedVariables false
set_option linter.unusedSimpArgs false
namespace Go.Proofs.YtgppcfgnhahnaaaDoor
open Go.SL
def oneDk (room : Int) (off armed : Bool) (left : Int) (f : Int) (bs : List Int) (d : Nat) : Dk := ⟨room, off, armed, left, fun q => if q = f then bs else [], fun q => if q = f then d else 0⟩
theorem one_c (room : Int) (off armed : Bool) (left f : Int) (bs : List Int) (d : Nat) : (oneDk room off armed left f bs d).c f = bs ∧ (oneDk room off armed left f bs d).d f = d := ⟨by simp [oneDk], by simp [oneDk]⟩
theorem one_new (room f : Int) : newDk room = oneDk room false false 0 f [] 0 := by simp [newDk, oneDk]
theorem one_set (room : Int) (off armed : Bool) (left f : Int) (bs bs' : List Int) (d d' : Nat) : (oneDk room off armed left f bs d).set f bs' d' = oneDk room off armed left f bs' d' := by
  simp only [Dk.set, oneDk]; congr 1
  · funext q; split <;> rfl
  · funext q; split <;> rfl
theorem one_total {room : Int} {off armed : Bool} {left f : Int} {bs : List Int} {d : Nat} (hf : 0 ≤ f ∧ f ≤ 63) : total (oneDk room off armed left f bs d).c = bs.length := by
  have h := total_set (D := oneDk room off armed left f [] 0) (bs := bs) (d := d) hf
  rw [one_set, (one_c room off armed left f [] 0).1] at h
  have h0 : (oneDk room off armed left f [] 0).c = fun _ => [] := by funext q; simp [oneDk]
  rw [h0, total_nil] at h
  simpa using h
theorem one_files {room : Int} {off armed : Bool} {left f : Int} {bs : List Int} {d : Nat} (hf : 0 ≤ f ∧ f ≤ 63) : filesV (oneDk room off armed left f bs d) = if bs = [] then [] else [f] := by
  split
  · rename_i h
    refine List.eq_nil_iff_forall_not_mem.2 fun q hq => ?_
    rw [filesV_mem] at hq
    refine hq.2 ?_
    simp [oneDk, h]
  · rename_i h
    refine sorted_eq (filesV_sorted _) (by simp) fun q => ?_
    rw [filesV_mem, List.mem_singleton]
    constructor
    · rintro ⟨_, h2⟩
      by_cases hq : q = f
      · exact hq
      · exact absurd (by simp [oneDk, hq]) h2
    · rintro rfl
      exact ⟨hf, by rw [(one_c _ _ _ _ _ _ _).1]; exact h⟩
theorem one_solid (room : Int) (off armed : Bool) (left f : Int) (bs : List Int) (d : Nat) : (oneDk room off armed left f bs d).solid = oneDk room off armed left f bs bs.length := by
  simp only [Dk.solid, oneDk]; congr 1
  funext q; split <;> rfl
/-- the bytes that a crash leaves of a file -/
def crashB (keep : List Int) (flip : Int) (bs : List Int) (d : Nat) : List Int :=
  if 0 ≤ flip ∧ 0 < keptV keep 0 (bs.length - d) then invF (bs.take (d + keptV keep 0 (bs.length - d))) d (flip % (8 * (keptV keep 0 (bs.length - d) : Int))) else bs.take (d + keptV keep 0 (bs.length - d))
theorem one_crash {room : Int} {off armed : Bool} {left f : Int} {bs : List Int} {d : Nat} (hf : 0 ≤ f ∧ f ≤ 63) (hd : d ≤ bs.length) (keep : List Int) (flip : Int) :
    (oneDk room off armed left f bs d).crash keep flip = oneDk room false false left f (crashB keep flip bs d) (crashB keep flip bs d).length := by
  by_cases hbs : bs = []
  · subst hbs
    have h0 : d = 0 := by simpa using hd
    subst h0
    have hk : keptV keep 0 0 = 0 := by have := keptV_le keep 0 0; simpa using this
    have hc : crashB keep flip [] 0 = [] := by unfold crashB; simp [hk]
    unfold Dk.crash
    rw [one_files hf, if_pos rfl, hc]
    simp only [cutL, Nat.lt_irrefl, and_false, if_false, one_solid]
    rfl
  · have hX : cutL keep [f] 0 (oneDk room off armed left f bs d) 0 = (oneDk room off armed left f (bs.take (d + keptV keep 0 (bs.length - d))) d, keptV keep 0 (bs.length - d)) := by
      rw [cutL, cutL, (one_c _ _ _ _ _ _ _).1, (one_c _ _ _ _ _ _ _).2, one_set, Nat.zero_add]
    unfold Dk.crash
    rw [one_files hf, if_neg hbs, hX]
    simp only
    generalize hk : keptV keep 0 (bs.length - d) = k
    unfold crashB
    rw [hk]
    by_cases hfl : 0 ≤ flip ∧ 0 < k
    · rw [if_pos hfl, if_pos hfl, invL, invL, (one_c _ _ _ _ _ _ _).1, (one_c _ _ _ _ _ _ _).2, one_set, one_solid]
      rfl
    · rw [if_neg hfl, if_neg hfl, one_solid]
      rfl
theorem crashB_length {keep : List Int} {flip : Int} {bs : List Int} {d : Nat} (hd : d ≤ bs.length) : (crashB keep flip bs d).length = d + keptV keep 0 (bs.length - d) := by
  have := keptV_le keep 0 (bs.length - d)
  unfold crashB
  split
  · rw [invF_length, List.length_take]; omega
  · rw [List.length_take]; omega
theorem one_app {room : Int} {armed : Bool} {left f : Int} {bs xs : List Int} {d : Nat} (hf : 0 ≤ f ∧ f ≤ 63) (hr : ((bs.length + xs.length : Nat) : Int) ≤ room) (ha : armed = true → 0 ≤ left) :
    (oneDk room false armed left f bs d).app f xs = if armed = false then (oneDk room false false left f (bs ++ xs) d, 0) else if 0 < left then (oneDk room false true (left - 1) f (bs ++ xs) d, 0) else (oneDk room true false left f (bs ++ xs) d, 18) := by
  have ht := one_total (room := room) (off := false) (armed := armed) (left := left) (bs := bs) (d := d) hf
  rw [Dk.app, if_neg (by omega), if_neg (by simp [oneDk]), if_neg (by rw [ht]; show ¬ room - _ < _; omega), (one_c _ _ _ _ _ _ _).1, (one_c _ _ _ _ _ _ _).2]
  cases armed with
  | false =>
    rw [if_pos rfl, step_free rfl]
    simp only [one_set]; rfl
  | true =>
    by_cases hl : 0 < left
    · have : (oneDk room false true left f bs d).step = (oneDk room false true (left - 1) f bs d, false) := by
        rw [Dk.step, if_neg (by simp [oneDk]), if_pos (by exact hl)]; rfl
      rw [this]; simp [one_set, hl]
    · have : (oneDk room false true left f bs d).step = (oneDk room true false left f bs d, true) := by
        rw [Dk.step, if_neg (by simp [oneDk]), if_neg (by exact hl)]; rfl
      rw [this]; simp [one_set, hl]
theorem one_app_off {room : Int} {armed : Bool} {left f : Int} {bs xs : List Int} {d : Nat} (hf : 0 ≤ f ∧ f ≤ 63) : (oneDk room true armed left f bs d).app f xs = (oneDk room true armed left f bs d, 18) := by
  rw [Dk.app, if_neg (by omega), if_pos (by simp [oneDk])]
theorem one_sync {room : Int} {armed : Bool} {left f : Int} {bs : List Int} {d : Nat} :
    (oneDk room false armed left f bs d).sync = if armed = false then (oneDk room false false left f bs bs.length, 0) else if 0 < left then (oneDk room false true (left - 1) f bs bs.length, 0) else (oneDk room true false left f bs d, 18) := by
  rw [Dk.sync, if_neg (by simp [oneDk])]
  cases armed with
  | false =>
    rw [if_pos rfl, step_free rfl]
    simp [one_solid]
  | true =>
    by_cases hl : 0 < left
    · have : (oneDk room false true left f bs d).step = (oneDk room false true (left - 1) f bs d, false) := by
        rw [Dk.step, if_neg (by simp [oneDk]), if_pos (by exact hl)]; rfl
      rw [this]; simp [one_solid, hl]
    · have : (oneDk room false true left f bs d).step = (oneDk room true false left f bs d, true) := by
        rw [Dk.step, if_neg (by simp [oneDk]), if_neg (by exact hl)]; rfl
      rw [this]; simp [hl]
theorem one_sync_off {room : Int} {armed : Bool} {left f : Int} {bs : List Int} {d : Nat} : (oneDk room true armed left f bs d).sync = (oneDk room true armed left f bs d, 18) := by
  rw [Dk.sync, if_pos (by simp [oneDk])]
theorem one_trunc {room : Int} {armed : Bool} {left f n : Int} {bs : List Int} {d : Nat} (hf : 0 ≤ f ∧ f ≤ 63) (hn : 0 ≤ n ∧ n ≤ bs.length) :
    (oneDk room false armed left f bs d).trunc f n = if armed = false then (oneDk room false false left f (bs.take n.toNat) (min d n.toNat), 0) else if 0 < left then (oneDk room false true (left - 1) f (bs.take n.toNat) (min d n.toNat), 0) else (oneDk room true false left f bs d, 18) := by
  rw [Dk.trunc, (one_c _ _ _ _ _ _ _).1, (one_c _ _ _ _ _ _ _).2, if_neg (by omega), if_neg (by simp [oneDk])]
  cases armed with
  | false =>
    rw [if_pos rfl, step_free rfl]
    simp [one_set]
  | true =>
    by_cases hl : 0 < left
    · have : (oneDk room false true left f bs d).step = (oneDk room false true (left - 1) f bs d, false) := by
        rw [Dk.step, if_neg (by simp [oneDk]), if_pos (by exact hl)]; rfl
      rw [this]; simp [one_set, hl]
    · have : (oneDk room false true left f bs d).step = (oneDk room true false left f bs d, true) := by
        rw [Dk.step, if_neg (by simp [oneDk]), if_neg (by exact hl)]; rfl
      rw [this]; simp [hl]
theorem one_trunc_off {room : Int} {armed : Bool} {left f n : Int} {bs : List Int} {d : Nat} (hf : 0 ≤ f ∧ f ≤ 63) (hn : 0 ≤ n ∧ n ≤ bs.length) : (oneDk room true armed left f bs d).trunc f n = (oneDk room true armed left f bs d, 18) := by
  rw [Dk.trunc, (one_c _ _ _ _ _ _ _).1, if_neg (by omega), if_pos (by simp [oneDk])]
end Go.Proofs.YtgppcfgnhahnaaaDoor
