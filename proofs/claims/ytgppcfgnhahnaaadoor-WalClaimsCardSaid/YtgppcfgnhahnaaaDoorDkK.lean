/- DiskHash. -/
import Derived.Test.YtgppcfgnhahnaaaDoorOne
import Derived.Test.YtgppcfgnhahnaaaDoorHash
set_option linter.unusedVariables false
set_option linter.unusedSimpArgs false
namespace Go.Proofs.YtgppcfgnhahnaaaDoor
open Go.SL
theorem keptV_all {k : Int} {room : Nat} (h : (room : Int) ≤ k) : keptV [k] 0 room = room := by
  unfold keptV
  rw [if_pos (by simp)]
  simp only [List.getD_cons_zero]
  rw [if_neg (show ¬ k < 0 by omega)]
  split <;> omega
theorem invF_ne {bs : List Int} {d : Nat} {at_ : Int} (h : 0 ≤ at_ ∧ at_ < 8 * ((bs.length : Int) - d)) (hB : ∀ b ∈ bs, isB b) : invF bs d at_ ≠ bs := by
  rw [invF, if_pos h]
  have hl : d + (at_ / 8).toNat < bs.length := by omega
  obtain ⟨z, hz⟩ : ∃ z, bs[d + (at_ / 8).toNat]? = some z := ⟨_, List.getElem?_eq_getElem hl⟩
  rw [List.getD_eq_getElem?_getD, hz]
  intro he
  have h1 := congrArg (fun l => l[d + (at_ / 8).toNat]?) he
  simp only [List.getElem?_set_self hl, hz, Option.getD_some] at h1
  exact (xbit_facts (k := (at_ % 8).toNat) (hB z (List.mem_of_getElem? hz)) (by omega)).2.2.2 (Option.some.inj h1)
theorem crashB_isB {keep : List Int} {flip : Int} {bs : List Int} {d : Nat} (hB : ∀ b ∈ bs, isB b) : ∀ b ∈ crashB keep flip bs d, isB b := by
  unfold crashB
  split
  · exact invF_isB fun b hb => hB b (List.mem_of_mem_take hb)
  · exact fun b hb => hB b (List.mem_of_mem_take hb)
theorem crashB_take {keep : List Int} {flip : Int} {bs : List Int} {d : Nat} : (crashB keep flip bs d).take d = bs.take d := by
  unfold crashB
  split
  · unfold invF; split
    · rw [List.take_set_of_le (by omega), List.take_take]; congr 1; omega
    · rw [List.take_take]; congr 1; omega
  · rw [List.take_take]; congr 1; omega
theorem crash8 {flip : Int} {ow : List Int} {sy : Bool} (hB : ∀ b ∈ ow, isB b) (hl : 0 < ow.length ∧ ow.length ≤ 8) : (crashB [8] flip ow (if sy then ow.length else 0)).length = ow.length ∧ (crashB [8] flip ow (if sy then ow.length else 0) = ow ↔ (sy || decide (flip < 0)) = true) := by
  have hd : (if sy then ow.length else 0) ≤ ow.length := by split <;> omega
  have hk : keptV [8] 0 (ow.length - (if sy then ow.length else 0)) = ow.length - (if sy then ow.length else 0) := keptV_all (by split <;> omega)
  refine ⟨by rw [crashB_length hd, hk]; omega, ?_⟩
  unfold crashB
  rw [hk, show (if sy = true then ow.length else 0) + (ow.length - (if sy = true then ow.length else 0)) = ow.length by omega, List.take_of_length_le (Nat.le_refl _)]
  cases sy with
  | true => simp
  | false =>
    simp only [Bool.false_eq_true, if_false, Nat.sub_zero, Bool.false_or, decide_eq_true_eq]
    by_cases hf : 0 ≤ flip
    · rw [if_pos ⟨hf, hl.1⟩]
      refine ⟨fun h => absurd h (invF_ne ⟨Int.emod_nonneg _ (by omega), ?_⟩ hB), fun h => by omega⟩
      have := Int.emod_lt_of_pos flip (b := 8 * (ow.length : Int)) (by omega)
      simpa using this
    · rw [if_neg (fun h => hf h.1)]
      exact ⟨fun _ => by omega, fun _ => rfl⟩
end Go.Proofs.YtgppcfgnhahnaaaDoor
