/- From a walk's answer to what a given statement asks: slices that came in, what is left of memory. No program in sight. -/
import Derived.Test.YtkobigdfijeajaaHopt
import Derived.Below
import Derived.ProofKit
import Derived.Deep.Slices
set_option linter.unusedVariables false
set_option linter.unusedSimpArgs false
namespace Go.SL
open Go.RowKit
theorem below_of_fwd {w w' : World} (h : Fwd [] w w') : Below w.heap.size w w' := ⟨h.os, h.tape, h.output, h.size, fun k hk => h.block k hk (by simp)⟩
theorem calls_of_ret {P : Program} {f : FuncId} {args : Array Value} {w : World} (h : Ret P f args w fun r w' => Fwd [] w w' ∧ r = .bool true) : Calls P f args w fun e w' => e = .returned (.bool true) ∧ Below w.heap.size w w' :=
  Calls.mono h fun _ _ ⟨_, he, hf, hv⟩ => ⟨by rw [he, hv], below_of_fwd hf⟩
theorem list_of {α : Type} {Q : Nat → α → Prop} : ∀ n, (∀ i, i < n → ∃ z, Q i z) → ∃ xs : List α, xs.length = n ∧ ∀ i z, xs[i]? = some z → Q i z
  | 0, _ => ⟨[], rfl, by simp⟩
  | n + 1, h => by
    obtain ⟨xs, h1, h2⟩ := list_of n (fun i hi => h i (by omega))
    obtain ⟨z, hz⟩ := h n (by omega)
    refine ⟨xs ++ [z], by simp [h1], fun i y hy => ?_⟩
    rcases Nat.lt_or_ge i xs.length with hl | hl
    · rw [List.getElem?_append_left hl] at hy; exact h2 i y hy
    · rw [List.getElem?_append_right hl] at hy
      rcases Nat.eq_zero_or_pos (i - xs.length) with h0 | h0
      · rw [h0] at hy; simp at hy; subst hy
        rw [show i = n by omega]; exact hz
      · rw [List.getElem?_eq_none (by simp; omega)] at hy; cases hy
/-- a slice that came in, its elements one cell each -/
theorem sl_of_trod1 {α H : Type} {enc : TypeId × Value → H} {P : Program} {w : World} {base : Nat} {spare : Nat → Bool} {held : Bool} {fuel : Nat} {t e : TypeId} {a : Option Addr} {len cap : Nat} {x : DataW H × List MemPlace} (mk : α → Value) (good : α → Prop)
    (ht : P.underlying t = some (.slice e)) (hc : P.cellsOf e = 1) (hel : ∀ n cs y, DataW.trod enc P w base spare held n e cs = some y → ∃ z, cs = [mk z] ∧ good z) (h : DataW.trod enc P w base spare held fuel t [.slice a len cap] = some x) :
    ∃ xs : List α, xs.length = len ∧ Sl w (.slice a len cap) xs.length (xs.map mk) ∧ (∀ z ∈ xs, good z) ∧ len ≤ 9223372036854775807 := by
  rcases Deep.open_slice ht h with ⟨hcs, _⟩ | ⟨b, l, c, m, n, D, Pl, hcs, _, hl, hm, hmm, _, hall⟩
  · simp at hcs
    obtain ⟨rfl, rfl, rfl⟩ := hcs
    exact ⟨[], rfl, ⟨none, 0, rfl, Nat.le_refl _, .inl rfl⟩, by simp, by omega⟩
  · simp at hcs
    obtain ⟨rfl, rfl, rfl⟩ := hcs
    have hlm : len ≤ m := by rw [hmm]; split <;> omega
    obtain ⟨xs, hxl, hxs⟩ := list_of (Q := fun i z => w.cell? (b.add i) = some (mk z) ∧ good z) len (fun i hi => by
      obtain ⟨cs', h1, h2⟩ := hall i (by omega)
      obtain ⟨z, rfl, hz⟩ := hel _ _ _ h2
      rw [hc, Nat.mul_one] at h1
      exact ⟨z, Go.ChangeShapes.cell_of_cells?_one h1, hz⟩)
    refine ⟨xs, hxl, ?_, ?_, by simp [maxLen] at hm; omega⟩
    · rw [hxl]
      refine ⟨some b, cap, rfl, hl, ?_⟩
      by_cases h0 : xs = []
      · left; simp [h0]
      · right
        have h00 : ∃ z, xs[0]? = some z := by
          cases xs with
          | nil => exact absurd rfl h0
          | cons z r => exact ⟨z, rfl⟩
        obtain ⟨z, hz⟩ := h00
        have hx := (hxs 0 z hz).1
        have hsp : b.spot = none := by
          simp only [Addr.add, if_true, World.cell?] at hx
          split at hx
          · split at hx
            · cases hx
            · rename_i hh; cases hs : b.spot with
              | none => rfl
              | some s => rw [hs] at hh; simp at hh
          · cases hx
        obtain ⟨bb, o, sp⟩ := b
        simp only at hsp
        subst hsp
        refine ⟨bb, o, rfl, fun j u hj => ?_⟩
        simp only [List.getElem?_map, Option.map_eq_some_iff] at hj
        obtain ⟨z', hz', rfl⟩ := hj
        have := (hxs j z' hz').1
        rw [Addr.add_lit] at this
        exact this
    · intro z hz
      obtain ⟨i, hi⟩ := List.getElem?_of_mem hz
      exact (hxs i z hi).2
theorem wf_i64 {n : Int} (h : (Lit.int .i64 n).wf = true) : -9223372036854775808 ≤ n ∧ n ≤ 9223372036854775807 := by
  simp [Lit.wf, IntKind.min, IntKind.max, IntKind.signed, IntKind.bits] at h; omega
end Go.SL
