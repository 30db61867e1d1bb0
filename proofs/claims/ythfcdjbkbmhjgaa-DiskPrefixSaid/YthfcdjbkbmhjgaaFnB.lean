/- A slice of slices of bytes that came in. No program in sight. -/
import Derived.Test.YthfcdjbkbmhjgaaFin
set_option linter.unusedVariables false
set_option linter.unusedSimpArgs false
namespace Go.SL
open Go.RowKit
theorem el_bytes {H : Type} {enc : TypeId × Value → H} {P : Program} {w : World} {base : Nat} {spare : Nat → Bool} {held : Bool} {fuel : Nat} {e u : TypeId} {cs : List Value} {x : DataW H × List MemPlace}
    (ht : P.underlying e = some (.slice u)) (hu : P.underlying u = some (.int .u8)) (hc : P.cellsOf u = 1) (h : DataW.trod enc P w base spare held fuel e cs = some x) :
    ∃ z : Value × List Int, cs = [z.1] ∧ (Sl w z.1 z.2.length (z.2.map (Value.int .u8)) ∧ ∀ b ∈ z.2, (Lit.int .u8 b).wf = true) := by
  have key : ∀ a len cap, cs = [.slice a len cap] → ∃ z : Value × List Int, cs = [z.1] ∧ (Sl w z.1 z.2.length (z.2.map (Value.int .u8)) ∧ ∀ b ∈ z.2, (Lit.int .u8 b).wf = true) := by
    rintro a len cap rfl
    obtain ⟨xs, h1, h2, h3, _⟩ := sl_of_trod1 (Value.int .u8) (fun n => (Lit.int .u8 n).wf = true) ht hc (fun _ _ _ hy => by obtain ⟨z, h1, _, h3⟩ := DataW.trod_int hu hy; exact ⟨z, h1, h3⟩) h
    exact ⟨(.slice a len cap, xs), rfl, h2, h3⟩
  rcases Deep.open_slice ht h with ⟨hcs, _⟩ | ⟨b, l, c, m, n, D, Pl, hcs, _⟩
  · exact key _ _ _ hcs
  · exact key _ _ _ hcs
end Go.SL
