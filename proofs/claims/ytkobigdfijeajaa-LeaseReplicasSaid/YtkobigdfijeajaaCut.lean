/- A cut behind a part of the code: a state s of whatever type, the frame there, what holds there. -/
import Derived.Test.YtkobigdfijeajaaFin
set_option linter.unusedVariables false
set_option linter.unusedSimpArgs false
namespace Go.SL
variable {P : Program} {n : Nat} {Q : Post} {l : Fr} {w : World}
theorem W_cut {x y : Code} {σ : Type} (fr : σ → Fr) (I : σ → World → Prop) (h : W P n x (thenQ (fun l' w' => ∃ s, Sub (fr s) l' ∧ I s w') Q) l w)
    (k : ∀ s w', I s w' → W P n y Q (fr s) w') : W P n (.seq x y) Q l w :=
  W_seq_cut _ h fun _ _ ⟨s, hs, hi⟩ => W_sub hs (k s _ hi)
end Go.SL
