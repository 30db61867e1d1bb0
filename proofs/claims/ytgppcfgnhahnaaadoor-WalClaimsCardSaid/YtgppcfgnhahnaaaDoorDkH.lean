/- A disk: Copy. -/
import Derived.Test.YtgppcfgnhahnaaaDoorDkG
set_option linter.unusedVariables false
set_option linter.unusedSimpArgs false
namespace Go.Proofs.YtgppcfgnhahnaaaDoor
open Go.SL
structure CoS where
  todo : KVs
  it : Obj
  o2 : Obj
  fs : List Fl
theorem fblks_in {fs : List Fl} {r : Fl} (hr : r ∈ fs) : ∀ p ∈ r.L, p ∈ fblks fs := fun p hp => List.mem_flatMap.2 ⟨r, hr, hp⟩
end Go.Proofs.YtgppcfgnhahnaaaDoor
