/- A region that draws its order where several operations that change memory may come next: every choice is walked. No program in sight. -/
import Derived.Test.YtkobigdfijeajaaDraw
set_option linter.unusedVariables false
set_option linter.unusedSimpArgs false
namespace Go.SL
inductive OT where
  | nil : OT
  | q : Nat → OT → OT
  | e : Nat → List Nat → OT → OT → OT
namespace OT
def len : OT → Nat
  | nil => 0
  | q _ r => r.len + 1
  | e _ _ r _ => r.len + 1
end OT
section
variable {P : Program} {ops : Array Oper}
end
section
variable {P : Program} {n : Nat} {ops : Array Oper} {Q : Post} {l : Fr} {w : World}
end
end Go.SL
