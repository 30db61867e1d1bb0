/- The reference's Words. -/
import Derived.Test.YtkappdlbpilghaaWaD
set_option linter.unusedVariables false
set_option linter.unusedSimpArgs false
namespace Go.Proofs.Ytkappdlbpilghaa
open Go.SL
def wcells (ws : List Nat) : List Value := ws.map fun (m : Nat) => .int .u64 (m : Int)
end Go.Proofs.Ytkappdlbpilghaa
