/- The reference's Bytes and Frame. -/
import Derived.Test.YtkappdlbpilghaaWaF
set_option linter.unusedVariables false
set_option linter.unusedSimpArgs false
namespace Go.Proofs.Ytkappdlbpilghaa
open Go.SL
def wI (ws : List Nat) : List Int := ws.map fun (m : Nat) => IntKind.i64.wrap (m : Int)
end Go.Proofs.Ytkappdlbpilghaa
