/- The reference's Frame. -/
import Derived.Test.YtkappdlbpilghaaWaG
set_option linter.unusedVariables false
set_option linter.unusedSimpArgs false
namespace Go.Proofs.Ytkappdlbpilghaa
open Go.SL
end Go.Proofs.Ytkappdlbpilghaa
