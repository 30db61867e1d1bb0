/- The reference's Sum. -/
import Derived.Test.YtkappdlbpilghaaWaE
set_option linter.unusedVariables false
set_option linter.unusedSimpArgs false
namespace Go.Proofs.Ytkappdlbpilghaa
open Go.SL
end Go.Proofs.Ytkappdlbpilghaa
