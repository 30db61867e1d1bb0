/- The reference's encoders (as in XWirE, for a seat without the whole of law02). -/
import Derived.Test.YtkappdlbpilghaaWaA
set_option linter.unusedVariables false
set_option linter.unusedSimpArgs false
namespace Go.Proofs.Ytkappdlbpilghaa
open Go.SL
end Go.Proofs.Ytkappdlbpilghaa
