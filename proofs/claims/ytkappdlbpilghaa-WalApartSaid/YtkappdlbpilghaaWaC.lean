/- The reference's Core. -/
import Derived.Test.YtkappdlbpilghaaWaB
set_option linter.unusedVariables false
set_option linter.unusedSimpArgs false
namespace Go.Proofs.Ytkappdlbpilghaa
open Go.SL
end Go.Proofs.Ytkappdlbpilghaa
