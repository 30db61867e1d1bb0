/- The reference's mix, Words, Sum, Bytes. -/
import Derived.Test.YtkappdlbpilghaaWaC
set_option linter.unusedVariables false
set_option linter.unusedSimpArgs false
namespace Go.Proofs.Ytkappdlbpilghaa
open Go.SL
end Go.Proofs.Ytkappdlbpilghaa
