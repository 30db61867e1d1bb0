/- The reference's encoders (as in XWirE, for a seat without the whole of law02). -/
import Derived.Test.YtgppcfgnhahnaaaDoorWaA
set_option linter.unusedVariables false
set_option linter.unusedSimpArgs false
namespace Go.Proofs.YtgppcfgnhahnaaaDoor
open Go.SL
end Go.Proofs.YtgppcfgnhahnaaaDoor
