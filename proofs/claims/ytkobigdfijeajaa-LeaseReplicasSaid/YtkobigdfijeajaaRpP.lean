/- A replica: Receive of what is no message of the group. -/
import Derived.Test.YtkobigdfijeajaaRpO
set_option linter.unusedVariables false
set_option linter.unusedSimpArgs false
namespace Go.Proofs.Ytkobigdfijeajaa
open Go.SL
end Go.Proofs.Ytkobigdfijeajaa
