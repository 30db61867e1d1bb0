/- decode of no bytes. -/
import Derived.Test.YtkobigdfijeajaaRpE
set_option linter.unusedVariables false
set_option linter.unusedSimpArgs false
namespace Go.Proofs.Ytkobigdfijeajaa
open Go.SL
end Go.Proofs.Ytkobigdfijeajaa
