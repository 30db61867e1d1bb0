/- The reference's encoders, for a seat without package wal. -/
import Derived.Test.YtkobigdfijeajaaWirW
set_option linter.unusedVariables false
set_option linter.unusedSimpArgs false
namespace Go.Proofs.Ytkobigdfijeajaa
open Go.SL
end Go.Proofs.Ytkobigdfijeajaa
