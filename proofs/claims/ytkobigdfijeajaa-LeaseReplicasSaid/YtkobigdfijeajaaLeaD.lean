/- Contracts of package lease: Commands. -/
import Derived.Test.YtkobigdfijeajaaLeaC
import Derived.Test.YtkobigdfijeajaaCut
set_option linter.unusedVariables false
set_option linter.unusedSimpArgs false
namespace Go.Proofs.Ytkobigdfijeajaa
open Go.SL
structure CS where
  i : Nat
  v : Value
  cs : List Cmd
  L : Hp
end Go.Proofs.Ytkobigdfijeajaa
