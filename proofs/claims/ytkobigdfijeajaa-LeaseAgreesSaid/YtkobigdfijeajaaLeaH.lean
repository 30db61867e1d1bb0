/- The reference's table of leases: names, valid entries, find, Holder, Grant. -/
import Derived.Test.YtkobigdfijeajaaLeaD
import Derived.Test.YtkobigdfijeajaaStr
set_option linter.unusedVariables false
set_option linter.unusedSimpArgs false
namespace Go.Proofs.Ytkobigdfijeajaa
open Go.SL
/-! the table -/
theorem Lz.cells_length (x : Lz) : x.cells.length = 4 := rfl
/-- a command that is read alone -/
structure RCmd where
  v : Value
  bs : List Int
  L : Hp
def RCmd.ok (c : RCmd) : Prop := RdS c.v c.bs.length (u8s c.bs) c.L ∧ c.bs.length ≤ 65536
end Go.Proofs.Ytkobigdfijeajaa
