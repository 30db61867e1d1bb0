/- Contracts of the reference model's reader (as XWirH and XWirI, for seats without the whole of law02). -/
import Derived.Test.YtkobigdfijeajaaWirR
set_option linter.unusedVariables false
set_option linter.unusedSimpArgs false
namespace Go.Proofs.Ytkobigdfijeajaa
open Go.SL
/-- the model's reader at q: it reads in the blocks Ls -/
structure RfOk (s : RS) (a : Option Addr) (n c : Nat) (Ls : Hp) : Prop where
  len : s.e = 0 → n = s.rest.length
  sl : s.e = 0 → RdS (.slice a n c) n (u8s s.rest) Ls
  b : s.e = 0 → ∀ b ∈ s.rest, isB b
  small : s.e = 0 → s.rest.length ≤ 4294967296
end Go.Proofs.Ytkobigdfijeajaa
