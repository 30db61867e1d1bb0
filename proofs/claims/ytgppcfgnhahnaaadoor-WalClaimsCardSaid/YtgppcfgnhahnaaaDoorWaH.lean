/- The reference's Core. -/
import Derived.Test.YtgppcfgnhahnaaaDoorWaB
set_option linter.unusedVariables false
set_option linter.unusedSimpArgs false
namespace Go.Proofs.YtgppcfgnhahnaaaDoor
open Go.SL
end Go.Proofs.YtgppcfgnhahnaaaDoor

/- The reference's mix, Words, Sum, Bytes. -/
namespace Go.Proofs.YtgppcfgnhahnaaaDoor
open Go.SL
end Go.Proofs.YtgppcfgnhahnaaaDoor

/- The reference's Words. -/
namespace Go.Proofs.YtgppcfgnhahnaaaDoor
open Go.SL
def wcells (ws : List Nat) : List Value := ws.map fun (m : Nat) => .int .u64 (m : Int)
end Go.Proofs.YtgppcfgnhahnaaaDoor

/- The reference's Sum. -/
namespace Go.Proofs.YtgppcfgnhahnaaaDoor
open Go.SL
end Go.Proofs.YtgppcfgnhahnaaaDoor

/- The reference's Bytes and Frame. -/
namespace Go.Proofs.YtgppcfgnhahnaaaDoor
open Go.SL
def wI (ws : List Nat) : List Int := ws.map fun (m : Nat) => IntKind.i64.wrap (m : Int)
end Go.Proofs.YtgppcfgnhahnaaaDoor

/- The reference's Frame. -/
namespace Go.Proofs.YtgppcfgnhahnaaaDoor
open Go.SL
end Go.Proofs.YtgppcfgnhahnaaaDoor
