/-
  DERIVED. GIVEN WITH THE SEED: THE CARDS: each row of YtgppcfgnhahnaaaDoorRows.lean that lists a variable, with what it lists TIED to the program's text (the seventh form; the later family's looks); each row that meets fmt, with fmt's text TOLD by the authors' own Lean function (tested against real Go, not proved from fmt's source: count such statements apart). THE CARD IS WHAT COUNTS. Prove the row's statement (the work); the ties are given (YtgppcfgnhahnaaaDoorTie.lean); close each card by the builder's one call (the guide's Derived/Test/ToyasCard.lean, 'card_holds'). Laid BY PROGRAM, IN A SANDBOX (cutbox-door.mjs). By AI agents, Wed Nov 11 2026. No macro, syntax, notation, axiom, sorry.
-/
import Derived.Test.YtgppcfgnhahnaaaDoorRows
import GoSem.ClaimSeven
namespace Go.Proofs.YtgppcfgnhahnaaaDoor
namespace Rows

/-- THE TIED CARD OF 'intervalmonlaw20.WalClaims'. -/
def walClaimsCard : Claim7 := { stood := { row := walClaimsRow, standIns := [], harness := (true, "54c761b3bc73e66d0104a6a8dd90dfb45a4b6997995991b7185dc1494337db3e"), looks := false }, kinds := [], alts := [], laidByText := true, laidKinds := [.data], laidTests := true, laidLooks := .later }
def WalClaimsCardSaid : Prop := Claim7.holds Tryd.pinned (.plain (OpenSpec.ofChange walClaimsSpec)) walClaimsCard

/-- THE SECOND FORM's CARD OF 'intervalmonlaw20.WalClaims'. -/
def walClaimsUptoCard : Claim7 := { stood := { row := walClaimsUptoRow, standIns := [], harness := (true, "54c761b3bc73e66d0104a6a8dd90dfb45a4b6997995991b7185dc1494337db3e"), looks := false }, kinds := [], alts := [], laidByText := true, laidKinds := [.data], laidTests := true, laidLooks := .later }
def WalClaimsUptoCardSaid : Prop := Claim7.holds Tryd.pinned (.plain (OpenSpec.upto walClaimsSpec)) walClaimsUptoCard
end Rows
end Go.Proofs.YtgppcfgnhahnaaaDoor
