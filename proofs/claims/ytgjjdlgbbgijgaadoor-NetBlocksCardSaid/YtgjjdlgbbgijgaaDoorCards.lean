/-
  DERIVED. GIVEN WITH THE SEED: THE CARDS: each row of YtgjjdlgbbgijgaaDoorRows.lean that lists a variable, with what it lists TIED to the program's text (the seventh form; the later family's looks); each row that meets fmt, with fmt's text TOLD by the authors' own Lean function (tested against real Go, not proved from fmt's source: count such statements apart). THE CARD IS WHAT COUNTS. Prove the row's statement (the work); the ties are given (YtgjjdlgbbgijgaaDoorTie.lean); close each card by the builder's one call (the guide's Derived/Test/ToyasCard.lean, 'card_holds'). Laid BY PROGRAM, IN A SANDBOX (cutbox-door.mjs). By AI agents, Wed Nov 11 2026. No macro, syntax, notation, axiom, sorry.
-/
import Derived.Test.YtgjjdlgbbgijgaaDoorRows
import GoSem.ClaimSeven
namespace Go.Proofs.YtgjjdlgbbgijgaaDoor
namespace Rows

/-- THE TIED CARD OF 'intervalmonlaw32.NetBlocks'. -/
def netBlocksCard : Claim7 := { stood := { row := netBlocksRow, standIns := [], harness := (true, "6a717e7550fdd87c5b57b922dbfd7a3e31e646ea83d276ee6a2488fb6eced4e5"), looks := false }, kinds := [], alts := [], laidByText := true, laidKinds := [.data, .data], laidTests := true, laidLooks := .later }
def NetBlocksCardSaid : Prop := Claim7.holds Tryd.pinned (.plain (OpenSpec.ofChange netBlocksSpec)) netBlocksCard

/-- THE SECOND FORM's CARD OF 'intervalmonlaw32.NetBlocks'. -/
def netBlocksUptoCard : Claim7 := { stood := { row := netBlocksUptoRow, standIns := [], harness := (true, "6a717e7550fdd87c5b57b922dbfd7a3e31e646ea83d276ee6a2488fb6eced4e5"), looks := false }, kinds := [], alts := [], laidByText := true, laidKinds := [.data, .data], laidTests := true, laidLooks := .later }
def NetBlocksUptoCardSaid : Prop := Claim7.holds Tryd.pinned (.plain (OpenSpec.upto netBlocksSpec)) netBlocksUptoCard
end Rows
end Go.Proofs.YtgjjdlgbbgijgaaDoor
