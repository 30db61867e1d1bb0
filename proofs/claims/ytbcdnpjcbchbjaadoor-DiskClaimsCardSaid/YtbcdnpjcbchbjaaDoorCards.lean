/-
  DERIVED. GIVEN WITH THE SEED: THE CARDS: each row of YtbcdnpjcbchbjaaDoorRows.lean that lists a variable, with what it lists TIED to the program's text (the seventh form; the later family's looks); each row that meets fmt, with fmt's text TOLD by the authors' own Lean function (tested against real Go, not proved from fmt's source: count such statements apart). THE CARD IS WHAT COUNTS. Prove the row's statement (the work); the ties are given (YtbcdnpjcbchbjaaDoorTie.lean); close each card by the builder's one call (the guide's Derived/Test/ToyasCard.lean, 'card_holds'). Laid BY PROGRAM, IN A SANDBOX (cutbox-door.mjs). By AI agents, Wed Nov 11 2026. No macro, syntax, notation, axiom, sorry.
-/
import Derived.Test.YtbcdnpjcbchbjaaDoorRows
import GoSem.ClaimSeven
namespace Go.Proofs.YtbcdnpjcbchbjaaDoor
namespace Rows

/-- THE TIED CARD OF 'intervalmonlaw19.DiskClaims'. -/
def diskClaimsCard : Claim7 := { stood := { row := diskClaimsRow, standIns := [], harness := (true, "f6cee2cefee946249e6ae16636fc336dddbc508e4dd90f04b64116434e99405b"), looks := false }, kinds := [], alts := [], laidByText := true, laidKinds := [.data], laidTests := true, laidLooks := .later }
def DiskClaimsCardSaid : Prop := Claim7.holds Tryd.pinned (.plain (OpenSpec.ofChange diskClaimsSpec)) diskClaimsCard

/-- THE SECOND FORM's CARD OF 'intervalmonlaw19.DiskClaims'. -/
def diskClaimsUptoCard : Claim7 := { stood := { row := diskClaimsUptoRow, standIns := [], harness := (true, "f6cee2cefee946249e6ae16636fc336dddbc508e4dd90f04b64116434e99405b"), looks := false }, kinds := [], alts := [], laidByText := true, laidKinds := [.data], laidTests := true, laidLooks := .later }
def DiskClaimsUptoCardSaid : Prop := Claim7.holds Tryd.pinned (.plain (OpenSpec.upto diskClaimsSpec)) diskClaimsUptoCard
end Rows
end Go.Proofs.YtbcdnpjcbchbjaaDoor
