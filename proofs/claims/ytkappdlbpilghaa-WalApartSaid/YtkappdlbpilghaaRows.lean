/-
  No cell of these rows narrows 'for every input' (looked for: loops, veiled, ifaces, maps, wideKeys, modest, calm, conditions, laid).
  DERIVED. THE GIVEN ROWS OF THIS SEAT. 4 by the template 'for every input the law returns true; each argument reads behind the call as it read before'; 0 by the template 'total and deterministic' (their statements: YtkappdlbpilghaaTotals.lean).
  GIVEN WITH THE SEED: the statements are not yours to turn. If you find one false, say at which input.
  Laid BY PROGRAM, IN A SANDBOX (cutbox-rows.mjs): the forced cells as the released guide's own fill.sh prints them over the translation 7222a31980b18d5e… (all of the seat's roots in one cut). By AI agents, Wed Nov 11 2026. No macro, syntax, notation, axiom, sorry.
-/
import Derived.Test.YtkappdlbpilghaaChecked
import GoSem.Claim
import GoSem.ClaimJoined
import GoSem.ClaimMapViews
import Derived.JoinedTies
import Derived.KernelRfl
namespace Go.Proofs.Ytkappdlbpilghaa
/- THE CELL 'sum', in the pinned program and in every row, IS THE sha256 OF THE DUMP (.gsa) THAT YtkappdlbpilghaaProg.lean LOADS. Nothing in Lean hashes anything: it is a label: what it is worth is what the hold of that sum in a sandbox is worth. -/
noncomputable def Try.pinned : Pinned := { name := "ytkappdlbpilghaa", sum := "7222a31980b18d5e3e5cadbb43bb880c398bf8181fd72b30a865b0d8ae8a3198", checked := Try.checked }
namespace Rows
def none {H : Type} : Left H := { results := [], args := [] }

/-- 'intervalmonlaw20.WalFull': WHATEVER THE INPUT: true; the input reads as it did. -/
def walFullSpec : ChangeSpec := { name := "walFull", fn := fun _ => fun
  | [d1, d2] => { results := [.lit (.bool true)], args := [d1, d2] }
  | _ => none }
def walFullRow : OpenClaim := { program := "ytkappdlbpilghaa", sum := "7222a31980b18d5e3e5cadbb43bb880c398bf8181fd72b30a865b0d8ae8a3198", func := "intervalmon/intervalmonlaw20.WalFull", spec := "walFull", unfollowed := true, recurses := true, apart := false }
def WalFullSaid : Prop := walFullRow.holds Try.pinned (OpenSpec.ofChange walFullSpec)

/-- ITS FALSE NEIGHBOUR: 'it returns false'. Refute it at one input. -/
def walFullWrong : ChangeSpec := { name := "walFull", fn := fun _ => fun
  | [d1, d2] => { results := [.lit (.bool false)], args := [d1, d2] }
  | _ => none }
def WalFullWrongFalsely : Prop := walFullRow.holds Try.pinned (OpenSpec.ofChange walFullWrong)

/-- 'intervalmonlaw20.WalApart': WHATEVER THE INPUT: true; the input reads as it did. -/
def walApartSpec : ChangeSpec := { name := "walApart", fn := fun _ => fun
  | [d1, d2, d3] => { results := [.lit (.bool true)], args := [d1, d2, d3] }
  | _ => none }
def walApartRow : OpenClaim := { program := "ytkappdlbpilghaa", sum := "7222a31980b18d5e3e5cadbb43bb880c398bf8181fd72b30a865b0d8ae8a3198", func := "intervalmon/intervalmonlaw20.WalApart", spec := "walApart", unfollowed := true, recurses := true, apart := false }
def WalApartSaid : Prop := walApartRow.holds Try.pinned (OpenSpec.ofChange walApartSpec)

/-- ITS FALSE NEIGHBOUR: 'it returns false'. Refute it at one input. -/
def walApartWrong : ChangeSpec := { name := "walApart", fn := fun _ => fun
  | [d1, d2, d3] => { results := [.lit (.bool false)], args := [d1, d2, d3] }
  | _ => none }
def WalApartWrongFalsely : Prop := walApartRow.holds Try.pinned (OpenSpec.ofChange walApartWrong)

/-- 'intervalmonlaw20.WalDurable': WHATEVER THE INPUT: true; the input reads as it did. -/
def walDurableSpec : ChangeSpec := { name := "walDurable", fn := fun _ => fun
  | [d1, d2, d3, d4] => { results := [.lit (.bool true)], args := [d1, d2, d3, d4] }
  | _ => none }
def walDurableRow : OpenClaim := { program := "ytkappdlbpilghaa", sum := "7222a31980b18d5e3e5cadbb43bb880c398bf8181fd72b30a865b0d8ae8a3198", func := "intervalmon/intervalmonlaw20.WalDurable", spec := "walDurable", unfollowed := true, recurses := true, apart := false }
def WalDurableSaid : Prop := walDurableRow.holds Try.pinned (OpenSpec.ofChange walDurableSpec)

/-- ITS FALSE NEIGHBOUR: 'it returns false'. Refute it at one input. -/
def walDurableWrong : ChangeSpec := { name := "walDurable", fn := fun _ => fun
  | [d1, d2, d3, d4] => { results := [.lit (.bool false)], args := [d1, d2, d3, d4] }
  | _ => none }
def WalDurableWrongFalsely : Prop := walDurableRow.holds Try.pinned (OpenSpec.ofChange walDurableWrong)

/-- 'intervalmonlaw20.WalInverted': WHATEVER THE INPUT: true; the input reads as it did. -/
def walInvertedSpec : ChangeSpec := { name := "walInverted", fn := fun _ => fun
  | [d1, d2, d3, d4] => { results := [.lit (.bool true)], args := [d1, d2, d3, d4] }
  | _ => none }
def walInvertedRow : OpenClaim := { program := "ytkappdlbpilghaa", sum := "7222a31980b18d5e3e5cadbb43bb880c398bf8181fd72b30a865b0d8ae8a3198", func := "intervalmon/intervalmonlaw20.WalInverted", spec := "walInverted", unfollowed := true, recurses := true, apart := false }
def WalInvertedSaid : Prop := walInvertedRow.holds Try.pinned (OpenSpec.ofChange walInvertedSpec)

/-- ITS FALSE NEIGHBOUR: 'it returns false'. Refute it at one input. -/
def walInvertedWrong : ChangeSpec := { name := "walInverted", fn := fun _ => fun
  | [d1, d2, d3, d4] => { results := [.lit (.bool false)], args := [d1, d2, d3, d4] }
  | _ => none }
def WalInvertedWrongFalsely : Prop := walInvertedRow.holds Try.pinned (OpenSpec.ofChange walInvertedWrong)

/- THE SECOND FORM. 'bulk': how many values and letters a reading holds, each counted each time it is reached (what is shared counts as often as it is met; a slice's spare places count too). A statement '..UptoSaid' is the law's where the arguments, and the package variables that the reading takes, are together of bulk at most 1048576: NARROWER than '..Said'. Prove '..Said' where nothing that the law and all that it calls make is longer than what came in: it says more and counts as full. Else prove '..UptoSaid'. A law counts once. -/
mutual
def uptoBulk {H : Type} : DataW H → Nat
  | .lit (.string bytes) => bytes.length + 1
  | .lit _ => 1
  | .nil => 1
  | .ptr d => uptoBulk d + 1
  | .slice elems spare => uptoBulkAll elems + uptoBulkAll spare + 1
  | .agg parts => uptoBulkAll parts + 1
  | .iface _ d => uptoBulk d + 1
  | .map entries => uptoBulkEntries entries + 1
  | .held _ => 1
def uptoBulkAll {H : Type} : List (DataW H) → Nat
  | [] => 0
  | d :: r => uptoBulk d + uptoBulkAll r
def uptoBulkEntries {H : Type} : List (Lit × DataW H) → Nat
  | [] => 0
  | x :: r => uptoBulkEntry x + uptoBulkEntries r
def uptoBulkEntry {H : Type} : Lit × DataW H → Nat
  | (.string bytes, d) => bytes.length + uptoBulk d + 1
  | (_, d) => uptoBulk d + 1
 end
def uptoSmall : (H : Type) → List (DataW H) → Bool := fun _ ds => decide (uptoBulkAll ds ≤ 1048576)
def OpenSpec.upto (s : _root_.Go.ChangeSpec) : _root_.Go.OpenSpec := { _root_.Go.OpenSpec.ofChange s with cond := some uptoSmall }

/-- 'intervalmonlaw20.WalFull', WHERE WHAT IT READS IS OF BULK AT MOST 1048576: true; the input reads as it did. -/
def walFullUptoRow : OpenClaim := { program := "ytkappdlbpilghaa", sum := "7222a31980b18d5e3e5cadbb43bb880c398bf8181fd72b30a865b0d8ae8a3198", func := "intervalmon/intervalmonlaw20.WalFull", spec := "walFull", unfollowed := true, recurses := true, apart := false, narrowed := true }
def WalFullUptoSaid : Prop := walFullUptoRow.holds Try.pinned (OpenSpec.upto walFullSpec)

/-- 'intervalmonlaw20.WalApart', WHERE WHAT IT READS IS OF BULK AT MOST 1048576: true; the input reads as it did. -/
def walApartUptoRow : OpenClaim := { program := "ytkappdlbpilghaa", sum := "7222a31980b18d5e3e5cadbb43bb880c398bf8181fd72b30a865b0d8ae8a3198", func := "intervalmon/intervalmonlaw20.WalApart", spec := "walApart", unfollowed := true, recurses := true, apart := false, narrowed := true }
def WalApartUptoSaid : Prop := walApartUptoRow.holds Try.pinned (OpenSpec.upto walApartSpec)

/-- 'intervalmonlaw20.WalDurable', WHERE WHAT IT READS IS OF BULK AT MOST 1048576: true; the input reads as it did. -/
def walDurableUptoRow : OpenClaim := { program := "ytkappdlbpilghaa", sum := "7222a31980b18d5e3e5cadbb43bb880c398bf8181fd72b30a865b0d8ae8a3198", func := "intervalmon/intervalmonlaw20.WalDurable", spec := "walDurable", unfollowed := true, recurses := true, apart := false, narrowed := true }
def WalDurableUptoSaid : Prop := walDurableUptoRow.holds Try.pinned (OpenSpec.upto walDurableSpec)

/-- 'intervalmonlaw20.WalInverted', WHERE WHAT IT READS IS OF BULK AT MOST 1048576: true; the input reads as it did. -/
def walInvertedUptoRow : OpenClaim := { program := "ytkappdlbpilghaa", sum := "7222a31980b18d5e3e5cadbb43bb880c398bf8181fd72b30a865b0d8ae8a3198", func := "intervalmon/intervalmonlaw20.WalInverted", spec := "walInverted", unfollowed := true, recurses := true, apart := false, narrowed := true }
def WalInvertedUptoSaid : Prop := walInvertedUptoRow.holds Try.pinned (OpenSpec.upto walInvertedSpec)

end Rows
end Go.Proofs.Ytkappdlbpilghaa
