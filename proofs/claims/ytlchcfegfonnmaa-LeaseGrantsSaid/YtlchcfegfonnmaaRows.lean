/-
  No cell of these rows narrows 'for every input' (looked for: loops, veiled, ifaces, maps, wideKeys, modest, calm, conditions, laid).
  DERIVED. THE GIVEN ROWS OF THIS SEAT. 3 by the template 'for every input the law returns true; each argument reads behind the call as it read before'; 0 by the template 'total and deterministic' (their statements: YtlchcfegfonnmaaTotals.lean).
  GIVEN WITH THE SEED: the statements are not yours to turn. If you find one false, say at which input.
  Laid BY PROGRAM, IN A SANDBOX (cutbox-rows.mjs): the forced cells as the released guide's own fill.sh prints them over the translation 00ae85738d666b2b… (all of the seat's roots in one cut). By AI agents, Wed Nov 11 2026. No macro, syntax, notation, axiom, sorry.
-/
import Derived.Test.YtlchcfegfonnmaaChecked
import GoSem.Claim
import GoSem.ClaimJoined
import GoSem.ClaimMapViews
import Derived.JoinedTies
import Derived.KernelRfl
namespace Go.Proofs.Ytlchcfegfonnmaa
/- THE CELL 'sum', in the pinned program and in every row, IS THE sha256 OF THE DUMP (.gsa) THAT YtlchcfegfonnmaaProg.lean LOADS. Nothing in Lean hashes anything: it is a label: what it is worth is what the hold of that sum in a sandbox is worth. -/
noncomputable def Try.pinned : Pinned := { name := "ytlchcfegfonnmaa", sum := "00ae85738d666b2bd8e3c1fcce011b14c9121a7c68115c4d36d71400fcc59894", checked := Try.checked }
namespace Rows
def none {H : Type} : Left H := { results := [], args := [] }

/-- 'intervalmonlaw33.LeaseFenced': WHATEVER THE INPUT: true; the input reads as it did. -/
def leaseFencedSpec : ChangeSpec := { name := "leaseFenced", fn := fun _ => fun
  | [d1, d2] => { results := [.lit (.bool true)], args := [d1, d2] }
  | _ => none }
def leaseFencedRow : OpenClaim := { program := "ytlchcfegfonnmaa", sum := "00ae85738d666b2bd8e3c1fcce011b14c9121a7c68115c4d36d71400fcc59894", func := "intervalmon/intervalmonlaw33.LeaseFenced", spec := "leaseFenced", apart := false }
def LeaseFencedSaid : Prop := leaseFencedRow.holds Try.pinned (OpenSpec.ofChange leaseFencedSpec)

/-- ITS FALSE NEIGHBOUR: 'it returns false'. Refute it at one input. -/
def leaseFencedWrong : ChangeSpec := { name := "leaseFenced", fn := fun _ => fun
  | [d1, d2] => { results := [.lit (.bool false)], args := [d1, d2] }
  | _ => none }
def LeaseFencedWrongFalsely : Prop := leaseFencedRow.holds Try.pinned (OpenSpec.ofChange leaseFencedWrong)

/-- 'intervalmonlaw33.LeaseTable': WHATEVER THE INPUT: true; the input reads as it did. -/
def leaseTableSpec : ChangeSpec := { name := "leaseTable", fn := fun _ => fun
  | [d1, d2, d3, d4, d5] => { results := [.lit (.bool true)], args := [d1, d2, d3, d4, d5] }
  | _ => none }
def leaseTableRow : OpenClaim := { program := "ytlchcfegfonnmaa", sum := "00ae85738d666b2bd8e3c1fcce011b14c9121a7c68115c4d36d71400fcc59894", func := "intervalmon/intervalmonlaw33.LeaseTable", spec := "leaseTable", apart := false }
def LeaseTableSaid : Prop := leaseTableRow.holds Try.pinned (OpenSpec.ofChange leaseTableSpec)

/-- ITS FALSE NEIGHBOUR: 'it returns false'. Refute it at one input. -/
def leaseTableWrong : ChangeSpec := { name := "leaseTable", fn := fun _ => fun
  | [d1, d2, d3, d4, d5] => { results := [.lit (.bool false)], args := [d1, d2, d3, d4, d5] }
  | _ => none }
def LeaseTableWrongFalsely : Prop := leaseTableRow.holds Try.pinned (OpenSpec.ofChange leaseTableWrong)

/-- 'intervalmonlaw33.LeaseGrants': WHATEVER THE INPUT: true; the input reads as it did. -/
def leaseGrantsSpec : ChangeSpec := { name := "leaseGrants", fn := fun _ => fun
  | [d1, d2, d3, d4, d5] => { results := [.lit (.bool true)], args := [d1, d2, d3, d4, d5] }
  | _ => none }
def leaseGrantsRow : OpenClaim := { program := "ytlchcfegfonnmaa", sum := "00ae85738d666b2bd8e3c1fcce011b14c9121a7c68115c4d36d71400fcc59894", func := "intervalmon/intervalmonlaw33.LeaseGrants", spec := "leaseGrants", apart := false }
def LeaseGrantsSaid : Prop := leaseGrantsRow.holds Try.pinned (OpenSpec.ofChange leaseGrantsSpec)

/-- ITS FALSE NEIGHBOUR: 'it returns false'. Refute it at one input. -/
def leaseGrantsWrong : ChangeSpec := { name := "leaseGrants", fn := fun _ => fun
  | [d1, d2, d3, d4, d5] => { results := [.lit (.bool false)], args := [d1, d2, d3, d4, d5] }
  | _ => none }
def LeaseGrantsWrongFalsely : Prop := leaseGrantsRow.holds Try.pinned (OpenSpec.ofChange leaseGrantsWrong)

/- THE SECOND FORM. 'bulk': how many values and letters a reading holds, each counted each time it is reached (what is shared counts as often as it is met; a slice's spare places count too). A statement '..UptoSaid' is the law's where the arguments, and the package variables that the reading takes, are together of bulk at most 1048576: NARROWER than '..Said'. Prove '..Said' where nothing that the law and all that it calls make is longer than what came in: it says more and counts as full. Else prove '..UptoSaid'. A law counts once. -/
mutual
def uptoBulk {H : Type} : DataW H → Nat
  | .lit (.string bytes) => bytes.length + 1
  | .lit _ => 1
  | .nil => 1
  | .ptr d => uptoBulk d + 1
  | .slice elems spare => uptoBulkAll elems + uptoBulkAll spare + 1
  | .agg parts => uptoBulkAll parts + 1
  | .iface _ d => uptoBulk d + 1
  | .map entries => uptoBulkEntries entries + 1
  | .held _ => 1
def uptoBulkAll {H : Type} : List (DataW H) → Nat
  | [] => 0
  | d :: r => uptoBulk d + uptoBulkAll r
def uptoBulkEntries {H : Type} : List (Lit × DataW H) → Nat
  | [] => 0
  | x :: r => uptoBulkEntry x + uptoBulkEntries r
def uptoBulkEntry {H : Type} : Lit × DataW H → Nat
  | (.string bytes, d) => bytes.length + uptoBulk d + 1
  | (_, d) => uptoBulk d + 1
 end
def uptoSmall : (H : Type) → List (DataW H) → Bool := fun _ ds => decide (uptoBulkAll ds ≤ 1048576)
def OpenSpec.upto (s : _root_.Go.ChangeSpec) : _root_.Go.OpenSpec := { _root_.Go.OpenSpec.ofChange s with cond := some uptoSmall }

/-- 'intervalmonlaw33.LeaseFenced', WHERE WHAT IT READS IS OF BULK AT MOST 1048576: true; the input reads as it did. -/
def leaseFencedUptoRow : OpenClaim := { program := "ytlchcfegfonnmaa", sum := "00ae85738d666b2bd8e3c1fcce011b14c9121a7c68115c4d36d71400fcc59894", func := "intervalmon/intervalmonlaw33.LeaseFenced", spec := "leaseFenced", apart := false, narrowed := true }
def LeaseFencedUptoSaid : Prop := leaseFencedUptoRow.holds Try.pinned (OpenSpec.upto leaseFencedSpec)

/-- 'intervalmonlaw33.LeaseTable', WHERE WHAT IT READS IS OF BULK AT MOST 1048576: true; the input reads as it did. -/
def leaseTableUptoRow : OpenClaim := { program := "ytlchcfegfonnmaa", sum := "00ae85738d666b2bd8e3c1fcce011b14c9121a7c68115c4d36d71400fcc59894", func := "intervalmon/intervalmonlaw33.LeaseTable", spec := "leaseTable", apart := false, narrowed := true }
def LeaseTableUptoSaid : Prop := leaseTableUptoRow.holds Try.pinned (OpenSpec.upto leaseTableSpec)

/-- 'intervalmonlaw33.LeaseGrants', WHERE WHAT IT READS IS OF BULK AT MOST 1048576: true; the input reads as it did. -/
def leaseGrantsUptoRow : OpenClaim := { program := "ytlchcfegfonnmaa", sum := "00ae85738d666b2bd8e3c1fcce011b14c9121a7c68115c4d36d71400fcc59894", func := "intervalmon/intervalmonlaw33.LeaseGrants", spec := "leaseGrants", apart := false, narrowed := true }
def LeaseGrantsUptoSaid : Prop := leaseGrantsUptoRow.holds Try.pinned (OpenSpec.upto leaseGrantsSpec)

end Rows
end Go.Proofs.Ytlchcfegfonnmaa
