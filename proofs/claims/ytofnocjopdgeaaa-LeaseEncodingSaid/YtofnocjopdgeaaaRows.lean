/-
  No cell of these rows narrows 'for every input' (looked for: loops, veiled, ifaces, maps, wideKeys, modest, calm, conditions, laid).
  DERIVED. THE GIVEN ROWS OF THIS SEAT. 6 by the template 'for every input the law returns true; each argument reads behind the call as it read before'; 0 by the template 'total and deterministic' (their statements: YtofnocjopdgeaaaTotals.lean).
  GIVEN WITH THE SEED: the statements are not yours to turn. If you find one false, say at which input.
  Laid BY PROGRAM, IN A SANDBOX (cutbox-rows.mjs): the forced cells as the released guide's own fill.sh prints them over the translation 6ad20e8e7b1a11e7… (all of the seat's roots in one cut). By AI agents, Wed Nov 11 2026. No macro, syntax, notation, axiom, sorry.
-/
import Derived.Test.YtofnocjopdgeaaaChecked
import GoSem.Claim
import GoSem.ClaimJoined
import GoSem.ClaimMapViews
import Derived.JoinedTies
import Derived.KernelRfl
namespace Go.Proofs.Ytofnocjopdgeaaa
/- THE CELL 'sum', in the pinned program and in every row, IS THE sha256 OF THE DUMP (.gsa) THAT YtofnocjopdgeaaaProg.lean LOADS. Nothing in Lean hashes anything: it is a label: what it is worth is what the hold of that sum in a sandbox is worth. -/
noncomputable def Try.pinned : Pinned := { name := "ytofnocjopdgeaaa", sum := "6ad20e8e7b1a11e7436c11cabc5dafe99a37ea564eda2636def6c52db04fc691", checked := Try.checked }
namespace Rows
def none {H : Type} : Left H := { results := [], args := [] }

/-- 'intervalmonlaw33.LeaseTable': WHATEVER THE INPUT: true; the input reads as it did. -/
def leaseTableSpec : ChangeSpec := { name := "leaseTable", fn := fun _ => fun
  | [d1, d2, d3, d4, d5] => { results := [.lit (.bool true)], args := [d1, d2, d3, d4, d5] }
  | _ => none }
def leaseTableRow : OpenClaim := { program := "ytofnocjopdgeaaa", sum := "6ad20e8e7b1a11e7436c11cabc5dafe99a37ea564eda2636def6c52db04fc691", func := "intervalmon/intervalmonlaw33.LeaseTable", spec := "leaseTable", apart := false }
def LeaseTableSaid : Prop := leaseTableRow.holds Try.pinned (OpenSpec.ofChange leaseTableSpec)

/-- ITS FALSE NEIGHBOUR: 'it returns false'. Refute it at one input. -/
def leaseTableWrong : ChangeSpec := { name := "leaseTable", fn := fun _ => fun
  | [d1, d2, d3, d4, d5] => { results := [.lit (.bool false)], args := [d1, d2, d3, d4, d5] }
  | _ => none }
def LeaseTableWrongFalsely : Prop := leaseTableRow.holds Try.pinned (OpenSpec.ofChange leaseTableWrong)

/-- 'intervalmonlaw33.LeaseEncoding': WHATEVER THE INPUT: true; the input reads as it did. -/
def leaseEncodingSpec : ChangeSpec := { name := "leaseEncoding", fn := fun _ => fun
  | [d1, d2, d3, d4, d5, d6, d7] => { results := [.lit (.bool true)], args := [d1, d2, d3, d4, d5, d6, d7] }
  | _ => none }
def leaseEncodingRow : OpenClaim := { program := "ytofnocjopdgeaaa", sum := "6ad20e8e7b1a11e7436c11cabc5dafe99a37ea564eda2636def6c52db04fc691", func := "intervalmon/intervalmonlaw33.LeaseEncoding", spec := "leaseEncoding", unfollowed := true, recurses := true, apart := false }
def LeaseEncodingSaid : Prop := leaseEncodingRow.holds Try.pinned (OpenSpec.ofChange leaseEncodingSpec)

/-- ITS FALSE NEIGHBOUR: 'it returns false'. Refute it at one input. -/
def leaseEncodingWrong : ChangeSpec := { name := "leaseEncoding", fn := fun _ => fun
  | [d1, d2, d3, d4, d5, d6, d7] => { results := [.lit (.bool false)], args := [d1, d2, d3, d4, d5, d6, d7] }
  | _ => none }
def LeaseEncodingWrongFalsely : Prop := leaseEncodingRow.holds Try.pinned (OpenSpec.ofChange leaseEncodingWrong)

/-- 'intervalmonlaw33.LeaseOwn': WHATEVER THE INPUT: true; the input reads as it did. -/
def leaseOwnSpec : ChangeSpec := { name := "leaseOwn", fn := fun _ => fun
  | [d] => { results := [.lit (.bool true)], args := [d] }
  | _ => none }
def leaseOwnRow : OpenClaim := { program := "ytofnocjopdgeaaa", sum := "6ad20e8e7b1a11e7436c11cabc5dafe99a37ea564eda2636def6c52db04fc691", func := "intervalmon/intervalmonlaw33.LeaseOwn", spec := "leaseOwn", inPlace := ["maps.clone"], apart := false }
def LeaseOwnSaid : Prop := leaseOwnRow.holds Try.pinned (OpenSpec.ofChange leaseOwnSpec)

/-- ITS FALSE NEIGHBOUR: 'it returns false'. Refute it at one input. -/
def leaseOwnWrong : ChangeSpec := { name := "leaseOwn", fn := fun _ => fun
  | [d] => { results := [.lit (.bool false)], args := [d] }
  | _ => none }
def LeaseOwnWrongFalsely : Prop := leaseOwnRow.holds Try.pinned (OpenSpec.ofChange leaseOwnWrong)

/-- 'intervalmonlaw33.LeaseReplicas': WHATEVER THE INPUT: true; the input reads as it did. -/
def leaseReplicasSpec : ChangeSpec := { name := "leaseReplicas", fn := fun _ => fun
  | [d1, d2] => { results := [.lit (.bool true)], args := [d1, d2] }
  | _ => none }
def leaseReplicasRow : OpenClaim := { program := "ytofnocjopdgeaaa", sum := "6ad20e8e7b1a11e7436c11cabc5dafe99a37ea564eda2636def6c52db04fc691", func := "intervalmon/intervalmonlaw33.LeaseReplicas", spec := "leaseReplicas", unfollowed := true, recurses := true, apart := false }
def LeaseReplicasSaid : Prop := leaseReplicasRow.holds Try.pinned (OpenSpec.ofChange leaseReplicasSpec)

/-- ITS FALSE NEIGHBOUR: 'it returns false'. Refute it at one input. -/
def leaseReplicasWrong : ChangeSpec := { name := "leaseReplicas", fn := fun _ => fun
  | [d1, d2] => { results := [.lit (.bool false)], args := [d1, d2] }
  | _ => none }
def LeaseReplicasWrongFalsely : Prop := leaseReplicasRow.holds Try.pinned (OpenSpec.ofChange leaseReplicasWrong)

/-- 'intervalmonlaw33.LeaseArguments': WHATEVER THE INPUT: true; the input reads as it did. -/
def leaseArgumentsSpec : ChangeSpec := { name := "leaseArguments", fn := fun _ => fun
  | [d1, d2, d3, d4, d5, d6] => { results := [.lit (.bool true)], args := [d1, d2, d3, d4, d5, d6] }
  | _ => none }
def leaseArgumentsRow : OpenClaim := { program := "ytofnocjopdgeaaa", sum := "6ad20e8e7b1a11e7436c11cabc5dafe99a37ea564eda2636def6c52db04fc691", func := "intervalmon/intervalmonlaw33.LeaseArguments", spec := "leaseArguments", unfollowed := true, recurses := true, apart := false }
def LeaseArgumentsSaid : Prop := leaseArgumentsRow.holds Try.pinned (OpenSpec.ofChange leaseArgumentsSpec)

/-- ITS FALSE NEIGHBOUR: 'it returns false'. Refute it at one input. -/
def leaseArgumentsWrong : ChangeSpec := { name := "leaseArguments", fn := fun _ => fun
  | [d1, d2, d3, d4, d5, d6] => { results := [.lit (.bool false)], args := [d1, d2, d3, d4, d5, d6] }
  | _ => none }
def LeaseArgumentsWrongFalsely : Prop := leaseArgumentsRow.holds Try.pinned (OpenSpec.ofChange leaseArgumentsWrong)

/-- 'intervalmonlaw33.LeaseAgrees': WHATEVER THE INPUT: true; the input reads as it did. -/
def leaseAgreesSpec : ChangeSpec := { name := "leaseAgrees", fn := fun _ => fun
  | [d1, d2] => { results := [.lit (.bool true)], args := [d1, d2] }
  | _ => none }
def leaseAgreesRow : OpenClaim := { program := "ytofnocjopdgeaaa", sum := "6ad20e8e7b1a11e7436c11cabc5dafe99a37ea564eda2636def6c52db04fc691", func := "intervalmon/intervalmonlaw33.LeaseAgrees", spec := "leaseAgrees", unfollowed := true, recurses := true, apart := false }
def LeaseAgreesSaid : Prop := leaseAgreesRow.holds Try.pinned (OpenSpec.ofChange leaseAgreesSpec)

/-- ITS FALSE NEIGHBOUR: 'it returns false'. Refute it at one input. -/
def leaseAgreesWrong : ChangeSpec := { name := "leaseAgrees", fn := fun _ => fun
  | [d1, d2] => { results := [.lit (.bool false)], args := [d1, d2] }
  | _ => none }
def LeaseAgreesWrongFalsely : Prop := leaseAgreesRow.holds Try.pinned (OpenSpec.ofChange leaseAgreesWrong)

/- THE SECOND FORM. 'bulk': how many values and letters a reading holds, each counted each time it is reached (what is shared counts as often as it is met; a slice's spare places count too). A statement '..UptoSaid' is the law's where the arguments, and the package variables that the reading takes, are together of bulk at most 1048576: NARROWER than '..Said'. Prove '..Said' where nothing that the law and all that it calls make is longer than what came in: it says more and counts as full. Else prove '..UptoSaid'. A law counts once. -/
mutual
def uptoBulk {H : Type} : DataW H → Nat
  | .lit (.string bytes) => bytes.length + 1
  | .lit _ => 1
  | .nil => 1
  | .ptr d => uptoBulk d + 1
  | .slice elems spare => uptoBulkAll elems + uptoBulkAll spare + 1
  | .agg parts => uptoBulkAll parts + 1
  | .iface _ d => uptoBulk d + 1
  | .map entries => uptoBulkEntries entries + 1
  | .held _ => 1
def uptoBulkAll {H : Type} : List (DataW H) → Nat
  | [] => 0
  | d :: r => uptoBulk d + uptoBulkAll r
def uptoBulkEntries {H : Type} : List (Lit × DataW H) → Nat
  | [] => 0
  | x :: r => uptoBulkEntry x + uptoBulkEntries r
def uptoBulkEntry {H : Type} : Lit × DataW H → Nat
  | (.string bytes, d) => bytes.length + uptoBulk d + 1
  | (_, d) => uptoBulk d + 1
 end
def uptoSmall : (H : Type) → List (DataW H) → Bool := fun _ ds => decide (uptoBulkAll ds ≤ 1048576)
def OpenSpec.upto (s : _root_.Go.ChangeSpec) : _root_.Go.OpenSpec := { _root_.Go.OpenSpec.ofChange s with cond := some uptoSmall }

/-- 'intervalmonlaw33.LeaseTable', WHERE WHAT IT READS IS OF BULK AT MOST 1048576: true; the input reads as it did. -/
def leaseTableUptoRow : OpenClaim := { program := "ytofnocjopdgeaaa", sum := "6ad20e8e7b1a11e7436c11cabc5dafe99a37ea564eda2636def6c52db04fc691", func := "intervalmon/intervalmonlaw33.LeaseTable", spec := "leaseTable", apart := false, narrowed := true }
def LeaseTableUptoSaid : Prop := leaseTableUptoRow.holds Try.pinned (OpenSpec.upto leaseTableSpec)

/-- 'intervalmonlaw33.LeaseEncoding', WHERE WHAT IT READS IS OF BULK AT MOST 1048576: true; the input reads as it did. -/
def leaseEncodingUptoRow : OpenClaim := { program := "ytofnocjopdgeaaa", sum := "6ad20e8e7b1a11e7436c11cabc5dafe99a37ea564eda2636def6c52db04fc691", func := "intervalmon/intervalmonlaw33.LeaseEncoding", spec := "leaseEncoding", unfollowed := true, recurses := true, apart := false, narrowed := true }
def LeaseEncodingUptoSaid : Prop := leaseEncodingUptoRow.holds Try.pinned (OpenSpec.upto leaseEncodingSpec)

/-- 'intervalmonlaw33.LeaseOwn', WHERE WHAT IT READS IS OF BULK AT MOST 1048576: true; the input reads as it did. -/
def leaseOwnUptoRow : OpenClaim := { program := "ytofnocjopdgeaaa", sum := "6ad20e8e7b1a11e7436c11cabc5dafe99a37ea564eda2636def6c52db04fc691", func := "intervalmon/intervalmonlaw33.LeaseOwn", spec := "leaseOwn", inPlace := ["maps.clone"], apart := false, narrowed := true }
def LeaseOwnUptoSaid : Prop := leaseOwnUptoRow.holds Try.pinned (OpenSpec.upto leaseOwnSpec)

/-- 'intervalmonlaw33.LeaseReplicas', WHERE WHAT IT READS IS OF BULK AT MOST 1048576: true; the input reads as it did. -/
def leaseReplicasUptoRow : OpenClaim := { program := "ytofnocjopdgeaaa", sum := "6ad20e8e7b1a11e7436c11cabc5dafe99a37ea564eda2636def6c52db04fc691", func := "intervalmon/intervalmonlaw33.LeaseReplicas", spec := "leaseReplicas", unfollowed := true, recurses := true, apart := false, narrowed := true }
def LeaseReplicasUptoSaid : Prop := leaseReplicasUptoRow.holds Try.pinned (OpenSpec.upto leaseReplicasSpec)

/-- 'intervalmonlaw33.LeaseArguments', WHERE WHAT IT READS IS OF BULK AT MOST 1048576: true; the input reads as it did. -/
def leaseArgumentsUptoRow : OpenClaim := { program := "ytofnocjopdgeaaa", sum := "6ad20e8e7b1a11e7436c11cabc5dafe99a37ea564eda2636def6c52db04fc691", func := "intervalmon/intervalmonlaw33.LeaseArguments", spec := "leaseArguments", unfollowed := true, recurses := true, apart := false, narrowed := true }
def LeaseArgumentsUptoSaid : Prop := leaseArgumentsUptoRow.holds Try.pinned (OpenSpec.upto leaseArgumentsSpec)

/-- 'intervalmonlaw33.LeaseAgrees', WHERE WHAT IT READS IS OF BULK AT MOST 1048576: true; the input reads as it did. -/
def leaseAgreesUptoRow : OpenClaim := { program := "ytofnocjopdgeaaa", sum := "6ad20e8e7b1a11e7436c11cabc5dafe99a37ea564eda2636def6c52db04fc691", func := "intervalmon/intervalmonlaw33.LeaseAgrees", spec := "leaseAgrees", unfollowed := true, recurses := true, apart := false, narrowed := true }
def LeaseAgreesUptoSaid : Prop := leaseAgreesUptoRow.holds Try.pinned (OpenSpec.upto leaseAgreesSpec)

end Rows
end Go.Proofs.Ytofnocjopdgeaaa
