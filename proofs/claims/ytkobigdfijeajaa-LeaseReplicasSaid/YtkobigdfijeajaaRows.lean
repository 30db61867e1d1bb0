/-
  No cell of these rows narrows 'for every input' (looked for: loops, veiled, ifaces, maps, wideKeys, modest, calm, conditions, laid).
  DERIVED. THE GIVEN ROWS OF THIS SEAT. 4 by the template 'for every input the law returns true; each argument reads behind the call as it read before'; 0 by the template 'total and deterministic' (their statements: YtkobigdfijeajaaTotals.lean).
  GIVEN WITH THE SEED: the statements are not yours to turn. If you find one false, say at which input.
  Laid BY PROGRAM, IN A SANDBOX (cutbox-rows.mjs): the forced cells as the released guide's own fill.sh prints them over the translation afeddd6b3c7fb489… (all of the seat's roots in one cut). By AI agents, Wed Nov 11 2026. No macro, syntax, notation, axiom, sorry.
-/
import Derived.Test.YtkobigdfijeajaaChecked
import GoSem.Claim
import GoSem.ClaimJoined
import GoSem.ClaimMapViews
import Derived.JoinedTies
import Derived.KernelRfl
namespace Go.Proofs.Ytkobigdfijeajaa
/- THE CELL 'sum', in the pinned program and in every row, IS THE sha256 OF THE DUMP (.gsa) THAT YtkobigdfijeajaaProg.lean LOADS. Nothing in Lean hashes anything: it is a label: what it is worth is what the hold of that sum in a sandbox is worth. -/
noncomputable def Try.pinned : Pinned := { name := "ytkobigdfijeajaa", sum := "afeddd6b3c7fb489ae67731538748591123b86b9c83a4d2efb487eae03759152", checked := Try.checked }
namespace Rows
def none {H : Type} : Left H := { results := [], args := [] }

/-- 'intervalmonlaw33.LeaseOwn': WHATEVER THE INPUT: true; the input reads as it did. -/
def leaseOwnSpec : ChangeSpec := { name := "leaseOwn", fn := fun _ => fun
  | [d] => { results := [.lit (.bool true)], args := [d] }
  | _ => none }
def leaseOwnRow : OpenClaim := { program := "ytkobigdfijeajaa", sum := "afeddd6b3c7fb489ae67731538748591123b86b9c83a4d2efb487eae03759152", func := "intervalmon/intervalmonlaw33.LeaseOwn", spec := "leaseOwn", inPlace := ["maps.clone"], apart := false }
def LeaseOwnSaid : Prop := leaseOwnRow.holds Try.pinned (OpenSpec.ofChange leaseOwnSpec)

/-- ITS FALSE NEIGHBOUR: 'it returns false'. Refute it at one input. -/
def leaseOwnWrong : ChangeSpec := { name := "leaseOwn", fn := fun _ => fun
  | [d] => { results := [.lit (.bool false)], args := [d] }
  | _ => none }
def LeaseOwnWrongFalsely : Prop := leaseOwnRow.holds Try.pinned (OpenSpec.ofChange leaseOwnWrong)

/-- 'intervalmonlaw33.LeaseArguments': WHATEVER THE INPUT: true; the input reads as it did. -/
def leaseArgumentsSpec : ChangeSpec := { name := "leaseArguments", fn := fun _ => fun
  | [d1, d2, d3, d4, d5, d6] => { results := [.lit (.bool true)], args := [d1, d2, d3, d4, d5, d6] }
  | _ => none }
def leaseArgumentsRow : OpenClaim := { program := "ytkobigdfijeajaa", sum := "afeddd6b3c7fb489ae67731538748591123b86b9c83a4d2efb487eae03759152", func := "intervalmon/intervalmonlaw33.LeaseArguments", spec := "leaseArguments", unfollowed := true, recurses := true, apart := false }
def LeaseArgumentsSaid : Prop := leaseArgumentsRow.holds Try.pinned (OpenSpec.ofChange leaseArgumentsSpec)

/-- ITS FALSE NEIGHBOUR: 'it returns false'. Refute it at one input. -/
def leaseArgumentsWrong : ChangeSpec := { name := "leaseArguments", fn := fun _ => fun
  | [d1, d2, d3, d4, d5, d6] => { results := [.lit (.bool false)], args := [d1, d2, d3, d4, d5, d6] }
  | _ => none }
def LeaseArgumentsWrongFalsely : Prop := leaseArgumentsRow.holds Try.pinned (OpenSpec.ofChange leaseArgumentsWrong)

/-- 'intervalmonlaw33.LeaseReplicas': WHATEVER THE INPUT: true; the input reads as it did. -/
def leaseReplicasSpec : ChangeSpec := { name := "leaseReplicas", fn := fun _ => fun
  | [d1, d2] => { results := [.lit (.bool true)], args := [d1, d2] }
  | _ => none }
def leaseReplicasRow : OpenClaim := { program := "ytkobigdfijeajaa", sum := "afeddd6b3c7fb489ae67731538748591123b86b9c83a4d2efb487eae03759152", func := "intervalmon/intervalmonlaw33.LeaseReplicas", spec := "leaseReplicas", unfollowed := true, recurses := true, apart := false }
def LeaseReplicasSaid : Prop := leaseReplicasRow.holds Try.pinned (OpenSpec.ofChange leaseReplicasSpec)

/-- ITS FALSE NEIGHBOUR: 'it returns false'. Refute it at one input. -/
def leaseReplicasWrong : ChangeSpec := { name := "leaseReplicas", fn := fun _ => fun
  | [d1, d2] => { results := [.lit (.bool false)], args := [d1, d2] }
  | _ => none }
def LeaseReplicasWrongFalsely : Prop := leaseReplicasRow.holds Try.pinned (OpenSpec.ofChange leaseReplicasWrong)

/-- 'intervalmonlaw33.LeaseAgrees': WHATEVER THE INPUT: true; the input reads as it did. -/
def leaseAgreesSpec : ChangeSpec := { name := "leaseAgrees", fn := fun _ => fun
  | [d1, d2] => { results := [.lit (.bool true)], args := [d1, d2] }
  | _ => none }
def leaseAgreesRow : OpenClaim := { program := "ytkobigdfijeajaa", sum := "afeddd6b3c7fb489ae67731538748591123b86b9c83a4d2efb487eae03759152", func := "intervalmon/intervalmonlaw33.LeaseAgrees", spec := "leaseAgrees", unfollowed := true, recurses := true, apart := false }
def LeaseAgreesSaid : Prop := leaseAgreesRow.holds Try.pinned (OpenSpec.ofChange leaseAgreesSpec)

/-- ITS FALSE NEIGHBOUR: 'it returns false'. Refute it at one input. -/
def leaseAgreesWrong : ChangeSpec := { name := "leaseAgrees", fn := fun _ => fun
  | [d1, d2] => { results := [.lit (.bool false)], args := [d1, d2] }
  | _ => none }
def LeaseAgreesWrongFalsely : Prop := leaseAgreesRow.holds Try.pinned (OpenSpec.ofChange leaseAgreesWrong)

/- THE SECOND FORM. 'bulk': how many values and letters a reading holds, each counted each time it is reached (what is shared counts as often as it is met; a slice's spare places count too). A statement '..UptoSaid' is the law's where the arguments, and the package variables that the reading takes, are together of bulk at most 1048576: NARROWER than '..Said'. Prove '..Said' where nothing that the law and all that it calls make is longer than what came in: it says more and counts as full. Else prove '..UptoSaid'. A law counts once. -/
mutual
def uptoBulk {H : Type} : DataW H → Nat
  | .lit (.string bytes) => bytes.length + 1
  | .lit _ => 1
  | .nil => 1
  | .ptr d => uptoBulk d + 1
  | .slice elems spare => uptoBulkAll elems + uptoBulkAll spare + 1
  | .agg parts => uptoBulkAll parts + 1
  | .iface _ d => uptoBulk d + 1
  | .map entries => uptoBulkEntries entries + 1
  | .held _ => 1
def uptoBulkAll {H : Type} : List (DataW H) → Nat
  | [] => 0
  | d :: r => uptoBulk d + uptoBulkAll r
def uptoBulkEntries {H : Type} : List (Lit × DataW H) → Nat
  | [] => 0
  | x :: r => uptoBulkEntry x + uptoBulkEntries r
def uptoBulkEntry {H : Type} : Lit × DataW H → Nat
  | (.string bytes, d) => bytes.length + uptoBulk d + 1
  | (_, d) => uptoBulk d + 1
 end
def uptoSmall : (H : Type) → List (DataW H) → Bool := fun _ ds => decide (uptoBulkAll ds ≤ 1048576)
def OpenSpec.upto (s : _root_.Go.ChangeSpec) : _root_.Go.OpenSpec := { _root_.Go.OpenSpec.ofChange s with cond := some uptoSmall }

/-- 'intervalmonlaw33.LeaseOwn', WHERE WHAT IT READS IS OF BULK AT MOST 1048576: true; the input reads as it did. -/
def leaseOwnUptoRow : OpenClaim := { program := "ytkobigdfijeajaa", sum := "afeddd6b3c7fb489ae67731538748591123b86b9c83a4d2efb487eae03759152", func := "intervalmon/intervalmonlaw33.LeaseOwn", spec := "leaseOwn", inPlace := ["maps.clone"], apart := false, narrowed := true }
def LeaseOwnUptoSaid : Prop := leaseOwnUptoRow.holds Try.pinned (OpenSpec.upto leaseOwnSpec)

/-- 'intervalmonlaw33.LeaseArguments', WHERE WHAT IT READS IS OF BULK AT MOST 1048576: true; the input reads as it did. -/
def leaseArgumentsUptoRow : OpenClaim := { program := "ytkobigdfijeajaa", sum := "afeddd6b3c7fb489ae67731538748591123b86b9c83a4d2efb487eae03759152", func := "intervalmon/intervalmonlaw33.LeaseArguments", spec := "leaseArguments", unfollowed := true, recurses := true, apart := false, narrowed := true }
def LeaseArgumentsUptoSaid : Prop := leaseArgumentsUptoRow.holds Try.pinned (OpenSpec.upto leaseArgumentsSpec)

/-- 'intervalmonlaw33.LeaseReplicas', WHERE WHAT IT READS IS OF BULK AT MOST 1048576: true; the input reads as it did. -/
def leaseReplicasUptoRow : OpenClaim := { program := "ytkobigdfijeajaa", sum := "afeddd6b3c7fb489ae67731538748591123b86b9c83a4d2efb487eae03759152", func := "intervalmon/intervalmonlaw33.LeaseReplicas", spec := "leaseReplicas", unfollowed := true, recurses := true, apart := false, narrowed := true }
def LeaseReplicasUptoSaid : Prop := leaseReplicasUptoRow.holds Try.pinned (OpenSpec.upto leaseReplicasSpec)

/-- 'intervalmonlaw33.LeaseAgrees', WHERE WHAT IT READS IS OF BULK AT MOST 1048576: true; the input reads as it did. -/
def leaseAgreesUptoRow : OpenClaim := { program := "ytkobigdfijeajaa", sum := "afeddd6b3c7fb489ae67731538748591123b86b9c83a4d2efb487eae03759152", func := "intervalmon/intervalmonlaw33.LeaseAgrees", spec := "leaseAgrees", unfollowed := true, recurses := true, apart := false, narrowed := true }
def LeaseAgreesUptoSaid : Prop := leaseAgreesUptoRow.holds Try.pinned (OpenSpec.upto leaseAgreesSpec)

end Rows
end Go.Proofs.Ytkobigdfijeajaa
