/-
  No cell of these rows narrows 'for every input' (looked for: loops, veiled, ifaces, maps, wideKeys, modest, calm, conditions, laid).
  DERIVED. THE GIVEN ROWS OF THIS SEAT. 9 by the template 'for every input the law returns true; each argument reads behind the call as it read before'; 0 by the template 'total and deterministic' (their statements: YtifegkpjbdgniaaTotals.lean).
  GIVEN WITH THE SEED: the statements are not yours to turn. If you find one false, say at which input.
  Laid BY PROGRAM, IN A SANDBOX (cutbox-rows.mjs): the forced cells as the released guide's own fill.sh prints them over the translation ad83cea7d6fffecd… (all of the seat's roots in one cut). By AI agents, Wed Nov 11 2026. No macro, syntax, notation, axiom, sorry.
-/
import Derived.Test.YtifegkpjbdgniaaChecked
import GoSem.Claim
import GoSem.ClaimJoined
import GoSem.ClaimMapViews
import Derived.JoinedTies
import Derived.KernelRfl
namespace Go.Proofs.Ytifegkpjbdgniaa
/- THE CELL 'sum', in the pinned program and in every row, IS THE sha256 OF THE DUMP (.gsa) THAT YtifegkpjbdgniaaProg.lean LOADS. Nothing in Lean hashes anything: it is a label: what it is worth is what the hold of that sum in a sandbox is worth. -/
noncomputable def Try.pinned : Pinned := { name := "ytifegkpjbdgniaa", sum := "ad83cea7d6fffecd321e11924d793ed26931b337590a478a0087b0a67a9831eb", checked := Try.checked }
namespace Rows
def none {H : Type} : Left H := { results := [], args := [] }

/-- 'intervalmonlaw14.BitsWrites': WHATEVER THE INPUT: true; the input reads as it did. -/
def bitsWritesSpec : ChangeSpec := { name := "bitsWrites", fn := fun _ => fun
  | [d1, d2, d3, d4] => { results := [.lit (.bool true)], args := [d1, d2, d3, d4] }
  | _ => none }
def bitsWritesRow : OpenClaim := { program := "ytifegkpjbdgniaa", sum := "ad83cea7d6fffecd321e11924d793ed26931b337590a478a0087b0a67a9831eb", func := "intervalmon/intervalmonlaw14.BitsWrites", spec := "bitsWrites", unfollowed := true, recurses := true, apart := false }
def BitsWritesSaid : Prop := bitsWritesRow.holds Try.pinned (OpenSpec.ofChange bitsWritesSpec)

/-- ITS FALSE NEIGHBOUR: 'it returns false'. Refute it at one input. -/
def bitsWritesWrong : ChangeSpec := { name := "bitsWrites", fn := fun _ => fun
  | [d1, d2, d3, d4] => { results := [.lit (.bool false)], args := [d1, d2, d3, d4] }
  | _ => none }
def BitsWritesWrongFalsely : Prop := bitsWritesRow.holds Try.pinned (OpenSpec.ofChange bitsWritesWrong)

/-- 'intervalmonlaw14.BitsReads': WHATEVER THE INPUT: true; the input reads as it did. -/
def bitsReadsSpec : ChangeSpec := { name := "bitsReads", fn := fun _ => fun
  | [d1, d2, d3] => { results := [.lit (.bool true)], args := [d1, d2, d3] }
  | _ => none }
def bitsReadsRow : OpenClaim := { program := "ytifegkpjbdgniaa", sum := "ad83cea7d6fffecd321e11924d793ed26931b337590a478a0087b0a67a9831eb", func := "intervalmon/intervalmonlaw14.BitsReads", spec := "bitsReads", unfollowed := true, recurses := true, apart := false }
def BitsReadsSaid : Prop := bitsReadsRow.holds Try.pinned (OpenSpec.ofChange bitsReadsSpec)

/-- ITS FALSE NEIGHBOUR: 'it returns false'. Refute it at one input. -/
def bitsReadsWrong : ChangeSpec := { name := "bitsReads", fn := fun _ => fun
  | [d1, d2, d3] => { results := [.lit (.bool false)], args := [d1, d2, d3] }
  | _ => none }
def BitsReadsWrongFalsely : Prop := bitsReadsRow.holds Try.pinned (OpenSpec.ofChange bitsReadsWrong)

/-- 'intervalmonlaw14.BitsRound': WHATEVER THE INPUT: true; the input reads as it did. -/
def bitsRoundSpec : ChangeSpec := { name := "bitsRound", fn := fun _ => fun
  | [d1, d2, d3] => { results := [.lit (.bool true)], args := [d1, d2, d3] }
  | _ => none }
def bitsRoundRow : OpenClaim := { program := "ytifegkpjbdgniaa", sum := "ad83cea7d6fffecd321e11924d793ed26931b337590a478a0087b0a67a9831eb", func := "intervalmon/intervalmonlaw14.BitsRound", spec := "bitsRound", unfollowed := true, recurses := true, apart := false }
def BitsRoundSaid : Prop := bitsRoundRow.holds Try.pinned (OpenSpec.ofChange bitsRoundSpec)

/-- ITS FALSE NEIGHBOUR: 'it returns false'. Refute it at one input. -/
def bitsRoundWrong : ChangeSpec := { name := "bitsRound", fn := fun _ => fun
  | [d1, d2, d3] => { results := [.lit (.bool false)], args := [d1, d2, d3] }
  | _ => none }
def BitsRoundWrongFalsely : Prop := bitsRoundRow.holds Try.pinned (OpenSpec.ofChange bitsRoundWrong)

/-- 'intervalmonlaw14.BitsOne': WHATEVER THE INPUT: true; the input reads as it did. -/
def bitsOneSpec : ChangeSpec := { name := "bitsOne", fn := fun _ => fun
  | [d1, d2] => { results := [.lit (.bool true)], args := [d1, d2] }
  | _ => none }
def bitsOneRow : OpenClaim := { program := "ytifegkpjbdgniaa", sum := "ad83cea7d6fffecd321e11924d793ed26931b337590a478a0087b0a67a9831eb", func := "intervalmon/intervalmonlaw14.BitsOne", spec := "bitsOne", unfollowed := true, recurses := true, apart := false }
def BitsOneSaid : Prop := bitsOneRow.holds Try.pinned (OpenSpec.ofChange bitsOneSpec)

/-- ITS FALSE NEIGHBOUR: 'it returns false'. Refute it at one input. -/
def bitsOneWrong : ChangeSpec := { name := "bitsOne", fn := fun _ => fun
  | [d1, d2] => { results := [.lit (.bool false)], args := [d1, d2] }
  | _ => none }
def BitsOneWrongFalsely : Prop := bitsOneRow.holds Try.pinned (OpenSpec.ofChange bitsOneWrong)

/-- 'intervalmonlaw14.BitsPadding': WHATEVER THE INPUT: true; the input reads as it did. -/
def bitsPaddingSpec : ChangeSpec := { name := "bitsPadding", fn := fun _ => fun
  | [d1, d2] => { results := [.lit (.bool true)], args := [d1, d2] }
  | _ => none }
def bitsPaddingRow : OpenClaim := { program := "ytifegkpjbdgniaa", sum := "ad83cea7d6fffecd321e11924d793ed26931b337590a478a0087b0a67a9831eb", func := "intervalmon/intervalmonlaw14.BitsPadding", spec := "bitsPadding", unfollowed := true, recurses := true, apart := false }
def BitsPaddingSaid : Prop := bitsPaddingRow.holds Try.pinned (OpenSpec.ofChange bitsPaddingSpec)

/-- ITS FALSE NEIGHBOUR: 'it returns false'. Refute it at one input. -/
def bitsPaddingWrong : ChangeSpec := { name := "bitsPadding", fn := fun _ => fun
  | [d1, d2] => { results := [.lit (.bool false)], args := [d1, d2] }
  | _ => none }
def BitsPaddingWrongFalsely : Prop := bitsPaddingRow.holds Try.pinned (OpenSpec.ofChange bitsPaddingWrong)

/-- 'intervalmonlaw14.BitsOrder': WHATEVER THE INPUT: true; the input reads as it did. -/
def bitsOrderSpec : ChangeSpec := { name := "bitsOrder", fn := fun _ => fun
  | [d1, d2, d3, d4] => { results := [.lit (.bool true)], args := [d1, d2, d3, d4] }
  | _ => none }
def bitsOrderRow : OpenClaim := { program := "ytifegkpjbdgniaa", sum := "ad83cea7d6fffecd321e11924d793ed26931b337590a478a0087b0a67a9831eb", func := "intervalmon/intervalmonlaw14.BitsOrder", spec := "bitsOrder", unfollowed := true, recurses := true, apart := false }
def BitsOrderSaid : Prop := bitsOrderRow.holds Try.pinned (OpenSpec.ofChange bitsOrderSpec)

/-- ITS FALSE NEIGHBOUR: 'it returns false'. Refute it at one input. -/
def bitsOrderWrong : ChangeSpec := { name := "bitsOrder", fn := fun _ => fun
  | [d1, d2, d3, d4] => { results := [.lit (.bool false)], args := [d1, d2, d3, d4] }
  | _ => none }
def BitsOrderWrongFalsely : Prop := bitsOrderRow.holds Try.pinned (OpenSpec.ofChange bitsOrderWrong)

/-- 'intervalmonlaw14.BitsOwn': WHATEVER THE INPUT: true; the input reads as it did. -/
def bitsOwnSpec : ChangeSpec := { name := "bitsOwn", fn := fun _ => fun
  | [d1, d2] => { results := [.lit (.bool true)], args := [d1, d2] }
  | _ => none }
def bitsOwnRow : OpenClaim := { program := "ytifegkpjbdgniaa", sum := "ad83cea7d6fffecd321e11924d793ed26931b337590a478a0087b0a67a9831eb", func := "intervalmon/intervalmonlaw14.BitsOwn", spec := "bitsOwn", unfollowed := true, recurses := true, apart := false }
def BitsOwnSaid : Prop := bitsOwnRow.holds Try.pinned (OpenSpec.ofChange bitsOwnSpec)

/-- ITS FALSE NEIGHBOUR: 'it returns false'. Refute it at one input. -/
def bitsOwnWrong : ChangeSpec := { name := "bitsOwn", fn := fun _ => fun
  | [d1, d2] => { results := [.lit (.bool false)], args := [d1, d2] }
  | _ => none }
def BitsOwnWrongFalsely : Prop := bitsOwnRow.holds Try.pinned (OpenSpec.ofChange bitsOwnWrong)

/-- 'intervalmonlaw14.BitsWire': WHATEVER THE INPUT: true; the input reads as it did. -/
def bitsWireSpec : ChangeSpec := { name := "bitsWire", fn := fun _ => fun
  | [d1, d2] => { results := [.lit (.bool true)], args := [d1, d2] }
  | _ => none }
def bitsWireRow : OpenClaim := { program := "ytifegkpjbdgniaa", sum := "ad83cea7d6fffecd321e11924d793ed26931b337590a478a0087b0a67a9831eb", func := "intervalmon/intervalmonlaw14.BitsWire", spec := "bitsWire", unfollowed := true, recurses := true, apart := false }
def BitsWireSaid : Prop := bitsWireRow.holds Try.pinned (OpenSpec.ofChange bitsWireSpec)

/-- ITS FALSE NEIGHBOUR: 'it returns false'. Refute it at one input. -/
def bitsWireWrong : ChangeSpec := { name := "bitsWire", fn := fun _ => fun
  | [d1, d2] => { results := [.lit (.bool false)], args := [d1, d2] }
  | _ => none }
def BitsWireWrongFalsely : Prop := bitsWireRow.holds Try.pinned (OpenSpec.ofChange bitsWireWrong)

/-- 'intervalmonlaw14.BitsHash': WHATEVER THE INPUT: true; the input reads as it did. -/
def bitsHashSpec : ChangeSpec := { name := "bitsHash", fn := fun _ => fun
  | [d1, d2, d3, d4] => { results := [.lit (.bool true)], args := [d1, d2, d3, d4] }
  | _ => none }
def bitsHashRow : OpenClaim := { program := "ytifegkpjbdgniaa", sum := "ad83cea7d6fffecd321e11924d793ed26931b337590a478a0087b0a67a9831eb", func := "intervalmon/intervalmonlaw14.BitsHash", spec := "bitsHash", unfollowed := true, recurses := true, apart := false }
def BitsHashSaid : Prop := bitsHashRow.holds Try.pinned (OpenSpec.ofChange bitsHashSpec)

/-- ITS FALSE NEIGHBOUR: 'it returns false'. Refute it at one input. -/
def bitsHashWrong : ChangeSpec := { name := "bitsHash", fn := fun _ => fun
  | [d1, d2, d3, d4] => { results := [.lit (.bool false)], args := [d1, d2, d3, d4] }
  | _ => none }
def BitsHashWrongFalsely : Prop := bitsHashRow.holds Try.pinned (OpenSpec.ofChange bitsHashWrong)

/- THE SECOND FORM. 'bulk': how many values and letters a reading holds, each counted each time it is reached (what is shared counts as often as it is met; a slice's spare places count too). A statement '..UptoSaid' is the law's where the arguments, and the package variables that the reading takes, are together of bulk at most 1048576: NARROWER than '..Said'. Prove '..Said' where nothing that the law and all that it calls make is longer than what came in: it says more and counts as full. Else prove '..UptoSaid'. A law counts once. -/
mutual
def uptoBulk {H : Type} : DataW H → Nat
  | .lit (.string bytes) => bytes.length + 1
  | .lit _ => 1
  | .nil => 1
  | .ptr d => uptoBulk d + 1
  | .slice elems spare => uptoBulkAll elems + uptoBulkAll spare + 1
  | .agg parts => uptoBulkAll parts + 1
  | .iface _ d => uptoBulk d + 1
  | .map entries => uptoBulkEntries entries + 1
  | .held _ => 1
def uptoBulkAll {H : Type} : List (DataW H) → Nat
  | [] => 0
  | d :: r => uptoBulk d + uptoBulkAll r
def uptoBulkEntries {H : Type} : List (Lit × DataW H) → Nat
  | [] => 0
  | x :: r => uptoBulkEntry x + uptoBulkEntries r
def uptoBulkEntry {H : Type} : Lit × DataW H → Nat
  | (.string bytes, d) => bytes.length + uptoBulk d + 1
  | (_, d) => uptoBulk d + 1
 end
def uptoSmall : (H : Type) → List (DataW H) → Bool := fun _ ds => decide (uptoBulkAll ds ≤ 1048576)
def OpenSpec.upto (s : _root_.Go.ChangeSpec) : _root_.Go.OpenSpec := { _root_.Go.OpenSpec.ofChange s with cond := some uptoSmall }

/-- 'intervalmonlaw14.BitsWrites', WHERE WHAT IT READS IS OF BULK AT MOST 1048576: true; the input reads as it did. -/
def bitsWritesUptoRow : OpenClaim := { program := "ytifegkpjbdgniaa", sum := "ad83cea7d6fffecd321e11924d793ed26931b337590a478a0087b0a67a9831eb", func := "intervalmon/intervalmonlaw14.BitsWrites", spec := "bitsWrites", unfollowed := true, recurses := true, apart := false, narrowed := true }
def BitsWritesUptoSaid : Prop := bitsWritesUptoRow.holds Try.pinned (OpenSpec.upto bitsWritesSpec)

/-- 'intervalmonlaw14.BitsReads', WHERE WHAT IT READS IS OF BULK AT MOST 1048576: true; the input reads as it did. -/
def bitsReadsUptoRow : OpenClaim := { program := "ytifegkpjbdgniaa", sum := "ad83cea7d6fffecd321e11924d793ed26931b337590a478a0087b0a67a9831eb", func := "intervalmon/intervalmonlaw14.BitsReads", spec := "bitsReads", unfollowed := true, recurses := true, apart := false, narrowed := true }
def BitsReadsUptoSaid : Prop := bitsReadsUptoRow.holds Try.pinned (OpenSpec.upto bitsReadsSpec)

/-- 'intervalmonlaw14.BitsRound', WHERE WHAT IT READS IS OF BULK AT MOST 1048576: true; the input reads as it did. -/
def bitsRoundUptoRow : OpenClaim := { program := "ytifegkpjbdgniaa", sum := "ad83cea7d6fffecd321e11924d793ed26931b337590a478a0087b0a67a9831eb", func := "intervalmon/intervalmonlaw14.BitsRound", spec := "bitsRound", unfollowed := true, recurses := true, apart := false, narrowed := true }
def BitsRoundUptoSaid : Prop := bitsRoundUptoRow.holds Try.pinned (OpenSpec.upto bitsRoundSpec)

/-- 'intervalmonlaw14.BitsOne', WHERE WHAT IT READS IS OF BULK AT MOST 1048576: true; the input reads as it did. -/
def bitsOneUptoRow : OpenClaim := { program := "ytifegkpjbdgniaa", sum := "ad83cea7d6fffecd321e11924d793ed26931b337590a478a0087b0a67a9831eb", func := "intervalmon/intervalmonlaw14.BitsOne", spec := "bitsOne", unfollowed := true, recurses := true, apart := false, narrowed := true }
def BitsOneUptoSaid : Prop := bitsOneUptoRow.holds Try.pinned (OpenSpec.upto bitsOneSpec)

/-- 'intervalmonlaw14.BitsPadding', WHERE WHAT IT READS IS OF BULK AT MOST 1048576: true; the input reads as it did. -/
def bitsPaddingUptoRow : OpenClaim := { program := "ytifegkpjbdgniaa", sum := "ad83cea7d6fffecd321e11924d793ed26931b337590a478a0087b0a67a9831eb", func := "intervalmon/intervalmonlaw14.BitsPadding", spec := "bitsPadding", unfollowed := true, recurses := true, apart := false, narrowed := true }
def BitsPaddingUptoSaid : Prop := bitsPaddingUptoRow.holds Try.pinned (OpenSpec.upto bitsPaddingSpec)

/-- 'intervalmonlaw14.BitsOrder', WHERE WHAT IT READS IS OF BULK AT MOST 1048576: true; the input reads as it did. -/
def bitsOrderUptoRow : OpenClaim := { program := "ytifegkpjbdgniaa", sum := "ad83cea7d6fffecd321e11924d793ed26931b337590a478a0087b0a67a9831eb", func := "intervalmon/intervalmonlaw14.BitsOrder", spec := "bitsOrder", unfollowed := true, recurses := true, apart := false, narrowed := true }
def BitsOrderUptoSaid : Prop := bitsOrderUptoRow.holds Try.pinned (OpenSpec.upto bitsOrderSpec)

/-- 'intervalmonlaw14.BitsOwn', WHERE WHAT IT READS IS OF BULK AT MOST 1048576: true; the input reads as it did. -/
def bitsOwnUptoRow : OpenClaim := { program := "ytifegkpjbdgniaa", sum := "ad83cea7d6fffecd321e11924d793ed26931b337590a478a0087b0a67a9831eb", func := "intervalmon/intervalmonlaw14.BitsOwn", spec := "bitsOwn", unfollowed := true, recurses := true, apart := false, narrowed := true }
def BitsOwnUptoSaid : Prop := bitsOwnUptoRow.holds Try.pinned (OpenSpec.upto bitsOwnSpec)

/-- 'intervalmonlaw14.BitsWire', WHERE WHAT IT READS IS OF BULK AT MOST 1048576: true; the input reads as it did. -/
def bitsWireUptoRow : OpenClaim := { program := "ytifegkpjbdgniaa", sum := "ad83cea7d6fffecd321e11924d793ed26931b337590a478a0087b0a67a9831eb", func := "intervalmon/intervalmonlaw14.BitsWire", spec := "bitsWire", unfollowed := true, recurses := true, apart := false, narrowed := true }
def BitsWireUptoSaid : Prop := bitsWireUptoRow.holds Try.pinned (OpenSpec.upto bitsWireSpec)

/-- 'intervalmonlaw14.BitsHash', WHERE WHAT IT READS IS OF BULK AT MOST 1048576: true; the input reads as it did. -/
def bitsHashUptoRow : OpenClaim := { program := "ytifegkpjbdgniaa", sum := "ad83cea7d6fffecd321e11924d793ed26931b337590a478a0087b0a67a9831eb", func := "intervalmon/intervalmonlaw14.BitsHash", spec := "bitsHash", unfollowed := true, recurses := true, apart := false, narrowed := true }
def BitsHashUptoSaid : Prop := bitsHashUptoRow.holds Try.pinned (OpenSpec.upto bitsHashSpec)

end Rows
end Go.Proofs.Ytifegkpjbdgniaa
