/- Contracts of package net. -/
import Derived.Test.YtkobigdfijeajaaLib
set_option linter.unusedVariables false
set_option linter.unusedSimpArgs false
namespace Go.Proofs.Ytkobigdfijeajaa
open Go.SL
/-- a message in transit: its numbers, the block of its bytes, its bytes -/
structure Msg where
  f : Int
  t : Int
  b : Nat
  bs : List Int
def Msg.cells (m : Msg) : List Value := [.int .i64 m.f, .int .i64 m.t, .slice (some ⟨m.b, 0, none⟩) m.bs.length m.bs.length]
def Msg.blk (m : Msg) : Nat × Obj := (m.b, Blk 5 (u8s m.bs))
def mcells (ms : List Msg) : List Value := ms.flatMap Msg.cells
def mblks (ms : List Msg) : Hp := ms.map Msg.blk
/-- the network at p: the groups, the messages; its blocks -/
def NetAt (p : Nat) (gs : List Int) (ms : List Msg) (L : Hp) : Prop :=
  ∃ g tv Lt, L = (p, Blk 112 [.slice (some ⟨g, 0, none⟩) gs.length gs.length, tv]) :: (g, Blk 3 (i64s gs)) :: (Lt ++ mblks ms) ∧ OwnS 56 3 tv ms.length (mcells ms) Lt
end Go.Proofs.Ytkobigdfijeajaa

/- Contracts of package net, further. -/
namespace Go.Proofs.Ytkobigdfijeajaa
open Go.SL
/-! ### Copy -/
/-! ### Drop -/
end Go.Proofs.Ytkobigdfijeajaa

/- Contracts of package net: Take, Partition. -/
namespace Go.Proofs.Ytkobigdfijeajaa
open Go.SL
/-- the group of a node -/
def grp (gs : List Int) (i : Int) : Int := gs.getD i.toNat 0
end Go.Proofs.Ytkobigdfijeajaa
