/- Closed facts on the tables of this program, written by a program of ours. -/
import Derived.Test.YtgkdbiibbfipjaaProg
import Derived.Test.YtgkdbiibbfipjaaHopt
namespace Go.Proofs.Ytgkdbiibbfipjaa
open Go.SL
theorem MX : Try.prog.follows .mixedOrders = true := by kernel_rfl
theorem LN28 (ty : Nat) (a : Option Addr) (m c : Nat) (w : World) : (Builtin.len_ #[28] ty #[.slice a m c]).run Try.prog w = .ok (.int .i64 m) w := by kernel_rfl
theorem El28 : El Try.prog 28 34 [.int .i64 0, .int .i64 0, .int .i64 0, .int .i64 0, .slice none 0 0, .slice none 0 0] 6 80 := ⟨Try.underlying28, ⟨Try.t34, by kernel_rfl, ⟨_, rfl, rfl⟩, rfl, rfl⟩, by decide, rfl⟩
theorem AL34 (w : World) : (Instr.alloc 34 true (.tuple #[])).run Try.prog w = .ok (.pointer (some ⟨w.heap.size, 0, none⟩)) (w.alloc (Blk 34 [.int .i64 0, .int .i64 0, .int .i64 0, .int .i64 0, .slice none 0 0, .slice none 0 0])) := by kernel_rfl
theorem FA34_0 (b i : Nat) (w : World) : (Instr.fieldAt 34 (.pointer (some ⟨b, i, none⟩)) 0).run Try.prog w = .ok (.pointer (some ⟨b, i, none⟩)) w := by kernel_rfl
theorem FA34_2 (b i : Nat) (w : World) : (Instr.fieldAt 34 (.pointer (some ⟨b, i, none⟩)) 2).run Try.prog w = .ok (.pointer (some ⟨b, i + 2, none⟩)) w := by kernel_rfl
theorem FA34_1 (b i : Nat) (w : World) : (Instr.fieldAt 34 (.pointer (some ⟨b, i, none⟩)) 1).run Try.prog w = .ok (.pointer (some ⟨b, i + 1, none⟩)) w := by kernel_rfl
theorem AL32 (w : World) : (Instr.alloc 32 true (.tuple #[])).run Try.prog w = .ok (.pointer (some ⟨w.heap.size, 0, none⟩)) (w.alloc (Blk 32 [.int .i64 0, .int .i64 0, .slice none 0 0])) := by kernel_rfl
theorem FA34_3 (b i : Nat) (w : World) : (Instr.fieldAt 34 (.pointer (some ⟨b, i, none⟩)) 3).run Try.prog w = .ok (.pointer (some ⟨b, i + 5, none⟩)) w := by kernel_rfl
theorem FA45_1 (b i : Nat) (w : World) : (Instr.fieldAt 45 (.pointer (some ⟨b, i, none⟩)) 1).run Try.prog w = .ok (.pointer (some ⟨b, i + 1, none⟩)) w := by kernel_rfl
theorem LN43 (ty : Nat) (a : Option Addr) (m c : Nat) (w : World) : (Builtin.len_ #[43] ty #[.slice a m c]).run Try.prog w = .ok (.int .i64 m) w := by kernel_rfl
theorem El30 : El Try.prog 30 5 [.int .u8 0] 1 1 := ⟨Try.underlying30, ⟨Try.t5, by kernel_rfl, ⟨_, rfl, rfl⟩, rfl, rfl⟩, by decide, rfl⟩
theorem BS30_1 (x0 : Int) (w : World) : (Instr.buildSlice 30 1 #[(0, .int .u8 x0)]).run Try.prog w = .ok (.slice (some ⟨w.heap.size, 0, none⟩) 1 1) (w.alloc (Blk 5 [.int .u8 x0])) := by kernel_rfl
theorem BD32_0_1_2 (x0 : Int) (x1 : Int) (x2a : Option Addr) (x2n x2c : Nat) (w : World) : (Instr.build 32 #[(0, .int .i64 x0), (1, .int .i64 x1), (2, .slice x2a x2n x2c)]).run Try.prog w = .ok (.agg #[.int .i64 x0, .int .i64 x1, .slice x2a x2n x2c]) w := by kernel_rfl
theorem FA32_2 (b i : Nat) (w : World) : (Instr.fieldAt 32 (.pointer (some ⟨b, i, none⟩)) 2).run Try.prog w = .ok (.pointer (some ⟨b, i + 2, none⟩)) w := by kernel_rfl
theorem El43 : El Try.prog 43 32 [.int .i64 0, .int .i64 0, .slice none 0 0] 3 40 := ⟨Try.underlying43, ⟨Try.t32, by kernel_rfl, ⟨_, rfl, rfl⟩, rfl, rfl⟩, by decide, rfl⟩
theorem BS43_1 (x0_0 x0_1 x0_2 : Value) (w : World) : (Instr.buildSlice 43 1 #[(0, .agg #[x0_0, x0_1, x0_2])]).run Try.prog w = .ok (.slice (some ⟨w.heap.size, 0, none⟩) 1 1) (w.alloc (Blk 32 [x0_0, x0_1, x0_2])) := by kernel_rfl
theorem El22 : El Try.prog 22 3 [.int .i64 0] 1 8 := ⟨Try.underlying22, ⟨Try.t3, by kernel_rfl, ⟨_, rfl, rfl⟩, rfl, rfl⟩, by decide, rfl⟩
theorem LN22 (ty : Nat) (a : Option Addr) (m c : Nat) (w : World) : (Builtin.len_ #[22] ty #[.slice a m c]).run Try.prog w = .ok (.int .i64 m) w := by kernel_rfl
theorem CV3_5 (m : Int) (w : World) : (convert 3 5 (.int .i64 m)).run Try.prog w = .ok (.int .u8 (IntKind.u8.wrap m)) w := by kernel_rfl
theorem LN51 (ty : Nat) (a : Option Addr) (m c : Nat) (w : World) : (Builtin.len_ #[51] ty #[.slice a m c]).run Try.prog w = .ok (.int .i64 m) w := by kernel_rfl
theorem El51 : El Try.prog 51 4 [.bool false] 1 1 := ⟨Try.underlying51, ⟨Try.t4, by kernel_rfl, ⟨_, rfl, rfl⟩, rfl, rfl⟩, by decide, rfl⟩
theorem FA32_0 (b i : Nat) (w : World) : (Instr.fieldAt 32 (.pointer (some ⟨b, i, none⟩)) 0).run Try.prog w = .ok (.pointer (some ⟨b, i, none⟩)) w := by kernel_rfl
theorem FA32_1 (b i : Nat) (w : World) : (Instr.fieldAt 32 (.pointer (some ⟨b, i, none⟩)) 1).run Try.prog w = .ok (.pointer (some ⟨b, i + 1, none⟩)) w := by kernel_rfl
theorem LN30 (ty : Nat) (a : Option Addr) (m c : Nat) (w : World) : (Builtin.len_ #[30] ty #[.slice a m c]).run Try.prog w = .ok (.int .i64 m) w := by kernel_rfl
theorem CV5_3 (m : Int) (w : World) : (convert 5 3 (.int .u8 m)).run Try.prog w = .ok (.int .i64 (IntKind.i64.wrap m)) w := by kernel_rfl
theorem BS22_6 (x0 : Int) (x1 : Int) (x2 : Int) (x3 : Int) (x4 : Int) (x5 : Int) (w : World) : (Instr.buildSlice 22 6 #[(0, .int .i64 x0), (1, .int .i64 x1), (2, .int .i64 x2), (3, .int .i64 x3), (4, .int .i64 x4), (5, .int .i64 x5)]).run Try.prog w = .ok (.slice (some ⟨w.heap.size, 0, none⟩) 6 6) (w.alloc (Blk 3 [.int .i64 x0, .int .i64 x1, .int .i64 x2, .int .i64 x3, .int .i64 x4, .int .i64 x5])) := by kernel_rfl
theorem BS30_0  (w : World) : (Instr.buildSlice 30 0 #[]).run Try.prog w = .ok (.slice (some ⟨w.heap.size, 0, none⟩) 0 0) (w.alloc (Blk 5 [])) := by kernel_rfl
theorem BD32_1_2 (x1 : Int) (x2a : Option Addr) (x2n x2c : Nat) (w : World) : (Instr.build 32 #[(1, .int .i64 x1), (2, .slice x2a x2n x2c)]).run Try.prog w = .ok (.agg #[.int .i64 0, .int .i64 x1, .slice x2a x2n x2c]) w := by kernel_rfl
theorem BD45_0 (x0a : Option Addr) (x0n x0c : Nat) (w : World) : (Instr.build 45 #[(0, .slice x0a x0n x0c)]).run Try.prog w = .ok (.agg #[.slice x0a x0n x0c, .slice none 0 0]) w := by kernel_rfl
theorem BD34_1 (x1 : Int) (w : World) : (Instr.build 34 #[(1, .int .i64 x1)]).run Try.prog w = .ok (.agg #[.int .i64 0, .int .i64 x1, .int .i64 0, .int .i64 0, .slice none 0 0, .slice none 0 0]) w := by kernel_rfl
theorem CV3_59 (m : Int) (w : World) : (convert 3 59 (.int .i64 m)).run Try.prog w = .ok (.int .u64 (IntKind.u64.wrap m)) w := by kernel_rfl
theorem BS22_1 (x0 : Int) (w : World) : (Instr.buildSlice 22 1 #[(0, .int .i64 x0)]).run Try.prog w = .ok (.slice (some ⟨w.heap.size, 0, none⟩) 1 1) (w.alloc (Blk 3 [.int .i64 x0])) := by kernel_rfl
theorem BS30_2 (x0 : Int) (x1 : Int) (w : World) : (Instr.buildSlice 30 2 #[(0, .int .u8 x0), (1, .int .u8 x1)]).run Try.prog w = .ok (.slice (some ⟨w.heap.size, 0, none⟩) 2 2) (w.alloc (Blk 5 [.int .u8 x0, .int .u8 x1])) := by kernel_rfl
theorem BS28_1 (x0_0 x0_1 x0_2 x0_3 x0_4 x0_5 : Value) (w : World) : (Instr.buildSlice 28 1 #[(0, .agg #[x0_0, x0_1, x0_2, x0_3, x0_4, x0_5])]).run Try.prog w = .ok (.slice (some ⟨w.heap.size, 0, none⟩) 1 1) (w.alloc (Blk 34 [x0_0, x0_1, x0_2, x0_3, x0_4, x0_5])) := by kernel_rfl
theorem FA61_0 (b i : Nat) (w : World) : (Instr.fieldAt 61 (.pointer (some ⟨b, i, none⟩)) 0).run Try.prog w = .ok (.pointer (some ⟨b, i, none⟩)) w := by kernel_rfl
theorem FA61_1 (b i : Nat) (w : World) : (Instr.fieldAt 61 (.pointer (some ⟨b, i, none⟩)) 1).run Try.prog w = .ok (.pointer (some ⟨b, i + 1, none⟩)) w := by kernel_rfl
theorem FA45_0 (b i : Nat) (w : World) : (Instr.fieldAt 45 (.pointer (some ⟨b, i, none⟩)) 0).run Try.prog w = .ok (.pointer (some ⟨b, i, none⟩)) w := by kernel_rfl
theorem BD32_  (w : World) : (Instr.build 32 #[]).run Try.prog w = .ok (.agg #[.int .i64 0, .int .i64 0, .slice none 0 0]) w := by kernel_rfl
theorem BD32_0_2 (x0 : Int) (x2a : Option Addr) (x2n x2c : Nat) (w : World) : (Instr.build 32 #[(0, .int .i64 x0), (2, .slice x2a x2n x2c)]).run Try.prog w = .ok (.agg #[.int .i64 x0, .int .i64 0, .slice x2a x2n x2c]) w := by kernel_rfl
theorem BS22_2 (x0 : Int) (x1 : Int) (w : World) : (Instr.buildSlice 22 2 #[(0, .int .i64 x0), (1, .int .i64 x1)]).run Try.prog w = .ok (.slice (some ⟨w.heap.size, 0, none⟩) 2 2) (w.alloc (Blk 3 [.int .i64 x0, .int .i64 x1])) := by kernel_rfl
theorem BD61_0 (x0a : Option Addr) (x0n x0c : Nat) (w : World) : (Instr.build 61 #[(0, .slice x0a x0n x0c)]).run Try.prog w = .ok (.agg #[.slice x0a x0n x0c, .slice none 0 0]) w := by kernel_rfl
end Go.Proofs.Ytgkdbiibbfipjaa
