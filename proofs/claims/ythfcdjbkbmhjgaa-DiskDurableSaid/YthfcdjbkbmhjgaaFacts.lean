/- Closed facts on the tables of this program, written by a program of ours. -/
import Derived.Test.YthfcdjbkbmhjgaaProg
import Derived.Test.YthfcdjbkbmhjgaaMap
set_option maxRecDepth 100000
namespace Go.Proofs.Ythfcdjbkbmhjgaa
open Go.SL
theorem MX : Try.prog.follows .mixedOrders = true := by kernel_rfl
theorem LN22 (ty : Nat) (a : Option Addr) (m c : Nat) (w : World) : (Builtin.len_ #[22] ty #[.slice a m c]).run Try.prog w = .ok (.int .i64 m) w := by kernel_rfl
theorem El22 : El Try.prog 22 27 [.slice none 0 0] 1 24 := ⟨Try.underlying22, ⟨Try.t27, by kernel_rfl, ⟨_, rfl, rfl⟩, rfl, rfl⟩, by decide, rfl⟩
theorem El27 : El Try.prog 27 5 [.int .u8 0] 1 1 := ⟨Try.underlying27, ⟨Try.t5, by kernel_rfl, ⟨_, rfl, rfl⟩, rfl, rfl⟩, by decide, rfl⟩
theorem LN27 (ty : Nat) (a : Option Addr) (m c : Nat) (w : World) : (Builtin.len_ #[27] ty #[.slice a m c]).run Try.prog w = .ok (.int .i64 m) w := by kernel_rfl
theorem El33 : El Try.prog 33 3 [.int .i64 0] 1 8 := ⟨Try.underlying33, ⟨Try.t3, by kernel_rfl, ⟨_, rfl, rfl⟩, rfl, rfl⟩, by decide, rfl⟩
theorem BS33_1 (x0 : Int) (w : World) : (Instr.buildSlice 33 1 #[(0, .int .i64 x0)]).run Try.prog w = .ok (.slice (some ⟨w.heap.size, 0, none⟩) 1 1) (w.alloc (Blk 3 [.int .i64 x0])) := by kernel_rfl
theorem CV5_3 (m : Int) (w : World) : (convert 5 3 (.int .u8 m)).run Try.prog w = .ok (.int .i64 (IntKind.i64.wrap m)) w := by kernel_rfl
theorem LN33 (ty : Nat) (a : Option Addr) (m c : Nat) (w : World) : (Builtin.len_ #[33] ty #[.slice a m c]).run Try.prog w = .ok (.int .i64 m) w := by kernel_rfl
theorem CV3_5 (m : Int) (w : World) : (convert 3 5 (.int .i64 m)).run Try.prog w = .ok (.int .u8 (IntKind.u8.wrap m)) w := by kernel_rfl
theorem BS27_2 (x0 : Int) (x1 : Int) (w : World) : (Instr.buildSlice 27 2 #[(0, .int .u8 x0), (1, .int .u8 x1)]).run Try.prog w = .ok (.slice (some ⟨w.heap.size, 0, none⟩) 2 2) (w.alloc (Blk 5 [.int .u8 x0, .int .u8 x1])) := by kernel_rfl
theorem FA49_1 (b i : Nat) (w : World) : (Instr.fieldAt 49 (.pointer (some ⟨b, i, none⟩)) 1).run Try.prog w = .ok (.pointer (some ⟨b, i + 1, none⟩)) w := by kernel_rfl
theorem LN52 (ty : Nat) (a : Option Addr) (m c : Nat) (w : World) : (Builtin.len_ #[52] ty #[.slice a m c]).run Try.prog w = .ok (.int .i64 m) w := by kernel_rfl
theorem El52 : El Try.prog 52 56 [.int .i64 0, .int .i64 0, .int .i64 0, .slice none 0 0, .slice none 0 0] 5 72 := ⟨Try.underlying52, ⟨Try.t56, by kernel_rfl, ⟨_, rfl, rfl⟩, rfl, rfl⟩, by decide, rfl⟩
theorem BS27_1 (x0 : Int) (w : World) : (Instr.buildSlice 27 1 #[(0, .int .u8 x0)]).run Try.prog w = .ok (.slice (some ⟨w.heap.size, 0, none⟩) 1 1) (w.alloc (Blk 5 [.int .u8 x0])) := by kernel_rfl
theorem BD66_0_2 (x0 : Int) (x2 : Option Nat) (w : World) : (Instr.build 66 #[(0, .int .i64 x0), (2, .map x2)]).run Try.prog w = .ok (.agg #[.int .i64 x0, .int .i64 0, .map x2, .bool false, .bool false, .int .i64 0]) w := by kernel_rfl
theorem FA66_3 (b i : Nat) (w : World) : (Instr.fieldAt 66 (.pointer (some ⟨b, i, none⟩)) 3).run Try.prog w = .ok (.pointer (some ⟨b, i + 3, none⟩)) w := by kernel_rfl
theorem FA66_0 (b i : Nat) (w : World) : (Instr.fieldAt 66 (.pointer (some ⟨b, i, none⟩)) 0).run Try.prog w = .ok (.pointer (some ⟨b, i, none⟩)) w := by kernel_rfl
theorem FA66_1 (b i : Nat) (w : World) : (Instr.fieldAt 66 (.pointer (some ⟨b, i, none⟩)) 1).run Try.prog w = .ok (.pointer (some ⟨b, i + 1, none⟩)) w := by kernel_rfl
theorem FA66_2 (b i : Nat) (w : World) : (Instr.fieldAt 66 (.pointer (some ⟨b, i, none⟩)) 2).run Try.prog w = .ok (.pointer (some ⟨b, i + 2, none⟩)) w := by kernel_rfl
theorem ZV68 (w : World) : (zeroValue 68).run Try.prog w = .ok (.agg #[.slice none 0 0, .int .i64 0]) w := by kernel_rfl
theorem AL68 (w : World) : (Instr.alloc 68 true (.tuple #[])).run Try.prog w = .ok (.pointer (some ⟨w.heap.size, 0, none⟩)) (w.alloc (Blk 68 [.slice none 0 0, .int .i64 0])) := by kernel_rfl
theorem FA68_0 (b i : Nat) (w : World) : (Instr.fieldAt 68 (.pointer (some ⟨b, i, none⟩)) 0).run Try.prog w = .ok (.pointer (some ⟨b, i, none⟩)) w := by kernel_rfl
theorem FA68_1 (b i : Nat) (w : World) : (Instr.fieldAt 68 (.pointer (some ⟨b, i, none⟩)) 1).run Try.prog w = .ok (.pointer (some ⟨b, i + 1, none⟩)) w := by kernel_rfl
theorem BD68_0_1 (x0a : Option Addr) (x0n x0c : Nat) (x1 : Int) (w : World) : (Instr.build 68 #[(0, .slice x0a x0n x0c), (1, .int .i64 x1)]).run Try.prog w = .ok (.agg #[.slice x0a x0n x0c, .int .i64 x1]) w := by kernel_rfl
theorem FA66_4 (b i : Nat) (w : World) : (Instr.fieldAt 66 (.pointer (some ⟨b, i, none⟩)) 4).run Try.prog w = .ok (.pointer (some ⟨b, i + 4, none⟩)) w := by kernel_rfl
theorem FD68_0 (x0 x1 : Value) (w : World) : (Instr.field 68 (.agg #[x0, x1]) 0).run Try.prog w = .ok (x0) w := by kernel_rfl
theorem BS27_3 (x0 : Int) (x1 : Int) (x2 : Int) (w : World) : (Instr.buildSlice 27 3 #[(0, .int .u8 x0), (1, .int .u8 x1), (2, .int .u8 x2)]).run Try.prog w = .ok (.slice (some ⟨w.heap.size, 0, none⟩) 3 3) (w.alloc (Blk 5 [.int .u8 x0, .int .u8 x1, .int .u8 x2])) := by kernel_rfl
theorem FA66_5 (b i : Nat) (w : World) : (Instr.fieldAt 66 (.pointer (some ⟨b, i, none⟩)) 5).run Try.prog w = .ok (.pointer (some ⟨b, i + 5, none⟩)) w := by kernel_rfl
theorem AL66 (w : World) : (Instr.alloc 66 true (.tuple #[])).run Try.prog w = .ok (.pointer (some ⟨w.heap.size, 0, none⟩)) (w.alloc (Blk 66 [.int .i64 0, .int .i64 0, .map none, .bool false, .bool false, .int .i64 0])) := by kernel_rfl
theorem BD49_0_1_2_4 (x0 : Int) (x1a : Option Addr) (x1n x1c : Nat) (x2a : Option Addr) (x2n x2c : Nat) (x4 : Int) (w : World) : (Instr.build 49 #[(0, .int .i64 x0), (1, .slice x1a x1n x1c), (2, .slice x2a x2n x2c), (4, .int .i64 x4)]).run Try.prog w = .ok (.agg #[.int .i64 x0, .slice x1a x1n x1c, .slice x2a x2n x2c, .bool false, .int .i64 x4]) w := by kernel_rfl
theorem BD56_1 (x1 : Int) (w : World) : (Instr.build 56 #[(1, .int .i64 x1)]).run Try.prog w = .ok (.agg #[.int .i64 0, .int .i64 x1, .int .i64 0, .slice none 0 0, .slice none 0 0]) w := by kernel_rfl
theorem AL56 (w : World) : (Instr.alloc 56 true (.tuple #[])).run Try.prog w = .ok (.pointer (some ⟨w.heap.size, 0, none⟩)) (w.alloc (Blk 56 [.int .i64 0, .int .i64 0, .int .i64 0, .slice none 0 0, .slice none 0 0])) := by kernel_rfl
theorem FA56_0 (b i : Nat) (w : World) : (Instr.fieldAt 56 (.pointer (some ⟨b, i, none⟩)) 0).run Try.prog w = .ok (.pointer (some ⟨b, i, none⟩)) w := by kernel_rfl
theorem FA56_2 (b i : Nat) (w : World) : (Instr.fieldAt 56 (.pointer (some ⟨b, i, none⟩)) 2).run Try.prog w = .ok (.pointer (some ⟨b, i + 2, none⟩)) w := by kernel_rfl
theorem BS33_3 (x0 : Int) (x1 : Int) (x2 : Int) (w : World) : (Instr.buildSlice 33 3 #[(0, .int .i64 x0), (1, .int .i64 x1), (2, .int .i64 x2)]).run Try.prog w = .ok (.slice (some ⟨w.heap.size, 0, none⟩) 3 3) (w.alloc (Blk 3 [.int .i64 x0, .int .i64 x1, .int .i64 x2])) := by kernel_rfl
theorem FA56_4 (b i : Nat) (w : World) : (Instr.fieldAt 56 (.pointer (some ⟨b, i, none⟩)) 4).run Try.prog w = .ok (.pointer (some ⟨b, i + 4, none⟩)) w := by kernel_rfl
theorem FA56_1 (b i : Nat) (w : World) : (Instr.fieldAt 56 (.pointer (some ⟨b, i, none⟩)) 1).run Try.prog w = .ok (.pointer (some ⟨b, i + 1, none⟩)) w := by kernel_rfl
theorem FA56_3 (b i : Nat) (w : World) : (Instr.fieldAt 56 (.pointer (some ⟨b, i, none⟩)) 3).run Try.prog w = .ok (.pointer (some ⟨b, i + 3, none⟩)) w := by kernel_rfl
theorem CV3_72 (m : Int) (w : World) : (convert 3 72 (.int .i64 m)).run Try.prog w = .ok (.int .u64 (IntKind.u64.wrap m)) w := by kernel_rfl
theorem BS52_1 (x0_0 x0_1 x0_2 x0_3 x0_4 : Value) (w : World) : (Instr.buildSlice 52 1 #[(0, .agg #[x0_0, x0_1, x0_2, x0_3, x0_4])]).run Try.prog w = .ok (.slice (some ⟨w.heap.size, 0, none⟩) 1 1) (w.alloc (Blk 56 [x0_0, x0_1, x0_2, x0_3, x0_4])) := by kernel_rfl
theorem FA49_3 (b i : Nat) (w : World) : (Instr.fieldAt 49 (.pointer (some ⟨b, i, none⟩)) 3).run Try.prog w = .ok (.pointer (some ⟨b, i + 3, none⟩)) w := by kernel_rfl
theorem AL33 (w : World) : (Instr.alloc 33 true (.tuple #[])).run Try.prog w = .ok (.pointer (some ⟨w.heap.size, 0, none⟩)) (w.alloc (Blk 33 [.slice none 0 0])) := by kernel_rfl
theorem CV61_3 (m : Int) (w : World) : (convert 61 3 (.int .u64 m)).run Try.prog w = .ok (.int .i64 (IntKind.i64.wrap m)) w := by kernel_rfl
theorem BS27_0  (w : World) : (Instr.buildSlice 27 0 #[]).run Try.prog w = .ok (.slice (some ⟨w.heap.size, 0, none⟩) 0 0) (w.alloc (Blk 5 [])) := by kernel_rfl
theorem FA49_0 (b i : Nat) (w : World) : (Instr.fieldAt 49 (.pointer (some ⟨b, i, none⟩)) 0).run Try.prog w = .ok (.pointer (some ⟨b, i, none⟩)) w := by kernel_rfl
theorem FA49_2 (b i : Nat) (w : World) : (Instr.fieldAt 49 (.pointer (some ⟨b, i, none⟩)) 2).run Try.prog w = .ok (.pointer (some ⟨b, i + 2, none⟩)) w := by kernel_rfl
theorem FA49_4 (b i : Nat) (w : World) : (Instr.fieldAt 49 (.pointer (some ⟨b, i, none⟩)) 4).run Try.prog w = .ok (.pointer (some ⟨b, i + 4, none⟩)) w := by kernel_rfl
theorem AL61 (w : World) : (Instr.alloc 61 true (.tuple #[])).run Try.prog w = .ok (.pointer (some ⟨w.heap.size, 0, none⟩)) (w.alloc (Blk 61 [.int .u64 0])) := by kernel_rfl
theorem LN9 (ty : Nat) (s : ByteArray) (w : World) : (Builtin.len_ #[9] ty #[.string s]).run Try.prog w = .ok (.int .i64 s.size) w := by kernel_rfl
theorem CV3_61 (m : Int) (w : World) : (convert 3 61 (.int .i64 m)).run Try.prog w = .ok (.int .u64 (IntKind.u64.wrap m)) w := by kernel_rfl
theorem CV5_61 (m : Int) (w : World) : (convert 5 61 (.int .u8 m)).run Try.prog w = .ok (.int .u64 (IntKind.u64.wrap m)) w := by kernel_rfl
theorem CV72_100 (m : Int) (w : World) : (convert 72 100 (.int .u64 m)).run Try.prog w = .ok (.int .u32 (IntKind.u32.wrap m)) w := by kernel_rfl
theorem CV3_102 (m : Int) (w : World) : (convert 3 102 (.int .i64 m)).run Try.prog w = .ok (.int .u64 (IntKind.u64.wrap m)) w := by kernel_rfl
theorem AL102 (w : World) : (Instr.alloc 102 true (.tuple #[])).run Try.prog w = .ok (.pointer (some ⟨w.heap.size, 0, none⟩)) (w.alloc (Blk 102 [.int .u64 0])) := by kernel_rfl
theorem CV72_3 (m : Int) (w : World) : (convert 72 3 (.int .u64 m)).run Try.prog w = .ok (.int .i64 (IntKind.i64.wrap m)) w := by kernel_rfl
theorem AL3 (w : World) : (Instr.alloc 3 true (.tuple #[])).run Try.prog w = .ok (.pointer (some ⟨w.heap.size, 0, none⟩)) (w.alloc (Blk 3 [.int .i64 0])) := by kernel_rfl
theorem CV100_5 (m : Int) (w : World) : (convert 100 5 (.int .u32 m)).run Try.prog w = .ok (.int .u8 (IntKind.u8.wrap m)) w := by kernel_rfl
theorem CV61_5 (m : Int) (w : World) : (convert 61 5 (.int .u64 m)).run Try.prog w = .ok (.int .u8 (IntKind.u8.wrap m)) w := by kernel_rfl
end Go.Proofs.Ythfcdjbkbmhjgaa
