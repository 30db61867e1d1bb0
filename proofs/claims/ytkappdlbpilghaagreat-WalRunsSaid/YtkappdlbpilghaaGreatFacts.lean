/- Closed facts on the tables of this program, written by a program of ours. -/
import Derived.Test.YtkappdlbpilghaaGreatProg
import Derived.Test.YtkappdlbpilghaaGreatMap
set_option maxRecDepth 100000
namespace Go.Proofs.YtkappdlbpilghaaGreat
open Go.SL
theorem MX : Tryz.prog.follows .mixedOrders = true := by kernel_rfl
theorem LN22 (ty : Nat) (a : Option Addr) (m c : Nat) (w : World) : (Builtin.len_ #[22] ty #[.slice a m c]).run Tryz.prog w = .ok (.int .i64 m) w := by kernel_rfl
theorem El22 : El Tryz.prog 22 3 [.int .i64 0] 1 8 := ⟨Tryz.underlying22, ⟨Tryz.t3, by kernel_rfl, ⟨_, rfl, rfl⟩, rfl, rfl⟩, by decide, rfl⟩
theorem BS22_1 (x0 : Int) (w : World) : (Instr.buildSlice 22 1 #[(0, .int .i64 x0)]).run Tryz.prog w = .ok (.slice (some ⟨w.heap.size, 0, none⟩) 1 1) (w.alloc (Blk 3 [.int .i64 x0])) := by kernel_rfl
theorem El29 : El Tryz.prog 29 39 [.slice none 0 0] 1 24 := ⟨Tryz.underlying29, ⟨Tryz.t39, by kernel_rfl, ⟨_, rfl, rfl⟩, rfl, rfl⟩, by decide, rfl⟩
theorem FA44_2 (b i : Nat) (w : World) : (Instr.fieldAt 44 (.pointer (some ⟨b, i, none⟩)) 2).run Tryz.prog w = .ok (.pointer (some ⟨b, i + 2, none⟩)) w := by kernel_rfl
theorem FA44_3 (b i : Nat) (w : World) : (Instr.fieldAt 44 (.pointer (some ⟨b, i, none⟩)) 3).run Tryz.prog w = .ok (.pointer (some ⟨b, i + 3, none⟩)) w := by kernel_rfl
theorem FA50_1 (b i : Nat) (w : World) : (Instr.fieldAt 50 (.pointer (some ⟨b, i, none⟩)) 1).run Tryz.prog w = .ok (.pointer (some ⟨b, i + 1, none⟩)) w := by kernel_rfl
theorem FA50_3 (b i : Nat) (w : World) : (Instr.fieldAt 50 (.pointer (some ⟨b, i, none⟩)) 3).run Tryz.prog w = .ok (.pointer (some ⟨b, i + 3, none⟩)) w := by kernel_rfl
theorem BD50_0_1_2_4 (x0 : Int) (x1a : Option Addr) (x1n x1c : Nat) (x2a : Option Addr) (x2n x2c : Nat) (x4 : Int) (w : World) : (Instr.build 50 #[(0, .int .i64 x0), (1, .slice x1a x1n x1c), (2, .slice x2a x2n x2c), (4, .int .i64 x4)]).run Tryz.prog w = .ok (.agg #[.int .i64 x0, .slice x1a x1n x1c, .slice x2a x2n x2c, .bool false, .int .i64 x4]) w := by kernel_rfl
theorem LN39 (ty : Nat) (a : Option Addr) (m c : Nat) (w : World) : (Builtin.len_ #[39] ty #[.slice a m c]).run Tryz.prog w = .ok (.int .i64 m) w := by kernel_rfl
theorem LN29 (ty : Nat) (a : Option Addr) (m c : Nat) (w : World) : (Builtin.len_ #[29] ty #[.slice a m c]).run Tryz.prog w = .ok (.int .i64 m) w := by kernel_rfl
theorem BD59_0_1_2 (x0 : Option Addr) (x1 : Int) (x2 : Int) (w : World) : (Instr.build 59 #[(0, .pointer x0), (1, .int .i64 x1), (2, .int .i64 x2)]).run Tryz.prog w = .ok (.agg #[.pointer x0, .int .i64 x1, .int .i64 x2, .bool false]) w := by kernel_rfl
theorem BD44_0_1_2 (x0 : Option Addr) (x1 : Int) (x2 : Int) (w : World) : (Instr.build 44 #[(0, .pointer x0), (1, .int .i64 x1), (2, .int .i64 x2)]).run Tryz.prog w = .ok (.agg #[.pointer x0, .int .i64 x1, .int .i64 x2, .bool false]) w := by kernel_rfl
theorem FA62_3 (b i : Nat) (w : World) : (Instr.fieldAt 62 (.pointer (some ⟨b, i, none⟩)) 3).run Tryz.prog w = .ok (.pointer (some ⟨b, i + 3, none⟩)) w := by kernel_rfl
theorem FA62_4 (b i : Nat) (w : World) : (Instr.fieldAt 62 (.pointer (some ⟨b, i, none⟩)) 4).run Tryz.prog w = .ok (.pointer (some ⟨b, i + 4, none⟩)) w := by kernel_rfl
theorem FA62_5 (b i : Nat) (w : World) : (Instr.fieldAt 62 (.pointer (some ⟨b, i, none⟩)) 5).run Tryz.prog w = .ok (.pointer (some ⟨b, i + 5, none⟩)) w := by kernel_rfl
theorem FA50_4 (b i : Nat) (w : World) : (Instr.fieldAt 50 (.pointer (some ⟨b, i, none⟩)) 4).run Tryz.prog w = .ok (.pointer (some ⟨b, i + 4, none⟩)) w := by kernel_rfl
theorem FA62_2 (b i : Nat) (w : World) : (Instr.fieldAt 62 (.pointer (some ⟨b, i, none⟩)) 2).run Tryz.prog w = .ok (.pointer (some ⟨b, i + 2, none⟩)) w := by kernel_rfl
theorem ZV65 (w : World) : (zeroValue 65).run Tryz.prog w = .ok (.agg #[.slice none 0 0, .int .i64 0]) w := by kernel_rfl
theorem AL65 (w : World) : (Instr.alloc 65 true (.tuple #[])).run Tryz.prog w = .ok (.pointer (some ⟨w.heap.size, 0, none⟩)) (w.alloc (Blk 65 [.slice none 0 0, .int .i64 0])) := by kernel_rfl
theorem FA65_0 (b i : Nat) (w : World) : (Instr.fieldAt 65 (.pointer (some ⟨b, i, none⟩)) 0).run Tryz.prog w = .ok (.pointer (some ⟨b, i, none⟩)) w := by kernel_rfl
theorem FA65_1 (b i : Nat) (w : World) : (Instr.fieldAt 65 (.pointer (some ⟨b, i, none⟩)) 1).run Tryz.prog w = .ok (.pointer (some ⟨b, i + 1, none⟩)) w := by kernel_rfl
theorem El39 : El Tryz.prog 39 5 [.int .u8 0] 1 1 := ⟨Tryz.underlying39, ⟨Tryz.t5, by kernel_rfl, ⟨_, rfl, rfl⟩, rfl, rfl⟩, by decide, rfl⟩
theorem BD65_0_1 (x0a : Option Addr) (x0n x0c : Nat) (x1 : Int) (w : World) : (Instr.build 65 #[(0, .slice x0a x0n x0c), (1, .int .i64 x1)]).run Tryz.prog w = .ok (.agg #[.slice x0a x0n x0c, .int .i64 x1]) w := by kernel_rfl
theorem FA50_2 (b i : Nat) (w : World) : (Instr.fieldAt 50 (.pointer (some ⟨b, i, none⟩)) 2).run Tryz.prog w = .ok (.pointer (some ⟨b, i + 2, none⟩)) w := by kernel_rfl
theorem CV3_67 (m : Int) (w : World) : (convert 3 67 (.int .i64 m)).run Tryz.prog w = .ok (.int .u64 (IntKind.u64.wrap m)) w := by kernel_rfl
theorem CV3_5 (m : Int) (w : World) : (convert 3 5 (.int .i64 m)).run Tryz.prog w = .ok (.int .u8 (IntKind.u8.wrap m)) w := by kernel_rfl
theorem BS39_1 (x0 : Int) (w : World) : (Instr.buildSlice 39 1 #[(0, .int .u8 x0)]).run Tryz.prog w = .ok (.slice (some ⟨w.heap.size, 0, none⟩) 1 1) (w.alloc (Blk 5 [.int .u8 x0])) := by kernel_rfl
theorem BS29_1 (x0a : Option Addr) (x0n x0c : Nat) (w : World) : (Instr.buildSlice 29 1 #[(0, .slice x0a x0n x0c)]).run Tryz.prog w = .ok (.slice (some ⟨w.heap.size, 0, none⟩) 1 1) (w.alloc (Blk 39 [.slice x0a x0n x0c])) := by kernel_rfl
theorem AL30 (w : World) : (Instr.alloc 30 true (.tuple #[])).run Tryz.prog w = .ok (.pointer (some ⟨w.heap.size, 0, none⟩)) (w.alloc (Blk 30 [.int .i64 0])) := by kernel_rfl
theorem FA59_3 (b i : Nat) (w : World) : (Instr.fieldAt 59 (.pointer (some ⟨b, i, none⟩)) 3).run Tryz.prog w = .ok (.pointer (some ⟨b, i + 3, none⟩)) w := by kernel_rfl
theorem FA59_0 (b i : Nat) (w : World) : (Instr.fieldAt 59 (.pointer (some ⟨b, i, none⟩)) 0).run Tryz.prog w = .ok (.pointer (some ⟨b, i, none⟩)) w := by kernel_rfl
theorem FA59_1 (b i : Nat) (w : World) : (Instr.fieldAt 59 (.pointer (some ⟨b, i, none⟩)) 1).run Tryz.prog w = .ok (.pointer (some ⟨b, i + 1, none⟩)) w := by kernel_rfl
theorem FA59_2 (b i : Nat) (w : World) : (Instr.fieldAt 59 (.pointer (some ⟨b, i, none⟩)) 2).run Tryz.prog w = .ok (.pointer (some ⟨b, i + 2, none⟩)) w := by kernel_rfl
theorem FA44_0 (b i : Nat) (w : World) : (Instr.fieldAt 44 (.pointer (some ⟨b, i, none⟩)) 0).run Tryz.prog w = .ok (.pointer (some ⟨b, i, none⟩)) w := by kernel_rfl
theorem FA44_1 (b i : Nat) (w : World) : (Instr.fieldAt 44 (.pointer (some ⟨b, i, none⟩)) 1).run Tryz.prog w = .ok (.pointer (some ⟨b, i + 1, none⟩)) w := by kernel_rfl
theorem FD65_0 (x0 x1 : Value) (w : World) : (Instr.field 65 (.agg #[x0, x1]) 0).run Tryz.prog w = .ok (x0) w := by kernel_rfl
theorem AL72 (w : World) : (Instr.alloc 72 true (.tuple #[])).run Tryz.prog w = .ok (.pointer (some ⟨w.heap.size, 0, none⟩)) (w.alloc (Blk 72 [.slice none 0 0])) := by kernel_rfl
theorem BS39_3 (x0 : Int) (x1 : Int) (x2 : Int) (w : World) : (Instr.buildSlice 39 3 #[(0, .int .u8 x0), (1, .int .u8 x1), (2, .int .u8 x2)]).run Tryz.prog w = .ok (.slice (some ⟨w.heap.size, 0, none⟩) 3 3) (w.alloc (Blk 5 [.int .u8 x0, .int .u8 x1, .int .u8 x2])) := by kernel_rfl
theorem BD62_0_2 (x0 : Int) (x2 : Option Nat) (w : World) : (Instr.build 62 #[(0, .int .i64 x0), (2, .map x2)]).run Tryz.prog w = .ok (.agg #[.int .i64 x0, .int .i64 0, .map x2, .bool false, .bool false, .int .i64 0]) w := by kernel_rfl
theorem AL29 (w : World) : (Instr.alloc 29 true (.tuple #[])).run Tryz.prog w = .ok (.pointer (some ⟨w.heap.size, 0, none⟩)) (w.alloc (Blk 29 [.slice none 0 0])) := by kernel_rfl
theorem AL3 (w : World) : (Instr.alloc 3 true (.tuple #[])).run Tryz.prog w = .ok (.pointer (some ⟨w.heap.size, 0, none⟩)) (w.alloc (Blk 3 [.int .i64 0])) := by kernel_rfl
theorem FA62_1 (b i : Nat) (w : World) : (Instr.fieldAt 62 (.pointer (some ⟨b, i, none⟩)) 1).run Tryz.prog w = .ok (.pointer (some ⟨b, i + 1, none⟩)) w := by kernel_rfl
theorem FA62_0 (b i : Nat) (w : World) : (Instr.fieldAt 62 (.pointer (some ⟨b, i, none⟩)) 0).run Tryz.prog w = .ok (.pointer (some ⟨b, i, none⟩)) w := by kernel_rfl
theorem FA50_0 (b i : Nat) (w : World) : (Instr.fieldAt 50 (.pointer (some ⟨b, i, none⟩)) 0).run Tryz.prog w = .ok (.pointer (some ⟨b, i, none⟩)) w := by kernel_rfl
theorem BS39_0  (w : World) : (Instr.buildSlice 39 0 #[]).run Tryz.prog w = .ok (.slice (some ⟨w.heap.size, 0, none⟩) 0 0) (w.alloc (Blk 5 [])) := by kernel_rfl
theorem CV3_75 (m : Int) (w : World) : (convert 3 75 (.int .i64 m)).run Tryz.prog w = .ok (.int .u64 (IntKind.u64.wrap m)) w := by kernel_rfl
theorem FA72_0 (b i : Nat) (w : World) : (Instr.fieldAt 72 (.pointer (some ⟨b, i, none⟩)) 0).run Tryz.prog w = .ok (.pointer (some ⟨b, i, none⟩)) w := by kernel_rfl
theorem CV75_5 (m : Int) (w : World) : (convert 75 5 (.int .u64 m)).run Tryz.prog w = .ok (.int .u8 (IntKind.u8.wrap m)) w := by kernel_rfl
theorem AL22 (w : World) : (Instr.alloc 22 true (.tuple #[])).run Tryz.prog w = .ok (.pointer (some ⟨w.heap.size, 0, none⟩)) (w.alloc (Blk 22 [.slice none 0 0])) := by kernel_rfl
theorem CV75_3 (m : Int) (w : World) : (convert 75 3 (.int .u64 m)).run Tryz.prog w = .ok (.int .i64 (IntKind.i64.wrap m)) w := by kernel_rfl
theorem BD99_0 (x0a : Option Addr) (x0n x0c : Nat) (w : World) : (Instr.build 99 #[(0, .slice x0a x0n x0c)]).run Tryz.prog w = .ok (.agg #[.slice x0a x0n x0c, .int .i64 0]) w := by kernel_rfl
theorem FA99_1 (b i : Nat) (w : World) : (Instr.fieldAt 99 (.pointer (some ⟨b, i, none⟩)) 1).run Tryz.prog w = .ok (.pointer (some ⟨b, i + 1, none⟩)) w := by kernel_rfl
theorem LN103 (ty : Nat) (a : Option Addr) (m c : Nat) (w : World) : (Builtin.len_ #[103] ty #[.slice a m c]).run Tryz.prog w = .ok (.int .i64 m) w := by kernel_rfl
theorem El103 : El Tryz.prog 103 75 [.int .u64 0] 1 8 := ⟨Tryz.underlying103, ⟨Tryz.t75, by kernel_rfl, ⟨_, rfl, rfl⟩, rfl, rfl⟩, by decide, rfl⟩
theorem AL75 (w : World) : (Instr.alloc 75 true (.tuple #[])).run Tryz.prog w = .ok (.pointer (some ⟨w.heap.size, 0, none⟩)) (w.alloc (Blk 75 [.int .u64 0])) := by kernel_rfl
theorem LN9 (ty : Nat) (s : ByteArray) (w : World) : (Builtin.len_ #[9] ty #[.string s]).run Tryz.prog w = .ok (.int .i64 s.size) w := by kernel_rfl
theorem BD110_0 (x0a : Option Addr) (x0n x0c : Nat) (w : World) : (Instr.build 110 #[(0, .slice x0a x0n x0c)]).run Tryz.prog w = .ok (.agg #[.slice x0a x0n x0c, .int .i64 0, .int .i64 0]) w := by kernel_rfl
theorem FA110_2 (b i : Nat) (w : World) : (Instr.fieldAt 110 (.pointer (some ⟨b, i, none⟩)) 2).run Tryz.prog w = .ok (.pointer (some ⟨b, i + 2, none⟩)) w := by kernel_rfl
theorem CV5_75 (m : Int) (w : World) : (convert 5 75 (.int .u8 m)).run Tryz.prog w = .ok (.int .u64 (IntKind.u64.wrap m)) w := by kernel_rfl
theorem FA110_1 (b i : Nat) (w : World) : (Instr.fieldAt 110 (.pointer (some ⟨b, i, none⟩)) 1).run Tryz.prog w = .ok (.pointer (some ⟨b, i + 1, none⟩)) w := by kernel_rfl
theorem FA110_0 (b i : Nat) (w : World) : (Instr.fieldAt 110 (.pointer (some ⟨b, i, none⟩)) 0).run Tryz.prog w = .ok (.pointer (some ⟨b, i, none⟩)) w := by kernel_rfl
theorem FA99_0 (b i : Nat) (w : World) : (Instr.fieldAt 99 (.pointer (some ⟨b, i, none⟩)) 0).run Tryz.prog w = .ok (.pointer (some ⟨b, i, none⟩)) w := by kernel_rfl
theorem BS103_1 (x0 : Int) (w : World) : (Instr.buildSlice 103 1 #[(0, .int .u64 x0)]).run Tryz.prog w = .ok (.slice (some ⟨w.heap.size, 0, none⟩) 1 1) (w.alloc (Blk 75 [.int .u64 x0])) := by kernel_rfl
theorem CV67_128 (m : Int) (w : World) : (convert 67 128 (.int .u64 m)).run Tryz.prog w = .ok (.int .u32 (IntKind.u32.wrap m)) w := by kernel_rfl
theorem CV3_129 (m : Int) (w : World) : (convert 3 129 (.int .i64 m)).run Tryz.prog w = .ok (.int .u64 (IntKind.u64.wrap m)) w := by kernel_rfl
theorem AL129 (w : World) : (Instr.alloc 129 true (.tuple #[])).run Tryz.prog w = .ok (.pointer (some ⟨w.heap.size, 0, none⟩)) (w.alloc (Blk 129 [.int .u64 0])) := by kernel_rfl
theorem CV67_3 (m : Int) (w : World) : (convert 67 3 (.int .u64 m)).run Tryz.prog w = .ok (.int .i64 (IntKind.i64.wrap m)) w := by kernel_rfl
theorem CV128_5 (m : Int) (w : World) : (convert 128 5 (.int .u32 m)).run Tryz.prog w = .ok (.int .u8 (IntKind.u8.wrap m)) w := by kernel_rfl
theorem CV5_3 (m : Int) (w : World) : (convert 5 3 (.int .u8 m)).run Tryz.prog w = .ok (.int .i64 (IntKind.i64.wrap m)) w := by kernel_rfl
end Go.Proofs.YtkappdlbpilghaaGreat
