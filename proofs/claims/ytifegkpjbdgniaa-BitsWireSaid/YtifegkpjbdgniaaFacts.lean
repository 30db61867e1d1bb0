/- Closed facts on the tables of this program, written by a program of ours. -/
import Derived.Test.YtifegkpjbdgniaaProg
import Derived.Test.YtifegkpjbdgniaaMap
namespace Go.Proofs.Ytifegkpjbdgniaa
open Go.SL
theorem MX : Try.prog.follows .mixedOrders = true := by kernel_rfl
theorem BD27_1_2 (x1 : Int) (x2 : Int) (w : World) : (Instr.build 27 #[(1, .int .u64 x1), (2, .int .i64 x2)]).run Try.prog w = .ok (.agg #[.bool false, .int .u64 x1, .int .i64 x2]) w := by kernel_rfl
theorem CV3_23 (m : Int) (w : World) : (convert 3 23 (.int .i64 m)).run Try.prog w = .ok (.int .u64 (IntKind.u64.wrap m)) w := by kernel_rfl
theorem BD27_0_1 (x0 : Bool) (x1 : Int) (w : World) : (Instr.build 27 #[(0, .bool x0), (1, .int .u64 x1)]).run Try.prog w = .ok (.agg #[.bool x0, .int .u64 x1, .int .i64 0]) w := by kernel_rfl
theorem El24 : El Try.prog 24 27 [.bool false, .int .u64 0, .int .i64 0] 3 24 := ⟨Try.underlying24, ⟨Try.t27, by kernel_rfl, ⟨_, rfl, rfl⟩, rfl, rfl⟩, by decide, rfl⟩
theorem BS24_2 (x0_0 x0_1 x0_2 : Value) (x1_0 x1_1 x1_2 : Value) (w : World) : (Instr.buildSlice 24 2 #[(0, .agg #[x0_0, x0_1, x0_2]), (1, .agg #[x1_0, x1_1, x1_2])]).run Try.prog w = .ok (.slice (some ⟨w.heap.size, 0, none⟩) 2 2) (w.alloc (Blk 27 [x0_0, x0_1, x0_2, x1_0, x1_1, x1_2])) := by kernel_rfl
theorem AL31 (w : World) : (Instr.alloc 31 true (.tuple #[])).run Try.prog w = .ok (.pointer (some ⟨w.heap.size, 0, none⟩)) (w.alloc (Blk 31 [.slice none 0 0, .int .i64 0])) := by kernel_rfl
theorem LN24 (ty : Nat) (a : Option Addr) (m c : Nat) (w : World) : (Builtin.len_ #[24] ty #[.slice a m c]).run Try.prog w = .ok (.int .i64 m) w := by kernel_rfl
theorem El32 : El Try.prog 32 4 [.bool false] 1 1 := ⟨Try.underlying32, ⟨Try.t4, by kernel_rfl, ⟨_, rfl, rfl⟩, rfl, rfl⟩, by decide, rfl⟩
theorem LN32 (ty : Nat) (a : Option Addr) (m c : Nat) (w : World) : (Builtin.len_ #[32] ty #[.slice a m c]).run Try.prog w = .ok (.int .i64 m) w := by kernel_rfl
theorem BD49_0 (x0a : Option Addr) (x0n x0c : Nat) (w : World) : (Instr.build 49 #[(0, .slice x0a x0n x0c)]).run Try.prog w = .ok (.agg #[.slice x0a x0n x0c, .int .i64 0, .int .i64 0]) w := by kernel_rfl
theorem LN22 (ty : Nat) (a : Option Addr) (m c : Nat) (w : World) : (Builtin.len_ #[22] ty #[.slice a m c]).run Try.prog w = .ok (.int .i64 m) w := by kernel_rfl
theorem El22 : El Try.prog 22 3 [.int .i64 0] 1 8 := ⟨Try.underlying22, ⟨Try.t3, by kernel_rfl, ⟨_, rfl, rfl⟩, rfl, rfl⟩, by decide, rfl⟩
theorem FA49_1 (b i : Nat) (w : World) : (Instr.fieldAt 49 (.pointer (some ⟨b, i, none⟩)) 1).run Try.prog w = .ok (.pointer (some ⟨b, i + 1, none⟩)) w := by kernel_rfl
theorem BS24_1 (x0_0 x0_1 x0_2 : Value) (w : World) : (Instr.buildSlice 24 1 #[(0, .agg #[x0_0, x0_1, x0_2])]).run Try.prog w = .ok (.slice (some ⟨w.heap.size, 0, none⟩) 1 1) (w.alloc (Blk 27 [x0_0, x0_1, x0_2])) := by kernel_rfl
theorem FA27_0 (b i : Nat) (w : World) : (Instr.fieldAt 27 (.pointer (some ⟨b, i, none⟩)) 0).run Try.prog w = .ok (.pointer (some ⟨b, i, none⟩)) w := by kernel_rfl
theorem FA27_1 (b i : Nat) (w : World) : (Instr.fieldAt 27 (.pointer (some ⟨b, i, none⟩)) 1).run Try.prog w = .ok (.pointer (some ⟨b, i + 1, none⟩)) w := by kernel_rfl
theorem CV23_3 (m : Int) (w : World) : (convert 23 3 (.int .u64 m)).run Try.prog w = .ok (.int .i64 (IntKind.i64.wrap m)) w := by kernel_rfl
theorem FA27_2 (b i : Nat) (w : World) : (Instr.fieldAt 27 (.pointer (some ⟨b, i, none⟩)) 2).run Try.prog w = .ok (.pointer (some ⟨b, i + 2, none⟩)) w := by kernel_rfl
theorem LN29 (ty : Nat) (a : Option Addr) (m c : Nat) (w : World) : (Builtin.len_ #[29] ty #[.slice a m c]).run Try.prog w = .ok (.int .i64 m) w := by kernel_rfl
theorem LN9 (ty : Nat) (s : ByteArray) (w : World) : (Builtin.len_ #[9] ty #[.string s]).run Try.prog w = .ok (.int .i64 s.size) w := by kernel_rfl
theorem El29 : El Try.prog 29 5 [.int .u8 0] 1 1 := ⟨Try.underlying29, ⟨Try.t5, by kernel_rfl, ⟨_, rfl, rfl⟩, rfl, rfl⟩, by decide, rfl⟩
theorem BS29_0  (w : World) : (Instr.buildSlice 29 0 #[]).run Try.prog w = .ok (.slice (some ⟨w.heap.size, 0, none⟩) 0 0) (w.alloc (Blk 5 [])) := by kernel_rfl
theorem AL63 (w : World) : (Instr.alloc 63 true (.tuple #[])).run Try.prog w = .ok (.pointer (some ⟨w.heap.size, 0, none⟩)) (w.alloc (Blk 63 [.slice none 0 0])) := by kernel_rfl
theorem El65 : El Try.prog 65 23 [.int .u64 0] 1 8 := ⟨Try.underlying65, ⟨Try.t23, by kernel_rfl, ⟨_, rfl, rfl⟩, rfl, rfl⟩, by decide, rfl⟩
theorem BS65_3 (x0 : Int) (x1 : Int) (x2 : Int) (w : World) : (Instr.buildSlice 65 3 #[(0, .int .u64 x0), (1, .int .u64 x1), (2, .int .u64 x2)]).run Try.prog w = .ok (.slice (some ⟨w.heap.size, 0, none⟩) 3 3) (w.alloc (Blk 23 [.int .u64 x0, .int .u64 x1, .int .u64 x2])) := by kernel_rfl
theorem BS65_1 (x0 : Int) (w : World) : (Instr.buildSlice 65 1 #[(0, .int .u64 x0)]).run Try.prog w = .ok (.slice (some ⟨w.heap.size, 0, none⟩) 1 1) (w.alloc (Blk 23 [.int .u64 x0])) := by kernel_rfl
theorem LN65 (ty : Nat) (a : Option Addr) (m c : Nat) (w : World) : (Builtin.len_ #[65] ty #[.slice a m c]).run Try.prog w = .ok (.int .i64 m) w := by kernel_rfl
theorem BD27_0_1_2 (x0 : Bool) (x1 : Int) (x2 : Int) (w : World) : (Instr.build 27 #[(0, .bool x0), (1, .int .u64 x1), (2, .int .i64 x2)]).run Try.prog w = .ok (.agg #[.bool x0, .int .u64 x1, .int .i64 x2]) w := by kernel_rfl
theorem AL27 (w : World) : (Instr.alloc 27 true (.tuple #[])).run Try.prog w = .ok (.pointer (some ⟨w.heap.size, 0, none⟩)) (w.alloc (Blk 27 [.bool false, .int .u64 0, .int .i64 0])) := by kernel_rfl
theorem FA31_1 (b i : Nat) (w : World) : (Instr.fieldAt 31 (.pointer (some ⟨b, i, none⟩)) 1).run Try.prog w = .ok (.pointer (some ⟨b, i + 1, none⟩)) w := by kernel_rfl
theorem FA31_0 (b i : Nat) (w : World) : (Instr.fieldAt 31 (.pointer (some ⟨b, i, none⟩)) 0).run Try.prog w = .ok (.pointer (some ⟨b, i, none⟩)) w := by kernel_rfl
theorem BS29_1 (x0 : Int) (w : World) : (Instr.buildSlice 29 1 #[(0, .int .u8 x0)]).run Try.prog w = .ok (.slice (some ⟨w.heap.size, 0, none⟩) 1 1) (w.alloc (Blk 5 [.int .u8 x0])) := by kernel_rfl
theorem CV3_64 (m : Int) (w : World) : (convert 3 64 (.int .i64 m)).run Try.prog w = .ok (.int .u64 (IntKind.u64.wrap m)) w := by kernel_rfl
theorem BD78_0 (x0a : Option Addr) (x0n x0c : Nat) (w : World) : (Instr.build 78 #[(0, .slice x0a x0n x0c)]).run Try.prog w = .ok (.agg #[.slice x0a x0n x0c, .int .i64 0, .int .i64 0]) w := by kernel_rfl
theorem CV5_23 (m : Int) (w : World) : (convert 5 23 (.int .u8 m)).run Try.prog w = .ok (.int .u64 (IntKind.u64.wrap m)) w := by kernel_rfl
theorem FA78_2 (b i : Nat) (w : World) : (Instr.fieldAt 78 (.pointer (some ⟨b, i, none⟩)) 2).run Try.prog w = .ok (.pointer (some ⟨b, i + 2, none⟩)) w := by kernel_rfl
theorem AL23 (w : World) : (Instr.alloc 23 true (.tuple #[])).run Try.prog w = .ok (.pointer (some ⟨w.heap.size, 0, none⟩)) (w.alloc (Blk 23 [.int .u64 0])) := by kernel_rfl
theorem FA78_1 (b i : Nat) (w : World) : (Instr.fieldAt 78 (.pointer (some ⟨b, i, none⟩)) 1).run Try.prog w = .ok (.pointer (some ⟨b, i + 1, none⟩)) w := by kernel_rfl
theorem FA49_2 (b i : Nat) (w : World) : (Instr.fieldAt 49 (.pointer (some ⟨b, i, none⟩)) 2).run Try.prog w = .ok (.pointer (some ⟨b, i + 2, none⟩)) w := by kernel_rfl
theorem FA49_0 (b i : Nat) (w : World) : (Instr.fieldAt 49 (.pointer (some ⟨b, i, none⟩)) 0).run Try.prog w = .ok (.pointer (some ⟨b, i, none⟩)) w := by kernel_rfl
theorem FA63_0 (b i : Nat) (w : World) : (Instr.fieldAt 63 (.pointer (some ⟨b, i, none⟩)) 0).run Try.prog w = .ok (.pointer (some ⟨b, i, none⟩)) w := by kernel_rfl
theorem CV23_5 (m : Int) (w : World) : (convert 23 5 (.int .u64 m)).run Try.prog w = .ok (.int .u8 (IntKind.u8.wrap m)) w := by kernel_rfl
theorem BD86_0 (x0a : Option Addr) (x0n x0c : Nat) (w : World) : (Instr.build 86 #[(0, .slice x0a x0n x0c)]).run Try.prog w = .ok (.agg #[.slice x0a x0n x0c, .int .i64 0, .int .i64 0]) w := by kernel_rfl
theorem FA86_2 (b i : Nat) (w : World) : (Instr.fieldAt 86 (.pointer (some ⟨b, i, none⟩)) 2).run Try.prog w = .ok (.pointer (some ⟨b, i + 2, none⟩)) w := by kernel_rfl
theorem FA86_1 (b i : Nat) (w : World) : (Instr.fieldAt 86 (.pointer (some ⟨b, i, none⟩)) 1).run Try.prog w = .ok (.pointer (some ⟨b, i + 1, none⟩)) w := by kernel_rfl
theorem FA86_0 (b i : Nat) (w : World) : (Instr.fieldAt 86 (.pointer (some ⟨b, i, none⟩)) 0).run Try.prog w = .ok (.pointer (some ⟨b, i, none⟩)) w := by kernel_rfl
theorem AL22 (w : World) : (Instr.alloc 22 true (.tuple #[])).run Try.prog w = .ok (.pointer (some ⟨w.heap.size, 0, none⟩)) (w.alloc (Blk 22 [.slice none 0 0])) := by kernel_rfl
theorem BS22_1 (x0 : Int) (w : World) : (Instr.buildSlice 22 1 #[(0, .int .i64 x0)]).run Try.prog w = .ok (.slice (some ⟨w.heap.size, 0, none⟩) 1 1) (w.alloc (Blk 3 [.int .i64 x0])) := by kernel_rfl
theorem BS32_1 (x0 : Bool) (w : World) : (Instr.buildSlice 32 1 #[(0, .bool x0)]).run Try.prog w = .ok (.slice (some ⟨w.heap.size, 0, none⟩) 1 1) (w.alloc (Blk 4 [.bool x0])) := by kernel_rfl
theorem FA78_0 (b i : Nat) (w : World) : (Instr.fieldAt 78 (.pointer (some ⟨b, i, none⟩)) 0).run Try.prog w = .ok (.pointer (some ⟨b, i, none⟩)) w := by kernel_rfl
end Go.Proofs.Ytifegkpjbdgniaa
