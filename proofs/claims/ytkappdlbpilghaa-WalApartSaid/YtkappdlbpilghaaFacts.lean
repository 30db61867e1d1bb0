/- Closed facts on the tables of this program, written by a program of ours. -/
import Derived.Test.YtkappdlbpilghaaProg
import Derived.Test.YtkappdlbpilghaaMap
set_option maxRecDepth 100000
namespace Go.Proofs.Ytkappdlbpilghaa
open Go.SL
theorem MX : Try.prog.follows .mixedOrders = true := by kernel_rfl
theorem LN27 (ty : Nat) (a : Option Addr) (m c : Nat) (w : World) : (Builtin.len_ #[27] ty #[.slice a m c]).run Try.prog w = .ok (.int .i64 m) w := by kernel_rfl
theorem El27 : El Try.prog 27 33 [.slice none 0 0] 1 24 := ⟨Try.underlying27, ⟨Try.t33, by kernel_rfl, ⟨_, rfl, rfl⟩, rfl, rfl⟩, by decide, rfl⟩
theorem LN33 (ty : Nat) (a : Option Addr) (m c : Nat) (w : World) : (Builtin.len_ #[33] ty #[.slice a m c]).run Try.prog w = .ok (.int .i64 m) w := by kernel_rfl
theorem BS27_1 (x0a : Option Addr) (x0n x0c : Nat) (w : World) : (Instr.buildSlice 27 1 #[(0, .slice x0a x0n x0c)]).run Try.prog w = .ok (.slice (some ⟨w.heap.size, 0, none⟩) 1 1) (w.alloc (Blk 33 [.slice x0a x0n x0c])) := by kernel_rfl
theorem El33 : El Try.prog 33 5 [.int .u8 0] 1 1 := ⟨Try.underlying33, ⟨Try.t5, by kernel_rfl, ⟨_, rfl, rfl⟩, rfl, rfl⟩, by decide, rfl⟩
theorem El22 : El Try.prog 22 3 [.int .i64 0] 1 8 := ⟨Try.underlying22, ⟨Try.t3, by kernel_rfl, ⟨_, rfl, rfl⟩, rfl, rfl⟩, by decide, rfl⟩
theorem BS22_1 (x0 : Int) (w : World) : (Instr.buildSlice 22 1 #[(0, .int .i64 x0)]).run Try.prog w = .ok (.slice (some ⟨w.heap.size, 0, none⟩) 1 1) (w.alloc (Blk 3 [.int .i64 x0])) := by kernel_rfl
theorem BD56_0_1_2 (x0 : Option Addr) (x1 : Int) (x2 : Int) (w : World) : (Instr.build 56 #[(0, .pointer x0), (1, .int .i64 x1), (2, .int .i64 x2)]).run Try.prog w = .ok (.agg #[.pointer x0, .int .i64 x1, .int .i64 x2, .bool false]) w := by kernel_rfl
theorem LN22 (ty : Nat) (a : Option Addr) (m c : Nat) (w : World) : (Builtin.len_ #[22] ty #[.slice a m c]).run Try.prog w = .ok (.int .i64 m) w := by kernel_rfl
theorem CV3_5 (m : Int) (w : World) : (convert 3 5 (.int .i64 m)).run Try.prog w = .ok (.int .u8 (IntKind.u8.wrap m)) w := by kernel_rfl
theorem BS33_1 (x0 : Int) (w : World) : (Instr.buildSlice 33 1 #[(0, .int .u8 x0)]).run Try.prog w = .ok (.slice (some ⟨w.heap.size, 0, none⟩) 1 1) (w.alloc (Blk 5 [.int .u8 x0])) := by kernel_rfl
theorem FA59_1 (b i : Nat) (w : World) : (Instr.fieldAt 59 (.pointer (some ⟨b, i, none⟩)) 1).run Try.prog w = .ok (.pointer (some ⟨b, i + 1, none⟩)) w := by kernel_rfl
theorem AL61 (w : World) : (Instr.alloc 61 true (.tuple #[])).run Try.prog w = .ok (.pointer (some ⟨w.heap.size, 0, none⟩)) (w.alloc (Blk 61 [.slice none 0 0])) := by kernel_rfl
theorem AL28 (w : World) : (Instr.alloc 28 true (.tuple #[])).run Try.prog w = .ok (.pointer (some ⟨w.heap.size, 0, none⟩)) (w.alloc (Blk 28 [.int .i64 0])) := by kernel_rfl
theorem FA56_3 (b i : Nat) (w : World) : (Instr.fieldAt 56 (.pointer (some ⟨b, i, none⟩)) 3).run Try.prog w = .ok (.pointer (some ⟨b, i + 3, none⟩)) w := by kernel_rfl
theorem FA56_0 (b i : Nat) (w : World) : (Instr.fieldAt 56 (.pointer (some ⟨b, i, none⟩)) 0).run Try.prog w = .ok (.pointer (some ⟨b, i, none⟩)) w := by kernel_rfl
theorem FA56_1 (b i : Nat) (w : World) : (Instr.fieldAt 56 (.pointer (some ⟨b, i, none⟩)) 1).run Try.prog w = .ok (.pointer (some ⟨b, i + 1, none⟩)) w := by kernel_rfl
theorem FA56_2 (b i : Nat) (w : World) : (Instr.fieldAt 56 (.pointer (some ⟨b, i, none⟩)) 2).run Try.prog w = .ok (.pointer (some ⟨b, i + 2, none⟩)) w := by kernel_rfl
theorem BS33_3 (x0 : Int) (x1 : Int) (x2 : Int) (w : World) : (Instr.buildSlice 33 3 #[(0, .int .u8 x0), (1, .int .u8 x1), (2, .int .u8 x2)]).run Try.prog w = .ok (.slice (some ⟨w.heap.size, 0, none⟩) 3 3) (w.alloc (Blk 5 [.int .u8 x0, .int .u8 x1, .int .u8 x2])) := by kernel_rfl
theorem FA59_3 (b i : Nat) (w : World) : (Instr.fieldAt 59 (.pointer (some ⟨b, i, none⟩)) 3).run Try.prog w = .ok (.pointer (some ⟨b, i + 3, none⟩)) w := by kernel_rfl
theorem FA59_0 (b i : Nat) (w : World) : (Instr.fieldAt 59 (.pointer (some ⟨b, i, none⟩)) 0).run Try.prog w = .ok (.pointer (some ⟨b, i, none⟩)) w := by kernel_rfl
theorem FA59_2 (b i : Nat) (w : World) : (Instr.fieldAt 59 (.pointer (some ⟨b, i, none⟩)) 2).run Try.prog w = .ok (.pointer (some ⟨b, i + 2, none⟩)) w := by kernel_rfl
theorem ZV68 (w : World) : (zeroValue 68).run Try.prog w = .ok (.agg #[.slice none 0 0, .int .i64 0]) w := by kernel_rfl
theorem AL68 (w : World) : (Instr.alloc 68 true (.tuple #[])).run Try.prog w = .ok (.pointer (some ⟨w.heap.size, 0, none⟩)) (w.alloc (Blk 68 [.slice none 0 0, .int .i64 0])) := by kernel_rfl
theorem FA68_0 (b i : Nat) (w : World) : (Instr.fieldAt 68 (.pointer (some ⟨b, i, none⟩)) 0).run Try.prog w = .ok (.pointer (some ⟨b, i, none⟩)) w := by kernel_rfl
theorem FA68_1 (b i : Nat) (w : World) : (Instr.fieldAt 68 (.pointer (some ⟨b, i, none⟩)) 1).run Try.prog w = .ok (.pointer (some ⟨b, i + 1, none⟩)) w := by kernel_rfl
theorem BD68_0_1 (x0a : Option Addr) (x0n x0c : Nat) (x1 : Int) (w : World) : (Instr.build 68 #[(0, .slice x0a x0n x0c), (1, .int .i64 x1)]).run Try.prog w = .ok (.agg #[.slice x0a x0n x0c, .int .i64 x1]) w := by kernel_rfl
theorem FA59_4 (b i : Nat) (w : World) : (Instr.fieldAt 59 (.pointer (some ⟨b, i, none⟩)) 4).run Try.prog w = .ok (.pointer (some ⟨b, i + 4, none⟩)) w := by kernel_rfl
theorem FA59_5 (b i : Nat) (w : World) : (Instr.fieldAt 59 (.pointer (some ⟨b, i, none⟩)) 5).run Try.prog w = .ok (.pointer (some ⟨b, i + 5, none⟩)) w := by kernel_rfl
theorem BD59_0_2 (x0 : Int) (x2 : Option Nat) (w : World) : (Instr.build 59 #[(0, .int .i64 x0), (2, .map x2)]).run Try.prog w = .ok (.agg #[.int .i64 x0, .int .i64 0, .map x2, .bool false, .bool false, .int .i64 0]) w := by kernel_rfl
theorem FD68_0 (x0 x1 : Value) (w : World) : (Instr.field 68 (.agg #[x0, x1]) 0).run Try.prog w = .ok (x0) w := by kernel_rfl
theorem AL27 (w : World) : (Instr.alloc 27 true (.tuple #[])).run Try.prog w = .ok (.pointer (some ⟨w.heap.size, 0, none⟩)) (w.alloc (Blk 27 [.slice none 0 0])) := by kernel_rfl
theorem AL3 (w : World) : (Instr.alloc 3 true (.tuple #[])).run Try.prog w = .ok (.pointer (some ⟨w.heap.size, 0, none⟩)) (w.alloc (Blk 3 [.int .i64 0])) := by kernel_rfl
theorem CV3_65 (m : Int) (w : World) : (convert 3 65 (.int .i64 m)).run Try.prog w = .ok (.int .u64 (IntKind.u64.wrap m)) w := by kernel_rfl
theorem FA61_0 (b i : Nat) (w : World) : (Instr.fieldAt 61 (.pointer (some ⟨b, i, none⟩)) 0).run Try.prog w = .ok (.pointer (some ⟨b, i, none⟩)) w := by kernel_rfl
theorem CV65_5 (m : Int) (w : World) : (convert 65 5 (.int .u64 m)).run Try.prog w = .ok (.int .u8 (IntKind.u8.wrap m)) w := by kernel_rfl
theorem AL22 (w : World) : (Instr.alloc 22 true (.tuple #[])).run Try.prog w = .ok (.pointer (some ⟨w.heap.size, 0, none⟩)) (w.alloc (Blk 22 [.slice none 0 0])) := by kernel_rfl
theorem CV65_3 (m : Int) (w : World) : (convert 65 3 (.int .u64 m)).run Try.prog w = .ok (.int .i64 (IntKind.i64.wrap m)) w := by kernel_rfl
theorem BS33_0  (w : World) : (Instr.buildSlice 33 0 #[]).run Try.prog w = .ok (.slice (some ⟨w.heap.size, 0, none⟩) 0 0) (w.alloc (Blk 5 [])) := by kernel_rfl
theorem AL65 (w : World) : (Instr.alloc 65 true (.tuple #[])).run Try.prog w = .ok (.pointer (some ⟨w.heap.size, 0, none⟩)) (w.alloc (Blk 65 [.int .u64 0])) := by kernel_rfl
theorem LN9 (ty : Nat) (s : ByteArray) (w : World) : (Builtin.len_ #[9] ty #[.string s]).run Try.prog w = .ok (.int .i64 s.size) w := by kernel_rfl
theorem BD95_0 (x0a : Option Addr) (x0n x0c : Nat) (w : World) : (Instr.build 95 #[(0, .slice x0a x0n x0c)]).run Try.prog w = .ok (.agg #[.slice x0a x0n x0c, .int .i64 0, .int .i64 0]) w := by kernel_rfl
theorem FA95_2 (b i : Nat) (w : World) : (Instr.fieldAt 95 (.pointer (some ⟨b, i, none⟩)) 2).run Try.prog w = .ok (.pointer (some ⟨b, i + 2, none⟩)) w := by kernel_rfl
theorem CV5_65 (m : Int) (w : World) : (convert 5 65 (.int .u8 m)).run Try.prog w = .ok (.int .u64 (IntKind.u64.wrap m)) w := by kernel_rfl
theorem CV3_76 (m : Int) (w : World) : (convert 3 76 (.int .i64 m)).run Try.prog w = .ok (.int .u64 (IntKind.u64.wrap m)) w := by kernel_rfl
theorem FA95_1 (b i : Nat) (w : World) : (Instr.fieldAt 95 (.pointer (some ⟨b, i, none⟩)) 1).run Try.prog w = .ok (.pointer (some ⟨b, i + 1, none⟩)) w := by kernel_rfl
theorem FA95_0 (b i : Nat) (w : World) : (Instr.fieldAt 95 (.pointer (some ⟨b, i, none⟩)) 0).run Try.prog w = .ok (.pointer (some ⟨b, i, none⟩)) w := by kernel_rfl
theorem CV76_111 (m : Int) (w : World) : (convert 76 111 (.int .u64 m)).run Try.prog w = .ok (.int .u32 (IntKind.u32.wrap m)) w := by kernel_rfl
theorem CV3_113 (m : Int) (w : World) : (convert 3 113 (.int .i64 m)).run Try.prog w = .ok (.int .u64 (IntKind.u64.wrap m)) w := by kernel_rfl
theorem AL113 (w : World) : (Instr.alloc 113 true (.tuple #[])).run Try.prog w = .ok (.pointer (some ⟨w.heap.size, 0, none⟩)) (w.alloc (Blk 113 [.int .u64 0])) := by kernel_rfl
theorem CV76_3 (m : Int) (w : World) : (convert 76 3 (.int .u64 m)).run Try.prog w = .ok (.int .i64 (IntKind.i64.wrap m)) w := by kernel_rfl
theorem CV111_5 (m : Int) (w : World) : (convert 111 5 (.int .u32 m)).run Try.prog w = .ok (.int .u8 (IntKind.u8.wrap m)) w := by kernel_rfl
theorem CV5_3 (m : Int) (w : World) : (convert 5 3 (.int .u8 m)).run Try.prog w = .ok (.int .i64 (IntKind.i64.wrap m)) w := by kernel_rfl
end Go.Proofs.Ytkappdlbpilghaa
