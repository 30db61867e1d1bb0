/- Closed facts on the tables of this program, written by a program of ours. -/
import Derived.Test.YtheeheahhnamjaaProg
import Derived.Test.YtheeheahhnamjaaMap
namespace Go.Proofs.Ytheeheahhnamjaa
open Go.SL
theorem MX : Try.prog.follows .mixedOrders = true := by kernel_rfl
theorem CV3_22 (m : Int) (w : World) : (convert 3 22 (.int .i64 m)).run Try.prog w = .ok (.int .u64 (IntKind.u64.wrap m)) w := by kernel_rfl
theorem AL26 (w : World) : (Instr.alloc 26 true (.tuple #[])).run Try.prog w = .ok (.pointer (some ⟨w.heap.size, 0, none⟩)) (w.alloc (Blk 26 [.slice none 0 0])) := by kernel_rfl
theorem LN24 (ty : Nat) (a : Option Addr) (m c : Nat) (w : World) : (Builtin.len_ #[24] ty #[.slice a m c]).run Try.prog w = .ok (.int .i64 m) w := by kernel_rfl
theorem El24 : El Try.prog 24 5 [.int .u8 0] 1 1 := ⟨Try.underlying24, ⟨Try.t5, by kernel_rfl, ⟨_, rfl, rfl⟩, rfl, rfl⟩, by decide, rfl⟩
theorem El38 : El Try.prog 38 24 [.slice none 0 0] 1 24 := ⟨Try.underlying38, ⟨Try.t24, by kernel_rfl, ⟨_, rfl, rfl⟩, rfl, rfl⟩, by decide, rfl⟩
theorem BS38_2 (x0a : Option Addr) (x0n x0c : Nat) (x1a : Option Addr) (x1n x1c : Nat) (w : World) : (Instr.buildSlice 38 2 #[(0, .slice x0a x0n x0c), (1, .slice x1a x1n x1c)]).run Try.prog w = .ok (.slice (some ⟨w.heap.size, 0, none⟩) 2 2) (w.alloc (Blk 24 [.slice x0a x0n x0c, .slice x1a x1n x1c])) := by kernel_rfl
theorem BD44_0 (x0a : Option Addr) (x0n x0c : Nat) (w : World) : (Instr.build 44 #[(0, .slice x0a x0n x0c)]).run Try.prog w = .ok (.agg #[.slice x0a x0n x0c, .int .i64 0]) w := by kernel_rfl
theorem LN33 (ty : Nat) (a : Option Addr) (m c : Nat) (w : World) : (Builtin.len_ #[33] ty #[.slice a m c]).run Try.prog w = .ok (.int .i64 m) w := by kernel_rfl
theorem El33 : El Try.prog 33 3 [.int .i64 0] 1 8 := ⟨Try.underlying33, ⟨Try.t3, by kernel_rfl, ⟨_, rfl, rfl⟩, rfl, rfl⟩, by decide, rfl⟩
theorem BS24_0  (w : World) : (Instr.buildSlice 24 0 #[]).run Try.prog w = .ok (.slice (some ⟨w.heap.size, 0, none⟩) 0 0) (w.alloc (Blk 5 [])) := by kernel_rfl
theorem BD47_1 (x1 : Int) (w : World) : (Instr.build 47 #[(1, .int .u64 x1)]).run Try.prog w = .ok (.agg #[.int .i64 0, .int .u64 x1, .int .i64 0, .slice none 0 0, .slice none 0 0]) w := by kernel_rfl
theorem BD47_0_2 (x0 : Int) (x2 : Int) (w : World) : (Instr.build 47 #[(0, .int .i64 x0), (2, .int .i64 x2)]).run Try.prog w = .ok (.agg #[.int .i64 x0, .int .u64 0, .int .i64 x2, .slice none 0 0, .slice none 0 0]) w := by kernel_rfl
theorem BD47_0_3 (x0 : Int) (x3a : Option Addr) (x3n x3c : Nat) (w : World) : (Instr.build 47 #[(0, .int .i64 x0), (3, .slice x3a x3n x3c)]).run Try.prog w = .ok (.agg #[.int .i64 x0, .int .u64 0, .int .i64 0, .slice x3a x3n x3c, .slice none 0 0]) w := by kernel_rfl
theorem BD47_0_4 (x0 : Int) (x4a : Option Addr) (x4n x4c : Nat) (w : World) : (Instr.build 47 #[(0, .int .i64 x0), (4, .slice x4a x4n x4c)]).run Try.prog w = .ok (.agg #[.int .i64 x0, .int .u64 0, .int .i64 0, .slice none 0 0, .slice x4a x4n x4c]) w := by kernel_rfl
theorem El35 : El Try.prog 35 47 [.int .i64 0, .int .u64 0, .int .i64 0, .slice none 0 0, .slice none 0 0] 5 72 := ⟨Try.underlying35, ⟨Try.t47, by kernel_rfl, ⟨_, rfl, rfl⟩, rfl, rfl⟩, by decide, rfl⟩
theorem BS35_5 (x0_0 x0_1 x0_2 x0_3 x0_4 : Value) (x1_0 x1_1 x1_2 x1_3 x1_4 : Value) (x2_0 x2_1 x2_2 x2_3 x2_4 : Value) (x3_0 x3_1 x3_2 x3_3 x3_4 : Value) (x4_0 x4_1 x4_2 x4_3 x4_4 : Value) (w : World) : (Instr.buildSlice 35 5 #[(0, .agg #[x0_0, x0_1, x0_2, x0_3, x0_4]), (1, .agg #[x1_0, x1_1, x1_2, x1_3, x1_4]), (2, .agg #[x2_0, x2_1, x2_2, x2_3, x2_4]), (3, .agg #[x3_0, x3_1, x3_2, x3_3, x3_4]), (4, .agg #[x4_0, x4_1, x4_2, x4_3, x4_4])]).run Try.prog w = .ok (.slice (some ⟨w.heap.size, 0, none⟩) 5 5) (w.alloc (Blk 47 [x0_0, x0_1, x0_2, x0_3, x0_4, x1_0, x1_1, x1_2, x1_3, x1_4, x2_0, x2_1, x2_2, x2_3, x2_4, x3_0, x3_1, x3_2, x3_3, x3_4, x4_0, x4_1, x4_2, x4_3, x4_4])) := by kernel_rfl
theorem LN35 (ty : Nat) (a : Option Addr) (m c : Nat) (w : World) : (Builtin.len_ #[35] ty #[.slice a m c]).run Try.prog w = .ok (.int .i64 m) w := by kernel_rfl
theorem BS35_2 (x0_0 x0_1 x0_2 x0_3 x0_4 : Value) (x1_0 x1_1 x1_2 x1_3 x1_4 : Value) (w : World) : (Instr.buildSlice 35 2 #[(0, .agg #[x0_0, x0_1, x0_2, x0_3, x0_4]), (1, .agg #[x1_0, x1_1, x1_2, x1_3, x1_4])]).run Try.prog w = .ok (.slice (some ⟨w.heap.size, 0, none⟩) 2 2) (w.alloc (Blk 47 [x0_0, x0_1, x0_2, x0_3, x0_4, x1_0, x1_1, x1_2, x1_3, x1_4])) := by kernel_rfl
theorem FA47_0 (b i : Nat) (w : World) : (Instr.fieldAt 47 (.pointer (some ⟨b, i, none⟩)) 0).run Try.prog w = .ok (.pointer (some ⟨b, i, none⟩)) w := by kernel_rfl
theorem BS35_1 (x0_0 x0_1 x0_2 x0_3 x0_4 : Value) (w : World) : (Instr.buildSlice 35 1 #[(0, .agg #[x0_0, x0_1, x0_2, x0_3, x0_4])]).run Try.prog w = .ok (.slice (some ⟨w.heap.size, 0, none⟩) 1 1) (w.alloc (Blk 47 [x0_0, x0_1, x0_2, x0_3, x0_4])) := by kernel_rfl
theorem BS24_1 (x0 : Int) (w : World) : (Instr.buildSlice 24 1 #[(0, .int .u8 x0)]).run Try.prog w = .ok (.slice (some ⟨w.heap.size, 0, none⟩) 1 1) (w.alloc (Blk 5 [.int .u8 x0])) := by kernel_rfl
theorem AL47 (w : World) : (Instr.alloc 47 true (.tuple #[])).run Try.prog w = .ok (.pointer (some ⟨w.heap.size, 0, none⟩)) (w.alloc (Blk 47 [.int .i64 0, .int .u64 0, .int .i64 0, .slice none 0 0, .slice none 0 0])) := by kernel_rfl
theorem BD47_0 (x0 : Int) (w : World) : (Instr.build 47 #[(0, .int .i64 x0)]).run Try.prog w = .ok (.agg #[.int .i64 x0, .int .u64 0, .int .i64 0, .slice none 0 0, .slice none 0 0]) w := by kernel_rfl
theorem FA26_0 (b i : Nat) (w : World) : (Instr.fieldAt 26 (.pointer (some ⟨b, i, none⟩)) 0).run Try.prog w = .ok (.pointer (some ⟨b, i, none⟩)) w := by kernel_rfl
theorem CV22_5 (m : Int) (w : World) : (convert 22 5 (.int .u64 m)).run Try.prog w = .ok (.int .u8 (IntKind.u8.wrap m)) w := by kernel_rfl
theorem BS24_2 (x0 : Int) (x1 : Int) (w : World) : (Instr.buildSlice 24 2 #[(0, .int .u8 x0), (1, .int .u8 x1)]).run Try.prog w = .ok (.slice (some ⟨w.heap.size, 0, none⟩) 2 2) (w.alloc (Blk 5 [.int .u8 x0, .int .u8 x1])) := by kernel_rfl
theorem BS24_6 (x0 : Int) (x1 : Int) (x2 : Int) (x3 : Int) (x4 : Int) (x5 : Int) (w : World) : (Instr.buildSlice 24 6 #[(0, .int .u8 x0), (1, .int .u8 x1), (2, .int .u8 x2), (3, .int .u8 x3), (4, .int .u8 x4), (5, .int .u8 x5)]).run Try.prog w = .ok (.slice (some ⟨w.heap.size, 0, none⟩) 6 6) (w.alloc (Blk 5 [.int .u8 x0, .int .u8 x1, .int .u8 x2, .int .u8 x3, .int .u8 x4, .int .u8 x5])) := by kernel_rfl
theorem FA47_1 (b i : Nat) (w : World) : (Instr.fieldAt 47 (.pointer (some ⟨b, i, none⟩)) 1).run Try.prog w = .ok (.pointer (some ⟨b, i + 1, none⟩)) w := by kernel_rfl
theorem FA47_2 (b i : Nat) (w : World) : (Instr.fieldAt 47 (.pointer (some ⟨b, i, none⟩)) 2).run Try.prog w = .ok (.pointer (some ⟨b, i + 2, none⟩)) w := by kernel_rfl
theorem FA47_3 (b i : Nat) (w : World) : (Instr.fieldAt 47 (.pointer (some ⟨b, i, none⟩)) 3).run Try.prog w = .ok (.pointer (some ⟨b, i + 3, none⟩)) w := by kernel_rfl
theorem FA47_4 (b i : Nat) (w : World) : (Instr.fieldAt 47 (.pointer (some ⟨b, i, none⟩)) 4).run Try.prog w = .ok (.pointer (some ⟨b, i + 4, none⟩)) w := by kernel_rfl
theorem CV3_5 (m : Int) (w : World) : (convert 3 5 (.int .i64 m)).run Try.prog w = .ok (.int .u8 (IntKind.u8.wrap m)) w := by kernel_rfl
theorem BS33_1 (x0 : Int) (w : World) : (Instr.buildSlice 33 1 #[(0, .int .i64 x0)]).run Try.prog w = .ok (.slice (some ⟨w.heap.size, 0, none⟩) 1 1) (w.alloc (Blk 3 [.int .i64 x0])) := by kernel_rfl
theorem BD78_0 (x0a : Option Addr) (x0n x0c : Nat) (w : World) : (Instr.build 78 #[(0, .slice x0a x0n x0c)]).run Try.prog w = .ok (.agg #[.slice x0a x0n x0c, .int .i64 0, .int .i64 0]) w := by kernel_rfl
theorem FA78_2 (b i : Nat) (w : World) : (Instr.fieldAt 78 (.pointer (some ⟨b, i, none⟩)) 2).run Try.prog w = .ok (.pointer (some ⟨b, i + 2, none⟩)) w := by kernel_rfl
theorem FA78_1 (b i : Nat) (w : World) : (Instr.fieldAt 78 (.pointer (some ⟨b, i, none⟩)) 1).run Try.prog w = .ok (.pointer (some ⟨b, i + 1, none⟩)) w := by kernel_rfl
theorem FA78_0 (b i : Nat) (w : World) : (Instr.fieldAt 78 (.pointer (some ⟨b, i, none⟩)) 0).run Try.prog w = .ok (.pointer (some ⟨b, i, none⟩)) w := by kernel_rfl
theorem FA44_1 (b i : Nat) (w : World) : (Instr.fieldAt 44 (.pointer (some ⟨b, i, none⟩)) 1).run Try.prog w = .ok (.pointer (some ⟨b, i + 1, none⟩)) w := by kernel_rfl
theorem FA44_0 (b i : Nat) (w : World) : (Instr.fieldAt 44 (.pointer (some ⟨b, i, none⟩)) 0).run Try.prog w = .ok (.pointer (some ⟨b, i, none⟩)) w := by kernel_rfl
theorem LN9 (ty : Nat) (s : ByteArray) (w : World) : (Builtin.len_ #[9] ty #[.string s]).run Try.prog w = .ok (.int .i64 s.size) w := by kernel_rfl
theorem AL33 (w : World) : (Instr.alloc 33 true (.tuple #[])).run Try.prog w = .ok (.pointer (some ⟨w.heap.size, 0, none⟩)) (w.alloc (Blk 33 [.slice none 0 0])) := by kernel_rfl
theorem CV22_3 (m : Int) (w : World) : (convert 22 3 (.int .u64 m)).run Try.prog w = .ok (.int .i64 (IntKind.i64.wrap m)) w := by kernel_rfl
theorem CV5_22 (m : Int) (w : World) : (convert 5 22 (.int .u8 m)).run Try.prog w = .ok (.int .u64 (IntKind.u64.wrap m)) w := by kernel_rfl
theorem CV3_67 (m : Int) (w : World) : (convert 3 67 (.int .i64 m)).run Try.prog w = .ok (.int .u64 (IntKind.u64.wrap m)) w := by kernel_rfl
theorem AL22 (w : World) : (Instr.alloc 22 true (.tuple #[])).run Try.prog w = .ok (.pointer (some ⟨w.heap.size, 0, none⟩)) (w.alloc (Blk 22 [.int .u64 0])) := by kernel_rfl
end Go.Proofs.Ytheeheahhnamjaa
