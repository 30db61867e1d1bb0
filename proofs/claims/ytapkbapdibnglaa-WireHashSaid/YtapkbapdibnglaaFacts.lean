/- Closed facts on the tables of this program, written by a program of ours. -/
import Derived.Test.YtapkbapdibnglaaProg
import Derived.Test.YtapkbapdibnglaaMap
set_option maxRecDepth 100000
namespace Go.Proofs.Ytapkbapdibnglaa
open Go.SL
theorem MX : Try.prog.follows .mixedOrders = true := by kernel_rfl
theorem CV3_22 (m : Int) (w : World) : (convert 3 22 (.int .i64 m)).run Try.prog w = .ok (.int .u64 (IntKind.u64.wrap m)) w := by kernel_rfl
theorem AL26 (w : World) : (Instr.alloc 26 true (.tuple #[])).run Try.prog w = .ok (.pointer (some ⟨w.heap.size, 0, none⟩)) (w.alloc (Blk 26 [.slice none 0 0])) := by kernel_rfl
theorem LN24 (ty : Nat) (a : Option Addr) (m c : Nat) (w : World) : (Builtin.len_ #[24] ty #[.slice a m c]).run Try.prog w = .ok (.int .i64 m) w := by kernel_rfl
theorem FA26_0 (b i : Nat) (w : World) : (Instr.fieldAt 26 (.pointer (some ⟨b, i, none⟩)) 0).run Try.prog w = .ok (.pointer (some ⟨b, i, none⟩)) w := by kernel_rfl
theorem CV22_5 (m : Int) (w : World) : (convert 22 5 (.int .u64 m)).run Try.prog w = .ok (.int .u8 (IntKind.u8.wrap m)) w := by kernel_rfl
theorem El24 : El Try.prog 24 5 [.int .u8 0] 1 1 := ⟨Try.underlying24, ⟨Try.t5, by kernel_rfl, ⟨_, rfl, rfl⟩, rfl, rfl⟩, by decide, rfl⟩
theorem BS24_1 (x0 : Int) (w : World) : (Instr.buildSlice 24 1 #[(0, .int .u8 x0)]).run Try.prog w = .ok (.slice (some ⟨w.heap.size, 0, none⟩) 1 1) (w.alloc (Blk 5 [.int .u8 x0])) := by kernel_rfl
theorem LN9 (ty : Nat) (s : ByteArray) (w : World) : (Builtin.len_ #[9] ty #[.string s]).run Try.prog w = .ok (.int .i64 s.size) w := by kernel_rfl
theorem BS24_2 (x0 : Int) (x1 : Int) (w : World) : (Instr.buildSlice 24 2 #[(0, .int .u8 x0), (1, .int .u8 x1)]).run Try.prog w = .ok (.slice (some ⟨w.heap.size, 0, none⟩) 2 2) (w.alloc (Blk 5 [.int .u8 x0, .int .u8 x1])) := by kernel_rfl
theorem BS24_6 (x0 : Int) (x1 : Int) (x2 : Int) (x3 : Int) (x4 : Int) (x5 : Int) (w : World) : (Instr.buildSlice 24 6 #[(0, .int .u8 x0), (1, .int .u8 x1), (2, .int .u8 x2), (3, .int .u8 x3), (4, .int .u8 x4), (5, .int .u8 x5)]).run Try.prog w = .ok (.slice (some ⟨w.heap.size, 0, none⟩) 6 6) (w.alloc (Blk 5 [.int .u8 x0, .int .u8 x1, .int .u8 x2, .int .u8 x3, .int .u8 x4, .int .u8 x5])) := by kernel_rfl
theorem El46 : El Try.prog 46 3 [.int .i64 0] 1 8 := ⟨Try.underlying46, ⟨Try.t3, by kernel_rfl, ⟨_, rfl, rfl⟩, rfl, rfl⟩, by decide, rfl⟩
theorem AL46 (w : World) : (Instr.alloc 46 true (.tuple #[])).run Try.prog w = .ok (.pointer (some ⟨w.heap.size, 0, none⟩)) (w.alloc (Blk 46 [.slice none 0 0])) := by kernel_rfl
theorem CV22_3 (m : Int) (w : World) : (convert 22 3 (.int .u64 m)).run Try.prog w = .ok (.int .i64 (IntKind.i64.wrap m)) w := by kernel_rfl
theorem BS46_1 (x0 : Int) (w : World) : (Instr.buildSlice 46 1 #[(0, .int .i64 x0)]).run Try.prog w = .ok (.slice (some ⟨w.heap.size, 0, none⟩) 1 1) (w.alloc (Blk 3 [.int .i64 x0])) := by kernel_rfl
theorem BS24_0  (w : World) : (Instr.buildSlice 24 0 #[]).run Try.prog w = .ok (.slice (some ⟨w.heap.size, 0, none⟩) 0 0) (w.alloc (Blk 5 [])) := by kernel_rfl
theorem BD52_0 (x0a : Option Addr) (x0n x0c : Nat) (w : World) : (Instr.build 52 #[(0, .slice x0a x0n x0c)]).run Try.prog w = .ok (.agg #[.slice x0a x0n x0c, .int .i64 0, .int .i64 0]) w := by kernel_rfl
theorem FA52_2 (b i : Nat) (w : World) : (Instr.fieldAt 52 (.pointer (some ⟨b, i, none⟩)) 2).run Try.prog w = .ok (.pointer (some ⟨b, i + 2, none⟩)) w := by kernel_rfl
theorem CV5_22 (m : Int) (w : World) : (convert 5 22 (.int .u8 m)).run Try.prog w = .ok (.int .u64 (IntKind.u64.wrap m)) w := by kernel_rfl
theorem CV3_34 (m : Int) (w : World) : (convert 3 34 (.int .i64 m)).run Try.prog w = .ok (.int .u64 (IntKind.u64.wrap m)) w := by kernel_rfl
theorem FA52_1 (b i : Nat) (w : World) : (Instr.fieldAt 52 (.pointer (some ⟨b, i, none⟩)) 1).run Try.prog w = .ok (.pointer (some ⟨b, i + 1, none⟩)) w := by kernel_rfl
theorem FA52_0 (b i : Nat) (w : World) : (Instr.fieldAt 52 (.pointer (some ⟨b, i, none⟩)) 0).run Try.prog w = .ok (.pointer (some ⟨b, i, none⟩)) w := by kernel_rfl
theorem AL22 (w : World) : (Instr.alloc 22 true (.tuple #[])).run Try.prog w = .ok (.pointer (some ⟨w.heap.size, 0, none⟩)) (w.alloc (Blk 22 [.int .u64 0])) := by kernel_rfl
theorem LN46 (ty : Nat) (a : Option Addr) (m c : Nat) (w : World) : (Builtin.len_ #[46] ty #[.slice a m c]).run Try.prog w = .ok (.int .i64 m) w := by kernel_rfl
end Go.Proofs.Ytapkbapdibnglaa
