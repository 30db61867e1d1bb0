/- Closed facts on the tables of this program, written by a program of ours. -/
import Derived.Test.YtnepohadpdkfcaaProg
import Derived.Test.YtnepohadpdkfcaaMap
set_option maxRecDepth 100000
namespace Go.Proofs.Ytnepohadpdkfcaa
open Go.SL
theorem MX : Try.prog.follows .mixedOrders = true := by kernel_rfl
theorem El27 : El Try.prog 27 23 [.slice none 0 0] 1 24 := ⟨Try.underlying27, ⟨Try.t23, by kernel_rfl, ⟨_, rfl, rfl⟩, rfl, rfl⟩, by decide, rfl⟩
theorem BS27_1 (x0a : Option Addr) (x0n x0c : Nat) (w : World) : (Instr.buildSlice 27 1 #[(0, .slice x0a x0n x0c)]).run Try.prog w = .ok (.slice (some ⟨w.heap.size, 0, none⟩) 1 1) (w.alloc (Blk 23 [.slice x0a x0n x0c])) := by kernel_rfl
theorem LN27 (ty : Nat) (a : Option Addr) (m c : Nat) (w : World) : (Builtin.len_ #[27] ty #[.slice a m c]).run Try.prog w = .ok (.int .i64 m) w := by kernel_rfl
theorem El23 : El Try.prog 23 5 [.int .u8 0] 1 1 := ⟨Try.underlying23, ⟨Try.t5, by kernel_rfl, ⟨_, rfl, rfl⟩, rfl, rfl⟩, by decide, rfl⟩
theorem LN23 (ty : Nat) (a : Option Addr) (m c : Nat) (w : World) : (Builtin.len_ #[23] ty #[.slice a m c]).run Try.prog w = .ok (.int .i64 m) w := by kernel_rfl
theorem BS27_3 (x0a : Option Addr) (x0n x0c : Nat) (x1a : Option Addr) (x1n x1c : Nat) (x2a : Option Addr) (x2n x2c : Nat) (w : World) : (Instr.buildSlice 27 3 #[(0, .slice x0a x0n x0c), (1, .slice x1a x1n x1c), (2, .slice x2a x2n x2c)]).run Try.prog w = .ok (.slice (some ⟨w.heap.size, 0, none⟩) 3 3) (w.alloc (Blk 23 [.slice x0a x0n x0c, .slice x1a x1n x1c, .slice x2a x2n x2c])) := by kernel_rfl
theorem AL37 (w : World) : (Instr.alloc 37 true (.tuple #[])).run Try.prog w = .ok (.pointer (some ⟨w.heap.size, 0, none⟩)) (w.alloc (Blk 37 [.slice none 0 0])) := by kernel_rfl
theorem CV3_42 (m : Int) (w : World) : (convert 3 42 (.int .i64 m)).run Try.prog w = .ok (.int .u64 (IntKind.u64.wrap m)) w := by kernel_rfl
theorem CV3_43 (m : Int) (w : World) : (convert 3 43 (.int .i64 m)).run Try.prog w = .ok (.int .u64 (IntKind.u64.wrap m)) w := by kernel_rfl
theorem LN22 (ty : Nat) (a : Option Addr) (m c : Nat) (w : World) : (Builtin.len_ #[22] ty #[.slice a m c]).run Try.prog w = .ok (.int .i64 m) w := by kernel_rfl
theorem El22 : El Try.prog 22 3 [.int .i64 0] 1 8 := ⟨Try.underlying22, ⟨Try.t3, by kernel_rfl, ⟨_, rfl, rfl⟩, rfl, rfl⟩, by decide, rfl⟩
theorem CV3_5 (m : Int) (w : World) : (convert 3 5 (.int .i64 m)).run Try.prog w = .ok (.int .u8 (IntKind.u8.wrap m)) w := by kernel_rfl
theorem BS23_1 (x0 : Int) (w : World) : (Instr.buildSlice 23 1 #[(0, .int .u8 x0)]).run Try.prog w = .ok (.slice (some ⟨w.heap.size, 0, none⟩) 1 1) (w.alloc (Blk 5 [.int .u8 x0])) := by kernel_rfl
theorem AL27 (w : World) : (Instr.alloc 27 true (.tuple #[])).run Try.prog w = .ok (.pointer (some ⟨w.heap.size, 0, none⟩)) (w.alloc (Blk 27 [.slice none 0 0])) := by kernel_rfl
theorem AL3 (w : World) : (Instr.alloc 3 true (.tuple #[])).run Try.prog w = .ok (.pointer (some ⟨w.heap.size, 0, none⟩)) (w.alloc (Blk 3 [.int .i64 0])) := by kernel_rfl
theorem BS23_3 (x0 : Int) (x1 : Int) (x2 : Int) (w : World) : (Instr.buildSlice 23 3 #[(0, .int .u8 x0), (1, .int .u8 x1), (2, .int .u8 x2)]).run Try.prog w = .ok (.slice (some ⟨w.heap.size, 0, none⟩) 3 3) (w.alloc (Blk 5 [.int .u8 x0, .int .u8 x1, .int .u8 x2])) := by kernel_rfl
theorem FA37_0 (b i : Nat) (w : World) : (Instr.fieldAt 37 (.pointer (some ⟨b, i, none⟩)) 0).run Try.prog w = .ok (.pointer (some ⟨b, i, none⟩)) w := by kernel_rfl
theorem CV42_5 (m : Int) (w : World) : (convert 42 5 (.int .u64 m)).run Try.prog w = .ok (.int .u8 (IntKind.u8.wrap m)) w := by kernel_rfl
theorem BD60_0 (x0a : Option Addr) (x0n x0c : Nat) (w : World) : (Instr.build 60 #[(0, .slice x0a x0n x0c)]).run Try.prog w = .ok (.agg #[.slice x0a x0n x0c, .int .i64 0, .int .i64 0]) w := by kernel_rfl
theorem FA60_2 (b i : Nat) (w : World) : (Instr.fieldAt 60 (.pointer (some ⟨b, i, none⟩)) 2).run Try.prog w = .ok (.pointer (some ⟨b, i + 2, none⟩)) w := by kernel_rfl
theorem CV5_42 (m : Int) (w : World) : (convert 5 42 (.int .u8 m)).run Try.prog w = .ok (.int .u64 (IntKind.u64.wrap m)) w := by kernel_rfl
theorem FA60_1 (b i : Nat) (w : World) : (Instr.fieldAt 60 (.pointer (some ⟨b, i, none⟩)) 1).run Try.prog w = .ok (.pointer (some ⟨b, i + 1, none⟩)) w := by kernel_rfl
theorem FA60_0 (b i : Nat) (w : World) : (Instr.fieldAt 60 (.pointer (some ⟨b, i, none⟩)) 0).run Try.prog w = .ok (.pointer (some ⟨b, i, none⟩)) w := by kernel_rfl
theorem AL22 (w : World) : (Instr.alloc 22 true (.tuple #[])).run Try.prog w = .ok (.pointer (some ⟨w.heap.size, 0, none⟩)) (w.alloc (Blk 22 [.slice none 0 0])) := by kernel_rfl
theorem CV42_3 (m : Int) (w : World) : (convert 42 3 (.int .u64 m)).run Try.prog w = .ok (.int .i64 (IntKind.i64.wrap m)) w := by kernel_rfl
theorem BS22_1 (x0 : Int) (w : World) : (Instr.buildSlice 22 1 #[(0, .int .i64 x0)]).run Try.prog w = .ok (.slice (some ⟨w.heap.size, 0, none⟩) 1 1) (w.alloc (Blk 3 [.int .i64 x0])) := by kernel_rfl
theorem LN68 (ty : Nat) (a : Option Addr) (m c : Nat) (w : World) : (Builtin.len_ #[68] ty #[.slice a m c]).run Try.prog w = .ok (.int .i64 m) w := by kernel_rfl
theorem El68 : El Try.prog 68 42 [.int .u64 0] 1 8 := ⟨Try.underlying68, ⟨Try.t42, by kernel_rfl, ⟨_, rfl, rfl⟩, rfl, rfl⟩, by decide, rfl⟩
theorem BD74_0 (x0a : Option Addr) (x0n x0c : Nat) (w : World) : (Instr.build 74 #[(0, .slice x0a x0n x0c)]).run Try.prog w = .ok (.agg #[.slice x0a x0n x0c, .int .i64 0]) w := by kernel_rfl
theorem FA74_1 (b i : Nat) (w : World) : (Instr.fieldAt 74 (.pointer (some ⟨b, i, none⟩)) 1).run Try.prog w = .ok (.pointer (some ⟨b, i + 1, none⟩)) w := by kernel_rfl
theorem BS23_0  (w : World) : (Instr.buildSlice 23 0 #[]).run Try.prog w = .ok (.slice (some ⟨w.heap.size, 0, none⟩) 0 0) (w.alloc (Blk 5 [])) := by kernel_rfl
theorem AL42 (w : World) : (Instr.alloc 42 true (.tuple #[])).run Try.prog w = .ok (.pointer (some ⟨w.heap.size, 0, none⟩)) (w.alloc (Blk 42 [.int .u64 0])) := by kernel_rfl
theorem LN9 (ty : Nat) (s : ByteArray) (w : World) : (Builtin.len_ #[9] ty #[.string s]).run Try.prog w = .ok (.int .i64 s.size) w := by kernel_rfl
theorem BS68_1 (x0 : Int) (w : World) : (Instr.buildSlice 68 1 #[(0, .int .u64 x0)]).run Try.prog w = .ok (.slice (some ⟨w.heap.size, 0, none⟩) 1 1) (w.alloc (Blk 42 [.int .u64 x0])) := by kernel_rfl
theorem FA74_0 (b i : Nat) (w : World) : (Instr.fieldAt 74 (.pointer (some ⟨b, i, none⟩)) 0).run Try.prog w = .ok (.pointer (some ⟨b, i, none⟩)) w := by kernel_rfl
end Go.Proofs.Ytnepohadpdkfcaa
