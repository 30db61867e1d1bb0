/- Closed facts on the tables of this program, written by a program of ours. -/
import Derived.Test.YtgjjdlgbbgijgaaDoorProg
import Derived.Test.YtgjjdlgbbgijgaaDoorMap
set_option maxRecDepth 100000
namespace Go.Proofs.YtgjjdlgbbgijgaaDoor
open Go.SL
theorem MX : Tryd.prog.follows .mixedOrders = true := by kernel_rfl
theorem LN22 (ty : Nat) (a : Option Addr) (m c : Nat) (w : World) : (Builtin.len_ #[22] ty #[.slice a m c]).run Tryd.prog w = .ok (.int .i64 m) w := by kernel_rfl
theorem El22 : El Tryd.prog 22 3 [.int .i64 0] 1 8 := ⟨Tryd.underlying22, ⟨Tryd.t3, by kernel_rfl, ⟨_, rfl, rfl⟩, rfl, rfl⟩, by decide, rfl⟩
theorem AL30 (w : World) : (Instr.alloc 30 true (.tuple #[])).run Tryd.prog w = .ok (.pointer (some ⟨w.heap.size, 0, none⟩)) (w.alloc (Blk 30 [.int .i64 0, .int .i64 0, .int .i64 0, .int .i64 0, .slice none 0 0])) := by kernel_rfl
theorem FA30_0 (b i : Nat) (w : World) : (Instr.fieldAt 30 (.pointer (some ⟨b, i, none⟩)) 0).run Tryd.prog w = .ok (.pointer (some ⟨b, i, none⟩)) w := by kernel_rfl
theorem FA30_1 (b i : Nat) (w : World) : (Instr.fieldAt 30 (.pointer (some ⟨b, i, none⟩)) 1).run Tryd.prog w = .ok (.pointer (some ⟨b, i + 1, none⟩)) w := by kernel_rfl
theorem FA30_2 (b i : Nat) (w : World) : (Instr.fieldAt 30 (.pointer (some ⟨b, i, none⟩)) 2).run Tryd.prog w = .ok (.pointer (some ⟨b, i + 2, none⟩)) w := by kernel_rfl
theorem FA30_3 (b i : Nat) (w : World) : (Instr.fieldAt 30 (.pointer (some ⟨b, i, none⟩)) 3).run Tryd.prog w = .ok (.pointer (some ⟨b, i + 3, none⟩)) w := by kernel_rfl
theorem FA30_4 (b i : Nat) (w : World) : (Instr.fieldAt 30 (.pointer (some ⟨b, i, none⟩)) 4).run Tryd.prog w = .ok (.pointer (some ⟨b, i + 4, none⟩)) w := by kernel_rfl
theorem BD32_0_1_2_3_4 (x0 : Int) (x1 : Int) (x2 : Int) (x3 : Int) (x4a : Option Addr) (x4n x4c : Nat) (w : World) : (Instr.build 32 #[(0, .int .i64 x0), (1, .int .i64 x1), (2, .int .i64 x2), (3, .int .i64 x3), (4, .slice x4a x4n x4c)]).run Tryd.prog w = .ok (.agg #[.int .i64 x0, .int .i64 x1, .int .i64 x2, .int .i64 x3, .slice x4a x4n x4c]) w := by kernel_rfl
theorem AL32 (w : World) : (Instr.alloc 32 true (.tuple #[])).run Tryd.prog w = .ok (.pointer (some ⟨w.heap.size, 0, none⟩)) (w.alloc (Blk 32 [.int .i64 0, .int .i64 0, .int .i64 0, .int .i64 0, .slice none 0 0])) := by kernel_rfl
theorem AL37 (w : World) : (Instr.alloc 37 true (.tuple #[])).run Tryd.prog w = .ok (.pointer (some ⟨w.heap.size, 0, none⟩)) (w.alloc (Blk 37 [.slice none 0 0])) := by kernel_rfl
theorem BD43_0_1_2 (x0 : Int) (x1 : Int) (x2a : Option Addr) (x2n x2c : Nat) (w : World) : (Instr.build 43 #[(0, .int .i64 x0), (1, .int .i64 x1), (2, .slice x2a x2n x2c)]).run Tryd.prog w = .ok (.agg #[.int .i64 x0, .int .i64 x1, .slice x2a x2n x2c]) w := by kernel_rfl
theorem El27 : El Tryd.prog 27 32 [.int .i64 0, .int .i64 0, .int .i64 0, .int .i64 0, .slice none 0 0] 5 56 := ⟨Tryd.underlying27, ⟨Tryd.t32, by kernel_rfl, ⟨_, rfl, rfl⟩, rfl, rfl⟩, by decide, rfl⟩
theorem BS27_1 (x0_0 x0_1 x0_2 x0_3 x0_4 : Value) (w : World) : (Instr.buildSlice 27 1 #[(0, .agg #[x0_0, x0_1, x0_2, x0_3, x0_4])]).run Tryd.prog w = .ok (.slice (some ⟨w.heap.size, 0, none⟩) 1 1) (w.alloc (Blk 32 [x0_0, x0_1, x0_2, x0_3, x0_4])) := by kernel_rfl
theorem AL43 (w : World) : (Instr.alloc 43 true (.tuple #[])).run Tryd.prog w = .ok (.pointer (some ⟨w.heap.size, 0, none⟩)) (w.alloc (Blk 43 [.int .i64 0, .int .i64 0, .slice none 0 0])) := by kernel_rfl
theorem FA43_2 (b i : Nat) (w : World) : (Instr.fieldAt 43 (.pointer (some ⟨b, i, none⟩)) 2).run Tryd.prog w = .ok (.pointer (some ⟨b, i + 2, none⟩)) w := by kernel_rfl
theorem LN27 (ty : Nat) (a : Option Addr) (m c : Nat) (w : World) : (Builtin.len_ #[27] ty #[.slice a m c]).run Tryd.prog w = .ok (.int .i64 m) w := by kernel_rfl
theorem FA43_0 (b i : Nat) (w : World) : (Instr.fieldAt 43 (.pointer (some ⟨b, i, none⟩)) 0).run Tryd.prog w = .ok (.pointer (some ⟨b, i, none⟩)) w := by kernel_rfl
theorem FA43_1 (b i : Nat) (w : World) : (Instr.fieldAt 43 (.pointer (some ⟨b, i, none⟩)) 1).run Tryd.prog w = .ok (.pointer (some ⟨b, i + 1, none⟩)) w := by kernel_rfl
theorem BD59_0 (x0a : Option Addr) (x0n x0c : Nat) (w : World) : (Instr.build 59 #[(0, .slice x0a x0n x0c)]).run Tryd.prog w = .ok (.agg #[.slice x0a x0n x0c, .slice none 0 0]) w := by kernel_rfl
theorem BD30_0_1_4 (x0 : Int) (x1 : Int) (x4a : Option Addr) (x4n x4c : Nat) (w : World) : (Instr.build 30 #[(0, .int .i64 x0), (1, .int .i64 x1), (4, .slice x4a x4n x4c)]).run Tryd.prog w = .ok (.agg #[.int .i64 x0, .int .i64 x1, .int .i64 0, .int .i64 0, .slice x4a x4n x4c]) w := by kernel_rfl
theorem FA32_4 (b i : Nat) (w : World) : (Instr.fieldAt 32 (.pointer (some ⟨b, i, none⟩)) 4).run Tryd.prog w = .ok (.pointer (some ⟨b, i + 4, none⟩)) w := by kernel_rfl
theorem FA32_0 (b i : Nat) (w : World) : (Instr.fieldAt 32 (.pointer (some ⟨b, i, none⟩)) 0).run Tryd.prog w = .ok (.pointer (some ⟨b, i, none⟩)) w := by kernel_rfl
theorem FA32_1 (b i : Nat) (w : World) : (Instr.fieldAt 32 (.pointer (some ⟨b, i, none⟩)) 1).run Tryd.prog w = .ok (.pointer (some ⟨b, i + 1, none⟩)) w := by kernel_rfl
theorem FA32_2 (b i : Nat) (w : World) : (Instr.fieldAt 32 (.pointer (some ⟨b, i, none⟩)) 2).run Tryd.prog w = .ok (.pointer (some ⟨b, i + 2, none⟩)) w := by kernel_rfl
theorem FA32_3 (b i : Nat) (w : World) : (Instr.fieldAt 32 (.pointer (some ⟨b, i, none⟩)) 3).run Tryd.prog w = .ok (.pointer (some ⟨b, i + 3, none⟩)) w := by kernel_rfl
theorem CV3_64 (m : Int) (w : World) : (convert 3 64 (.int .i64 m)).run Tryd.prog w = .ok (.int .u64 (IntKind.u64.wrap m)) w := by kernel_rfl
theorem LN33 (ty : Nat) (a : Option Addr) (m c : Nat) (w : World) : (Builtin.len_ #[33] ty #[.slice a m c]).run Tryd.prog w = .ok (.int .i64 m) w := by kernel_rfl
theorem FA37_0 (b i : Nat) (w : World) : (Instr.fieldAt 37 (.pointer (some ⟨b, i, none⟩)) 0).run Tryd.prog w = .ok (.pointer (some ⟨b, i, none⟩)) w := by kernel_rfl
theorem El33 : El Tryd.prog 33 5 [.int .u8 0] 1 1 := ⟨Tryd.underlying33, ⟨Tryd.t5, by kernel_rfl, ⟨_, rfl, rfl⟩, rfl, rfl⟩, by decide, rfl⟩
theorem FA59_0 (b i : Nat) (w : World) : (Instr.fieldAt 59 (.pointer (some ⟨b, i, none⟩)) 0).run Tryd.prog w = .ok (.pointer (some ⟨b, i, none⟩)) w := by kernel_rfl
theorem FA59_1 (b i : Nat) (w : World) : (Instr.fieldAt 59 (.pointer (some ⟨b, i, none⟩)) 1).run Tryd.prog w = .ok (.pointer (some ⟨b, i + 1, none⟩)) w := by kernel_rfl
theorem LN57 (ty : Nat) (a : Option Addr) (m c : Nat) (w : World) : (Builtin.len_ #[57] ty #[.slice a m c]).run Tryd.prog w = .ok (.int .i64 m) w := by kernel_rfl
theorem El57 : El Tryd.prog 57 43 [.int .i64 0, .int .i64 0, .slice none 0 0] 3 40 := ⟨Tryd.underlying57, ⟨Tryd.t43, by kernel_rfl, ⟨_, rfl, rfl⟩, rfl, rfl⟩, by decide, rfl⟩
theorem BS57_1 (x0_0 x0_1 x0_2 : Value) (w : World) : (Instr.buildSlice 57 1 #[(0, .agg #[x0_0, x0_1, x0_2])]).run Tryd.prog w = .ok (.slice (some ⟨w.heap.size, 0, none⟩) 1 1) (w.alloc (Blk 43 [x0_0, x0_1, x0_2])) := by kernel_rfl
theorem BD43_  (w : World) : (Instr.build 43 #[]).run Tryd.prog w = .ok (.agg #[.int .i64 0, .int .i64 0, .slice none 0 0]) w := by kernel_rfl
theorem BD74_0 (x0a : Option Addr) (x0n x0c : Nat) (w : World) : (Instr.build 74 #[(0, .slice x0a x0n x0c)]).run Tryd.prog w = .ok (.agg #[.slice x0a x0n x0c, .int .i64 0, .int .i64 0]) w := by kernel_rfl
theorem CV64_3 (m : Int) (w : World) : (convert 64 3 (.int .u64 m)).run Tryd.prog w = .ok (.int .i64 (IntKind.i64.wrap m)) w := by kernel_rfl
theorem BD32_  (w : World) : (Instr.build 32 #[]).run Tryd.prog w = .ok (.agg #[.int .i64 0, .int .i64 0, .int .i64 0, .int .i64 0, .slice none 0 0]) w := by kernel_rfl
theorem BD32_0_1_2_3 (x0 : Int) (x1 : Int) (x2 : Int) (x3 : Int) (w : World) : (Instr.build 32 #[(0, .int .i64 x0), (1, .int .i64 x1), (2, .int .i64 x2), (3, .int .i64 x3)]).run Tryd.prog w = .ok (.agg #[.int .i64 x0, .int .i64 x1, .int .i64 x2, .int .i64 x3, .slice none 0 0]) w := by kernel_rfl
theorem FA74_2 (b i : Nat) (w : World) : (Instr.fieldAt 74 (.pointer (some ⟨b, i, none⟩)) 2).run Tryd.prog w = .ok (.pointer (some ⟨b, i + 2, none⟩)) w := by kernel_rfl
theorem FA74_1 (b i : Nat) (w : World) : (Instr.fieldAt 74 (.pointer (some ⟨b, i, none⟩)) 1).run Tryd.prog w = .ok (.pointer (some ⟨b, i + 1, none⟩)) w := by kernel_rfl
theorem FA74_0 (b i : Nat) (w : World) : (Instr.fieldAt 74 (.pointer (some ⟨b, i, none⟩)) 0).run Tryd.prog w = .ok (.pointer (some ⟨b, i, none⟩)) w := by kernel_rfl
theorem BS33_1 (x0 : Int) (w : World) : (Instr.buildSlice 33 1 #[(0, .int .u8 x0)]).run Tryd.prog w = .ok (.slice (some ⟨w.heap.size, 0, none⟩) 1 1) (w.alloc (Blk 5 [.int .u8 x0])) := by kernel_rfl
theorem BD43_1_2 (x1 : Int) (x2a : Option Addr) (x2n x2c : Nat) (w : World) : (Instr.build 43 #[(1, .int .i64 x1), (2, .slice x2a x2n x2c)]).run Tryd.prog w = .ok (.agg #[.int .i64 0, .int .i64 x1, .slice x2a x2n x2c]) w := by kernel_rfl
theorem BD43_0_2 (x0 : Int) (x2a : Option Addr) (x2n x2c : Nat) (w : World) : (Instr.build 43 #[(0, .int .i64 x0), (2, .slice x2a x2n x2c)]).run Tryd.prog w = .ok (.agg #[.int .i64 x0, .int .i64 0, .slice x2a x2n x2c]) w := by kernel_rfl
theorem BS22_2 (x0 : Int) (x1 : Int) (w : World) : (Instr.buildSlice 22 2 #[(0, .int .i64 x0), (1, .int .i64 x1)]).run Tryd.prog w = .ok (.slice (some ⟨w.heap.size, 0, none⟩) 2 2) (w.alloc (Blk 3 [.int .i64 x0, .int .i64 x1])) := by kernel_rfl
theorem BD82_  (w : World) : (Instr.build 82 #[]).run Tryd.prog w = .ok (.agg #[.int .i64 0, .int .i64 0, .int .i64 0, .int .i64 0]) w := by kernel_rfl
theorem AL82 (w : World) : (Instr.alloc 82 true (.tuple #[])).run Tryd.prog w = .ok (.pointer (some ⟨w.heap.size, 0, none⟩)) (w.alloc (Blk 82 [.int .i64 0, .int .i64 0, .int .i64 0, .int .i64 0])) := by kernel_rfl
theorem LN28 (ty : Nat) (a : Option Addr) (m c : Nat) (w : World) : (Builtin.len_ #[28] ty #[.slice a m c]).run Tryd.prog w = .ok (.int .i64 m) w := by kernel_rfl
theorem BD82_0_1_2_3 (x0 : Int) (x1 : Int) (x2 : Int) (x3 : Int) (w : World) : (Instr.build 82 #[(0, .int .i64 x0), (1, .int .i64 x1), (2, .int .i64 x2), (3, .int .i64 x3)]).run Tryd.prog w = .ok (.agg #[.int .i64 x0, .int .i64 x1, .int .i64 x2, .int .i64 x3]) w := by kernel_rfl
theorem FA82_0 (b i : Nat) (w : World) : (Instr.fieldAt 82 (.pointer (some ⟨b, i, none⟩)) 0).run Tryd.prog w = .ok (.pointer (some ⟨b, i, none⟩)) w := by kernel_rfl
theorem FA82_1 (b i : Nat) (w : World) : (Instr.fieldAt 82 (.pointer (some ⟨b, i, none⟩)) 1).run Tryd.prog w = .ok (.pointer (some ⟨b, i + 1, none⟩)) w := by kernel_rfl
theorem FA82_2 (b i : Nat) (w : World) : (Instr.fieldAt 82 (.pointer (some ⟨b, i, none⟩)) 2).run Tryd.prog w = .ok (.pointer (some ⟨b, i + 2, none⟩)) w := by kernel_rfl
theorem FA82_3 (b i : Nat) (w : World) : (Instr.fieldAt 82 (.pointer (some ⟨b, i, none⟩)) 3).run Tryd.prog w = .ok (.pointer (some ⟨b, i + 3, none⟩)) w := by kernel_rfl
theorem El28 : El Tryd.prog 28 82 [.int .i64 0, .int .i64 0, .int .i64 0, .int .i64 0] 4 32 := ⟨Tryd.underlying28, ⟨Tryd.t82, by kernel_rfl, ⟨_, rfl, rfl⟩, rfl, rfl⟩, by decide, rfl⟩
theorem BS28_1 (x0_0 x0_1 x0_2 x0_3 : Value) (w : World) : (Instr.buildSlice 28 1 #[(0, .agg #[x0_0, x0_1, x0_2, x0_3])]).run Tryd.prog w = .ok (.slice (some ⟨w.heap.size, 0, none⟩) 1 1) (w.alloc (Blk 82 [x0_0, x0_1, x0_2, x0_3])) := by kernel_rfl
theorem AL88 (w : World) : (Instr.alloc 88 true (.tuple #[])).run Tryd.prog w = .ok (.pointer (some ⟨w.heap.size, 0, none⟩)) (w.alloc (Blk 88 [.slice none 0 0, .int .i64 0])) := by kernel_rfl
theorem CV64_5 (m : Int) (w : World) : (convert 64 5 (.int .u64 m)).run Tryd.prog w = .ok (.int .u8 (IntKind.u8.wrap m)) w := by kernel_rfl
theorem BS33_0  (w : World) : (Instr.buildSlice 33 0 #[]).run Tryd.prog w = .ok (.slice (some ⟨w.heap.size, 0, none⟩) 0 0) (w.alloc (Blk 5 [])) := by kernel_rfl
theorem CV5_64 (m : Int) (w : World) : (convert 5 64 (.int .u8 m)).run Tryd.prog w = .ok (.int .u64 (IntKind.u64.wrap m)) w := by kernel_rfl
theorem CV3_67 (m : Int) (w : World) : (convert 3 67 (.int .i64 m)).run Tryd.prog w = .ok (.int .u64 (IntKind.u64.wrap m)) w := by kernel_rfl
theorem AL96 (w : World) : (Instr.alloc 96 true (.tuple #[])).run Tryd.prog w = .ok (.pointer (some ⟨w.heap.size, 0, none⟩)) (w.alloc (Blk 96 [.int .i64 0, .int .i64 0, .int .i64 0, .int .i64 0])) := by kernel_rfl
theorem EG82 : Tryd.prog.eqGuardType Tryd.prog.depth 82 = false := by kernel_rfl
theorem SE82 (x0 y0 : Int) (x1 y1 : Int) (x2 y2 : Int) (x3 y3 : Int) (w : World) : (Op.equalIn 10000 82 (.agg #[.int .i64 x0, .int .i64 x1, .int .i64 x2, .int .i64 x3]) (.agg #[.int .i64 y0, .int .i64 y1, .int .i64 y2, .int .i64 y3])).run Tryd.prog w = .ok (decide (x0 = y0 ∧ x1 = y1 ∧ x2 = y2 ∧ x3 = y3)) w := by
  have hfl : (Tryd.prog.fieldsOf 82).toList = [{ name := "From", type := 3, offset := 0, embedded := false, tag := "", pkgPath := "", byteOffset := 0 }, { name := "To", type := 3, offset := 1, embedded := false, tag := "", pkgPath := "", byteOffset := 8 }, { name := "Lo", type := 3, offset := 2, embedded := false, tag := "", pkgPath := "", byteOffset := 16 }, { name := "Hi", type := 3, offset := 3, embedded := false, tag := "", pkgPath := "", byteOffset := 24 }] := by kernel_rfl
  rw [show (10000 : Nat) = 9999 + 1 from rfl, run_equalIn_struct w 9999 82 _ _ (by kernel_rfl) (by kernel_rfl), hfl, show (9999 : Nat) = 9998 + 1 from rfl, (eqF_cons (a := .int .i64 x0) (b := .int .i64 y0) (by decide) (fun w => by kernel_rfl) (fun w => by kernel_rfl) (fun w => run_equalIn_int w 9998 3 .i64 .i64 x0 y0 Tryd.underlying3) (fun w => (eqF_cons (a := .int .i64 x1) (b := .int .i64 y1) (by decide) (fun w => by kernel_rfl) (fun w => by kernel_rfl) (fun w => run_equalIn_int w 9998 3 .i64 .i64 x1 y1 Tryd.underlying3) (fun w => (eqF_cons (a := .int .i64 x2) (b := .int .i64 y2) (by decide) (fun w => by kernel_rfl) (fun w => by kernel_rfl) (fun w => run_equalIn_int w 9998 3 .i64 .i64 x2 y2 Tryd.underlying3) (fun w => (eqF_cons (a := .int .i64 x3) (b := .int .i64 y3) (by decide) (fun w => by kernel_rfl) (fun w => by kernel_rfl) (fun w => run_equalIn_int w 9998 3 .i64 .i64 x3 y3 Tryd.underlying3) (fun w => eqF_nil))))))))]
  congr 1; rw [Bool.eq_iff_iff]; simp [beqL]
theorem BS22_4 (x0 : Int) (x1 : Int) (x2 : Int) (x3 : Int) (w : World) : (Instr.buildSlice 22 4 #[(0, .int .i64 x0), (1, .int .i64 x1), (2, .int .i64 x2), (3, .int .i64 x3)]).run Tryd.prog w = .ok (.slice (some ⟨w.heap.size, 0, none⟩) 4 4) (w.alloc (Blk 3 [.int .i64 x0, .int .i64 x1, .int .i64 x2, .int .i64 x3])) := by kernel_rfl
theorem BD96_0_1_2_3 (x0 : Int) (x1 : Int) (x2 : Int) (x3 : Int) (w : World) : (Instr.build 96 #[(0, .int .i64 x0), (1, .int .i64 x1), (2, .int .i64 x2), (3, .int .i64 x3)]).run Tryd.prog w = .ok (.agg #[.int .i64 x0, .int .i64 x1, .int .i64 x2, .int .i64 x3]) w := by kernel_rfl
theorem FA88_0 (b i : Nat) (w : World) : (Instr.fieldAt 88 (.pointer (some ⟨b, i, none⟩)) 0).run Tryd.prog w = .ok (.pointer (some ⟨b, i, none⟩)) w := by kernel_rfl
theorem AL22 (w : World) : (Instr.alloc 22 true (.tuple #[])).run Tryd.prog w = .ok (.pointer (some ⟨w.heap.size, 0, none⟩)) (w.alloc (Blk 22 [.slice none 0 0])) := by kernel_rfl
theorem BS22_1 (x0 : Int) (w : World) : (Instr.buildSlice 22 1 #[(0, .int .i64 x0)]).run Tryd.prog w = .ok (.slice (some ⟨w.heap.size, 0, none⟩) 1 1) (w.alloc (Blk 3 [.int .i64 x0])) := by kernel_rfl
theorem BD105_0 (x0a : Option Addr) (x0n x0c : Nat) (w : World) : (Instr.build 105 #[(0, .slice x0a x0n x0c)]).run Tryd.prog w = .ok (.agg #[.slice x0a x0n x0c, .int .i64 0, .int .i64 0]) w := by kernel_rfl
theorem FA105_2 (b i : Nat) (w : World) : (Instr.fieldAt 105 (.pointer (some ⟨b, i, none⟩)) 2).run Tryd.prog w = .ok (.pointer (some ⟨b, i + 2, none⟩)) w := by kernel_rfl
theorem FA105_1 (b i : Nat) (w : World) : (Instr.fieldAt 105 (.pointer (some ⟨b, i, none⟩)) 1).run Tryd.prog w = .ok (.pointer (some ⟨b, i + 1, none⟩)) w := by kernel_rfl
theorem AL64 (w : World) : (Instr.alloc 64 true (.tuple #[])).run Tryd.prog w = .ok (.pointer (some ⟨w.heap.size, 0, none⟩)) (w.alloc (Blk 64 [.int .u64 0])) := by kernel_rfl
theorem LN9 (ty : Nat) (s : ByteArray) (w : World) : (Builtin.len_ #[9] ty #[.string s]).run Tryd.prog w = .ok (.int .i64 s.size) w := by kernel_rfl
theorem FA105_0 (b i : Nat) (w : World) : (Instr.fieldAt 105 (.pointer (some ⟨b, i, none⟩)) 0).run Tryd.prog w = .ok (.pointer (some ⟨b, i, none⟩)) w := by kernel_rfl
theorem FA88_1 (b i : Nat) (w : World) : (Instr.fieldAt 88 (.pointer (some ⟨b, i, none⟩)) 1).run Tryd.prog w = .ok (.pointer (some ⟨b, i + 1, none⟩)) w := by kernel_rfl
end Go.Proofs.YtgjjdlgbbgijgaaDoor
