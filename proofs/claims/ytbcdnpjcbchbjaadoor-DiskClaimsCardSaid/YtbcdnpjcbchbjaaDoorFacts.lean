/- Closed facts on the tables of this program, written by a program of ours. -/
import Derived.Test.YtbcdnpjcbchbjaaDoorProg
import Derived.Test.YtbcdnpjcbchbjaaDoorMap
set_option maxRecDepth 100000
namespace Go.Proofs.YtbcdnpjcbchbjaaDoor
open Go.SL
theorem MX : Tryd.prog.follows .mixedOrders = true := by kernel_rfl
theorem AL33 (w : World) : (Instr.alloc 33 true (.tuple #[])).run Tryd.prog w = .ok (.pointer (some ⟨w.heap.size, 0, none⟩)) (w.alloc (Blk 33 [.slice none 0 0])) := by kernel_rfl
theorem LN27 (ty : Nat) (a : Option Addr) (m c : Nat) (w : World) : (Builtin.len_ #[27] ty #[.slice a m c]).run Tryd.prog w = .ok (.int .i64 m) w := by kernel_rfl
theorem LN29 (ty : Nat) (a : Option Addr) (m c : Nat) (w : World) : (Builtin.len_ #[29] ty #[.slice a m c]).run Tryd.prog w = .ok (.int .i64 m) w := by kernel_rfl
theorem El29 : El Tryd.prog 29 5 [.int .u8 0] 1 1 := ⟨Tryd.underlying29, ⟨Tryd.t5, by kernel_rfl, ⟨_, rfl, rfl⟩, rfl, rfl⟩, by decide, rfl⟩
theorem BS29_3 (x0 : Int) (x1 : Int) (x2 : Int) (w : World) : (Instr.buildSlice 29 3 #[(0, .int .u8 x0), (1, .int .u8 x1), (2, .int .u8 x2)]).run Tryd.prog w = .ok (.slice (some ⟨w.heap.size, 0, none⟩) 3 3) (w.alloc (Blk 5 [.int .u8 x0, .int .u8 x1, .int .u8 x2])) := by kernel_rfl
theorem BS29_1 (x0 : Int) (w : World) : (Instr.buildSlice 29 1 #[(0, .int .u8 x0)]).run Tryd.prog w = .ok (.slice (some ⟨w.heap.size, 0, none⟩) 1 1) (w.alloc (Blk 5 [.int .u8 x0])) := by kernel_rfl
theorem BD53_0_2 (x0 : Int) (x2 : Option Nat) (w : World) : (Instr.build 53 #[(0, .int .i64 x0), (2, .map x2)]).run Tryd.prog w = .ok (.agg #[.int .i64 x0, .int .i64 0, .map x2, .bool false, .bool false, .int .i64 0]) w := by kernel_rfl
theorem BD55_  (w : World) : (Instr.build 55 #[]).run Tryd.prog w = .ok (.agg #[.int .i64 0, .int .i64 0, .int .i64 0, .int .i64 0]) w := by kernel_rfl
theorem AL55 (w : World) : (Instr.alloc 55 true (.tuple #[])).run Tryd.prog w = .ok (.pointer (some ⟨w.heap.size, 0, none⟩)) (w.alloc (Blk 55 [.int .i64 0, .int .i64 0, .int .i64 0, .int .i64 0])) := by kernel_rfl
theorem LN22 (ty : Nat) (a : Option Addr) (m c : Nat) (w : World) : (Builtin.len_ #[22] ty #[.slice a m c]).run Tryd.prog w = .ok (.int .i64 m) w := by kernel_rfl
theorem El22 : El Tryd.prog 22 3 [.int .i64 0] 1 8 := ⟨Tryd.underlying22, ⟨Tryd.t3, by kernel_rfl, ⟨_, rfl, rfl⟩, rfl, rfl⟩, by decide, rfl⟩
theorem CV3_56 (m : Int) (w : World) : (convert 3 56 (.int .i64 m)).run Tryd.prog w = .ok (.int .u64 (IntKind.u64.wrap m)) w := by kernel_rfl
theorem BD55_0_1_2_3 (x0 : Int) (x1 : Int) (x2 : Int) (x3 : Int) (w : World) : (Instr.build 55 #[(0, .int .i64 x0), (1, .int .i64 x1), (2, .int .i64 x2), (3, .int .i64 x3)]).run Tryd.prog w = .ok (.agg #[.int .i64 x0, .int .i64 x1, .int .i64 x2, .int .i64 x3]) w := by kernel_rfl
theorem FA55_0 (b i : Nat) (w : World) : (Instr.fieldAt 55 (.pointer (some ⟨b, i, none⟩)) 0).run Tryd.prog w = .ok (.pointer (some ⟨b, i, none⟩)) w := by kernel_rfl
theorem FA55_1 (b i : Nat) (w : World) : (Instr.fieldAt 55 (.pointer (some ⟨b, i, none⟩)) 1).run Tryd.prog w = .ok (.pointer (some ⟨b, i + 1, none⟩)) w := by kernel_rfl
theorem FA55_2 (b i : Nat) (w : World) : (Instr.fieldAt 55 (.pointer (some ⟨b, i, none⟩)) 2).run Tryd.prog w = .ok (.pointer (some ⟨b, i + 2, none⟩)) w := by kernel_rfl
theorem FA55_3 (b i : Nat) (w : World) : (Instr.fieldAt 55 (.pointer (some ⟨b, i, none⟩)) 3).run Tryd.prog w = .ok (.pointer (some ⟨b, i + 3, none⟩)) w := by kernel_rfl
theorem El27 : El Tryd.prog 27 55 [.int .i64 0, .int .i64 0, .int .i64 0, .int .i64 0] 4 32 := ⟨Tryd.underlying27, ⟨Tryd.t55, by kernel_rfl, ⟨_, rfl, rfl⟩, rfl, rfl⟩, by decide, rfl⟩
theorem BS27_1 (x0_0 x0_1 x0_2 x0_3 : Value) (w : World) : (Instr.buildSlice 27 1 #[(0, .agg #[x0_0, x0_1, x0_2, x0_3])]).run Tryd.prog w = .ok (.slice (some ⟨w.heap.size, 0, none⟩) 1 1) (w.alloc (Blk 55 [x0_0, x0_1, x0_2, x0_3])) := by kernel_rfl
theorem AL59 (w : World) : (Instr.alloc 59 true (.tuple #[])).run Tryd.prog w = .ok (.pointer (some ⟨w.heap.size, 0, none⟩)) (w.alloc (Blk 59 [.slice none 0 0, .int .i64 0])) := by kernel_rfl
theorem FA33_0 (b i : Nat) (w : World) : (Instr.fieldAt 33 (.pointer (some ⟨b, i, none⟩)) 0).run Tryd.prog w = .ok (.pointer (some ⟨b, i, none⟩)) w := by kernel_rfl
theorem FA53_3 (b i : Nat) (w : World) : (Instr.fieldAt 53 (.pointer (some ⟨b, i, none⟩)) 3).run Tryd.prog w = .ok (.pointer (some ⟨b, i + 3, none⟩)) w := by kernel_rfl
theorem FA53_0 (b i : Nat) (w : World) : (Instr.fieldAt 53 (.pointer (some ⟨b, i, none⟩)) 0).run Tryd.prog w = .ok (.pointer (some ⟨b, i, none⟩)) w := by kernel_rfl
theorem FA53_1 (b i : Nat) (w : World) : (Instr.fieldAt 53 (.pointer (some ⟨b, i, none⟩)) 1).run Tryd.prog w = .ok (.pointer (some ⟨b, i + 1, none⟩)) w := by kernel_rfl
theorem FA53_2 (b i : Nat) (w : World) : (Instr.fieldAt 53 (.pointer (some ⟨b, i, none⟩)) 2).run Tryd.prog w = .ok (.pointer (some ⟨b, i + 2, none⟩)) w := by kernel_rfl
theorem ZV67 (w : World) : (zeroValue 67).run Tryd.prog w = .ok (.agg #[.slice none 0 0, .int .i64 0]) w := by kernel_rfl
theorem AL67 (w : World) : (Instr.alloc 67 true (.tuple #[])).run Tryd.prog w = .ok (.pointer (some ⟨w.heap.size, 0, none⟩)) (w.alloc (Blk 67 [.slice none 0 0, .int .i64 0])) := by kernel_rfl
theorem FA67_0 (b i : Nat) (w : World) : (Instr.fieldAt 67 (.pointer (some ⟨b, i, none⟩)) 0).run Tryd.prog w = .ok (.pointer (some ⟨b, i, none⟩)) w := by kernel_rfl
theorem FA67_1 (b i : Nat) (w : World) : (Instr.fieldAt 67 (.pointer (some ⟨b, i, none⟩)) 1).run Tryd.prog w = .ok (.pointer (some ⟨b, i + 1, none⟩)) w := by kernel_rfl
theorem BD67_0_1 (x0a : Option Addr) (x0n x0c : Nat) (x1 : Int) (w : World) : (Instr.build 67 #[(0, .slice x0a x0n x0c), (1, .int .i64 x1)]).run Tryd.prog w = .ok (.agg #[.slice x0a x0n x0c, .int .i64 x1]) w := by kernel_rfl
theorem FA53_4 (b i : Nat) (w : World) : (Instr.fieldAt 53 (.pointer (some ⟨b, i, none⟩)) 4).run Tryd.prog w = .ok (.pointer (some ⟨b, i + 4, none⟩)) w := by kernel_rfl
theorem FD67_0 (x0 x1 : Value) (w : World) : (Instr.field 67 (.agg #[x0, x1]) 0).run Tryd.prog w = .ok (x0) w := by kernel_rfl
theorem BD71_0 (x0a : Option Addr) (x0n x0c : Nat) (w : World) : (Instr.build 71 #[(0, .slice x0a x0n x0c)]).run Tryd.prog w = .ok (.agg #[.slice x0a x0n x0c, .int .i64 0, .int .i64 0]) w := by kernel_rfl
theorem AL76 (w : World) : (Instr.alloc 76 true (.tuple #[])).run Tryd.prog w = .ok (.pointer (some ⟨w.heap.size, 0, none⟩)) (w.alloc (Blk 76 [.int .i64 0, .int .i64 0, .int .i64 0, .int .i64 0])) := by kernel_rfl
theorem CV56_3 (m : Int) (w : World) : (convert 56 3 (.int .u64 m)).run Tryd.prog w = .ok (.int .i64 (IntKind.i64.wrap m)) w := by kernel_rfl
theorem FA71_2 (b i : Nat) (w : World) : (Instr.fieldAt 71 (.pointer (some ⟨b, i, none⟩)) 2).run Tryd.prog w = .ok (.pointer (some ⟨b, i + 2, none⟩)) w := by kernel_rfl
theorem FA71_1 (b i : Nat) (w : World) : (Instr.fieldAt 71 (.pointer (some ⟨b, i, none⟩)) 1).run Tryd.prog w = .ok (.pointer (some ⟨b, i + 1, none⟩)) w := by kernel_rfl
theorem FA71_0 (b i : Nat) (w : World) : (Instr.fieldAt 71 (.pointer (some ⟨b, i, none⟩)) 0).run Tryd.prog w = .ok (.pointer (some ⟨b, i, none⟩)) w := by kernel_rfl
theorem BS29_2 (x0 : Int) (x1 : Int) (w : World) : (Instr.buildSlice 29 2 #[(0, .int .u8 x0), (1, .int .u8 x1)]).run Tryd.prog w = .ok (.slice (some ⟨w.heap.size, 0, none⟩) 2 2) (w.alloc (Blk 5 [.int .u8 x0, .int .u8 x1])) := by kernel_rfl
theorem BS22_1 (x0 : Int) (w : World) : (Instr.buildSlice 22 1 #[(0, .int .i64 x0)]).run Tryd.prog w = .ok (.slice (some ⟨w.heap.size, 0, none⟩) 1 1) (w.alloc (Blk 3 [.int .i64 x0])) := by kernel_rfl
theorem BS22_4 (x0 : Int) (x1 : Int) (x2 : Int) (x3 : Int) (w : World) : (Instr.buildSlice 22 4 #[(0, .int .i64 x0), (1, .int .i64 x1), (2, .int .i64 x2), (3, .int .i64 x3)]).run Tryd.prog w = .ok (.slice (some ⟨w.heap.size, 0, none⟩) 4 4) (w.alloc (Blk 3 [.int .i64 x0, .int .i64 x1, .int .i64 x2, .int .i64 x3])) := by kernel_rfl
theorem BD76_0_1_2_3 (x0 : Int) (x1 : Int) (x2 : Int) (x3 : Int) (w : World) : (Instr.build 76 #[(0, .int .i64 x0), (1, .int .i64 x1), (2, .int .i64 x2), (3, .int .i64 x3)]).run Tryd.prog w = .ok (.agg #[.int .i64 x0, .int .i64 x1, .int .i64 x2, .int .i64 x3]) w := by kernel_rfl
theorem FA59_0 (b i : Nat) (w : World) : (Instr.fieldAt 59 (.pointer (some ⟨b, i, none⟩)) 0).run Tryd.prog w = .ok (.pointer (some ⟨b, i, none⟩)) w := by kernel_rfl
theorem CV56_5 (m : Int) (w : World) : (convert 56 5 (.int .u64 m)).run Tryd.prog w = .ok (.int .u8 (IntKind.u8.wrap m)) w := by kernel_rfl
theorem BS29_0  (w : World) : (Instr.buildSlice 29 0 #[]).run Tryd.prog w = .ok (.slice (some ⟨w.heap.size, 0, none⟩) 0 0) (w.alloc (Blk 5 [])) := by kernel_rfl
theorem FA53_5 (b i : Nat) (w : World) : (Instr.fieldAt 53 (.pointer (some ⟨b, i, none⟩)) 5).run Tryd.prog w = .ok (.pointer (some ⟨b, i + 5, none⟩)) w := by kernel_rfl
theorem BD90_0 (x0a : Option Addr) (x0n x0c : Nat) (w : World) : (Instr.build 90 #[(0, .slice x0a x0n x0c)]).run Tryd.prog w = .ok (.agg #[.slice x0a x0n x0c, .int .i64 0, .int .i64 0]) w := by kernel_rfl
theorem FA90_2 (b i : Nat) (w : World) : (Instr.fieldAt 90 (.pointer (some ⟨b, i, none⟩)) 2).run Tryd.prog w = .ok (.pointer (some ⟨b, i + 2, none⟩)) w := by kernel_rfl
theorem FA90_1 (b i : Nat) (w : World) : (Instr.fieldAt 90 (.pointer (some ⟨b, i, none⟩)) 1).run Tryd.prog w = .ok (.pointer (some ⟨b, i + 1, none⟩)) w := by kernel_rfl
theorem CV5_56 (m : Int) (w : World) : (convert 5 56 (.int .u8 m)).run Tryd.prog w = .ok (.int .u64 (IntKind.u64.wrap m)) w := by kernel_rfl
theorem CV3_64 (m : Int) (w : World) : (convert 3 64 (.int .i64 m)).run Tryd.prog w = .ok (.int .u64 (IntKind.u64.wrap m)) w := by kernel_rfl
theorem EG55 : Tryd.prog.eqGuardType Tryd.prog.depth 55 = false := by kernel_rfl
theorem SE55 (x0 y0 : Int) (x1 y1 : Int) (x2 y2 : Int) (x3 y3 : Int) (w : World) : (Op.equalIn 10000 55 (.agg #[.int .i64 x0, .int .i64 x1, .int .i64 x2, .int .i64 x3]) (.agg #[.int .i64 y0, .int .i64 y1, .int .i64 y2, .int .i64 y3])).run Tryd.prog w = .ok (decide (x0 = y0 ∧ x1 = y1 ∧ x2 = y2 ∧ x3 = y3)) w := by
  have hfl : (Tryd.prog.fieldsOf 55).toList = [{ name := "From", type := 3, offset := 0, embedded := false, tag := "", pkgPath := "", byteOffset := 0 }, { name := "To", type := 3, offset := 1, embedded := false, tag := "", pkgPath := "", byteOffset := 8 }, { name := "Lo", type := 3, offset := 2, embedded := false, tag := "", pkgPath := "", byteOffset := 16 }, { name := "Hi", type := 3, offset := 3, embedded := false, tag := "", pkgPath := "", byteOffset := 24 }] := by kernel_rfl
  rw [show (10000 : Nat) = 9999 + 1 from rfl, run_equalIn_struct w 9999 55 _ _ (by kernel_rfl) (by kernel_rfl), hfl, show (9999 : Nat) = 9998 + 1 from rfl, (eqF_cons (a := .int .i64 x0) (b := .int .i64 y0) (by decide) (fun w => by kernel_rfl) (fun w => by kernel_rfl) (fun w => run_equalIn_int w 9998 3 .i64 .i64 x0 y0 Tryd.underlying3) (fun w => (eqF_cons (a := .int .i64 x1) (b := .int .i64 y1) (by decide) (fun w => by kernel_rfl) (fun w => by kernel_rfl) (fun w => run_equalIn_int w 9998 3 .i64 .i64 x1 y1 Tryd.underlying3) (fun w => (eqF_cons (a := .int .i64 x2) (b := .int .i64 y2) (by decide) (fun w => by kernel_rfl) (fun w => by kernel_rfl) (fun w => run_equalIn_int w 9998 3 .i64 .i64 x2 y2 Tryd.underlying3) (fun w => (eqF_cons (a := .int .i64 x3) (b := .int .i64 y3) (by decide) (fun w => by kernel_rfl) (fun w => by kernel_rfl) (fun w => run_equalIn_int w 9998 3 .i64 .i64 x3 y3 Tryd.underlying3) (fun w => eqF_nil))))))))]
  congr 1; rw [Bool.eq_iff_iff]; simp [beqL]
theorem AL53 (w : World) : (Instr.alloc 53 true (.tuple #[])).run Tryd.prog w = .ok (.pointer (some ⟨w.heap.size, 0, none⟩)) (w.alloc (Blk 53 [.int .i64 0, .int .i64 0, .map none, .bool false, .bool false, .int .i64 0])) := by kernel_rfl
theorem AL56 (w : World) : (Instr.alloc 56 true (.tuple #[])).run Tryd.prog w = .ok (.pointer (some ⟨w.heap.size, 0, none⟩)) (w.alloc (Blk 56 [.int .u64 0])) := by kernel_rfl
theorem FA90_0 (b i : Nat) (w : World) : (Instr.fieldAt 90 (.pointer (some ⟨b, i, none⟩)) 0).run Tryd.prog w = .ok (.pointer (some ⟨b, i, none⟩)) w := by kernel_rfl
theorem FA59_1 (b i : Nat) (w : World) : (Instr.fieldAt 59 (.pointer (some ⟨b, i, none⟩)) 1).run Tryd.prog w = .ok (.pointer (some ⟨b, i + 1, none⟩)) w := by kernel_rfl
theorem CV64_109 (m : Int) (w : World) : (convert 64 109 (.int .u64 m)).run Tryd.prog w = .ok (.int .u32 (IntKind.u32.wrap m)) w := by kernel_rfl
theorem CV3_111 (m : Int) (w : World) : (convert 3 111 (.int .i64 m)).run Tryd.prog w = .ok (.int .u64 (IntKind.u64.wrap m)) w := by kernel_rfl
theorem AL111 (w : World) : (Instr.alloc 111 true (.tuple #[])).run Tryd.prog w = .ok (.pointer (some ⟨w.heap.size, 0, none⟩)) (w.alloc (Blk 111 [.int .u64 0])) := by kernel_rfl
theorem CV64_3 (m : Int) (w : World) : (convert 64 3 (.int .u64 m)).run Tryd.prog w = .ok (.int .i64 (IntKind.i64.wrap m)) w := by kernel_rfl
theorem AL3 (w : World) : (Instr.alloc 3 true (.tuple #[])).run Tryd.prog w = .ok (.pointer (some ⟨w.heap.size, 0, none⟩)) (w.alloc (Blk 3 [.int .i64 0])) := by kernel_rfl
theorem CV109_5 (m : Int) (w : World) : (convert 109 5 (.int .u32 m)).run Tryd.prog w = .ok (.int .u8 (IntKind.u8.wrap m)) w := by kernel_rfl
theorem CV5_3 (m : Int) (w : World) : (convert 5 3 (.int .u8 m)).run Tryd.prog w = .ok (.int .i64 (IntKind.i64.wrap m)) w := by kernel_rfl
end Go.Proofs.YtbcdnpjcbchbjaaDoor
