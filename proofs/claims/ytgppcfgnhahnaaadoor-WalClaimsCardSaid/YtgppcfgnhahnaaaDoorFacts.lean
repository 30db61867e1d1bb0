/- Closed facts on the tables of this program, written by a program of ours. -/
import Derived.Test.YtgppcfgnhahnaaaDoorProg
import Derived.Test.YtgppcfgnhahnaaaDoorMap
set_option maxRecDepth 100000
namespace Go.Proofs.YtgppcfgnhahnaaaDoor
open Go.SL
theorem MX : Tryd.prog.follows .mixedOrders = true := by kernel_rfl
theorem El32 : El Tryd.prog 32 30 [.slice none 0 0] 1 24 := ⟨Tryd.underlying32, ⟨Tryd.t30, by kernel_rfl, ⟨_, rfl, rfl⟩, rfl, rfl⟩, by decide, rfl⟩
theorem BS32_4 (x0a : Option Addr) (x0n x0c : Nat) (x1a : Option Addr) (x1n x1c : Nat) (x2a : Option Addr) (x2n x2c : Nat) (x3a : Option Addr) (x3n x3c : Nat) (w : World) : (Instr.buildSlice 32 4 #[(0, .slice x0a x0n x0c), (1, .slice x1a x1n x1c), (2, .slice x2a x2n x2c), (3, .slice x3a x3n x3c)]).run Tryd.prog w = .ok (.slice (some ⟨w.heap.size, 0, none⟩) 4 4) (w.alloc (Blk 30 [.slice x0a x0n x0c, .slice x1a x1n x1c, .slice x2a x2n x2c, .slice x3a x3n x3c])) := by kernel_rfl
theorem El22 : El Tryd.prog 22 3 [.int .i64 0] 1 8 := ⟨Tryd.underlying22, ⟨Tryd.t3, by kernel_rfl, ⟨_, rfl, rfl⟩, rfl, rfl⟩, by decide, rfl⟩
theorem BS22_1 (x0 : Int) (w : World) : (Instr.buildSlice 22 1 #[(0, .int .i64 x0)]).run Tryd.prog w = .ok (.slice (some ⟨w.heap.size, 0, none⟩) 1 1) (w.alloc (Blk 3 [.int .i64 x0])) := by kernel_rfl
theorem LN26 (ty : Nat) (a : Option Addr) (m c : Nat) (w : World) : (Builtin.len_ #[26] ty #[.slice a m c]).run Tryd.prog w = .ok (.int .i64 m) w := by kernel_rfl
theorem El26 : El Tryd.prog 26 35 [.slice none 0 0] 1 24 := ⟨Tryd.underlying26, ⟨Tryd.t35, by kernel_rfl, ⟨_, rfl, rfl⟩, rfl, rfl⟩, by decide, rfl⟩
theorem LN35 (ty : Nat) (a : Option Addr) (m c : Nat) (w : World) : (Builtin.len_ #[35] ty #[.slice a m c]).run Tryd.prog w = .ok (.int .i64 m) w := by kernel_rfl
theorem BD53_0_1_2 (x0 : Option Addr) (x1 : Int) (x2 : Int) (w : World) : (Instr.build 53 #[(0, .pointer x0), (1, .int .i64 x1), (2, .int .i64 x2)]).run Tryd.prog w = .ok (.agg #[.pointer x0, .int .i64 x1, .int .i64 x2, .bool false]) w := by kernel_rfl
theorem BD55_  (w : World) : (Instr.build 55 #[]).run Tryd.prog w = .ok (.agg #[.int .i64 0, .int .i64 0, .int .i64 0, .int .i64 0]) w := by kernel_rfl
theorem AL55 (w : World) : (Instr.alloc 55 true (.tuple #[])).run Tryd.prog w = .ok (.pointer (some ⟨w.heap.size, 0, none⟩)) (w.alloc (Blk 55 [.int .i64 0, .int .i64 0, .int .i64 0, .int .i64 0])) := by kernel_rfl
theorem LN22 (ty : Nat) (a : Option Addr) (m c : Nat) (w : World) : (Builtin.len_ #[22] ty #[.slice a m c]).run Tryd.prog w = .ok (.int .i64 m) w := by kernel_rfl
theorem LN30 (ty : Nat) (a : Option Addr) (m c : Nat) (w : World) : (Builtin.len_ #[30] ty #[.slice a m c]).run Tryd.prog w = .ok (.int .i64 m) w := by kernel_rfl
theorem CV3_56 (m : Int) (w : World) : (convert 3 56 (.int .i64 m)).run Tryd.prog w = .ok (.int .u64 (IntKind.u64.wrap m)) w := by kernel_rfl
theorem BD55_0_1_2_3 (x0 : Int) (x1 : Int) (x2 : Int) (x3 : Int) (w : World) : (Instr.build 55 #[(0, .int .i64 x0), (1, .int .i64 x1), (2, .int .i64 x2), (3, .int .i64 x3)]).run Tryd.prog w = .ok (.agg #[.int .i64 x0, .int .i64 x1, .int .i64 x2, .int .i64 x3]) w := by kernel_rfl
theorem FA55_0 (b i : Nat) (w : World) : (Instr.fieldAt 55 (.pointer (some ⟨b, i, none⟩)) 0).run Tryd.prog w = .ok (.pointer (some ⟨b, i, none⟩)) w := by kernel_rfl
theorem FA55_1 (b i : Nat) (w : World) : (Instr.fieldAt 55 (.pointer (some ⟨b, i, none⟩)) 1).run Tryd.prog w = .ok (.pointer (some ⟨b, i + 1, none⟩)) w := by kernel_rfl
theorem FA55_2 (b i : Nat) (w : World) : (Instr.fieldAt 55 (.pointer (some ⟨b, i, none⟩)) 2).run Tryd.prog w = .ok (.pointer (some ⟨b, i + 2, none⟩)) w := by kernel_rfl
theorem FA55_3 (b i : Nat) (w : World) : (Instr.fieldAt 55 (.pointer (some ⟨b, i, none⟩)) 3).run Tryd.prog w = .ok (.pointer (some ⟨b, i + 3, none⟩)) w := by kernel_rfl
theorem El30 : El Tryd.prog 30 55 [.int .i64 0, .int .i64 0, .int .i64 0, .int .i64 0] 4 32 := ⟨Tryd.underlying30, ⟨Tryd.t55, by kernel_rfl, ⟨_, rfl, rfl⟩, rfl, rfl⟩, by decide, rfl⟩
theorem BS30_1 (x0_0 x0_1 x0_2 x0_3 : Value) (w : World) : (Instr.buildSlice 30 1 #[(0, .agg #[x0_0, x0_1, x0_2, x0_3])]).run Tryd.prog w = .ok (.slice (some ⟨w.heap.size, 0, none⟩) 1 1) (w.alloc (Blk 55 [x0_0, x0_1, x0_2, x0_3])) := by kernel_rfl
theorem FA60_3 (b i : Nat) (w : World) : (Instr.fieldAt 60 (.pointer (some ⟨b, i, none⟩)) 3).run Tryd.prog w = .ok (.pointer (some ⟨b, i + 3, none⟩)) w := by kernel_rfl
theorem FA60_4 (b i : Nat) (w : World) : (Instr.fieldAt 60 (.pointer (some ⟨b, i, none⟩)) 4).run Tryd.prog w = .ok (.pointer (some ⟨b, i + 4, none⟩)) w := by kernel_rfl
theorem FA60_5 (b i : Nat) (w : World) : (Instr.fieldAt 60 (.pointer (some ⟨b, i, none⟩)) 5).run Tryd.prog w = .ok (.pointer (some ⟨b, i + 5, none⟩)) w := by kernel_rfl
theorem AL62 (w : World) : (Instr.alloc 62 true (.tuple #[])).run Tryd.prog w = .ok (.pointer (some ⟨w.heap.size, 0, none⟩)) (w.alloc (Blk 62 [.slice none 0 0, .int .i64 0])) := by kernel_rfl
theorem AL27 (w : World) : (Instr.alloc 27 true (.tuple #[])).run Tryd.prog w = .ok (.pointer (some ⟨w.heap.size, 0, none⟩)) (w.alloc (Blk 27 [.int .i64 0])) := by kernel_rfl
theorem FA53_3 (b i : Nat) (w : World) : (Instr.fieldAt 53 (.pointer (some ⟨b, i, none⟩)) 3).run Tryd.prog w = .ok (.pointer (some ⟨b, i + 3, none⟩)) w := by kernel_rfl
theorem FA53_0 (b i : Nat) (w : World) : (Instr.fieldAt 53 (.pointer (some ⟨b, i, none⟩)) 0).run Tryd.prog w = .ok (.pointer (some ⟨b, i, none⟩)) w := by kernel_rfl
theorem FA53_1 (b i : Nat) (w : World) : (Instr.fieldAt 53 (.pointer (some ⟨b, i, none⟩)) 1).run Tryd.prog w = .ok (.pointer (some ⟨b, i + 1, none⟩)) w := by kernel_rfl
theorem FA53_2 (b i : Nat) (w : World) : (Instr.fieldAt 53 (.pointer (some ⟨b, i, none⟩)) 2).run Tryd.prog w = .ok (.pointer (some ⟨b, i + 2, none⟩)) w := by kernel_rfl
theorem FA60_2 (b i : Nat) (w : World) : (Instr.fieldAt 60 (.pointer (some ⟨b, i, none⟩)) 2).run Tryd.prog w = .ok (.pointer (some ⟨b, i + 2, none⟩)) w := by kernel_rfl
theorem ZV70 (w : World) : (zeroValue 70).run Tryd.prog w = .ok (.agg #[.slice none 0 0, .int .i64 0]) w := by kernel_rfl
theorem AL70 (w : World) : (Instr.alloc 70 true (.tuple #[])).run Tryd.prog w = .ok (.pointer (some ⟨w.heap.size, 0, none⟩)) (w.alloc (Blk 70 [.slice none 0 0, .int .i64 0])) := by kernel_rfl
theorem FA70_0 (b i : Nat) (w : World) : (Instr.fieldAt 70 (.pointer (some ⟨b, i, none⟩)) 0).run Tryd.prog w = .ok (.pointer (some ⟨b, i, none⟩)) w := by kernel_rfl
theorem FA70_1 (b i : Nat) (w : World) : (Instr.fieldAt 70 (.pointer (some ⟨b, i, none⟩)) 1).run Tryd.prog w = .ok (.pointer (some ⟨b, i + 1, none⟩)) w := by kernel_rfl
theorem El35 : El Tryd.prog 35 5 [.int .u8 0] 1 1 := ⟨Tryd.underlying35, ⟨Tryd.t5, by kernel_rfl, ⟨_, rfl, rfl⟩, rfl, rfl⟩, by decide, rfl⟩
theorem BD70_0_1 (x0a : Option Addr) (x0n x0c : Nat) (x1 : Int) (w : World) : (Instr.build 70 #[(0, .slice x0a x0n x0c), (1, .int .i64 x1)]).run Tryd.prog w = .ok (.agg #[.slice x0a x0n x0c, .int .i64 x1]) w := by kernel_rfl
theorem AL76 (w : World) : (Instr.alloc 76 true (.tuple #[])).run Tryd.prog w = .ok (.pointer (some ⟨w.heap.size, 0, none⟩)) (w.alloc (Blk 76 [.int .i64 0, .int .i64 0, .int .i64 0, .int .i64 0])) := by kernel_rfl
theorem BS35_1 (x0 : Int) (w : World) : (Instr.buildSlice 35 1 #[(0, .int .u8 x0)]).run Tryd.prog w = .ok (.slice (some ⟨w.heap.size, 0, none⟩) 1 1) (w.alloc (Blk 5 [.int .u8 x0])) := by kernel_rfl
theorem AL78 (w : World) : (Instr.alloc 78 true (.tuple #[])).run Tryd.prog w = .ok (.pointer (some ⟨w.heap.size, 0, none⟩)) (w.alloc (Blk 78 [.slice none 0 0])) := by kernel_rfl
theorem BS35_3 (x0 : Int) (x1 : Int) (x2 : Int) (w : World) : (Instr.buildSlice 35 3 #[(0, .int .u8 x0), (1, .int .u8 x1), (2, .int .u8 x2)]).run Tryd.prog w = .ok (.slice (some ⟨w.heap.size, 0, none⟩) 3 3) (w.alloc (Blk 5 [.int .u8 x0, .int .u8 x1, .int .u8 x2])) := by kernel_rfl
theorem BS26_1 (x0a : Option Addr) (x0n x0c : Nat) (w : World) : (Instr.buildSlice 26 1 #[(0, .slice x0a x0n x0c)]).run Tryd.prog w = .ok (.slice (some ⟨w.heap.size, 0, none⟩) 1 1) (w.alloc (Blk 35 [.slice x0a x0n x0c])) := by kernel_rfl
theorem BD60_0_2 (x0 : Int) (x2 : Option Nat) (w : World) : (Instr.build 60 #[(0, .int .i64 x0), (2, .map x2)]).run Tryd.prog w = .ok (.agg #[.int .i64 x0, .int .i64 0, .map x2, .bool false, .bool false, .int .i64 0]) w := by kernel_rfl
theorem FD70_0 (x0 x1 : Value) (w : World) : (Instr.field 70 (.agg #[x0, x1]) 0).run Tryd.prog w = .ok (x0) w := by kernel_rfl
theorem AL26 (w : World) : (Instr.alloc 26 true (.tuple #[])).run Tryd.prog w = .ok (.pointer (some ⟨w.heap.size, 0, none⟩)) (w.alloc (Blk 26 [.slice none 0 0])) := by kernel_rfl
theorem AL3 (w : World) : (Instr.alloc 3 true (.tuple #[])).run Tryd.prog w = .ok (.pointer (some ⟨w.heap.size, 0, none⟩)) (w.alloc (Blk 3 [.int .i64 0])) := by kernel_rfl
theorem BS22_4 (x0 : Int) (x1 : Int) (x2 : Int) (x3 : Int) (w : World) : (Instr.buildSlice 22 4 #[(0, .int .i64 x0), (1, .int .i64 x1), (2, .int .i64 x2), (3, .int .i64 x3)]).run Tryd.prog w = .ok (.slice (some ⟨w.heap.size, 0, none⟩) 4 4) (w.alloc (Blk 3 [.int .i64 x0, .int .i64 x1, .int .i64 x2, .int .i64 x3])) := by kernel_rfl
theorem BD76_0_1_2_3 (x0 : Int) (x1 : Int) (x2 : Int) (x3 : Int) (w : World) : (Instr.build 76 #[(0, .int .i64 x0), (1, .int .i64 x1), (2, .int .i64 x2), (3, .int .i64 x3)]).run Tryd.prog w = .ok (.agg #[.int .i64 x0, .int .i64 x1, .int .i64 x2, .int .i64 x3]) w := by kernel_rfl
theorem FA62_0 (b i : Nat) (w : World) : (Instr.fieldAt 62 (.pointer (some ⟨b, i, none⟩)) 0).run Tryd.prog w = .ok (.pointer (some ⟨b, i, none⟩)) w := by kernel_rfl
theorem FA60_0 (b i : Nat) (w : World) : (Instr.fieldAt 60 (.pointer (some ⟨b, i, none⟩)) 0).run Tryd.prog w = .ok (.pointer (some ⟨b, i, none⟩)) w := by kernel_rfl
theorem FA60_1 (b i : Nat) (w : World) : (Instr.fieldAt 60 (.pointer (some ⟨b, i, none⟩)) 1).run Tryd.prog w = .ok (.pointer (some ⟨b, i + 1, none⟩)) w := by kernel_rfl
theorem BD97_0 (x0a : Option Addr) (x0n x0c : Nat) (w : World) : (Instr.build 97 #[(0, .slice x0a x0n x0c)]).run Tryd.prog w = .ok (.agg #[.slice x0a x0n x0c, .int .i64 0, .int .i64 0]) w := by kernel_rfl
theorem CV56_3 (m : Int) (w : World) : (convert 56 3 (.int .u64 m)).run Tryd.prog w = .ok (.int .i64 (IntKind.i64.wrap m)) w := by kernel_rfl
theorem FA97_2 (b i : Nat) (w : World) : (Instr.fieldAt 97 (.pointer (some ⟨b, i, none⟩)) 2).run Tryd.prog w = .ok (.pointer (some ⟨b, i + 2, none⟩)) w := by kernel_rfl
theorem FA97_1 (b i : Nat) (w : World) : (Instr.fieldAt 97 (.pointer (some ⟨b, i, none⟩)) 1).run Tryd.prog w = .ok (.pointer (some ⟨b, i + 1, none⟩)) w := by kernel_rfl
theorem EG55 : Tryd.prog.eqGuardType Tryd.prog.depth 55 = false := by kernel_rfl
theorem SE55 (x0 y0 : Int) (x1 y1 : Int) (x2 y2 : Int) (x3 y3 : Int) (w : World) : (Op.equalIn 10000 55 (.agg #[.int .i64 x0, .int .i64 x1, .int .i64 x2, .int .i64 x3]) (.agg #[.int .i64 y0, .int .i64 y1, .int .i64 y2, .int .i64 y3])).run Tryd.prog w = .ok (decide (x0 = y0 ∧ x1 = y1 ∧ x2 = y2 ∧ x3 = y3)) w := by
  have hfl : (Tryd.prog.fieldsOf 55).toList = [{ name := "From", type := 3, offset := 0, embedded := false, tag := "", pkgPath := "", byteOffset := 0 }, { name := "To", type := 3, offset := 1, embedded := false, tag := "", pkgPath := "", byteOffset := 8 }, { name := "Lo", type := 3, offset := 2, embedded := false, tag := "", pkgPath := "", byteOffset := 16 }, { name := "Hi", type := 3, offset := 3, embedded := false, tag := "", pkgPath := "", byteOffset := 24 }] := by kernel_rfl
  rw [show (10000 : Nat) = 9999 + 1 from rfl, run_equalIn_struct w 9999 55 _ _ (by kernel_rfl) (by kernel_rfl), hfl, show (9999 : Nat) = 9998 + 1 from rfl, (eqF_cons (a := .int .i64 x0) (b := .int .i64 y0) (by decide) (fun w => by kernel_rfl) (fun w => by kernel_rfl) (fun w => run_equalIn_int w 9998 3 .i64 .i64 x0 y0 Tryd.underlying3) (fun w => (eqF_cons (a := .int .i64 x1) (b := .int .i64 y1) (by decide) (fun w => by kernel_rfl) (fun w => by kernel_rfl) (fun w => run_equalIn_int w 9998 3 .i64 .i64 x1 y1 Tryd.underlying3) (fun w => (eqF_cons (a := .int .i64 x2) (b := .int .i64 y2) (by decide) (fun w => by kernel_rfl) (fun w => by kernel_rfl) (fun w => run_equalIn_int w 9998 3 .i64 .i64 x2 y2 Tryd.underlying3) (fun w => (eqF_cons (a := .int .i64 x3) (b := .int .i64 y3) (by decide) (fun w => by kernel_rfl) (fun w => by kernel_rfl) (fun w => run_equalIn_int w 9998 3 .i64 .i64 x3 y3 Tryd.underlying3) (fun w => eqF_nil))))))))]
  congr 1; rw [Bool.eq_iff_iff]; simp [beqL]
theorem FA78_0 (b i : Nat) (w : World) : (Instr.fieldAt 78 (.pointer (some ⟨b, i, none⟩)) 0).run Tryd.prog w = .ok (.pointer (some ⟨b, i, none⟩)) w := by kernel_rfl
theorem CV56_5 (m : Int) (w : World) : (convert 56 5 (.int .u64 m)).run Tryd.prog w = .ok (.int .u8 (IntKind.u8.wrap m)) w := by kernel_rfl
theorem AL22 (w : World) : (Instr.alloc 22 true (.tuple #[])).run Tryd.prog w = .ok (.pointer (some ⟨w.heap.size, 0, none⟩)) (w.alloc (Blk 22 [.slice none 0 0])) := by kernel_rfl
theorem BS35_0  (w : World) : (Instr.buildSlice 35 0 #[]).run Tryd.prog w = .ok (.slice (some ⟨w.heap.size, 0, none⟩) 0 0) (w.alloc (Blk 5 [])) := by kernel_rfl
theorem AL56 (w : World) : (Instr.alloc 56 true (.tuple #[])).run Tryd.prog w = .ok (.pointer (some ⟨w.heap.size, 0, none⟩)) (w.alloc (Blk 56 [.int .u64 0])) := by kernel_rfl
theorem FA97_0 (b i : Nat) (w : World) : (Instr.fieldAt 97 (.pointer (some ⟨b, i, none⟩)) 0).run Tryd.prog w = .ok (.pointer (some ⟨b, i, none⟩)) w := by kernel_rfl
theorem LN9 (ty : Nat) (s : ByteArray) (w : World) : (Builtin.len_ #[9] ty #[.string s]).run Tryd.prog w = .ok (.int .i64 s.size) w := by kernel_rfl
theorem BD118_0 (x0a : Option Addr) (x0n x0c : Nat) (w : World) : (Instr.build 118 #[(0, .slice x0a x0n x0c)]).run Tryd.prog w = .ok (.agg #[.slice x0a x0n x0c, .int .i64 0, .int .i64 0]) w := by kernel_rfl
theorem FA118_2 (b i : Nat) (w : World) : (Instr.fieldAt 118 (.pointer (some ⟨b, i, none⟩)) 2).run Tryd.prog w = .ok (.pointer (some ⟨b, i + 2, none⟩)) w := by kernel_rfl
theorem CV5_56 (m : Int) (w : World) : (convert 5 56 (.int .u8 m)).run Tryd.prog w = .ok (.int .u64 (IntKind.u64.wrap m)) w := by kernel_rfl
theorem CV3_88 (m : Int) (w : World) : (convert 3 88 (.int .i64 m)).run Tryd.prog w = .ok (.int .u64 (IntKind.u64.wrap m)) w := by kernel_rfl
theorem FA118_1 (b i : Nat) (w : World) : (Instr.fieldAt 118 (.pointer (some ⟨b, i, none⟩)) 1).run Tryd.prog w = .ok (.pointer (some ⟨b, i + 1, none⟩)) w := by kernel_rfl
theorem FA118_0 (b i : Nat) (w : World) : (Instr.fieldAt 118 (.pointer (some ⟨b, i, none⟩)) 0).run Tryd.prog w = .ok (.pointer (some ⟨b, i, none⟩)) w := by kernel_rfl
theorem FA62_1 (b i : Nat) (w : World) : (Instr.fieldAt 62 (.pointer (some ⟨b, i, none⟩)) 1).run Tryd.prog w = .ok (.pointer (some ⟨b, i + 1, none⟩)) w := by kernel_rfl
theorem CV88_133 (m : Int) (w : World) : (convert 88 133 (.int .u64 m)).run Tryd.prog w = .ok (.int .u32 (IntKind.u32.wrap m)) w := by kernel_rfl
theorem CV3_135 (m : Int) (w : World) : (convert 3 135 (.int .i64 m)).run Tryd.prog w = .ok (.int .u64 (IntKind.u64.wrap m)) w := by kernel_rfl
theorem AL135 (w : World) : (Instr.alloc 135 true (.tuple #[])).run Tryd.prog w = .ok (.pointer (some ⟨w.heap.size, 0, none⟩)) (w.alloc (Blk 135 [.int .u64 0])) := by kernel_rfl
theorem CV88_3 (m : Int) (w : World) : (convert 88 3 (.int .u64 m)).run Tryd.prog w = .ok (.int .i64 (IntKind.i64.wrap m)) w := by kernel_rfl
theorem CV133_5 (m : Int) (w : World) : (convert 133 5 (.int .u32 m)).run Tryd.prog w = .ok (.int .u8 (IntKind.u8.wrap m)) w := by kernel_rfl
theorem CV5_3 (m : Int) (w : World) : (convert 5 3 (.int .u8 m)).run Tryd.prog w = .ok (.int .i64 (IntKind.i64.wrap m)) w := by kernel_rfl
end Go.Proofs.YtgppcfgnhahnaaaDoor
