/- Closed facts on the tables of this program, written by a program of ours. -/
import Derived.Test.YtkobigdfijeajaaProg
import Derived.Test.YtkobigdfijeajaaMap
set_option maxRecDepth 100000
namespace Go.Proofs.Ytkobigdfijeajaa
open Go.SL
theorem MX : Try.prog.follows .mixedOrders = true := by kernel_rfl
theorem AL35 (w : World) : (Instr.alloc 35 true (.tuple #[])).run Try.prog w = .ok (.pointer (some ⟨w.heap.size, 0, none⟩)) (w.alloc (Blk 35 [.bool false, .string ByteArray.empty, .int .i64 0, .int .i64 0, .int .i64 0, .slice none 0 0])) := by kernel_rfl
theorem El22 : El Try.prog 22 5 [.int .u8 0] 1 1 := ⟨Try.underlying22, ⟨Try.t5, by kernel_rfl, ⟨_, rfl, rfl⟩, rfl, rfl⟩, by decide, rfl⟩
theorem BS22_1 (x0 : Int) (w : World) : (Instr.buildSlice 22 1 #[(0, .int .u8 x0)]).run Try.prog w = .ok (.slice (some ⟨w.heap.size, 0, none⟩) 1 1) (w.alloc (Blk 5 [.int .u8 x0])) := by kernel_rfl
theorem BS22_0  (w : World) : (Instr.buildSlice 22 0 #[]).run Try.prog w = .ok (.slice (some ⟨w.heap.size, 0, none⟩) 0 0) (w.alloc (Blk 5 [])) := by kernel_rfl
theorem FA35_1 (b i : Nat) (w : World) : (Instr.fieldAt 35 (.pointer (some ⟨b, i, none⟩)) 1).run Try.prog w = .ok (.pointer (some ⟨b, i + 1, none⟩)) w := by kernel_rfl
theorem BD35_1_2 (x10 x11 x12 x13 : Value) (x2a : Option Addr) (x2n x2c : Nat) (w : World) : (Instr.build 35 #[(1, .agg #[x10, x11, x12, x13]), (2, .slice x2a x2n x2c)]).run Try.prog w = .ok (.agg #[.bool false, x10, x11, x12, x13, .slice x2a x2n x2c]) w := by kernel_rfl
theorem LN43 (ty : Nat) (a : Option Addr) (m c : Nat) (w : World) : (Builtin.len_ #[43] ty #[.slice a m c]).run Try.prog w = .ok (.int .i64 m) w := by kernel_rfl
theorem El41 : El Try.prog 41 22 [.slice none 0 0] 1 24 := ⟨Try.underlying41, ⟨Try.t22, by kernel_rfl, ⟨_, rfl, rfl⟩, rfl, rfl⟩, by decide, rfl⟩
theorem El43 : El Try.prog 43 35 [.bool false, .string ByteArray.empty, .int .i64 0, .int .i64 0, .int .i64 0, .slice none 0 0] 6 72 := ⟨Try.underlying43, ⟨Try.t35, by kernel_rfl, ⟨_, rfl, rfl⟩, rfl, rfl⟩, by decide, rfl⟩
theorem FA35_2 (b i : Nat) (w : World) : (Instr.fieldAt 35 (.pointer (some ⟨b, i, none⟩)) 2).run Try.prog w = .ok (.pointer (some ⟨b, i + 5, none⟩)) w := by kernel_rfl
theorem AL33 (w : World) : (Instr.alloc 33 true (.tuple #[])).run Try.prog w = .ok (.pointer (some ⟨w.heap.size, 0, none⟩)) (w.alloc (Blk 33 [.string ByteArray.empty, .int .i64 0, .int .i64 0, .int .i64 0])) := by kernel_rfl
theorem EG33 : Try.prog.eqGuardType Try.prog.depth 33 = false := by kernel_rfl
theorem SE33 (x0 y0 : ByteArray) (x1 y1 : Int) (x2 y2 : Int) (x3 y3 : Int) (w : World) : (Op.equalIn 10000 33 (.agg #[.string x0, .int .i64 x1, .int .i64 x2, .int .i64 x3]) (.agg #[.string y0, .int .i64 y1, .int .i64 y2, .int .i64 y3])).run Try.prog w = .ok (decide (x0 = y0 ∧ x1 = y1 ∧ x2 = y2 ∧ x3 = y3)) w := by
  have hfl : (Try.prog.fieldsOf 33).toList = [{ name := "Rule", type := 9, offset := 0, embedded := false, tag := "", pkgPath := "", byteOffset := 0 }, { name := "Holder", type := 3, offset := 1, embedded := false, tag := "", pkgPath := "", byteOffset := 16 }, { name := "Token", type := 3, offset := 2, embedded := false, tag := "", pkgPath := "", byteOffset := 24 }, { name := "Until", type := 3, offset := 3, embedded := false, tag := "", pkgPath := "", byteOffset := 32 }] := by kernel_rfl
  rw [show (10000 : Nat) = 9999 + 1 from rfl, run_equalIn_struct w 9999 33 _ _ (by kernel_rfl) (by kernel_rfl), hfl, show (9999 : Nat) = 9998 + 1 from rfl, (eqF_cons (a := .string x0) (b := .string y0) (by decide) (fun w => by kernel_rfl) (fun w => by kernel_rfl) (fun w => run_equalIn_string w 9998 9 x0 y0 Try.underlying9) (fun w => (eqF_cons (a := .int .i64 x1) (b := .int .i64 y1) (by decide) (fun w => by kernel_rfl) (fun w => by kernel_rfl) (fun w => run_equalIn_int w 9998 3 .i64 .i64 x1 y1 Try.underlying3) (fun w => (eqF_cons (a := .int .i64 x2) (b := .int .i64 y2) (by decide) (fun w => by kernel_rfl) (fun w => by kernel_rfl) (fun w => run_equalIn_int w 9998 3 .i64 .i64 x2 y2 Try.underlying3) (fun w => (eqF_cons (a := .int .i64 x3) (b := .int .i64 y3) (by decide) (fun w => by kernel_rfl) (fun w => by kernel_rfl) (fun w => run_equalIn_int w 9998 3 .i64 .i64 x3 y3 Try.underlying3) (fun w => eqF_nil))))))))]
  congr 1; rw [Bool.eq_iff_iff]; simp [beqL]
theorem LN29 (ty : Nat) (a : Option Addr) (m c : Nat) (w : World) : (Builtin.len_ #[29] ty #[.slice a m c]).run Try.prog w = .ok (.int .i64 m) w := by kernel_rfl
theorem BD35_  (w : World) : (Instr.build 35 #[]).run Try.prog w = .ok (.agg #[.bool false, .string ByteArray.empty, .int .i64 0, .int .i64 0, .int .i64 0, .slice none 0 0]) w := by kernel_rfl
theorem BD56_0_1_2 (x0 : Int) (x1 : Int) (x2a : Option Addr) (x2n x2c : Nat) (w : World) : (Instr.build 56 #[(0, .int .i64 x0), (1, .int .i64 x1), (2, .slice x2a x2n x2c)]).run Try.prog w = .ok (.agg #[.int .i64 x0, .int .i64 x1, .slice x2a x2n x2c]) w := by kernel_rfl
theorem El29 : El Try.prog 29 56 [.int .i64 0, .int .i64 0, .slice none 0 0] 3 40 := ⟨Try.underlying29, ⟨Try.t56, by kernel_rfl, ⟨_, rfl, rfl⟩, rfl, rfl⟩, by decide, rfl⟩
theorem FA56_1 (b i : Nat) (w : World) : (Instr.fieldAt 56 (.pointer (some ⟨b, i, none⟩)) 1).run Try.prog w = .ok (.pointer (some ⟨b, i + 1, none⟩)) w := by kernel_rfl
theorem FA56_0 (b i : Nat) (w : World) : (Instr.fieldAt 56 (.pointer (some ⟨b, i, none⟩)) 0).run Try.prog w = .ok (.pointer (some ⟨b, i, none⟩)) w := by kernel_rfl
theorem FA56_2 (b i : Nat) (w : World) : (Instr.fieldAt 56 (.pointer (some ⟨b, i, none⟩)) 2).run Try.prog w = .ok (.pointer (some ⟨b, i + 2, none⟩)) w := by kernel_rfl
theorem El62 : El Try.prog 62 63 [.pointer none] 1 8 := ⟨Try.underlying62, ⟨Try.t63, by kernel_rfl, ⟨_, rfl, rfl⟩, rfl, rfl⟩, by decide, rfl⟩
theorem BS62_1 (x0 : Option Addr) (w : World) : (Instr.buildSlice 62 1 #[(0, .pointer x0)]).run Try.prog w = .ok (.slice (some ⟨w.heap.size, 0, none⟩) 1 1) (w.alloc (Blk 63 [.pointer x0])) := by kernel_rfl
theorem LN58 (ty : Nat) (a : Option Addr) (m c : Nat) (w : World) : (Builtin.len_ #[58] ty #[.slice a m c]).run Try.prog w = .ok (.int .i64 m) w := by kernel_rfl
theorem El58 : El Try.prog 58 3 [.int .i64 0] 1 8 := ⟨Try.underlying58, ⟨Try.t3, by kernel_rfl, ⟨_, rfl, rfl⟩, rfl, rfl⟩, by decide, rfl⟩
theorem El60 : El Try.prog 60 25 [.pointer none] 1 8 := ⟨Try.underlying60, ⟨Try.t25, by kernel_rfl, ⟨_, rfl, rfl⟩, rfl, rfl⟩, by decide, rfl⟩
theorem LN65 (ty : Nat) (a : Option Addr) (m c : Nat) (w : World) : (Builtin.len_ #[65] ty #[.slice a m c]).run Try.prog w = .ok (.int .i64 m) w := by kernel_rfl
theorem El65 : El Try.prog 65 71 [.int .i64 0, .int .i64 0, .int .i64 0, .int .i64 0, .int .i64 0, .int .i64 0, .slice none 0 0] 7 72 := ⟨Try.underlying65, ⟨Try.t71, by kernel_rfl, ⟨_, rfl, rfl⟩, rfl, rfl⟩, by decide, rfl⟩
theorem AL71 (w : World) : (Instr.alloc 71 true (.tuple #[])).run Try.prog w = .ok (.pointer (some ⟨w.heap.size, 0, none⟩)) (w.alloc (Blk 71 [.int .i64 0, .int .i64 0, .int .i64 0, .int .i64 0, .int .i64 0, .int .i64 0, .slice none 0 0])) := by kernel_rfl
theorem FA71_2 (b i : Nat) (w : World) : (Instr.fieldAt 71 (.pointer (some ⟨b, i, none⟩)) 2).run Try.prog w = .ok (.pointer (some ⟨b, i + 2, none⟩)) w := by kernel_rfl
theorem FA71_1 (b i : Nat) (w : World) : (Instr.fieldAt 71 (.pointer (some ⟨b, i, none⟩)) 1).run Try.prog w = .ok (.pointer (some ⟨b, i + 1, none⟩)) w := by kernel_rfl
theorem BS29_0  (w : World) : (Instr.buildSlice 29 0 #[]).run Try.prog w = .ok (.slice (some ⟨w.heap.size, 0, none⟩) 0 0) (w.alloc (Blk 56 [])) := by kernel_rfl
theorem BS65_0  (w : World) : (Instr.buildSlice 65 0 #[]).run Try.prog w = .ok (.slice (some ⟨w.heap.size, 0, none⟩) 0 0) (w.alloc (Blk 71 [])) := by kernel_rfl
theorem LN69 (ty : Nat) (a : Option Addr) (m c : Nat) (w : World) : (Builtin.len_ #[69] ty #[.slice a m c]).run Try.prog w = .ok (.int .i64 m) w := by kernel_rfl
theorem BD85_0 (x0 : Option Nat) (w : World) : (Instr.build 85 #[(0, .map x0)]).run Try.prog w = .ok (.agg #[.map x0, .slice none 0 0]) w := by kernel_rfl
theorem BD89_0_1 (x0 : Int) (x1 : Int) (w : World) : (Instr.build 89 #[(0, .int .i64 x0), (1, .int .i64 x1)]).run Try.prog w = .ok (.agg #[.int .i64 x0, .int .i64 x1, .int .i64 0, .int .i64 0, .int .i64 0, .slice none 0 0, .int .i64 0, .map none, .map none]) w := by kernel_rfl
theorem FA89_1 (b i : Nat) (w : World) : (Instr.fieldAt 89 (.pointer (some ⟨b, i, none⟩)) 1).run Try.prog w = .ok (.pointer (some ⟨b, i + 1, none⟩)) w := by kernel_rfl
theorem FA89_0 (b i : Nat) (w : World) : (Instr.fieldAt 89 (.pointer (some ⟨b, i, none⟩)) 0).run Try.prog w = .ok (.pointer (some ⟨b, i, none⟩)) w := by kernel_rfl
theorem FA89_2 (b i : Nat) (w : World) : (Instr.fieldAt 89 (.pointer (some ⟨b, i, none⟩)) 2).run Try.prog w = .ok (.pointer (some ⟨b, i + 2, none⟩)) w := by kernel_rfl
theorem FA89_4 (b i : Nat) (w : World) : (Instr.fieldAt 89 (.pointer (some ⟨b, i, none⟩)) 4).run Try.prog w = .ok (.pointer (some ⟨b, i + 4, none⟩)) w := by kernel_rfl
theorem FA89_7 (b i : Nat) (w : World) : (Instr.fieldAt 89 (.pointer (some ⟨b, i, none⟩)) 7).run Try.prog w = .ok (.pointer (some ⟨b, i + 7, none⟩)) w := by kernel_rfl
theorem BD94_0_2 (x0 : Int) (x2 : Int) (w : World) : (Instr.build 94 #[(0, .int .i64 x0), (2, .int .i64 x2)]).run Try.prog w = .ok (.agg #[.int .i64 x0, .int .i64 0, .int .i64 x2, .int .i64 0, .int .i64 0, .int .i64 0, .slice none 0 0]) w := by kernel_rfl
theorem FA85_0 (b i : Nat) (w : World) : (Instr.fieldAt 85 (.pointer (some ⟨b, i, none⟩)) 0).run Try.prog w = .ok (.pointer (some ⟨b, i, none⟩)) w := by kernel_rfl
theorem ZV33 (w : World) : (zeroValue 33).run Try.prog w = .ok (.agg #[.string ByteArray.empty, .int .i64 0, .int .i64 0, .int .i64 0]) w := by kernel_rfl
theorem FA33_2 (b i : Nat) (w : World) : (Instr.fieldAt 33 (.pointer (some ⟨b, i, none⟩)) 2).run Try.prog w = .ok (.pointer (some ⟨b, i + 2, none⟩)) w := by kernel_rfl
theorem BD33_0_1_2_3 (x0 : ByteArray) (x1 : Int) (x2 : Int) (x3 : Int) (w : World) : (Instr.build 33 #[(0, .string x0), (1, .int .i64 x1), (2, .int .i64 x2), (3, .int .i64 x3)]).run Try.prog w = .ok (.agg #[.string x0, .int .i64 x1, .int .i64 x2, .int .i64 x3]) w := by kernel_rfl
theorem BD35_0_1 (x0 : Bool) (x10 x11 x12 x13 : Value) (w : World) : (Instr.build 35 #[(0, .bool x0), (1, .agg #[x10, x11, x12, x13])]).run Try.prog w = .ok (.agg #[.bool x0, x10, x11, x12, x13, .slice none 0 0]) w := by kernel_rfl
theorem FA33_3 (b i : Nat) (w : World) : (Instr.fieldAt 33 (.pointer (some ⟨b, i, none⟩)) 3).run Try.prog w = .ok (.pointer (some ⟨b, i + 3, none⟩)) w := by kernel_rfl
theorem FA33_1 (b i : Nat) (w : World) : (Instr.fieldAt 33 (.pointer (some ⟨b, i, none⟩)) 1).run Try.prog w = .ok (.pointer (some ⟨b, i + 1, none⟩)) w := by kernel_rfl
theorem FA33_0 (b i : Nat) (w : World) : (Instr.fieldAt 33 (.pointer (some ⟨b, i, none⟩)) 0).run Try.prog w = .ok (.pointer (some ⟨b, i, none⟩)) w := by kernel_rfl
theorem FA35_0 (b i : Nat) (w : World) : (Instr.fieldAt 35 (.pointer (some ⟨b, i, none⟩)) 0).run Try.prog w = .ok (.pointer (some ⟨b, i, none⟩)) w := by kernel_rfl
theorem FA85_1 (b i : Nat) (w : World) : (Instr.fieldAt 85 (.pointer (some ⟨b, i, none⟩)) 1).run Try.prog w = .ok (.pointer (some ⟨b, i + 1, none⟩)) w := by kernel_rfl
theorem BS41_1 (x0a : Option Addr) (x0n x0c : Nat) (w : World) : (Instr.buildSlice 41 1 #[(0, .slice x0a x0n x0c)]).run Try.prog w = .ok (.slice (some ⟨w.heap.size, 0, none⟩) 1 1) (w.alloc (Blk 22 [.slice x0a x0n x0c])) := by kernel_rfl
theorem LN22 (ty : Nat) (a : Option Addr) (m c : Nat) (w : World) : (Builtin.len_ #[22] ty #[.slice a m c]).run Try.prog w = .ok (.int .i64 m) w := by kernel_rfl
theorem FA89_5 (b i : Nat) (w : World) : (Instr.fieldAt 89 (.pointer (some ⟨b, i, none⟩)) 5).run Try.prog w = .ok (.pointer (some ⟨b, i + 5, none⟩)) w := by kernel_rfl
theorem BS43_1 (x0_0 x0_1 x0_2 x0_3 x0_4 x0_5 : Value) (w : World) : (Instr.buildSlice 43 1 #[(0, .agg #[x0_0, x0_1, x0_2, x0_3, x0_4, x0_5])]).run Try.prog w = .ok (.slice (some ⟨w.heap.size, 0, none⟩) 1 1) (w.alloc (Blk 35 [x0_0, x0_1, x0_2, x0_3, x0_4, x0_5])) := by kernel_rfl
theorem FA89_6 (b i : Nat) (w : World) : (Instr.fieldAt 89 (.pointer (some ⟨b, i, none⟩)) 6).run Try.prog w = .ok (.pointer (some ⟨b, i + 6, none⟩)) w := by kernel_rfl
theorem BD33_  (w : World) : (Instr.build 33 #[]).run Try.prog w = .ok (.agg #[.string ByteArray.empty, .int .i64 0, .int .i64 0, .int .i64 0]) w := by kernel_rfl
theorem FA52_0 (b i : Nat) (w : World) : (Instr.fieldAt 52 (.pointer (some ⟨b, i, none⟩)) 0).run Try.prog w = .ok (.pointer (some ⟨b, i, none⟩)) w := by kernel_rfl
theorem FA52_1 (b i : Nat) (w : World) : (Instr.fieldAt 52 (.pointer (some ⟨b, i, none⟩)) 1).run Try.prog w = .ok (.pointer (some ⟨b, i + 1, none⟩)) w := by kernel_rfl
theorem FA52_2 (b i : Nat) (w : World) : (Instr.fieldAt 52 (.pointer (some ⟨b, i, none⟩)) 2).run Try.prog w = .ok (.pointer (some ⟨b, i + 5, none⟩)) w := by kernel_rfl
theorem BD35_0_1_2 (x0 : Bool) (x10 x11 x12 x13 : Value) (x2a : Option Addr) (x2n x2c : Nat) (w : World) : (Instr.build 35 #[(0, .bool x0), (1, .agg #[x10, x11, x12, x13]), (2, .slice x2a x2n x2c)]).run Try.prog w = .ok (.agg #[.bool x0, x10, x11, x12, x13, .slice x2a x2n x2c]) w := by kernel_rfl
theorem AL52 (w : World) : (Instr.alloc 52 true (.tuple #[])).run Try.prog w = .ok (.pointer (some ⟨w.heap.size, 0, none⟩)) (w.alloc (Blk 52 [.bool false, .string ByteArray.empty, .int .i64 0, .int .i64 0, .int .i64 0, .slice none 0 0])) := by kernel_rfl
theorem El100 : El Try.prog 100 9 [.string ByteArray.empty] 1 16 := ⟨Try.underlying100, ⟨Try.t9, by kernel_rfl, ⟨_, rfl, rfl⟩, rfl, rfl⟩, by decide, rfl⟩
theorem BS100_3 (x0 : ByteArray) (x1 : ByteArray) (x2 : ByteArray) (w : World) : (Instr.buildSlice 100 3 #[(0, .string x0), (1, .string x1), (2, .string x2)]).run Try.prog w = .ok (.slice (some ⟨w.heap.size, 0, none⟩) 3 3) (w.alloc (Blk 9 [.string x0, .string x1, .string x2])) := by kernel_rfl
theorem BD52_0_1 (x0 : Bool) (x10 x11 x12 x13 : Value) (w : World) : (Instr.build 52 #[(0, .bool x0), (1, .agg #[x10, x11, x12, x13])]).run Try.prog w = .ok (.agg #[.bool x0, x10, x11, x12, x13, .slice none 0 0]) w := by kernel_rfl
theorem CV3_5 (m : Int) (w : World) : (convert 3 5 (.int .i64 m)).run Try.prog w = .ok (.int .u8 (IntKind.u8.wrap m)) w := by kernel_rfl
theorem BS22_2 (x0 : Int) (x1 : Int) (w : World) : (Instr.buildSlice 22 2 #[(0, .int .u8 x0), (1, .int .u8 x1)]).run Try.prog w = .ok (.slice (some ⟨w.heap.size, 0, none⟩) 2 2) (w.alloc (Blk 5 [.int .u8 x0, .int .u8 x1])) := by kernel_rfl
theorem AL94 (w : World) : (Instr.alloc 94 true (.tuple #[])).run Try.prog w = .ok (.pointer (some ⟨w.heap.size, 0, none⟩)) (w.alloc (Blk 94 [.int .i64 0, .int .i64 0, .int .i64 0, .int .i64 0, .int .i64 0, .int .i64 0, .slice none 0 0])) := by kernel_rfl
theorem FA94_1 (b i : Nat) (w : World) : (Instr.fieldAt 94 (.pointer (some ⟨b, i, none⟩)) 1).run Try.prog w = .ok (.pointer (some ⟨b, i + 1, none⟩)) w := by kernel_rfl
theorem AL103 (w : World) : (Instr.alloc 103 true (.tuple #[])).run Try.prog w = .ok (.pointer (some ⟨w.heap.size, 0, none⟩)) (w.alloc (Blk 103 [.nilFunc, .nilFunc, .nilFunc, .nilFunc])) := by kernel_rfl
theorem FA94_0 (b i : Nat) (w : World) : (Instr.fieldAt 94 (.pointer (some ⟨b, i, none⟩)) 0).run Try.prog w = .ok (.pointer (some ⟨b, i, none⟩)) w := by kernel_rfl
theorem BS60_1 (x0 : Option Addr) (w : World) : (Instr.buildSlice 60 1 #[(0, .pointer x0)]).run Try.prog w = .ok (.slice (some ⟨w.heap.size, 0, none⟩) 1 1) (w.alloc (Blk 25 [.pointer x0])) := by kernel_rfl
theorem El104 : El Try.prog 104 4 [.bool false] 1 1 := ⟨Try.underlying104, ⟨Try.t4, by kernel_rfl, ⟨_, rfl, rfl⟩, rfl, rfl⟩, by decide, rfl⟩
theorem BD106_0_1_7_9 (x0 : Int) (x1 : Int) (x7a : Option Addr) (x7n x7c : Nat) (x9a : Option Addr) (x9n x9c : Nat) (w : World) : (Instr.build 106 #[(0, .int .i64 x0), (1, .int .i64 x1), (7, .slice x7a x7n x7c), (9, .slice x9a x9n x9c)]).run Try.prog w = .ok (.agg #[.int .i64 x0, .int .i64 x1, .int .i64 0, .int .i64 0, .slice none 0 0, .int .i64 0, .int .i64 0, .slice x7a x7n x7c, .slice none 0 0, .slice x9a x9n x9c]) w := by kernel_rfl
theorem FA106_1 (b i : Nat) (w : World) : (Instr.fieldAt 106 (.pointer (some ⟨b, i, none⟩)) 1).run Try.prog w = .ok (.pointer (some ⟨b, i + 1, none⟩)) w := by kernel_rfl
theorem FA106_0 (b i : Nat) (w : World) : (Instr.fieldAt 106 (.pointer (some ⟨b, i, none⟩)) 0).run Try.prog w = .ok (.pointer (some ⟨b, i, none⟩)) w := by kernel_rfl
theorem FA106_2 (b i : Nat) (w : World) : (Instr.fieldAt 106 (.pointer (some ⟨b, i, none⟩)) 2).run Try.prog w = .ok (.pointer (some ⟨b, i + 2, none⟩)) w := by kernel_rfl
theorem FA106_6 (b i : Nat) (w : World) : (Instr.fieldAt 106 (.pointer (some ⟨b, i, none⟩)) 6).run Try.prog w = .ok (.pointer (some ⟨b, i + 6, none⟩)) w := by kernel_rfl
theorem FA106_4 (b i : Nat) (w : World) : (Instr.fieldAt 106 (.pointer (some ⟨b, i, none⟩)) 4).run Try.prog w = .ok (.pointer (some ⟨b, i + 4, none⟩)) w := by kernel_rfl
theorem El69 : El Try.prog 69 52 [.bool false, .string ByteArray.empty, .int .i64 0, .int .i64 0, .int .i64 0, .slice none 0 0] 6 72 := ⟨Try.underlying69, ⟨Try.t52, by kernel_rfl, ⟨_, rfl, rfl⟩, rfl, rfl⟩, by decide, rfl⟩
theorem BS69_1 (x0_0 x0_1 x0_2 x0_3 x0_4 x0_5 : Value) (w : World) : (Instr.buildSlice 69 1 #[(0, .agg #[x0_0, x0_1, x0_2, x0_3, x0_4, x0_5])]).run Try.prog w = .ok (.slice (some ⟨w.heap.size, 0, none⟩) 1 1) (w.alloc (Blk 52 [x0_0, x0_1, x0_2, x0_3, x0_4, x0_5])) := by kernel_rfl
theorem FA71_0 (b i : Nat) (w : World) : (Instr.fieldAt 71 (.pointer (some ⟨b, i, none⟩)) 0).run Try.prog w = .ok (.pointer (some ⟨b, i, none⟩)) w := by kernel_rfl
theorem FA71_3 (b i : Nat) (w : World) : (Instr.fieldAt 71 (.pointer (some ⟨b, i, none⟩)) 3).run Try.prog w = .ok (.pointer (some ⟨b, i + 3, none⟩)) w := by kernel_rfl
theorem FA106_3 (b i : Nat) (w : World) : (Instr.fieldAt 106 (.pointer (some ⟨b, i, none⟩)) 3).run Try.prog w = .ok (.pointer (some ⟨b, i + 3, none⟩)) w := by kernel_rfl
theorem FA106_5 (b i : Nat) (w : World) : (Instr.fieldAt 106 (.pointer (some ⟨b, i, none⟩)) 5).run Try.prog w = .ok (.pointer (some ⟨b, i + 5, none⟩)) w := by kernel_rfl
theorem BD71_0_1_2_3_4_5_6 (x0 : Int) (x1 : Int) (x2 : Int) (x3 : Int) (x4 : Int) (x5 : Int) (x6a : Option Addr) (x6n x6c : Nat) (w : World) : (Instr.build 71 #[(0, .int .i64 x0), (1, .int .i64 x1), (2, .int .i64 x2), (3, .int .i64 x3), (4, .int .i64 x4), (5, .int .i64 x5), (6, .slice x6a x6n x6c)]).run Try.prog w = .ok (.agg #[.int .i64 x0, .int .i64 x1, .int .i64 x2, .int .i64 x3, .int .i64 x4, .int .i64 x5, .slice x6a x6n x6c]) w := by kernel_rfl
theorem BS65_1 (x0_0 x0_1 x0_2 x0_3 x0_4 x0_5 x0_6 : Value) (w : World) : (Instr.buildSlice 65 1 #[(0, .agg #[x0_0, x0_1, x0_2, x0_3, x0_4, x0_5, x0_6])]).run Try.prog w = .ok (.slice (some ⟨w.heap.size, 0, none⟩) 1 1) (w.alloc (Blk 71 [x0_0, x0_1, x0_2, x0_3, x0_4, x0_5, x0_6])) := by kernel_rfl
theorem FA106_7 (b i : Nat) (w : World) : (Instr.fieldAt 106 (.pointer (some ⟨b, i, none⟩)) 7).run Try.prog w = .ok (.pointer (some ⟨b, i + 7, none⟩)) w := by kernel_rfl
theorem FA106_8 (b i : Nat) (w : World) : (Instr.fieldAt 106 (.pointer (some ⟨b, i, none⟩)) 8).run Try.prog w = .ok (.pointer (some ⟨b, i + 8, none⟩)) w := by kernel_rfl
theorem FA71_6 (b i : Nat) (w : World) : (Instr.fieldAt 71 (.pointer (some ⟨b, i, none⟩)) 6).run Try.prog w = .ok (.pointer (some ⟨b, i + 6, none⟩)) w := by kernel_rfl
theorem FA71_5 (b i : Nat) (w : World) : (Instr.fieldAt 71 (.pointer (some ⟨b, i, none⟩)) 5).run Try.prog w = .ok (.pointer (some ⟨b, i + 5, none⟩)) w := by kernel_rfl
theorem BD71_0_1_2_3_5 (x0 : Int) (x1 : Int) (x2 : Int) (x3 : Int) (x5 : Int) (w : World) : (Instr.build 71 #[(0, .int .i64 x0), (1, .int .i64 x1), (2, .int .i64 x2), (3, .int .i64 x3), (5, .int .i64 x5)]).run Try.prog w = .ok (.agg #[.int .i64 x0, .int .i64 x1, .int .i64 x2, .int .i64 x3, .int .i64 0, .int .i64 x5, .slice none 0 0]) w := by kernel_rfl
theorem FA106_9 (b i : Nat) (w : World) : (Instr.fieldAt 106 (.pointer (some ⟨b, i, none⟩)) 9).run Try.prog w = .ok (.pointer (some ⟨b, i + 9, none⟩)) w := by kernel_rfl
theorem CV3_115 (m : Int) (w : World) : (convert 3 115 (.int .i64 m)).run Try.prog w = .ok (.int .u64 (IntKind.u64.wrap m)) w := by kernel_rfl
theorem BD94_0_2_4_6 (x0 : Int) (x2 : Int) (x4 : Int) (x6a : Option Addr) (x6n x6c : Nat) (w : World) : (Instr.build 94 #[(0, .int .i64 x0), (2, .int .i64 x2), (4, .int .i64 x4), (6, .slice x6a x6n x6c)]).run Try.prog w = .ok (.agg #[.int .i64 x0, .int .i64 0, .int .i64 x2, .int .i64 0, .int .i64 x4, .int .i64 0, .slice x6a x6n x6c]) w := by kernel_rfl
theorem ZV94 (w : World) : (zeroValue 94).run Try.prog w = .ok (.agg #[.int .i64 0, .int .i64 0, .int .i64 0, .int .i64 0, .int .i64 0, .int .i64 0, .slice none 0 0]) w := by kernel_rfl
theorem FA94_3 (b i : Nat) (w : World) : (Instr.fieldAt 94 (.pointer (some ⟨b, i, none⟩)) 3).run Try.prog w = .ok (.pointer (some ⟨b, i + 3, none⟩)) w := by kernel_rfl
theorem FA89_3 (b i : Nat) (w : World) : (Instr.fieldAt 89 (.pointer (some ⟨b, i, none⟩)) 3).run Try.prog w = .ok (.pointer (some ⟨b, i + 3, none⟩)) w := by kernel_rfl
theorem FA94_6 (b i : Nat) (w : World) : (Instr.fieldAt 94 (.pointer (some ⟨b, i, none⟩)) 6).run Try.prog w = .ok (.pointer (some ⟨b, i + 6, none⟩)) w := by kernel_rfl
theorem FA94_4 (b i : Nat) (w : World) : (Instr.fieldAt 94 (.pointer (some ⟨b, i, none⟩)) 4).run Try.prog w = .ok (.pointer (some ⟨b, i + 4, none⟩)) w := by kernel_rfl
theorem FA89_8 (b i : Nat) (w : World) : (Instr.fieldAt 89 (.pointer (some ⟨b, i, none⟩)) 8).run Try.prog w = .ok (.pointer (some ⟨b, i + 8, none⟩)) w := by kernel_rfl
theorem BS29_1 (x0_0 x0_1 x0_2 : Value) (w : World) : (Instr.buildSlice 29 1 #[(0, .agg #[x0_0, x0_1, x0_2])]).run Try.prog w = .ok (.slice (some ⟨w.heap.size, 0, none⟩) 1 1) (w.alloc (Blk 56 [x0_0, x0_1, x0_2])) := by kernel_rfl
theorem BS43_0  (w : World) : (Instr.buildSlice 43 0 #[]).run Try.prog w = .ok (.slice (some ⟨w.heap.size, 0, none⟩) 0 0) (w.alloc (Blk 35 [])) := by kernel_rfl
theorem BD94_0_2_3_4_5 (x0 : Int) (x2 : Int) (x3 : Int) (x4 : Int) (x5 : Int) (w : World) : (Instr.build 94 #[(0, .int .i64 x0), (2, .int .i64 x2), (3, .int .i64 x3), (4, .int .i64 x4), (5, .int .i64 x5)]).run Try.prog w = .ok (.agg #[.int .i64 x0, .int .i64 0, .int .i64 x2, .int .i64 x3, .int .i64 x4, .int .i64 x5, .slice none 0 0]) w := by kernel_rfl
theorem FA94_2 (b i : Nat) (w : World) : (Instr.fieldAt 94 (.pointer (some ⟨b, i, none⟩)) 2).run Try.prog w = .ok (.pointer (some ⟨b, i + 2, none⟩)) w := by kernel_rfl
theorem BD94_0_2_3_4_6 (x0 : Int) (x2 : Int) (x3 : Int) (x4 : Int) (x6a : Option Addr) (x6n x6c : Nat) (w : World) : (Instr.build 94 #[(0, .int .i64 x0), (2, .int .i64 x2), (3, .int .i64 x3), (4, .int .i64 x4), (6, .slice x6a x6n x6c)]).run Try.prog w = .ok (.agg #[.int .i64 x0, .int .i64 0, .int .i64 x2, .int .i64 x3, .int .i64 x4, .int .i64 0, .slice x6a x6n x6c]) w := by kernel_rfl
theorem BD94_0_2_5 (x0 : Int) (x2 : Int) (x5 : Int) (w : World) : (Instr.build 94 #[(0, .int .i64 x0), (2, .int .i64 x2), (5, .int .i64 x5)]).run Try.prog w = .ok (.agg #[.int .i64 x0, .int .i64 0, .int .i64 x2, .int .i64 0, .int .i64 0, .int .i64 x5, .slice none 0 0]) w := by kernel_rfl
theorem ZV3 (w : World) : (zeroValue 3).run Try.prog w = .ok (.int .i64 0) w := by kernel_rfl
theorem FA94_5 (b i : Nat) (w : World) : (Instr.fieldAt 94 (.pointer (some ⟨b, i, none⟩)) 5).run Try.prog w = .ok (.pointer (some ⟨b, i + 5, none⟩)) w := by kernel_rfl
theorem BD71_0_1_2_3 (x0 : Int) (x1 : Int) (x2 : Int) (x3 : Int) (w : World) : (Instr.build 71 #[(0, .int .i64 x0), (1, .int .i64 x1), (2, .int .i64 x2), (3, .int .i64 x3)]).run Try.prog w = .ok (.agg #[.int .i64 x0, .int .i64 x1, .int .i64 x2, .int .i64 x3, .int .i64 0, .int .i64 0, .slice none 0 0]) w := by kernel_rfl
theorem FA71_4 (b i : Nat) (w : World) : (Instr.fieldAt 71 (.pointer (some ⟨b, i, none⟩)) 4).run Try.prog w = .ok (.pointer (some ⟨b, i + 4, none⟩)) w := by kernel_rfl
theorem BD52_0_1_2 (x0 : Bool) (x10 x11 x12 x13 : Value) (x2a : Option Addr) (x2n x2c : Nat) (w : World) : (Instr.build 52 #[(0, .bool x0), (1, .agg #[x10, x11, x12, x13]), (2, .slice x2a x2n x2c)]).run Try.prog w = .ok (.agg #[.bool x0, x10, x11, x12, x13, .slice x2a x2n x2c]) w := by kernel_rfl
theorem AL136 (w : World) : (Instr.alloc 136 true (.tuple #[])).run Try.prog w = .ok (.pointer (some ⟨w.heap.size, 0, none⟩)) (w.alloc (Blk 136 [.slice none 0 0])) := by kernel_rfl
theorem LN9 (ty : Nat) (s : ByteArray) (w : World) : (Builtin.len_ #[9] ty #[.string s]).run Try.prog w = .ok (.int .i64 s.size) w := by kernel_rfl
theorem BD141_0 (x0a : Option Addr) (x0n x0c : Nat) (w : World) : (Instr.build 141 #[(0, .slice x0a x0n x0c)]).run Try.prog w = .ok (.agg #[.slice x0a x0n x0c, .int .i64 0, .int .i64 0]) w := by kernel_rfl
theorem CV142_3 (m : Int) (w : World) : (convert 142 3 (.int .u64 m)).run Try.prog w = .ok (.int .i64 (IntKind.i64.wrap m)) w := by kernel_rfl
theorem BD35_0 (x0 : Bool) (w : World) : (Instr.build 35 #[(0, .bool x0)]).run Try.prog w = .ok (.agg #[.bool x0, .string ByteArray.empty, .int .i64 0, .int .i64 0, .int .i64 0, .slice none 0 0]) w := by kernel_rfl
theorem BD146_0_1_2 (x0 : Option Addr) (x1 : Option Addr) (x2 : Option Addr) (w : World) : (Instr.build 146 #[(0, .pointer x0), (1, .pointer x1), (2, .pointer x2)]).run Try.prog w = .ok (.agg #[.pointer x0, .pointer x1, .pointer x2]) w := by kernel_rfl
theorem FA141_2 (b i : Nat) (w : World) : (Instr.fieldAt 141 (.pointer (some ⟨b, i, none⟩)) 2).run Try.prog w = .ok (.pointer (some ⟨b, i + 2, none⟩)) w := by kernel_rfl
theorem FA141_1 (b i : Nat) (w : World) : (Instr.fieldAt 141 (.pointer (some ⟨b, i, none⟩)) 1).run Try.prog w = .ok (.pointer (some ⟨b, i + 1, none⟩)) w := by kernel_rfl
theorem FA141_0 (b i : Nat) (w : World) : (Instr.fieldAt 141 (.pointer (some ⟨b, i, none⟩)) 0).run Try.prog w = .ok (.pointer (some ⟨b, i, none⟩)) w := by kernel_rfl
theorem CV3_142 (m : Int) (w : World) : (convert 3 142 (.int .i64 m)).run Try.prog w = .ok (.int .u64 (IntKind.u64.wrap m)) w := by kernel_rfl
theorem FA136_0 (b i : Nat) (w : World) : (Instr.fieldAt 136 (.pointer (some ⟨b, i, none⟩)) 0).run Try.prog w = .ok (.pointer (some ⟨b, i, none⟩)) w := by kernel_rfl
theorem CV5_142 (m : Int) (w : World) : (convert 5 142 (.int .u8 m)).run Try.prog w = .ok (.int .u64 (IntKind.u64.wrap m)) w := by kernel_rfl
theorem CV142_5 (m : Int) (w : World) : (convert 142 5 (.int .u64 m)).run Try.prog w = .ok (.int .u8 (IntKind.u8.wrap m)) w := by kernel_rfl
end Go.Proofs.Ytkobigdfijeajaa
