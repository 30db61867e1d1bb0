/- Closed facts on the tables of this program, written by a program of ours. -/
import Derived.Test.YtlchcfegfonnmaaProg
import Derived.Test.YtlchcfegfonnmaaMap
namespace Go.Proofs.Ytlchcfegfonnmaa
open Go.SL
theorem MX : Try.prog.follows .mixedOrders = true := by kernel_rfl
theorem El22 : El Try.prog 22 3 [.int .i64 0] 1 8 := ⟨Try.underlying22, ⟨Try.t3, by kernel_rfl, ⟨_, rfl, rfl⟩, rfl, rfl⟩, by decide, rfl⟩
theorem BS22_3 (x0 : Int) (x1 : Int) (x2 : Int) (w : World) : (Instr.buildSlice 22 3 #[(0, .int .i64 x0), (1, .int .i64 x1), (2, .int .i64 x2)]).run Try.prog w = .ok (.slice (some ⟨w.heap.size, 0, none⟩) 3 3) (w.alloc (Blk 3 [.int .i64 x0, .int .i64 x1, .int .i64 x2])) := by kernel_rfl
theorem El25 : El Try.prog 25 9 [.string ByteArray.empty] 1 16 := ⟨Try.underlying25, ⟨Try.t9, by kernel_rfl, ⟨_, rfl, rfl⟩, rfl, rfl⟩, by decide, rfl⟩
theorem BS25_3 (x0 : ByteArray) (x1 : ByteArray) (x2 : ByteArray) (w : World) : (Instr.buildSlice 25 3 #[(0, .string x0), (1, .string x1), (2, .string x2)]).run Try.prog w = .ok (.slice (some ⟨w.heap.size, 0, none⟩) 3 3) (w.alloc (Blk 9 [.string x0, .string x1, .string x2])) := by kernel_rfl
theorem LN22 (ty : Nat) (a : Option Addr) (m c : Nat) (w : World) : (Builtin.len_ #[22] ty #[.slice a m c]).run Try.prog w = .ok (.int .i64 m) w := by kernel_rfl
theorem AL31 (w : World) : (Instr.alloc 31 true (.tuple #[])).run Try.prog w = .ok (.pointer (some ⟨w.heap.size, 0, none⟩)) (w.alloc (Blk 31 [.bool false, .string ByteArray.empty, .int .i64 0, .int .i64 0, .int .i64 0, .slice none 0 0])) := by kernel_rfl
theorem FA31_1 (b i : Nat) (w : World) : (Instr.fieldAt 31 (.pointer (some ⟨b, i, none⟩)) 1).run Try.prog w = .ok (.pointer (some ⟨b, i + 1, none⟩)) w := by kernel_rfl
theorem FA28_0 (b i : Nat) (w : World) : (Instr.fieldAt 28 (.pointer (some ⟨b, i, none⟩)) 0).run Try.prog w = .ok (.pointer (some ⟨b, i, none⟩)) w := by kernel_rfl
theorem FA28_3 (b i : Nat) (w : World) : (Instr.fieldAt 28 (.pointer (some ⟨b, i, none⟩)) 3).run Try.prog w = .ok (.pointer (some ⟨b, i + 3, none⟩)) w := by kernel_rfl
theorem AL28 (w : World) : (Instr.alloc 28 true (.tuple #[])).run Try.prog w = .ok (.pointer (some ⟨w.heap.size, 0, none⟩)) (w.alloc (Blk 28 [.string ByteArray.empty, .int .i64 0, .int .i64 0, .int .i64 0])) := by kernel_rfl
theorem FA31_0 (b i : Nat) (w : World) : (Instr.fieldAt 31 (.pointer (some ⟨b, i, none⟩)) 0).run Try.prog w = .ok (.pointer (some ⟨b, i, none⟩)) w := by kernel_rfl
theorem FA28_2 (b i : Nat) (w : World) : (Instr.fieldAt 28 (.pointer (some ⟨b, i, none⟩)) 2).run Try.prog w = .ok (.pointer (some ⟨b, i + 2, none⟩)) w := by kernel_rfl
theorem FA28_1 (b i : Nat) (w : World) : (Instr.fieldAt 28 (.pointer (some ⟨b, i, none⟩)) 1).run Try.prog w = .ok (.pointer (some ⟨b, i + 1, none⟩)) w := by kernel_rfl
theorem BD46_  (w : World) : (Instr.build 46 #[]).run Try.prog w = .ok (.agg #[.slice none 0 0, .slice none 0 0]) w := by kernel_rfl
theorem AL38 (w : World) : (Instr.alloc 38 true (.tuple #[])).run Try.prog w = .ok (.pointer (some ⟨w.heap.size, 0, none⟩)) (w.alloc (Blk 38 [.bool false, .string ByteArray.empty, .int .i64 0, .int .i64 0, .int .i64 0, .slice none 0 0])) := by kernel_rfl
theorem EG28 : Try.prog.eqGuardType Try.prog.depth 28 = false := by kernel_rfl
theorem SE28 (x0 y0 : ByteArray) (x1 y1 : Int) (x2 y2 : Int) (x3 y3 : Int) (w : World) : (Op.equalIn 10000 28 (.agg #[.string x0, .int .i64 x1, .int .i64 x2, .int .i64 x3]) (.agg #[.string y0, .int .i64 y1, .int .i64 y2, .int .i64 y3])).run Try.prog w = .ok (decide (x0 = y0 ∧ x1 = y1 ∧ x2 = y2 ∧ x3 = y3)) w := by
  have hfl : (Try.prog.fieldsOf 28).toList = [{ name := "Rule", type := 9, offset := 0, embedded := false, tag := "", pkgPath := "", byteOffset := 0 }, { name := "Holder", type := 3, offset := 1, embedded := false, tag := "", pkgPath := "", byteOffset := 16 }, { name := "Token", type := 3, offset := 2, embedded := false, tag := "", pkgPath := "", byteOffset := 24 }, { name := "Until", type := 3, offset := 3, embedded := false, tag := "", pkgPath := "", byteOffset := 32 }] := by kernel_rfl
  rw [show (10000 : Nat) = 9999 + 1 from rfl, run_equalIn_struct w 9999 28 _ _ (by kernel_rfl) (by kernel_rfl), hfl, show (9999 : Nat) = 9998 + 1 from rfl, (eqF_cons (a := .string x0) (b := .string y0) (by decide) (fun w => by kernel_rfl) (fun w => by kernel_rfl) (fun w => run_equalIn_string w 9998 9 x0 y0 Try.underlying9) (fun w => (eqF_cons (a := .int .i64 x1) (b := .int .i64 y1) (by decide) (fun w => by kernel_rfl) (fun w => by kernel_rfl) (fun w => run_equalIn_int w 9998 3 .i64 .i64 x1 y1 Try.underlying3) (fun w => (eqF_cons (a := .int .i64 x2) (b := .int .i64 y2) (by decide) (fun w => by kernel_rfl) (fun w => by kernel_rfl) (fun w => run_equalIn_int w 9998 3 .i64 .i64 x2 y2 Try.underlying3) (fun w => (eqF_cons (a := .int .i64 x3) (b := .int .i64 y3) (by decide) (fun w => by kernel_rfl) (fun w => by kernel_rfl) (fun w => run_equalIn_int w 9998 3 .i64 .i64 x3 y3 Try.underlying3) (fun w => eqF_nil))))))))]
  congr 1; rw [Bool.eq_iff_iff]; simp [beqL]
theorem FA46_1 (b i : Nat) (w : World) : (Instr.fieldAt 46 (.pointer (some ⟨b, i, none⟩)) 1).run Try.prog w = .ok (.pointer (some ⟨b, i + 1, none⟩)) w := by kernel_rfl
theorem FA38_1 (b i : Nat) (w : World) : (Instr.fieldAt 38 (.pointer (some ⟨b, i, none⟩)) 1).run Try.prog w = .ok (.pointer (some ⟨b, i + 1, none⟩)) w := by kernel_rfl
theorem BD28_0_1_2_3 (x0 : ByteArray) (x1 : Int) (x2 : Int) (x3 : Int) (w : World) : (Instr.build 28 #[(0, .string x0), (1, .int .i64 x1), (2, .int .i64 x2), (3, .int .i64 x3)]).run Try.prog w = .ok (.agg #[.string x0, .int .i64 x1, .int .i64 x2, .int .i64 x3]) w := by kernel_rfl
theorem FA38_0 (b i : Nat) (w : World) : (Instr.fieldAt 38 (.pointer (some ⟨b, i, none⟩)) 0).run Try.prog w = .ok (.pointer (some ⟨b, i, none⟩)) w := by kernel_rfl
theorem LN44 (ty : Nat) (a : Option Addr) (m c : Nat) (w : World) : (Builtin.len_ #[44] ty #[.slice a m c]).run Try.prog w = .ok (.int .i64 m) w := by kernel_rfl
theorem BD62_0 (x0 : Option Nat) (w : World) : (Instr.build 62 #[(0, .map x0)]).run Try.prog w = .ok (.agg #[.map x0, .slice none 0 0]) w := by kernel_rfl
theorem BD31_0_1 (x0 : Bool) (x10 x11 x12 x13 : Value) (w : World) : (Instr.build 31 #[(0, .bool x0), (1, .agg #[x10, x11, x12, x13])]).run Try.prog w = .ok (.agg #[.bool x0, x10, x11, x12, x13, .slice none 0 0]) w := by kernel_rfl
theorem CV3_5 (m : Int) (w : World) : (convert 3 5 (.int .i64 m)).run Try.prog w = .ok (.int .u8 (IntKind.u8.wrap m)) w := by kernel_rfl
theorem El29 : El Try.prog 29 5 [.int .u8 0] 1 1 := ⟨Try.underlying29, ⟨Try.t5, by kernel_rfl, ⟨_, rfl, rfl⟩, rfl, rfl⟩, by decide, rfl⟩
theorem BS29_2 (x0 : Int) (x1 : Int) (w : World) : (Instr.buildSlice 29 2 #[(0, .int .u8 x0), (1, .int .u8 x1)]).run Try.prog w = .ok (.slice (some ⟨w.heap.size, 0, none⟩) 2 2) (w.alloc (Blk 5 [.int .u8 x0, .int .u8 x1])) := by kernel_rfl
theorem FA31_2 (b i : Nat) (w : World) : (Instr.fieldAt 31 (.pointer (some ⟨b, i, none⟩)) 2).run Try.prog w = .ok (.pointer (some ⟨b, i + 5, none⟩)) w := by kernel_rfl
theorem FA62_0 (b i : Nat) (w : World) : (Instr.fieldAt 62 (.pointer (some ⟨b, i, none⟩)) 0).run Try.prog w = .ok (.pointer (some ⟨b, i, none⟩)) w := by kernel_rfl
theorem ZV28 (w : World) : (zeroValue 28).run Try.prog w = .ok (.agg #[.string ByteArray.empty, .int .i64 0, .int .i64 0, .int .i64 0]) w := by kernel_rfl
theorem BD28_  (w : World) : (Instr.build 28 #[]).run Try.prog w = .ok (.agg #[.string ByteArray.empty, .int .i64 0, .int .i64 0, .int .i64 0]) w := by kernel_rfl
theorem FA62_1 (b i : Nat) (w : World) : (Instr.fieldAt 62 (.pointer (some ⟨b, i, none⟩)) 1).run Try.prog w = .ok (.pointer (some ⟨b, i + 1, none⟩)) w := by kernel_rfl
theorem FA38_2 (b i : Nat) (w : World) : (Instr.fieldAt 38 (.pointer (some ⟨b, i, none⟩)) 2).run Try.prog w = .ok (.pointer (some ⟨b, i + 5, none⟩)) w := by kernel_rfl
theorem El44 : El Try.prog 44 29 [.slice none 0 0] 1 24 := ⟨Try.underlying44, ⟨Try.t29, by kernel_rfl, ⟨_, rfl, rfl⟩, rfl, rfl⟩, by decide, rfl⟩
theorem BS44_1 (x0a : Option Addr) (x0n x0c : Nat) (w : World) : (Instr.buildSlice 44 1 #[(0, .slice x0a x0n x0c)]).run Try.prog w = .ok (.slice (some ⟨w.heap.size, 0, none⟩) 1 1) (w.alloc (Blk 29 [.slice x0a x0n x0c])) := by kernel_rfl
theorem BD38_0_1_2 (x0 : Bool) (x10 x11 x12 x13 : Value) (x2a : Option Addr) (x2n x2c : Nat) (w : World) : (Instr.build 38 #[(0, .bool x0), (1, .agg #[x10, x11, x12, x13]), (2, .slice x2a x2n x2c)]).run Try.prog w = .ok (.agg #[.bool x0, x10, x11, x12, x13, .slice x2a x2n x2c]) w := by kernel_rfl
theorem BS29_1 (x0 : Int) (w : World) : (Instr.buildSlice 29 1 #[(0, .int .u8 x0)]).run Try.prog w = .ok (.slice (some ⟨w.heap.size, 0, none⟩) 1 1) (w.alloc (Blk 5 [.int .u8 x0])) := by kernel_rfl
theorem BD38_1_2 (x10 x11 x12 x13 : Value) (x2a : Option Addr) (x2n x2c : Nat) (w : World) : (Instr.build 38 #[(1, .agg #[x10, x11, x12, x13]), (2, .slice x2a x2n x2c)]).run Try.prog w = .ok (.agg #[.bool false, x10, x11, x12, x13, .slice x2a x2n x2c]) w := by kernel_rfl
theorem LN9 (ty : Nat) (s : ByteArray) (w : World) : (Builtin.len_ #[9] ty #[.string s]).run Try.prog w = .ok (.int .i64 s.size) w := by kernel_rfl
theorem BD38_  (w : World) : (Instr.build 38 #[]).run Try.prog w = .ok (.agg #[.bool false, .string ByteArray.empty, .int .i64 0, .int .i64 0, .int .i64 0, .slice none 0 0]) w := by kernel_rfl
theorem BD38_0_1 (x0 : Bool) (x10 x11 x12 x13 : Value) (w : World) : (Instr.build 38 #[(0, .bool x0), (1, .agg #[x10, x11, x12, x13])]).run Try.prog w = .ok (.agg #[.bool x0, x10, x11, x12, x13, .slice none 0 0]) w := by kernel_rfl
theorem BD31_  (w : World) : (Instr.build 31 #[]).run Try.prog w = .ok (.agg #[.bool false, .string ByteArray.empty, .int .i64 0, .int .i64 0, .int .i64 0, .slice none 0 0]) w := by kernel_rfl
theorem FA46_0 (b i : Nat) (w : World) : (Instr.fieldAt 46 (.pointer (some ⟨b, i, none⟩)) 0).run Try.prog w = .ok (.pointer (some ⟨b, i, none⟩)) w := by kernel_rfl
theorem El43 : El Try.prog 43 28 [.string ByteArray.empty, .int .i64 0, .int .i64 0, .int .i64 0] 4 40 := ⟨Try.underlying43, ⟨Try.t28, by kernel_rfl, ⟨_, rfl, rfl⟩, rfl, rfl⟩, by decide, rfl⟩
theorem BD31_0_1_2 (x0 : Bool) (x10 x11 x12 x13 : Value) (x2a : Option Addr) (x2n x2c : Nat) (w : World) : (Instr.build 31 #[(0, .bool x0), (1, .agg #[x10, x11, x12, x13]), (2, .slice x2a x2n x2c)]).run Try.prog w = .ok (.agg #[.bool x0, x10, x11, x12, x13, .slice x2a x2n x2c]) w := by kernel_rfl
theorem BS43_1 (x0_0 x0_1 x0_2 x0_3 : Value) (w : World) : (Instr.buildSlice 43 1 #[(0, .agg #[x0_0, x0_1, x0_2, x0_3])]).run Try.prog w = .ok (.slice (some ⟨w.heap.size, 0, none⟩) 1 1) (w.alloc (Blk 28 [x0_0, x0_1, x0_2, x0_3])) := by kernel_rfl
theorem LN29 (ty : Nat) (a : Option Addr) (m c : Nat) (w : World) : (Builtin.len_ #[29] ty #[.slice a m c]).run Try.prog w = .ok (.int .i64 m) w := by kernel_rfl
theorem BS29_0  (w : World) : (Instr.buildSlice 29 0 #[]).run Try.prog w = .ok (.slice (some ⟨w.heap.size, 0, none⟩) 0 0) (w.alloc (Blk 5 [])) := by kernel_rfl
theorem LN43 (ty : Nat) (a : Option Addr) (m c : Nat) (w : World) : (Builtin.len_ #[43] ty #[.slice a m c]).run Try.prog w = .ok (.int .i64 m) w := by kernel_rfl
end Go.Proofs.Ytlchcfegfonnmaa
