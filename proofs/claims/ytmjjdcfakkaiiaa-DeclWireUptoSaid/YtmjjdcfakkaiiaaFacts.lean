/- Closed facts on the tables of this program, written by a program of ours. -/
import Derived.Test.YtmjjdcfakkaiiaaProg
import Derived.Test.YtmjjdcfakkaiiaaMap
set_option maxRecDepth 100000
namespace Go.Proofs.Ytmjjdcfakkaiiaa
open Go.SL
theorem MX : Try.prog.follows .mixedOrders = true := by kernel_rfl
theorem AL27 (w : World) : (Instr.alloc 27 true (.tuple #[])).run Try.prog w = .ok (.pointer (some ⟨w.heap.size, 0, none⟩)) (w.alloc (Blk 27 [.string ByteArray.empty, .slice none 0 0, .int .i64 0, .int .i64 0, .int .i64 0, .int .i64 0, .int .i64 0, .int .i64 0, .int .i64 0, .int .i64 0, .int .i64 0, .int .i64 0])) := by kernel_rfl
theorem El35 : El Try.prog 35 27 [.string ByteArray.empty, .slice none 0 0, .int .i64 0, .int .i64 0, .int .i64 0, .int .i64 0, .int .i64 0, .int .i64 0, .int .i64 0, .int .i64 0, .int .i64 0, .int .i64 0] 12 120 := ⟨Try.underlying35, ⟨Try.t27, by kernel_rfl, ⟨_, rfl, rfl⟩, rfl, rfl⟩, by decide, rfl⟩
theorem BS35_2 (x0_0 x0_1 x0_2 x0_3 x0_4 x0_5 x0_6 x0_7 x0_8 x0_9 x0_10 x0_11 : Value) (x1_0 x1_1 x1_2 x1_3 x1_4 x1_5 x1_6 x1_7 x1_8 x1_9 x1_10 x1_11 : Value) (w : World) : (Instr.buildSlice 35 2 #[(0, .agg #[x0_0, x0_1, x0_2, x0_3, x0_4, x0_5, x0_6, x0_7, x0_8, x0_9, x0_10, x0_11]), (1, .agg #[x1_0, x1_1, x1_2, x1_3, x1_4, x1_5, x1_6, x1_7, x1_8, x1_9, x1_10, x1_11])]).run Try.prog w = .ok (.slice (some ⟨w.heap.size, 0, none⟩) 2 2) (w.alloc (Blk 27 [x0_0, x0_1, x0_2, x0_3, x0_4, x0_5, x0_6, x0_7, x0_8, x0_9, x0_10, x0_11, x1_0, x1_1, x1_2, x1_3, x1_4, x1_5, x1_6, x1_7, x1_8, x1_9, x1_10, x1_11])) := by kernel_rfl
theorem FA27_8 (b i : Nat) (w : World) : (Instr.fieldAt 27 (.pointer (some ⟨b, i, none⟩)) 8).run Try.prog w = .ok (.pointer (some ⟨b, i + 10, none⟩)) w := by kernel_rfl
theorem FA27_7 (b i : Nat) (w : World) : (Instr.fieldAt 27 (.pointer (some ⟨b, i, none⟩)) 7).run Try.prog w = .ok (.pointer (some ⟨b, i + 9, none⟩)) w := by kernel_rfl
theorem FA27_0 (b i : Nat) (w : World) : (Instr.fieldAt 27 (.pointer (some ⟨b, i, none⟩)) 0).run Try.prog w = .ok (.pointer (some ⟨b, i, none⟩)) w := by kernel_rfl
theorem FA27_1 (b i : Nat) (w : World) : (Instr.fieldAt 27 (.pointer (some ⟨b, i, none⟩)) 1).run Try.prog w = .ok (.pointer (some ⟨b, i + 1, none⟩)) w := by kernel_rfl
theorem LN23 (ty : Nat) (a : Option Addr) (m c : Nat) (w : World) : (Builtin.len_ #[23] ty #[.slice a m c]).run Try.prog w = .ok (.int .i64 m) w := by kernel_rfl
theorem El23 : El Try.prog 23 51 [.string ByteArray.empty, .string ByteArray.empty] 2 32 := ⟨Try.underlying23, ⟨Try.t51, by kernel_rfl, ⟨_, rfl, rfl⟩, rfl, rfl⟩, by decide, rfl⟩
theorem FA51_0 (b i : Nat) (w : World) : (Instr.fieldAt 51 (.pointer (some ⟨b, i, none⟩)) 0).run Try.prog w = .ok (.pointer (some ⟨b, i, none⟩)) w := by kernel_rfl
theorem FA51_1 (b i : Nat) (w : World) : (Instr.fieldAt 51 (.pointer (some ⟨b, i, none⟩)) 1).run Try.prog w = .ok (.pointer (some ⟨b, i + 1, none⟩)) w := by kernel_rfl
theorem LN22 (ty : Nat) (a : Option Addr) (m c : Nat) (w : World) : (Builtin.len_ #[22] ty #[.slice a m c]).run Try.prog w = .ok (.int .i64 m) w := by kernel_rfl
theorem El22 : El Try.prog 22 3 [.int .i64 0] 1 8 := ⟨Try.underlying22, ⟨Try.t3, by kernel_rfl, ⟨_, rfl, rfl⟩, rfl, rfl⟩, by decide, rfl⟩
theorem BD27_  (w : World) : (Instr.build 27 #[]).run Try.prog w = .ok (.agg #[.string ByteArray.empty, .slice none 0 0, .int .i64 0, .int .i64 0, .int .i64 0, .int .i64 0, .int .i64 0, .int .i64 0, .int .i64 0, .int .i64 0, .int .i64 0, .int .i64 0]) w := by kernel_rfl
theorem LN46 (ty : Nat) (a : Option Addr) (m c : Nat) (w : World) : (Builtin.len_ #[46] ty #[.slice a m c]).run Try.prog w = .ok (.int .i64 m) w := by kernel_rfl
theorem El46 : El Try.prog 46 5 [.int .u8 0] 1 1 := ⟨Try.underlying46, ⟨Try.t5, by kernel_rfl, ⟨_, rfl, rfl⟩, rfl, rfl⟩, by decide, rfl⟩
theorem El60 : El Try.prog 60 46 [.slice none 0 0] 1 24 := ⟨Try.underlying60, ⟨Try.t46, by kernel_rfl, ⟨_, rfl, rfl⟩, rfl, rfl⟩, by decide, rfl⟩
theorem BS60_2 (x0a : Option Addr) (x0n x0c : Nat) (x1a : Option Addr) (x1n x1c : Nat) (w : World) : (Instr.buildSlice 60 2 #[(0, .slice x0a x0n x0c), (1, .slice x1a x1n x1c)]).run Try.prog w = .ok (.slice (some ⟨w.heap.size, 0, none⟩) 2 2) (w.alloc (Blk 46 [.slice x0a x0n x0c, .slice x1a x1n x1c])) := by kernel_rfl
theorem El63 : El Try.prog 63 9 [.string ByteArray.empty] 1 16 := ⟨Try.underlying63, ⟨Try.t9, by kernel_rfl, ⟨_, rfl, rfl⟩, rfl, rfl⟩, by decide, rfl⟩
theorem BS63_2 (x0 : ByteArray) (x1 : ByteArray) (w : World) : (Instr.buildSlice 63 2 #[(0, .string x0), (1, .string x1)]).run Try.prog w = .ok (.slice (some ⟨w.heap.size, 0, none⟩) 2 2) (w.alloc (Blk 9 [.string x0, .string x1])) := by kernel_rfl
theorem BD25_0_1_2 (x0 : Int) (x1 : Int) (x2 : Int) (w : World) : (Instr.build 25 #[(0, .int .i64 x0), (1, .int .i64 x1), (2, .int .i64 x2)]).run Try.prog w = .ok (.agg #[.int .i64 x0, .int .i64 x1, .int .i64 x2]) w := by kernel_rfl
theorem BD27_0_1_2 (x0 : ByteArray) (x1a : Option Addr) (x1n x1c : Nat) (x20 x21 x22 : Value) (w : World) : (Instr.build 27 #[(0, .string x0), (1, .slice x1a x1n x1c), (2, .agg #[x20, x21, x22])]).run Try.prog w = .ok (.agg #[.string x0, .slice x1a x1n x1c, x20, x21, x22, .int .i64 0, .int .i64 0, .int .i64 0, .int .i64 0, .int .i64 0, .int .i64 0, .int .i64 0]) w := by kernel_rfl
theorem FA27_3 (b i : Nat) (w : World) : (Instr.fieldAt 27 (.pointer (some ⟨b, i, none⟩)) 3).run Try.prog w = .ok (.pointer (some ⟨b, i + 5, none⟩)) w := by kernel_rfl
theorem FA27_4 (b i : Nat) (w : World) : (Instr.fieldAt 27 (.pointer (some ⟨b, i, none⟩)) 4).run Try.prog w = .ok (.pointer (some ⟨b, i + 6, none⟩)) w := by kernel_rfl
theorem FA27_5 (b i : Nat) (w : World) : (Instr.fieldAt 27 (.pointer (some ⟨b, i, none⟩)) 5).run Try.prog w = .ok (.pointer (some ⟨b, i + 7, none⟩)) w := by kernel_rfl
theorem FA27_6 (b i : Nat) (w : World) : (Instr.fieldAt 27 (.pointer (some ⟨b, i, none⟩)) 6).run Try.prog w = .ok (.pointer (some ⟨b, i + 8, none⟩)) w := by kernel_rfl
theorem FA27_9 (b i : Nat) (w : World) : (Instr.fieldAt 27 (.pointer (some ⟨b, i, none⟩)) 9).run Try.prog w = .ok (.pointer (some ⟨b, i + 11, none⟩)) w := by kernel_rfl
theorem FA27_2 (b i : Nat) (w : World) : (Instr.fieldAt 27 (.pointer (some ⟨b, i, none⟩)) 2).run Try.prog w = .ok (.pointer (some ⟨b, i + 2, none⟩)) w := by kernel_rfl
theorem BS23_0  (w : World) : (Instr.buildSlice 23 0 #[]).run Try.prog w = .ok (.slice (some ⟨w.heap.size, 0, none⟩) 0 0) (w.alloc (Blk 51 [])) := by kernel_rfl
theorem BD27_0_4_5_6_8 (x0 : ByteArray) (x4 : Int) (x5 : Int) (x6 : Int) (x8 : Int) (w : World) : (Instr.build 27 #[(0, .string x0), (4, .int .i64 x4), (5, .int .i64 x5), (6, .int .i64 x6), (8, .int .i64 x8)]).run Try.prog w = .ok (.agg #[.string x0, .slice none 0 0, .int .i64 0, .int .i64 0, .int .i64 0, .int .i64 0, .int .i64 x4, .int .i64 x5, .int .i64 x6, .int .i64 0, .int .i64 x8, .int .i64 0]) w := by kernel_rfl
theorem BD72_0 (x0a : Option Addr) (x0n x0c : Nat) (w : World) : (Instr.build 72 #[(0, .slice x0a x0n x0c)]).run Try.prog w = .ok (.agg #[.slice x0a x0n x0c, .int .i64 0, .int .i64 0]) w := by kernel_rfl
theorem AL74 (w : World) : (Instr.alloc 74 true (.tuple #[])).run Try.prog w = .ok (.pointer (some ⟨w.heap.size, 0, none⟩)) (w.alloc (Blk 74 [.slice none 0 0])) := by kernel_rfl
theorem El96 : El Try.prog 96 75 [.pointer none] 1 8 := ⟨Try.underlying96, ⟨Try.t75, by kernel_rfl, ⟨_, rfl, rfl⟩, rfl, rfl⟩, by decide, rfl⟩
theorem BS96_1 (x0 : Option Addr) (w : World) : (Instr.buildSlice 96 1 #[(0, .pointer x0)]).run Try.prog w = .ok (.slice (some ⟨w.heap.size, 0, none⟩) 1 1) (w.alloc (Blk 75 [.pointer x0])) := by kernel_rfl
theorem AL51 (w : World) : (Instr.alloc 51 true (.tuple #[])).run Try.prog w = .ok (.pointer (some ⟨w.heap.size, 0, none⟩)) (w.alloc (Blk 51 [.string ByteArray.empty, .string ByteArray.empty])) := by kernel_rfl
theorem BS96_2 (x0 : Option Addr) (x1 : Option Addr) (w : World) : (Instr.buildSlice 96 2 #[(0, .pointer x0), (1, .pointer x1)]).run Try.prog w = .ok (.slice (some ⟨w.heap.size, 0, none⟩) 2 2) (w.alloc (Blk 75 [.pointer x0, .pointer x1])) := by kernel_rfl
theorem CV85_3 (m : Int) (w : World) : (convert 85 3 (.int .u64 m)).run Try.prog w = .ok (.int .i64 (IntKind.i64.wrap m)) w := by kernel_rfl
theorem BS22_10 (x0 : Int) (x1 : Int) (x2 : Int) (x3 : Int) (x4 : Int) (x5 : Int) (x6 : Int) (x7 : Int) (x8 : Int) (x9 : Int) (w : World) : (Instr.buildSlice 22 10 #[(0, .int .i64 x0), (1, .int .i64 x1), (2, .int .i64 x2), (3, .int .i64 x3), (4, .int .i64 x4), (5, .int .i64 x5), (6, .int .i64 x6), (7, .int .i64 x7), (8, .int .i64 x8), (9, .int .i64 x9)]).run Try.prog w = .ok (.slice (some ⟨w.heap.size, 0, none⟩) 10 10) (w.alloc (Blk 3 [.int .i64 x0, .int .i64 x1, .int .i64 x2, .int .i64 x3, .int .i64 x4, .int .i64 x5, .int .i64 x6, .int .i64 x7, .int .i64 x8, .int .i64 x9])) := by kernel_rfl
theorem FA72_2 (b i : Nat) (w : World) : (Instr.fieldAt 72 (.pointer (some ⟨b, i, none⟩)) 2).run Try.prog w = .ok (.pointer (some ⟨b, i + 2, none⟩)) w := by kernel_rfl
theorem FA72_1 (b i : Nat) (w : World) : (Instr.fieldAt 72 (.pointer (some ⟨b, i, none⟩)) 1).run Try.prog w = .ok (.pointer (some ⟨b, i + 1, none⟩)) w := by kernel_rfl
theorem FA72_0 (b i : Nat) (w : World) : (Instr.fieldAt 72 (.pointer (some ⟨b, i, none⟩)) 0).run Try.prog w = .ok (.pointer (some ⟨b, i, none⟩)) w := by kernel_rfl
theorem AL44 (w : World) : (Instr.alloc 44 true (.tuple #[])).run Try.prog w = .ok (.pointer (some ⟨w.heap.size, 0, none⟩)) (w.alloc (Blk 44 [.pointer none])) := by kernel_rfl
theorem BS23_1 (x0_0 x0_1 : Value) (w : World) : (Instr.buildSlice 23 1 #[(0, .agg #[x0_0, x0_1])]).run Try.prog w = .ok (.slice (some ⟨w.heap.size, 0, none⟩) 1 1) (w.alloc (Blk 51 [x0_0, x0_1])) := by kernel_rfl
theorem BD51_0_1 (x0 : ByteArray) (x1 : ByteArray) (w : World) : (Instr.build 51 #[(0, .string x0), (1, .string x1)]).run Try.prog w = .ok (.agg #[.string x0, .string x1]) w := by kernel_rfl
theorem BS23_2 (x0_0 x0_1 : Value) (x1_0 x1_1 : Value) (w : World) : (Instr.buildSlice 23 2 #[(0, .agg #[x0_0, x0_1]), (1, .agg #[x1_0, x1_1])]).run Try.prog w = .ok (.slice (some ⟨w.heap.size, 0, none⟩) 2 2) (w.alloc (Blk 51 [x0_0, x0_1, x1_0, x1_1])) := by kernel_rfl
theorem LN9 (ty : Nat) (s : ByteArray) (w : World) : (Builtin.len_ #[9] ty #[.string s]).run Try.prog w = .ok (.int .i64 s.size) w := by kernel_rfl
theorem BS46_0  (w : World) : (Instr.buildSlice 46 0 #[]).run Try.prog w = .ok (.slice (some ⟨w.heap.size, 0, none⟩) 0 0) (w.alloc (Blk 5 [])) := by kernel_rfl
theorem CV3_85 (m : Int) (w : World) : (convert 3 85 (.int .i64 m)).run Try.prog w = .ok (.int .u64 (IntKind.u64.wrap m)) w := by kernel_rfl
theorem FA74_0 (b i : Nat) (w : World) : (Instr.fieldAt 74 (.pointer (some ⟨b, i, none⟩)) 0).run Try.prog w = .ok (.pointer (some ⟨b, i, none⟩)) w := by kernel_rfl
theorem LN96 (ty : Nat) (a : Option Addr) (m c : Nat) (w : World) : (Builtin.len_ #[96] ty #[.slice a m c]).run Try.prog w = .ok (.int .i64 m) w := by kernel_rfl
theorem El108 : El Try.prog 108 82 [.pointer none] 1 8 := ⟨Try.underlying108, ⟨Try.t82, by kernel_rfl, ⟨_, rfl, rfl⟩, rfl, rfl⟩, by decide, rfl⟩
theorem BS108_10 (x0 : Option Addr) (x1 : Option Addr) (x2 : Option Addr) (x3 : Option Addr) (x4 : Option Addr) (x5 : Option Addr) (x6 : Option Addr) (x7 : Option Addr) (x8 : Option Addr) (x9 : Option Addr) (w : World) : (Instr.buildSlice 108 10 #[(0, .pointer x0), (1, .pointer x1), (2, .pointer x2), (3, .pointer x3), (4, .pointer x4), (5, .pointer x5), (6, .pointer x6), (7, .pointer x7), (8, .pointer x8), (9, .pointer x9)]).run Try.prog w = .ok (.slice (some ⟨w.heap.size, 0, none⟩) 10 10) (w.alloc (Blk 82 [.pointer x0, .pointer x1, .pointer x2, .pointer x3, .pointer x4, .pointer x5, .pointer x6, .pointer x7, .pointer x8, .pointer x9])) := by kernel_rfl
theorem CV5_85 (m : Int) (w : World) : (convert 5 85 (.int .u8 m)).run Try.prog w = .ok (.int .u64 (IntKind.u64.wrap m)) w := by kernel_rfl
theorem CV3_87 (m : Int) (w : World) : (convert 3 87 (.int .i64 m)).run Try.prog w = .ok (.int .u64 (IntKind.u64.wrap m)) w := by kernel_rfl
theorem EG51 : Try.prog.eqGuardType Try.prog.depth 51 = false := by kernel_rfl
theorem SE51 (x0 y0 : ByteArray) (x1 y1 : ByteArray) (w : World) : (Op.equalIn 10000 51 (.agg #[.string x0, .string x1]) (.agg #[.string y0, .string y1])).run Try.prog w = .ok (decide (x0 = y0 ∧ x1 = y1)) w := by
  have hfl : (Try.prog.fieldsOf 51).toList = [{ name := "Name", type := 9, offset := 0, embedded := false, tag := "", pkgPath := "", byteOffset := 0 }, { name := "Value", type := 9, offset := 1, embedded := false, tag := "", pkgPath := "", byteOffset := 16 }] := by kernel_rfl
  rw [show (10000 : Nat) = 9999 + 1 from rfl, run_equalIn_struct w 9999 51 _ _ (by kernel_rfl) (by kernel_rfl), hfl, show (9999 : Nat) = 9998 + 1 from rfl, (eqF_cons (a := .string x0) (b := .string y0) (by decide) (fun w => by kernel_rfl) (fun w => by kernel_rfl) (fun w => run_equalIn_string w 9998 9 x0 y0 Try.underlying9) (fun w => (eqF_cons (a := .string x1) (b := .string y1) (by decide) (fun w => by kernel_rfl) (fun w => by kernel_rfl) (fun w => run_equalIn_string w 9998 9 x1 y1 Try.underlying9) (fun w => eqF_nil))))]
  congr 1; rw [Bool.eq_iff_iff]; simp [beqL]
theorem AL102 (w : World) : (Instr.alloc 102 true (.tuple #[])).run Try.prog w = .ok (.pointer (some ⟨w.heap.size, 0, none⟩)) (w.alloc (Blk 102 [.pointer none, .slice none 0 0])) := by kernel_rfl
theorem CV85_5 (m : Int) (w : World) : (convert 85 5 (.int .u64 m)).run Try.prog w = .ok (.int .u8 (IntKind.u8.wrap m)) w := by kernel_rfl
theorem BS46_1 (x0 : Int) (w : World) : (Instr.buildSlice 46 1 #[(0, .int .u8 x0)]).run Try.prog w = .ok (.slice (some ⟨w.heap.size, 0, none⟩) 1 1) (w.alloc (Blk 5 [.int .u8 x0])) := by kernel_rfl
theorem LN108 (ty : Nat) (a : Option Addr) (m c : Nat) (w : World) : (Builtin.len_ #[108] ty #[.slice a m c]).run Try.prog w = .ok (.int .i64 m) w := by kernel_rfl
theorem FA102_1 (b i : Nat) (w : World) : (Instr.fieldAt 102 (.pointer (some ⟨b, i, none⟩)) 1).run Try.prog w = .ok (.pointer (some ⟨b, i + 1, none⟩)) w := by kernel_rfl
theorem FA102_0 (b i : Nat) (w : World) : (Instr.fieldAt 102 (.pointer (some ⟨b, i, none⟩)) 0).run Try.prog w = .ok (.pointer (some ⟨b, i, none⟩)) w := by kernel_rfl
end Go.Proofs.Ytmjjdcfakkaiiaa
