/- Closed facts on the tables of this program, written by a program of ours. -/
import Derived.Test.YtofnocjopdgeaaaProg
import Derived.Test.YtofnocjopdgeaaaMap
set_option maxRecDepth 100000
namespace Go.Proofs.Ytofnocjopdgeaaa
open Go.SL
theorem MX : Try.prog.follows .mixedOrders = true := by kernel_rfl
theorem BD29_  (w : World) : (Instr.build 29 #[]).run Try.prog w = .ok (.agg #[.slice none 0 0, .slice none 0 0]) w := by kernel_rfl
theorem El30 : El Try.prog 30 9 [.string ByteArray.empty] 1 16 := ⟨Try.underlying30, ⟨Try.t9, by kernel_rfl, ⟨_, rfl, rfl⟩, rfl, rfl⟩, by decide, rfl⟩
theorem BS30_3 (x0 : ByteArray) (x1 : ByteArray) (x2 : ByteArray) (w : World) : (Instr.buildSlice 30 3 #[(0, .string x0), (1, .string x1), (2, .string x2)]).run Try.prog w = .ok (.slice (some ⟨w.heap.size, 0, none⟩) 3 3) (w.alloc (Blk 9 [.string x0, .string x1, .string x2])) := by kernel_rfl
theorem LN22 (ty : Nat) (a : Option Addr) (m c : Nat) (w : World) : (Builtin.len_ #[22] ty #[.slice a m c]).run Try.prog w = .ok (.int .i64 m) w := by kernel_rfl
theorem El22 : El Try.prog 22 3 [.int .i64 0] 1 8 := ⟨Try.underlying22, ⟨Try.t3, by kernel_rfl, ⟨_, rfl, rfl⟩, rfl, rfl⟩, by decide, rfl⟩
theorem AL37 (w : World) : (Instr.alloc 37 true (.tuple #[])).run Try.prog w = .ok (.pointer (some ⟨w.heap.size, 0, none⟩)) (w.alloc (Blk 37 [.bool false, .string ByteArray.empty, .int .i64 0, .int .i64 0, .int .i64 0, .slice none 0 0])) := by kernel_rfl
theorem FA37_1 (b i : Nat) (w : World) : (Instr.fieldAt 37 (.pointer (some ⟨b, i, none⟩)) 1).run Try.prog w = .ok (.pointer (some ⟨b, i + 1, none⟩)) w := by kernel_rfl
theorem FA34_0 (b i : Nat) (w : World) : (Instr.fieldAt 34 (.pointer (some ⟨b, i, none⟩)) 0).run Try.prog w = .ok (.pointer (some ⟨b, i, none⟩)) w := by kernel_rfl
theorem FA34_1 (b i : Nat) (w : World) : (Instr.fieldAt 34 (.pointer (some ⟨b, i, none⟩)) 1).run Try.prog w = .ok (.pointer (some ⟨b, i + 1, none⟩)) w := by kernel_rfl
theorem AL41 (w : World) : (Instr.alloc 41 true (.tuple #[])).run Try.prog w = .ok (.pointer (some ⟨w.heap.size, 0, none⟩)) (w.alloc (Blk 41 [.bool false, .string ByteArray.empty, .int .i64 0, .int .i64 0, .int .i64 0, .slice none 0 0])) := by kernel_rfl
theorem AL34 (w : World) : (Instr.alloc 34 true (.tuple #[])).run Try.prog w = .ok (.pointer (some ⟨w.heap.size, 0, none⟩)) (w.alloc (Blk 34 [.string ByteArray.empty, .int .i64 0, .int .i64 0, .int .i64 0])) := by kernel_rfl
theorem FA37_0 (b i : Nat) (w : World) : (Instr.fieldAt 37 (.pointer (some ⟨b, i, none⟩)) 0).run Try.prog w = .ok (.pointer (some ⟨b, i, none⟩)) w := by kernel_rfl
theorem EG34 : Try.prog.eqGuardType Try.prog.depth 34 = false := by kernel_rfl
theorem SE34 (x0 y0 : ByteArray) (x1 y1 : Int) (x2 y2 : Int) (x3 y3 : Int) (w : World) : (Op.equalIn 10000 34 (.agg #[.string x0, .int .i64 x1, .int .i64 x2, .int .i64 x3]) (.agg #[.string y0, .int .i64 y1, .int .i64 y2, .int .i64 y3])).run Try.prog w = .ok (decide (x0 = y0 ∧ x1 = y1 ∧ x2 = y2 ∧ x3 = y3)) w := by
  have hfl : (Try.prog.fieldsOf 34).toList = [{ name := "Rule", type := 9, offset := 0, embedded := false, tag := "", pkgPath := "", byteOffset := 0 }, { name := "Holder", type := 3, offset := 1, embedded := false, tag := "", pkgPath := "", byteOffset := 16 }, { name := "Token", type := 3, offset := 2, embedded := false, tag := "", pkgPath := "", byteOffset := 24 }, { name := "Until", type := 3, offset := 3, embedded := false, tag := "", pkgPath := "", byteOffset := 32 }] := by kernel_rfl
  rw [show (10000 : Nat) = 9999 + 1 from rfl, run_equalIn_struct w 9999 34 _ _ (by kernel_rfl) (by kernel_rfl), hfl, show (9999 : Nat) = 9998 + 1 from rfl, (eqF_cons (a := .string x0) (b := .string y0) (by decide) (fun w => by kernel_rfl) (fun w => by kernel_rfl) (fun w => run_equalIn_string w 9998 9 x0 y0 Try.underlying9) (fun w => (eqF_cons (a := .int .i64 x1) (b := .int .i64 y1) (by decide) (fun w => by kernel_rfl) (fun w => by kernel_rfl) (fun w => run_equalIn_int w 9998 3 .i64 .i64 x1 y1 Try.underlying3) (fun w => (eqF_cons (a := .int .i64 x2) (b := .int .i64 y2) (by decide) (fun w => by kernel_rfl) (fun w => by kernel_rfl) (fun w => run_equalIn_int w 9998 3 .i64 .i64 x2 y2 Try.underlying3) (fun w => (eqF_cons (a := .int .i64 x3) (b := .int .i64 y3) (by decide) (fun w => by kernel_rfl) (fun w => by kernel_rfl) (fun w => run_equalIn_int w 9998 3 .i64 .i64 x3 y3 Try.underlying3) (fun w => eqF_nil))))))))]
  congr 1; rw [Bool.eq_iff_iff]; simp [beqL]
theorem FA29_1 (b i : Nat) (w : World) : (Instr.fieldAt 29 (.pointer (some ⟨b, i, none⟩)) 1).run Try.prog w = .ok (.pointer (some ⟨b, i + 1, none⟩)) w := by kernel_rfl
theorem BD34_0_1_2_3 (x0 : ByteArray) (x1 : Int) (x2 : Int) (x3 : Int) (w : World) : (Instr.build 34 #[(0, .string x0), (1, .int .i64 x1), (2, .int .i64 x2), (3, .int .i64 x3)]).run Try.prog w = .ok (.agg #[.string x0, .int .i64 x1, .int .i64 x2, .int .i64 x3]) w := by kernel_rfl
theorem FA37_2 (b i : Nat) (w : World) : (Instr.fieldAt 37 (.pointer (some ⟨b, i, none⟩)) 2).run Try.prog w = .ok (.pointer (some ⟨b, i + 5, none⟩)) w := by kernel_rfl
theorem LN35 (ty : Nat) (a : Option Addr) (m c : Nat) (w : World) : (Builtin.len_ #[35] ty #[.slice a m c]).run Try.prog w = .ok (.int .i64 m) w := by kernel_rfl
theorem El35 : El Try.prog 35 5 [.int .u8 0] 1 1 := ⟨Try.underlying35, ⟨Try.t5, by kernel_rfl, ⟨_, rfl, rfl⟩, rfl, rfl⟩, by decide, rfl⟩
theorem El27 : El Try.prog 27 35 [.slice none 0 0] 1 24 := ⟨Try.underlying27, ⟨Try.t35, by kernel_rfl, ⟨_, rfl, rfl⟩, rfl, rfl⟩, by decide, rfl⟩
theorem BS27_4 (x0a : Option Addr) (x0n x0c : Nat) (x1a : Option Addr) (x1n x1c : Nat) (x2a : Option Addr) (x2n x2c : Nat) (x3a : Option Addr) (x3n x3c : Nat) (w : World) : (Instr.buildSlice 27 4 #[(0, .slice x0a x0n x0c), (1, .slice x1a x1n x1c), (2, .slice x2a x2n x2c), (3, .slice x3a x3n x3c)]).run Try.prog w = .ok (.slice (some ⟨w.heap.size, 0, none⟩) 4 4) (w.alloc (Blk 35 [.slice x0a x0n x0c, .slice x1a x1n x1c, .slice x2a x2n x2c, .slice x3a x3n x3c])) := by kernel_rfl
theorem BS35_1 (x0 : Int) (w : World) : (Instr.buildSlice 35 1 #[(0, .int .u8 x0)]).run Try.prog w = .ok (.slice (some ⟨w.heap.size, 0, none⟩) 1 1) (w.alloc (Blk 5 [.int .u8 x0])) := by kernel_rfl
theorem BS35_0  (w : World) : (Instr.buildSlice 35 0 #[]).run Try.prog w = .ok (.slice (some ⟨w.heap.size, 0, none⟩) 0 0) (w.alloc (Blk 5 [])) := by kernel_rfl
theorem FA41_1 (b i : Nat) (w : World) : (Instr.fieldAt 41 (.pointer (some ⟨b, i, none⟩)) 1).run Try.prog w = .ok (.pointer (some ⟨b, i + 1, none⟩)) w := by kernel_rfl
theorem BD41_1_2 (x10 x11 x12 x13 : Value) (x2a : Option Addr) (x2n x2c : Nat) (w : World) : (Instr.build 41 #[(1, .agg #[x10, x11, x12, x13]), (2, .slice x2a x2n x2c)]).run Try.prog w = .ok (.agg #[.bool false, x10, x11, x12, x13, .slice x2a x2n x2c]) w := by kernel_rfl
theorem BD41_1 (x10 x11 x12 x13 : Value) (w : World) : (Instr.build 41 #[(1, .agg #[x10, x11, x12, x13])]).run Try.prog w = .ok (.agg #[.bool false, x10, x11, x12, x13, .slice none 0 0]) w := by kernel_rfl
theorem LN27 (ty : Nat) (a : Option Addr) (m c : Nat) (w : World) : (Builtin.len_ #[27] ty #[.slice a m c]).run Try.prog w = .ok (.int .i64 m) w := by kernel_rfl
theorem LN79 (ty : Nat) (a : Option Addr) (m c : Nat) (w : World) : (Builtin.len_ #[79] ty #[.slice a m c]).run Try.prog w = .ok (.int .i64 m) w := by kernel_rfl
theorem El79 : El Try.prog 79 41 [.bool false, .string ByteArray.empty, .int .i64 0, .int .i64 0, .int .i64 0, .slice none 0 0] 6 72 := ⟨Try.underlying79, ⟨Try.t41, by kernel_rfl, ⟨_, rfl, rfl⟩, rfl, rfl⟩, by decide, rfl⟩
theorem FA41_2 (b i : Nat) (w : World) : (Instr.fieldAt 41 (.pointer (some ⟨b, i, none⟩)) 2).run Try.prog w = .ok (.pointer (some ⟨b, i + 5, none⟩)) w := by kernel_rfl
theorem El84 : El Try.prog 84 85 [.pointer none] 1 8 := ⟨Try.underlying84, ⟨Try.t85, by kernel_rfl, ⟨_, rfl, rfl⟩, rfl, rfl⟩, by decide, rfl⟩
theorem BS84_1 (x0 : Option Addr) (w : World) : (Instr.buildSlice 84 1 #[(0, .pointer x0)]).run Try.prog w = .ok (.slice (some ⟨w.heap.size, 0, none⟩) 1 1) (w.alloc (Blk 85 [.pointer x0])) := by kernel_rfl
theorem El82 : El Try.prog 82 72 [.pointer none] 1 8 := ⟨Try.underlying82, ⟨Try.t72, by kernel_rfl, ⟨_, rfl, rfl⟩, rfl, rfl⟩, by decide, rfl⟩
theorem LN87 (ty : Nat) (a : Option Addr) (m c : Nat) (w : World) : (Builtin.len_ #[87] ty #[.slice a m c]).run Try.prog w = .ok (.int .i64 m) w := by kernel_rfl
theorem LN75 (ty : Nat) (a : Option Addr) (m c : Nat) (w : World) : (Builtin.len_ #[75] ty #[.slice a m c]).run Try.prog w = .ok (.int .i64 m) w := by kernel_rfl
theorem El87 : El Try.prog 87 93 [.int .i64 0, .int .i64 0, .int .i64 0, .int .i64 0, .int .i64 0, .int .i64 0, .slice none 0 0] 7 72 := ⟨Try.underlying87, ⟨Try.t93, by kernel_rfl, ⟨_, rfl, rfl⟩, rfl, rfl⟩, by decide, rfl⟩
theorem AL93 (w : World) : (Instr.alloc 93 true (.tuple #[])).run Try.prog w = .ok (.pointer (some ⟨w.heap.size, 0, none⟩)) (w.alloc (Blk 93 [.int .i64 0, .int .i64 0, .int .i64 0, .int .i64 0, .int .i64 0, .int .i64 0, .slice none 0 0])) := by kernel_rfl
theorem FA93_2 (b i : Nat) (w : World) : (Instr.fieldAt 93 (.pointer (some ⟨b, i, none⟩)) 2).run Try.prog w = .ok (.pointer (some ⟨b, i + 2, none⟩)) w := by kernel_rfl
theorem El75 : El Try.prog 75 95 [.int .i64 0, .int .i64 0, .slice none 0 0] 3 40 := ⟨Try.underlying75, ⟨Try.t95, by kernel_rfl, ⟨_, rfl, rfl⟩, rfl, rfl⟩, by decide, rfl⟩
theorem FA95_1 (b i : Nat) (w : World) : (Instr.fieldAt 95 (.pointer (some ⟨b, i, none⟩)) 1).run Try.prog w = .ok (.pointer (some ⟨b, i + 1, none⟩)) w := by kernel_rfl
theorem FA95_0 (b i : Nat) (w : World) : (Instr.fieldAt 95 (.pointer (some ⟨b, i, none⟩)) 0).run Try.prog w = .ok (.pointer (some ⟨b, i, none⟩)) w := by kernel_rfl
theorem FA93_1 (b i : Nat) (w : World) : (Instr.fieldAt 93 (.pointer (some ⟨b, i, none⟩)) 1).run Try.prog w = .ok (.pointer (some ⟨b, i + 1, none⟩)) w := by kernel_rfl
theorem BS75_0  (w : World) : (Instr.buildSlice 75 0 #[]).run Try.prog w = .ok (.slice (some ⟨w.heap.size, 0, none⟩) 0 0) (w.alloc (Blk 95 [])) := by kernel_rfl
theorem BS87_0  (w : World) : (Instr.buildSlice 87 0 #[]).run Try.prog w = .ok (.slice (some ⟨w.heap.size, 0, none⟩) 0 0) (w.alloc (Blk 93 [])) := by kernel_rfl
theorem BD41_  (w : World) : (Instr.build 41 #[]).run Try.prog w = .ok (.agg #[.bool false, .string ByteArray.empty, .int .i64 0, .int .i64 0, .int .i64 0, .slice none 0 0]) w := by kernel_rfl
theorem BD95_0_1_2 (x0 : Int) (x1 : Int) (x2a : Option Addr) (x2n x2c : Nat) (w : World) : (Instr.build 95 #[(0, .int .i64 x0), (1, .int .i64 x1), (2, .slice x2a x2n x2c)]).run Try.prog w = .ok (.agg #[.int .i64 x0, .int .i64 x1, .slice x2a x2n x2c]) w := by kernel_rfl
theorem AL95 (w : World) : (Instr.alloc 95 true (.tuple #[])).run Try.prog w = .ok (.pointer (some ⟨w.heap.size, 0, none⟩)) (w.alloc (Blk 95 [.int .i64 0, .int .i64 0, .slice none 0 0])) := by kernel_rfl
theorem FA95_2 (b i : Nat) (w : World) : (Instr.fieldAt 95 (.pointer (some ⟨b, i, none⟩)) 2).run Try.prog w = .ok (.pointer (some ⟨b, i + 2, none⟩)) w := by kernel_rfl
theorem LN91 (ty : Nat) (a : Option Addr) (m c : Nat) (w : World) : (Builtin.len_ #[91] ty #[.slice a m c]).run Try.prog w = .ok (.int .i64 m) w := by kernel_rfl
theorem BD111_0 (x0 : Option Nat) (w : World) : (Instr.build 111 #[(0, .map x0)]).run Try.prog w = .ok (.agg #[.map x0, .slice none 0 0]) w := by kernel_rfl
theorem BD37_0_1 (x0 : Bool) (x10 x11 x12 x13 : Value) (w : World) : (Instr.build 37 #[(0, .bool x0), (1, .agg #[x10, x11, x12, x13])]).run Try.prog w = .ok (.agg #[.bool x0, x10, x11, x12, x13, .slice none 0 0]) w := by kernel_rfl
theorem CV3_5 (m : Int) (w : World) : (convert 3 5 (.int .i64 m)).run Try.prog w = .ok (.int .u8 (IntKind.u8.wrap m)) w := by kernel_rfl
theorem BS35_2 (x0 : Int) (x1 : Int) (w : World) : (Instr.buildSlice 35 2 #[(0, .int .u8 x0), (1, .int .u8 x1)]).run Try.prog w = .ok (.slice (some ⟨w.heap.size, 0, none⟩) 2 2) (w.alloc (Blk 5 [.int .u8 x0, .int .u8 x1])) := by kernel_rfl
theorem FA34_2 (b i : Nat) (w : World) : (Instr.fieldAt 34 (.pointer (some ⟨b, i, none⟩)) 2).run Try.prog w = .ok (.pointer (some ⟨b, i + 2, none⟩)) w := by kernel_rfl
theorem FA34_3 (b i : Nat) (w : World) : (Instr.fieldAt 34 (.pointer (some ⟨b, i, none⟩)) 3).run Try.prog w = .ok (.pointer (some ⟨b, i + 3, none⟩)) w := by kernel_rfl
theorem LN9 (ty : Nat) (s : ByteArray) (w : World) : (Builtin.len_ #[9] ty #[.string s]).run Try.prog w = .ok (.int .i64 s.size) w := by kernel_rfl
theorem FA111_0 (b i : Nat) (w : World) : (Instr.fieldAt 111 (.pointer (some ⟨b, i, none⟩)) 0).run Try.prog w = .ok (.pointer (some ⟨b, i, none⟩)) w := by kernel_rfl
theorem ZV34 (w : World) : (zeroValue 34).run Try.prog w = .ok (.agg #[.string ByteArray.empty, .int .i64 0, .int .i64 0, .int .i64 0]) w := by kernel_rfl
theorem BD41_0_1 (x0 : Bool) (x10 x11 x12 x13 : Value) (w : World) : (Instr.build 41 #[(0, .bool x0), (1, .agg #[x10, x11, x12, x13])]).run Try.prog w = .ok (.agg #[.bool x0, x10, x11, x12, x13, .slice none 0 0]) w := by kernel_rfl
theorem BD37_  (w : World) : (Instr.build 37 #[]).run Try.prog w = .ok (.agg #[.bool false, .string ByteArray.empty, .int .i64 0, .int .i64 0, .int .i64 0, .slice none 0 0]) w := by kernel_rfl
theorem FA29_0 (b i : Nat) (w : World) : (Instr.fieldAt 29 (.pointer (some ⟨b, i, none⟩)) 0).run Try.prog w = .ok (.pointer (some ⟨b, i, none⟩)) w := by kernel_rfl
theorem El26 : El Try.prog 26 34 [.string ByteArray.empty, .int .i64 0, .int .i64 0, .int .i64 0] 4 40 := ⟨Try.underlying26, ⟨Try.t34, by kernel_rfl, ⟨_, rfl, rfl⟩, rfl, rfl⟩, by decide, rfl⟩
theorem FA41_0 (b i : Nat) (w : World) : (Instr.fieldAt 41 (.pointer (some ⟨b, i, none⟩)) 0).run Try.prog w = .ok (.pointer (some ⟨b, i, none⟩)) w := by kernel_rfl
theorem BD37_0_1_2 (x0 : Bool) (x10 x11 x12 x13 : Value) (x2a : Option Addr) (x2n x2c : Nat) (w : World) : (Instr.build 37 #[(0, .bool x0), (1, .agg #[x10, x11, x12, x13]), (2, .slice x2a x2n x2c)]).run Try.prog w = .ok (.agg #[.bool x0, x10, x11, x12, x13, .slice x2a x2n x2c]) w := by kernel_rfl
theorem BD34_  (w : World) : (Instr.build 34 #[]).run Try.prog w = .ok (.agg #[.string ByteArray.empty, .int .i64 0, .int .i64 0, .int .i64 0]) w := by kernel_rfl
theorem FA111_1 (b i : Nat) (w : World) : (Instr.fieldAt 111 (.pointer (some ⟨b, i, none⟩)) 1).run Try.prog w = .ok (.pointer (some ⟨b, i + 1, none⟩)) w := by kernel_rfl
theorem BS27_1 (x0a : Option Addr) (x0n x0c : Nat) (w : World) : (Instr.buildSlice 27 1 #[(0, .slice x0a x0n x0c)]).run Try.prog w = .ok (.slice (some ⟨w.heap.size, 0, none⟩) 1 1) (w.alloc (Blk 35 [.slice x0a x0n x0c])) := by kernel_rfl
theorem BD41_0_1_2 (x0 : Bool) (x10 x11 x12 x13 : Value) (x2a : Option Addr) (x2n x2c : Nat) (w : World) : (Instr.build 41 #[(0, .bool x0), (1, .agg #[x10, x11, x12, x13]), (2, .slice x2a x2n x2c)]).run Try.prog w = .ok (.agg #[.bool x0, x10, x11, x12, x13, .slice x2a x2n x2c]) w := by kernel_rfl
theorem BS26_1 (x0_0 x0_1 x0_2 x0_3 : Value) (w : World) : (Instr.buildSlice 26 1 #[(0, .agg #[x0_0, x0_1, x0_2, x0_3])]).run Try.prog w = .ok (.slice (some ⟨w.heap.size, 0, none⟩) 1 1) (w.alloc (Blk 34 [x0_0, x0_1, x0_2, x0_3])) := by kernel_rfl
theorem AL118 (w : World) : (Instr.alloc 118 true (.tuple #[])).run Try.prog w = .ok (.pointer (some ⟨w.heap.size, 0, none⟩)) (w.alloc (Blk 118 [.slice none 0 0])) := by kernel_rfl
theorem BD126_0 (x0a : Option Addr) (x0n x0c : Nat) (w : World) : (Instr.build 126 #[(0, .slice x0a x0n x0c)]).run Try.prog w = .ok (.agg #[.slice x0a x0n x0c, .int .i64 0, .int .i64 0]) w := by kernel_rfl
theorem FA126_2 (b i : Nat) (w : World) : (Instr.fieldAt 126 (.pointer (some ⟨b, i, none⟩)) 2).run Try.prog w = .ok (.pointer (some ⟨b, i + 2, none⟩)) w := by kernel_rfl
theorem CV128_3 (m : Int) (w : World) : (convert 128 3 (.int .u64 m)).run Try.prog w = .ok (.int .i64 (IntKind.i64.wrap m)) w := by kernel_rfl
theorem FA126_1 (b i : Nat) (w : World) : (Instr.fieldAt 126 (.pointer (some ⟨b, i, none⟩)) 1).run Try.prog w = .ok (.pointer (some ⟨b, i + 1, none⟩)) w := by kernel_rfl
theorem FA126_0 (b i : Nat) (w : World) : (Instr.fieldAt 126 (.pointer (some ⟨b, i, none⟩)) 0).run Try.prog w = .ok (.pointer (some ⟨b, i, none⟩)) w := by kernel_rfl
theorem BD41_0 (x0 : Bool) (w : World) : (Instr.build 41 #[(0, .bool x0)]).run Try.prog w = .ok (.agg #[.bool x0, .string ByteArray.empty, .int .i64 0, .int .i64 0, .int .i64 0, .slice none 0 0]) w := by kernel_rfl
theorem BD133_0_1_2 (x0 : Option Addr) (x1 : Option Addr) (x2 : Option Addr) (w : World) : (Instr.build 133 #[(0, .pointer x0), (1, .pointer x1), (2, .pointer x2)]).run Try.prog w = .ok (.agg #[.pointer x0, .pointer x1, .pointer x2]) w := by kernel_rfl
theorem BD136_0 (x0a : Option Addr) (x0n x0c : Nat) (w : World) : (Instr.build 136 #[(0, .slice x0a x0n x0c)]).run Try.prog w = .ok (.agg #[.slice x0a x0n x0c, .int .i64 0]) w := by kernel_rfl
theorem BD37_0 (x0 : Bool) (w : World) : (Instr.build 37 #[(0, .bool x0)]).run Try.prog w = .ok (.agg #[.bool x0, .string ByteArray.empty, .int .i64 0, .int .i64 0, .int .i64 0, .slice none 0 0]) w := by kernel_rfl
theorem BD140_0_1 (x0 : Int) (x1 : Int) (w : World) : (Instr.build 140 #[(0, .int .i64 x0), (1, .int .i64 x1)]).run Try.prog w = .ok (.agg #[.int .i64 x0, .int .i64 x1, .int .i64 0, .int .i64 0, .int .i64 0, .slice none 0 0, .int .i64 0, .map none, .map none]) w := by kernel_rfl
theorem FA140_1 (b i : Nat) (w : World) : (Instr.fieldAt 140 (.pointer (some ⟨b, i, none⟩)) 1).run Try.prog w = .ok (.pointer (some ⟨b, i + 1, none⟩)) w := by kernel_rfl
theorem FA140_0 (b i : Nat) (w : World) : (Instr.fieldAt 140 (.pointer (some ⟨b, i, none⟩)) 0).run Try.prog w = .ok (.pointer (some ⟨b, i, none⟩)) w := by kernel_rfl
theorem FA140_2 (b i : Nat) (w : World) : (Instr.fieldAt 140 (.pointer (some ⟨b, i, none⟩)) 2).run Try.prog w = .ok (.pointer (some ⟨b, i + 2, none⟩)) w := by kernel_rfl
theorem FA140_4 (b i : Nat) (w : World) : (Instr.fieldAt 140 (.pointer (some ⟨b, i, none⟩)) 4).run Try.prog w = .ok (.pointer (some ⟨b, i + 4, none⟩)) w := by kernel_rfl
theorem FA140_7 (b i : Nat) (w : World) : (Instr.fieldAt 140 (.pointer (some ⟨b, i, none⟩)) 7).run Try.prog w = .ok (.pointer (some ⟨b, i + 7, none⟩)) w := by kernel_rfl
theorem BD144_0_2 (x0 : Int) (x2 : Int) (w : World) : (Instr.build 144 #[(0, .int .i64 x0), (2, .int .i64 x2)]).run Try.prog w = .ok (.agg #[.int .i64 x0, .int .i64 0, .int .i64 x2, .int .i64 0, .int .i64 0, .int .i64 0, .slice none 0 0]) w := by kernel_rfl
theorem FA140_5 (b i : Nat) (w : World) : (Instr.fieldAt 140 (.pointer (some ⟨b, i, none⟩)) 5).run Try.prog w = .ok (.pointer (some ⟨b, i + 5, none⟩)) w := by kernel_rfl
theorem BS79_1 (x0_0 x0_1 x0_2 x0_3 x0_4 x0_5 : Value) (w : World) : (Instr.buildSlice 79 1 #[(0, .agg #[x0_0, x0_1, x0_2, x0_3, x0_4, x0_5])]).run Try.prog w = .ok (.slice (some ⟨w.heap.size, 0, none⟩) 1 1) (w.alloc (Blk 41 [x0_0, x0_1, x0_2, x0_3, x0_4, x0_5])) := by kernel_rfl
theorem FA140_6 (b i : Nat) (w : World) : (Instr.fieldAt 140 (.pointer (some ⟨b, i, none⟩)) 6).run Try.prog w = .ok (.pointer (some ⟨b, i + 6, none⟩)) w := by kernel_rfl
theorem BD111_0_1 (x0 : Option Nat) (x1a : Option Addr) (x1n x1c : Nat) (w : World) : (Instr.build 111 #[(0, .map x0), (1, .slice x1a x1n x1c)]).run Try.prog w = .ok (.agg #[.map x0, .slice x1a x1n x1c]) w := by kernel_rfl
theorem BS82_1 (x0 : Option Addr) (w : World) : (Instr.buildSlice 82 1 #[(0, .pointer x0)]).run Try.prog w = .ok (.slice (some ⟨w.heap.size, 0, none⟩) 1 1) (w.alloc (Blk 72 [.pointer x0])) := by kernel_rfl
theorem El148 : El Try.prog 148 4 [.bool false] 1 1 := ⟨Try.underlying148, ⟨Try.t4, by kernel_rfl, ⟨_, rfl, rfl⟩, rfl, rfl⟩, by decide, rfl⟩
theorem BD150_0_1_7_9 (x0 : Int) (x1 : Int) (x7a : Option Addr) (x7n x7c : Nat) (x9a : Option Addr) (x9n x9c : Nat) (w : World) : (Instr.build 150 #[(0, .int .i64 x0), (1, .int .i64 x1), (7, .slice x7a x7n x7c), (9, .slice x9a x9n x9c)]).run Try.prog w = .ok (.agg #[.int .i64 x0, .int .i64 x1, .int .i64 0, .int .i64 0, .slice none 0 0, .int .i64 0, .int .i64 0, .slice x7a x7n x7c, .slice none 0 0, .slice x9a x9n x9c]) w := by kernel_rfl
theorem FA150_1 (b i : Nat) (w : World) : (Instr.fieldAt 150 (.pointer (some ⟨b, i, none⟩)) 1).run Try.prog w = .ok (.pointer (some ⟨b, i + 1, none⟩)) w := by kernel_rfl
theorem FA150_0 (b i : Nat) (w : World) : (Instr.fieldAt 150 (.pointer (some ⟨b, i, none⟩)) 0).run Try.prog w = .ok (.pointer (some ⟨b, i, none⟩)) w := by kernel_rfl
theorem FA150_2 (b i : Nat) (w : World) : (Instr.fieldAt 150 (.pointer (some ⟨b, i, none⟩)) 2).run Try.prog w = .ok (.pointer (some ⟨b, i + 2, none⟩)) w := by kernel_rfl
theorem FA150_6 (b i : Nat) (w : World) : (Instr.fieldAt 150 (.pointer (some ⟨b, i, none⟩)) 6).run Try.prog w = .ok (.pointer (some ⟨b, i + 6, none⟩)) w := by kernel_rfl
theorem FA150_4 (b i : Nat) (w : World) : (Instr.fieldAt 150 (.pointer (some ⟨b, i, none⟩)) 4).run Try.prog w = .ok (.pointer (some ⟨b, i + 4, none⟩)) w := by kernel_rfl
theorem El91 : El Try.prog 91 37 [.bool false, .string ByteArray.empty, .int .i64 0, .int .i64 0, .int .i64 0, .slice none 0 0] 6 72 := ⟨Try.underlying91, ⟨Try.t37, by kernel_rfl, ⟨_, rfl, rfl⟩, rfl, rfl⟩, by decide, rfl⟩
theorem BS91_1 (x0_0 x0_1 x0_2 x0_3 x0_4 x0_5 : Value) (w : World) : (Instr.buildSlice 91 1 #[(0, .agg #[x0_0, x0_1, x0_2, x0_3, x0_4, x0_5])]).run Try.prog w = .ok (.slice (some ⟨w.heap.size, 0, none⟩) 1 1) (w.alloc (Blk 37 [x0_0, x0_1, x0_2, x0_3, x0_4, x0_5])) := by kernel_rfl
theorem AL144 (w : World) : (Instr.alloc 144 true (.tuple #[])).run Try.prog w = .ok (.pointer (some ⟨w.heap.size, 0, none⟩)) (w.alloc (Blk 144 [.int .i64 0, .int .i64 0, .int .i64 0, .int .i64 0, .int .i64 0, .int .i64 0, .slice none 0 0])) := by kernel_rfl
theorem FA144_1 (b i : Nat) (w : World) : (Instr.fieldAt 144 (.pointer (some ⟨b, i, none⟩)) 1).run Try.prog w = .ok (.pointer (some ⟨b, i + 1, none⟩)) w := by kernel_rfl
theorem AL155 (w : World) : (Instr.alloc 155 true (.tuple #[])).run Try.prog w = .ok (.pointer (some ⟨w.heap.size, 0, none⟩)) (w.alloc (Blk 155 [.nilFunc, .nilFunc, .nilFunc, .nilFunc])) := by kernel_rfl
theorem FA144_0 (b i : Nat) (w : World) : (Instr.fieldAt 144 (.pointer (some ⟨b, i, none⟩)) 0).run Try.prog w = .ok (.pointer (some ⟨b, i, none⟩)) w := by kernel_rfl
theorem FA93_0 (b i : Nat) (w : World) : (Instr.fieldAt 93 (.pointer (some ⟨b, i, none⟩)) 0).run Try.prog w = .ok (.pointer (some ⟨b, i, none⟩)) w := by kernel_rfl
theorem FA93_3 (b i : Nat) (w : World) : (Instr.fieldAt 93 (.pointer (some ⟨b, i, none⟩)) 3).run Try.prog w = .ok (.pointer (some ⟨b, i + 3, none⟩)) w := by kernel_rfl
theorem FA150_3 (b i : Nat) (w : World) : (Instr.fieldAt 150 (.pointer (some ⟨b, i, none⟩)) 3).run Try.prog w = .ok (.pointer (some ⟨b, i + 3, none⟩)) w := by kernel_rfl
theorem FA150_5 (b i : Nat) (w : World) : (Instr.fieldAt 150 (.pointer (some ⟨b, i, none⟩)) 5).run Try.prog w = .ok (.pointer (some ⟨b, i + 5, none⟩)) w := by kernel_rfl
theorem BD93_0_1_2_3_4_5_6 (x0 : Int) (x1 : Int) (x2 : Int) (x3 : Int) (x4 : Int) (x5 : Int) (x6a : Option Addr) (x6n x6c : Nat) (w : World) : (Instr.build 93 #[(0, .int .i64 x0), (1, .int .i64 x1), (2, .int .i64 x2), (3, .int .i64 x3), (4, .int .i64 x4), (5, .int .i64 x5), (6, .slice x6a x6n x6c)]).run Try.prog w = .ok (.agg #[.int .i64 x0, .int .i64 x1, .int .i64 x2, .int .i64 x3, .int .i64 x4, .int .i64 x5, .slice x6a x6n x6c]) w := by kernel_rfl
theorem BS87_1 (x0_0 x0_1 x0_2 x0_3 x0_4 x0_5 x0_6 : Value) (w : World) : (Instr.buildSlice 87 1 #[(0, .agg #[x0_0, x0_1, x0_2, x0_3, x0_4, x0_5, x0_6])]).run Try.prog w = .ok (.slice (some ⟨w.heap.size, 0, none⟩) 1 1) (w.alloc (Blk 93 [x0_0, x0_1, x0_2, x0_3, x0_4, x0_5, x0_6])) := by kernel_rfl
theorem FA150_7 (b i : Nat) (w : World) : (Instr.fieldAt 150 (.pointer (some ⟨b, i, none⟩)) 7).run Try.prog w = .ok (.pointer (some ⟨b, i + 7, none⟩)) w := by kernel_rfl
theorem FA150_8 (b i : Nat) (w : World) : (Instr.fieldAt 150 (.pointer (some ⟨b, i, none⟩)) 8).run Try.prog w = .ok (.pointer (some ⟨b, i + 8, none⟩)) w := by kernel_rfl
theorem FA93_6 (b i : Nat) (w : World) : (Instr.fieldAt 93 (.pointer (some ⟨b, i, none⟩)) 6).run Try.prog w = .ok (.pointer (some ⟨b, i + 6, none⟩)) w := by kernel_rfl
theorem FA93_5 (b i : Nat) (w : World) : (Instr.fieldAt 93 (.pointer (some ⟨b, i, none⟩)) 5).run Try.prog w = .ok (.pointer (some ⟨b, i + 5, none⟩)) w := by kernel_rfl
theorem BD93_0_1_2_3_5 (x0 : Int) (x1 : Int) (x2 : Int) (x3 : Int) (x5 : Int) (w : World) : (Instr.build 93 #[(0, .int .i64 x0), (1, .int .i64 x1), (2, .int .i64 x2), (3, .int .i64 x3), (5, .int .i64 x5)]).run Try.prog w = .ok (.agg #[.int .i64 x0, .int .i64 x1, .int .i64 x2, .int .i64 x3, .int .i64 0, .int .i64 x5, .slice none 0 0]) w := by kernel_rfl
theorem FA150_9 (b i : Nat) (w : World) : (Instr.fieldAt 150 (.pointer (some ⟨b, i, none⟩)) 9).run Try.prog w = .ok (.pointer (some ⟨b, i + 9, none⟩)) w := by kernel_rfl
theorem BD157_0 (x0a : Option Addr) (x0n x0c : Nat) (w : World) : (Instr.build 157 #[(0, .slice x0a x0n x0c)]).run Try.prog w = .ok (.agg #[.slice x0a x0n x0c, .slice none 0 0]) w := by kernel_rfl
theorem LN82 (ty : Nat) (a : Option Addr) (m c : Nat) (w : World) : (Builtin.len_ #[82] ty #[.slice a m c]).run Try.prog w = .ok (.int .i64 m) w := by kernel_rfl
theorem CV3_130 (m : Int) (w : World) : (convert 3 130 (.int .i64 m)).run Try.prog w = .ok (.int .u64 (IntKind.u64.wrap m)) w := by kernel_rfl
theorem LN26 (ty : Nat) (a : Option Addr) (m c : Nat) (w : World) : (Builtin.len_ #[26] ty #[.slice a m c]).run Try.prog w = .ok (.int .i64 m) w := by kernel_rfl
theorem FA118_0 (b i : Nat) (w : World) : (Instr.fieldAt 118 (.pointer (some ⟨b, i, none⟩)) 0).run Try.prog w = .ok (.pointer (some ⟨b, i, none⟩)) w := by kernel_rfl
theorem CV3_128 (m : Int) (w : World) : (convert 3 128 (.int .i64 m)).run Try.prog w = .ok (.int .u64 (IntKind.u64.wrap m)) w := by kernel_rfl
theorem CV5_128 (m : Int) (w : World) : (convert 5 128 (.int .u8 m)).run Try.prog w = .ok (.int .u64 (IntKind.u64.wrap m)) w := by kernel_rfl
theorem FA136_1 (b i : Nat) (w : World) : (Instr.fieldAt 136 (.pointer (some ⟨b, i, none⟩)) 1).run Try.prog w = .ok (.pointer (some ⟨b, i + 1, none⟩)) w := by kernel_rfl
theorem FA136_0 (b i : Nat) (w : World) : (Instr.fieldAt 136 (.pointer (some ⟨b, i, none⟩)) 0).run Try.prog w = .ok (.pointer (some ⟨b, i, none⟩)) w := by kernel_rfl
theorem BD144_0_2_4_6 (x0 : Int) (x2 : Int) (x4 : Int) (x6a : Option Addr) (x6n x6c : Nat) (w : World) : (Instr.build 144 #[(0, .int .i64 x0), (2, .int .i64 x2), (4, .int .i64 x4), (6, .slice x6a x6n x6c)]).run Try.prog w = .ok (.agg #[.int .i64 x0, .int .i64 0, .int .i64 x2, .int .i64 0, .int .i64 x4, .int .i64 0, .slice x6a x6n x6c]) w := by kernel_rfl
theorem ZV144 (w : World) : (zeroValue 144).run Try.prog w = .ok (.agg #[.int .i64 0, .int .i64 0, .int .i64 0, .int .i64 0, .int .i64 0, .int .i64 0, .slice none 0 0]) w := by kernel_rfl
theorem FA144_3 (b i : Nat) (w : World) : (Instr.fieldAt 144 (.pointer (some ⟨b, i, none⟩)) 3).run Try.prog w = .ok (.pointer (some ⟨b, i + 3, none⟩)) w := by kernel_rfl
theorem FA140_3 (b i : Nat) (w : World) : (Instr.fieldAt 140 (.pointer (some ⟨b, i, none⟩)) 3).run Try.prog w = .ok (.pointer (some ⟨b, i + 3, none⟩)) w := by kernel_rfl
theorem FA144_6 (b i : Nat) (w : World) : (Instr.fieldAt 144 (.pointer (some ⟨b, i, none⟩)) 6).run Try.prog w = .ok (.pointer (some ⟨b, i + 6, none⟩)) w := by kernel_rfl
theorem FA144_4 (b i : Nat) (w : World) : (Instr.fieldAt 144 (.pointer (some ⟨b, i, none⟩)) 4).run Try.prog w = .ok (.pointer (some ⟨b, i + 4, none⟩)) w := by kernel_rfl
theorem FA140_8 (b i : Nat) (w : World) : (Instr.fieldAt 140 (.pointer (some ⟨b, i, none⟩)) 8).run Try.prog w = .ok (.pointer (some ⟨b, i + 8, none⟩)) w := by kernel_rfl
theorem BS75_1 (x0_0 x0_1 x0_2 : Value) (w : World) : (Instr.buildSlice 75 1 #[(0, .agg #[x0_0, x0_1, x0_2])]).run Try.prog w = .ok (.slice (some ⟨w.heap.size, 0, none⟩) 1 1) (w.alloc (Blk 95 [x0_0, x0_1, x0_2])) := by kernel_rfl
theorem BS79_0  (w : World) : (Instr.buildSlice 79 0 #[]).run Try.prog w = .ok (.slice (some ⟨w.heap.size, 0, none⟩) 0 0) (w.alloc (Blk 41 [])) := by kernel_rfl
theorem BD93_0_1_2_3 (x0 : Int) (x1 : Int) (x2 : Int) (x3 : Int) (w : World) : (Instr.build 93 #[(0, .int .i64 x0), (1, .int .i64 x1), (2, .int .i64 x2), (3, .int .i64 x3)]).run Try.prog w = .ok (.agg #[.int .i64 x0, .int .i64 x1, .int .i64 x2, .int .i64 x3, .int .i64 0, .int .i64 0, .slice none 0 0]) w := by kernel_rfl
theorem FA93_4 (b i : Nat) (w : World) : (Instr.fieldAt 93 (.pointer (some ⟨b, i, none⟩)) 4).run Try.prog w = .ok (.pointer (some ⟨b, i + 4, none⟩)) w := by kernel_rfl
theorem BD144_0_2_3_4_5 (x0 : Int) (x2 : Int) (x3 : Int) (x4 : Int) (x5 : Int) (w : World) : (Instr.build 144 #[(0, .int .i64 x0), (2, .int .i64 x2), (3, .int .i64 x3), (4, .int .i64 x4), (5, .int .i64 x5)]).run Try.prog w = .ok (.agg #[.int .i64 x0, .int .i64 0, .int .i64 x2, .int .i64 x3, .int .i64 x4, .int .i64 x5, .slice none 0 0]) w := by kernel_rfl
theorem BD144_  (w : World) : (Instr.build 144 #[]).run Try.prog w = .ok (.agg #[.int .i64 0, .int .i64 0, .int .i64 0, .int .i64 0, .int .i64 0, .int .i64 0, .slice none 0 0]) w := by kernel_rfl
theorem FA144_2 (b i : Nat) (w : World) : (Instr.fieldAt 144 (.pointer (some ⟨b, i, none⟩)) 2).run Try.prog w = .ok (.pointer (some ⟨b, i + 2, none⟩)) w := by kernel_rfl
theorem BD144_0_2_3_4_6 (x0 : Int) (x2 : Int) (x3 : Int) (x4 : Int) (x6a : Option Addr) (x6n x6c : Nat) (w : World) : (Instr.build 144 #[(0, .int .i64 x0), (2, .int .i64 x2), (3, .int .i64 x3), (4, .int .i64 x4), (6, .slice x6a x6n x6c)]).run Try.prog w = .ok (.agg #[.int .i64 x0, .int .i64 0, .int .i64 x2, .int .i64 x3, .int .i64 x4, .int .i64 0, .slice x6a x6n x6c]) w := by kernel_rfl
theorem BD144_0_2_5 (x0 : Int) (x2 : Int) (x5 : Int) (w : World) : (Instr.build 144 #[(0, .int .i64 x0), (2, .int .i64 x2), (5, .int .i64 x5)]).run Try.prog w = .ok (.agg #[.int .i64 x0, .int .i64 0, .int .i64 x2, .int .i64 0, .int .i64 0, .int .i64 x5, .slice none 0 0]) w := by kernel_rfl
theorem ZV3 (w : World) : (zeroValue 3).run Try.prog w = .ok (.int .i64 0) w := by kernel_rfl
theorem FA144_5 (b i : Nat) (w : World) : (Instr.fieldAt 144 (.pointer (some ⟨b, i, none⟩)) 5).run Try.prog w = .ok (.pointer (some ⟨b, i + 5, none⟩)) w := by kernel_rfl
theorem FA157_1 (b i : Nat) (w : World) : (Instr.fieldAt 157 (.pointer (some ⟨b, i, none⟩)) 1).run Try.prog w = .ok (.pointer (some ⟨b, i + 1, none⟩)) w := by kernel_rfl
theorem FA157_0 (b i : Nat) (w : World) : (Instr.fieldAt 157 (.pointer (some ⟨b, i, none⟩)) 0).run Try.prog w = .ok (.pointer (some ⟨b, i, none⟩)) w := by kernel_rfl
theorem BD95_  (w : World) : (Instr.build 95 #[]).run Try.prog w = .ok (.agg #[.int .i64 0, .int .i64 0, .slice none 0 0]) w := by kernel_rfl
theorem CV128_5 (m : Int) (w : World) : (convert 128 5 (.int .u64 m)).run Try.prog w = .ok (.int .u8 (IntKind.u8.wrap m)) w := by kernel_rfl
end Go.Proofs.Ytofnocjopdgeaaa
