/- Strings: bytes and their order, as numbers. -/
import Derived.Test.YtkobigdfijeajaaLib
import Derived.Test.YtkobigdfijeajaaWirP
import Derived.Laws.Slices
set_option linter.unusedVariables false
set_option linter.unusedSimpArgs false
namespace Go.SL
section
variable {P : Program} {n : Nat} {ops : Array Oper} {Q : Post} {l : Fr} {w : World} {rest : List Oper} {d ty : Nat} {pos : String} {aft : Array Edge}
theorem s_lss_B {x y : Operand} {t t' : Nat} {p q : ByteArray} (hd : Nat.blt d n = true) (hx : ev l x = some (.string p)) (hy : ev l y = some (.string q)) (k : WL P n ops Q rest ((d, .bool (Op.bytesLess p.toList q.toList)) :: l) w) :
    WL P n ops Q (⟨some d, .binOp .lss t x y t', ty, pos, aft, none⟩ :: rest) l w := WL_val hd (fun ac ha => by simp [execOp, ha.eval hx, ha.eval hy, eqGuard, binOp, Op.stringOp]) k
theorem s_geq_B {x y : Operand} {t t' : Nat} {p q : ByteArray} (hd : Nat.blt d n = true) (hx : ev l x = some (.string p)) (hy : ev l y = some (.string q)) (k : WL P n ops Q rest ((d, .bool (!Op.bytesLess p.toList q.toList)) :: l) w) :
    WL P n ops Q (⟨some d, .binOp .geq t x y t', ty, pos, aft, none⟩ :: rest) l w := WL_val hd (fun ac ha => by simp [execOp, ha.eval hx, ha.eval hy, eqGuard, binOp, Op.stringOp]) k
theorem s_index_S {x y : Operand} {t i c : Nat} {s : ByteArray} {kd : IntKind} (hu : P.underlying t = some .string) (hd : Nat.blt d n = true) (hx : ev l x = some (.string s)) (hy : ev l y = some (.int kd (i : Int))) (h : i < s.size) (hc : (s[i]'h).toNat = c)
    (k : WL P n ops Q rest ((d, .int .u8 (c : Int)) :: l) w) : WL P n ops Q (⟨some d, .index t x y, ty, pos, aft, none⟩ :: rest) l w := WL_val hd (fun a ha => by
      have h0 : (0 : Int) ≤ (i : Int) := by omega
      simp [execOp, ha.eval hx, ha.eval hy, Instr.index, asIntOf, run_underlying hu, h0, h, hc]) k
theorem s_slice_Sh {x y : Operand} {t : Nat} {s : ByteArray} {kd : IntKind} {h : Int} (hu : P.underlying t = some .string) (hd : Nat.blt d n = true) (hx : ev l x = some (.string s)) (hy : ev l y = some (.int kd h)) (hb : 0 ≤ h ∧ h ≤ s.size)
    (k : WL P n ops Q rest ((d, .string (s.extract 0 h.toNat)) :: l) w) : WL P n ops Q (⟨some d, .slice t x none (some y) none, ty, pos, aft, none⟩ :: rest) l w := WL_val hd (fun a ha => by
      simp only [execOp, ha.eval hx, ha.eval hy, Option.map_some, Option.map_none, Sem.run_bind, run_sliceAt_string w t _ _ _ _ hu, run_slice_string_h w t s hu kd h hb.1 hb.2, Result.andThen_ok, Sem.run_pure]) k
end
/-! ### lists of elements of several cells -/
section
variable {α : Type} {c : α → List Value} {k : Nat}
theorem flat_length (h : ∀ x, (c x).length = k) (xs : List α) : (xs.flatMap c).length = xs.length * k := by
  induction xs with
  | nil => simp
  | cons x xs ih => rw [List.flatMap_cons, List.length_append, ih, h, List.length_cons, Nat.add_mul]; omega
theorem flat_at (h : ∀ x, (c x).length = k) {xs : List α} {i j : Nat} {x : α} (hj : j < k) (hi : xs[i]? = some x) : (xs.flatMap c)[i * k + j]? = (c x)[j]? := by
  induction xs generalizing i with
  | nil => simp at hi
  | cons y xs ih =>
    rw [List.flatMap_cons]
    cases i with
    | zero =>
      simp at hi; subst hi
      rw [Nat.zero_mul, Nat.zero_add, List.getElem?_append_left (by rw [h]; exact hj)]
    | succ i =>
      rw [Nat.add_mul, Nat.one_mul, List.getElem?_append_right (by rw [h]; omega), h, show i * k + k + j - k = i * k + j by omega]
      exact ih (by simpa using hi)
theorem flat_at' (h : ∀ x, (c x).length = k) {xs : List α} {sp : List Value} {i j : Nat} {x : α} {u : Value} (hj : j < k) (hi : xs[i]? = some x) (hu : (c x)[j]? = some u) : (xs.flatMap c ++ sp)[0 + (i : Int).toNat * k + j]? = some u := by
  have hlt : i < xs.length := (List.getElem?_eq_some_iff.1 hi).1
  have : i * k + j < xs.length * k := by
    have : (i + 1) * k ≤ xs.length * k := Nat.mul_le_mul_right _ hlt
    rw [Nat.add_mul, Nat.one_mul] at this; omega
  rw [Nat.zero_add, Int.toNat_natCast, List.getElem?_append_left (by rw [flat_length h]; exact this), flat_at h hj hi]; exact hu
theorem flat_set (h : ∀ x, (c x).length = k) {xs : List α} {sp : List Value} {i : Nat} (x : α) (hi : i < xs.length) : splice (xs.flatMap c ++ sp) (i * k) (c x) = (xs.set i x).flatMap c ++ sp := by
  unfold splice
  induction xs generalizing i with
  | nil => simp at hi
  | cons y xs ih =>
    cases i with
    | zero =>
      rw [Nat.zero_mul, List.take_zero, Nat.zero_add, List.set_cons_zero, List.flatMap_cons, List.flatMap_cons, List.nil_append, List.append_assoc, List.append_assoc]
      congr 1
      rw [List.drop_append_of_le_length (by rw [h, h]; exact Nat.le_refl _), List.drop_of_length_le (by rw [h, h]; exact Nat.le_refl _), List.nil_append]
    | succ i =>
      have h1 : i < xs.length := by simpa using hi
      have h2 := ih h1
      rw [List.set_cons_succ, List.flatMap_cons, List.flatMap_cons]
      simp only [List.append_assoc] at h2 ⊢
      rw [← h2]
      have e1 : (i + 1) * k = (c y).length + i * k := by rw [h, Nat.add_mul, Nat.one_mul, Nat.add_comm]
      rw [e1, Nat.add_assoc, List.take_length_add_append, List.drop_length_add_append, List.append_assoc]
end
end Go.SL
namespace Go.Proofs.Ytkobigdfijeajaa
open Go.SL
/-- the order of bytes -/
def lexLt : List Int → List Int → Bool
  | _, [] => false
  | [], _ :: _ => true
  | a :: x, b :: y => decide (a < b) || (decide (a = b) && lexLt x y)
theorem u8_lt (a b : UInt8) : (decide (a < b)) = decide ((a.toNat : Int) < (b.toNat : Int)) := by
  rw [decide_eq_decide, UInt8.lt_iff_toNat_lt]; omega
theorem u8_eq (a b : UInt8) : (a == b) = decide ((a.toNat : Int) = (b.toNat : Int)) := by
  rw [Bool.eq_iff_iff, beq_iff_eq, decide_eq_true_eq]
  constructor
  · rintro rfl; rfl
  · intro h; exact UInt8.toNat_inj.1 (by omega)
theorem bytesLess_lex : ∀ x y : List UInt8, Op.bytesLess x y = lexLt (x.map fun b => (b.toNat : Int)) (y.map fun b => (b.toNat : Int))
  | x, [] => by cases x <;> rfl
  | [], _ :: _ => rfl
  | a :: x, b :: y => by
    simp only [Op.bytesLess, List.map_cons, lexLt, bytesLess_lex x y, u8_lt, u8_eq]
theorem less_lex (p q : ByteArray) : Op.bytesLess p.toList q.toList = lexLt (bytesOf p) (bytesOf q) := by
  rw [bytesLess_lex, ByteArray.toList_eq, ByteArray.toList_eq]; rfl
theorem bytesOf_strOf' {bs : List Int} (h : ∀ b ∈ bs, isB b) : bytesOf (strOf bs) = bs := by
  have key : ∀ (l : List Int) (r : ByteArray), (∀ b ∈ l, isB b) → bytesOf (l.foldl (fun r m => r.push (UInt8.ofNat m.toNat)) r) = bytesOf r ++ l := by
    intro l
    induction l with
    | nil => intro r _; simp
    | cons b l ih =>
      intro r hb
      have h1 := hb b (by simp)
      unfold isB at h1
      rw [List.foldl_cons, ih _ (fun c hc => hb c (List.mem_cons_of_mem _ hc))]
      have : bytesOf (r.push (UInt8.ofNat b.toNat)) = bytesOf r ++ [b] := by
        simp only [bytesOf, ByteArray.push, Array.toList_push, List.map_append, List.map_cons, List.map_nil, List.append_cancel_left_eq, List.cons.injEq, and_true]
        simp only [UInt8.toNat_ofNat']
        omega
      rw [this]; simp
  have := key bs ByteArray.empty h
  rw [strOf, this]; rfl
theorem strOf_size' {bs : List Int} (h : ∀ b ∈ bs, isB b) : (strOf bs).size = bs.length := by rw [← bytesOf_length, bytesOf_strOf' h]
theorem bytesOf_inj {p q : ByteArray} (h : bytesOf p = bytesOf q) : p = q := by
  unfold bytesOf at h
  have h2 : p.data.toList = q.data.toList := by
    refine (List.map_inj_right (f := fun b : UInt8 => (b.toNat : Int)) ?_).1 h
    intro a b hab
    exact UInt8.toNat_inj.1 (by omega)
  cases p; cases q; congr 1; exact Array.toList_inj.1 h2
theorem bytesOf_isB (s : ByteArray) : ∀ b ∈ bytesOf s, isB b := by
  intro b hb
  obtain ⟨x, _, rfl⟩ := List.mem_map.1 hb
  have := x.toNat_lt
  unfold isB; omega
theorem strOf_eq {xs ys : List Int} (hx : ∀ b ∈ xs, isB b) (hy : ∀ b ∈ ys, isB b) : (strOf xs = strOf ys) ↔ xs = ys :=
  ⟨fun h => by rw [← bytesOf_strOf' hx, h, bytesOf_strOf' hy], fun h => by rw [h]⟩
/-- the number of some bytes, the highest first -/
def bv (xs : List Int) : Int := List.foldl (fun a b => 256 * a + b) 0 xs
theorem bv_go (xs : List Int) : ∀ a, List.foldl (fun a b => 256 * a + b) a xs = a * 256 ^ xs.length + bv xs := by
  induction xs with
  | nil => intro a; simp [bv]
  | cons x xs ih =>
    intro a
    rw [List.foldl_cons, ih, show bv (x :: xs) = List.foldl (fun a b => 256 * a + b) (256 * 0 + x) xs from rfl, ih (256 * 0 + x), List.length_cons, Int.pow_succ]
    rw [Int.mul_zero, Int.zero_add, Int.add_mul, Int.mul_comm 256 a, Int.mul_assoc, Int.mul_comm 256]
    omega
theorem bv_cons (x : Int) (xs : List Int) : bv (x :: xs) = x * 256 ^ xs.length + bv xs := by
  rw [bv, List.foldl_cons, bv_go]; simp
theorem bv_range {xs : List Int} (h : ∀ b ∈ xs, isB b) : 0 ≤ bv xs ∧ bv xs < 256 ^ xs.length := by
  induction xs with
  | nil => simp [bv]
  | cons x xs ih =>
    have h1 := ih (fun b hb => h b (List.mem_cons_of_mem _ hb))
    have h2 := h x (by simp)
    unfold isB at h2
    rw [bv_cons, List.length_cons, Int.pow_succ]
    have hp : (0 : Int) < 256 ^ xs.length := Int.pow_pos (by decide)
    generalize (256 : Int) ^ xs.length = p at *
    have h3 : x * p ≤ 255 * p := Int.mul_le_mul_of_nonneg_right h2.2 (by omega)
    have h4 : 0 ≤ x * p := Int.mul_nonneg h2.1 (by omega)
    omega
theorem lex_bv : ∀ (xs ys : List Int), (∀ b ∈ xs, isB b) → (∀ b ∈ ys, isB b) → xs.length = ys.length → lexLt xs ys = decide (bv xs < bv ys) ∧ (xs = ys ↔ bv xs = bv ys)
  | [], [], _, _, _ => by simp [lexLt]
  | [], _ :: _, _, _, h => by simp at h
  | _ :: _, [], _, _, h => by simp at h
  | x :: xs, y :: ys, hx, hy, h => by
    have hl : xs.length = ys.length := by simpa using h
    have hxs : ∀ b ∈ xs, isB b := fun b hb => hx b (List.mem_cons_of_mem _ hb)
    have hys : ∀ b ∈ ys, isB b := fun b hb => hy b (List.mem_cons_of_mem _ hb)
    obtain ⟨h1, h2⟩ := lex_bv xs ys hxs hys hl
    have r1 := bv_range hxs
    have r2 := bv_range hys
    rw [bv_cons, bv_cons, ← hl]
    rw [← hl] at r2
    have hp : (0 : Int) < 256 ^ xs.length := Int.pow_pos (by decide)
    simp only [lexLt, h1]
    generalize (256 : Int) ^ xs.length = p at *
    rcases Int.lt_trichotomy x y with hlt | heq | hgt
    · have h3 : (x + 1) * p ≤ y * p := Int.mul_le_mul_of_nonneg_right (by omega) (by omega)
      rw [Int.add_mul, Int.one_mul] at h3
      constructor
      · rw [Bool.eq_iff_iff]; simp only [Bool.or_eq_true, Bool.and_eq_true, decide_eq_true_eq]; omega
      · simp only [List.cons.injEq]; constructor
        · rintro ⟨h, _⟩; omega
        · intro h; omega
    · subst heq
      constructor
      · simp only [Int.lt_irrefl, decide_false, Bool.false_or, decide_true, Bool.true_and]
        rw [decide_eq_decide]; omega
      · simp only [List.cons.injEq, true_and, h2]; omega
    · have h3 : (y + 1) * p ≤ x * p := Int.mul_le_mul_of_nonneg_right (by omega) (by omega)
      rw [Int.add_mul, Int.one_mul] at h3
      constructor
      · rw [Bool.eq_iff_iff]; simp only [Bool.or_eq_true, Bool.and_eq_true, decide_eq_true_eq]; omega
      · simp only [List.cons.injEq]; constructor
        · rintro ⟨h, _⟩; omega
        · intro h; omega
end Go.Proofs.Ytkobigdfijeajaa
