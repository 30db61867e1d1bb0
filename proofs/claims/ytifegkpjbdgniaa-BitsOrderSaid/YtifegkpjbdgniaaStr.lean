/- Strings: bytes and their order, as numbers. -/
import Derived.Test.YtifegkpjbdgniaaLib
import Derived.Test.YtifegkpjbdgniaaWirP
set_option linter.unusedVariables false
set_option linter.unusedSimpArgs false
namespace Go.SL
section
variable {P : Program} {n : Nat} {ops : Array Oper} {Q : Post} {l : Fr} {w : World} {rest : List Oper} {d ty : Nat} {pos : String} {aft : Array Edge}
theorem s_lss_B {x y : Operand} {t t' : Nat} {p q : ByteArray} (hd : Nat.blt d n = true) (hx : ev l x = some (.string p)) (hy : ev l y = some (.string q)) (k : WL P n ops Q rest ((d, .bool (Op.bytesLess p.toList q.toList)) :: l) w) :
    WL P n ops Q (⟨some d, .binOp .lss t x y t', ty, pos, aft, none⟩ :: rest) l w := WL_val hd (fun ac ha => by simp [execOp, ha.eval hx, ha.eval hy, eqGuard, binOp, Op.stringOp]) k
theorem s_geq_B {x y : Operand} {t t' : Nat} {p q : ByteArray} (hd : Nat.blt d n = true) (hx : ev l x = some (.string p)) (hy : ev l y = some (.string q)) (k : WL P n ops Q rest ((d, .bool (!Op.bytesLess p.toList q.toList)) :: l) w) :
    WL P n ops Q (⟨some d, .binOp .geq t x y t', ty, pos, aft, none⟩ :: rest) l w := WL_val hd (fun ac ha => by simp [execOp, ha.eval hx, ha.eval hy, eqGuard, binOp, Op.stringOp]) k
end
end Go.SL
namespace Go.Proofs.Ytifegkpjbdgniaa
open Go.SL
/-- the order of bytes -/
def lexLt : List Int → List Int → Bool
  | _, [] => false
  | [], _ :: _ => true
  | a :: x, b :: y => decide (a < b) || (decide (a = b) && lexLt x y)
theorem u8_lt (a b : UInt8) : (decide (a < b)) = decide ((a.toNat : Int) < (b.toNat : Int)) := by
  rw [decide_eq_decide, UInt8.lt_iff_toNat_lt]; omega
theorem u8_eq (a b : UInt8) : (a == b) = decide ((a.toNat : Int) = (b.toNat : Int)) := by
  rw [Bool.eq_iff_iff, beq_iff_eq, decide_eq_true_eq]
  constructor
  · rintro rfl; rfl
  · intro h; exact UInt8.toNat_inj.1 (by omega)
theorem bytesLess_lex : ∀ x y : List UInt8, Op.bytesLess x y = lexLt (x.map fun b => (b.toNat : Int)) (y.map fun b => (b.toNat : Int))
  | x, [] => by cases x <;> rfl
  | [], _ :: _ => rfl
  | a :: x, b :: y => by
    simp only [Op.bytesLess, List.map_cons, lexLt, bytesLess_lex x y, u8_lt, u8_eq]
theorem less_lex (p q : ByteArray) : Op.bytesLess p.toList q.toList = lexLt (bytesOf p) (bytesOf q) := by
  rw [bytesLess_lex, ByteArray.toList_eq, ByteArray.toList_eq]; rfl
theorem bytesOf_strOf' {bs : List Int} (h : ∀ b ∈ bs, isB b) : bytesOf (strOf bs) = bs := by
  have key : ∀ (l : List Int) (r : ByteArray), (∀ b ∈ l, isB b) → bytesOf (l.foldl (fun r m => r.push (UInt8.ofNat m.toNat)) r) = bytesOf r ++ l := by
    intro l
    induction l with
    | nil => intro r _; simp
    | cons b l ih =>
      intro r hb
      have h1 := hb b (by simp)
      unfold isB at h1
      rw [List.foldl_cons, ih _ (fun c hc => hb c (List.mem_cons_of_mem _ hc))]
      have : bytesOf (r.push (UInt8.ofNat b.toNat)) = bytesOf r ++ [b] := by
        simp only [bytesOf, ByteArray.push, Array.toList_push, List.map_append, List.map_cons, List.map_nil, List.append_cancel_left_eq, List.cons.injEq, and_true]
        simp only [UInt8.toNat_ofNat']
        omega
      rw [this]; simp
  have := key bs ByteArray.empty h
  rw [strOf, this]; rfl
theorem strOf_size' {bs : List Int} (h : ∀ b ∈ bs, isB b) : (strOf bs).size = bs.length := by rw [← bytesOf_length, bytesOf_strOf' h]
theorem bytesOf_inj {p q : ByteArray} (h : bytesOf p = bytesOf q) : p = q := by
  unfold bytesOf at h
  have h2 : p.data.toList = q.data.toList := by
    refine (List.map_inj_right (f := fun b : UInt8 => (b.toNat : Int)) ?_).1 h
    intro a b hab
    exact UInt8.toNat_inj.1 (by omega)
  cases p; cases q; congr 1; exact Array.toList_inj.1 h2
theorem bytesOf_isB (s : ByteArray) : ∀ b ∈ bytesOf s, isB b := by
  intro b hb
  obtain ⟨x, _, rfl⟩ := List.mem_map.1 hb
  have := x.toNat_lt
  unfold isB; omega
theorem strOf_eq {xs ys : List Int} (hx : ∀ b ∈ xs, isB b) (hy : ∀ b ∈ ys, isB b) : (strOf xs = strOf ys) ↔ xs = ys :=
  ⟨fun h => by rw [← bytesOf_strOf' hx, h, bytesOf_strOf' hy], fun h => by rw [h]⟩
/-- the number of some bytes, the highest first -/
def bv (xs : List Int) : Int := List.foldl (fun a b => 256 * a + b) 0 xs
theorem bv_go (xs : List Int) : ∀ a, List.foldl (fun a b => 256 * a + b) a xs = a * 256 ^ xs.length + bv xs := by
  induction xs with
  | nil => intro a; simp [bv]
  | cons x xs ih =>
    intro a
    rw [List.foldl_cons, ih, show bv (x :: xs) = List.foldl (fun a b => 256 * a + b) (256 * 0 + x) xs from rfl, ih (256 * 0 + x), List.length_cons, Int.pow_succ]
    rw [Int.mul_zero, Int.zero_add, Int.add_mul, Int.mul_comm 256 a, Int.mul_assoc, Int.mul_comm 256]
    omega
theorem bv_cons (x : Int) (xs : List Int) : bv (x :: xs) = x * 256 ^ xs.length + bv xs := by
  rw [bv, List.foldl_cons, bv_go]; simp
theorem bv_range {xs : List Int} (h : ∀ b ∈ xs, isB b) : 0 ≤ bv xs ∧ bv xs < 256 ^ xs.length := by
  induction xs with
  | nil => simp [bv]
  | cons x xs ih =>
    have h1 := ih (fun b hb => h b (List.mem_cons_of_mem _ hb))
    have h2 := h x (by simp)
    unfold isB at h2
    rw [bv_cons, List.length_cons, Int.pow_succ]
    have hp : (0 : Int) < 256 ^ xs.length := Int.pow_pos (by decide)
    generalize (256 : Int) ^ xs.length = p at *
    have h3 : x * p ≤ 255 * p := Int.mul_le_mul_of_nonneg_right h2.2 (by omega)
    have h4 : 0 ≤ x * p := Int.mul_nonneg h2.1 (by omega)
    omega
theorem lex_bv : ∀ (xs ys : List Int), (∀ b ∈ xs, isB b) → (∀ b ∈ ys, isB b) → xs.length = ys.length → lexLt xs ys = decide (bv xs < bv ys) ∧ (xs = ys ↔ bv xs = bv ys)
  | [], [], _, _, _ => by simp [lexLt]
  | [], _ :: _, _, _, h => by simp at h
  | _ :: _, [], _, _, h => by simp at h
  | x :: xs, y :: ys, hx, hy, h => by
    have hl : xs.length = ys.length := by simpa using h
    have hxs : ∀ b ∈ xs, isB b := fun b hb => hx b (List.mem_cons_of_mem _ hb)
    have hys : ∀ b ∈ ys, isB b := fun b hb => hy b (List.mem_cons_of_mem _ hb)
    obtain ⟨h1, h2⟩ := lex_bv xs ys hxs hys hl
    have r1 := bv_range hxs
    have r2 := bv_range hys
    rw [bv_cons, bv_cons, ← hl]
    rw [← hl] at r2
    have hp : (0 : Int) < 256 ^ xs.length := Int.pow_pos (by decide)
    simp only [lexLt, h1]
    generalize (256 : Int) ^ xs.length = p at *
    rcases Int.lt_trichotomy x y with hlt | heq | hgt
    · have h3 : (x + 1) * p ≤ y * p := Int.mul_le_mul_of_nonneg_right (by omega) (by omega)
      rw [Int.add_mul, Int.one_mul] at h3
      constructor
      · rw [Bool.eq_iff_iff]; simp only [Bool.or_eq_true, Bool.and_eq_true, decide_eq_true_eq]; omega
      · simp only [List.cons.injEq]; constructor
        · rintro ⟨h, _⟩; omega
        · intro h; omega
    · subst heq
      constructor
      · simp only [Int.lt_irrefl, decide_false, Bool.false_or, decide_true, Bool.true_and]
        rw [decide_eq_decide]; omega
      · simp only [List.cons.injEq, true_and, h2]; omega
    · have h3 : (y + 1) * p ≤ x * p := Int.mul_le_mul_of_nonneg_right (by omega) (by omega)
      rw [Int.add_mul, Int.one_mul] at h3
      constructor
      · rw [Bool.eq_iff_iff]; simp only [Bool.or_eq_true, Bool.and_eq_true, decide_eq_true_eq]; omega
      · simp only [List.cons.injEq]; constructor
        · rintro ⟨h, _⟩; omega
        · intro h; omega
end Go.Proofs.Ytifegkpjbdgniaa
