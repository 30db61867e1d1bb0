/- Strings: bytes and their order, as numbers. -/
import Derived.Test.YtkobigdfijeajaaLib
import Derived.Test.YtkobigdfijeajaaWirP
import Derived.Laws.Slices
set_option linter.unusedVariables false
set_option linter.unusedSimpArgs false
namespace Go.SL
section
variable {P : Program} {n : Nat} {ops : Array Oper} {Q : Post} {l : Fr} {w : World} {rest : List Oper} {d ty : Nat} {pos : String} {aft : Array Edge}
theorem s_index_S {x y : Operand} {t i c : Nat} {s : ByteArray} {kd : IntKind} (hu : P.underlying t = some .string) (hd : Nat.blt d n = true) (hx : ev l x = some (.string s)) (hy : ev l y = some (.int kd (i : Int))) (h : i < s.size) (hc : (s[i]'h).toNat = c)
    (k : WL P n ops Q rest ((d, .int .u8 (c : Int)) :: l) w) : WL P n ops Q (⟨some d, .index t x y, ty, pos, aft, none⟩ :: rest) l w := WL_val hd (fun a ha => by
      have h0 : (0 : Int) ≤ (i : Int) := by omega
      simp [execOp, ha.eval hx, ha.eval hy, Instr.index, asIntOf, run_underlying hu, h0, h, hc]) k
end
/-! ### lists of elements of several cells -/
section
variable {α : Type} {c : α → List Value} {k : Nat}
theorem flat_length (h : ∀ x, (c x).length = k) (xs : List α) : (xs.flatMap c).length = xs.length * k := by
  induction xs with
  | nil => simp
  | cons x xs ih => rw [List.flatMap_cons, List.length_append, ih, h, List.length_cons, Nat.add_mul]; omega
theorem flat_at (h : ∀ x, (c x).length = k) {xs : List α} {i j : Nat} {x : α} (hj : j < k) (hi : xs[i]? = some x) : (xs.flatMap c)[i * k + j]? = (c x)[j]? := by
  induction xs generalizing i with
  | nil => simp at hi
  | cons y xs ih =>
    rw [List.flatMap_cons]
    cases i with
    | zero =>
      simp at hi; subst hi
      rw [Nat.zero_mul, Nat.zero_add, List.getElem?_append_left (by rw [h]; exact hj)]
    | succ i =>
      rw [Nat.add_mul, Nat.one_mul, List.getElem?_append_right (by rw [h]; omega), h, show i * k + k + j - k = i * k + j by omega]
      exact ih (by simpa using hi)
theorem flat_at' (h : ∀ x, (c x).length = k) {xs : List α} {sp : List Value} {i j : Nat} {x : α} {u : Value} (hj : j < k) (hi : xs[i]? = some x) (hu : (c x)[j]? = some u) : (xs.flatMap c ++ sp)[0 + (i : Int).toNat * k + j]? = some u := by
  have hlt : i < xs.length := (List.getElem?_eq_some_iff.1 hi).1
  have : i * k + j < xs.length * k := by
    have : (i + 1) * k ≤ xs.length * k := Nat.mul_le_mul_right _ hlt
    rw [Nat.add_mul, Nat.one_mul] at this; omega
  rw [Nat.zero_add, Int.toNat_natCast, List.getElem?_append_left (by rw [flat_length h]; exact this), flat_at h hj hi]; exact hu
end
end Go.SL
namespace Go.Proofs.Ytkobigdfijeajaa
open Go.SL
theorem bytesOf_strOf' {bs : List Int} (h : ∀ b ∈ bs, isB b) : bytesOf (strOf bs) = bs := by
  have key : ∀ (l : List Int) (r : ByteArray), (∀ b ∈ l, isB b) → bytesOf (l.foldl (fun r m => r.push (UInt8.ofNat m.toNat)) r) = bytesOf r ++ l := by
    intro l
    induction l with
    | nil => intro r _; simp
    | cons b l ih =>
      intro r hb
      have h1 := hb b (by simp)
      unfold isB at h1
      rw [List.foldl_cons, ih _ (fun c hc => hb c (List.mem_cons_of_mem _ hc))]
      have : bytesOf (r.push (UInt8.ofNat b.toNat)) = bytesOf r ++ [b] := by
        simp only [bytesOf, ByteArray.push, Array.toList_push, List.map_append, List.map_cons, List.map_nil, List.append_cancel_left_eq, List.cons.injEq, and_true]
        simp only [UInt8.toNat_ofNat']
        omega
      rw [this]; simp
  have := key bs ByteArray.empty h
  rw [strOf, this]; rfl
theorem bytesOf_inj {p q : ByteArray} (h : bytesOf p = bytesOf q) : p = q := by
  unfold bytesOf at h
  have h2 : p.data.toList = q.data.toList := by
    refine (List.map_inj_right (f := fun b : UInt8 => (b.toNat : Int)) ?_).1 h
    intro a b hab
    exact UInt8.toNat_inj.1 (by omega)
  cases p; cases q; congr 1; exact Array.toList_inj.1 h2
theorem bytesOf_isB (s : ByteArray) : ∀ b ∈ bytesOf s, isB b := by
  intro b hb
  obtain ⟨x, _, rfl⟩ := List.mem_map.1 hb
  have := x.toNat_lt
  unfold isB; omega
/-- the number of some bytes, the highest first -/
def bv (xs : List Int) : Int := List.foldl (fun a b => 256 * a + b) 0 xs
end Go.Proofs.Ytkobigdfijeajaa
