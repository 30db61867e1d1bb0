/- Rules of single operations over short frames, for operations that leave memory alone; guards; calls; a function's end. No program in sight. -/
import Derived.Test.YtkobigdfijeajaaCore
set_option linter.unusedVariables false
set_option linter.unusedSimpArgs false
namespace Go.SL
def WL (P : Program) (n : Nat) (ops : Array Oper) (Q : Post) (rest : List Oper) (l : Fr) (w : World) : Prop := ∀ a, Agr n l a → wpList P ops (lift n Q a.defers) rest a w
section
variable {P : Program} {n : Nat} {ops : Array Oper} {Q : Post} {l : Fr} {w : World} {rest : List Oper} {d ty : Nat} {pos : String} {aft : Array Edge}
theorem W_region {id : Nat} {os : List Oper} (h : WL P n os.toArray Q os l w) : W P n (.region id os.toArray false) Q l w := fun a ha => wp_region_lit (h a ha)
theorem WL_nil (h : Q .normal l w) : WL P n ops Q [] l w := fun a ha => wpList_nil ⟨l, ⟨ha, rfl⟩, h⟩
theorem WL_val {op : Op} {v : Value} {w' : World} (hd : Nat.blt d n = true) (hr : ∀ a, Agr n l a → (execOp a.eval ⟨some d, op, ty, pos, aft, none⟩).run P w = .ok (.value v) w')
    (k : WL P n ops Q rest ((d, v) :: l) w') : WL P n ops Q (⟨some d, op, ty, pos, aft, none⟩ :: rest) l w := fun a ha =>
  wpList_plain rfl fun K hK => by
    unfold Oper.wp
    rw [hr a ha]
    exact hK _ _ (k _ (ha.put hd v))
theorem WL_skip0 {op : Op} {w' : World} (hr : ∀ a, Agr n l a → (execOp a.eval ⟨none, op, ty, pos, aft, none⟩).run P w = .ok .skip w')
    (k : WL P n ops Q rest l w') : WL P n ops Q (⟨none, op, ty, pos, aft, none⟩ :: rest) l w := fun a ha =>
  wpList_plain rfl fun K hK => by
    unfold Oper.wp
    rw [hr a ha]
    exact hK _ _ (k _ ha)

def evs (l : Fr) : List Operand → Option (List Value)
  | [] => some []
  | x :: r => match ev l x, evs l r with
    | some v, some vs => some (v :: vs)
    | _, _ => none
theorem evs_eval {a : Act} (ha : Agr n l a) : ∀ {xs : List Operand} {vs : List Value}, evs l xs = some vs → xs.map a.eval = vs
  | [], vs, h => by simp [evs] at h; simp [h]
  | x :: r, vs, h => by
    simp only [evs] at h
    cases hx : ev l x with
    | none => simp [hx] at h
    | some v => cases hr : evs l r with
      | none => simp [hx, hr] at h
      | some us => simp [hx, hr] at h; subst h; simp [ha.eval hx, evs_eval ha hr]
def evp (l : Fr) : List (Nat × Operand) → Option (List (Nat × Value))
  | [] => some []
  | (i, x) :: r => match ev l x, evp l r with
    | some v, some vs => some ((i, v) :: vs)
    | _, _ => none
theorem evp_eval {a : Act} (ha : Agr n l a) : ∀ {xs : List (Nat × Operand)} {vs : List (Nat × Value)}, evp l xs = some vs → xs.map (fun x => (x.1, a.eval x.2)) = vs
  | [], vs, h => by simp [evp] at h; simp [h]
  | (i, x) :: r, vs, h => by
    simp only [evp] at h
    cases hx : ev l x with
    | none => simp [hx] at h
    | some v => cases hr : evp l r with
      | none => simp [hx, hr] at h
      | some us => simp [hx, hr] at h; subst h; simp [ha.eval hx, evp_eval ha hr]

/-! ### Guards -/
def gval (ops : Array Oper) (l : Fr) (j : Nat) : Option Value := ((ops[j]?).bind (·.dst)).bind (get l)
theorem gval_yielded {j : Nat} {b : Bool} {a : Act} (ha : Agr n l a) (h : gval ops l j = some (.bool b)) : yielded ops a.tmps j = some b := by
  unfold gval at h
  unfold yielded
  cases ht : (ops[j]?).bind (·.dst) with
  | none => simp [ht] at h
  | some t =>
    simp only [ht, Option.bind_some] at h ⊢
    rw [ha.vals t _ h]
theorem WL_take {dst : Option Nat} {op : Op} {j : Nat} {b : Bool} (hg : gval ops l j = some (.bool b))
    (k : WL P n ops Q (⟨dst, op, ty, pos, aft, none⟩ :: rest) l w) : WL P n ops Q (⟨dst, op, ty, pos, aft, some (j, b)⟩ :: rest) l w := fun a ha => by
  have hy := gval_yielded ha hg
  have hk := k a ha
  simp only [wpList, Region.wanted, hy, if_true, beq_self_eq_true] at hk ⊢
  exact hk
theorem WL_skip {op : Op} {j : Nat} {b b' : Bool} (hd : Nat.blt d n = true) (hg : gval ops l j = some (.bool b')) (hb : (b' == b) = false)
    (k : WL P n ops Q rest ((d, undef) :: l) w) : WL P n ops Q (⟨some d, op, ty, pos, aft, some (j, b)⟩ :: rest) l w := fun a ha => by
  have hy := gval_yielded ha hg
  have hne : (some b' == some b) = false := by simpa using hb
  simp only [wpList, Region.wanted, hy, hne, Bool.false_eq_true, if_false]
  exact k _ (ha.put hd undef)
/-- the guarded one stood undone: its guard is 'undef' -/
theorem WL_skipU {op : Op} {j : Nat} {b : Bool} (hd : Nat.blt d n = true) (hg : gval ops l j = some undef)
    (k : WL P n ops Q rest ((d, undef) :: l) w) : WL P n ops Q (⟨some d, op, ty, pos, aft, some (j, b)⟩ :: rest) l w := fun a ha => by
  have hy : yielded ops a.tmps j = none := by
    unfold gval at hg
    unfold yielded
    cases ht : (ops[j]?).bind (·.dst) with
    | none => rfl
    | some t => simp only [ht, Option.bind_some] at hg ⊢; rw [ha.vals t _ hg]; rfl
  simp only [wpList, Region.wanted, hy]
  exact k _ (ha.put hd undef)
/-- slots may be spelt anew: every slot of the new frame is read off the old one -/
theorem WL_frame {l' : Fr} (h : ∀ t v, get l' t = some v → get l t = some v) (k : WL P n ops Q rest l' w) : WL P n ops Q rest l w := fun a ha => k a ⟨ha.size, fun t v ht => ha.vals t v (h t v ht)⟩
theorem WL_know {s : Nat} {b c : Bool} (hs : get l s = some (.bool b)) (hb : b = c) (k : WL P n ops Q rest ((s, .bool c) :: l) w) : WL P n ops Q rest l w := by
  subst hb
  refine WL_frame (fun t v ht => ?_) k
  simp only [get] at ht
  by_cases e : s = t
  · subst e; simp at ht; subst ht; exact hs
  · rw [beqF.2 e] at ht; simpa using ht

theorem WL_case {s : Nat} {b : Bool} (hs : get l s = some (.bool b)) (ht : b = true → WL P n ops Q rest ((s, .bool true) :: l) w) (hf : b = false → WL P n ops Q rest ((s, .bool false) :: l) w) : WL P n ops Q rest l w := by
  cases b
  · exact WL_know hs rfl (hf rfl)
  · exact WL_know hs rfl (ht rfl)

/-! ### Operations that compute -/
theorem s_move {x : Operand} {v : Value} (hd : Nat.blt d n = true) (hx : ev l x = some v) (k : WL P n ops Q rest ((d, v) :: l) w) :
    WL P n ops Q (⟨some d, .move x, ty, pos, aft, none⟩ :: rest) l w := WL_val hd (fun a ha => by simp [execOp, ha.eval hx]) k
theorem s_assign {x : Operand} {v : Value} (hd : Nat.blt d n = true) (hx : ev l x = some v) (k : WL P n ops Q rest ((d, v) :: l) w) :
    WL P n ops Q (⟨some d, .assign x, ty, pos, aft, none⟩ :: rest) l w := WL_val hd (fun a ha => by simp [execOp, ha.eval hx]) k
theorem s_pick_t {c x y : Operand} {v : Value} (hd : Nat.blt d n = true) (hc : ev l c = some (.bool true)) (hx : ev l x = some v) (k : WL P n ops Q rest ((d, v) :: l) w) :
    WL P n ops Q (⟨some d, .pick c x y, ty, pos, aft, none⟩ :: rest) l w := WL_val hd (fun a ha => by simp [execOp, ha.eval hx, ha.eval hc, asBool]) k
theorem s_pick_f {c x y : Operand} {v : Value} (hd : Nat.blt d n = true) (hc : ev l c = some (.bool false)) (hy : ev l y = some v) (k : WL P n ops Q rest ((d, v) :: l) w) :
    WL P n ops Q (⟨some d, .pick c x y, ty, pos, aft, none⟩ :: rest) l w := WL_val hd (fun a ha => by simp [execOp, ha.eval hy, ha.eval hc, asBool]) k
theorem s_nilCheck {x : Operand} {ad : Addr} (hd : Nat.blt d n = true) (hx : ev l x = some (.pointer (some ad))) (k : WL P n ops Q rest ((d, .pointer (some ad)) :: l) w) :
    WL P n ops Q (⟨some d, .nilCheck x, ty, pos, aft, none⟩ :: rest) l w := WL_val hd (fun a ha => by simp [execOp, ha.eval hx]) k
theorem s_extract {x : Operand} {vs : List Value} {i : Nat} {v : Value} (hd : Nat.blt d n = true) (hx : ev l x = some (.tuple vs.toArray)) (hv : vs[i]? = some v) (k : WL P n ops Q rest ((d, v) :: l) w) :
    WL P n ops Q (⟨some d, .extract x i, ty, pos, aft, none⟩ :: rest) l w := WL_val hd (fun a ha => by simp [execOp, ha.eval hx, Instr.extract, hv]) k
theorem s_not {x : Operand} {b : Bool} {t : Nat} (hd : Nat.blt d n = true) (hx : ev l x = some (.bool b)) (k : WL P n ops Q rest ((d, .bool (!b)) :: l) w) :
    WL P n ops Q (⟨some d, .unOp .not t x, ty, pos, aft, none⟩ :: rest) l w := WL_val hd (fun a ha => by simp [execOp, ha.eval hx, Op.unary]) k
theorem s_neg {x : Operand} {kd : IntKind} {m : Int} {t : Nat} (hd : Nat.blt d n = true) (hx : ev l x = some (.int kd m)) (k : WL P n ops Q rest ((d, .int kd (kd.wrap (0 - m))) :: l) w) :
    WL P n ops Q (⟨some d, .unOp .neg t x, ty, pos, aft, none⟩ :: rest) l w := WL_val hd (fun a ha => by simp [execOp, ha.eval hx, Op.unary, Op.intArith]) k
theorem s_neg' {x : Operand} {m : Int} {t : Nat} (hd : Nat.blt d n = true) (hx : ev l x = some (.int .i64 m)) (h : -9223372036854775808 ≤ -m ∧ -m ≤ 9223372036854775807) (k : WL P n ops Q rest ((d, .int .i64 (-m)) :: l) w) :
    WL P n ops Q (⟨some d, .unOp .neg t x, ty, pos, aft, none⟩ :: rest) l w := s_neg hd hx (by rw [show (0 - m) = -m by omega, IntWalk.i64_in _ h]; exact k)
theorem s_add {x y : Operand} {kd : IntKind} {p q : Int} {t t' : Nat} (hd : Nat.blt d n = true) (hx : ev l x = some (.int kd p)) (hy : ev l y = some (.int kd q)) (k : WL P n ops Q rest ((d, .int kd (kd.wrap (p + q))) :: l) w) :
    WL P n ops Q (⟨some d, .binOp .add t x y t', ty, pos, aft, none⟩ :: rest) l w := WL_val hd (fun a ha => by simp [execOp, ha.eval hx, ha.eval hy, eqGuard, binOp, Op.intArith]) k
theorem s_add' {x y : Operand} {p q : Int} {t t' : Nat} (hd : Nat.blt d n = true) (hx : ev l x = some (.int .i64 p)) (hy : ev l y = some (.int .i64 q)) (h : -9223372036854775808 ≤ p + q ∧ p + q ≤ 9223372036854775807) (k : WL P n ops Q rest ((d, .int .i64 (p + q)) :: l) w) :
    WL P n ops Q (⟨some d, .binOp .add t x y t', ty, pos, aft, none⟩ :: rest) l w := s_add hd hx hy (by rw [IntWalk.i64_in _ h]; exact k)
theorem s_sub {x y : Operand} {kd : IntKind} {p q : Int} {t t' : Nat} (hd : Nat.blt d n = true) (hx : ev l x = some (.int kd p)) (hy : ev l y = some (.int kd q)) (k : WL P n ops Q rest ((d, .int kd (kd.wrap (p - q))) :: l) w) :
    WL P n ops Q (⟨some d, .binOp .sub t x y t', ty, pos, aft, none⟩ :: rest) l w := WL_val hd (fun a ha => by simp [execOp, ha.eval hx, ha.eval hy, eqGuard, binOp, Op.intArith]) k
theorem s_sub' {x y : Operand} {p q : Int} {t t' : Nat} (hd : Nat.blt d n = true) (hx : ev l x = some (.int .i64 p)) (hy : ev l y = some (.int .i64 q)) (h : -9223372036854775808 ≤ p - q ∧ p - q ≤ 9223372036854775807) (k : WL P n ops Q rest ((d, .int .i64 (p - q)) :: l) w) :
    WL P n ops Q (⟨some d, .binOp .sub t x y t', ty, pos, aft, none⟩ :: rest) l w := s_sub hd hx hy (by rw [IntWalk.i64_in _ h]; exact k)
theorem s_mul {x y : Operand} {kd : IntKind} {p q : Int} {t t' : Nat} (hd : Nat.blt d n = true) (hx : ev l x = some (.int kd p)) (hy : ev l y = some (.int kd q)) (k : WL P n ops Q rest ((d, .int kd (kd.wrap (p * q))) :: l) w) :
    WL P n ops Q (⟨some d, .binOp .mul t x y t', ty, pos, aft, none⟩ :: rest) l w := WL_val hd (fun a ha => by simp [execOp, ha.eval hx, ha.eval hy, eqGuard, binOp, Op.intArith]) k
theorem s_mul' {x y : Operand} {p q : Int} {t t' : Nat} (hd : Nat.blt d n = true) (hx : ev l x = some (.int .i64 p)) (hy : ev l y = some (.int .i64 q)) (h : -9223372036854775808 ≤ p * q ∧ p * q ≤ 9223372036854775807) (k : WL P n ops Q rest ((d, .int .i64 (p * q)) :: l) w) :
    WL P n ops Q (⟨some d, .binOp .mul t x y t', ty, pos, aft, none⟩ :: rest) l w := s_mul hd hx hy (by rw [IntWalk.i64_in _ h]; exact k)
theorem s_quo {x y : Operand} {kd : IntKind} {p q : Int} {t t' : Nat} (hd : Nat.blt d n = true) (hx : ev l x = some (.int kd p)) (hy : ev l y = some (.int kd q)) (h0 : q ≠ 0) (k : WL P n ops Q rest ((d, .int kd (kd.wrap (p.tdiv q))) :: l) w) :
    WL P n ops Q (⟨some d, .binOp .quo t x y t', ty, pos, aft, none⟩ :: rest) l w := WL_val hd (fun a ha => by simp [execOp, ha.eval hx, ha.eval hy, eqGuard, binOp, Op.intDiv, h0]) k
theorem s_rem {x y : Operand} {kd : IntKind} {p q : Int} {t t' : Nat} (hd : Nat.blt d n = true) (hx : ev l x = some (.int kd p)) (hy : ev l y = some (.int kd q)) (h0 : q ≠ 0) (k : WL P n ops Q rest ((d, .int kd (p.tmod q)) :: l) w) :
    WL P n ops Q (⟨some d, .binOp .rem t x y t', ty, pos, aft, none⟩ :: rest) l w := WL_val hd (fun a ha => by simp [execOp, ha.eval hx, ha.eval hy, eqGuard, binOp, Op.intDiv, h0]) k
theorem s_quo' {x y : Operand} {p q : Int} {t t' : Nat} (hd : Nat.blt d n = true) (hx : ev l x = some (.int .i64 p)) (hy : ev l y = some (.int .i64 q)) (h0 : 0 ≤ p ∧ p ≤ 9223372036854775807 ∧ 0 < q) (k : WL P n ops Q rest ((d, .int .i64 (p / q)) :: l) w) :
    WL P n ops Q (⟨some d, .binOp .quo t x y t', ty, pos, aft, none⟩ :: rest) l w := s_quo hd hx hy (by omega) (by
      have h1 : p / q ≤ p := Int.ediv_le_self _ h0.1
      have h2 : 0 ≤ p / q := Int.ediv_nonneg h0.1 (by omega)
      rw [Int.tdiv_eq_ediv_of_nonneg h0.1, IntWalk.i64_in _ ⟨by omega, by omega⟩]; exact k)
theorem s_rem' {x y : Operand} {p q : Int} {t t' : Nat} (hd : Nat.blt d n = true) (hx : ev l x = some (.int .i64 p)) (hy : ev l y = some (.int .i64 q)) (h0 : 0 ≤ p ∧ 0 < q) (k : WL P n ops Q rest ((d, .int .i64 (p % q)) :: l) w) :
    WL P n ops Q (⟨some d, .binOp .rem t x y t', ty, pos, aft, none⟩ :: rest) l w := s_rem hd hx hy (by omega) (by rw [Int.tmod_eq_emod_of_nonneg h0.1]; exact k)
theorem s_and {x y : Operand} {kd : IntKind} {p q : Int} {t t' : Nat} (hd : Nat.blt d n = true) (hx : ev l x = some (.int kd p)) (hy : ev l y = some (.int kd q)) (k : WL P n ops Q rest ((d, .int kd (kd.wrap ((BitVec.ofInt kd.bits p &&& BitVec.ofInt kd.bits q).toNat : Int))) :: l) w) :
    WL P n ops Q (⟨some d, .binOp .and t x y t', ty, pos, aft, none⟩ :: rest) l w := WL_val hd (fun a ha => by simp [execOp, ha.eval hx, ha.eval hy, eqGuard, binOp, Op.intBits]) k
theorem s_or {x y : Operand} {kd : IntKind} {p q : Int} {t t' : Nat} (hd : Nat.blt d n = true) (hx : ev l x = some (.int kd p)) (hy : ev l y = some (.int kd q)) (k : WL P n ops Q rest ((d, .int kd (kd.wrap ((BitVec.ofInt kd.bits p ||| BitVec.ofInt kd.bits q).toNat : Int))) :: l) w) :
    WL P n ops Q (⟨some d, .binOp .or t x y t', ty, pos, aft, none⟩ :: rest) l w := WL_val hd (fun a ha => by simp [execOp, ha.eval hx, ha.eval hy, eqGuard, binOp, Op.intBits]) k
theorem s_xor {x y : Operand} {kd : IntKind} {p q : Int} {t t' : Nat} (hd : Nat.blt d n = true) (hx : ev l x = some (.int kd p)) (hy : ev l y = some (.int kd q)) (k : WL P n ops Q rest ((d, .int kd (kd.wrap ((BitVec.ofInt kd.bits p ^^^ BitVec.ofInt kd.bits q).toNat : Int))) :: l) w) :
    WL P n ops Q (⟨some d, .binOp .xor t x y t', ty, pos, aft, none⟩ :: rest) l w := WL_val hd (fun a ha => by simp [execOp, ha.eval hx, ha.eval hy, eqGuard, binOp, Op.intBits]) k
theorem s_shl {x y : Operand} {kd kd' : IntKind} {p q : Int} {t t' : Nat} (hd : Nat.blt d n = true) (hx : ev l x = some (.int kd p)) (hy : ev l y = some (.int kd' q)) (h0 : 0 ≤ q) (k : WL P n ops Q rest ((d, .int kd (kd.wrap (p * 2 ^ (min q.toNat kd.bits)))) :: l) w) :
    WL P n ops Q (⟨some d, .binOp .shl t x y t', ty, pos, aft, none⟩ :: rest) l w := WL_val hd (fun a ha => by
      have : ¬ q < 0 := by omega
      simp [execOp, ha.eval hx, ha.eval hy, eqGuard, binOp, Op.shift, this]) k
theorem s_shr {x y : Operand} {kd kd' : IntKind} {p q : Int} {t t' : Nat} (hd : Nat.blt d n = true) (hx : ev l x = some (.int kd p)) (hy : ev l y = some (.int kd' q)) (h0 : 0 ≤ q) (k : WL P n ops Q rest ((d, .int kd (p.fdiv (2 ^ (min q.toNat kd.bits)))) :: l) w) :
    WL P n ops Q (⟨some d, .binOp .shr t x y t', ty, pos, aft, none⟩ :: rest) l w := WL_val hd (fun a ha => by
      have : ¬ q < 0 := by omega
      simp [execOp, ha.eval hx, ha.eval hy, eqGuard, binOp, Op.shift, this]) k
theorem s_eql {x y : Operand} {kd : IntKind} {p q : Int} {t t' : Nat} (hd : Nat.blt d n = true) (hx : ev l x = some (.int kd p)) (hy : ev l y = some (.int kd q)) (k : WL P n ops Q rest ((d, .bool (p == q)) :: l) w) :
    WL P n ops Q (⟨some d, .binOp .eql t x y t', ty, pos, aft, none⟩ :: rest) l w := WL_val hd (fun a ha => by simp [execOp, ha.eval hx, ha.eval hy, eqGuard, binOp, Op.intCmp]) k
theorem s_neq {x y : Operand} {kd : IntKind} {p q : Int} {t t' : Nat} (hd : Nat.blt d n = true) (hx : ev l x = some (.int kd p)) (hy : ev l y = some (.int kd q)) (k : WL P n ops Q rest ((d, .bool (p != q)) :: l) w) :
    WL P n ops Q (⟨some d, .binOp .neq t x y t', ty, pos, aft, none⟩ :: rest) l w := WL_val hd (fun a ha => by simp [execOp, ha.eval hx, ha.eval hy, eqGuard, binOp, Op.intCmp]) k
theorem s_lss {x y : Operand} {kd : IntKind} {p q : Int} {t t' : Nat} (hd : Nat.blt d n = true) (hx : ev l x = some (.int kd p)) (hy : ev l y = some (.int kd q)) (k : WL P n ops Q rest ((d, .bool (decide (p < q))) :: l) w) :
    WL P n ops Q (⟨some d, .binOp .lss t x y t', ty, pos, aft, none⟩ :: rest) l w := WL_val hd (fun a ha => by simp [execOp, ha.eval hx, ha.eval hy, eqGuard, binOp, Op.intCmp]) k
theorem s_leq {x y : Operand} {kd : IntKind} {p q : Int} {t t' : Nat} (hd : Nat.blt d n = true) (hx : ev l x = some (.int kd p)) (hy : ev l y = some (.int kd q)) (k : WL P n ops Q rest ((d, .bool (decide (p ≤ q))) :: l) w) :
    WL P n ops Q (⟨some d, .binOp .leq t x y t', ty, pos, aft, none⟩ :: rest) l w := WL_val hd (fun a ha => by simp [execOp, ha.eval hx, ha.eval hy, eqGuard, binOp, Op.intCmp]) k
theorem s_gtr {x y : Operand} {kd : IntKind} {p q : Int} {t t' : Nat} (hd : Nat.blt d n = true) (hx : ev l x = some (.int kd p)) (hy : ev l y = some (.int kd q)) (k : WL P n ops Q rest ((d, .bool (decide (q < p))) :: l) w) :
    WL P n ops Q (⟨some d, .binOp .gtr t x y t', ty, pos, aft, none⟩ :: rest) l w := WL_val hd (fun a ha => by simp [execOp, ha.eval hx, ha.eval hy, eqGuard, binOp, Op.intCmp]) k
theorem s_geq {x y : Operand} {kd : IntKind} {p q : Int} {t t' : Nat} (hd : Nat.blt d n = true) (hx : ev l x = some (.int kd p)) (hy : ev l y = some (.int kd q)) (k : WL P n ops Q rest ((d, .bool (decide (q ≤ p))) :: l) w) :
    WL P n ops Q (⟨some d, .binOp .geq t x y t', ty, pos, aft, none⟩ :: rest) l w := WL_val hd (fun a ha => by simp [execOp, ha.eval hx, ha.eval hy, eqGuard, binOp, Op.intCmp]) k
end
end Go.SL
