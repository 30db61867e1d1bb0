/- Contracts of package decl: Valid, Spread, Span, Key; the generator; the example. -/
import Derived.Test.YtmjjdcfakkaiiaaDeA
import Derived.Test.YtmjjdcfakkaiiaaTree
set_option linter.unusedVariables false
set_option linter.unusedSimpArgs false
namespace Go.Proofs.Ytmjjdcfakkaiiaa
open Go.SL
/-- a declaration; its labels are told apart -/
structure De where
  name : ByteArray
  lv : Value
  u0 : Int
  u1 : Int
  u2 : Int
  lo : Int
  hi : Int
  dn : Int
  up : Int
  fi : Int
  la : Int
  bu : Int
def De.vals (d : De) : List Value := [.string d.name, d.lv, .int .i64 d.u0, .int .i64 d.u1, .int .i64 d.u2, .int .i64 d.lo, .int .i64 d.hi, .int .i64 d.dn, .int .i64 d.up, .int .i64 d.fi, .int .i64 d.la, .int .i64 d.bu]
theorem De.vals_length (d : De) : d.vals.length = 12 := rfl
def De.rangeBad (d : De) : Prop := d.lo < -1073741824 ∨ d.hi < d.lo ∨ 1073741824 < d.hi ∨ d.dn < -1048576 ∨ d.up < d.dn ∨ 1048576 < d.up ∨ d.bu < 0 ∨ 1073741824 < d.bu
def De.limBad (d : De) : Prop := (d.u0 < -3 ∨ 3 < d.u0) ∨ (d.u1 < -3 ∨ 3 < d.u1) ∨ (d.u2 < -3 ∨ 3 < d.u2) ∨ d.fi < 0 ∨ d.la < d.fi ∨ 1048576 < d.la ∨ 4096 ≤ d.la - d.fi
def DeclE (d : De) (ls : List Lb) (e : Int) : Prop := (¬ (nameP d.name ∧ labsP ls) ∧ e = 8) ∨ ((nameP d.name ∧ labsP ls) ∧ ((d.rangeBad ∧ e = 5) ∨ (¬ d.rangeBad ∧ ((d.limBad ∧ e = 4) ∨ (¬ d.limBad ∧ e = 0)))))
theorem DeclE.eq {d : De} {ls : List Lb} {e f : Int} (h : DeclE d ls e) (k : DeclE d ls f) : e = f := by
  rcases h with ⟨h1, rfl⟩ | ⟨h1, ⟨h2, rfl⟩ | ⟨h2, ⟨h3, rfl⟩ | ⟨h3, rfl⟩⟩⟩ <;> rcases k with ⟨k1, rfl⟩ | ⟨k1, ⟨k2, rfl⟩ | ⟨k2, ⟨k3, rfl⟩ | ⟨k3, rfl⟩⟩⟩ <;> first | rfl | contradiction
/-! Spread, Span -/
def wr (z : Int) : Int := IntKind.i64.wrap z
def spLo (d : De) (s t lo : Int) : Int := if s ≤ t then wr (lo + wr (d.dn * wr (t - s))) else wr (lo - wr (d.up * wr (s - t)))
def spHi (d : De) (s t hi : Int) : Int := if s ≤ t then wr (hi + wr (d.up * wr (t - s))) else wr (hi - wr (d.dn * wr (s - t)))
set_option maxHeartbeats 1000000 in
theorem spread_ok (d : De) (s t lo hi : Int) (w0 : World) : Ret Try.prog 16 [.agg d.vals.toArray, .int .i64 s, .int .i64 t, .int .i64 lo, .int .i64 hi].toArray w0 fun r w' => Fwd [] w0 w' ∧ r = .tuple #[.int .i64 (spLo d s t lo), .int .i64 (spHi d s t hi)] := by
  refine Ret_start fun w hs => ?_
  unfold spLo spHi wr De.vals
  refine Ret_of Try.func16 rfl Try.ntmps16 rfl ?_
  refine W_seq ?_
  refine W_region ?_
  first | refine s_box rfl rfl hs ?_ | refine s_box1 rfl rfl rfl hs ?_
  clear hs; intro b5 w hs
  refine s_assign rfl rfl ?_
  refine s_assign rfl rfl ?_
  refine WL_nil ?_
  refine n_then ?_
  refine W_seq ?_
  refine W_seq ?_
  refine W_region ?_
  refine s_move rfl rfl ?_
  refine s_move rfl rfl ?_
  refine s_geq rfl rfl rfl ?_
  refine WL_nil ?_
  refine n_then ?_
  refine W_cond rfl (fun hc14 => ?_) (fun hc14 => ?_)
  · skip
    simp only [decide_eq_true_eq, decide_eq_false_iff_not, ge_iff_le] at hc14
    refine W_seq ?_
    refine W_draw [(0, true, []), (1, true, []), (2, true, []), (3, true, []), (4, true, []), (5, true, []), (6, true, []), (7, true, []), (8, true, []), (9, true, []), (10, true, []), (11, true, []), (12, true, []), (13, true, []), (14, true, []), (15, true, []), (16, true, []), (17, true, [])] [[], [], [1], [], [], [3, 4], [1, 2, 3, 4, 5], [0, 1, 2, 3, 4, 5, 6], [], [], [9], [], [], [11, 12], [9, 10, 11, 12, 13], [8, 9, 10, 11, 12, 13, 14], [0, 1, 2, 3, 4, 5, 6, 7], [0, 1, 2, 3, 4, 5, 6, 7, 8, 9, 10, 11, 12, 13, 14, 15, 16]] MX (by kernel_rfl) ?_
    intro w1 hw1 hw2 hw3 hw4; replace hs := hs.redrawn hw1 hw2 hw3 hw4; clear hw1 hw2 hw3 hw4
    obtain ⟨w, rfl⟩ : ∃ w : World, w = w1 := ⟨_, rfl⟩
    refine D_q rfl rfl ?_
    refine s_move rfl rfl ?_
    refine D_qn ?_
    refine D_q rfl rfl ?_
    refine s_fieldAddr rfl rfl (FA27_5 _ _) ?_
    refine D_qn ?_
    refine D_q rfl rfl ?_
    first
      | refine s_load Try.isAgg3 rfl rfl (hs.cell (k := 0) rfl rfl) ?_
    refine D_qn ?_
    refine D_q rfl rfl ?_
    refine s_move rfl rfl ?_
    refine D_qn ?_
    refine D_q rfl rfl ?_
    refine s_move rfl rfl ?_
    refine D_qn ?_
    refine D_q rfl rfl ?_
    first | (refine s_sub' rfl rfl rfl ?hx ?_; case hx => (constructor <;> first | omega | (simp only; omega))) | refine s_sub rfl rfl rfl ?_
    refine D_qn ?_
    refine D_q rfl rfl ?_
    first | (refine s_mul' rfl rfl rfl ?hx ?_; case hx => (constructor <;> first | omega | (simp only; omega))) | refine s_mul rfl rfl rfl ?_
    refine D_qn ?_
    refine D_q rfl rfl ?_
    first | (refine s_add' rfl rfl rfl ?hx ?_; case hx => (constructor <;> first | omega | (simp only; omega))) | refine s_add rfl rfl rfl ?_
    refine D_qn ?_
    refine D_q rfl rfl ?_
    refine s_move rfl rfl ?_
    refine D_qn ?_
    refine D_q rfl rfl ?_
    refine s_fieldAddr rfl rfl (FA27_6 _ _) ?_
    refine D_qn ?_
    refine D_q rfl rfl ?_
    first
      | refine s_load Try.isAgg3 rfl rfl (hs.cell (k := 0) rfl rfl) ?_
    refine D_qn ?_
    refine D_q rfl rfl ?_
    refine s_move rfl rfl ?_
    refine D_qn ?_
    refine D_q rfl rfl ?_
    refine s_move rfl rfl ?_
    refine D_qn ?_
    refine D_q rfl rfl ?_
    first | (refine s_sub' rfl rfl rfl ?hx ?_; case hx => (constructor <;> first | omega | (simp only; omega))) | refine s_sub rfl rfl rfl ?_
    refine D_qn ?_
    refine D_q rfl rfl ?_
    first | (refine s_mul' rfl rfl rfl ?hx ?_; case hx => (constructor <;> first | omega | (simp only; omega))) | refine s_mul rfl rfl rfl ?_
    refine D_qn ?_
    refine D_q rfl rfl ?_
    first | (refine s_add' rfl rfl rfl ?hx ?_; case hx => (constructor <;> first | omega | (simp only; omega))) | refine s_add rfl rfl rfl ?_
    refine D_qn ?_
    refine D_q rfl rfl ?_
    refine s_assign rfl rfl ?_
    refine D_qn ?_
    refine D_q rfl rfl ?_
    refine s_assign rfl rfl ?_
    refine D_qn ?_
    refine D_nil ?_
    refine n_then ?_
    refine W_ret ?_
    refine r_then ?_
    first
      | exact end2 rfl rfl rfl ⟨hs.fwd, by rw [if_pos hc14, if_pos hc14]⟩
      | exact end2 rfl rfl rfl ⟨hs.fwd, by rw [if_neg hc14, if_neg hc14]⟩
  · skip
    simp only [decide_eq_true_eq, decide_eq_false_iff_not, ge_iff_le] at hc14
    refine W_skip ?_
    refine n_then ?_
    refine W_seq ?_
    refine W_draw [(0, true, []), (1, true, []), (2, true, []), (3, true, []), (4, true, []), (5, true, []), (6, true, []), (7, true, []), (8, true, []), (9, true, []), (10, true, []), (11, true, []), (12, true, []), (13, true, []), (14, true, []), (15, true, []), (16, true, []), (17, true, [])] [[], [], [1], [], [], [3, 4], [1, 2, 3, 4, 5], [0, 1, 2, 3, 4, 5, 6], [], [], [9], [], [], [11, 12], [9, 10, 11, 12, 13], [8, 9, 10, 11, 12, 13, 14], [0, 1, 2, 3, 4, 5, 6, 7], [0, 1, 2, 3, 4, 5, 6, 7, 8, 9, 10, 11, 12, 13, 14, 15, 16]] MX (by kernel_rfl) ?_
    intro w1 hw1 hw2 hw3 hw4; replace hs := hs.redrawn hw1 hw2 hw3 hw4; clear hw1 hw2 hw3 hw4
    obtain ⟨w, rfl⟩ : ∃ w : World, w = w1 := ⟨_, rfl⟩
    refine D_q rfl rfl ?_
    refine s_move rfl rfl ?_
    refine D_qn ?_
    refine D_q rfl rfl ?_
    refine s_fieldAddr rfl rfl (FA27_6 _ _) ?_
    refine D_qn ?_
    refine D_q rfl rfl ?_
    first
      | refine s_load Try.isAgg3 rfl rfl (hs.cell (k := 0) rfl rfl) ?_
    refine D_qn ?_
    refine D_q rfl rfl ?_
    refine s_move rfl rfl ?_
    refine D_qn ?_
    refine D_q rfl rfl ?_
    refine s_move rfl rfl ?_
    refine D_qn ?_
    refine D_q rfl rfl ?_
    first | (refine s_sub' rfl rfl rfl ?hx ?_; case hx => (constructor <;> first | omega | (simp only; omega))) | refine s_sub rfl rfl rfl ?_
    refine D_qn ?_
    refine D_q rfl rfl ?_
    first | (refine s_mul' rfl rfl rfl ?hx ?_; case hx => (constructor <;> first | omega | (simp only; omega))) | refine s_mul rfl rfl rfl ?_
    refine D_qn ?_
    refine D_q rfl rfl ?_
    first | (refine s_sub' rfl rfl rfl ?hx ?_; case hx => (constructor <;> first | omega | (simp only; omega))) | refine s_sub rfl rfl rfl ?_
    refine D_qn ?_
    refine D_q rfl rfl ?_
    refine s_move rfl rfl ?_
    refine D_qn ?_
    refine D_q rfl rfl ?_
    refine s_fieldAddr rfl rfl (FA27_5 _ _) ?_
    refine D_qn ?_
    refine D_q rfl rfl ?_
    first
      | refine s_load Try.isAgg3 rfl rfl (hs.cell (k := 0) rfl rfl) ?_
    refine D_qn ?_
    refine D_q rfl rfl ?_
    refine s_move rfl rfl ?_
    refine D_qn ?_
    refine D_q rfl rfl ?_
    refine s_move rfl rfl ?_
    refine D_qn ?_
    refine D_q rfl rfl ?_
    first | (refine s_sub' rfl rfl rfl ?hx ?_; case hx => (constructor <;> first | omega | (simp only; omega))) | refine s_sub rfl rfl rfl ?_
    refine D_qn ?_
    refine D_q rfl rfl ?_
    first | (refine s_mul' rfl rfl rfl ?hx ?_; case hx => (constructor <;> first | omega | (simp only; omega))) | refine s_mul rfl rfl rfl ?_
    refine D_qn ?_
    refine D_q rfl rfl ?_
    first | (refine s_sub' rfl rfl rfl ?hx ?_; case hx => (constructor <;> first | omega | (simp only; omega))) | refine s_sub rfl rfl rfl ?_
    refine D_qn ?_
    refine D_q rfl rfl ?_
    refine s_assign rfl rfl ?_
    refine D_qn ?_
    refine D_q rfl rfl ?_
    refine s_assign rfl rfl ?_
    refine D_qn ?_
    refine D_nil ?_
    refine n_then ?_
    refine W_ret ?_
    first
      | exact end2 rfl rfl rfl ⟨hs.fwd, by rw [if_pos hc14, if_pos hc14]⟩
      | exact end2 rfl rfl rfl ⟨hs.fwd, by rw [if_neg hc14, if_neg hc14]⟩
theorem span_ok (d : De) (w0 : World) : Ret Try.prog 19 [.agg d.vals.toArray].toArray w0 fun r w' => Fwd [] w0 w' ∧ r = .int .i64 (wr (wr (d.la - d.fi) + 1)) := by
  refine Ret_start fun w hs => ?_
  unfold wr De.vals
  refine Ret_of Try.func19 rfl Try.ntmps19 rfl ?_
  refine W_seq ?_
  refine W_region ?_
  first | refine s_box rfl rfl hs ?_ | refine s_box1 rfl rfl rfl hs ?_
  clear hs; intro b1 w hs
  refine s_assign rfl rfl ?_
  refine WL_nil ?_
  refine n_then ?_
  refine W_seq ?_
  refine W_region ?_
  refine s_fieldAddr rfl rfl (FA27_8 _ _) ?_
  first
    | refine s_load Try.isAgg3 rfl rfl (hs.cell (k := 0) rfl rfl) ?_
  refine s_fieldAddr rfl rfl (FA27_7 _ _) ?_
  first
    | refine s_load Try.isAgg3 rfl rfl (hs.cell (k := 0) rfl rfl) ?_
  first | (refine s_sub' rfl rfl rfl ?hx ?_; case hx => (constructor <;> first | omega | (simp only; omega))) | refine s_sub rfl rfl rfl ?_
  first | (refine s_add' rfl rfl rfl ?hx ?_; case hx => (constructor <;> first | omega | (simp only; omega))) | refine s_add rfl rfl rfl ?_
  refine s_assign rfl rfl ?_
  refine WL_nil ?_
  refine n_then ?_
  refine W_ret ?_
  exact end1 rfl rfl ⟨hs.fwd, rfl⟩
/-! Valid -/
theorem idx3_0 (x0 x1 x2 : Int) (w : World) : (Instr.index 25 (.agg #[.int .i64 x0, .int .i64 x1, .int .i64 x2]) (.int .i64 0)).run Try.prog w = .ok (.int .i64 x0) w := by kernel_rfl
theorem idx3_1 (x0 x1 x2 : Int) (w : World) : (Instr.index 25 (.agg #[.int .i64 x0, .int .i64 x1, .int .i64 x2]) (.int .i64 1)).run Try.prog w = .ok (.int .i64 x1) w := by kernel_rfl
theorem idx3_2 (x0 x1 x2 : Int) (w : World) : (Instr.index 25 (.agg #[.int .i64 x0, .int .i64 x1, .int .i64 x2]) (.int .i64 2)).run Try.prog w = .ok (.int .i64 x2) w := by kernel_rfl
theorem idx3 (x0 x1 x2 : Int) (i : Nat) (hi : i < 3) : ∃ z, (∀ w : World, (Instr.index 25 (.agg #[.int .i64 x0, .int .i64 x1, .int .i64 x2]) (.int .i64 (i : Int))).run Try.prog w = .ok (.int .i64 z) w) ∧ ((i = 0 ∧ z = x0) ∨ (i = 1 ∧ z = x1) ∨ (i = 2 ∧ z = x2)) := by
  have h3 : i = 0 ∨ i = 1 ∨ i = 2 := by omega
  rcases h3 with h | h | h <;> subst h
  · exact ⟨x0, fun w => idx3_0 x0 x1 x2 w, .inl ⟨rfl, rfl⟩⟩
  · exact ⟨x1, fun w => idx3_1 x0 x1 x2 w, .inr (.inl ⟨rfl, rfl⟩)⟩
  · exact ⟨x2, fun w => idx3_2 x0 x1 x2 w, .inr (.inr ⟨rfl, rfl⟩)⟩
end Go.Proofs.Ytmjjdcfakkaiiaa
namespace Go.SL
theorem s_index_run {P : Program} {n : Nat} {ops : Array Oper} {Q : Post} {l : Fr} {w : World} {rest : List Oper} {d ty : Nat} {pos : String} {aft : Array Edge} {x y : Operand} {t : Nat} {u i v : Value} (hd : Nat.blt d n = true) (hx : ev l x = some u) (hy : ev l y = some i) (h : (Instr.index t u i).run P w = .ok v w)
    (k : WL P n ops Q rest ((d, v) :: l) w) : WL P n ops Q (⟨some d, .index t x y, ty, pos, aft, none⟩ :: rest) l w := WL_val hd (fun a ha => by simp [execOp, ha.eval hx, ha.eval hy, h]) k
end Go.SL
namespace Go.Proofs.Ytmjjdcfakkaiiaa
open Go.SL
set_option maxHeartbeats 2000000 in
theorem declValid_ok (d : De) (ls : List Lb) (w0 : World) (hv : Sl w0 d.lv ls.length (lbcells ls)) : Ret Try.prog 13 [.agg d.vals.toArray].toArray w0 fun r w' => Fwd [] w0 w' ∧ ∃ e, r = .int .i64 e ∧ DeclE d ls e := by
  obtain ⟨name, lv, u0, u1, u2, lo, hi, dn, up, fi, la, bu⟩ := d
  simp only at hv
  obtain ⟨va, vc, rfl, hvc⟩ := hv.len_le
  refine Ret_start fun w hs => ?_
  simp only [De.vals]
  refine Ret_of Try.func13 rfl Try.ntmps13 rfl ?_
  refine W_seq ?_
  refine W_region ?_
  first | refine s_box rfl rfl hs ?_ | refine s_box1 rfl rfl rfl hs ?_
  clear hs; intro b1 w hs
  refine s_assign rfl rfl ?_
  refine WL_nil ?_
  refine n_then ?_
  refine W_seq ?_
  refine W_block ?_
  refine W_seq ?_
  refine W_region ?_
  refine s_fieldAddr rfl rfl (FA27_0 _ _) ?_
  first
    | refine s_load Try.isAgg9 rfl rfl (hs.cell (k := 0) rfl rfl) ?_
  refine s_call Try.call34 rfl rfl (name_ok name w) ?_
  rintro r w ⟨hst, rfl⟩
  replace hs := hs.fwd1 hst
  clear hst
  refine s_not rfl rfl ?_
  refine s_move rfl rfl ?_
  refine WL_case (s := 10) rfl (fun hg10 => ?_) (fun hg10 => ?_)
  · skip
    try simp only [decide_eq_true_eq, decide_eq_false_iff_not, beq_iff_eq, beq_eq_false_iff_ne, bne_iff_ne, bne_eq_false_iff_eq, ne_eq, Bool.not_eq_true', Bool.not_eq_false', Bool.not_eq_true, Bool.not_eq_false, gt_iff_lt, ge_iff_le] at hg10
    refine WL_skip rfl rfl rfl ?_
    refine WL_skip rfl rfl rfl ?_
    refine WL_skip rfl rfl rfl ?_
    refine WL_skip rfl rfl rfl ?_
    refine s_pick_t rfl rfl rfl ?_
    refine s_assign rfl rfl ?_
    refine WL_nil ?_
    refine n_then ?_
    refine W_cond_t rfl ?_
    refine W_seq ?_
    refine W_region ?_
    refine s_assign rfl rfl ?_
    refine WL_nil ?_
    refine n_then ?_
    refine W_ret ?_
    refine r_blk ?_
    refine r_then ?_
    first
      | exact end1 rfl rfl ⟨hs.fwd, _, rfl, .inl ⟨fun h => absurd h.1 ‹_›, rfl⟩⟩
      | exact end1 rfl rfl ⟨hs.fwd, _, rfl, .inl ⟨fun h => (by rw [hlb.2 h.2] at hc5; cases hc5), rfl⟩⟩
      | exact end1 rfl rfl ⟨hs.fwd, _, rfl, .inr ⟨⟨hg10, hlb.1 hc5⟩, .inl ⟨by unfold De.rangeBad; simp only; omega, rfl⟩⟩⟩
      | exact end1 rfl rfl ⟨hs.fwd, _, rfl, .inr ⟨hnl, .inr ⟨hrg, .inl ⟨by unfold De.limBad; simp only; omega, rfl⟩⟩⟩⟩
      | exact end1 rfl rfl ⟨hs.fwd, _, rfl, .inr ⟨hnl, .inr ⟨hrg, .inr ⟨by unfold De.limBad; simp only; omega, rfl⟩⟩⟩⟩
  · skip
    try simp only [decide_eq_true_eq, decide_eq_false_iff_not, beq_iff_eq, beq_eq_false_iff_ne, bne_iff_ne, bne_eq_false_iff_eq, ne_eq, Bool.not_eq_true', Bool.not_eq_false', Bool.not_eq_true, Bool.not_eq_false, gt_iff_lt, ge_iff_le] at hg10
    refine WL_take rfl ?_
    refine s_fieldAddr rfl rfl (FA27_1 _ _) ?_
    refine WL_take rfl ?_
    first
      | refine s_load Try.isAgg23 rfl rfl (hs.cell (k := 0) rfl rfl) ?_
    refine WL_take rfl ?_
    refine s_call Try.call35 rfl rfl (labels_ok _ ls w (hv.fwd0 hs.fwd)) ?_
    rintro r w ⟨hst, lb, rfl, hlb⟩
    replace hs := hs.fwd1 hst
    clear hst
    refine WL_take rfl ?_
    refine s_not rfl rfl ?_
    refine s_pick_f rfl rfl rfl ?_
    refine s_assign rfl rfl ?_
    refine WL_nil ?_
    refine n_then ?_
    refine W_cond rfl (fun hc5 => ?_) (fun hc5 => ?_)
    · skip
      try simp only [decide_eq_true_eq, decide_eq_false_iff_not, beq_iff_eq, beq_eq_false_iff_ne, bne_iff_ne, bne_eq_false_iff_eq, ne_eq, Bool.not_eq_true', Bool.not_eq_false', Bool.not_eq_true, Bool.not_eq_false, gt_iff_lt, ge_iff_le] at hc5
      refine W_seq ?_
      refine W_region ?_
      refine s_assign rfl rfl ?_
      refine WL_nil ?_
      refine n_then ?_
      refine W_ret ?_
      refine r_blk ?_
      refine r_then ?_
      first
        | exact end1 rfl rfl ⟨hs.fwd, _, rfl, .inl ⟨fun h => absurd h.1 ‹_›, rfl⟩⟩
        | exact end1 rfl rfl ⟨hs.fwd, _, rfl, .inl ⟨fun h => (by rw [hlb.2 h.2] at hc5; cases hc5), rfl⟩⟩
        | exact end1 rfl rfl ⟨hs.fwd, _, rfl, .inr ⟨⟨hg10, hlb.1 hc5⟩, .inl ⟨by unfold De.rangeBad; simp only; omega, rfl⟩⟩⟩
        | exact end1 rfl rfl ⟨hs.fwd, _, rfl, .inr ⟨hnl, .inr ⟨hrg, .inl ⟨by unfold De.limBad; simp only; omega, rfl⟩⟩⟩⟩
        | exact end1 rfl rfl ⟨hs.fwd, _, rfl, .inr ⟨hnl, .inr ⟨hrg, .inr ⟨by unfold De.limBad; simp only; omega, rfl⟩⟩⟩⟩
    · skip
      try simp only [decide_eq_true_eq, decide_eq_false_iff_not, beq_iff_eq, beq_eq_false_iff_ne, bne_iff_ne, bne_eq_false_iff_eq, ne_eq, Bool.not_eq_true', Bool.not_eq_false', Bool.not_eq_true, Bool.not_eq_false, gt_iff_lt, ge_iff_le] at hc5
      refine W_seq ?_
      refine W_region ?_
      refine s_fieldAddr rfl rfl (FA27_3 _ _) ?_
      first
        | refine s_load Try.isAgg3 rfl rfl (hs.cell (k := 0) rfl rfl) ?_
      refine s_lss rfl rfl rfl ?_
      refine s_move rfl rfl ?_
      refine WL_case (s := 20) rfl (fun hg20 => ?_) (fun hg20 => ?_)
      · skip
        try simp only [decide_eq_true_eq, decide_eq_false_iff_not, beq_iff_eq, beq_eq_false_iff_ne, bne_iff_ne, bne_eq_false_iff_eq, ne_eq, Bool.not_eq_true', Bool.not_eq_false', Bool.not_eq_true, Bool.not_eq_false, gt_iff_lt, ge_iff_le] at hg20
        refine WL_skip rfl rfl rfl ?_
        refine WL_skip rfl rfl rfl ?_
        refine WL_skip rfl rfl rfl ?_
        refine WL_skip rfl rfl rfl ?_
        refine WL_skip rfl rfl rfl ?_
        refine s_pick_t rfl rfl rfl ?_
        refine s_move rfl rfl ?_
        refine WL_skip rfl rfl rfl ?_
        refine WL_skip rfl rfl rfl ?_
        refine WL_skip rfl rfl rfl ?_
        refine s_pick_t rfl rfl rfl ?_
        refine s_assign rfl rfl ?_
        refine WL_nil ?_
        refine n_then ?_
        refine W_cond_t rfl ?_
        refine W_seq ?_
        refine W_region ?_
        refine s_assign rfl rfl ?_
        refine WL_nil ?_
        refine n_then ?_
        refine W_ret ?_
        refine r_blk ?_
        refine r_then ?_
        first
          | exact end1 rfl rfl ⟨hs.fwd, _, rfl, .inl ⟨fun h => absurd h.1 ‹_›, rfl⟩⟩
          | exact end1 rfl rfl ⟨hs.fwd, _, rfl, .inl ⟨fun h => (by rw [hlb.2 h.2] at hc5; cases hc5), rfl⟩⟩
          | exact end1 rfl rfl ⟨hs.fwd, _, rfl, .inr ⟨⟨hg10, hlb.1 hc5⟩, .inl ⟨by unfold De.rangeBad; simp only; omega, rfl⟩⟩⟩
          | exact end1 rfl rfl ⟨hs.fwd, _, rfl, .inr ⟨hnl, .inr ⟨hrg, .inl ⟨by unfold De.limBad; simp only; omega, rfl⟩⟩⟩⟩
          | exact end1 rfl rfl ⟨hs.fwd, _, rfl, .inr ⟨hnl, .inr ⟨hrg, .inr ⟨by unfold De.limBad; simp only; omega, rfl⟩⟩⟩⟩
      · skip
        try simp only [decide_eq_true_eq, decide_eq_false_iff_not, beq_iff_eq, beq_eq_false_iff_ne, bne_iff_ne, bne_eq_false_iff_eq, ne_eq, Bool.not_eq_true', Bool.not_eq_false', Bool.not_eq_true, Bool.not_eq_false, gt_iff_lt, ge_iff_le] at hg20
        refine WL_take rfl ?_
        refine s_fieldAddr rfl rfl (FA27_4 _ _) ?_
        refine WL_take rfl ?_
        first
          | refine s_load Try.isAgg3 rfl rfl (hs.cell (k := 0) rfl rfl) ?_
        refine WL_take rfl ?_
        refine s_fieldAddr rfl rfl (FA27_3 _ _) ?_
        refine WL_take rfl ?_
        first
          | refine s_load Try.isAgg3 rfl rfl (hs.cell (k := 0) rfl rfl) ?_
        refine WL_take rfl ?_
        refine s_lss rfl rfl rfl ?_
        refine s_pick_f rfl rfl rfl ?_
        refine s_move rfl rfl ?_
        refine WL_case (s := 27) rfl (fun hg27 => ?_) (fun hg27 => ?_)
        · skip
          try simp only [decide_eq_true_eq, decide_eq_false_iff_not, beq_iff_eq, beq_eq_false_iff_ne, bne_iff_ne, bne_eq_false_iff_eq, ne_eq, Bool.not_eq_true', Bool.not_eq_false', Bool.not_eq_true, Bool.not_eq_false, gt_iff_lt, ge_iff_le] at hg27
          refine WL_skip rfl rfl rfl ?_
          refine WL_skip rfl rfl rfl ?_
          refine WL_skip rfl rfl rfl ?_
          refine s_pick_t rfl rfl rfl ?_
          refine s_assign rfl rfl ?_
          refine WL_nil ?_
          refine n_then ?_
          refine W_cond_t rfl ?_
          refine W_seq ?_
          refine W_region ?_
          refine s_assign rfl rfl ?_
          refine WL_nil ?_
          refine n_then ?_
          refine W_ret ?_
          refine r_blk ?_
          refine r_then ?_
          first
            | exact end1 rfl rfl ⟨hs.fwd, _, rfl, .inl ⟨fun h => absurd h.1 ‹_›, rfl⟩⟩
            | exact end1 rfl rfl ⟨hs.fwd, _, rfl, .inl ⟨fun h => (by rw [hlb.2 h.2] at hc5; cases hc5), rfl⟩⟩
            | exact end1 rfl rfl ⟨hs.fwd, _, rfl, .inr ⟨⟨hg10, hlb.1 hc5⟩, .inl ⟨by unfold De.rangeBad; simp only; omega, rfl⟩⟩⟩
            | exact end1 rfl rfl ⟨hs.fwd, _, rfl, .inr ⟨hnl, .inr ⟨hrg, .inl ⟨by unfold De.limBad; simp only; omega, rfl⟩⟩⟩⟩
            | exact end1 rfl rfl ⟨hs.fwd, _, rfl, .inr ⟨hnl, .inr ⟨hrg, .inr ⟨by unfold De.limBad; simp only; omega, rfl⟩⟩⟩⟩
        · skip
          try simp only [decide_eq_true_eq, decide_eq_false_iff_not, beq_iff_eq, beq_eq_false_iff_ne, bne_iff_ne, bne_eq_false_iff_eq, ne_eq, Bool.not_eq_true', Bool.not_eq_false', Bool.not_eq_true, Bool.not_eq_false, gt_iff_lt, ge_iff_le] at hg27
          refine WL_take rfl ?_
          refine s_fieldAddr rfl rfl (FA27_4 _ _) ?_
          refine WL_take rfl ?_
          first
            | refine s_load Try.isAgg3 rfl rfl (hs.cell (k := 0) rfl rfl) ?_
          refine WL_take rfl ?_
          refine s_gtr rfl rfl rfl ?_
          refine s_pick_f rfl rfl rfl ?_
          refine s_assign rfl rfl ?_
          refine WL_nil ?_
          refine n_then ?_
          refine W_cond rfl (fun hc16 => ?_) (fun hc16 => ?_)
          · skip
            try simp only [decide_eq_true_eq, decide_eq_false_iff_not, beq_iff_eq, beq_eq_false_iff_ne, bne_iff_ne, bne_eq_false_iff_eq, ne_eq, Bool.not_eq_true', Bool.not_eq_false', Bool.not_eq_true, Bool.not_eq_false, gt_iff_lt, ge_iff_le] at hc16
            refine W_seq ?_
            refine W_region ?_
            refine s_assign rfl rfl ?_
            refine WL_nil ?_
            refine n_then ?_
            refine W_ret ?_
            refine r_blk ?_
            refine r_then ?_
            first
              | exact end1 rfl rfl ⟨hs.fwd, _, rfl, .inl ⟨fun h => absurd h.1 ‹_›, rfl⟩⟩
              | exact end1 rfl rfl ⟨hs.fwd, _, rfl, .inl ⟨fun h => (by rw [hlb.2 h.2] at hc5; cases hc5), rfl⟩⟩
              | exact end1 rfl rfl ⟨hs.fwd, _, rfl, .inr ⟨⟨hg10, hlb.1 hc5⟩, .inl ⟨by unfold De.rangeBad; simp only; omega, rfl⟩⟩⟩
              | exact end1 rfl rfl ⟨hs.fwd, _, rfl, .inr ⟨hnl, .inr ⟨hrg, .inl ⟨by unfold De.limBad; simp only; omega, rfl⟩⟩⟩⟩
              | exact end1 rfl rfl ⟨hs.fwd, _, rfl, .inr ⟨hnl, .inr ⟨hrg, .inr ⟨by unfold De.limBad; simp only; omega, rfl⟩⟩⟩⟩
          · skip
            try simp only [decide_eq_true_eq, decide_eq_false_iff_not, beq_iff_eq, beq_eq_false_iff_ne, bne_iff_ne, bne_eq_false_iff_eq, ne_eq, Bool.not_eq_true', Bool.not_eq_false', Bool.not_eq_true, Bool.not_eq_false, gt_iff_lt, ge_iff_le] at hc16
            refine W_seq ?_
            refine W_region ?_
            refine s_fieldAddr rfl rfl (FA27_5 _ _) ?_
            first
              | refine s_load Try.isAgg3 rfl rfl (hs.cell (k := 0) rfl rfl) ?_
            refine s_lss rfl rfl rfl ?_
            refine s_move rfl rfl ?_
            refine WL_case (s := 36) rfl (fun hg36 => ?_) (fun hg36 => ?_)
            · skip
              try simp only [decide_eq_true_eq, decide_eq_false_iff_not, beq_iff_eq, beq_eq_false_iff_ne, bne_iff_ne, bne_eq_false_iff_eq, ne_eq, Bool.not_eq_true', Bool.not_eq_false', Bool.not_eq_true, Bool.not_eq_false, gt_iff_lt, ge_iff_le] at hg36
              refine WL_skip rfl rfl rfl ?_
              refine WL_skip rfl rfl rfl ?_
              refine WL_skip rfl rfl rfl ?_
              refine WL_skip rfl rfl rfl ?_
              refine WL_skip rfl rfl rfl ?_
              refine s_pick_t rfl rfl rfl ?_
              refine s_move rfl rfl ?_
              refine WL_skip rfl rfl rfl ?_
              refine WL_skip rfl rfl rfl ?_
              refine WL_skip rfl rfl rfl ?_
              refine s_pick_t rfl rfl rfl ?_
              refine s_assign rfl rfl ?_
              refine WL_nil ?_
              refine n_then ?_
              refine W_cond_t rfl ?_
              refine W_seq ?_
              refine W_region ?_
              refine s_assign rfl rfl ?_
              refine WL_nil ?_
              refine n_then ?_
              refine W_ret ?_
              refine r_blk ?_
              refine r_then ?_
              first
                | exact end1 rfl rfl ⟨hs.fwd, _, rfl, .inl ⟨fun h => absurd h.1 ‹_›, rfl⟩⟩
                | exact end1 rfl rfl ⟨hs.fwd, _, rfl, .inl ⟨fun h => (by rw [hlb.2 h.2] at hc5; cases hc5), rfl⟩⟩
                | exact end1 rfl rfl ⟨hs.fwd, _, rfl, .inr ⟨⟨hg10, hlb.1 hc5⟩, .inl ⟨by unfold De.rangeBad; simp only; omega, rfl⟩⟩⟩
                | exact end1 rfl rfl ⟨hs.fwd, _, rfl, .inr ⟨hnl, .inr ⟨hrg, .inl ⟨by unfold De.limBad; simp only; omega, rfl⟩⟩⟩⟩
                | exact end1 rfl rfl ⟨hs.fwd, _, rfl, .inr ⟨hnl, .inr ⟨hrg, .inr ⟨by unfold De.limBad; simp only; omega, rfl⟩⟩⟩⟩
            · skip
              try simp only [decide_eq_true_eq, decide_eq_false_iff_not, beq_iff_eq, beq_eq_false_iff_ne, bne_iff_ne, bne_eq_false_iff_eq, ne_eq, Bool.not_eq_true', Bool.not_eq_false', Bool.not_eq_true, Bool.not_eq_false, gt_iff_lt, ge_iff_le] at hg36
              refine WL_take rfl ?_
              refine s_fieldAddr rfl rfl (FA27_6 _ _) ?_
              refine WL_take rfl ?_
              first
                | refine s_load Try.isAgg3 rfl rfl (hs.cell (k := 0) rfl rfl) ?_
              refine WL_take rfl ?_
              refine s_fieldAddr rfl rfl (FA27_5 _ _) ?_
              refine WL_take rfl ?_
              first
                | refine s_load Try.isAgg3 rfl rfl (hs.cell (k := 0) rfl rfl) ?_
              refine WL_take rfl ?_
              refine s_lss rfl rfl rfl ?_
              refine s_pick_f rfl rfl rfl ?_
              refine s_move rfl rfl ?_
              refine WL_case (s := 43) rfl (fun hg43 => ?_) (fun hg43 => ?_)
              · skip
                try simp only [decide_eq_true_eq, decide_eq_false_iff_not, beq_iff_eq, beq_eq_false_iff_ne, bne_iff_ne, bne_eq_false_iff_eq, ne_eq, Bool.not_eq_true', Bool.not_eq_false', Bool.not_eq_true, Bool.not_eq_false, gt_iff_lt, ge_iff_le] at hg43
                refine WL_skip rfl rfl rfl ?_
                refine WL_skip rfl rfl rfl ?_
                refine WL_skip rfl rfl rfl ?_
                refine s_pick_t rfl rfl rfl ?_
                refine s_assign rfl rfl ?_
                refine WL_nil ?_
                refine n_then ?_
                refine W_cond_t rfl ?_
                refine W_seq ?_
                refine W_region ?_
                refine s_assign rfl rfl ?_
                refine WL_nil ?_
                refine n_then ?_
                refine W_ret ?_
                refine r_blk ?_
                refine r_then ?_
                first
                  | exact end1 rfl rfl ⟨hs.fwd, _, rfl, .inl ⟨fun h => absurd h.1 ‹_›, rfl⟩⟩
                  | exact end1 rfl rfl ⟨hs.fwd, _, rfl, .inl ⟨fun h => (by rw [hlb.2 h.2] at hc5; cases hc5), rfl⟩⟩
                  | exact end1 rfl rfl ⟨hs.fwd, _, rfl, .inr ⟨⟨hg10, hlb.1 hc5⟩, .inl ⟨by unfold De.rangeBad; simp only; omega, rfl⟩⟩⟩
                  | exact end1 rfl rfl ⟨hs.fwd, _, rfl, .inr ⟨hnl, .inr ⟨hrg, .inl ⟨by unfold De.limBad; simp only; omega, rfl⟩⟩⟩⟩
                  | exact end1 rfl rfl ⟨hs.fwd, _, rfl, .inr ⟨hnl, .inr ⟨hrg, .inr ⟨by unfold De.limBad; simp only; omega, rfl⟩⟩⟩⟩
              · skip
                try simp only [decide_eq_true_eq, decide_eq_false_iff_not, beq_iff_eq, beq_eq_false_iff_ne, bne_iff_ne, bne_eq_false_iff_eq, ne_eq, Bool.not_eq_true', Bool.not_eq_false', Bool.not_eq_true, Bool.not_eq_false, gt_iff_lt, ge_iff_le] at hg43
                refine WL_take rfl ?_
                refine s_fieldAddr rfl rfl (FA27_6 _ _) ?_
                refine WL_take rfl ?_
                first
                  | refine s_load Try.isAgg3 rfl rfl (hs.cell (k := 0) rfl rfl) ?_
                refine WL_take rfl ?_
                refine s_gtr rfl rfl rfl ?_
                refine s_pick_f rfl rfl rfl ?_
                refine s_assign rfl rfl ?_
                refine WL_nil ?_
                refine n_then ?_
                refine W_cond rfl (fun hc32 => ?_) (fun hc32 => ?_)
                · skip
                  try simp only [decide_eq_true_eq, decide_eq_false_iff_not, beq_iff_eq, beq_eq_false_iff_ne, bne_iff_ne, bne_eq_false_iff_eq, ne_eq, Bool.not_eq_true', Bool.not_eq_false', Bool.not_eq_true, Bool.not_eq_false, gt_iff_lt, ge_iff_le] at hc32
                  refine W_seq ?_
                  refine W_region ?_
                  refine s_assign rfl rfl ?_
                  refine WL_nil ?_
                  refine n_then ?_
                  refine W_ret ?_
                  refine r_blk ?_
                  refine r_then ?_
                  first
                    | exact end1 rfl rfl ⟨hs.fwd, _, rfl, .inl ⟨fun h => absurd h.1 ‹_›, rfl⟩⟩
                    | exact end1 rfl rfl ⟨hs.fwd, _, rfl, .inl ⟨fun h => (by rw [hlb.2 h.2] at hc5; cases hc5), rfl⟩⟩
                    | exact end1 rfl rfl ⟨hs.fwd, _, rfl, .inr ⟨⟨hg10, hlb.1 hc5⟩, .inl ⟨by unfold De.rangeBad; simp only; omega, rfl⟩⟩⟩
                    | exact end1 rfl rfl ⟨hs.fwd, _, rfl, .inr ⟨hnl, .inr ⟨hrg, .inl ⟨by unfold De.limBad; simp only; omega, rfl⟩⟩⟩⟩
                    | exact end1 rfl rfl ⟨hs.fwd, _, rfl, .inr ⟨hnl, .inr ⟨hrg, .inr ⟨by unfold De.limBad; simp only; omega, rfl⟩⟩⟩⟩
                · skip
                  try simp only [decide_eq_true_eq, decide_eq_false_iff_not, beq_iff_eq, beq_eq_false_iff_ne, bne_iff_ne, bne_eq_false_iff_eq, ne_eq, Bool.not_eq_true', Bool.not_eq_false', Bool.not_eq_true, Bool.not_eq_false, gt_iff_lt, ge_iff_le] at hc32
                  refine W_seq ?_
                  refine W_region ?_
                  refine s_fieldAddr rfl rfl (FA27_9 _ _) ?_
                  first
                    | refine s_load Try.isAgg3 rfl rfl (hs.cell (k := 0) rfl rfl) ?_
                  refine s_lss rfl rfl rfl ?_
                  refine s_move rfl rfl ?_
                  refine WL_case (s := 52) rfl (fun hg52 => ?_) (fun hg52 => ?_)
                  · skip
                    try simp only [decide_eq_true_eq, decide_eq_false_iff_not, beq_iff_eq, beq_eq_false_iff_ne, bne_iff_ne, bne_eq_false_iff_eq, ne_eq, Bool.not_eq_true', Bool.not_eq_false', Bool.not_eq_true, Bool.not_eq_false, gt_iff_lt, ge_iff_le] at hg52
                    refine WL_skip rfl rfl rfl ?_
                    refine WL_skip rfl rfl rfl ?_
                    refine WL_skip rfl rfl rfl ?_
                    refine s_pick_t rfl rfl rfl ?_
                    refine s_assign rfl rfl ?_
                    refine WL_nil ?_
                    refine n_then ?_
                    refine W_cond_t rfl ?_
                    refine W_seq ?_
                    refine W_region ?_
                    refine s_assign rfl rfl ?_
                    refine WL_nil ?_
                    refine n_then ?_
                    refine W_ret ?_
                    refine r_blk ?_
                    refine r_then ?_
                    first
                      | exact end1 rfl rfl ⟨hs.fwd, _, rfl, .inl ⟨fun h => absurd h.1 ‹_›, rfl⟩⟩
                      | exact end1 rfl rfl ⟨hs.fwd, _, rfl, .inl ⟨fun h => (by rw [hlb.2 h.2] at hc5; cases hc5), rfl⟩⟩
                      | exact end1 rfl rfl ⟨hs.fwd, _, rfl, .inr ⟨⟨hg10, hlb.1 hc5⟩, .inl ⟨by unfold De.rangeBad; simp only; omega, rfl⟩⟩⟩
                      | exact end1 rfl rfl ⟨hs.fwd, _, rfl, .inr ⟨hnl, .inr ⟨hrg, .inl ⟨by unfold De.limBad; simp only; omega, rfl⟩⟩⟩⟩
                      | exact end1 rfl rfl ⟨hs.fwd, _, rfl, .inr ⟨hnl, .inr ⟨hrg, .inr ⟨by unfold De.limBad; simp only; omega, rfl⟩⟩⟩⟩
                  · skip
                    try simp only [decide_eq_true_eq, decide_eq_false_iff_not, beq_iff_eq, beq_eq_false_iff_ne, bne_iff_ne, bne_eq_false_iff_eq, ne_eq, Bool.not_eq_true', Bool.not_eq_false', Bool.not_eq_true, Bool.not_eq_false, gt_iff_lt, ge_iff_le] at hg52
                    refine WL_take rfl ?_
                    refine s_fieldAddr rfl rfl (FA27_9 _ _) ?_
                    refine WL_take rfl ?_
                    first
                      | refine s_load Try.isAgg3 rfl rfl (hs.cell (k := 0) rfl rfl) ?_
                    refine WL_take rfl ?_
                    refine s_gtr rfl rfl rfl ?_
                    refine s_pick_f rfl rfl rfl ?_
                    refine s_assign rfl rfl ?_
                    refine WL_nil ?_
                    refine n_then ?_
                    refine W_cond rfl (fun hc48 => ?_) (fun hc48 => ?_)
                    · skip
                      try simp only [decide_eq_true_eq, decide_eq_false_iff_not, beq_iff_eq, beq_eq_false_iff_ne, bne_iff_ne, bne_eq_false_iff_eq, ne_eq, Bool.not_eq_true', Bool.not_eq_false', Bool.not_eq_true, Bool.not_eq_false, gt_iff_lt, ge_iff_le] at hc48
                      refine W_seq ?_
                      refine W_region ?_
                      refine s_assign rfl rfl ?_
                      refine WL_nil ?_
                      refine n_then ?_
                      refine W_ret ?_
                      refine r_blk ?_
                      refine r_then ?_
                      first
                        | exact end1 rfl rfl ⟨hs.fwd, _, rfl, .inl ⟨fun h => absurd h.1 ‹_›, rfl⟩⟩
                        | exact end1 rfl rfl ⟨hs.fwd, _, rfl, .inl ⟨fun h => (by rw [hlb.2 h.2] at hc5; cases hc5), rfl⟩⟩
                        | exact end1 rfl rfl ⟨hs.fwd, _, rfl, .inr ⟨⟨hg10, hlb.1 hc5⟩, .inl ⟨by unfold De.rangeBad; simp only; omega, rfl⟩⟩⟩
                        | exact end1 rfl rfl ⟨hs.fwd, _, rfl, .inr ⟨hnl, .inr ⟨hrg, .inl ⟨by unfold De.limBad; simp only; omega, rfl⟩⟩⟩⟩
                        | exact end1 rfl rfl ⟨hs.fwd, _, rfl, .inr ⟨hnl, .inr ⟨hrg, .inr ⟨by unfold De.limBad; simp only; omega, rfl⟩⟩⟩⟩
                    · skip
                      try simp only [decide_eq_true_eq, decide_eq_false_iff_not, beq_iff_eq, beq_eq_false_iff_ne, bne_iff_ne, bne_eq_false_iff_eq, ne_eq, Bool.not_eq_true', Bool.not_eq_false', Bool.not_eq_true, Bool.not_eq_false, gt_iff_lt, ge_iff_le] at hc48
                      refine W_skip ?_
                      refine n_blk ?_
                      refine n_then ?_
                      refine W_seq ?_
                      refine W_seq ?_
                      refine W_region ?_
                      refine s_fieldAddr rfl rfl (FA27_2 _ _) ?_
                      first
                        | refine s_loadW Try.isAgg25 Try.sizeOf25 rfl rfl hs (kk := 0) rfl rfl ?_
                        | refine s_load_3 Try.isAgg25 Try.sizeOf25 rfl rfl (by first | exact hs.cell (k := 0) rfl rfl) (by first | exact hs.cell (k := 0) rfl rfl) (by first | exact hs.cell (k := 0) rfl rfl) ?_
                      refine s_move rfl rfl ?_
                      refine WL_nil ?_
                      refine n_then ?_
                      refine W_block ?_
                      have hnl : nameP name ∧ labsP ls := ⟨hg10, hlb.1 hc5⟩
                      have hrg : ¬ (De.mk name (.slice va ls.length vc) u0 u1 u2 lo hi dn up fi la bu).rangeBad := by unfold De.rangeBad; simp only; omega
                      refine W_loop (σ := Nat) (fun i => [(1, .pointer (some ⟨b1, 0, none⟩)), (58, .agg #[.int .i64 u0, .int .i64 u1, .int .i64 u2]), (59, .int .i64 (i : Int))]) (fun i w => St [] w0 w [(b1, Blk 27 [.string name, .slice va ls.length vc, .int .i64 u0, .int .i64 u1, .int .i64 u2, .int .i64 lo, .int .i64 hi, .int .i64 dn, .int .i64 up, .int .i64 fi, .int .i64 la, .int .i64 bu])] ∧ i ≤ 3 ∧ (0 < i → -3 ≤ u0 ∧ u0 ≤ 3) ∧ (1 < i → -3 ≤ u1 ∧ u1 ≤ 3) ∧ (2 < i → -3 ≤ u2 ∧ u2 ≤ 3)) (fun i => 3 - i) 0 ⟨rfl, rfl, rfl, trivial⟩ ⟨hs, by omega, by omega, by omega, by omega⟩ ?_
                      clear hs
                      intro i w ⟨hs, hi3, hu0, hu1, hu2⟩
                      refine W_seq ?_
                      refine W_region ?_
                      refine s_lss rfl rfl rfl ?_
                      refine WL_nil ?_
                      refine n_then ?_
                      refine W_seq ?_
                      refine W_cond rfl (fun hc60 => ?_) (fun hc60 => ?_)
                      · skip
                        try simp only [decide_eq_true_eq, decide_eq_false_iff_not, beq_iff_eq, beq_eq_false_iff_ne, bne_iff_ne, bne_eq_false_iff_eq, ne_eq, Bool.not_eq_true', Bool.not_eq_false', Bool.not_eq_true, Bool.not_eq_false, gt_iff_lt, ge_iff_le] at hc60
                        obtain ⟨uz, hix, hcs⟩ := idx3 u0 u1 u2 i (by omega)
                        refine W_skip ?_
                        refine n_then ?_
                        refine W_seq ?_
                        refine W_block ?_
                        refine W_seq ?_
                        refine W_region ?_
                        refine s_index_run rfl rfl rfl (hix w) ?_
                        refine s_assign rfl rfl ?_
                        refine WL_nil ?_
                        refine n_then ?_
                        refine W_seq ?_
                        refine W_region ?_
                        refine s_move rfl rfl ?_
                        refine s_lss rfl rfl rfl ?_
                        refine s_move rfl rfl ?_
                        refine WL_case (s := 64) rfl (fun hg64 => ?_) (fun hg64 => ?_)
                        · skip
                          try simp only [decide_eq_true_eq, decide_eq_false_iff_not, beq_iff_eq, beq_eq_false_iff_ne, bne_iff_ne, bne_eq_false_iff_eq, ne_eq, Bool.not_eq_true', Bool.not_eq_false', Bool.not_eq_true, Bool.not_eq_false, gt_iff_lt, ge_iff_le] at hg64
                          refine WL_skip rfl rfl rfl ?_
                          refine WL_skip rfl rfl rfl ?_
                          refine s_pick_t rfl rfl rfl ?_
                          refine WL_nil ?_
                          refine n_then ?_
                          refine W_cond_t rfl ?_
                          refine W_seq ?_
                          refine W_region ?_
                          refine s_assign rfl rfl ?_
                          refine WL_nil ?_
                          refine n_then ?_
                          refine W_ret ?_
                          refine r_blk ?_
                          refine r_then ?_
                          refine r_then ?_
                          refine r_blk ?_
                          refine r_then ?_
                          first
                            | exact end1 rfl rfl ⟨hs.fwd, _, rfl, .inl ⟨fun h => absurd h.1 ‹_›, rfl⟩⟩
                            | exact end1 rfl rfl ⟨hs.fwd, _, rfl, .inl ⟨fun h => (by rw [hlb.2 h.2] at hc5; cases hc5), rfl⟩⟩
                            | exact end1 rfl rfl ⟨hs.fwd, _, rfl, .inr ⟨⟨hg10, hlb.1 hc5⟩, .inl ⟨by unfold De.rangeBad; simp only; omega, rfl⟩⟩⟩
                            | exact end1 rfl rfl ⟨hs.fwd, _, rfl, .inr ⟨hnl, .inr ⟨hrg, .inl ⟨by unfold De.limBad; simp only; omega, rfl⟩⟩⟩⟩
                            | exact end1 rfl rfl ⟨hs.fwd, _, rfl, .inr ⟨hnl, .inr ⟨hrg, .inr ⟨by unfold De.limBad; simp only; omega, rfl⟩⟩⟩⟩
                        · skip
                          try simp only [decide_eq_true_eq, decide_eq_false_iff_not, beq_iff_eq, beq_eq_false_iff_ne, bne_iff_ne, bne_eq_false_iff_eq, ne_eq, Bool.not_eq_true', Bool.not_eq_false', Bool.not_eq_true, Bool.not_eq_false, gt_iff_lt, ge_iff_le] at hg64
                          refine WL_take rfl ?_
                          refine s_move rfl rfl ?_
                          refine WL_take rfl ?_
                          refine s_gtr rfl rfl rfl ?_
                          refine s_pick_f rfl rfl rfl ?_
                          refine WL_nil ?_
                          refine n_then ?_
                          refine W_cond rfl (fun hc67 => ?_) (fun hc67 => ?_)
                          · skip
                            try simp only [decide_eq_true_eq, decide_eq_false_iff_not, beq_iff_eq, beq_eq_false_iff_ne, bne_iff_ne, bne_eq_false_iff_eq, ne_eq, Bool.not_eq_true', Bool.not_eq_false', Bool.not_eq_true, Bool.not_eq_false, gt_iff_lt, ge_iff_le] at hc67
                            refine W_seq ?_
                            refine W_region ?_
                            refine s_assign rfl rfl ?_
                            refine WL_nil ?_
                            refine n_then ?_
                            refine W_ret ?_
                            refine r_blk ?_
                            refine r_then ?_
                            refine r_then ?_
                            refine r_blk ?_
                            refine r_then ?_
                            first
                              | exact end1 rfl rfl ⟨hs.fwd, _, rfl, .inl ⟨fun h => absurd h.1 ‹_›, rfl⟩⟩
                              | exact end1 rfl rfl ⟨hs.fwd, _, rfl, .inl ⟨fun h => (by rw [hlb.2 h.2] at hc5; cases hc5), rfl⟩⟩
                              | exact end1 rfl rfl ⟨hs.fwd, _, rfl, .inr ⟨⟨hg10, hlb.1 hc5⟩, .inl ⟨by unfold De.rangeBad; simp only; omega, rfl⟩⟩⟩
                              | exact end1 rfl rfl ⟨hs.fwd, _, rfl, .inr ⟨hnl, .inr ⟨hrg, .inl ⟨by unfold De.limBad; simp only; omega, rfl⟩⟩⟩⟩
                              | exact end1 rfl rfl ⟨hs.fwd, _, rfl, .inr ⟨hnl, .inr ⟨hrg, .inr ⟨by unfold De.limBad; simp only; omega, rfl⟩⟩⟩⟩
                          · skip
                            try simp only [decide_eq_true_eq, decide_eq_false_iff_not, beq_iff_eq, beq_eq_false_iff_ne, bne_iff_ne, bne_eq_false_iff_eq, ne_eq, Bool.not_eq_true', Bool.not_eq_false', Bool.not_eq_true, Bool.not_eq_false, gt_iff_lt, ge_iff_le] at hc67
                            refine W_skip ?_
                            refine n_blk ?_
                            refine n_then ?_
                            refine W_region ?_
                            first | (refine s_add' rfl rfl rfl ?hx ?_; case hx => (constructor <;> first | omega | (simp only; omega))) | refine s_add rfl rfl rfl ?_
                            refine s_move rfl rfl ?_
                            refine WL_nil ?_
                            refine n_loop ?_
                            exact ⟨i + 1, ⟨rfl, rfl, rfl, trivial⟩, ⟨hs, by omega, by omega, by omega, by omega⟩, by omega⟩
                      · skip
                        try simp only [decide_eq_true_eq, decide_eq_false_iff_not, beq_iff_eq, beq_eq_false_iff_ne, bne_iff_ne, bne_eq_false_iff_eq, ne_eq, Bool.not_eq_true', Bool.not_eq_false', Bool.not_eq_true, Bool.not_eq_false, gt_iff_lt, ge_iff_le] at hc60
                        refine W_exit ?_
                        refine x_then ?_
                        refine x_then ?_
                        refine exit_hit ?_
                        refine n_then ?_
                        refine W_seq ?_
                        refine W_seq ?_
                        refine W_region ?_
                        refine s_fieldAddr rfl rfl (FA27_7 _ _) ?_
                        first
                          | refine s_load Try.isAgg3 rfl rfl (hs.cell (k := 0) rfl rfl) ?_
                        refine s_lss rfl rfl rfl ?_
                        refine s_move rfl rfl ?_
                        refine WL_case (s := 72) rfl (fun hg72 => ?_) (fun hg72 => ?_)
                        · skip
                          try simp only [decide_eq_true_eq, decide_eq_false_iff_not, beq_iff_eq, beq_eq_false_iff_ne, bne_iff_ne, bne_eq_false_iff_eq, ne_eq, Bool.not_eq_true', Bool.not_eq_false', Bool.not_eq_true, Bool.not_eq_false, gt_iff_lt, ge_iff_le] at hg72
                          refine WL_skip rfl rfl rfl ?_
                          refine WL_skip rfl rfl rfl ?_
                          refine WL_skip rfl rfl rfl ?_
                          refine WL_skip rfl rfl rfl ?_
                          refine WL_skip rfl rfl rfl ?_
                          refine s_pick_t rfl rfl rfl ?_
                          refine s_move rfl rfl ?_
                          refine WL_skip rfl rfl rfl ?_
                          refine WL_skip rfl rfl rfl ?_
                          refine WL_skip rfl rfl rfl ?_
                          refine s_pick_t rfl rfl rfl ?_
                          refine s_move rfl rfl ?_
                          refine WL_skip rfl rfl rfl ?_
                          refine WL_skip rfl rfl rfl ?_
                          refine WL_skip rfl rfl rfl ?_
                          refine WL_skip rfl rfl rfl ?_
                          refine WL_skip rfl rfl rfl ?_
                          refine WL_skip rfl rfl rfl ?_
                          refine s_pick_t rfl rfl rfl ?_
                          refine WL_nil ?_
                          refine n_then ?_
                          refine W_cond_t rfl ?_
                          refine W_seq ?_
                          refine W_region ?_
                          refine s_assign rfl rfl ?_
                          refine WL_nil ?_
                          refine n_then ?_
                          refine W_ret ?_
                          refine r_then ?_
                          first
                            | exact end1 rfl rfl ⟨hs.fwd, _, rfl, .inl ⟨fun h => absurd h.1 ‹_›, rfl⟩⟩
                            | exact end1 rfl rfl ⟨hs.fwd, _, rfl, .inl ⟨fun h => (by rw [hlb.2 h.2] at hc5; cases hc5), rfl⟩⟩
                            | exact end1 rfl rfl ⟨hs.fwd, _, rfl, .inr ⟨⟨hg10, hlb.1 hc5⟩, .inl ⟨by unfold De.rangeBad; simp only; omega, rfl⟩⟩⟩
                            | exact end1 rfl rfl ⟨hs.fwd, _, rfl, .inr ⟨hnl, .inr ⟨hrg, .inl ⟨by unfold De.limBad; simp only; omega, rfl⟩⟩⟩⟩
                            | exact end1 rfl rfl ⟨hs.fwd, _, rfl, .inr ⟨hnl, .inr ⟨hrg, .inr ⟨by unfold De.limBad; simp only; omega, rfl⟩⟩⟩⟩
                        · skip
                          try simp only [decide_eq_true_eq, decide_eq_false_iff_not, beq_iff_eq, beq_eq_false_iff_ne, bne_iff_ne, bne_eq_false_iff_eq, ne_eq, Bool.not_eq_true', Bool.not_eq_false', Bool.not_eq_true, Bool.not_eq_false, gt_iff_lt, ge_iff_le] at hg72
                          refine WL_take rfl ?_
                          refine s_fieldAddr rfl rfl (FA27_8 _ _) ?_
                          refine WL_take rfl ?_
                          first
                            | refine s_load Try.isAgg3 rfl rfl (hs.cell (k := 0) rfl rfl) ?_
                          refine WL_take rfl ?_
                          refine s_fieldAddr rfl rfl (FA27_7 _ _) ?_
                          refine WL_take rfl ?_
                          first
                            | refine s_load Try.isAgg3 rfl rfl (hs.cell (k := 0) rfl rfl) ?_
                          refine WL_take rfl ?_
                          refine s_lss rfl rfl rfl ?_
                          refine s_pick_f rfl rfl rfl ?_
                          refine s_move rfl rfl ?_
                          refine WL_case (s := 79) rfl (fun hg79 => ?_) (fun hg79 => ?_)
                          · skip
                            try simp only [decide_eq_true_eq, decide_eq_false_iff_not, beq_iff_eq, beq_eq_false_iff_ne, bne_iff_ne, bne_eq_false_iff_eq, ne_eq, Bool.not_eq_true', Bool.not_eq_false', Bool.not_eq_true, Bool.not_eq_false, gt_iff_lt, ge_iff_le] at hg79
                            refine WL_skip rfl rfl rfl ?_
                            refine WL_skip rfl rfl rfl ?_
                            refine WL_skip rfl rfl rfl ?_
                            refine s_pick_t rfl rfl rfl ?_
                            refine s_move rfl rfl ?_
                            refine WL_skip rfl rfl rfl ?_
                            refine WL_skip rfl rfl rfl ?_
                            refine WL_skip rfl rfl rfl ?_
                            refine WL_skip rfl rfl rfl ?_
                            refine WL_skip rfl rfl rfl ?_
                            refine WL_skip rfl rfl rfl ?_
                            refine s_pick_t rfl rfl rfl ?_
                            refine WL_nil ?_
                            refine n_then ?_
                            refine W_cond_t rfl ?_
                            refine W_seq ?_
                            refine W_region ?_
                            refine s_assign rfl rfl ?_
                            refine WL_nil ?_
                            refine n_then ?_
                            refine W_ret ?_
                            refine r_then ?_
                            first
                              | exact end1 rfl rfl ⟨hs.fwd, _, rfl, .inl ⟨fun h => absurd h.1 ‹_›, rfl⟩⟩
                              | exact end1 rfl rfl ⟨hs.fwd, _, rfl, .inl ⟨fun h => (by rw [hlb.2 h.2] at hc5; cases hc5), rfl⟩⟩
                              | exact end1 rfl rfl ⟨hs.fwd, _, rfl, .inr ⟨⟨hg10, hlb.1 hc5⟩, .inl ⟨by unfold De.rangeBad; simp only; omega, rfl⟩⟩⟩
                              | exact end1 rfl rfl ⟨hs.fwd, _, rfl, .inr ⟨hnl, .inr ⟨hrg, .inl ⟨by unfold De.limBad; simp only; omega, rfl⟩⟩⟩⟩
                              | exact end1 rfl rfl ⟨hs.fwd, _, rfl, .inr ⟨hnl, .inr ⟨hrg, .inr ⟨by unfold De.limBad; simp only; omega, rfl⟩⟩⟩⟩
                          · skip
                            try simp only [decide_eq_true_eq, decide_eq_false_iff_not, beq_iff_eq, beq_eq_false_iff_ne, bne_iff_ne, bne_eq_false_iff_eq, ne_eq, Bool.not_eq_true', Bool.not_eq_false', Bool.not_eq_true, Bool.not_eq_false, gt_iff_lt, ge_iff_le] at hg79
                            refine WL_take rfl ?_
                            refine s_fieldAddr rfl rfl (FA27_8 _ _) ?_
                            refine WL_take rfl ?_
                            first
                              | refine s_load Try.isAgg3 rfl rfl (hs.cell (k := 0) rfl rfl) ?_
                            refine WL_take rfl ?_
                            refine s_gtr rfl rfl rfl ?_
                            refine s_pick_f rfl rfl rfl ?_
                            refine s_move rfl rfl ?_
                            refine WL_case (s := 84) rfl (fun hg84 => ?_) (fun hg84 => ?_)
                            · skip
                              try simp only [decide_eq_true_eq, decide_eq_false_iff_not, beq_iff_eq, beq_eq_false_iff_ne, bne_iff_ne, bne_eq_false_iff_eq, ne_eq, Bool.not_eq_true', Bool.not_eq_false', Bool.not_eq_true, Bool.not_eq_false, gt_iff_lt, ge_iff_le] at hg84
                              refine WL_skip rfl rfl rfl ?_
                              refine WL_skip rfl rfl rfl ?_
                              refine WL_skip rfl rfl rfl ?_
                              refine WL_skip rfl rfl rfl ?_
                              refine WL_skip rfl rfl rfl ?_
                              refine WL_skip rfl rfl rfl ?_
                              refine s_pick_t rfl rfl rfl ?_
                              refine WL_nil ?_
                              refine n_then ?_
                              refine W_cond_t rfl ?_
                              refine W_seq ?_
                              refine W_region ?_
                              refine s_assign rfl rfl ?_
                              refine WL_nil ?_
                              refine n_then ?_
                              refine W_ret ?_
                              refine r_then ?_
                              first
                                | exact end1 rfl rfl ⟨hs.fwd, _, rfl, .inl ⟨fun h => absurd h.1 ‹_›, rfl⟩⟩
                                | exact end1 rfl rfl ⟨hs.fwd, _, rfl, .inl ⟨fun h => (by rw [hlb.2 h.2] at hc5; cases hc5), rfl⟩⟩
                                | exact end1 rfl rfl ⟨hs.fwd, _, rfl, .inr ⟨⟨hg10, hlb.1 hc5⟩, .inl ⟨by unfold De.rangeBad; simp only; omega, rfl⟩⟩⟩
                                | exact end1 rfl rfl ⟨hs.fwd, _, rfl, .inr ⟨hnl, .inr ⟨hrg, .inl ⟨by unfold De.limBad; simp only; omega, rfl⟩⟩⟩⟩
                                | exact end1 rfl rfl ⟨hs.fwd, _, rfl, .inr ⟨hnl, .inr ⟨hrg, .inr ⟨by unfold De.limBad; simp only; omega, rfl⟩⟩⟩⟩
                            · skip
                              try simp only [decide_eq_true_eq, decide_eq_false_iff_not, beq_iff_eq, beq_eq_false_iff_ne, bne_iff_ne, bne_eq_false_iff_eq, ne_eq, Bool.not_eq_true', Bool.not_eq_false', Bool.not_eq_true, Bool.not_eq_false, gt_iff_lt, ge_iff_le] at hg84
                              refine WL_take rfl ?_
                              refine s_fieldAddr rfl rfl (FA27_8 _ _) ?_
                              refine WL_take rfl ?_
                              first
                                | refine s_load Try.isAgg3 rfl rfl (hs.cell (k := 0) rfl rfl) ?_
                              refine WL_take rfl ?_
                              refine s_fieldAddr rfl rfl (FA27_7 _ _) ?_
                              refine WL_take rfl ?_
                              first
                                | refine s_load Try.isAgg3 rfl rfl (hs.cell (k := 0) rfl rfl) ?_
                              refine WL_take rfl ?_
                              first | (refine s_sub' rfl rfl rfl ?hx ?_; case hx => (constructor <;> first | omega | (simp only; omega))) | refine s_sub rfl rfl rfl ?_
                              refine WL_take rfl ?_
                              refine s_geq rfl rfl rfl ?_
                              refine s_pick_f rfl rfl rfl ?_
                              refine WL_nil ?_
                              refine n_then ?_
                              refine W_cond rfl (fun hc91 => ?_) (fun hc91 => ?_)
                              · skip
                                try simp only [decide_eq_true_eq, decide_eq_false_iff_not, beq_iff_eq, beq_eq_false_iff_ne, bne_iff_ne, bne_eq_false_iff_eq, ne_eq, Bool.not_eq_true', Bool.not_eq_false', Bool.not_eq_true, Bool.not_eq_false, gt_iff_lt, ge_iff_le] at hc91
                                refine W_seq ?_
                                refine W_region ?_
                                refine s_assign rfl rfl ?_
                                refine WL_nil ?_
                                refine n_then ?_
                                refine W_ret ?_
                                refine r_then ?_
                                first
                                  | exact end1 rfl rfl ⟨hs.fwd, _, rfl, .inl ⟨fun h => absurd h.1 ‹_›, rfl⟩⟩
                                  | exact end1 rfl rfl ⟨hs.fwd, _, rfl, .inl ⟨fun h => (by rw [hlb.2 h.2] at hc5; cases hc5), rfl⟩⟩
                                  | exact end1 rfl rfl ⟨hs.fwd, _, rfl, .inr ⟨⟨hg10, hlb.1 hc5⟩, .inl ⟨by unfold De.rangeBad; simp only; omega, rfl⟩⟩⟩
                                  | exact end1 rfl rfl ⟨hs.fwd, _, rfl, .inr ⟨hnl, .inr ⟨hrg, .inl ⟨by unfold De.limBad; simp only; omega, rfl⟩⟩⟩⟩
                                  | exact end1 rfl rfl ⟨hs.fwd, _, rfl, .inr ⟨hnl, .inr ⟨hrg, .inr ⟨by unfold De.limBad; simp only; omega, rfl⟩⟩⟩⟩
                              · skip
                                try simp only [decide_eq_true_eq, decide_eq_false_iff_not, beq_iff_eq, beq_eq_false_iff_ne, bne_iff_ne, bne_eq_false_iff_eq, ne_eq, Bool.not_eq_true', Bool.not_eq_false', Bool.not_eq_true, Bool.not_eq_false, gt_iff_lt, ge_iff_le] at hc91
                                refine W_skip ?_
                                refine n_then ?_
                                refine W_seq ?_
                                refine W_region ?_
                                refine s_assign rfl rfl ?_
                                refine WL_nil ?_
                                refine n_then ?_
                                refine W_ret ?_
                                first
                                  | exact end1 rfl rfl ⟨hs.fwd, _, rfl, .inl ⟨fun h => absurd h.1 ‹_›, rfl⟩⟩
                                  | exact end1 rfl rfl ⟨hs.fwd, _, rfl, .inl ⟨fun h => (by rw [hlb.2 h.2] at hc5; cases hc5), rfl⟩⟩
                                  | exact end1 rfl rfl ⟨hs.fwd, _, rfl, .inr ⟨⟨hg10, hlb.1 hc5⟩, .inl ⟨by unfold De.rangeBad; simp only; omega, rfl⟩⟩⟩
                                  | exact end1 rfl rfl ⟨hs.fwd, _, rfl, .inr ⟨hnl, .inr ⟨hrg, .inl ⟨by unfold De.limBad; simp only; omega, rfl⟩⟩⟩⟩
                                  | exact end1 rfl rfl ⟨hs.fwd, _, rfl, .inr ⟨hnl, .inr ⟨hrg, .inr ⟨by unfold De.limBad; simp only; omega, rfl⟩⟩⟩⟩
/-! Key -/
theorem text0_ok (w0 : World) : Ret Try.prog 58 [.slice none 0 0].toArray w0 fun r w' => Fwd [] w0 w' ∧ r = .string ⟨#[123, 125]⟩ := by
  refine Ret_start fun w hs => ?_
  refine Ret_of Try.func58 rfl Try.ntmps58 rfl ?_
  refine W_seq ?_
  refine W_region ?_
  refine s_assign rfl rfl ?_
  refine WL_nil ?_
  refine n_then ?_
  refine W_seq ?_
  refine W_region ?_
  refine s_alloc rfl AL102 hs ?_; clear hs; intro b3 w hs
  refine WL_nil ?_
  refine n_then ?_
  refine W_seq ?_
  refine W_region ?_
  refine s_callL (M := []) (L1 := [_]) (X := []) Try.call64 rfl rfl hs (fun h => buByte_ok b3 [] 123 _ w (bu_new b3) h (by simp)) ?_
  clear hs; rintro v w LB hB - hs
  simp only [List.nil_append, List.append_nil] at hs hB
  refine WL_nil ?_
  refine n_then ?_
  refine W_seq ?_
  refine W_seq ?_
  refine W_region ?_
  refine s_move rfl rfl ?_
  refine s_len rfl rfl (LN23 _ _ _ _) ?_
  refine s_move rfl rfl ?_
  refine WL_nil ?_
  refine n_then ?_
  refine W_block ?_
  refine W_loop (σ := Unit) (fun _ => [(3, .pointer (some ⟨b3, 0, none⟩)), (7, .slice none 0 0), (8, .int .i64 0), (9, .int .i64 0)]) (fun _ w => St [] w0 w LB) (fun _ => 0) () ⟨rfl, rfl, rfl, rfl, trivial⟩ hs ?_
  clear hs
  intro _ w hs
  refine W_seq ?_
  refine W_region ?_
  refine s_lss rfl rfl rfl ?_
  refine WL_nil ?_
  refine n_then ?_
  refine W_seq ?_
  refine W_cond_kf rfl (rfl) ?_
  refine W_exit ?_
  refine x_then ?_
  refine x_then ?_
  refine exit_hit ?_
  refine n_then ?_
  refine W_seq ?_
  refine W_region ?_
  refine s_callL (M := []) (L1 := LB) (X := []) Try.call64 rfl rfl (by simpa using hs) (fun h => buByte_ok b3 [123] 125 _ w hB h (by simp)) ?_
  clear hs hB; rintro v w LB hB - hs
  simp only [List.nil_append, List.append_nil, List.cons_append] at hs hB
  refine WL_nil ?_
  refine n_then ?_
  refine W_seq ?_
  refine W_region ?_
  refine s_callL (M := []) (L1 := LB) (X := []) Try.call66 rfl rfl (by simpa using hs) (fun h => buString_ok b3 [123, 125] _ w hB h (by decide) (by simp) (by simp)) ?_
  clear hs hB; rintro v w LB rfl - hs
  refine s_assign rfl rfl ?_
  refine WL_nil ?_
  refine n_then ?_
  refine W_ret ?_
  exact end1 rfl rfl ⟨hs.fwd, rfl⟩
theorem key0_ok (d : De) (w0 : World) (hd : d.lv = .slice none 0 0) (hn : d.name.size ≤ 1000) : Ret Try.prog 39 [.agg d.vals.toArray].toArray w0 fun r w' => Fwd [] w0 w' ∧ r = .string (d.name ++ ⟨#[123, 125]⟩) := by
  obtain ⟨name, lv, u0, u1, u2, lo, hi, dn, up, fi, la, bu⟩ := d
  simp only at hd hn
  subst hd
  refine Ret_start fun w hs => ?_
  simp only [De.vals]
  refine Ret_of Try.func39 rfl Try.ntmps39 rfl ?_
  refine W_seq ?_
  refine W_region ?_
  first | refine s_box rfl rfl hs ?_ | refine s_box1 rfl rfl rfl hs ?_
  clear hs; intro b1 w hs
  refine s_assign rfl rfl ?_
  refine WL_nil ?_
  refine n_then ?_
  refine W_seq ?_
  refine W_draw [(0, true, []), (1, true, []), (2, true, []), (3, true, []), (4, false, [0, 1]), (5, true, []), (6, true, [])] [[], [0], [], [2], [2, 3], [0, 1, 2, 3, 4], [0, 1, 2, 3, 4, 5]] MX (by kernel_rfl) ?_
  intro w1 hw1 hw2 hw3 hw4; replace hs := hs.redrawn hw1 hw2 hw3 hw4; clear hw1 hw2 hw3 hw4
  obtain ⟨w, rfl⟩ : ∃ w : World, w = w1 := ⟨_, rfl⟩
  refine D_q rfl rfl ?_
  refine s_fieldAddr rfl rfl (FA27_0 _ _) ?_
  refine D_qn ?_
  refine D_q rfl rfl ?_
  first
    | refine s_load Try.isAgg9 rfl rfl (hs.cell (k := 0) rfl rfl) ?_
  refine D_qn ?_
  refine D_q rfl rfl ?_
  refine s_fieldAddr rfl rfl (FA27_1 _ _) ?_
  refine D_qn ?_
  refine D_q rfl rfl ?_
  first
    | refine s_load Try.isAgg23 rfl rfl (hs.cell (k := 0) rfl rfl) ?_
  refine D_qn ?_
  refine D_e rfl ?_
  refine s_call Try.call58 rfl rfl (text0_ok w) ?_
  rintro r w ⟨hst, rfl⟩
  replace hs := hs.fwd1 hst
  clear hst
  refine D_en ?re ?_
  case re =>
    refine Reks_cons rfl rfl rfl rfl ?_ ?_
    · skip
      refine s_fieldAddr rfl rfl (FA27_0 _ _) ?_
      exact Rek_end rfl
    refine Reks_cons rfl rfl rfl rfl ?_ ?_
    · skip
      first
        | refine s_load Try.isAgg9 rfl rfl (hs.cell (k := 0) rfl rfl) ?_
      exact Rek_end rfl
    exact Reks_nil
  refine D_q rfl rfl ?_
  (refine s_cat_S rfl rfl rfl ?hx ?_; case hx => (have : (⟨#[123, 125]⟩ : ByteArray).size = 2 := rfl; omega))
  refine D_qn ?_
  refine D_q rfl rfl ?_
  refine s_assign rfl rfl ?_
  refine D_qn ?_
  refine D_nil ?_
  refine n_then ?_
  refine W_ret ?_
  exact end1 rfl rfl ⟨hs.fwd, rfl⟩
/-! the example -/
def dLive : De := ⟨⟨#[97]⟩, .slice none 0 0, 0, 0, 0, 0, 9, -1, 2, 0, 4, 0⟩
def dZero : De := ⟨ByteArray.empty, .slice none 0 0, 0, 0, 0, 0, 0, 0, 0, 0, 0, 0⟩
theorem labs_nil : labsP [] := ⟨by simp, fun i h => by simp at h⟩
theorem slLb (w : World) : Sl w (.slice none 0 0) ([] : List Lb).length (lbcells []) := ⟨none, 0, rfl, Nat.le_refl _, .inl rfl⟩
theorem live_e {e : Int} (h : DeclE dLive [] e) : e = 0 := by
  refine h.eq (.inr ⟨⟨by decide +kernel, labs_nil⟩, .inr ⟨?_, .inr ⟨?_, rfl⟩⟩⟩)
  · simp [De.rangeBad, dLive]
  · simp [De.limBad, dLive]
theorem zero_e {e : Int} (h : DeclE dZero [] e) : e = 8 := h.eq (.inl ⟨fun h => absurd h.1 (by decide +kernel), rfl⟩)
set_option maxHeartbeats 1000000 in
theorem lives_ok (w0 : World) : Ret Try.prog 15 [].toArray w0 fun r w' => Fwd [] w0 w' ∧ r = .bool true := by
  refine Ret_start fun w hs => ?_
  refine Ret_of Try.func15 rfl Try.ntmps15 rfl ?_
  refine W_seq ?_
  refine W_region ?_
  refine s_assign rfl rfl ?_
  refine WL_nil ?_
  refine n_then ?_
  refine W_seq ?_
  refine W_region ?_
  refine s_build rfl rfl (BD27_0_4_5_6_8 _ _ _ _ _) ?_
  refine s_alloc rfl AL27 hs ?_; clear hs; intro b1 w hs
  first
    | refine s_storeW Try.sizeOf27 rfl rfl rfl rfl hs (kk := 0) rfl rfl ?_
    | refine s_storeAB Try.sizeOf27 rfl rfl rfl rfl hs (kk := 0) rfl rfl ?_
  clear hs; intro w hs; try simp only [List.set_cons_zero, List.set_cons_succ, splice, List.take_succ_cons, List.take_zero, List.drop_succ_cons, List.drop_zero, List.nil_append, List.cons_append, List.length_cons, List.length_nil, Nat.reduceAdd, List.append_assoc] at hs
  refine WL_nil ?_
  refine n_then ?_
  refine W_seq ?_
  refine W_region ?_
  first
    | refine s_loadW Try.isAgg27 Try.sizeOf27 rfl rfl hs (kk := 0) rfl rfl ?_
    | refine s_load_12 Try.isAgg27 Try.sizeOf27 rfl rfl (by first | exact hs.cell (k := 0) rfl rfl) (by first | exact hs.cell (k := 0) rfl rfl) (by first | exact hs.cell (k := 0) rfl rfl) (by first | exact hs.cell (k := 0) rfl rfl) (by first | exact hs.cell (k := 0) rfl rfl) (by first | exact hs.cell (k := 0) rfl rfl) (by first | exact hs.cell (k := 0) rfl rfl) (by first | exact hs.cell (k := 0) rfl rfl) (by first | exact hs.cell (k := 0) rfl rfl) (by first | exact hs.cell (k := 0) rfl rfl) (by first | exact hs.cell (k := 0) rfl rfl) (by first | exact hs.cell (k := 0) rfl rfl) ?_
  refine s_call Try.call16 rfl rfl (spread_ok dLive 1 3 5 5 w) ?_
  rintro r w ⟨hst, rfl⟩
  replace hs := hs.fwd1 hst
  clear hst
  rw [show spLo dLive 1 3 5 = 3 from by decide, show spHi dLive 1 3 5 = 9 from by decide]
  refine s_move rfl rfl ?_
  refine s_extract rfl rfl rfl ?_
  refine s_extract rfl rfl rfl ?_
  refine s_assign rfl rfl ?_
  refine s_assign rfl rfl ?_
  refine WL_nil ?_
  refine n_then ?_
  refine W_seq ?_
  refine W_region ?_
  first
    | refine s_loadW Try.isAgg27 Try.sizeOf27 rfl rfl hs (kk := 0) rfl rfl ?_
    | refine s_load_12 Try.isAgg27 Try.sizeOf27 rfl rfl (by first | exact hs.cell (k := 0) rfl rfl) (by first | exact hs.cell (k := 0) rfl rfl) (by first | exact hs.cell (k := 0) rfl rfl) (by first | exact hs.cell (k := 0) rfl rfl) (by first | exact hs.cell (k := 0) rfl rfl) (by first | exact hs.cell (k := 0) rfl rfl) (by first | exact hs.cell (k := 0) rfl rfl) (by first | exact hs.cell (k := 0) rfl rfl) (by first | exact hs.cell (k := 0) rfl rfl) (by first | exact hs.cell (k := 0) rfl rfl) (by first | exact hs.cell (k := 0) rfl rfl) (by first | exact hs.cell (k := 0) rfl rfl) ?_
  refine s_call Try.call16 rfl rfl (spread_ok dLive 3 1 5 5 w) ?_
  rintro r w ⟨hst, rfl⟩
  replace hs := hs.fwd1 hst
  clear hst
  rw [show spLo dLive 3 1 5 = 1 from by decide, show spHi dLive 3 1 5 = 7 from by decide]
  refine s_move rfl rfl ?_
  refine s_extract rfl rfl rfl ?_
  refine s_extract rfl rfl rfl ?_
  refine s_assign rfl rfl ?_
  refine s_assign rfl rfl ?_
  refine WL_nil ?_
  refine n_then ?_
  refine W_seq ?_
  refine W_region ?_
  first
    | refine s_loadW Try.isAgg27 Try.sizeOf27 rfl rfl hs (kk := 0) rfl rfl ?_
    | refine s_load_12 Try.isAgg27 Try.sizeOf27 rfl rfl (by first | exact hs.cell (k := 0) rfl rfl) (by first | exact hs.cell (k := 0) rfl rfl) (by first | exact hs.cell (k := 0) rfl rfl) (by first | exact hs.cell (k := 0) rfl rfl) (by first | exact hs.cell (k := 0) rfl rfl) (by first | exact hs.cell (k := 0) rfl rfl) (by first | exact hs.cell (k := 0) rfl rfl) (by first | exact hs.cell (k := 0) rfl rfl) (by first | exact hs.cell (k := 0) rfl rfl) (by first | exact hs.cell (k := 0) rfl rfl) (by first | exact hs.cell (k := 0) rfl rfl) (by first | exact hs.cell (k := 0) rfl rfl) ?_
  refine s_call Try.call13 rfl rfl (declValid_ok dLive [] w (slLb w)) ?_
  rintro r w ⟨hst, e, rfl, he⟩
  replace hs := hs.fwd1 hst
  clear hst
  rw [live_e he]
  refine s_eql rfl rfl rfl ?_
  refine s_move rfl rfl ?_
  refine WL_know (s := 20) (c := true) rfl (rfl) ?_
  refine WL_take rfl ?_
  refine s_build rfl rfl (BD27_ ) ?_
  refine WL_take rfl ?_
  refine s_call Try.call13 rfl rfl (declValid_ok dZero [] w (slLb w)) ?_
  rintro r w ⟨hst, e, rfl, he⟩
  replace hs := hs.fwd1 hst
  clear hst
  rw [zero_e he]
  refine WL_take rfl ?_
  refine s_eql rfl rfl rfl ?_
  refine s_pick_t rfl rfl rfl ?_
  refine s_move rfl rfl ?_
  refine WL_know (s := 25) (c := true) rfl (rfl) ?_
  refine WL_take rfl ?_
  refine s_move rfl rfl ?_
  refine WL_take rfl ?_
  refine s_eql rfl rfl rfl ?_
  refine s_pick_t rfl rfl rfl ?_
  refine s_move rfl rfl ?_
  refine WL_know (s := 29) (c := true) rfl (rfl) ?_
  refine WL_take rfl ?_
  refine s_move rfl rfl ?_
  refine WL_take rfl ?_
  refine s_eql rfl rfl rfl ?_
  refine s_pick_t rfl rfl rfl ?_
  refine s_move rfl rfl ?_
  refine WL_know (s := 33) (c := true) rfl (rfl) ?_
  refine WL_take rfl ?_
  refine s_move rfl rfl ?_
  refine WL_take rfl ?_
  refine s_eql rfl rfl rfl ?_
  refine s_pick_t rfl rfl rfl ?_
  refine s_move rfl rfl ?_
  refine WL_know (s := 37) (c := true) rfl (rfl) ?_
  refine WL_take rfl ?_
  refine s_move rfl rfl ?_
  refine WL_take rfl ?_
  refine s_eql rfl rfl rfl ?_
  refine s_pick_t rfl rfl rfl ?_
  refine s_move rfl rfl ?_
  refine WL_know (s := 41) (c := true) rfl (rfl) ?_
  refine WL_take rfl ?_
  first
    | refine s_loadW Try.isAgg27 Try.sizeOf27 rfl rfl hs (kk := 0) rfl rfl ?_
    | refine s_load_12 Try.isAgg27 Try.sizeOf27 rfl rfl (by first | exact hs.cell (k := 0) rfl rfl) (by first | exact hs.cell (k := 0) rfl rfl) (by first | exact hs.cell (k := 0) rfl rfl) (by first | exact hs.cell (k := 0) rfl rfl) (by first | exact hs.cell (k := 0) rfl rfl) (by first | exact hs.cell (k := 0) rfl rfl) (by first | exact hs.cell (k := 0) rfl rfl) (by first | exact hs.cell (k := 0) rfl rfl) (by first | exact hs.cell (k := 0) rfl rfl) (by first | exact hs.cell (k := 0) rfl rfl) (by first | exact hs.cell (k := 0) rfl rfl) (by first | exact hs.cell (k := 0) rfl rfl) ?_
  refine WL_take rfl ?_
  refine s_call Try.call19 rfl rfl (span_ok dLive w) ?_
  rintro r w ⟨hst, rfl⟩
  replace hs := hs.fwd1 hst
  clear hst
  rw [show wr (wr (dLive.la - dLive.fi) + 1) = 5 from by decide]
  refine WL_take rfl ?_
  refine s_eql rfl rfl rfl ?_
  refine s_pick_t rfl rfl rfl ?_
  refine s_move rfl rfl ?_
  refine WL_know (s := 46) (c := true) rfl (rfl) ?_
  refine WL_take rfl ?_
  first
    | refine s_loadW Try.isAgg27 Try.sizeOf27 rfl rfl hs (kk := 0) rfl rfl ?_
    | refine s_load_12 Try.isAgg27 Try.sizeOf27 rfl rfl (by first | exact hs.cell (k := 0) rfl rfl) (by first | exact hs.cell (k := 0) rfl rfl) (by first | exact hs.cell (k := 0) rfl rfl) (by first | exact hs.cell (k := 0) rfl rfl) (by first | exact hs.cell (k := 0) rfl rfl) (by first | exact hs.cell (k := 0) rfl rfl) (by first | exact hs.cell (k := 0) rfl rfl) (by first | exact hs.cell (k := 0) rfl rfl) (by first | exact hs.cell (k := 0) rfl rfl) (by first | exact hs.cell (k := 0) rfl rfl) (by first | exact hs.cell (k := 0) rfl rfl) (by first | exact hs.cell (k := 0) rfl rfl) ?_
  refine WL_take rfl ?_
  refine s_call Try.call39 rfl rfl (key0_ok dLive w rfl (by decide +kernel)) ?_
  rintro r w ⟨hst, rfl⟩
  replace hs := hs.fwd1 hst
  clear hst
  rw [show dLive.name ++ ⟨#[123, 125]⟩ = ⟨#[97, 123, 125]⟩ from by decide +kernel]
  refine WL_take rfl ?_
  refine s_eql_S rfl rfl rfl ?_
  refine s_pick_t rfl rfl rfl ?_
  refine s_assign rfl rfl ?_
  refine WL_nil ?_
  refine n_then ?_
  refine W_ret ?_
  exact end1 rfl rfl ⟨hs.fwd, by simp⟩
end Go.Proofs.Ytmjjdcfakkaiiaa
