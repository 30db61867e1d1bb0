/- A replica: vote. -/
import Derived.Test.YtkobigdfijeajaaRpJ
set_option linter.unusedVariables false
set_option linter.unusedSimpArgs false
namespace Go.Proofs.Ytkobigdfijeajaa
open Go.SL
def zMes : Value := .agg #[.int .i64 0, .int .i64 0, .int .i64 0, .int .i64 0, .int .i64 0, .int .i64 0, .slice none 0 0]
def VoteLook (vx : Option Nat) (LV : Hp) (z : Int) (v : Value) (b : Bool) : Prop :=
  (vx = none ∧ v = zMes ∧ b = false) ∨ ∃ vb o kvs, vx = some vb ∧ LV = [(vb, o)] ∧ MapI o kvs ∧ (lookI z kvs).getD zMes = v ∧ (lookI z kvs).isSome = b
theorem look_votes {vx : Option Nat} {LV : Hp} {role : Nat} (hvo : VotesAt role (.map vx) LV) (z : Int) :
    ∃ (k f t lt nn e : Int) (a : Option Addr) (len c : Nat) (b : Bool), (role = 1 → b = false) ∧ VoteLook vx LV z (.agg #[.int .i64 k, .int .i64 f, .int .i64 t, .int .i64 lt, .int .i64 nn, .int .i64 e, .slice a len c]) b := by
  rcases hvo with ⟨h1, _, hr⟩ | ⟨b, o, kvs, h1, rfl, hM, hmes, hr⟩
  · cases h1
    exact ⟨_, _, _, _, _, _, _, _, _, _, fun h => absurd h hr, .inl ⟨rfl, rfl, rfl⟩⟩
  · cases h1
    cases hq : lookI z kvs with
    | none => exact ⟨_, _, _, _, _, _, _, _, _, false, fun _ => rfl, .inr ⟨b, o, kvs, rfl, rfl, hM, by rw [hq]; rfl, by rw [hq]; rfl⟩⟩
    | some v =>
      obtain ⟨k0, f0, t0, lt0, nn0, e0, a0, len0, c0, hv⟩ := hmes _ (lookI_mem hq)
      simp only at hv
      exact ⟨k0, f0, t0, lt0, nn0, e0, a0, len0, c0, true, (fun h => by rw [hr h] at hq; cases hq), .inr ⟨b, o, kvs, rfl, rfl, hM, by rw [hq]; exact hv, by rw [hq]; rfl⟩⟩
theorem s_lookV {n : Nat} {ops : Array Oper} {Q : Post} {l : Fr} {w : World} {rest : List Oper} {d ty : Nat} {pos : String} {aft : Array Edge} {F : List Nat} {w0 : World} {L LV : Hp} {vx : Option Nat} {x y : Operand} {z : Int} {v : Value} {b : Bool}
    (hd : Nat.blt d n = true) (hx : ev l x = some (.map vx)) (hy : ev l y = some (.int .i64 z)) (hs : St F w0 w L) (hv : VoteLook vx LV z v b) (hsub : ∀ q ∈ LV, q ∈ L)
    (k : WL Try.prog n ops Q rest ((d, .tuple #[v, .bool b]) :: l) w) :
    WL Try.prog n ops Q (⟨some d, .lookup 86 x y true, ty, pos, aft, none⟩ :: rest) l w := by
  rcases hv with ⟨rfl, rfl, rfl⟩ | ⟨vb, o, kvs, rfl, rfl, hM, h1, h2⟩
  · exact s_lookupI2n Try.underlying86 Try.underlying3 ZV94 hd hx hy k
  · obtain ⟨kk, hkk⟩ := List.getElem?_of_mem (hsub (vb, o) (by simp))
    exact s_lookupI2 Try.underlying86 Try.underlying3 ZV94 hd hx hy hs hkk hM h1 h2 k
set_option maxHeartbeats 4000000 in
theorem vote_ok (p : Nat) (R : Rp) (L0 : Hp) (m : Mg) (frm : Nat) (lv' : Value) (es' : List Em) (LB' LP' L1 : Hp) (w0 : World) (hR : RepAt p R L0) (hlog' : LogAt m.log lv' es' LB' LP') (hm : m.ok) (hfm : frm < R.mem) (hL1 : L1 = L0 ++ (LB' ++ LP')) (hs : St (ids L1) w0 w0 L1) :
    Ret Try.prog 49 [.pointer (some ⟨p, 0, none⟩), .agg (mesCells m frm lv').toArray].toArray w0 fun r w' => ∃ L', St (ids L1) w0 w' L' ∧ ∃ Lr LQ, L' = LQ ++ Lr ∧ RepAt p (R.vote m).1 LQ ∧ MsAt r (R.vote m).2 Lr := by
  have hR0 := hR
  obtain ⟨lv, vv, av, es, LB, LP, LV, LA, hL, hlog, hvo, hac, hav, hok⟩ := hR
  obtain ⟨la, lc, rfl, -⟩ := hlog.form
  obtain ⟨vx, rfl⟩ := hvo.val
  obtain ⟨ax, rfl⟩ := hav
  obtain ⟨la', lc', rfl, hel'⟩ := hlog'.form
  have hm0 := hm
  have hm3 := hok.m3
  obtain ⟨m1, m2, m3, m4, m5, m6, m7⟩ := hm
  obtain ⟨k0, f0, t0, lt0, n0, e0, a0, len0, c0, b, hb, hvl⟩ := look_votes hvo (frm : Int)
  revert hs
  generalize ids L1 = F
  rw [hL1, hL]
  intro hs
  unfold rpCells at hs
  refine Ret_startL hs fun w hs => ?_
  refine Ret_of Try.func49 rfl Try.ntmps49 rfl ?_
  refine W_seq ?_
  refine W_region ?_
  first | refine s_box rfl rfl hs ?_
  clear hs; intro b3 w hs
  refine s_assign rfl rfl ?_
  refine WL_nil ?_
  refine n_then ?_
  refine W_seq ?_
  refine W_seq ?_
  refine W_draw [(0, true, []), (1, true, []), (2, true, []), (3, true, []), (4, true, []), (5, true, []), (6, true, []), (7, true, []), (8, true, []), (9, true, []), (10, false, [0, 1, 2, 3, 4, 5, 6, 7, 8, 9]), (11, false, [9]), (12, true, [])] [[], [0], [0, 1], [0, 1, 2], [], [4], [0, 1, 2, 3, 4, 5], [0, 1, 2, 3, 4, 5, 6], [0, 1, 2, 3, 4, 5, 6, 7], [0, 1, 2, 3, 4, 5, 6, 7], [], [0, 1, 2, 3, 4, 5, 6, 7, 8, 10], [0, 1, 2, 3, 4, 5, 6, 7, 8, 9, 10, 11]] MX (by kernel_rfl) ?_
  intro w1 hw1 hw2 hw3 hw4; replace hs := hs.redrawn hw1 hw2 hw3 hw4; clear hw1 hw2 hw3 hw4
  obtain ⟨w, rfl⟩ : ∃ w : World, w = w1 := ⟨_, rfl⟩
  refine D_q rfl rfl ?_
  refine s_move rfl rfl ?_
  refine D_qn ?_
  refine D_q rfl rfl ?_
  refine s_nilCheck rfl rfl ?_
  refine D_qn ?_
  refine D_q rfl rfl ?_
  refine s_fieldAddr rfl rfl (FA89_7 _ _) ?_
  refine D_qn ?_
  refine D_q rfl rfl ?_
  first
    | refine s_load Try.isAgg86 rfl rfl (hs.cell (k := 1) rfl rfl) ?_
  refine D_qn ?_
  refine D_q rfl rfl ?_
  refine s_fieldAddr rfl rfl (FA94_1 _ _) ?_
  refine D_qn ?_
  refine D_q rfl rfl ?_
  first
    | refine s_load Try.isAgg3 rfl rfl (hs.cell (k := 0) rfl rfl) ?_
  refine D_qn ?_
  refine D_q rfl rfl ?_
  refine s_lookV rfl rfl rfl hs hvl (fun q hq => by simp [hq]) ?_
  refine D_qn ?_
  refine D_q rfl rfl ?_
  refine s_move rfl rfl ?_
  refine D_qn ?_
  refine D_q rfl rfl ?_
  refine s_extract rfl rfl rfl ?_
  refine D_qn ?_
  refine D_q rfl rfl ?_
  refine s_extract rfl rfl rfl ?_
  refine D_qn ?_
  refine D_e rfl ?_
  refine s_alloc rfl AL94 hs ?_; clear hs; intro b5 w hs
  refine D_en ?re ?_
  case re =>
    refine Reks_cons rfl rfl rfl rfl ?_ ?_
    · skip
      refine s_move rfl rfl ?_
      exact Rek_end rfl
    refine Reks_cons rfl rfl rfl rfl ?_ ?_
    · skip
      refine s_nilCheck rfl rfl ?_
      exact Rek_end rfl
    refine Reks_cons rfl rfl rfl rfl ?_ ?_
    · skip
      refine s_fieldAddr rfl rfl (FA89_7 _ _) ?_
      exact Rek_end rfl
    refine Reks_cons rfl rfl rfl rfl ?_ ?_
    · skip
      first
        | refine s_load Try.isAgg86 rfl rfl (hs.cell (k := 2) rfl rfl) ?_
      exact Rek_end rfl
    refine Reks_cons rfl rfl rfl rfl ?_ ?_
    · skip
      refine s_fieldAddr rfl rfl (FA94_1 _ _) ?_
      exact Rek_end rfl
    refine Reks_cons rfl rfl rfl rfl ?_ ?_
    · skip
      first
        | refine s_load Try.isAgg3 rfl rfl (hs.cell (k := 1) rfl rfl) ?_
      exact Rek_end rfl
    refine Reks_cons rfl rfl rfl rfl ?_ ?_
    · skip
      refine s_lookV rfl rfl rfl hs hvl (fun q hq => by simp [hq]) ?_
      exact Rek_end rfl
    refine Reks_cons rfl rfl rfl rfl ?_ ?_
    · skip
      refine s_move rfl rfl ?_
      exact Rek_end rfl
    refine Reks_cons rfl rfl rfl rfl ?_ ?_
    · skip
      refine s_extract rfl rfl rfl ?_
      exact Rek_end rfl
    refine Reks_cons rfl rfl rfl rfl ?_ ?_
    · skip
      refine s_extract rfl rfl rfl ?_
      exact Rek_end rfl
    exact Reks_nil
  refine D_e rfl ?_
  first
    | refine s_storeW Try.sizeOf94 rfl rfl rfl rfl hs (kk := 0) rfl rfl ?_
  clear hs; intro w hs; try simp only [List.set_cons_zero, List.set_cons_succ, splice, List.take_succ_cons, List.take_zero, List.drop_succ_cons, List.drop_zero, List.nil_append, List.cons_append, List.length_cons, List.length_nil, Nat.reduceAdd, List.append_assoc] at hs
  refine D_en ?re ?_
  case re =>
    refine Reks_cons rfl rfl rfl rfl ?_ ?_
    · skip
      refine s_extract rfl rfl rfl ?_
      exact Rek_end rfl
    exact Reks_nil
  refine D_q rfl rfl ?_
  refine s_assign rfl rfl ?_
  refine D_qn ?_
  refine D_nil ?_
  refine n_then ?_
  refine W_seq ?_
  refine W_draw [(0, true, []), (1, true, []), (2, true, []), (3, true, []), (4, true, []), (5, true, []), (6, true, []), (7, true, []), (8, true, []), (9, true, []), (10, true, []), (11, true, []), (12, true, []), (13, true, []), (14, true, []), (15, true, []), (16, true, [])] [[], [0], [0, 1], [0, 1, 2], [0, 1, 2, 3], [0, 1, 2, 3, 4], [0, 1, 2, 3, 4, 5], [0, 1, 2, 3, 4, 5, 6], [0, 1, 2, 3, 4, 5, 6, 7], [0, 1, 2, 3, 4, 5, 6, 7, 8], [0, 1, 2, 3, 4, 5, 6, 7, 8, 9], [0, 1, 2, 3, 4, 5, 6, 7, 8], [0, 1, 2, 3, 4, 5, 6, 7, 8, 11], [0, 1, 2, 3, 4, 5, 6, 7, 8, 11, 12], [0, 1, 2, 3, 4, 5, 6, 7, 8, 11, 12, 13], [0, 1, 2, 3, 4, 5, 6, 7, 8, 9, 10, 11, 12, 13, 14], [0, 1, 2, 3, 4, 5, 6, 7, 8, 9, 10, 11, 12, 13, 14, 15]] MX (by kernel_rfl) ?_
  intro w1 hw1 hw2 hw3 hw4; replace hs := hs.redrawn hw1 hw2 hw3 hw4; clear hw1 hw2 hw3 hw4
  obtain ⟨w, rfl⟩ : ∃ w : World, w = w1 := ⟨_, rfl⟩
  refine D_q rfl rfl ?_
  refine s_move rfl rfl ?_
  refine D_qn ?_
  refine D_q rfl rfl ?_
  refine s_move rfl rfl ?_
  refine WL_case (s := 18) rfl (fun hg18 => ?_) (fun hg18 => ?_)
  · skip
    try simp only [decide_eq_true_eq, decide_eq_false_iff_not, gt_iff_lt, beq_iff_eq, beq_eq_false_iff_ne, ne_eq, bne_iff_ne, bne_eq_false_iff_eq, Bool.not_eq_true', Bool.not_eq_false', Bool.not_eq_true, Bool.not_eq_false, Decidable.not_not, Int.natCast_inj] at hg18
    refine D_qn ?_
    refine D_q rfl rfl ?_
    refine WL_skip rfl rfl rfl ?_
    refine D_qn ?_
    refine D_q rfl rfl ?_
    refine WL_skip rfl rfl rfl ?_
    refine D_qn ?_
    refine D_q rfl rfl ?_
    refine WL_skip rfl rfl rfl ?_
    refine D_qn ?_
    refine D_q rfl rfl ?_
    refine WL_skip rfl rfl rfl ?_
    refine D_qn ?_
    refine D_q rfl rfl ?_
    refine WL_skip rfl rfl rfl ?_
    refine D_qn ?_
    refine D_q rfl rfl ?_
    refine s_pick_t rfl rfl rfl ?_
    refine D_qn ?_
    refine D_q rfl rfl ?_
    refine s_move rfl rfl ?_
    refine D_qn ?_
    refine D_q rfl rfl ?_
    refine WL_skip rfl rfl rfl ?_
    refine D_qn ?_
    refine D_q rfl rfl ?_
    refine WL_skip rfl rfl rfl ?_
    refine D_qn ?_
    refine D_q rfl rfl ?_
    refine WL_skip rfl rfl rfl ?_
    refine D_qn ?_
    refine D_q rfl rfl ?_
    refine WL_skip rfl rfl rfl ?_
    refine D_qn ?_
    refine D_q rfl rfl ?_
    refine WL_skip rfl rfl rfl ?_
    refine D_qn ?_
    refine D_q rfl rfl ?_
    refine WL_skip rfl rfl rfl ?_
    refine D_qn ?_
    refine D_q rfl rfl ?_
    refine WL_skip rfl rfl rfl ?_
    refine D_qn ?_
    refine D_q rfl rfl ?_
    refine s_pick_t rfl rfl rfl ?_
    refine D_qn ?_
    refine D_nil ?_
    refine n_then ?_
    refine W_cond_t rfl ?_
    refine W_seq ?_
    refine W_region ?_
    refine s_assign rfl rfl ?_
    refine WL_nil ?_
    refine n_then ?_
    refine W_ret ?_
    refine r_then ?_
    first
      | (have hv : R.vote m = (R, []) := by
           rw [Rp.vote, if_pos]
           by_cases h1 : R.role = 1
           · have := hb h1; first | (simp only [*] at *; done) | omega | (exfalso; simp_all; done)
           · exact .inl h1
         rw [hv]
         refine end1 rfl rfl ⟨L0 ++ [], ?_, [], L0, rfl, hR0, MsAt.nil⟩
         rw [hL]
         simpa [cat, rpCells] using St.reord [[_], [_], [_], LB, LP, LV, LA, LB', LP'] [2, 3, 4, 5, 6] [0, 1, 7, 8] (by simpa [cat, mesCells, rpCells] using hs) rfl)
  · skip
    try simp only [decide_eq_true_eq, decide_eq_false_iff_not, gt_iff_lt, beq_iff_eq, beq_eq_false_iff_ne, ne_eq, bne_iff_ne, bne_eq_false_iff_eq, Bool.not_eq_true', Bool.not_eq_false', Bool.not_eq_true, Bool.not_eq_false, Decidable.not_not, Int.natCast_inj] at hg18
    refine D_qn ?_
    refine D_q rfl rfl ?_
    refine WL_take rfl ?_
    refine s_move rfl rfl ?_
    refine D_qn ?_
    refine D_q rfl rfl ?_
    refine WL_take rfl ?_
    refine s_nilCheck rfl rfl ?_
    refine D_qn ?_
    refine D_q rfl rfl ?_
    refine WL_take rfl ?_
    refine s_fieldAddr rfl rfl (FA89_4 _ _) ?_
    refine D_qn ?_
    refine D_q rfl rfl ?_
    refine WL_take rfl ?_
    first
      | refine s_load Try.isAgg3 rfl rfl (hs.cell (k := 2) rfl rfl) ?_
    refine D_qn ?_
    refine D_q rfl rfl ?_
    refine WL_take rfl ?_
    refine s_neq rfl rfl rfl ?_
    refine D_qn ?_
    refine D_q rfl rfl ?_
    refine s_pick_f rfl rfl rfl ?_
    refine D_qn ?_
    refine D_q rfl rfl ?_
    refine s_move rfl rfl ?_
    refine WL_case (s := 25) rfl (fun hg25 => ?_) (fun hg25 => ?_)
    · skip
      try simp only [decide_eq_true_eq, decide_eq_false_iff_not, gt_iff_lt, beq_iff_eq, beq_eq_false_iff_ne, ne_eq, bne_iff_ne, bne_eq_false_iff_eq, Bool.not_eq_true', Bool.not_eq_false', Bool.not_eq_true, Bool.not_eq_false, Decidable.not_not, Int.natCast_inj] at hg25
      refine D_qn ?_
      refine D_q rfl rfl ?_
      refine WL_skip rfl rfl rfl ?_
      refine D_qn ?_
      refine D_q rfl rfl ?_
      refine WL_skip rfl rfl rfl ?_
      refine D_qn ?_
      refine D_q rfl rfl ?_
      refine WL_skip rfl rfl rfl ?_
      refine D_qn ?_
      refine D_q rfl rfl ?_
      refine WL_skip rfl rfl rfl ?_
      refine D_qn ?_
      refine D_q rfl rfl ?_
      refine WL_skip rfl rfl rfl ?_
      refine D_qn ?_
      refine D_q rfl rfl ?_
      refine WL_skip rfl rfl rfl ?_
      refine D_qn ?_
      refine D_q rfl rfl ?_
      refine WL_skip rfl rfl rfl ?_
      refine D_qn ?_
      refine D_q rfl rfl ?_
      refine s_pick_t rfl rfl rfl ?_
      refine D_qn ?_
      refine D_nil ?_
      refine n_then ?_
      refine W_cond_t rfl ?_
      refine W_seq ?_
      refine W_region ?_
      refine s_assign rfl rfl ?_
      refine WL_nil ?_
      refine n_then ?_
      refine W_ret ?_
      refine r_then ?_
      first
        | (have hv : R.vote m = (R, []) := by
             rw [Rp.vote, if_pos]
             by_cases h1 : R.role = 1
             · have := hb h1; first | (simp only [*] at *; done) | omega | (exfalso; simp_all; done)
             · exact .inl h1
           rw [hv]
           refine end1 rfl rfl ⟨L0 ++ [], ?_, [], L0, rfl, hR0, MsAt.nil⟩
           rw [hL]
           simpa [cat, rpCells] using St.reord [[_], [_], [_], LB, LP, LV, LA, LB', LP'] [2, 3, 4, 5, 6] [0, 1, 7, 8] (by simpa [cat, mesCells, rpCells] using hs) rfl)
    · skip
      try simp only [decide_eq_true_eq, decide_eq_false_iff_not, gt_iff_lt, beq_iff_eq, beq_eq_false_iff_ne, ne_eq, bne_iff_ne, bne_eq_false_iff_eq, Bool.not_eq_true', Bool.not_eq_false', Bool.not_eq_true, Bool.not_eq_false, Decidable.not_not, Int.natCast_inj] at hg25
      refine D_qn ?_
      refine D_q rfl rfl ?_
      refine WL_take rfl ?_
      refine s_fieldAddr rfl rfl (FA94_2 _ _) ?_
      refine D_qn ?_
      refine D_q rfl rfl ?_
      refine WL_take rfl ?_
      first
        | refine s_load Try.isAgg3 rfl rfl (hs.cell (k := 1) rfl rfl) ?_
      refine D_qn ?_
      refine D_q rfl rfl ?_
      refine WL_take rfl ?_
      refine s_move rfl rfl ?_
      refine D_qn ?_
      refine D_q rfl rfl ?_
      refine WL_take rfl ?_
      refine s_nilCheck rfl rfl ?_
      refine D_qn ?_
      refine D_q rfl rfl ?_
      refine WL_take rfl ?_
      refine s_fieldAddr rfl rfl (FA89_2 _ _) ?_
      refine D_qn ?_
      refine D_q rfl rfl ?_
      refine WL_take rfl ?_
      first
        | refine s_load Try.isAgg3 rfl rfl (hs.cell (k := 2) rfl rfl) ?_
      refine D_qn ?_
      refine D_q rfl rfl ?_
      refine WL_take rfl ?_
      refine s_neq rfl rfl rfl ?_
      refine D_qn ?_
      refine D_q rfl rfl ?_
      refine s_pick_f rfl rfl rfl ?_
      refine D_qn ?_
      refine D_nil ?_
      refine n_then ?_
      refine W_cond rfl (fun hc33 => ?_) (fun hc33 => ?_)
      · skip
        try simp only [decide_eq_true_eq, decide_eq_false_iff_not, gt_iff_lt, beq_iff_eq, beq_eq_false_iff_ne, ne_eq, bne_iff_ne, bne_eq_false_iff_eq, Bool.not_eq_true', Bool.not_eq_false', Bool.not_eq_true, Bool.not_eq_false, Decidable.not_not, Int.natCast_inj] at hc33
        refine W_seq ?_
        refine W_region ?_
        refine s_assign rfl rfl ?_
        refine WL_nil ?_
        refine n_then ?_
        refine W_ret ?_
        refine r_then ?_
        first
          | (have hv : R.vote m = (R, []) := by
               rw [Rp.vote, if_pos]
               by_cases h1 : R.role = 1
               · have := hb h1; first | (simp only [*] at *; done) | omega | (exfalso; simp_all; done)
               · exact .inl h1
             rw [hv]
             refine end1 rfl rfl ⟨L0 ++ [], ?_, [], L0, rfl, hR0, MsAt.nil⟩
             rw [hL]
             simpa [cat, rpCells] using St.reord [[_], [_], [_], LB, LP, LV, LA, LB', LP'] [2, 3, 4, 5, 6] [0, 1, 7, 8] (by simpa [cat, mesCells, rpCells] using hs) rfl)
      · skip
        try simp only [decide_eq_true_eq, decide_eq_false_iff_not, gt_iff_lt, beq_iff_eq, beq_eq_false_iff_ne, ne_eq, bne_iff_ne, bne_eq_false_iff_eq, Bool.not_eq_true', Bool.not_eq_false', Bool.not_eq_true, Bool.not_eq_false, Decidable.not_not, Int.natCast_inj] at hc33
        refine W_skip ?_
        refine n_then ?_
        refine W_seq ?_
        refine W_draw [(0, true, []), (1, true, []), (2, true, []), (3, true, []), (4, true, []), (5, true, []), (6, true, []), (7, false, [])] [[], [0], [0, 1], [0, 1, 2], [], [4], [], [0, 1, 2, 3, 4, 5, 6]] MX (by kernel_rfl) ?_
        intro w1 hw1 hw2 hw3 hw4; replace hs := hs.redrawn hw1 hw2 hw3 hw4; clear hw1 hw2 hw3 hw4
        obtain ⟨w, rfl⟩ : ∃ w : World, w = w1 := ⟨_, rfl⟩
        refine D_q rfl rfl ?_
        refine s_move rfl rfl ?_
        refine D_qn ?_
        refine D_q rfl rfl ?_
        refine s_nilCheck rfl rfl ?_
        refine D_qn ?_
        refine D_q rfl rfl ?_
        refine s_fieldAddr rfl rfl (FA89_7 _ _) ?_
        refine D_qn ?_
        refine D_q rfl rfl ?_
        first
          | refine s_load Try.isAgg86 rfl rfl (hs.cell (k := 2) rfl rfl) ?_
        refine D_qn ?_
        refine D_q rfl rfl ?_
        refine s_fieldAddr rfl rfl (FA94_1 _ _) ?_
        refine D_qn ?_
        refine D_q rfl rfl ?_
        first
          | refine s_load Try.isAgg3 rfl rfl (hs.cell (k := 1) rfl rfl) ?_
        refine D_qn ?_
        refine D_q rfl rfl ?_
        first
          | refine s_loadW Try.isAgg94 Try.sizeOf94 rfl rfl hs (kk := 1) rfl rfl ?_
        refine D_qn ?_
        refine D_e rfl ?_
        rcases hvo with ⟨_, _, hr9⟩ | ⟨vb, o, kvs, hvx, rfl, hM, hmes, hr9⟩
        · exact absurd (by omega) hr9
        cases hvx
        obtain rfl := hr9 (by omega)
        replace hs : St F w0 w ((vb, o) :: (p, Blk 89 (rpCells R (.slice la R.log.length lc) (.map (some vb)) (.map ax))) :: (b3, Blk 94 (mesCells m frm (.slice la' m.log.length lc'))) :: (LB ++ (LP ++ (LB' ++ LP')))) := by
          simpa [cat, rpCells, mesCells] using St.reord [[_], [_], [_], LB, LP, [_], LA, LB', LP'] [5, 2, 1, 3, 4, 7, 8] [0, 6] (by simpa [cat, mesCells, rpCells] using hs) rfl
        refine s_mapUpdateI Try.underlying86 Try.underlying3 rfl rfl rfl hs (kk := 0) rfl hM ?_
        clear hs; intro w o' hM' hs
        simp only [List.set_cons_zero, updI, rpCells] at hs hM'
        refine D_en ?re ?_
        case re =>
          exact Reks_nil
        refine D_nil ?_
        refine n_then ?_
        refine W_seq ?_
        refine W_seq ?_
        refine W_region ?_
        refine s_move rfl rfl ?_
        refine s_move rfl rfl ?_
        refine s_nilCheck rfl rfl ?_
        refine s_fieldAddr rfl rfl (FA89_7 _ _) ?_
        first
          | refine s_load Try.isAgg86 rfl rfl (hs.cell (k := 1) rfl rfl) ?_
        refine s_lenI Try.underlying86 rfl rfl hs (kk := 0) rfl hM' ?_
        first | refine s_add rfl rfl rfl ?_
        refine s_call Try.call38 rfl rfl (majority_ok p _ R.mem 2 w (hs.at (k := 1) rfl) rfl (by omega)) ?_
        rintro r w ⟨hst, rfl⟩
        replace hs := hs.back0 hst
        clear hst
        simp only [List.nil_append] at hs
        refine s_not rfl rfl ?_
        refine WL_nil ?_
        refine n_then ?_
        refine W_cond_kf rfl ((by simp; omega)) ?_
        refine W_skip ?_
        refine n_then ?_
        refine W_seq ?_
        refine W_region ?_
        refine s_move rfl rfl ?_
        replace hs : St F w0 w ([(b3, Blk 94 (mesCells m frm (.slice la' m.log.length lc')))] ++ (((p, Blk 89 (rpCells R (.slice la R.log.length lc) (.map (some vb)) (.map ax))) :: (LB ++ (LP ++ ((vb, o') :: (LB' ++ LP'))))) ++ [])) := by
          simpa [cat, rpCells] using St.reord [[_], [_], [_], LB, LP, LB', LP'] [2, 1, 3, 4, 0, 5, 6] [] (by simpa [cat, mesCells, rpCells] using hs) rfl
        refine s_callL (M := [_]) (L1 := (p, Blk 89 (rpCells R (.slice la R.log.length lc) (.map (some vb)) (.map ax))) :: (LB ++ (LP ++ ((vb, o') :: (LB' ++ LP'))))) (X := []) Try.call39 rfl rfl hs (fun h => lead_ok p R frm m _ vb o' _ ax es LB LP _ es' LB' LP' _ w rfl hlog hM' ?hk1 ?hk2 hlog' hm0 hok h) ?_
        case hk1 =>
          intro i hi
          rw [lookI, lookI]
          by_cases h : i = frm
          · rw [if_pos (by omega), if_pos h]
          · rw [if_neg (by omega), if_neg h]
        case hk2 =>
          intro e he
          obtain rfl := List.mem_singleton.1 he
          exact ⟨_, _, _, _, _, _, _, _, _, rfl⟩
        clear hs; rintro u w L9 ⟨Lr, LQ, rfl, hRQ, hMs⟩ - hs
        rw [if_pos hfm] at hRQ hMs
        refine s_assign rfl rfl ?_
        refine WL_nil ?_
        refine n_then ?_
        refine W_ret ?_
        first
          | (have hv : R.vote m = (R.lead (some m), (R.lead (some m)).others (R.lead (some m)).spreadM) := by rw [Rp.vote, if_neg (by omega)]
             rw [hv]
             exact end1 rfl rfl ⟨LQ ++ Lr, by have := hs.tail; rw [List.append_nil] at this; exact this, Lr, LQ, rfl, hRQ, hMs⟩)
end Go.Proofs.Ytkobigdfijeajaa
