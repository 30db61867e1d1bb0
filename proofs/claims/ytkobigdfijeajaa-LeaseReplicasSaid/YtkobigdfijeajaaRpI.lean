/- A replica: ask, vote, write. -/
import Derived.Test.YtkobigdfijeajaaRpH
set_option linter.unusedVariables false
set_option linter.unusedSimpArgs false
namespace Go.Proofs.Ytkobigdfijeajaa
open Go.SL
def Rp.voteM (R : Rp) : Mg := ⟨1, R.term, R.lterm, R.n, 0, R.log⟩
def Rp.ackM (R : Rp) : Mg := ⟨3, R.term, 0, 0, R.log.length, []⟩
def Rp.ask (R : Rp) (m : Mg) (frm : Nat) : Rp × List Ms := if m.term < R.term then (R, []) else (R.follow m.term, [⟨R.id, frm, (R.follow m.term).voteM⟩])
def Rp.vote (R : Rp) (m : Mg) : Rp × List Ms := if R.role ≠ 1 ∨ m.term ≠ R.term then (R, []) else (R.lead (some m), (R.lead (some m)).others (R.lead (some m)).spreadM)
def Rp.clamp (R : Rp) (n : Nat) : Rp := { R with n := min (max R.n n) R.log.length }
def Rp.wrote (A : Rp) (m : Mg) : Rp := (Rp.adopt { A with role := 0 } m.term m.log).clamp m.n
def Rp.write (R : Rp) (m : Mg) (frm : Nat) : Rp × List Ms := if m.term < R.term then (R, []) else ((R.follow m.term).wrote m, [⟨R.id, frm, ((R.follow m.term).wrote m).ackM⟩])
theorem Rp.follow_same (R : Rp) (t : Nat) : (R.follow t).id = R.id ∧ (R.follow t).mem = R.mem ∧ (R.follow t).lterm = R.lterm ∧ (R.follow t).log = R.log ∧ (R.follow t).n = R.n := by
  unfold follow; split <;> exact ⟨rfl, rfl, rfl, rfl, rfl⟩
theorem Rp.ok.follow {R : Rp} (h : R.ok) {t : Nat} (ht : t ≤ 1073741824) : (R.follow t).ok := by
  unfold Rp.follow; split
  · exact { h with term := ht, role := by simp }
  · exact h
theorem Rp.ok.voteM {R : Rp} (h : R.ok) : R.voteM.ok := ⟨by simp [Rp.voteM], h.term, h.lterm, h.n, by simp [Rp.voteM], h.log, h.es⟩
theorem Rp.ok.ackM {R : Rp} (h : R.ok) : R.ackM.ok := ⟨by simp [Rp.ackM], h.term, by simp [Rp.ackM], by simp [Rp.ackM], h.log, by simp [Rp.ackM], by simp [Rp.ackM]⟩
set_option maxHeartbeats 2000000 in
theorem ask_ok (p : Nat) (R : Rp) (L0 : Hp) (m : Mg) (frm : Nat) (lv' : Value) (es' : List Em) (LB' LP' L1 : Hp) (w0 : World) (hR : RepAt p R L0) (hlog' : LogAt m.log lv' es' LB' LP') (hm : m.ok) (hL1 : L1 = L0 ++ (LB' ++ LP')) (hs : St (ids L1) w0 w0 L1) :
    Ret Try.prog 48 [.pointer (some ⟨p, 0, none⟩), .agg (mesCells m frm lv').toArray].toArray w0 fun r w' => ∃ L', St (ids L1) w0 w' L' ∧ ∃ Lr LQ, L' = LQ ++ Lr ∧ RepAt p (R.ask m frm).1 LQ ∧ MsAt r (R.ask m frm).2 Lr := by
  have hR0 := hR
  obtain ⟨lv, vv, av, es, LB, LP, LV, LA, hL, hlog, hvo, hac, hav, hok⟩ := hR
  obtain ⟨la, lc, rfl, -⟩ := hlog.form
  obtain ⟨vx, rfl⟩ := hvo.val
  obtain ⟨ax, rfl⟩ := hav
  obtain ⟨la', lc', rfl, hel'⟩ := hlog'.form
  have hm0 := hm
  obtain ⟨m1, m2, m3, m4, m5, m6, m7⟩ := hm
  revert hs
  generalize ids L1 = F
  rw [hL1, hL]
  intro hs
  unfold rpCells at hs
  refine Ret_startL hs fun w hs => ?_
  refine Ret_of Try.func48 rfl Try.ntmps48 rfl ?_
  refine W_seq ?_
  refine W_region ?_
  first | refine s_box rfl rfl hs ?_
  clear hs; intro b3 w hs
  refine s_assign rfl rfl ?_
  refine WL_nil ?_
  refine n_then ?_
  refine W_seq ?_
  refine W_seq ?_
  refine W_draw [(0, true, []), (1, true, []), (2, true, []), (3, true, []), (4, true, []), (5, true, []), (6, true, [])] [[], [0], [], [2], [2, 3], [2, 3, 4], [0, 1, 2, 3, 4, 5]] MX (by kernel_rfl) ?_
  intro w1 hw1 hw2 hw3 hw4; replace hs := hs.redrawn hw1 hw2 hw3 hw4; clear hw1 hw2 hw3 hw4
  obtain ⟨w, rfl⟩ : ∃ w : World, w = w1 := ⟨_, rfl⟩
  refine D_q rfl rfl ?_
  refine s_fieldAddr rfl rfl (FA94_2 _ _) ?_
  refine D_qn ?_
  refine D_q rfl rfl ?_
  first
    | refine s_load Try.isAgg3 rfl rfl (hs.cell (k := 0) rfl rfl) ?_
  refine D_qn ?_
  refine D_q rfl rfl ?_
  refine s_move rfl rfl ?_
  refine D_qn ?_
  refine D_q rfl rfl ?_
  refine s_nilCheck rfl rfl ?_
  refine D_qn ?_
  refine D_q rfl rfl ?_
  refine s_fieldAddr rfl rfl (FA89_2 _ _) ?_
  refine D_qn ?_
  refine D_q rfl rfl ?_
  first
    | refine s_load Try.isAgg3 rfl rfl (hs.cell (k := 1) rfl rfl) ?_
  refine D_qn ?_
  refine D_q rfl rfl ?_
  refine s_lss rfl rfl rfl ?_
  refine D_qn ?_
  refine D_nil ?_
  refine n_then ?_
  refine W_cond rfl (fun hc11 => ?_) (fun hc11 => ?_)
  · skip
    try simp only [decide_eq_true_eq, decide_eq_false_iff_not, gt_iff_lt, beq_iff_eq, beq_eq_false_iff_ne, ne_eq] at hc11
    refine W_seq ?_
    refine W_region ?_
    refine s_assign rfl rfl ?_
    refine WL_nil ?_
    refine n_then ?_
    refine W_ret ?_
    refine r_then ?_
    first
      | (have hans : R.ask m frm = (R, []) := by rw [Rp.ask, if_pos (by omega)]
         rw [hans]
         refine end1 rfl rfl ⟨L0 ++ [], ?_, [], L0, rfl, hR0, MsAt.nil⟩
         rw [hL]
         simpa [cat, rpCells] using St.reord [[_], [_], LB, LP, LV, LA, LB', LP'] [1, 2, 3, 4, 5] [0, 6, 7] (by simpa [cat] using hs) rfl)
  · skip
    try simp only [decide_eq_true_eq, decide_eq_false_iff_not, gt_iff_lt, beq_iff_eq, beq_eq_false_iff_ne, ne_eq] at hc11
    refine W_skip ?_
    refine n_then ?_
    refine W_seq ?_
    refine W_region ?_
    refine s_move rfl rfl ?_
    refine s_fieldAddr rfl rfl (FA94_2 _ _) ?_
    first
      | refine s_load Try.isAgg3 rfl rfl (hs.cell (k := 0) rfl rfl) ?_
    replace hs : St F w0 w ([(b3, Blk 94 (mesCells m frm (.slice la' m.log.length lc')))] ++ (L0 ++ (LB' ++ LP'))) := by rw [hL]; simpa [rpCells] using hs
    refine s_callL (M := [_]) (L1 := L0) (X := LB' ++ LP') Try.call72 rfl rfl hs (fun h => follow_ok p R m.term L0 w hR0 m2 h) ?_
    clear hs; rintro u w L9 hR1 - hs
    have hR2 := hR1
    obtain ⟨e1, e2, e3, e4, e5⟩ := R.follow_same m.term
    obtain ⟨lv9, vv9, av9, es9, LB9, LP9, LV9, LA9, rfl, hlog9, hvo9, hac9, hav9, hok9⟩ := hR1
    have hans : R.ask m frm = (R.follow m.term, [⟨(R.follow m.term).id, frm, (R.follow m.term).voteM⟩]) := by rw [Rp.ask, if_neg (by omega), e1]
    rw [hans]
    clear hans e1 e2 e3 e4 e5
    generalize R.follow m.term = A at hR2 hs hlog9 hvo9 hac9 hok9 ⊢
    obtain ⟨la9, lc9, rfl, hel9⟩ := hlog9.form
    obtain ⟨vx9, rfl⟩ := hvo9.val
    obtain ⟨ax9, rfl⟩ := hav9
    simp only [rpCells, mesCells, List.cons_append, List.nil_append] at hs
    refine WL_nil ?_
    refine n_then ?_
    refine W_seq ?_
    refine W_draw [(0, true, []), (1, true, []), (2, true, []), (3, true, []), (4, true, []), (5, true, []), (6, true, []), (7, true, []), (8, true, []), (9, true, []), (10, true, []), (11, true, []), (12, true, []), (13, true, []), (14, true, []), (15, true, []), (16, true, []), (17, true, []), (18, true, []), (19, true, []), (20, false, []), (21, true, [])] [[], [], [1], [], [3], [3, 4], [3, 4, 5], [], [7], [7, 8], [7, 8, 9], [], [11], [11, 12], [11, 12, 13], [], [15], [15, 16], [15, 16, 17], [3, 4, 5, 6, 7, 8, 9, 10, 11, 12, 13, 14, 15, 16, 17, 18], [0, 1, 2, 3, 4, 5, 6, 7, 8, 9, 10, 11, 12, 13, 14, 15, 16, 17, 18, 19], [0, 1, 2, 3, 4, 5, 6, 7, 8, 9, 10, 11, 12, 13, 14, 15, 16, 17, 18, 19, 20]] MX (by kernel_rfl) ?_
    intro w1 hw1 hw2 hw3 hw4; replace hs := hs.redrawn hw1 hw2 hw3 hw4; clear hw1 hw2 hw3 hw4
    obtain ⟨w, rfl⟩ : ∃ w : World, w = w1 := ⟨_, rfl⟩
    refine D_q rfl rfl ?_
    refine s_move rfl rfl ?_
    refine D_qn ?_
    refine D_q rfl rfl ?_
    refine s_fieldAddr rfl rfl (FA94_1 _ _) ?_
    refine D_qn ?_
    refine D_q rfl rfl ?_
    first
      | refine s_load Try.isAgg3 rfl rfl (hs.cell (k := 0) rfl rfl) ?_
    refine D_qn ?_
    refine D_q rfl rfl ?_
    refine s_move rfl rfl ?_
    refine D_qn ?_
    refine D_q rfl rfl ?_
    refine s_nilCheck rfl rfl ?_
    refine D_qn ?_
    refine D_q rfl rfl ?_
    refine s_fieldAddr rfl rfl (FA89_2 _ _) ?_
    refine D_qn ?_
    refine D_q rfl rfl ?_
    first
      | refine s_load Try.isAgg3 rfl rfl (hs.cell (k := 1) rfl rfl) ?_
    refine D_qn ?_
    refine D_q rfl rfl ?_
    refine s_move rfl rfl ?_
    refine D_qn ?_
    refine D_q rfl rfl ?_
    refine s_nilCheck rfl rfl ?_
    refine D_qn ?_
    refine D_q rfl rfl ?_
    refine s_fieldAddr rfl rfl (FA89_3 _ _) ?_
    refine D_qn ?_
    refine D_q rfl rfl ?_
    first
      | refine s_load Try.isAgg3 rfl rfl (hs.cell (k := 1) rfl rfl) ?_
    refine D_qn ?_
    refine D_q rfl rfl ?_
    refine s_move rfl rfl ?_
    refine D_qn ?_
    refine D_q rfl rfl ?_
    refine s_nilCheck rfl rfl ?_
    refine D_qn ?_
    refine D_q rfl rfl ?_
    refine s_fieldAddr rfl rfl (FA89_6 _ _) ?_
    refine D_qn ?_
    refine D_q rfl rfl ?_
    first
      | refine s_load Try.isAgg3 rfl rfl (hs.cell (k := 1) rfl rfl) ?_
    refine D_qn ?_
    refine D_q rfl rfl ?_
    refine s_move rfl rfl ?_
    refine D_qn ?_
    refine D_q rfl rfl ?_
    refine s_nilCheck rfl rfl ?_
    refine D_qn ?_
    refine D_q rfl rfl ?_
    refine s_fieldAddr rfl rfl (FA89_5 _ _) ?_
    refine D_qn ?_
    refine D_q rfl rfl ?_
    first
      | refine s_load Try.isAgg43 rfl rfl (hs.cell (k := 1) rfl rfl) ?_
    refine D_qn ?_
    refine D_q rfl rfl ?_
    refine s_build rfl rfl (BD94_0_2_3_4_6 _ _ _ _ _ _ _) ?_
    refine D_qn ?_
    refine D_e rfl ?_
    refine s_call Try.call73 rfl rfl (answer_ok p A.id frm _ A.voteM _ es9 LP9 w (hs.at (k := 1) rfl) rfl (OwnS_slIn hlog9.1 fun q hq => hs.own q (by simp [hq])) hlog9.2.1 (fun q hq => hs.own q (by simp [hq])) hlog9.2.2 hok9.voteM) ?_
    rintro r w ⟨Lr, hMs, hst⟩
    replace hs := hs.back0 hst
    clear hst
    refine D_en ?re ?_
    case re =>
      exact Reks_nil
    refine D_q rfl rfl ?_
    refine s_assign rfl rfl ?_
    refine D_qn ?_
    refine D_nil ?_
    refine n_then ?_
    refine W_ret ?_
    first
      | (refine end1 rfl rfl ⟨(((p, _) :: (LB9 ++ (LP9 ++ (LV9 ++ LA9)))) ++ Lr), ?_, Lr, _, rfl, hR2, hMs⟩
         simpa [cat, rpCells] using St.reord [Lr, [_], [_], LB9, LP9, LV9, LA9, LB', LP'] [2, 3, 4, 5, 6, 0] [1, 7, 8] (by simpa [cat] using hs) rfl)
end Go.Proofs.Ytkobigdfijeajaa
