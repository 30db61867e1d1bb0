/- The reference's replicas: Start, Elect, Propose. -/
import Derived.Test.YtkobigdfijeajaaRsD
set_option linter.unusedVariables false
set_option linter.unusedSimpArgs false
namespace Go.Proofs.Ytkobigdfijeajaa
open Go.SL
set_option maxHeartbeats 2000000 in
theorem fstart_ok (i k : Nat) (hk : 1 ≤ k ∧ k ≤ 3 ∧ i < k) (w0 : World) :
    Ret Try.prog 27 [.int .i64 (i : Int), .int .i64 (k : Int)].toArray w0 fun r w' => ∃ p L, r = .pointer (some ⟨p, 0, none⟩) ∧ FrAt p (R0of k i) L [] ∧ St [] w0 w' L := by
  refine Ret_start fun w hs => ?_
  refine Ret_of Try.func27 rfl Try.ntmps27 rfl ?_
  refine W_seq ?_
  refine W_region ?_
  refine s_assign rfl rfl ?_
  refine WL_nil ?_
  refine n_then ?_
  refine W_seq ?_
  refine W_tree (.q 0 (.q 1 (.q 2 (.q 4 (.e 3 [0, 1, 4] (.e 5 [0, 1, 2] (.q 6 (.e 7 [] (.q 8 .nil) .nil)) .nil) (.e 5 [0, 1, 2] (.e 3 [0, 1, 4] (.q 6 (.e 7 [] (.q 8 .nil) .nil)) .nil) .nil)))))) [0, 1, 2, 4, 6, 8] [[], [], [], [2], [], [4], [0, 1, 2, 3, 4, 5], [0, 1, 2, 3, 4, 5, 6], [0, 1, 2, 3, 4, 5, 6, 7]] MX (by kernel_rfl) ?_
  intro w1 hw1 hw2 hw3 hw4; replace hs := hs.redrawn hw1 hw2 hw3 hw4; clear hw1 hw2 hw3 hw4
  obtain ⟨w, rfl⟩ : ∃ w : World, w = w1 := ⟨_, rfl⟩
  refine T_q rfl rfl ?_
  refine s_move rfl rfl ?_
  refine T_qn ?_
  refine T_q rfl rfl ?_
  refine s_move rfl rfl ?_
  refine T_qn ?_
  refine T_q rfl rfl ?_
  refine s_move rfl rfl ?_
  refine T_qn ?_
  refine T_q rfl rfl ?_
  refine s_move rfl rfl ?_
  refine T_qn ?_
  refine T_e rfl ?_ ?_
  · skip
    refine s_makeSlice El104 rfl rfl rfl ?hx hs ?_
    case hx => (refine ⟨?_, ?_, ?_, ?_⟩ <;> omega)
    clear hs; intro b8 w hs
    refine T_en ?re ?_
    case re =>
      refine Reks_cons rfl rfl rfl rfl ?_ ?_
      · skip
        refine s_move rfl rfl ?_
        exact Rek_end rfl
      refine Reks_cons rfl rfl rfl rfl ?_ ?_
      · skip
        refine s_move rfl rfl ?_
        exact Rek_end rfl
      refine Reks_cons rfl rfl rfl rfl ?_ ?_
      · skip
        refine s_move rfl rfl ?_
        exact Rek_end rfl
      exact Reks_nil
    refine T_e rfl ?_ ?_
    · skip
      refine s_makeSlice El58 rfl rfl rfl ?hx hs ?_
      case hx => (refine ⟨?_, ?_, ?_, ?_⟩ <;> omega)
      clear hs; intro b10 w hs
      refine T_en ?re ?_
      case re =>
        refine Reks_cons rfl rfl rfl rfl ?_ ?_
        · skip
          refine s_move rfl rfl ?_
          exact Rek_end rfl
        refine Reks_cons rfl rfl rfl rfl ?_ ?_
        · skip
          refine s_move rfl rfl ?_
          exact Rek_end rfl
        refine Reks_cons rfl rfl rfl rfl ?_ ?_
        · skip
          refine s_move rfl rfl ?_
          exact Rek_end rfl
        exact Reks_nil
      refine T_q rfl rfl ?_
      refine s_build rfl rfl (BD106_0_1_7_9 _ _ _ _ _ _ _ _) ?_
      refine T_qn ?_
      refine T_e rfl ?_ ?_
      · skip
        first | refine s_box rfl rfl hs ?_
        clear hs; intro b12 w hs
        refine T_en ?re ?_
        case re =>
          exact Reks_nil
        refine T_q rfl rfl ?_
        refine s_assign rfl rfl ?_
        refine T_qn ?_
        refine T_nil ?_
        refine n_then ?_
        refine W_ret ?_
        refine end1 rfl rfl ⟨b12, (b12, Blk 106 (fcells (R0of k i) (.slice none 0 0) (.slice (some ⟨b8, 0, none⟩) k k) (.slice none 0 0) (.slice (some ⟨b10, 0, none⟩) k k))) :: ([(b8, Blk 4 (made [.bool false] k))] ++ [(b10, Blk 3 (made [.int .i64 0] k))]), rfl, ?_, ?_⟩
        · refine ⟨_, _, _, _, _, _, rfl, LgIn.nil [], ⟨b8, _, rfl, rfl, by simp [made_length, R0of], fun _ => by rw [made_one]; rfl⟩, fun _ => rfl, ⟨_, _, _, rfl⟩, ⟨_, _, _, rfl⟩, (fun h => by cases h), ?_⟩
          exact ⟨hk.1, hk.2.1, hk.2.2, by simp [R0of], by simp [R0of], by simp [R0of], by simp [R0of], by simp [R0of], by simp [R0of]⟩
        · first
            | simpa [cat, fcells, R0of] using St.reord [[_], [_], [_]] [0, 2, 1] [] (by simpa [cat] using hs) rfl
            | simpa [cat, fcells, R0of] using St.reord [[_], [_], [_]] [0, 1, 2] [] (by simpa [cat] using hs) rfl
      exact T_alt0
    exact T_alt0
  refine T_e rfl ?_ ?_
  · skip
    refine s_makeSlice El58 rfl rfl rfl ?hx hs ?_
    case hx => (refine ⟨?_, ?_, ?_, ?_⟩ <;> omega)
    clear hs; intro b10 w hs
    refine T_en ?re ?_
    case re =>
      refine Reks_cons rfl rfl rfl rfl ?_ ?_
      · skip
        refine s_move rfl rfl ?_
        exact Rek_end rfl
      refine Reks_cons rfl rfl rfl rfl ?_ ?_
      · skip
        refine s_move rfl rfl ?_
        exact Rek_end rfl
      refine Reks_cons rfl rfl rfl rfl ?_ ?_
      · skip
        refine s_move rfl rfl ?_
        exact Rek_end rfl
      exact Reks_nil
    refine T_e rfl ?_ ?_
    · skip
      refine s_makeSlice El104 rfl rfl rfl ?hx hs ?_
      case hx => (refine ⟨?_, ?_, ?_, ?_⟩ <;> omega)
      clear hs; intro b8 w hs
      refine T_en ?re ?_
      case re =>
        refine Reks_cons rfl rfl rfl rfl ?_ ?_
        · skip
          refine s_move rfl rfl ?_
          exact Rek_end rfl
        refine Reks_cons rfl rfl rfl rfl ?_ ?_
        · skip
          refine s_move rfl rfl ?_
          exact Rek_end rfl
        refine Reks_cons rfl rfl rfl rfl ?_ ?_
        · skip
          refine s_move rfl rfl ?_
          exact Rek_end rfl
        exact Reks_nil
      refine T_q rfl rfl ?_
      refine s_build rfl rfl (BD106_0_1_7_9 _ _ _ _ _ _ _ _) ?_
      refine T_qn ?_
      refine T_e rfl ?_ ?_
      · skip
        first | refine s_box rfl rfl hs ?_
        clear hs; intro b12 w hs
        refine T_en ?re ?_
        case re =>
          exact Reks_nil
        refine T_q rfl rfl ?_
        refine s_assign rfl rfl ?_
        refine T_qn ?_
        refine T_nil ?_
        refine n_then ?_
        refine W_ret ?_
        refine end1 rfl rfl ⟨b12, (b12, Blk 106 (fcells (R0of k i) (.slice none 0 0) (.slice (some ⟨b8, 0, none⟩) k k) (.slice none 0 0) (.slice (some ⟨b10, 0, none⟩) k k))) :: ([(b8, Blk 4 (made [.bool false] k))] ++ [(b10, Blk 3 (made [.int .i64 0] k))]), rfl, ?_, ?_⟩
        · refine ⟨_, _, _, _, _, _, rfl, LgIn.nil [], ⟨b8, _, rfl, rfl, by simp [made_length, R0of], fun _ => by rw [made_one]; rfl⟩, fun _ => rfl, ⟨_, _, _, rfl⟩, ⟨_, _, _, rfl⟩, (fun h => by cases h), ?_⟩
          exact ⟨hk.1, hk.2.1, hk.2.2, by simp [R0of], by simp [R0of], by simp [R0of], by simp [R0of], by simp [R0of], by simp [R0of]⟩
        · first
            | simpa [cat, fcells, R0of] using St.reord [[_], [_], [_]] [0, 2, 1] [] (by simpa [cat] using hs) rfl
            | simpa [cat, fcells, R0of] using St.reord [[_], [_], [_]] [0, 1, 2] [] (by simpa [cat] using hs) rfl
      exact T_alt0
    exact T_alt0
  exact T_alt0
theorem crown_okN {C : Rp} (h : C.ok) : C.crown.ok := by
  have hn := h.n
  refine ⟨h.m1, h.m3, h.id, h.term, h.term, Nat.le_refl 2, h.log, ?_, h.es⟩
  show (if C.mem < 2 then C.log.length else min C.n C.log.length) ≤ C.log.length
  split <;> omega
theorem follow_cand {R : Rp} {t : Nat} (h : R.term ≤ t) : R.cand t = { R.follow t with role := 1 } := by
  unfold Rp.follow Rp.cand; split
  · rfl
  · have : R.term = t := by omega
    rw [← this]
set_option maxHeartbeats 4000000 in
theorem felect_ok (p : Nat) (R : Rp) (L0 LP : Hp) (t : Int) (w0 : World) (hR : FrAt p R L0 LP) (ht : isI64 t) (hown : 1 ≤ R.term → R.term % R.mem = R.id → R.role ≠ 0) (hP : ∀ q ∈ LP, w0.heap[q.1]? = some q.2) (hPd : ∀ q ∈ LP, q.1 ∉ ids L0) (hs : St (ids L0) w0 w0 L0) :
    Ret Try.prog 28 [.pointer (some ⟨p, 0, none⟩), .int .i64 t].toArray w0 fun r w' => ∃ L', St (ids L0) w0 w' L' ∧ ∃ rv Lr LQ, r = .tuple #[rv, .int .i64 (R.elect t).2.2] ∧ L' = LQ ++ Lr ∧ FrAt p (R.elect t).1 LQ LP ∧ MdAt rv (R.elect t).2.1 Lr LP := by
  unfold isI64 at ht
  have hR0 := hR
  obtain ⟨lv, vd, vt, av, LV, LA, hL, hlg, hvd, hvt, ⟨ta, tn', tc, hvtf⟩, ⟨aa, an, ac, rfl⟩, hac, hok⟩ := hR
  obtain ⟨la, lc, rfl⟩ := hlg.form w0 hP
  have hm1 := hok.m1
  have hm3 := hok.m3
  have hln := hok.log
  have hro := hok.role
  have hnn := hok.n
  have hpF : p ∈ ids L0 := by rw [hL]; simp [ids]
  have hPp : ∀ q ∈ LP, q.1 ≠ p := fun q hq e => hPd q hq (by rw [e]; exact hpF)
  revert hs hPd hpF
  generalize ids L0 = F
  rw [hL]
  intro hPd hs0 hpF
  subst hvtf
  obtain ⟨bv, vs, rfl, rfl, hvl, hvs⟩ := hvd
  have hs1 := hs0
  unfold fcells at hs1
  refine Ret_startL hs1 fun w hs => ?_
  clear hs1
  refine Ret_of Try.func28 rfl Try.ntmps28 rfl ?_
  refine W_seq ?_
  refine W_region ?_
  refine s_assign rfl rfl ?_
  refine s_assign rfl rfl ?_
  refine WL_nil ?_
  refine n_then ?_
  refine W_seq ?_
  refine W_seq ?_
  refine W_draw [(0, true, []), (1, true, []), (2, true, []), (3, true, []), (4, true, []), (5, true, []), (6, true, []), (7, true, []), (8, true, []), (9, true, []), (10, true, []), (11, true, []), (12, true, []), (13, true, []), (14, true, []), (15, true, []), (16, true, []), (17, true, []), (18, true, [])] [[], [0], [0, 1], [0, 1, 2], [0, 1, 2, 3], [0, 1, 2, 3, 4], [0, 1, 2, 3, 4, 5], [0, 1, 2, 3, 4, 5, 6], [0, 1, 2, 3, 4, 5, 6], [0, 1, 2, 3, 4, 5, 6, 8], [0, 1, 2, 3, 4, 5, 6, 8, 9], [0, 1, 2, 3, 4, 5, 6, 8, 9, 10], [0, 1, 2, 3, 4, 5, 6, 7, 8, 9, 10, 11], [0, 1, 2, 3, 4, 5, 6], [0, 1, 2, 3, 4, 5, 6, 13], [0, 1, 2, 3, 4, 5, 6, 13, 14], [0, 1, 2, 3, 4, 5, 6, 13, 14, 15], [0, 1, 2, 3, 4, 5, 6, 7, 8, 9, 10, 11, 12, 13, 14, 15, 16], [0, 1, 2, 3, 4, 5, 6, 7, 8, 9, 10, 11, 12, 13, 14, 15, 16, 17]] MX (by kernel_rfl) ?_
  intro w1 hw1 hw2 hw3 hw4; replace hs := hs.redrawn hw1 hw2 hw3 hw4; clear hw1 hw2 hw3 hw4
  obtain ⟨w, rfl⟩ : ∃ w : World, w = w1 := ⟨_, rfl⟩
  refine D_q rfl rfl ?_
  refine s_move rfl rfl ?_
  refine D_qn ?_
  refine D_q rfl rfl ?_
  refine s_lss rfl rfl rfl ?_
  refine D_qn ?_
  refine D_q rfl rfl ?_
  refine s_move rfl rfl ?_
  refine WL_case (s := 8) rfl (fun hg8 => ?_) (fun hg8 => ?_)
  · skip
    try simp only [decide_eq_true_eq, decide_eq_false_iff_not, gt_iff_lt, ge_iff_le, beq_iff_eq, beq_eq_false_iff_ne, ne_eq, bne_iff_ne, bne_eq_false_iff_eq, Bool.not_eq_true', Bool.not_eq_false', Bool.not_eq_true, Bool.not_eq_false, Decidable.not_not] at hg8
    refine D_qn ?_
    refine D_q rfl rfl ?_
    refine WL_skip rfl rfl rfl ?_
    refine D_qn ?_
    refine D_q rfl rfl ?_
    refine WL_skip rfl rfl rfl ?_
    refine D_qn ?_
    refine D_q rfl rfl ?_
    refine s_pick_t rfl rfl rfl ?_
    refine D_qn ?_
    refine D_q rfl rfl ?_
    refine s_move rfl rfl ?_
    refine D_qn ?_
    refine D_q rfl rfl ?_
    refine WL_skip rfl rfl rfl ?_
    refine D_qn ?_
    refine D_q rfl rfl ?_
    refine WL_skip rfl rfl rfl ?_
    refine D_qn ?_
    refine D_q rfl rfl ?_
    refine WL_skip rfl rfl rfl ?_
    refine D_qn ?_
    refine D_q rfl rfl ?_
    refine WL_skip rfl rfl rfl ?_
    refine D_qn ?_
    refine D_q rfl rfl ?_
    refine WL_skip rfl rfl rfl ?_
    refine D_qn ?_
    refine D_q rfl rfl ?_
    refine WL_skip rfl rfl rfl ?_
    refine D_qn ?_
    refine D_q rfl rfl ?_
    refine WL_skip rfl rfl rfl ?_
    refine D_qn ?_
    refine D_q rfl rfl ?_
    refine WL_skip rfl rfl rfl ?_
    refine D_qn ?_
    refine D_q rfl rfl ?_
    refine WL_skip rfl rfl rfl ?_
    refine D_qn ?_
    refine D_q rfl rfl ?_
    refine WL_skip rfl rfl rfl ?_
    refine D_qn ?_
    refine D_q rfl rfl ?_
    refine WL_skip rfl rfl rfl ?_
    refine D_qn ?_
    refine D_q rfl rfl ?_
    refine s_pick_t rfl rfl rfl ?_
    refine D_qn ?_
    refine D_nil ?_
    refine n_then ?_
    refine W_cond_t rfl ?_
    refine W_seq ?_
    refine W_region ?_
    refine s_assign rfl rfl ?_
    refine s_assign rfl rfl ?_
    refine WL_nil ?_
    refine n_then ?_
    refine W_ret ?_
    refine r_then ?_
    first
      | (have hv : R.elect t = (R, [], 1) := by rw [Rp.elect, if_pos (by omega)]
         exact end2 rfl rfl rfl ⟨L0 ++ [], by rw [hL, List.append_nil]; exact hs, _, [], L0, by rw [hv], rfl, by rw [hv]; exact hR0, by rw [hv]; exact MdAt.nil LP⟩)
  · skip
    try simp only [decide_eq_true_eq, decide_eq_false_iff_not, gt_iff_lt, ge_iff_le, beq_iff_eq, beq_eq_false_iff_ne, ne_eq, bne_iff_ne, bne_eq_false_iff_eq, Bool.not_eq_true', Bool.not_eq_false', Bool.not_eq_true, Bool.not_eq_false, Decidable.not_not] at hg8
    refine D_qn ?_
    refine D_q rfl rfl ?_
    refine WL_take rfl ?_
    refine s_move rfl rfl ?_
    refine D_qn ?_
    refine D_q rfl rfl ?_
    refine WL_take rfl ?_
    refine s_gtr rfl rfl rfl ?_
    refine D_qn ?_
    refine D_q rfl rfl ?_
    refine s_pick_f rfl rfl rfl ?_
    refine D_qn ?_
    refine D_q rfl rfl ?_
    refine s_move rfl rfl ?_
    refine WL_case (s := 12) rfl (fun hg12 => ?_) (fun hg12 => ?_)
    · skip
      try simp only [decide_eq_true_eq, decide_eq_false_iff_not, gt_iff_lt, ge_iff_le, beq_iff_eq, beq_eq_false_iff_ne, ne_eq, bne_iff_ne, bne_eq_false_iff_eq, Bool.not_eq_true', Bool.not_eq_false', Bool.not_eq_true, Bool.not_eq_false, Decidable.not_not] at hg12
      refine D_qn ?_
      refine D_q rfl rfl ?_
      refine WL_skip rfl rfl rfl ?_
      refine D_qn ?_
      refine D_q rfl rfl ?_
      refine WL_skip rfl rfl rfl ?_
      refine D_qn ?_
      refine D_q rfl rfl ?_
      refine WL_skip rfl rfl rfl ?_
      refine D_qn ?_
      refine D_q rfl rfl ?_
      refine WL_skip rfl rfl rfl ?_
      refine D_qn ?_
      refine D_q rfl rfl ?_
      refine WL_skip rfl rfl rfl ?_
      refine D_qn ?_
      refine D_q rfl rfl ?_
      refine WL_skip rfl rfl rfl ?_
      refine D_qn ?_
      refine D_q rfl rfl ?_
      refine WL_skip rfl rfl rfl ?_
      refine D_qn ?_
      refine D_q rfl rfl ?_
      refine WL_skip rfl rfl rfl ?_
      refine D_qn ?_
      refine D_q rfl rfl ?_
      refine WL_skip rfl rfl rfl ?_
      refine D_qn ?_
      refine D_q rfl rfl ?_
      refine WL_skip rfl rfl rfl ?_
      refine D_qn ?_
      refine D_q rfl rfl ?_
      refine WL_skip rfl rfl rfl ?_
      refine D_qn ?_
      refine D_q rfl rfl ?_
      refine s_pick_t rfl rfl rfl ?_
      refine D_qn ?_
      refine D_nil ?_
      refine n_then ?_
      refine W_cond_t rfl ?_
      refine W_seq ?_
      refine W_region ?_
      refine s_assign rfl rfl ?_
      refine s_assign rfl rfl ?_
      refine WL_nil ?_
      refine n_then ?_
      refine W_ret ?_
      refine r_then ?_
      first
        | (have hv : R.elect t = (R, [], 1) := by rw [Rp.elect, if_pos (by omega)]
           exact end2 rfl rfl rfl ⟨L0 ++ [], by rw [hL, List.append_nil]; exact hs, _, [], L0, by rw [hv], rfl, by rw [hv]; exact hR0, by rw [hv]; exact MdAt.nil LP⟩)
    · skip
      try simp only [decide_eq_true_eq, decide_eq_false_iff_not, gt_iff_lt, ge_iff_le, beq_iff_eq, beq_eq_false_iff_ne, ne_eq, bne_iff_ne, bne_eq_false_iff_eq, Bool.not_eq_true', Bool.not_eq_false', Bool.not_eq_true, Bool.not_eq_false, Decidable.not_not] at hg12
      refine D_qn ?_
      refine D_q rfl rfl ?_
      refine WL_take rfl ?_
      refine s_move rfl rfl ?_
      refine D_qn ?_
      refine D_q rfl rfl ?_
      refine WL_take rfl ?_
      refine s_move rfl rfl ?_
      refine D_qn ?_
      refine D_q rfl rfl ?_
      refine WL_take rfl ?_
      refine s_nilCheck rfl rfl ?_
      refine D_qn ?_
      refine D_q rfl rfl ?_
      refine WL_take rfl ?_
      refine s_fieldAddr rfl rfl (FA106_1 _ _) ?_
      refine D_qn ?_
      refine D_q rfl rfl ?_
      refine WL_take rfl ?_
      first
        | refine s_load Try.isAgg3 rfl rfl (hs.cell (k := 0) rfl rfl) ?_
      refine D_qn ?_
      refine D_q rfl rfl ?_
      refine WL_take rfl ?_
      first | (refine s_rem' rfl rfl rfl ?hx ?_; case hx => (refine ⟨?_, ?_⟩ <;> omega))
      refine D_qn ?_
      refine D_q rfl rfl ?_
      refine WL_take rfl ?_
      refine s_move rfl rfl ?_
      refine D_qn ?_
      refine D_q rfl rfl ?_
      refine WL_take rfl ?_
      refine s_nilCheck rfl rfl ?_
      refine D_qn ?_
      refine D_q rfl rfl ?_
      refine WL_take rfl ?_
      refine s_fieldAddr rfl rfl (FA106_0 _ _) ?_
      refine D_qn ?_
      refine D_q rfl rfl ?_
      refine WL_take rfl ?_
      first
        | refine s_load Try.isAgg3 rfl rfl (hs.cell (k := 0) rfl rfl) ?_
      refine D_qn ?_
      refine D_q rfl rfl ?_
      refine WL_take rfl ?_
      refine s_neq rfl rfl rfl ?_
      refine D_qn ?_
      refine D_q rfl rfl ?_
      refine s_pick_f rfl rfl rfl ?_
      refine D_qn ?_
      refine D_nil ?_
      refine n_then ?_
      refine W_cond rfl (fun hc24 => ?_) (fun hc24 => ?_)
      · skip
        try simp only [decide_eq_true_eq, decide_eq_false_iff_not, gt_iff_lt, ge_iff_le, beq_iff_eq, beq_eq_false_iff_ne, ne_eq, bne_iff_ne, bne_eq_false_iff_eq, Bool.not_eq_true', Bool.not_eq_false', Bool.not_eq_true, Bool.not_eq_false, Decidable.not_not] at hc24
        refine W_seq ?_
        refine W_region ?_
        refine s_assign rfl rfl ?_
        refine s_assign rfl rfl ?_
        refine WL_nil ?_
        refine n_then ?_
        refine W_ret ?_
        refine r_then ?_
        first
          | (have hv : R.elect t = (R, [], 1) := by rw [Rp.elect, if_pos (by omega)]
             exact end2 rfl rfl rfl ⟨L0 ++ [], by rw [hL, List.append_nil]; exact hs, _, [], L0, by rw [hv], rfl, by rw [hv]; exact hR0, by rw [hv]; exact MdAt.nil LP⟩)
      · skip
        try simp only [decide_eq_true_eq, decide_eq_false_iff_not, gt_iff_lt, ge_iff_le, beq_iff_eq, beq_eq_false_iff_ne, ne_eq, bne_iff_ne, bne_eq_false_iff_eq, Bool.not_eq_true', Bool.not_eq_false', Bool.not_eq_true, Bool.not_eq_false, Decidable.not_not] at hc24
        refine W_skip ?_
        refine n_then ?_
        refine W_seq ?_
        refine W_seq ?_
        refine W_region ?_
        refine s_move rfl rfl ?_
        refine s_move rfl rfl ?_
        refine s_nilCheck rfl rfl ?_
        refine s_fieldAddr rfl rfl (FA106_2 _ _) ?_
        first
          | refine s_load Try.isAgg3 rfl rfl (hs.cell (k := 0) rfl rfl) ?_
        refine s_lss rfl rfl rfl ?_
        refine WL_nil ?_
        refine n_then ?_
        refine W_cond rfl (fun hc30 => ?_) (fun hc30 => ?_)
        · skip
          try simp only [decide_eq_true_eq, decide_eq_false_iff_not, gt_iff_lt, ge_iff_le, beq_iff_eq, beq_eq_false_iff_ne, ne_eq, bne_iff_ne, bne_eq_false_iff_eq, Bool.not_eq_true', Bool.not_eq_false', Bool.not_eq_true, Bool.not_eq_false, Decidable.not_not] at hc30
          refine W_seq ?_
          refine W_region ?_
          refine s_assign rfl rfl ?_
          refine s_assign rfl rfl ?_
          refine WL_nil ?_
          refine n_then ?_
          refine W_ret ?_
          refine r_then ?_
          first
            | (have hv : R.elect t = (R, [], 20) := by rw [Rp.elect, if_neg (by omega), if_pos (by omega)]
               exact end2 rfl rfl rfl ⟨L0 ++ [], by rw [hL, List.append_nil]; exact hs, _, [], L0, by rw [hv], rfl, by rw [hv]; exact hR0, by rw [hv]; exact MdAt.nil LP⟩)
        · skip
          try simp only [decide_eq_true_eq, decide_eq_false_iff_not, gt_iff_lt, ge_iff_le, beq_iff_eq, beq_eq_false_iff_ne, ne_eq, bne_iff_ne, bne_eq_false_iff_eq, Bool.not_eq_true', Bool.not_eq_false', Bool.not_eq_true, Bool.not_eq_false, Decidable.not_not] at hc30
          refine W_skip ?_
          refine n_then ?_
          refine W_seq ?_
          refine W_region ?_
          refine s_move rfl rfl ?_
          refine s_move rfl rfl ?_
          obtain ⟨tn, rfl⟩ : ∃ tn : Nat, t = (tn : Int) := ⟨t.toNat, by omega⟩
          have hel : R.elect tn = if R.role = 2 ∧ (tn : Int) = (R.term : Int) then (R, R.others R.spreadM, 0) else if R.mem < 2 then ((R.cand tn).crown, (R.cand tn).crown.others (R.cand tn).crown.spreadM, 0) else (R.cand tn, (R.cand tn).others (askM tn), 0) := by
            rw [Rp.elect, if_neg (by omega), if_neg (by omega), Int.toNat_natCast]
          have htm : (tn : Nat) % R.mem = R.id := by
            have h4 : (tn : Int) % (R.mem : Int) = (R.id : Int) := by omega
            exact_mod_cast h4
          refine s_callL (M := []) (L1 := [(p, Blk 106 (fcells R (.slice la R.log.length lc) (.slice (some ⟨bv, 0, none⟩) R.mem R.mem) (.slice ta tn' tc) (.slice aa an ac)))]) (X := [(bv, Blk 4 vs)] ++ LA) Try.call52 rfl rfl hs (fun h => raise_ok p R _ _ _ _ tn _ w rfl ⟨hm1, hm3⟩ h) ?_
          clear hs; rintro u w L9 h9 - hs
          obtain ⟨bv2, vs2, ta2, tn2, tc2, hs2, hvl2, hq2⟩ : ∃ (bv2 : Nat) (vs2 : List Value) (ta2 : Option Addr) (tn2 tc2 : Nat), St F w0 w ((p, Blk 106 (fcells (R.follow tn) (.slice la R.log.length lc) (.slice (some ⟨bv2, 0, none⟩) R.mem R.mem) (.slice ta2 tn2 tc2) (.slice aa an ac))) :: ([(bv2, Blk 4 vs2)] ++ LA)) ∧ vs2.length = R.mem ∧ ((R.term < tn ∨ R.role = 1) → vs2 = List.replicate R.mem (.bool false) ∧ Value.slice ta2 tn2 tc2 = .slice none 0 0) := by
            rcases h9 with ⟨h1, b, rfl⟩ | ⟨h1, rfl⟩
            · exact ⟨b, _, none, 0, 0, by simpa [cat] using St.reord [[_], [_], [_], LA] [0, 1, 3] [2] (by simpa [cat] using hs) rfl, by simp, fun _ => ⟨rfl, rfl⟩⟩
            · have hf : R.follow tn = R := by rw [Rp.follow, if_neg h1]
              rw [hf]
              exact ⟨bv, vs, ta, tn', tc, hs, hvl, fun h => by
                have h2 : R.role = 1 := by omega
                exact ⟨hvs h2, hvt h2⟩⟩
          clear hs h9 hvs hvt hvl
          have hs := hs2
          clear hs2
          have hfs := R.follow_same tn
          obtain ⟨g1, g2, g3, g4, g5⟩ := hfs
          have hfr : (R.follow tn).role = if R.term < tn then 0 else R.role := by unfold Rp.follow; split <;> rfl
          have hft := follow_term (r := R) (t := tn) (by omega)
          unfold fcells at hs
          refine WL_nil ?_
          refine n_then ?_
          refine W_seq ?_
          refine W_seq ?_
          refine W_region ?_
          refine s_move rfl rfl ?_
          refine s_nilCheck rfl rfl ?_
          refine s_fieldAddr rfl rfl (FA106_6 _ _) ?_
          first
            | refine s_load Try.isAgg3 rfl rfl (hs.cell (k := 0) rfl rfl) ?_
          refine s_eql rfl rfl rfl ?_
          refine WL_nil ?_
          refine n_then ?_
          refine W_cond rfl (fun hc38 => ?_) (fun hc38 => ?_)
          · skip
            try simp only [decide_eq_true_eq, decide_eq_false_iff_not, gt_iff_lt, ge_iff_le, beq_iff_eq, beq_eq_false_iff_ne, ne_eq, bne_iff_ne, bne_eq_false_iff_eq, Bool.not_eq_true', Bool.not_eq_false', Bool.not_eq_true, Bool.not_eq_false, Decidable.not_not] at hc38
            have hrr : R.role = 2 ∧ ¬ R.term < tn := by
              by_cases h : R.term < tn
              · rw [if_pos h] at hfr; omega
              · rw [if_neg h] at hfr; omega
            have hf : R.follow tn = R := by rw [Rp.follow, if_neg hrr.2]
            rw [hf] at hs
            rw [if_pos (by omega)] at hel
            obtain ⟨ba, h1, rfl⟩ := hac hrr.1
            cases h1
            refine W_seq ?_
            refine W_region ?_
            refine s_move rfl rfl ?_
            refine s_call Try.call53 rfl rfl (fothers_ok p R la R.log.length lc _ _ _ 2 R.spreadM w (hs.at (k := 0) rfl) hm3 ⟨rfl, rfl, rfl⟩ (.inl ⟨rfl, rfl⟩)) ?_
            rintro r w ⟨Lr, hOr, hst⟩
            replace hs := (hs.back0 hst).swap (A := Lr)
            clear hst
            have hMd : MdAt r (R.others R.spreadM) Lr LP := ⟨_, oDms_s _ _ _, hOr, fun d hd => by
              obtain ⟨j, _, rfl⟩ := List.mem_map.1 hd
              exact hlg⟩
            have hFR : FrAt p R ((p, Blk 106 (fcells R (.slice la R.log.length lc) (.slice (some ⟨bv2, 0, none⟩) R.mem R.mem) (.slice ta2 tn2 tc2) (.slice (some ⟨ba, 0, none⟩) R.mem R.mem))) :: ([(bv2, Blk 4 vs2)] ++ [(ba, Blk 3 (i64s (ackL R)))])) LP :=
              ⟨_, _, _, _, _, _, rfl, hlg, ⟨bv2, vs2, rfl, rfl, hvl2, fun h => by omega⟩, fun h => by omega, ⟨_, _, _, rfl⟩, ⟨_, _, _, rfl⟩, fun _ => ⟨ba, rfl, rfl⟩, hok⟩
            refine s_assign rfl rfl ?_
            refine s_assign rfl rfl ?_
            refine WL_nil ?_
            refine n_then ?_
            refine W_ret ?_
            refine r_then ?_
            first
              | exact end2 rfl rfl rfl ⟨_, hs, _, Lr, _, by rw [hel], rfl, by rw [hel]; exact hFR, by rw [hel]; exact hMd⟩
          · skip
            try simp only [decide_eq_true_eq, decide_eq_false_iff_not, gt_iff_lt, ge_iff_le, beq_iff_eq, beq_eq_false_iff_ne, ne_eq, bne_iff_ne, bne_eq_false_iff_eq, Bool.not_eq_true', Bool.not_eq_false', Bool.not_eq_true, Bool.not_eq_false, Decidable.not_not] at hc38
            have hq : R.term < tn ∨ R.role = 1 := by
              by_cases h : R.term < tn
              · exact .inl h
              · rw [if_neg h] at hfr
                have : R.term = tn := by omega
                have h3 := hown (by omega) (by rw [this]; exact htm)
                omega
            obtain ⟨rfl, h1⟩ := hq2 hq
            cases h1
            rw [if_neg (by
              rintro ⟨h1, h2⟩
              rw [if_neg (by omega)] at hfr
              omega)] at hel
            refine W_skip ?_
            refine n_then ?_
            refine W_seq ?_
            refine W_region ?_
            refine s_move rfl rfl ?_
            refine s_nilCheck rfl rfl ?_
            refine s_fieldAddr rfl rfl (FA106_6 _ _) ?_
            first
              | refine s_storeB Try.sizeOf3 rfl rfl rfl hs (kk := 0) rfl rfl ?_
            clear hs; intro w hs; try simp only [List.set_cons_zero, List.set_cons_succ, splice, List.take_succ_cons, List.take_zero, List.drop_succ_cons, List.drop_zero, List.nil_append, List.cons_append, List.length_cons, List.length_nil, Nat.reduceAdd, List.append_assoc] at hs
            refine WL_nil ?_
            refine n_then ?_
            refine W_seq ?_
            refine W_seq ?_
            refine W_region ?_
            refine s_move rfl rfl ?_
            refine s_nilCheck rfl rfl ?_
            refine s_fieldAddr rfl rfl (FA106_1 _ _) ?_
            first
              | refine s_load Try.isAgg3 rfl rfl (hs.cell (k := 0) rfl rfl) ?_
            refine s_eql rfl rfl rfl ?_
            refine WL_nil ?_
            refine n_then ?_
            refine W_cond rfl (fun hc48 => ?_) (fun hc48 => ?_)
            · skip
              try simp only [decide_eq_true_eq, decide_eq_false_iff_not, gt_iff_lt, ge_iff_le, beq_iff_eq, beq_eq_false_iff_ne, ne_eq, bne_iff_ne, bne_eq_false_iff_eq, Bool.not_eq_true', Bool.not_eq_false', Bool.not_eq_true, Bool.not_eq_false, Decidable.not_not] at hc48
              obtain ⟨C, hC⟩ : ∃ C, C = R.cand tn := ⟨_, rfl⟩
              have hCs : C.mem = R.mem ∧ C.log = R.log ∧ C.role = 1 ∧ C.n = R.n := by rw [hC]; exact ⟨rfl, rfl, rfl, rfl⟩
              have hCok : C.ok := by rw [hC]; exact hok.cand (by omega)
              rw [if_pos (by omega), ← hC] at hel
              replace hs : St F w0 w ([(p, Blk 106 (fcells C (.slice la C.log.length lc) (.slice (some ⟨bv2, 0, none⟩) R.mem R.mem) (.slice none 0 0) (.slice aa an ac)))] ++ ([(bv2, Blk 4 (List.replicate R.mem (.bool false)))] ++ LA)) := by
                rw [hC, follow_cand (R := R) (t := tn) (by omega), g4]; simpa [fcells, g4] using hs
              rw [← hCs.2.1] at hlg hln
              refine W_seq ?_
              refine W_region ?_
              refine s_move rfl rfl ?_
              refine s_callL (M := []) (L1 := [(p, _)]) (X := [(bv2, Blk 4 (List.replicate R.mem (.bool false)))] ++ LA) Try.call54 rfl rfl hs (fun h => leads_ok p C la lc _ none 0 _ none _ LP w rfl hlg nofun ⟨none, 0, rfl, Nat.le_refl _, .inl rfl⟩ nofun (by show C.mem < 2 * (1 + 0); omega) (by omega) nofun (fun H hH => by rw [hH]; exact hCok.n) (fun q hq => hs.oldH hP hPd q hq) hPp h) ?_
              clear hs; rintro u w L9 ⟨la', lc', ba, Lr, rfl, hlg', hMd⟩ - hs
              have hcr : C.lead (Option.map (fun d : Dm => d.s.m) none) = C.crown := rfl
              rw [hcr] at hs hlg' hMd
              have hcm : C.crown.mem = R.mem := hCs.1
              have hFR : FrAt p C.crown ((p, Blk 106 (fcells C.crown (.slice la' C.crown.log.length lc') (.slice (some ⟨bv2, 0, none⟩) R.mem R.mem) (.slice none 0 0) (.slice (some ⟨ba, 0, none⟩) C.mem C.mem))) :: ([(bv2, Blk 4 (List.replicate R.mem (.bool false)))] ++ [(ba, Blk 3 (i64s (ackL C.crown)))])) LP :=
                ⟨_, _, _, _, _, _, rfl, hlg', ⟨bv2, _, by rw [hcm], rfl, by rw [hcm]; simp, fun h => by cases h⟩, fun h => rfl, ⟨_, _, _, rfl⟩, ⟨_, _, _, rfl⟩, fun _ => ⟨ba, rfl, rfl⟩, crown_okN hCok⟩
              replace hs : St F w0 w (((p, Blk 106 (fcells C.crown (.slice la' C.crown.log.length lc') (.slice (some ⟨bv2, 0, none⟩) R.mem R.mem) (.slice none 0 0) (.slice (some ⟨ba, 0, none⟩) C.mem C.mem))) :: ([(bv2, Blk 4 (List.replicate R.mem (.bool false)))] ++ [(ba, Blk 3 (i64s (ackL C.crown)))])) ++ Lr) := by
                simpa [cat] using St.reord [[_], [_], Lr, [_], LA] [0, 3, 1, 2] [4] (by simpa [cat] using hs) rfl
              refine s_assign rfl rfl ?_
              refine s_assign rfl rfl ?_
              refine WL_nil ?_
              refine n_then ?_
              refine W_ret ?_
              refine r_then ?_
              first
                | exact end2 rfl rfl rfl ⟨_, hs, _, Lr, _, by rw [hel], rfl, by rw [hel]; exact hFR, by rw [hel]; exact hMd⟩
            · skip
              try simp only [decide_eq_true_eq, decide_eq_false_iff_not, gt_iff_lt, ge_iff_le, beq_iff_eq, beq_eq_false_iff_ne, ne_eq, bne_iff_ne, bne_eq_false_iff_eq, Bool.not_eq_true', Bool.not_eq_false', Bool.not_eq_true, Bool.not_eq_false, Decidable.not_not] at hc48
              obtain ⟨C, hC⟩ : ∃ C, C = R.cand tn := ⟨_, rfl⟩
              have hCs : C.mem = R.mem ∧ C.log = R.log ∧ C.role = 1 ∧ C.n = R.n ∧ C.term = tn := by rw [hC]; exact ⟨rfl, rfl, rfl, rfl, rfl⟩
              have hCok : C.ok := by rw [hC]; exact hok.cand (by omega)
              rw [if_neg (by omega), ← hC] at hel
              replace hs : St F w0 w ((p, Blk 106 (fcells C (.slice la C.log.length lc) (.slice (some ⟨bv2, 0, none⟩) R.mem R.mem) (.slice none 0 0) (.slice aa an ac))) :: ([(bv2, Blk 4 (List.replicate R.mem (.bool false)))] ++ LA)) := by
                rw [hC, follow_cand (R := R) (t := tn) (by omega)]; simpa [fcells, g4] using hs
              rw [← hCs.2.1] at hlg hln
              refine W_skip ?_
              refine n_then ?_
              refine W_seq ?_
              refine W_region ?_
              refine s_move rfl rfl ?_
              refine s_call Try.call53 rfl rfl (fothers_ok p C la C.log.length lc _ _ _ 0 (askM tn) w (hs.at (k := 0) rfl) (by omega) ⟨rfl, hCs.2.2.2.2.symm, rfl⟩ (.inr ⟨rfl, rfl⟩)) ?_
              rintro r w ⟨Lr, hOr, hst⟩
              replace hs := (hs.back0 hst).swap (A := Lr)
              clear hst
              have hMd : MdAt r (C.others (askM tn)) Lr LP := ⟨_, oDms_s _ _ _, hOr, fun d hd => by
                obtain ⟨j, _, rfl⟩ := List.mem_map.1 hd
                exact LgIn.nil LP⟩
              have hFR : FrAt p C ((p, Blk 106 (fcells C (.slice la C.log.length lc) (.slice (some ⟨bv2, 0, none⟩) R.mem R.mem) (.slice none 0 0) (.slice aa an ac))) :: ([(bv2, Blk 4 (List.replicate R.mem (.bool false)))] ++ LA)) LP :=
                ⟨_, _, _, _, _, _, rfl, hlg, ⟨bv2, _, by rw [hCs.1], rfl, by rw [hCs.1]; simp, fun _ => by rw [hCs.1]⟩, fun _ => rfl, ⟨_, _, _, rfl⟩, ⟨_, _, _, rfl⟩, fun h => by omega, hCok⟩
              refine s_assign rfl rfl ?_
              refine s_assign rfl rfl ?_
              refine WL_nil ?_
              refine n_then ?_
              refine W_ret ?_
              first
                | exact end2 rfl rfl rfl ⟨_, hs, _, Lr, _, by rw [hel], rfl, by rw [hel]; exact hFR, by rw [hel]; exact hMd⟩
end Go.Proofs.Ytkobigdfijeajaa

/- The reference's replicas: Propose. -/
namespace Go.Proofs.Ytkobigdfijeajaa
open Go.SL
theorem push_best {R C : Rp} {e : En} (hC : C = { R with log := R.log ++ [e] }) (hn : R.n ≤ R.log.length) (h1 : R.mem = 1) : C.atN (C.best C.log.length) = R.push e := by
  have hl : C.log.length = R.log.length + 1 := by rw [hC]; simp
  rw [hl, Rp.best, if_pos (by rw [hC]; show R.n < R.log.length + 1; omega), if_pos (by rw [hC]; show R.mem < _; omega)]
  rw [hC, Rp.push, if_pos (by omega)]; rfl
set_option maxHeartbeats 4000000 in
theorem fpropose_ok (p : Nat) (R : Rp) (L0 LP : Hp) (e : En) (v : Value) (w0 : World) (hR : FrAt p R L0 LP) (hv : RdS v e.bs.length (u8s e.bs) LP) (hB : ∀ b ∈ e.bs, isB b) (hP : ∀ q ∈ LP, w0.heap[q.1]? = some q.2) (hPd : ∀ q ∈ LP, q.1 ∉ ids L0) (hs : St (ids L0) w0 w0 L0) :
    Ret Try.prog 29 [.pointer (some ⟨p, 0, none⟩), .agg (Em.cells ⟨e, v⟩).toArray].toArray w0 fun r w' => ∃ L', St (ids L0) w0 w' L' ∧ ∃ rv Lr LQ LN, r = .tuple #[rv, .int .i64 (R.propose e).2.2] ∧ L' = LQ ++ (Lr ++ LN) ∧ FrAt p (R.propose e).1 LQ (LN ++ LP) ∧ MdAt rv (R.propose e).2.1 Lr (LN ++ LP) := by
  have hR0 := hR
  obtain ⟨lv, vd, vt, av, LV, LA, hL, hlg, hvd, hvt, ⟨ta, tn', tc, hvtf⟩, ⟨aa, an, ac, rfl⟩, hac, hok⟩ := hR
  obtain ⟨la, lc, rfl⟩ := hlg.form w0 hP
  obtain ⟨es, hes, hrd, hem⟩ := hlg
  have hesl : es.length = R.log.length := by rw [← hes, ens_length]
  obtain ⟨_, vc, va, rfl, hvl⟩ := hv.form w0 hP
  subst hvl
  have hm1 := hok.m1
  have hm3 := hok.m3
  have hln := hok.log
  have hnn := hok.n
  revert hs hPd
  generalize ids L0 = F
  rw [hL]
  intro hPd hs0
  subst hvtf
  obtain ⟨bv, vs, rfl, rfl, hvsl, hvs⟩ := hvd
  have hs1 := hs0
  unfold fcells at hs1
  refine Ret_startL hs1 fun w hs => ?_
  clear hs1
  refine Ret_of Try.func29 rfl Try.ntmps29 rfl ?_
  refine W_seq ?_
  refine W_region ?_
  first | refine s_box rfl rfl hs ?_
  clear hs; intro b3 w hs
  refine s_assign rfl rfl ?_
  refine s_assign rfl rfl ?_
  refine WL_nil ?_
  refine n_then ?_
  refine W_seq ?_
  refine W_seq ?_
  refine W_region ?_
  refine s_move rfl rfl ?_
  refine s_nilCheck rfl rfl ?_
  refine s_fieldAddr rfl rfl (FA106_6 _ _) ?_
  first
    | refine s_load Try.isAgg3 rfl rfl (hs.cell (k := 1) rfl rfl) ?_
  refine s_neq rfl rfl rfl ?_
  refine WL_nil ?_
  refine n_then ?_
  refine W_cond rfl (fun hc12 => ?_) (fun hc12 => ?_)
  · skip
    try simp only [decide_eq_true_eq, decide_eq_false_iff_not, gt_iff_lt, ge_iff_le, beq_iff_eq, beq_eq_false_iff_ne, ne_eq, bne_iff_ne, bne_eq_false_iff_eq, Bool.not_eq_true', Bool.not_eq_false', Bool.not_eq_true, Bool.not_eq_false, Decidable.not_not] at hc12
    refine W_seq ?_
    refine W_region ?_
    refine s_assign rfl rfl ?_
    refine s_assign rfl rfl ?_
    refine WL_nil ?_
    refine n_then ?_
    refine W_ret ?_
    refine r_then ?_
    first
      | (have hv : R.propose e = (R, [], 20) := by rw [Rp.propose, if_pos (by omega)]
         exact end2 rfl rfl rfl ⟨L0 ++ ([] ++ []), by rw [hL, List.append_nil, List.append_nil]; exact hs.tail, _, [], L0, [], by rw [hv], rfl, by rw [hv]; exact hR0, by rw [hv]; exact MdAt.nil LP⟩)
  · skip
    try simp only [decide_eq_true_eq, decide_eq_false_iff_not, gt_iff_lt, ge_iff_le, beq_iff_eq, beq_eq_false_iff_ne, ne_eq, bne_iff_ne, bne_eq_false_iff_eq, Bool.not_eq_true', Bool.not_eq_false', Bool.not_eq_true, Bool.not_eq_false, Decidable.not_not] at hc12
    obtain ⟨ba, h1, rfl⟩ := hac (by omega)
    cases h1
    refine W_skip ?_
    refine n_then ?_
    refine W_seq ?_
    refine W_region ?_
    first
      | refine s_loadW Try.isAgg52 Try.sizeOf52 rfl rfl hs (kk := 0) rfl rfl ?_
    refine s_call Try.call55 rfl rfl (fValid_ok e.g e.x va e.bs.length vc w) ?_
    rintro r w ⟨hst, rfl⟩
    replace hs := hs.fwd1 hst
    clear hst
    refine s_assign rfl rfl ?_
    refine WL_nil ?_
    refine n_then ?_
    refine W_seq ?_
    refine W_seq ?_
    refine W_region ?_
    refine s_move rfl rfl ?_
    refine s_not rfl rfl ?_
    refine WL_nil ?_
    refine n_then ?_
    refine W_cond rfl (fun hc16 => ?_) (fun hc16 => ?_)
    · skip
      try simp only [decide_eq_true_eq, decide_eq_false_iff_not, gt_iff_lt, ge_iff_le, beq_iff_eq, beq_eq_false_iff_ne, ne_eq, bne_iff_ne, bne_eq_false_iff_eq, Bool.not_eq_true', Bool.not_eq_false', Bool.not_eq_true, Bool.not_eq_false, Decidable.not_not] at hc16
      refine W_seq ?_
      refine W_region ?_
      refine s_assign rfl rfl ?_
      refine s_assign rfl rfl ?_
      refine WL_nil ?_
      refine n_then ?_
      refine W_ret ?_
      refine r_then ?_
      first
        | (have hv : R.propose e = (R, [], 1) := by rw [Rp.propose, if_neg (by omega), if_pos (by assumption)]
           exact end2 rfl rfl rfl ⟨L0 ++ ([] ++ []), by rw [hL, List.append_nil, List.append_nil]; exact hs.tail, _, [], L0, [], by rw [hv], rfl, by rw [hv]; exact hR0, by rw [hv]; exact MdAt.nil LP⟩)
    · skip
      try simp only [decide_eq_true_eq, decide_eq_false_iff_not, gt_iff_lt, ge_iff_le, beq_iff_eq, beq_eq_false_iff_ne, ne_eq, bne_iff_ne, bne_eq_false_iff_eq, Bool.not_eq_true', Bool.not_eq_false', Bool.not_eq_true, Bool.not_eq_false, Decidable.not_not] at hc16
      refine W_skip ?_
      refine n_then ?_
      refine W_seq ?_
      refine W_seq ?_
      refine W_region ?_
      refine s_move rfl rfl ?_
      refine s_nilCheck rfl rfl ?_
      refine s_fieldAddr rfl rfl (FA106_4 _ _) ?_
      first
        | refine s_load Try.isAgg69 rfl rfl (hs.cell (k := 1) rfl rfl) ?_
      refine s_len rfl rfl (LN69 _ _ _ _) ?_
      refine s_geq rfl rfl rfl ?_
      refine WL_nil ?_
      refine n_then ?_
      refine W_cond rfl (fun hc22 => ?_) (fun hc22 => ?_)
      · skip
        try simp only [decide_eq_true_eq, decide_eq_false_iff_not, gt_iff_lt, ge_iff_le, beq_iff_eq, beq_eq_false_iff_ne, ne_eq, bne_iff_ne, bne_eq_false_iff_eq, Bool.not_eq_true', Bool.not_eq_false', Bool.not_eq_true, Bool.not_eq_false, Decidable.not_not] at hc22
        refine W_seq ?_
        refine W_region ?_
        refine s_assign rfl rfl ?_
        refine s_assign rfl rfl ?_
        refine WL_nil ?_
        refine n_then ?_
        refine W_ret ?_
        refine r_then ?_
        first
          | (have hv : R.propose e = (R, [], 4) := by rw [Rp.propose, if_neg (by omega), if_neg (by simpa), if_pos (by omega)]
             exact end2 rfl rfl rfl ⟨L0 ++ ([] ++ []), by rw [hL, List.append_nil, List.append_nil]; exact hs.tail, _, [], L0, [], by rw [hv], rfl, by rw [hv]; exact hR0, by rw [hv]; exact MdAt.nil LP⟩)
      · skip
        try simp only [decide_eq_true_eq, decide_eq_false_iff_not, gt_iff_lt, ge_iff_le, beq_iff_eq, beq_eq_false_iff_ne, ne_eq, bne_iff_ne, bne_eq_false_iff_eq, Bool.not_eq_true', Bool.not_eq_false', Bool.not_eq_true, Bool.not_eq_false, Decidable.not_not] at hc22
        refine W_skip ?_
        refine n_then ?_
        refine W_seq ?_
        refine W_region ?_
        refine s_assign rfl rfl ?_
        refine WL_nil ?_
        refine n_then ?_
        refine W_seq ?_
        refine W_region ?_
        refine s_move rfl rfl ?_
        refine s_move rfl rfl ?_
        refine s_nilCheck rfl rfl ?_
        refine s_fieldAddr rfl rfl (FA106_4 _ _) ?_
        first
          | refine s_load Try.isAgg69 rfl rfl (hs.cell (k := 1) rfl rfl) ?_
        refine s_appendM (M := [_, _]) (X := [(bv, Blk 4 vs)] ++ [(ba, Blk 3 (i64s (ackL R)))]) El69 rfl rfl rfl (OwnS.nil _ _) (by simpa using hs) (hrd.sl w (hs.oldH hP hPd)) (emcells_length es) (hem.one w (hs.oldH hP hPd)) (by omega) ?_
        clear hs; intro v1 w LB hO1 hs
        rw [List.nil_append, Nat.zero_add] at hO1
        simp only [List.cons_append, List.nil_append] at hs
        refine s_assign rfl rfl ?_
        refine WL_nil ?_
        refine n_then ?_
        refine W_seq ?_
        refine W_region ?_
        refine s_move rfl rfl ?_
        refine s_move rfl rfl ?_
        first
          | refine s_loadW Try.isAgg52 Try.sizeOf52 rfl rfl hs (kk := 0) rfl rfl ?_
        refine s_buildSlice rfl rfl (BS69_1 _ _ _ _ _ _) hs ?_; clear hs; intro b32 w hs
        refine s_appendM (M := [_, _, _]) (X := [(bv, Blk 4 vs)] ++ [(ba, Blk 3 (i64s (ackL R)))]) El69 rfl rfl rfl hO1 (by simpa using hs) (hs.sl (k := 0) (ds := [_, _, _, _, _, _]) rfl (Nat.le_refl _) (by intro j u hj; rw [Nat.zero_add]; exact hj)) rfl (by simp [Value.oneCell']) (by omega) ?_
        clear hs hO1; intro v2 w LB2 hO2 hs
        obtain ⟨_, yc, ya, rfl, hyl⟩ := hO2.form
        subst hyl
        simp only [List.cons_append, List.nil_append] at hs
        have hpl : (R.push e).log.length = es.length + 1 := by simp [Rp.push, hesl]
        have hLg : LgIn (.slice ya (R.push e).log.length yc) (R.push e).log (LB2 ++ LP) := by
          refine ⟨es ++ [⟨e, .slice va e.bs.length vc⟩], by rw [ens_append, hes]; rfl, ?_, ?_⟩
          · rw [hpl]
            have h9 : OwnS 52 6 (.slice ya (es.length + 1) yc) (es ++ [⟨e, .slice va e.bs.length vc⟩] : List Em).length (emcells (es ++ [⟨e, .slice va e.bs.length vc⟩])) LB2 := by
              rw [List.length_append]; simpa [emcells_append, emcells, Em.cells] using hO2
            exact RdS.mono' h9.rdS fun q hq => by simp [hq]
          · intro y hy
            rcases List.mem_append.1 hy with hy | hy
            · exact RdS.mono' (hem y hy) fun q hq => by simp [hq]
            · obtain rfl := List.mem_singleton.1 hy; exact RdS.mono' hv fun q hq => by simp [hq]
        rw [← hpl]
        refine s_nilCheck rfl rfl ?_
        refine s_fieldAddr rfl rfl (FA106_4 _ _) ?_
        first
          | refine s_storeB Try.sizeOf69 rfl rfl rfl hs (kk := 2) rfl rfl ?_
        clear hs; intro w hs; try simp only [List.set_cons_zero, List.set_cons_succ, splice, List.take_succ_cons, List.take_zero, List.drop_succ_cons, List.drop_zero, List.nil_append, List.cons_append, List.length_cons, List.length_nil, Nat.reduceAdd, List.append_assoc] at hs
        refine WL_nil ?_
        refine n_then ?_
        refine W_seq ?_
        refine W_seq ?_
        refine W_region ?_
        refine s_move rfl rfl ?_
        have hval : validP e.g e.x e.bs.length := by assumption
        have hpr : R.propose e = (R.push e, (R.push e).others (R.push e).spreadM, 0) := by rw [Rp.propose, if_neg (by omega), if_neg (by simpa using hval), if_neg (by omega)]
        have hpok : (R.push e).ok := hok.push ⟨hval, hB⟩ (by omega)
        refine s_nilCheck rfl rfl ?_
        refine s_fieldAddr rfl rfl (FA106_1 _ _) ?_
        first
          | refine s_load Try.isAgg3 rfl rfl (hs.cell (k := 2) rfl rfl) ?_
        refine s_eql rfl rfl rfl ?_
        refine WL_nil ?_
        refine n_then ?_
        refine W_cond rfl (fun hc40 => ?_) (fun hc40 => ?_)
        · skip
          try simp only [decide_eq_true_eq, decide_eq_false_iff_not, gt_iff_lt, ge_iff_le, beq_iff_eq, beq_eq_false_iff_ne, ne_eq, bne_iff_ne, bne_eq_false_iff_eq, Bool.not_eq_true', Bool.not_eq_false', Bool.not_eq_true, Bool.not_eq_false, Decidable.not_not] at hc40
          refine W_region ?_
          refine s_move rfl rfl ?_
          obtain ⟨C, hC⟩ : ∃ C : Rp, C = { R with log := R.log ++ [e] } := ⟨_, rfl⟩
          have hCe : C.mem = R.mem ∧ C.log.length = (R.push e).log.length ∧ ackL C = ackL R := by rw [hC]; exact ⟨rfl, rfl, rfl⟩
          replace hs : St F w0 w ([(p, Blk 106 (fcells C (.slice ya C.log.length yc) (.slice (some ⟨bv, 0, none⟩) R.mem R.mem) (.slice ta tn' tc) (.slice (some ⟨ba, 0, none⟩) C.mem C.mem)))] ++ ([(ba, Blk 3 (i64s (ackL R)))] ++ ([(bv, Blk 4 vs)] ++ LB2))) := by
            rw [hCe.2.1, hCe.1, hC]
            simpa [cat, fcells] using St.reord [[_], [_], [_], LB2, [_], [_]] [2, 5, 4, 3] [0, 1] (by simpa [cat] using hs) rfl
          have hne : ba ≠ p := by have h9 := hs.nodup; simp [ids] at h9; exact fun h => h9.1.1 h.symm
          refine s_callL (M := []) (L1 := [(p, _)]) (X := [(ba, Blk 3 (i64s (ackL R)))] ++ ([(bv, Blk 4 vs)] ++ LB2)) Try.call56 rfl rfl hs (fun h => commits_ok p C ya yc _ _ (some ⟨ba, 0, none⟩) C.mem _ w rfl (by rw [hCe.2.2]; exact hs.sl (k := 1) (ds := i64s (ackL R)) rfl (Nat.le_refl _) (by intro j u hj; rw [Nat.zero_add]; exact hj)) (fun a ha => by cases ha; exact hne) (by rw [hCe.2.1, hpl]; omega) h) ?_
          clear hs; rintro u w L9 ⟨rfl, rfl⟩ - hs
          rw [push_best hC hnn (by omega), hCe.2.1, hCe.1] at hs
          replace hs : St F w0 w ((p, Blk 106 (fcells (R.push e) (.slice ya (R.push e).log.length yc) (.slice (some ⟨bv, 0, none⟩) R.mem R.mem) (.slice ta tn' tc) (.slice (some ⟨ba, 0, none⟩) R.mem R.mem))) :: ([(bv, Blk 4 vs)] ++ ([(ba, Blk 3 (i64s (ackL R)))] ++ LB2))) := by
            simpa [cat] using St.reord [[_], [_], [_], LB2] [0, 2, 1, 3] [] (by simpa [cat] using hs) rfl
          refine WL_nil ?_
          refine n_then ?_
          refine W_seq ?_
          refine W_region ?_
          refine s_move rfl rfl ?_
          refine s_call Try.call53 rfl rfl (fothers_ok p (R.push e) ya (R.push e).log.length yc _ _ _ 2 (R.push e).spreadM w (hs.at (k := 0) rfl) hm3 ⟨rfl, rfl, rfl⟩ (.inl ⟨rfl, rfl⟩)) ?_
          rintro r w ⟨Lr, hOr, hst⟩
          replace hs := hs.back0 hst
          clear hst
          have hMd : MdAt r ((R.push e).others (R.push e).spreadM) Lr (LB2 ++ LP) := ⟨_, oDms_s _ _ _, hOr, fun d hd => by
            obtain ⟨j, _, rfl⟩ := List.mem_map.1 hd
            exact hLg⟩
          have hFR : FrAt p (R.push e) ((p, Blk 106 (fcells (R.push e) (.slice ya (R.push e).log.length yc) (.slice (some ⟨bv, 0, none⟩) R.mem R.mem) (.slice ta tn' tc) (.slice (some ⟨ba, 0, none⟩) R.mem R.mem))) :: ([(bv, Blk 4 vs)] ++ [(ba, Blk 3 (i64s (ackL R)))])) (LB2 ++ LP) :=
            ⟨_, _, _, _, _, _, rfl, hLg, ⟨bv, vs, rfl, rfl, hvsl, hvs⟩, hvt, ⟨_, _, _, rfl⟩, ⟨_, _, _, rfl⟩, fun _ => ⟨ba, rfl, rfl⟩, hpok⟩
          replace hs : St F w0 w (((p, Blk 106 (fcells (R.push e) (.slice ya (R.push e).log.length yc) (.slice (some ⟨bv, 0, none⟩) R.mem R.mem) (.slice ta tn' tc) (.slice (some ⟨ba, 0, none⟩) R.mem R.mem))) :: ([(bv, Blk 4 vs)] ++ [(ba, Blk 3 (i64s (ackL R)))])) ++ (Lr ++ LB2)) := by
            simpa [cat] using St.reord [Lr, [_], [_], [_], LB2] [1, 2, 3, 0, 4] [] (by simpa [cat] using hs) rfl
          refine s_assign rfl rfl ?_
          refine s_assign rfl rfl ?_
          refine WL_nil ?_
          refine n_then ?_
          refine W_ret ?_
          first
            | exact end2 rfl rfl rfl ⟨_, hs, _, Lr, _, LB2, by rw [hpr], rfl, by rw [hpr]; exact hFR, by rw [hpr]; exact hMd⟩
        · skip
          try simp only [decide_eq_true_eq, decide_eq_false_iff_not, gt_iff_lt, ge_iff_le, beq_iff_eq, beq_eq_false_iff_ne, ne_eq, bne_iff_ne, bne_eq_false_iff_eq, Bool.not_eq_true', Bool.not_eq_false', Bool.not_eq_true, Bool.not_eq_false, Decidable.not_not] at hc40
          have hpn : (R.push e).n = R.n := by show (if R.mem < 2 then _ else _) = _; rw [if_neg (by omega)]
          replace hs : St F w0 w ((p, Blk 106 (fcells (R.push e) (.slice ya (R.push e).log.length yc) (.slice (some ⟨bv, 0, none⟩) R.mem R.mem) (.slice ta tn' tc) (.slice (some ⟨ba, 0, none⟩) R.mem R.mem))) :: ([(bv, Blk 4 vs)] ++ ([(ba, Blk 3 (i64s (ackL R)))] ++ LB2))) := by
            have h9 := St.reord [[_], [_], [_], LB2, [_], [_]] [2, 4, 5, 3] [0, 1] (by simpa [cat] using hs) rfl
            unfold fcells; rw [hpn]; simpa [cat, Rp.push] using h9
          refine W_skip ?_
          refine n_then ?_
          refine W_seq ?_
          refine W_region ?_
          refine s_move rfl rfl ?_
          refine s_call Try.call53 rfl rfl (fothers_ok p (R.push e) ya (R.push e).log.length yc _ _ _ 2 (R.push e).spreadM w (hs.at (k := 0) rfl) hm3 ⟨rfl, rfl, rfl⟩ (.inl ⟨rfl, rfl⟩)) ?_
          rintro r w ⟨Lr, hOr, hst⟩
          replace hs := hs.back0 hst
          clear hst
          have hMd : MdAt r ((R.push e).others (R.push e).spreadM) Lr (LB2 ++ LP) := ⟨_, oDms_s _ _ _, hOr, fun d hd => by
            obtain ⟨j, _, rfl⟩ := List.mem_map.1 hd
            exact hLg⟩
          have hFR : FrAt p (R.push e) ((p, Blk 106 (fcells (R.push e) (.slice ya (R.push e).log.length yc) (.slice (some ⟨bv, 0, none⟩) R.mem R.mem) (.slice ta tn' tc) (.slice (some ⟨ba, 0, none⟩) R.mem R.mem))) :: ([(bv, Blk 4 vs)] ++ [(ba, Blk 3 (i64s (ackL R)))])) (LB2 ++ LP) :=
            ⟨_, _, _, _, _, _, rfl, hLg, ⟨bv, vs, rfl, rfl, hvsl, hvs⟩, hvt, ⟨_, _, _, rfl⟩, ⟨_, _, _, rfl⟩, fun _ => ⟨ba, rfl, rfl⟩, hpok⟩
          replace hs : St F w0 w (((p, Blk 106 (fcells (R.push e) (.slice ya (R.push e).log.length yc) (.slice (some ⟨bv, 0, none⟩) R.mem R.mem) (.slice ta tn' tc) (.slice (some ⟨ba, 0, none⟩) R.mem R.mem))) :: ([(bv, Blk 4 vs)] ++ [(ba, Blk 3 (i64s (ackL R)))])) ++ (Lr ++ LB2)) := by
            simpa [cat] using St.reord [Lr, [_], [_], [_], LB2] [1, 2, 3, 0, 4] [] (by simpa [cat] using hs) rfl
          refine s_assign rfl rfl ?_
          refine s_assign rfl rfl ?_
          refine WL_nil ?_
          refine n_then ?_
          refine W_ret ?_
          first
            | exact end2 rfl rfl rfl ⟨_, hs, _, Lr, _, LB2, by rw [hpr], rfl, by rw [hpr]; exact hFR, by rw [hpr]; exact hMd⟩
end Go.Proofs.Ytkobigdfijeajaa

/- The reference's replicas: Receive. -/
namespace Go.Proofs.Ytkobigdfijeajaa
open Go.SL
/-- what raise leaves -/
theorem raise_at {F : List Nat} {w0 w : World} {p bv t : Nat} {R : Rp} {lv av : Value} {ta : Option Addr} {tn tc : Nat} {vs : List Value} {M L9 LA : Hp}
    (h9 : (R.term < t ∧ ∃ bv, L9 = [(p, Blk 106 (fcells (R.follow t) lv (.slice (some ⟨bv, 0, none⟩) R.mem R.mem) (.slice none 0 0) av)), (bv, Blk 4 (List.replicate R.mem (.bool false)))]) ∨ (¬ R.term < t ∧ L9 = [(p, Blk 106 (fcells R lv (.slice (some ⟨bv, 0, none⟩) R.mem R.mem) (.slice ta tn tc) av))]))
    (hs : St F w0 w (M ++ (L9 ++ ([(bv, Blk 4 vs)] ++ LA)))) (hvl : vs.length = R.mem) (hvs : R.role = 1 → vs = List.replicate R.mem (.bool false)) (hvt : R.role = 1 → Value.slice ta tn tc = .slice none 0 0) :
    ∃ (bv2 : Nat) (vs2 : List Value) (ta2 : Option Addr) (tn2 tc2 : Nat), St F w0 w (M ++ ((p, Blk 106 (fcells (R.follow t) lv (.slice (some ⟨bv2, 0, none⟩) R.mem R.mem) (.slice ta2 tn2 tc2) av)) :: ([(bv2, Blk 4 vs2)] ++ LA))) ∧ vs2.length = R.mem ∧ ((R.term < t ∨ R.role = 1) → vs2 = List.replicate R.mem (.bool false) ∧ Value.slice ta2 tn2 tc2 = .slice none 0 0) := by
  rcases h9 with ⟨h1, b, rfl⟩ | ⟨h1, rfl⟩
  · exact ⟨b, _, none, 0, 0, by simpa [cat] using St.reord [M, [_], [_], [_], LA] [0, 1, 2, 4] [3] (by simpa [cat] using hs) rfl, by simp, fun _ => ⟨rfl, rfl⟩⟩
  · have hf : R.follow t = R := by rw [Rp.follow, if_neg h1]
    rw [hf]
    exact ⟨bv, vs, ta, tn, tc, hs, hvl, fun h => by
      have h2 : R.role = 1 := by omega
      exact ⟨hvs h2, hvt h2⟩⟩
theorem follow_role (R : Rp) (t : Nat) : (R.follow t).role = if R.term < t then 0 else R.role := by unfold Rp.follow; split <;> rfl
theorem follow_acks (R : Rp) (t : Nat) : ackL (R.follow t) = ackL R := by unfold Rp.follow; split <;> rfl
theorem ackL_acked (R : Rp) (m : Mg) (frm : Nat) (h : frm < R.mem) : (ackL R).set frm ((max (R.acks frm) m.ents : Nat) : Int) = ackL (R.acked m frm) := by
  apply List.ext_getElem?
  intro j
  by_cases hj : j < R.mem
  · have h2 : (ackL (R.acked m frm))[j]? = some ((R.acked m frm).acks j : Int) := ackL_at (R := R.acked m frm) hj
    rw [h2]
    by_cases e : frm = j
    · subst e
      rw [List.getElem?_set_self (by rw [ackL_length]; exact h)]
      show _ = some (((if frm = frm then max (R.acks frm) m.ents else R.acks frm : Nat)) : Int)
      rw [if_pos rfl]
    · rw [List.getElem?_set_ne e, ackL_at hj]
      show _ = some (((if j = frm then max (R.acks frm) m.ents else R.acks j : Nat)) : Int)
      rw [if_neg (Ne.symm e)]
  · rw [List.getElem?_eq_none (by rw [List.length_set, ackL_length]; omega), List.getElem?_eq_none (by rw [ackL_length]; show R.mem ≤ j; omega)]
theorem heard_role2 (R : Rp) (m : Mg) : (Rp.heard { R with role := 2 } m).log = (R.heard m).log := by
  have ht : ({ R with role := 2 } : Rp).takes m.lterm m.log ↔ R.takes m.lterm m.log := Iff.rfl
  unfold Rp.heard Rp.adopt
  by_cases h : R.takes m.lterm m.log
  · rw [if_pos h, if_pos (ht.2 h)]
  · rw [if_neg h, if_neg (fun h2 => h (ht.1 h2))]
theorem md_one {b : Nat} {d : Dm} {LP : Hp} (h : LgIn d.v d.s.m.log LP) : MdAt (.slice (some ⟨b, 0, none⟩) 1 1) [d.s] [(b, Blk 71 d.cells)] LP :=
  ⟨[d], rfl, ⟨rfl, .inr ⟨b, 1, [], rfl, Nat.le_refl _, by decide, rfl, by simp [dcells]⟩⟩, fun y hy => by obtain rfl := List.mem_singleton.1 hy; exact h⟩
theorem lead_okN {R : Rp} (h : R.ok) {m : Mg} (hm : m.ok) : (R.lead (some m)).ok := by
  obtain ⟨a1, a2, a3, a4⟩ := R.heard_same m
  obtain ⟨k1, k2, k3, k4, k5, k6, k7⟩ := hm
  refine ⟨by show 1 ≤ (R.heard m).mem; rw [a2]; exact h.m1, by show (R.heard m).mem ≤ 3; rw [a2]; exact h.m3, by show (R.heard m).id < (R.heard m).mem; rw [a1, a2]; exact h.id, by show (R.heard m).term ≤ _; rw [a3]; exact h.term, by show (R.heard m).term ≤ _; rw [a3]; exact h.term, Nat.le_refl 2, ?_, ?_, ?_⟩
  · show (R.heard m).log.length ≤ 1000
    rcases heard_log R m with e | e <;> rw [e]
    · exact h.log
    · exact k6
  · show (if (R.heard m).mem < 2 then (R.heard m).log.length else min (R.heard m).n (R.heard m).log.length) ≤ (R.heard m).log.length
    split <;> omega
  · show ∀ e ∈ (R.heard m).log, e.ok
    rcases heard_log R m with e | e <;> rw [e]
    · exact h.es
    · exact k7
theorem wrote_t {R : Rp} {m : Mg} (ht : (R.follow m.term).takes m.term m.log) (hW : max R.n m.n ≤ ((R.follow m.term).wrote m).log.length) : (R.follow m.term).wrote m = { R.follow m.term with role := 0, log := m.log, lterm := m.term, n := max R.n m.n } := by
  have g5 := (R.follow_same m.term).2.2.2.2
  have ht' : ({ R.follow m.term with role := 0 } : Rp).takes m.term m.log := ht
  unfold Rp.wrote Rp.adopt Rp.clamp at hW ⊢
  rw [if_pos ht'] at hW ⊢
  show ({ R.follow m.term with role := 0, log := m.log, lterm := m.term, n := min (max (R.follow m.term).n m.n) m.log.length } : Rp) = _
  rw [g5, Nat.min_eq_left hW]
theorem wrote_f {R : Rp} {m : Mg} (ht : ¬ (R.follow m.term).takes m.term m.log) (hW : max R.n m.n ≤ ((R.follow m.term).wrote m).log.length) : (R.follow m.term).wrote m = { R.follow m.term with role := 0, n := max R.n m.n } := by
  have g5 := (R.follow_same m.term).2.2.2.2
  have ht' : ¬ ({ R.follow m.term with role := 0 } : Rp).takes m.term m.log := ht
  unfold Rp.wrote Rp.adopt Rp.clamp at hW ⊢
  rw [if_neg ht'] at hW ⊢
  show ({ R.follow m.term with role := 0, n := min (max (R.follow m.term).n m.n) (R.follow m.term).log.length } : Rp) = _
  rw [g5, Nat.min_eq_left hW]
set_option maxHeartbeats 8000000 in
set_option maxRecDepth 8000 in
theorem frecv_ok (p : Nat) (R : Rp) (L0 LP : Hp) (x : Ms) (lv : Value) (w0 : World) (hR : FrAt p R L0 LP) (hx : LgIn lv x.m.log LP) (hm : x.m.ok) (hfm : x.frm < R.mem) (hfi : x.frm ≠ R.id)
    (hV : x.m.kind = 1 → R.role = 1 → x.m.term = R.term → max R.n x.m.n ≤ (R.heard x.m).log.length) (hW : x.m.kind = 2 → R.term ≤ x.m.term → max R.n x.m.n ≤ ((R.follow x.m.term).wrote x.m).log.length)
    (hP : ∀ q ∈ LP, w0.heap[q.1]? = some q.2) (hPd : ∀ q ∈ LP, q.1 ∉ ids L0) (hs : St (ids L0) w0 w0 L0) :
    Ret Try.prog 30 [.pointer (some ⟨p, 0, none⟩), .agg #[.int .i64 (x.m.kind : Int), .int .i64 (x.frm : Int), .int .i64 (x.to : Int), .int .i64 (x.m.term : Int), .int .i64 (x.m.lterm : Int), .int .i64 (x.m.fn : Int), lv]].toArray w0 fun r w' => ∃ L', St (ids L0) w0 w' L' ∧ ∃ Lr LQ, L' = LQ ++ Lr ∧ FrAt p (R.recv x.m x.frm).1 LQ LP ∧ MdAt r (R.recv x.m x.frm).2 Lr LP := by
  have hR0 := hR
  obtain ⟨lv0, vd, vt, av, LV, LA, hL, hlg, hvd, hvt, ⟨ta, tn', tc, hvtf⟩, ⟨aa, an, ac, rfl⟩, hac, hok⟩ := hR
  obtain ⟨la, lc, rfl⟩ := hlg.form w0 hP
  obtain ⟨da, dc, rfl⟩ := hx.form w0 hP
  have hm1 := hok.m1
  have hm3 := hok.m3
  have hln := hok.log
  have hro := hok.role
  have hnn := hok.n
  have hrt := hok.term
  obtain ⟨mk1, mk2, mk3, mk4, mk5, mk6, mk7⟩ := id hm
  have hpF : p ∈ ids L0 := by rw [hL]; simp [ids]
  have hPp : ∀ q ∈ LP, q.1 ≠ p := fun q hq e => hPd q hq (by rw [e]; exact hpF)
  revert hs hPd hpF
  generalize ids L0 = F
  rw [hL]
  intro hPd hs0 hpF
  subst hvtf
  obtain ⟨bv, vs, rfl, rfl, hvl, hvs⟩ := hvd
  have hs1 := hs0
  unfold fcells at hs1
  refine Ret_startL hs1 fun w hs => ?_
  clear hs1
  refine Ret_of Try.func30 rfl Try.ntmps30 rfl ?_
  refine W_seq ?_
  refine W_region ?_
  first | refine s_box rfl rfl hs ?_
  clear hs; intro b3 w hs
  refine s_assign rfl rfl ?_
  refine WL_nil ?_
  refine n_then ?_
  refine W_seq ?_
  refine W_seq ?_
  refine W_region ?_
  refine s_fieldAddr rfl rfl (FA71_0 _ _) ?_
  first
    | refine s_load Try.isAgg3 rfl rfl (hs.cell (k := 0) rfl rfl) ?_
  refine WL_nil ?_
  refine n_then ?_
  refine W_block ?_
  refine W_seq ?_
  refine W_region ?_
  refine s_eql rfl rfl rfl ?_
  refine s_assign rfl rfl ?_
  refine WL_nil ?_
  refine n_then ?_
  refine W_cond rfl (fun hc8 => ?_) (fun hc8 => ?_)
  · skip
    try simp only [decide_eq_true_eq, decide_eq_false_iff_not, gt_iff_lt, ge_iff_le, beq_iff_eq, beq_eq_false_iff_ne, ne_eq, bne_iff_ne, bne_eq_false_iff_eq, Bool.not_eq_true', Bool.not_eq_false', Bool.not_eq_true, Bool.not_eq_false, Decidable.not_not] at hc8
    refine W_seq ?_
    refine W_seq ?_
    refine W_draw [(0, true, []), (1, true, []), (2, true, []), (3, true, []), (4, true, []), (5, true, []), (6, true, [])] [[], [0], [], [2], [2, 3], [2, 3, 4], [0, 1, 2, 3, 4, 5]] MX (by kernel_rfl) ?_
    intro w1 hw1 hw2 hw3 hw4; replace hs := hs.redrawn hw1 hw2 hw3 hw4; clear hw1 hw2 hw3 hw4
    obtain ⟨w, rfl⟩ : ∃ w : World, w = w1 := ⟨_, rfl⟩
    refine D_q rfl rfl ?_
    refine s_fieldAddr rfl rfl (FA71_3 _ _) ?_
    refine D_qn ?_
    refine D_q rfl rfl ?_
    first
      | refine s_load Try.isAgg3 rfl rfl (hs.cell (k := 0) rfl rfl) ?_
    refine D_qn ?_
    refine D_q rfl rfl ?_
    refine s_move rfl rfl ?_
    refine D_qn ?_
    refine D_q rfl rfl ?_
    refine s_nilCheck rfl rfl ?_
    refine D_qn ?_
    refine D_q rfl rfl ?_
    refine s_fieldAddr rfl rfl (FA106_2 _ _) ?_
    refine D_qn ?_
    refine D_q rfl rfl ?_
    first
      | refine s_load Try.isAgg3 rfl rfl (hs.cell (k := 1) rfl rfl) ?_
    refine D_qn ?_
    refine D_q rfl rfl ?_
    refine s_lss rfl rfl rfl ?_
    refine D_qn ?_
    refine D_nil ?_
    refine n_then ?_
    refine W_cond rfl (fun hc16 => ?_) (fun hc16 => ?_)
    · skip
      try simp only [decide_eq_true_eq, decide_eq_false_iff_not, gt_iff_lt, ge_iff_le, beq_iff_eq, beq_eq_false_iff_ne, ne_eq, bne_iff_ne, bne_eq_false_iff_eq, Bool.not_eq_true', Bool.not_eq_false', Bool.not_eq_true, Bool.not_eq_false, Decidable.not_not] at hc16
      refine W_seq ?_
      refine W_region ?_
      refine s_assign rfl rfl ?_
      refine WL_nil ?_
      refine n_then ?_
      refine W_ret ?_
      refine r_then ?_
      refine r_blk ?_
      refine r_then ?_
      first
        | (have hv : R.recv x.m x.frm = (R, []) := by rw [Rp.recv, if_pos (by omega), Rp.ask, if_pos (by omega)]
           exact end1 rfl rfl ⟨L0 ++ [], by rw [hL, List.append_nil]; exact hs.tail, [], L0, rfl, by rw [hv]; exact hR0, by rw [hv]; exact MdAt.nil LP⟩)
    · skip
      try simp only [decide_eq_true_eq, decide_eq_false_iff_not, gt_iff_lt, ge_iff_le, beq_iff_eq, beq_eq_false_iff_ne, ne_eq, bne_iff_ne, bne_eq_false_iff_eq, Bool.not_eq_true', Bool.not_eq_false', Bool.not_eq_true, Bool.not_eq_false, Decidable.not_not] at hc16
      refine W_skip ?_
      refine n_then ?_
      refine W_seq ?_
      refine W_region ?_
      refine s_move rfl rfl ?_
      refine s_fieldAddr rfl rfl (FA71_3 _ _) ?_
      first
        | refine s_load Try.isAgg3 rfl rfl (hs.cell (k := 0) rfl rfl) ?_
      refine s_callL (M := [_]) (L1 := [(p, Blk 106 (fcells R (.slice la R.log.length lc) (.slice (some ⟨bv, 0, none⟩) R.mem R.mem) (.slice ta tn' tc) (.slice aa an ac)))]) (X := [(bv, Blk 4 vs)] ++ LA) Try.call52 rfl rfl hs (fun h => raise_ok p R _ _ _ _ x.m.term _ w rfl ⟨hm1, hm3⟩ h) ?_
      clear hs; rintro u w L9 h9 - hs
      obtain ⟨bv2, vs2, ta2, tn2, tc2, hs2, hvl2, hq2⟩ := raise_at h9 hs hvl hvs hvt
      clear hs h9
      have hs := hs2
      clear hs2
      simp only [List.cons_append, List.nil_append] at hs
      obtain ⟨g1, g2, g3, g4, g5⟩ := R.follow_same x.m.term
      have hfr := follow_role R x.m.term
      have hfok : (R.follow x.m.term).ok := hok.follow mk2
      have hrv : R.recv x.m x.frm = (R.follow x.m.term, [⟨R.id, x.frm, (R.follow x.m.term).voteM⟩]) := by rw [Rp.recv, if_pos (by omega), Rp.ask, if_neg (by omega)]
      have hFR : FrAt p (R.follow x.m.term) ((p, Blk 106 (fcells (R.follow x.m.term) (.slice la R.log.length lc) (.slice (some ⟨bv2, 0, none⟩) R.mem R.mem) (.slice ta2 tn2 tc2) (.slice aa an ac))) :: ([(bv2, Blk 4 vs2)] ++ LA)) LP := by
        refine ⟨_, _, _, _, _, _, rfl, by rw [g4]; exact hlg, ⟨bv2, vs2, by rw [g2], rfl, by rw [g2]; exact hvl2, fun h => by
          rw [g2]
          refine (hq2 ?_).1
          by_cases h5 : R.term < x.m.term
          · exact .inl h5
          · rw [if_neg h5] at hfr; exact .inr (by omega)⟩, fun h => by
          refine (hq2 ?_).2
          by_cases h5 : R.term < x.m.term
          · exact .inl h5
          · rw [if_neg h5] at hfr; exact .inr (by omega), ⟨_, _, _, rfl⟩, ⟨_, _, _, rfl⟩, fun h => ?_, hfok⟩
        have h5 : ¬ R.term < x.m.term := fun h5 => by rw [if_pos h5] at hfr; omega
        rw [if_neg h5] at hfr
        rw [follow_acks, g2]
        exact hac (by omega)
      have hvm : LgIn (.slice la R.log.length lc) (R.follow x.m.term).voteM.log LP := by show LgIn _ (R.follow x.m.term).log LP; rw [g4]; exact hlg
      unfold fcells at hs
      refine WL_nil ?_
      refine n_then ?_
      refine W_seq ?_
      refine W_draw [(0, true, []), (1, true, []), (2, true, []), (3, true, []), (4, true, []), (5, true, []), (6, true, []), (7, true, []), (8, true, []), (9, true, []), (10, true, []), (11, true, []), (12, true, []), (13, true, []), (14, true, []), (15, true, []), (16, true, []), (17, true, []), (18, true, []), (19, true, []), (20, true, []), (21, true, []), (22, true, []), (23, false, []), (24, true, [])] [[], [0], [0, 1], [0, 1, 2], [], [4], [], [6], [6, 7], [6, 7, 8], [], [10], [10, 11], [10, 11, 12], [], [14], [14, 15], [14, 15, 16], [], [18], [18, 19], [18, 19, 20], [0, 1, 2, 3, 4, 5, 6, 7, 8, 9, 10, 11, 12, 13, 14, 15, 16, 17, 18, 19, 20, 21], [0, 1, 2, 3, 4, 5, 6, 7, 8, 9, 10, 11, 12, 13, 14, 15, 16, 17, 18, 19, 20, 21, 22], [0, 1, 2, 3, 4, 5, 6, 7, 8, 9, 10, 11, 12, 13, 14, 15, 16, 17, 18, 19, 20, 21, 22, 23]] MX (by kernel_rfl) ?_
      intro w1 hw1 hw2 hw3 hw4; replace hs := hs.redrawn hw1 hw2 hw3 hw4; clear hw1 hw2 hw3 hw4
      obtain ⟨w, rfl⟩ : ∃ w : World, w = w1 := ⟨_, rfl⟩
      refine D_q rfl rfl ?_
      refine s_move rfl rfl ?_
      refine D_qn ?_
      refine D_q rfl rfl ?_
      refine s_nilCheck rfl rfl ?_
      refine D_qn ?_
      refine D_q rfl rfl ?_
      refine s_fieldAddr rfl rfl (FA106_0 _ _) ?_
      refine D_qn ?_
      refine D_q rfl rfl ?_
      first
        | refine s_load Try.isAgg3 rfl rfl (hs.cell (k := 1) rfl rfl) ?_
      refine D_qn ?_
      refine D_q rfl rfl ?_
      refine s_fieldAddr rfl rfl (FA71_1 _ _) ?_
      refine D_qn ?_
      refine D_q rfl rfl ?_
      first
        | refine s_load Try.isAgg3 rfl rfl (hs.cell (k := 0) rfl rfl) ?_
      refine D_qn ?_
      refine D_q rfl rfl ?_
      refine s_move rfl rfl ?_
      refine D_qn ?_
      refine D_q rfl rfl ?_
      refine s_nilCheck rfl rfl ?_
      refine D_qn ?_
      refine D_q rfl rfl ?_
      refine s_fieldAddr rfl rfl (FA106_2 _ _) ?_
      refine D_qn ?_
      refine D_q rfl rfl ?_
      first
        | refine s_load Try.isAgg3 rfl rfl (hs.cell (k := 1) rfl rfl) ?_
      refine D_qn ?_
      refine D_q rfl rfl ?_
      refine s_move rfl rfl ?_
      refine D_qn ?_
      refine D_q rfl rfl ?_
      refine s_nilCheck rfl rfl ?_
      refine D_qn ?_
      refine D_q rfl rfl ?_
      refine s_fieldAddr rfl rfl (FA106_3 _ _) ?_
      refine D_qn ?_
      refine D_q rfl rfl ?_
      first
        | refine s_load Try.isAgg3 rfl rfl (hs.cell (k := 1) rfl rfl) ?_
      refine D_qn ?_
      refine D_q rfl rfl ?_
      refine s_move rfl rfl ?_
      refine D_qn ?_
      refine D_q rfl rfl ?_
      refine s_nilCheck rfl rfl ?_
      refine D_qn ?_
      refine D_q rfl rfl ?_
      refine s_fieldAddr rfl rfl (FA106_5 _ _) ?_
      refine D_qn ?_
      refine D_q rfl rfl ?_
      first
        | refine s_load Try.isAgg3 rfl rfl (hs.cell (k := 1) rfl rfl) ?_
      refine D_qn ?_
      refine D_q rfl rfl ?_
      refine s_move rfl rfl ?_
      refine D_qn ?_
      refine D_q rfl rfl ?_
      refine s_nilCheck rfl rfl ?_
      refine D_qn ?_
      refine D_q rfl rfl ?_
      refine s_fieldAddr rfl rfl (FA106_4 _ _) ?_
      refine D_qn ?_
      refine D_q rfl rfl ?_
      first
        | refine s_load Try.isAgg69 rfl rfl (hs.cell (k := 1) rfl rfl) ?_
      refine D_qn ?_
      refine D_q rfl rfl ?_
      refine s_build rfl rfl (BD71_0_1_2_3_4_5_6 _ _ _ _ _ _ _ _ _) ?_
      refine D_qn ?_
      refine D_e rfl ?_
      refine s_buildSlice rfl rfl (BS65_1 _ _ _ _ _ _ _) hs ?_; clear hs; intro b44 w hs
      refine D_en ?re ?_
      case re =>
        exact Reks_nil
      refine D_q rfl rfl ?_
      refine s_assign rfl rfl ?_
      refine D_qn ?_
      refine D_nil ?_
      refine n_then ?_
      refine W_ret ?_
      refine r_blk ?_
      refine r_then ?_
      first
        | (have hk0 : x.m.kind = 0 := by omega
           have hmd := md_one (b := b44) (d := ⟨⟨R.id, x.frm, (R.follow x.m.term).voteM⟩, .slice la R.log.length lc⟩) (LP := LP) hvm
           refine end1 rfl rfl ⟨_, ?_, _, _, rfl, by rw [hrv]; exact hFR, by rw [hrv]; exact hmd⟩
           have h9 := St.reord [[_], [_], [_], [_], LA] [2, 3, 4, 0] [1] (by simpa [cat] using hs) rfl
           rw [g1] at h9
           simpa [cat, fcells, Dm.cells, Rp.voteM, Mg.fn, g1] using h9)
  · skip
    try simp only [decide_eq_true_eq, decide_eq_false_iff_not, gt_iff_lt, ge_iff_le, beq_iff_eq, beq_eq_false_iff_ne, ne_eq, bne_iff_ne, bne_eq_false_iff_eq, Bool.not_eq_true', Bool.not_eq_false', Bool.not_eq_true, Bool.not_eq_false, Decidable.not_not] at hc8
    refine W_seq ?_
    refine W_region ?_
    refine s_eql rfl rfl rfl ?_
    refine s_assign rfl rfl ?_
    refine WL_nil ?_
    refine n_then ?_
    refine W_cond rfl (fun hc45 => ?_) (fun hc45 => ?_)
    · skip
      try simp only [decide_eq_true_eq, decide_eq_false_iff_not, gt_iff_lt, ge_iff_le, beq_iff_eq, beq_eq_false_iff_ne, ne_eq, bne_iff_ne, bne_eq_false_iff_eq, Bool.not_eq_true', Bool.not_eq_false', Bool.not_eq_true, Bool.not_eq_false, Decidable.not_not] at hc45
      refine W_seq ?_
      refine W_seq ?_
      refine W_draw [(0, true, []), (1, true, []), (2, true, []), (3, true, []), (4, true, []), (5, true, []), (6, true, []), (7, true, []), (8, true, []), (9, true, []), (10, true, []), (11, true, []), (12, true, []), (13, true, []), (14, true, []), (15, true, []), (16, true, []), (17, true, []), (18, true, []), (19, true, []), (20, true, []), (21, true, []), (22, true, []), (23, true, [])] [[], [0], [0, 1], [0, 1, 2], [0, 1, 2, 3], [0, 1, 2, 3, 4], [0, 1, 2, 3, 4, 5], [0, 1, 2, 3, 4, 5, 6], [0, 1, 2, 3, 4, 5], [0, 1, 2, 3, 4, 5, 8], [0, 1, 2, 3, 4, 5, 8, 9], [0, 1, 2, 3, 4, 5, 8, 9, 10], [0, 1, 2, 3, 4, 5, 6, 7, 8, 9, 10, 11], [0, 1, 2, 3, 4, 5, 6, 7, 8, 9, 10, 11, 12], [0, 1, 2, 3, 4, 5, 6, 7, 8, 9, 10, 11, 12, 13], [0, 1, 2, 3, 4, 5, 6, 7, 8, 9, 10, 11, 12, 13, 14], [0, 1, 2, 3, 4, 5, 6, 7, 8, 9, 10, 11, 12, 13, 14, 15], [0, 1, 2, 3, 4, 5, 6, 7, 8, 9, 10, 11, 12, 13, 14, 15, 16], [0, 1, 2, 3, 4, 5, 6, 7, 8, 9, 10, 11, 12, 13, 14, 15, 16, 17], [0, 1, 2, 3, 4, 5, 6, 7, 8, 9, 10, 11, 12, 13, 14], [0, 1, 2, 3, 4, 5, 6, 7, 8, 9, 10, 11, 12, 13, 14, 19], [0, 1, 2, 3, 4, 5, 6, 7, 8, 9, 10, 11, 12, 13, 14, 15, 16, 17, 18, 19, 20], [0, 1, 2, 3, 4, 5, 6, 7, 8, 9, 10, 11, 12, 13, 14, 15, 16, 17, 18, 19, 20, 21], [0, 1, 2, 3, 4, 5, 6, 7, 8, 9, 10, 11, 12, 13, 14, 15, 16, 17, 18, 19, 20, 21, 22]] MX (by kernel_rfl) ?_
      intro w1 hw1 hw2 hw3 hw4; replace hs := hs.redrawn hw1 hw2 hw3 hw4; clear hw1 hw2 hw3 hw4
      obtain ⟨w, rfl⟩ : ∃ w : World, w = w1 := ⟨_, rfl⟩
      refine D_q rfl rfl ?_
      refine s_move rfl rfl ?_
      refine D_qn ?_
      refine D_q rfl rfl ?_
      refine s_nilCheck rfl rfl ?_
      refine D_qn ?_
      refine D_q rfl rfl ?_
      refine s_fieldAddr rfl rfl (FA106_6 _ _) ?_
      refine D_qn ?_
      refine D_q rfl rfl ?_
      first
        | refine s_load Try.isAgg3 rfl rfl (hs.cell (k := 1) rfl rfl) ?_
      refine D_qn ?_
      refine D_q rfl rfl ?_
      refine s_neq rfl rfl rfl ?_
      refine D_qn ?_
      refine D_q rfl rfl ?_
      refine s_move rfl rfl ?_
      refine WL_case (s := 52) rfl (fun hg52 => ?_) (fun hg52 => ?_)
      · skip
        try simp only [decide_eq_true_eq, decide_eq_false_iff_not, gt_iff_lt, ge_iff_le, beq_iff_eq, beq_eq_false_iff_ne, ne_eq, bne_iff_ne, bne_eq_false_iff_eq, Bool.not_eq_true', Bool.not_eq_false', Bool.not_eq_true, Bool.not_eq_false, Decidable.not_not] at hg52
        refine D_qn ?_
        refine D_q rfl rfl ?_
        refine WL_skip rfl rfl rfl ?_
        refine D_qn ?_
        refine D_q rfl rfl ?_
        refine WL_skip rfl rfl rfl ?_
        refine D_qn ?_
        refine D_q rfl rfl ?_
        refine WL_skip rfl rfl rfl ?_
        refine D_qn ?_
        refine D_q rfl rfl ?_
        refine WL_skip rfl rfl rfl ?_
        refine D_qn ?_
        refine D_q rfl rfl ?_
        refine WL_skip rfl rfl rfl ?_
        refine D_qn ?_
        refine D_q rfl rfl ?_
        refine WL_skip rfl rfl rfl ?_
        refine D_qn ?_
        refine D_q rfl rfl ?_
        refine WL_skip rfl rfl rfl ?_
        refine D_qn ?_
        refine D_q rfl rfl ?_
        refine s_pick_t rfl rfl rfl ?_
        refine D_qn ?_
        refine D_q rfl rfl ?_
        refine s_move rfl rfl ?_
        refine D_qn ?_
        refine D_q rfl rfl ?_
        refine WL_skip rfl rfl rfl ?_
        refine D_qn ?_
        refine D_q rfl rfl ?_
        refine WL_skip rfl rfl rfl ?_
        refine D_qn ?_
        refine D_q rfl rfl ?_
        refine WL_skip rfl rfl rfl ?_
        refine D_qn ?_
        refine D_q rfl rfl ?_
        refine WL_skip rfl rfl rfl ?_
        refine D_qn ?_
        refine D_q rfl rfl ?_
        refine WL_skip rfl rfl rfl ?_
        refine D_qn ?_
        refine D_q rfl rfl ?_
        refine WL_skip rfl rfl rfl ?_
        refine D_qn ?_
        refine D_q rfl rfl ?_
        refine WL_skip rfl rfl rfl ?_
        refine D_qn ?_
        refine D_q rfl rfl ?_
        refine WL_skip rfl rfl rfl ?_
        refine D_qn ?_
        refine D_q rfl rfl ?_
        refine s_pick_t rfl rfl rfl ?_
        refine D_qn ?_
        refine D_nil ?_
        refine n_then ?_
        refine W_cond_t rfl ?_
        refine W_seq ?_
        refine W_region ?_
        refine s_assign rfl rfl ?_
        refine WL_nil ?_
        refine n_then ?_
        refine W_ret ?_
        refine r_then ?_
        refine r_blk ?_
        refine r_then ?_
        first
          | (have hv : R.recv x.m x.frm = (R, []) := by rw [Rp.recv, if_neg (by omega), if_pos (by omega), Rp.vote, if_pos (by omega)]
             exact end1 rfl rfl ⟨L0 ++ [], by rw [hL, List.append_nil]; exact hs.tail, [], L0, rfl, by rw [hv]; exact hR0, by rw [hv]; exact MdAt.nil LP⟩)
      · skip
        try simp only [decide_eq_true_eq, decide_eq_false_iff_not, gt_iff_lt, ge_iff_le, beq_iff_eq, beq_eq_false_iff_ne, ne_eq, bne_iff_ne, bne_eq_false_iff_eq, Bool.not_eq_true', Bool.not_eq_false', Bool.not_eq_true, Bool.not_eq_false, Decidable.not_not] at hg52
        refine D_qn ?_
        refine D_q rfl rfl ?_
        refine WL_take rfl ?_
        refine s_fieldAddr rfl rfl (FA71_3 _ _) ?_
        refine D_qn ?_
        refine D_q rfl rfl ?_
        refine WL_take rfl ?_
        first
          | refine s_load Try.isAgg3 rfl rfl (hs.cell (k := 0) rfl rfl) ?_
        refine D_qn ?_
        refine D_q rfl rfl ?_
        refine WL_take rfl ?_
        refine s_move rfl rfl ?_
        refine D_qn ?_
        refine D_q rfl rfl ?_
        refine WL_take rfl ?_
        refine s_nilCheck rfl rfl ?_
        refine D_qn ?_
        refine D_q rfl rfl ?_
        refine WL_take rfl ?_
        refine s_fieldAddr rfl rfl (FA106_2 _ _) ?_
        refine D_qn ?_
        refine D_q rfl rfl ?_
        refine WL_take rfl ?_
        first
          | refine s_load Try.isAgg3 rfl rfl (hs.cell (k := 1) rfl rfl) ?_
        refine D_qn ?_
        refine D_q rfl rfl ?_
        refine WL_take rfl ?_
        refine s_neq rfl rfl rfl ?_
        refine D_qn ?_
        refine D_q rfl rfl ?_
        refine s_pick_f rfl rfl rfl ?_
        refine D_qn ?_
        refine D_q rfl rfl ?_
        refine s_move rfl rfl ?_
        refine WL_case (s := 61) rfl (fun hg61 => ?_) (fun hg61 => ?_)
        · skip
          try simp only [decide_eq_true_eq, decide_eq_false_iff_not, gt_iff_lt, ge_iff_le, beq_iff_eq, beq_eq_false_iff_ne, ne_eq, bne_iff_ne, bne_eq_false_iff_eq, Bool.not_eq_true', Bool.not_eq_false', Bool.not_eq_true, Bool.not_eq_false, Decidable.not_not] at hg61
          refine D_qn ?_
          refine D_q rfl rfl ?_
          refine WL_skip rfl rfl rfl ?_
          refine D_qn ?_
          refine D_q rfl rfl ?_
          refine WL_skip rfl rfl rfl ?_
          refine D_qn ?_
          refine D_q rfl rfl ?_
          refine WL_skip rfl rfl rfl ?_
          refine D_qn ?_
          refine D_q rfl rfl ?_
          refine WL_skip rfl rfl rfl ?_
          refine D_qn ?_
          refine D_q rfl rfl ?_
          refine WL_skip rfl rfl rfl ?_
          refine D_qn ?_
          refine D_q rfl rfl ?_
          refine WL_skip rfl rfl rfl ?_
          refine D_qn ?_
          refine D_q rfl rfl ?_
          refine WL_skip rfl rfl rfl ?_
          refine D_qn ?_
          refine D_q rfl rfl ?_
          refine WL_skip rfl rfl rfl ?_
          refine D_qn ?_
          refine D_q rfl rfl ?_
          refine s_pick_t rfl rfl rfl ?_
          refine D_qn ?_
          refine D_nil ?_
          refine n_then ?_
          refine W_cond_t rfl ?_
          refine W_seq ?_
          refine W_region ?_
          refine s_assign rfl rfl ?_
          refine WL_nil ?_
          refine n_then ?_
          refine W_ret ?_
          refine r_then ?_
          refine r_blk ?_
          refine r_then ?_
          first
            | (have hv : R.recv x.m x.frm = (R, []) := by rw [Rp.recv, if_neg (by omega), if_pos (by omega), Rp.vote, if_pos (by omega)]
               exact end1 rfl rfl ⟨L0 ++ [], by rw [hL, List.append_nil]; exact hs.tail, [], L0, rfl, by rw [hv]; exact hR0, by rw [hv]; exact MdAt.nil LP⟩)
        · skip
          try simp only [decide_eq_true_eq, decide_eq_false_iff_not, gt_iff_lt, ge_iff_le, beq_iff_eq, beq_eq_false_iff_ne, ne_eq, bne_iff_ne, bne_eq_false_iff_eq, Bool.not_eq_true', Bool.not_eq_false', Bool.not_eq_true, Bool.not_eq_false, Decidable.not_not] at hg61
          refine D_qn ?_
          refine D_q rfl rfl ?_
          refine WL_take rfl ?_
          refine s_move rfl rfl ?_
          refine D_qn ?_
          refine D_q rfl rfl ?_
          refine WL_take rfl ?_
          refine s_nilCheck rfl rfl ?_
          refine D_qn ?_
          refine D_q rfl rfl ?_
          refine WL_take rfl ?_
          refine s_fieldAddr rfl rfl (FA106_7 _ _) ?_
          refine D_qn ?_
          refine D_q rfl rfl ?_
          refine WL_take rfl ?_
          first
            | refine s_load Try.isAgg104 rfl rfl (hs.cell (k := 1) rfl rfl) ?_
          refine D_qn ?_
          refine D_q rfl rfl ?_
          refine WL_take rfl ?_
          refine s_fieldAddr rfl rfl (FA71_1 _ _) ?_
          refine D_qn ?_
          refine D_q rfl rfl ?_
          refine WL_take rfl ?_
          first
            | refine s_load Try.isAgg3 rfl rfl (hs.cell (k := 0) rfl rfl) ?_
          refine D_qn ?_
          refine D_q rfl rfl ?_
          refine WL_take rfl ?_
          (refine s_indexAddr1 El104 rfl rfl rfl ?hx ?_; case hx => (constructor <;> first | omega | (simp; omega)))
          refine D_qn ?_
          refine D_q rfl rfl ?_
          refine WL_take rfl ?_
          have hr1 : R.role = 1 := by omega
          have hvs1 := hvs hr1
          refine s_load Try.isAgg4 rfl rfl (hs.cell (k := 2) rfl (show vs[0 + (x.frm : Int).toNat]? = some (.bool false) by rw [hvs1]; simp [hfm])) ?_
          refine D_qn ?_
          refine D_q rfl rfl ?_
          refine s_pick_f rfl rfl rfl ?_
          refine D_qn ?_
          refine D_nil ?_
          refine n_then ?_
          refine W_cond_kf rfl (rfl) ?_
          refine W_skip ?_
          refine n_then ?_
          refine W_seq ?_
          refine W_draw [(0, true, []), (1, true, []), (2, true, []), (3, true, []), (4, true, []), (5, true, []), (6, true, []), (7, false, [])] [[], [0], [0, 1], [0, 1, 2], [], [4], [0, 1, 2, 3, 4, 5], [0, 1, 2, 3, 4, 5, 6]] MX (by kernel_rfl) ?_
          intro w1 hw1 hw2 hw3 hw4; replace hs := hs.redrawn hw1 hw2 hw3 hw4; clear hw1 hw2 hw3 hw4
          obtain ⟨w, rfl⟩ : ∃ w : World, w = w1 := ⟨_, rfl⟩
          refine D_q rfl rfl ?_
          refine s_move rfl rfl ?_
          refine D_qn ?_
          refine D_q rfl rfl ?_
          refine s_nilCheck rfl rfl ?_
          refine D_qn ?_
          refine D_q rfl rfl ?_
          refine s_fieldAddr rfl rfl (FA106_7 _ _) ?_
          refine D_qn ?_
          refine D_q rfl rfl ?_
          first
            | refine s_load Try.isAgg104 rfl rfl (hs.cell (k := 1) rfl rfl) ?_
          refine D_qn ?_
          refine D_q rfl rfl ?_
          refine s_fieldAddr rfl rfl (FA71_1 _ _) ?_
          refine D_qn ?_
          refine D_q rfl rfl ?_
          first
            | refine s_load Try.isAgg3 rfl rfl (hs.cell (k := 0) rfl rfl) ?_
          refine D_qn ?_
          refine D_q rfl rfl ?_
          (refine s_indexAddr1 El104 rfl rfl rfl ?hx ?_; case hx => (constructor <;> first | omega | (simp; omega)))
          refine D_qn ?_
          refine D_e rfl ?_
          refine s_store Try.sizeOf4 rfl rfl rfl hs (kk := 2) rfl (by simp; omega) ?_
          clear hs; intro w hs
          simp only [List.set_cons_zero, List.set_cons_succ, List.cons_append, List.nil_append] at hs
          obtain ⟨vs3, hvs3⟩ : ∃ vs3, vs3 = vs.set (0 + (x.frm : Int).toNat) (.bool true) := ⟨_, rfl⟩
          have hvl3 : vs3.length = R.mem := by rw [hvs3, List.length_set]; exact hvl
          rw [← hvs3] at hs
          have hr1 : R.role = 1 := by omega
          have hvt1 := hvt hr1
          cases hvt1
          refine D_en ?re ?_
          case re =>
            exact Reks_nil
          refine D_nil ?_
          refine n_then ?_
          refine W_seq ?_
          refine W_draw [(0, true, []), (1, true, []), (2, true, []), (3, true, []), (4, true, []), (5, true, []), (6, false, [0, 1, 2, 3, 4]), (7, false, [0]), (8, true, []), (9, true, []), (10, false, [])] [[], [], [1], [1, 2], [1, 2, 3], [], [5], [1, 2, 3, 4, 5, 6], [0, 1, 2, 3, 4, 5, 6, 7], [0, 1, 2, 3, 4, 5, 6, 7, 8], [0, 1, 2, 3, 4, 5, 6, 7, 8, 9]] MX (by kernel_rfl) ?_
          intro w1 hw1 hw2 hw3 hw4; replace hs := hs.redrawn hw1 hw2 hw3 hw4; clear hw1 hw2 hw3 hw4
          obtain ⟨w, rfl⟩ : ∃ w : World, w = w1 := ⟨_, rfl⟩
          refine D_q rfl rfl ?_
          refine s_move rfl rfl ?_
          refine D_qn ?_
          refine D_q rfl rfl ?_
          refine s_move rfl rfl ?_
          refine D_qn ?_
          refine D_q rfl rfl ?_
          refine s_nilCheck rfl rfl ?_
          refine D_qn ?_
          refine D_q rfl rfl ?_
          refine s_fieldAddr rfl rfl (FA106_8 _ _) ?_
          refine D_qn ?_
          refine D_q rfl rfl ?_
          first
            | refine s_load Try.isAgg65 rfl rfl (hs.cell (k := 1) rfl rfl) ?_
          refine D_qn ?_
          refine D_q rfl rfl ?_
          first
            | refine s_loadW Try.isAgg71 Try.sizeOf71 rfl rfl hs (kk := 0) rfl rfl ?_
          refine D_qn ?_
          refine D_e rfl ?_
          refine s_buildSlice rfl rfl (BS65_1 _ _ _ _ _ _ _) hs ?_; clear hs; intro b84 w hs
          refine D_en ?re ?_
          case re =>
            refine Reks_cons rfl rfl rfl rfl ?_ ?_
            · skip
              refine s_move rfl rfl ?_
              exact Rek_end rfl
            refine Reks_cons rfl rfl rfl rfl ?_ ?_
            · skip
              refine s_move rfl rfl ?_
              exact Rek_end rfl
            refine Reks_cons rfl rfl rfl rfl ?_ ?_
            · skip
              refine s_nilCheck rfl rfl ?_
              exact Rek_end rfl
            refine Reks_cons rfl rfl rfl rfl ?_ ?_
            · skip
              refine s_fieldAddr rfl rfl (FA106_8 _ _) ?_
              exact Rek_end rfl
            refine Reks_cons rfl rfl rfl rfl ?_ ?_
            · skip
              first
                | refine s_load Try.isAgg65 rfl rfl (hs.cell (k := 2) rfl rfl) ?_
              exact Rek_end rfl
            exact Reks_nil
          refine D_e rfl ?_
          refine s_appendM (M := [_, _, _, _]) (X := LA) El65 rfl rfl rfl (OwnS.nil _ _) (by simpa using hs) (hs.sl (k := 0) (ds := Dm.cells ⟨x, .slice da x.m.log.length dc⟩) rfl (Nat.le_refl _) (by intro j u hj; rw [Nat.zero_add]; exact hj)) rfl (by simp [Dm.cells, Value.oneCell']) (by omega) ?_
          clear hs; intro v1 w LBv hO1 hs
          obtain ⟨_, yc, ya, rfl, hyl⟩ := hO1.form
          subst hyl
          simp only [List.cons_append, List.nil_append] at hs
          have hO1' : OwnS 71 7 (.slice ya 1 yc) 1 (dcells [⟨x, .slice da x.m.log.length dc⟩]) LBv := by simpa [dcells] using hO1
          refine D_en ?re ?_
          case re =>
            refine Reks_cons rfl rfl rfl rfl ?_ ?_
            · skip
              refine s_move rfl rfl ?_
              exact Rek_end rfl
            exact Reks_nil
          refine D_q rfl rfl ?_
          refine s_nilCheck rfl rfl ?_
          refine D_qn ?_
          refine D_q rfl rfl ?_
          refine s_fieldAddr rfl rfl (FA106_8 _ _) ?_
          refine D_qn ?_
          refine D_e rfl ?_
          first
            | refine s_storeB Try.sizeOf65 rfl rfl rfl hs (kk := 2) rfl rfl ?_
          clear hs; intro w hs; try simp only [List.set_cons_zero, List.set_cons_succ, splice, List.take_succ_cons, List.take_zero, List.drop_succ_cons, List.drop_zero, List.nil_append, List.cons_append, List.length_cons, List.length_nil, Nat.reduceAdd, List.append_assoc] at hs
          refine D_en ?re ?_
          case re =>
            exact Reks_nil
          refine D_nil ?_
          refine n_then ?_
          refine W_seq ?_
          refine W_region ?_
          refine s_move rfl rfl ?_
          replace hs : St F w0 w ([] ++ ([(p, Blk 106 (fcells R (.slice la R.log.length lc) (.slice (some ⟨bv, 0, none⟩) R.mem R.mem) (.slice ya 1 yc) (.slice aa an ac)))] ++ (LBv ++ ([(bv, Blk 4 vs3)] ++ LA)))) := by
            simpa [cat, fcells] using St.reord [[_], [_], [_], [_], LBv, LA] [2, 4, 3, 5] [0, 1] (by simpa [cat, fcells] using hs) rfl
          have hap : ∀ a, ya = some a → a.block ≠ p := fun a ha e => by
            subst ha
            have h7 : a.block ∈ ids LBv := OwnS_in hO1' (by simp [dcells, Dm.cells])
            have h8 := St.apartX (b := a.block) hs (by rw [ids_append]; exact List.mem_append_left _ h7)
            exact h8 (by rw [e]; simp [ids])
          refine s_callL (M := []) (L1 := [(p, _)]) (X := LBv ++ ([(bv, Blk 4 vs3)] ++ LA)) Try.call54 rfl rfl hs (fun h => leads_ok p R la lc _ ya yc _ (some ⟨x, .slice da x.m.log.length dc⟩) _ LP w rfl hlg (fun d hd => by cases hd; exact hx) (OwnS_slIn hO1' fun q hq => hs.own q (by simp [hq])) hap (by show R.mem < 2 * (1 + 1); omega) ⟨hm1, hm3, hln⟩ (fun d hd => by cases hd; exact ⟨mk6, by show x.m.fn = x.m.n; unfold Mg.fn; rw [if_neg (by omega)]⟩) (fun H hH => by rw [hH]; show max R.n x.m.n ≤ (Rp.heard { R with role := 2 } x.m).log.length; rw [heard_role2]; exact hV (by omega) hr1 (by omega)) (fun q hq => hs.oldH hP hPd q hq) hPp h) ?_
          clear hs; rintro u w L9 ⟨la', lc', ba, Lr, rfl, hlg', hMd⟩ - hs
          have hcr : R.lead (Option.map (fun d : Dm => d.s.m) (some ⟨x, .slice da x.m.log.length dc⟩)) = R.lead (some x.m) := rfl
          rw [hcr] at hs hlg' hMd
          have hrv : R.recv x.m x.frm = (R.lead (some x.m), (R.lead (some x.m)).others (R.lead (some x.m)).spreadM) := by rw [Rp.recv, if_neg (by omega), if_pos (by omega), Rp.vote, if_neg (by omega)]
          have hmem : (R.lead (some x.m)).mem = R.mem := (R.heard_same x.m).2.1
          have hFR : FrAt p (R.lead (some x.m)) ((p, Blk 106 (fcells (R.lead (some x.m)) (.slice la' (R.lead (some x.m)).log.length lc') (.slice (some ⟨bv, 0, none⟩) R.mem R.mem) (.slice ya 1 yc) (.slice (some ⟨ba, 0, none⟩) R.mem R.mem))) :: ([(bv, Blk 4 vs3)] ++ [(ba, Blk 3 (i64s (ackL (R.lead (some x.m)))))])) LP :=
            ⟨_, _, _, _, _, _, rfl, hlg', ⟨bv, vs3, by rw [hmem], rfl, by rw [hmem]; exact hvl3, fun h => by cases h⟩, (fun h => by cases h), ⟨_, _, _, rfl⟩, ⟨_, _, _, rfl⟩, fun _ => ⟨ba, by rw [hmem], rfl⟩, lead_okN hok hm⟩
          replace hs : St F w0 w (((p, Blk 106 (fcells (R.lead (some x.m)) (.slice la' (R.lead (some x.m)).log.length lc') (.slice (some ⟨bv, 0, none⟩) R.mem R.mem) (.slice ya 1 yc) (.slice (some ⟨ba, 0, none⟩) R.mem R.mem))) :: ([(bv, Blk 4 vs3)] ++ [(ba, Blk 3 (i64s (ackL (R.lead (some x.m)))))])) ++ Lr) := by
            simpa [cat] using St.reord [[_], [_], Lr, LBv, [_], LA] [0, 4, 1, 2] [3, 5] (by simpa [cat] using hs) rfl
          refine s_assign rfl rfl ?_
          refine WL_nil ?_
          refine n_then ?_
          refine W_ret ?_
          refine r_blk ?_
          refine r_then ?_
          first
            | exact end1 rfl rfl ⟨_, hs, _, _, rfl, by rw [hrv]; exact hFR, by rw [hrv]; exact hMd⟩
    · skip
      try simp only [decide_eq_true_eq, decide_eq_false_iff_not, gt_iff_lt, ge_iff_le, beq_iff_eq, beq_eq_false_iff_ne, ne_eq, bne_iff_ne, bne_eq_false_iff_eq, Bool.not_eq_true', Bool.not_eq_false', Bool.not_eq_true, Bool.not_eq_false, Decidable.not_not] at hc45
      refine W_seq ?_
      refine W_region ?_
      refine s_eql rfl rfl rfl ?_
      refine s_assign rfl rfl ?_
      refine WL_nil ?_
      refine n_then ?_
      refine W_cond rfl (fun hc90 => ?_) (fun hc90 => ?_)
      · skip
        try simp only [decide_eq_true_eq, decide_eq_false_iff_not, gt_iff_lt, ge_iff_le, beq_iff_eq, beq_eq_false_iff_ne, ne_eq, bne_iff_ne, bne_eq_false_iff_eq, Bool.not_eq_true', Bool.not_eq_false', Bool.not_eq_true, Bool.not_eq_false, Decidable.not_not] at hc90
        refine W_seq ?_
        refine W_seq ?_
        refine W_draw [(0, true, []), (1, true, []), (2, true, []), (3, true, []), (4, true, []), (5, true, []), (6, true, [])] [[], [0], [], [2], [2, 3], [2, 3, 4], [0, 1, 2, 3, 4, 5]] MX (by kernel_rfl) ?_
        intro w1 hw1 hw2 hw3 hw4; replace hs := hs.redrawn hw1 hw2 hw3 hw4; clear hw1 hw2 hw3 hw4
        obtain ⟨w, rfl⟩ : ∃ w : World, w = w1 := ⟨_, rfl⟩
        refine D_q rfl rfl ?_
        refine s_fieldAddr rfl rfl (FA71_3 _ _) ?_
        refine D_qn ?_
        refine D_q rfl rfl ?_
        first
          | refine s_load Try.isAgg3 rfl rfl (hs.cell (k := 0) rfl rfl) ?_
        refine D_qn ?_
        refine D_q rfl rfl ?_
        refine s_move rfl rfl ?_
        refine D_qn ?_
        refine D_q rfl rfl ?_
        refine s_nilCheck rfl rfl ?_
        refine D_qn ?_
        refine D_q rfl rfl ?_
        refine s_fieldAddr rfl rfl (FA106_2 _ _) ?_
        refine D_qn ?_
        refine D_q rfl rfl ?_
        first
          | refine s_load Try.isAgg3 rfl rfl (hs.cell (k := 1) rfl rfl) ?_
        refine D_qn ?_
        refine D_q rfl rfl ?_
        refine s_lss rfl rfl rfl ?_
        refine D_qn ?_
        refine D_nil ?_
        refine n_then ?_
        refine W_cond rfl (fun hc98 => ?_) (fun hc98 => ?_)
        · skip
          try simp only [decide_eq_true_eq, decide_eq_false_iff_not, gt_iff_lt, ge_iff_le, beq_iff_eq, beq_eq_false_iff_ne, ne_eq, bne_iff_ne, bne_eq_false_iff_eq, Bool.not_eq_true', Bool.not_eq_false', Bool.not_eq_true, Bool.not_eq_false, Decidable.not_not] at hc98
          refine W_seq ?_
          refine W_region ?_
          refine s_assign rfl rfl ?_
          refine WL_nil ?_
          refine n_then ?_
          refine W_ret ?_
          refine r_then ?_
          refine r_blk ?_
          refine r_then ?_
          first
            | (have hv : R.recv x.m x.frm = (R, []) := by rw [Rp.recv, if_neg (by omega), if_neg (by omega), if_pos (by omega), Rp.write, if_pos (by omega)]
               exact end1 rfl rfl ⟨L0 ++ [], by rw [hL, List.append_nil]; exact hs.tail, [], L0, rfl, by rw [hv]; exact hR0, by rw [hv]; exact MdAt.nil LP⟩)
        · skip
          try simp only [decide_eq_true_eq, decide_eq_false_iff_not, gt_iff_lt, ge_iff_le, beq_iff_eq, beq_eq_false_iff_ne, ne_eq, bne_iff_ne, bne_eq_false_iff_eq, Bool.not_eq_true', Bool.not_eq_false', Bool.not_eq_true, Bool.not_eq_false, Decidable.not_not] at hc98
          refine W_skip ?_
          refine n_then ?_
          refine W_seq ?_
          refine W_region ?_
          refine s_move rfl rfl ?_
          refine s_fieldAddr rfl rfl (FA71_3 _ _) ?_
          first
            | refine s_load Try.isAgg3 rfl rfl (hs.cell (k := 0) rfl rfl) ?_
          refine s_callL (M := [_]) (L1 := [(p, Blk 106 (fcells R (.slice la R.log.length lc) (.slice (some ⟨bv, 0, none⟩) R.mem R.mem) (.slice ta tn' tc) (.slice aa an ac)))]) (X := [(bv, Blk 4 vs)] ++ LA) Try.call52 rfl rfl hs (fun h => raise_ok p R _ _ _ _ x.m.term _ w rfl ⟨hm1, hm3⟩ h) ?_
          clear hs; rintro u w L9 h9 - hs
          obtain ⟨bv2, vs2, ta2, tn2, tc2, hs2, hvl2, hq2⟩ := raise_at h9 hs hvl hvs hvt
          clear hs h9
          have hs := hs2
          clear hs2
          simp only [List.cons_append, List.nil_append] at hs
          obtain ⟨g1, g2, g3, g4, g5⟩ := R.follow_same x.m.term
          have g4l : (R.follow x.m.term).log.length = R.log.length := by rw [g4]
          have hfok : (R.follow x.m.term).ok := hok.follow mk2
          have hWk := hW (by omega) (by omega)
          have hrv : R.recv x.m x.frm = ((R.follow x.m.term).wrote x.m, [⟨R.id, x.frm, ((R.follow x.m.term).wrote x.m).ackM⟩]) := by rw [Rp.recv, if_neg (by omega), if_neg (by omega), if_pos (by omega), Rp.write, if_neg (by omega)]
          have hwok := hfok.wrote hm
          have hfn : x.m.fn = x.m.n := by unfold Mg.fn; rw [if_neg (by omega)]
          unfold fcells at hs
          refine WL_nil ?_
          refine n_then ?_
          refine W_seq ?_
          refine W_region ?_
          refine s_move rfl rfl ?_
          refine s_nilCheck rfl rfl ?_
          refine s_fieldAddr rfl rfl (FA106_6 _ _) ?_
          first
            | refine s_storeB Try.sizeOf3 rfl rfl rfl hs (kk := 1) rfl rfl ?_
          clear hs; intro w hs; try simp only [List.set_cons_zero, List.set_cons_succ, splice, List.take_succ_cons, List.take_zero, List.drop_succ_cons, List.drop_zero, List.nil_append, List.cons_append, List.length_cons, List.length_nil, Nat.reduceAdd, List.append_assoc] at hs
          refine WL_nil ?_
          refine n_then ?_
          refine W_seq ?_
          refine W_seq ?_
          refine W_draw [(0, true, []), (1, true, []), (2, true, []), (3, true, []), (4, true, []), (5, true, []), (6, true, []), (7, true, []), (8, true, []), (9, true, []), (10, true, []), (11, true, []), (12, true, []), (13, true, []), (14, true, []), (15, true, []), (16, true, []), (17, true, []), (18, true, []), (19, true, []), (20, true, []), (21, true, []), (22, true, []), (23, true, []), (24, true, []), (25, true, []), (26, true, [])] [[], [0], [], [2], [2, 3], [2, 3, 4], [0, 1, 2, 3, 4, 5], [0, 1, 2, 3, 4, 5, 6], [0, 1, 2, 3, 4, 5, 6, 7], [0, 1, 2, 3, 4, 5, 6, 7, 8], [0, 1, 2, 3, 4, 5, 6, 7], [0, 1, 2, 3, 4, 5, 6, 7, 10], [0, 1, 2, 3, 4, 5, 6, 7, 10, 11], [0, 1, 2, 3, 4, 5, 6, 7, 10, 11, 12], [0, 1, 2, 3, 4, 5, 6, 7, 8, 9, 10, 11, 12, 13], [0, 1, 2, 3, 4, 5, 6, 7, 8, 9, 10, 11, 12, 13, 14], [0, 1, 2, 3, 4, 5, 6, 7, 8, 9, 10, 11, 12, 13, 14, 15], [0, 1, 2, 3, 4, 5, 6, 7, 8, 9, 10, 11, 12, 13, 14, 15, 16], [0, 1, 2, 3, 4, 5, 6, 7, 8, 9, 10, 11, 12, 13, 14, 15, 16, 17], [0, 1, 2, 3, 4, 5, 6, 7, 8, 9, 10, 11, 12, 13, 14, 15], [0, 1, 2, 3, 4, 5, 6, 7, 8, 9, 10, 11, 12, 13, 14, 15, 19], [0, 1, 2, 3, 4, 5, 6, 7, 8, 9, 10, 11, 12, 13, 14, 15, 19, 20], [0, 1, 2, 3, 4, 5, 6, 7, 8, 9, 10, 11, 12, 13, 14, 15, 19, 20, 21], [0, 1, 2, 3, 4, 5, 6, 7, 8, 9, 10, 11, 12, 13, 14, 15, 19, 20, 21, 22], [0, 1, 2, 3, 4, 5, 6, 7, 8, 9, 10, 11, 12, 13, 14, 15, 16, 17, 18, 19, 20, 21, 22, 23], [0, 1, 2, 3, 4, 5, 6, 7, 8, 9, 10, 11, 12, 13, 14, 15, 16, 17, 18, 19, 20, 21, 22, 23, 24], [0, 1, 2, 3, 4, 5, 6, 7, 8, 9, 10, 11, 12, 13, 14, 15, 16, 17, 18, 19, 20, 21, 22, 23, 24, 25]] MX (by kernel_rfl) ?_
          intro w1 hw1 hw2 hw3 hw4; replace hs := hs.redrawn hw1 hw2 hw3 hw4; clear hw1 hw2 hw3 hw4
          obtain ⟨w, rfl⟩ : ∃ w : World, w = w1 := ⟨_, rfl⟩
          refine D_q rfl rfl ?_
          refine s_fieldAddr rfl rfl (FA71_3 _ _) ?_
          refine D_qn ?_
          refine D_q rfl rfl ?_
          first
            | refine s_load Try.isAgg3 rfl rfl (hs.cell (k := 0) rfl rfl) ?_
          refine D_qn ?_
          refine D_q rfl rfl ?_
          refine s_move rfl rfl ?_
          refine D_qn ?_
          refine D_q rfl rfl ?_
          refine s_nilCheck rfl rfl ?_
          refine D_qn ?_
          refine D_q rfl rfl ?_
          refine s_fieldAddr rfl rfl (FA106_3 _ _) ?_
          refine D_qn ?_
          refine D_q rfl rfl ?_
          first
            | refine s_load Try.isAgg3 rfl rfl (hs.cell (k := 1) rfl rfl) ?_
          refine D_qn ?_
          refine D_q rfl rfl ?_
          refine s_gtr rfl rfl rfl ?_
          refine D_qn ?_
          refine D_q rfl rfl ?_
          refine s_move rfl rfl ?_
          refine WL_case (s := 113) rfl (fun hg113 => ?_) (fun hg113 => ?_)
          · skip
            try simp only [decide_eq_true_eq, decide_eq_false_iff_not, gt_iff_lt, ge_iff_le, beq_iff_eq, beq_eq_false_iff_ne, ne_eq, bne_iff_ne, bne_eq_false_iff_eq, Bool.not_eq_true', Bool.not_eq_false', Bool.not_eq_true, Bool.not_eq_false, Decidable.not_not] at hg113
            refine D_qn ?_
            refine D_q rfl rfl ?_
            refine WL_skip rfl rfl rfl ?_
            refine D_qn ?_
            refine D_q rfl rfl ?_
            refine WL_skip rfl rfl rfl ?_
            refine D_qn ?_
            refine D_q rfl rfl ?_
            refine WL_skip rfl rfl rfl ?_
            refine D_qn ?_
            refine D_q rfl rfl ?_
            refine WL_skip rfl rfl rfl ?_
            refine D_qn ?_
            refine D_q rfl rfl ?_
            refine WL_skip rfl rfl rfl ?_
            refine D_qn ?_
            refine D_q rfl rfl ?_
            refine WL_skip rfl rfl rfl ?_
            refine D_qn ?_
            refine D_q rfl rfl ?_
            refine WL_skip rfl rfl rfl ?_
            refine D_qn ?_
            refine D_q rfl rfl ?_
            refine WL_skip rfl rfl rfl ?_
            refine D_qn ?_
            refine D_q rfl rfl ?_
            refine WL_skipU rfl rfl ?_
            refine D_qn ?_
            refine D_q rfl rfl ?_
            refine WL_skipU rfl rfl ?_
            refine D_qn ?_
            refine D_q rfl rfl ?_
            refine WL_skipU rfl rfl ?_
            refine D_qn ?_
            refine D_q rfl rfl ?_
            refine WL_skipU rfl rfl ?_
            refine D_qn ?_
            refine D_q rfl rfl ?_
            refine WL_skipU rfl rfl ?_
            refine D_qn ?_
            refine D_q rfl rfl ?_
            refine WL_skipU rfl rfl ?_
            refine D_qn ?_
            refine D_q rfl rfl ?_
            refine WL_skipU rfl rfl ?_
            refine D_qn ?_
            refine D_q rfl rfl ?_
            refine WL_skipU rfl rfl ?_
            refine D_qn ?_
            refine D_q rfl rfl ?_
            refine WL_skipU rfl rfl ?_
            refine D_qn ?_
            refine D_q rfl rfl ?_
            refine WL_skip rfl rfl rfl ?_
            refine D_qn ?_
            refine D_q rfl rfl ?_
            refine s_pick_t rfl rfl rfl ?_
            refine D_qn ?_
            refine D_nil ?_
            refine n_then ?_
            refine W_cond_t rfl ?_
            refine W_seq ?_
            refine W_region ?_
            refine s_move rfl rfl ?_
            refine s_fieldAddr rfl rfl (FA71_6 _ _) ?_
            first
              | refine s_load Try.isAgg69 rfl rfl (hs.cell (k := 0) rfl rfl) ?_
            refine s_nilCheck rfl rfl ?_
            refine s_fieldAddr rfl rfl (FA106_4 _ _) ?_
            first
              | refine s_storeB Try.sizeOf69 rfl rfl rfl hs (kk := 1) rfl rfl ?_
            clear hs; intro w hs; try simp only [List.set_cons_zero, List.set_cons_succ, splice, List.take_succ_cons, List.take_zero, List.drop_succ_cons, List.drop_zero, List.nil_append, List.cons_append, List.length_cons, List.length_nil, Nat.reduceAdd, List.append_assoc] at hs
            refine WL_nil ?_
            refine n_then ?_
            refine W_region ?_
            refine s_move rfl rfl ?_
            refine s_fieldAddr rfl rfl (FA71_3 _ _) ?_
            first
              | refine s_load Try.isAgg3 rfl rfl (hs.cell (k := 0) rfl rfl) ?_
            refine s_nilCheck rfl rfl ?_
            refine s_fieldAddr rfl rfl (FA106_3 _ _) ?_
            first
              | refine s_storeB Try.sizeOf3 rfl rfl rfl hs (kk := 1) rfl rfl ?_
            clear hs; intro w hs; try simp only [List.set_cons_zero, List.set_cons_succ, splice, List.take_succ_cons, List.take_zero, List.drop_succ_cons, List.drop_zero, List.nil_append, List.cons_append, List.length_cons, List.length_nil, Nat.reduceAdd, List.append_assoc] at hs
            refine WL_nil ?_
            refine n_then ?_
            refine W_seq ?_
            refine W_draw [(0, true, []), (1, true, []), (2, true, []), (3, true, []), (4, true, []), (5, true, []), (6, true, []), (7, true, []), (8, true, []), (9, true, []), (10, false, [])] [[], [], [1], [1, 2], [1, 2, 3], [], [5], [1, 2, 3, 4, 5, 6], [0, 1, 2, 3, 4, 5, 6, 7], [0, 1, 2, 3, 4, 5, 6, 7, 8], [0, 1, 2, 3, 4, 5, 6, 7, 8, 9]] MX (by kernel_rfl) ?_
            intro w1 hw1 hw2 hw3 hw4; replace hs := hs.redrawn hw1 hw2 hw3 hw4; clear hw1 hw2 hw3 hw4
            obtain ⟨w, rfl⟩ : ∃ w : World, w = w1 := ⟨_, rfl⟩
            refine D_q rfl rfl ?_
            refine s_move rfl rfl ?_
            refine D_qn ?_
            refine D_q rfl rfl ?_
            refine s_move rfl rfl ?_
            refine D_qn ?_
            refine D_q rfl rfl ?_
            refine s_nilCheck rfl rfl ?_
            refine D_qn ?_
            refine D_q rfl rfl ?_
            refine s_fieldAddr rfl rfl (FA106_5 _ _) ?_
            refine D_qn ?_
            refine D_q rfl rfl ?_
            first
              | refine s_load Try.isAgg3 rfl rfl (hs.cell (k := 1) rfl rfl) ?_
            refine D_qn ?_
            refine D_q rfl rfl ?_
            refine s_fieldAddr rfl rfl (FA71_5 _ _) ?_
            refine D_qn ?_
            refine D_q rfl rfl ?_
            first
              | refine s_load Try.isAgg3 rfl rfl (hs.cell (k := 0) rfl rfl) ?_
            refine D_qn ?_
            refine D_q rfl rfl ?_
            refine s_max rfl rfl rfl ?_
            rw [show (if ((R.follow x.m.term).n : Int) < (x.m.fn : Int) then (x.m.fn : Int) else ((R.follow x.m.term).n : Int)) = ((max R.n x.m.n : Nat) : Int) from by rw [g5, hfn]; split <;> omega]
            refine D_qn ?_
            refine D_q rfl rfl ?_
            refine s_nilCheck rfl rfl ?_
            refine D_qn ?_
            refine D_q rfl rfl ?_
            refine s_fieldAddr rfl rfl (FA106_5 _ _) ?_
            refine D_qn ?_
            refine D_e rfl ?_
            first
              | refine s_storeB Try.sizeOf3 rfl rfl rfl hs (kk := 1) rfl rfl ?_
            clear hs; intro w hs; try simp only [List.set_cons_zero, List.set_cons_succ, splice, List.take_succ_cons, List.take_zero, List.drop_succ_cons, List.drop_zero, List.nil_append, List.cons_append, List.length_cons, List.length_nil, Nat.reduceAdd, List.append_assoc] at hs
            refine D_en ?re ?_
            case re =>
              exact Reks_nil
            refine D_nil ?_
            refine n_then ?_
            refine W_seq ?_
            refine W_draw [(0, true, []), (1, true, []), (2, true, []), (3, true, []), (4, true, []), (5, true, []), (6, true, []), (7, true, []), (8, true, []), (9, true, []), (10, true, []), (11, true, []), (12, true, []), (13, true, []), (14, true, []), (15, true, []), (16, false, []), (17, true, [])] [[], [0], [0, 1], [0, 1, 2], [], [4], [], [6], [6, 7], [6, 7, 8], [], [10], [10, 11], [10, 11, 12], [10, 11, 12, 13], [0, 1, 2, 3, 4, 5, 6, 7, 8, 9, 10, 11, 12, 13, 14], [0, 1, 2, 3, 4, 5, 6, 7, 8, 9, 10, 11, 12, 13, 14, 15], [0, 1, 2, 3, 4, 5, 6, 7, 8, 9, 10, 11, 12, 13, 14, 15, 16]] MX (by kernel_rfl) ?_
            intro w1 hw1 hw2 hw3 hw4; replace hs := hs.redrawn hw1 hw2 hw3 hw4; clear hw1 hw2 hw3 hw4
            obtain ⟨w, rfl⟩ : ∃ w : World, w = w1 := ⟨_, rfl⟩
            refine D_q rfl rfl ?_
            refine s_move rfl rfl ?_
            refine D_qn ?_
            refine D_q rfl rfl ?_
            refine s_nilCheck rfl rfl ?_
            refine D_qn ?_
            refine D_q rfl rfl ?_
            refine s_fieldAddr rfl rfl (FA106_0 _ _) ?_
            refine D_qn ?_
            refine D_q rfl rfl ?_
            first
              | refine s_load Try.isAgg3 rfl rfl (hs.cell (k := 1) rfl rfl) ?_
            refine D_qn ?_
            refine D_q rfl rfl ?_
            refine s_fieldAddr rfl rfl (FA71_1 _ _) ?_
            refine D_qn ?_
            refine D_q rfl rfl ?_
            first
              | refine s_load Try.isAgg3 rfl rfl (hs.cell (k := 0) rfl rfl) ?_
            refine D_qn ?_
            refine D_q rfl rfl ?_
            refine s_move rfl rfl ?_
            refine D_qn ?_
            refine D_q rfl rfl ?_
            refine s_nilCheck rfl rfl ?_
            refine D_qn ?_
            refine D_q rfl rfl ?_
            refine s_fieldAddr rfl rfl (FA106_2 _ _) ?_
            refine D_qn ?_
            refine D_q rfl rfl ?_
            first
              | refine s_load Try.isAgg3 rfl rfl (hs.cell (k := 1) rfl rfl) ?_
            refine D_qn ?_
            refine D_q rfl rfl ?_
            refine s_move rfl rfl ?_
            refine D_qn ?_
            refine D_q rfl rfl ?_
            refine s_nilCheck rfl rfl ?_
            refine D_qn ?_
            refine D_q rfl rfl ?_
            refine s_fieldAddr rfl rfl (FA106_4 _ _) ?_
            refine D_qn ?_
            refine D_q rfl rfl ?_
            first
              | refine s_load Try.isAgg69 rfl rfl (hs.cell (k := 1) rfl rfl) ?_
            refine D_qn ?_
            refine D_q rfl rfl ?_
            refine s_len rfl rfl (LN69 _ _ _ _) ?_
            refine D_qn ?_
            refine D_q rfl rfl ?_
            refine s_build rfl rfl (BD71_0_1_2_3_5 _ _ _ _ _) ?_
            refine D_qn ?_
            refine D_e rfl ?_
            refine s_buildSlice rfl rfl (BS65_1 _ _ _ _ _ _ _) hs ?_; clear hs; intro b169 w hs
            refine D_en ?re ?_
            case re =>
              exact Reks_nil
            refine D_q rfl rfl ?_
            refine s_assign rfl rfl ?_
            refine D_qn ?_
            refine D_nil ?_
            refine n_then ?_
            refine W_ret ?_
            refine r_blk ?_
            refine r_then ?_
            first
              | (have hwt := wrote_t (R := R) (m := x.m) (by unfold Rp.takes; omega) hWk
                 rw [hwt] at hrv hwok
                 have hmd := md_one (b := b169) (d := ⟨⟨R.id, x.frm, Rp.ackM { R.follow x.m.term with role := 0, log := x.m.log, lterm := x.m.term, n := max R.n x.m.n }⟩, .slice none 0 0⟩) (LP := LP) (LgIn.nil LP)
                 have hFW : FrAt p { R.follow x.m.term with role := 0, log := x.m.log, lterm := x.m.term, n := max R.n x.m.n } ((p, Blk 106 (fcells { R.follow x.m.term with role := 0, log := x.m.log, lterm := x.m.term, n := max R.n x.m.n } (.slice da x.m.log.length dc) (.slice (some ⟨bv2, 0, none⟩) R.mem R.mem) (.slice ta2 tn2 tc2) (.slice aa an ac))) :: ([(bv2, Blk 4 vs2)] ++ LA)) LP :=
                   ⟨_, _, _, _, _, _, rfl, hx, ⟨bv2, vs2, by show _ = Value.slice _ (R.follow x.m.term).mem (R.follow x.m.term).mem; rw [g2], rfl, by show _ = (R.follow x.m.term).mem; rw [g2]; exact hvl2, fun h => by cases h⟩, (fun h => by cases h), ⟨_, _, _, rfl⟩, ⟨_, _, _, rfl⟩, (fun h => by cases h), hwok⟩
                 refine end1 rfl rfl ⟨_, ?_, _, _, rfl, by rw [hrv]; exact hFW, by rw [hrv]; exact hmd⟩
                 have h9 := St.reord [[_], [_], [_], [_], LA] [2, 3, 4, 0] [1] (by simpa [cat] using hs) rfl
                 simpa [cat, fcells, Dm.cells, Rp.ackM, Mg.fn, g1] using h9)
          · skip
            try simp only [decide_eq_true_eq, decide_eq_false_iff_not, gt_iff_lt, ge_iff_le, beq_iff_eq, beq_eq_false_iff_ne, ne_eq, bne_iff_ne, bne_eq_false_iff_eq, Bool.not_eq_true', Bool.not_eq_false', Bool.not_eq_true, Bool.not_eq_false, Decidable.not_not] at hg113
            refine D_qn ?_
            refine D_q rfl rfl ?_
            refine WL_take rfl ?_
            refine s_fieldAddr rfl rfl (FA71_3 _ _) ?_
            refine D_qn ?_
            refine D_q rfl rfl ?_
            refine WL_take rfl ?_
            first
              | refine s_load Try.isAgg3 rfl rfl (hs.cell (k := 0) rfl rfl) ?_
            refine D_qn ?_
            refine D_q rfl rfl ?_
            refine WL_take rfl ?_
            refine s_move rfl rfl ?_
            refine D_qn ?_
            refine D_q rfl rfl ?_
            refine WL_take rfl ?_
            refine s_nilCheck rfl rfl ?_
            refine D_qn ?_
            refine D_q rfl rfl ?_
            refine WL_take rfl ?_
            refine s_fieldAddr rfl rfl (FA106_3 _ _) ?_
            refine D_qn ?_
            refine D_q rfl rfl ?_
            refine WL_take rfl ?_
            first
              | refine s_load Try.isAgg3 rfl rfl (hs.cell (k := 1) rfl rfl) ?_
            refine D_qn ?_
            refine D_q rfl rfl ?_
            refine WL_take rfl ?_
            refine s_eql rfl rfl rfl ?_
            refine D_qn ?_
            refine D_q rfl rfl ?_
            refine WL_take rfl ?_
            refine s_move rfl rfl ?_
            refine WL_case (s := 121) rfl (fun hg121 => ?_) (fun hg121 => ?_)
            · skip
              try simp only [decide_eq_true_eq, decide_eq_false_iff_not, gt_iff_lt, ge_iff_le, beq_iff_eq, beq_eq_false_iff_ne, ne_eq, bne_iff_ne, bne_eq_false_iff_eq, Bool.not_eq_true', Bool.not_eq_false', Bool.not_eq_true, Bool.not_eq_false, Decidable.not_not] at hg121
              refine D_qn ?_
              refine D_q rfl rfl ?_
              refine WL_take rfl ?_
              refine s_fieldAddr rfl rfl (FA71_6 _ _) ?_
              refine D_qn ?_
              refine D_q rfl rfl ?_
              refine WL_take rfl ?_
              first
                | refine s_load Try.isAgg69 rfl rfl (hs.cell (k := 0) rfl rfl) ?_
              refine D_qn ?_
              refine D_q rfl rfl ?_
              refine WL_take rfl ?_
              refine s_len rfl rfl (LN69 _ _ _ _) ?_
              refine D_qn ?_
              refine D_q rfl rfl ?_
              refine WL_take rfl ?_
              refine s_move rfl rfl ?_
              refine D_qn ?_
              refine D_q rfl rfl ?_
              refine WL_take rfl ?_
              refine s_nilCheck rfl rfl ?_
              refine D_qn ?_
              refine D_q rfl rfl ?_
              refine WL_take rfl ?_
              refine s_fieldAddr rfl rfl (FA106_4 _ _) ?_
              refine D_qn ?_
              refine D_q rfl rfl ?_
              refine WL_take rfl ?_
              first
                | refine s_load Try.isAgg69 rfl rfl (hs.cell (k := 1) rfl rfl) ?_
              refine D_qn ?_
              refine D_q rfl rfl ?_
              refine WL_take rfl ?_
              refine s_len rfl rfl (LN69 _ _ _ _) ?_
              refine D_qn ?_
              refine D_q rfl rfl ?_
              refine WL_take rfl ?_
              refine s_gtr rfl rfl rfl ?_
              refine D_qn ?_
              refine D_q rfl rfl ?_
              refine WL_take rfl ?_
              refine s_pick_t rfl rfl rfl ?_
              refine D_qn ?_
              refine D_q rfl rfl ?_
              refine s_pick_f rfl rfl rfl ?_
              refine D_qn ?_
              refine D_nil ?_
              refine n_then ?_
              refine W_cond rfl (fun hc132 => ?_) (fun hc132 => ?_)
              · skip
                try simp only [decide_eq_true_eq, decide_eq_false_iff_not, gt_iff_lt, ge_iff_le, beq_iff_eq, beq_eq_false_iff_ne, ne_eq, bne_iff_ne, bne_eq_false_iff_eq, Bool.not_eq_true', Bool.not_eq_false', Bool.not_eq_true, Bool.not_eq_false, Decidable.not_not] at hc132
                refine W_seq ?_
                refine W_region ?_
                refine s_move rfl rfl ?_
                refine s_fieldAddr rfl rfl (FA71_6 _ _) ?_
                first
                  | refine s_load Try.isAgg69 rfl rfl (hs.cell (k := 0) rfl rfl) ?_
                refine s_nilCheck rfl rfl ?_
                refine s_fieldAddr rfl rfl (FA106_4 _ _) ?_
                first
                  | refine s_storeB Try.sizeOf69 rfl rfl rfl hs (kk := 1) rfl rfl ?_
                clear hs; intro w hs; try simp only [List.set_cons_zero, List.set_cons_succ, splice, List.take_succ_cons, List.take_zero, List.drop_succ_cons, List.drop_zero, List.nil_append, List.cons_append, List.length_cons, List.length_nil, Nat.reduceAdd, List.append_assoc] at hs
                refine WL_nil ?_
                refine n_then ?_
                refine W_region ?_
                refine s_move rfl rfl ?_
                refine s_fieldAddr rfl rfl (FA71_3 _ _) ?_
                first
                  | refine s_load Try.isAgg3 rfl rfl (hs.cell (k := 0) rfl rfl) ?_
                refine s_nilCheck rfl rfl ?_
                refine s_fieldAddr rfl rfl (FA106_3 _ _) ?_
                first
                  | refine s_storeB Try.sizeOf3 rfl rfl rfl hs (kk := 1) rfl rfl ?_
                clear hs; intro w hs; try simp only [List.set_cons_zero, List.set_cons_succ, splice, List.take_succ_cons, List.take_zero, List.drop_succ_cons, List.drop_zero, List.nil_append, List.cons_append, List.length_cons, List.length_nil, Nat.reduceAdd, List.append_assoc] at hs
                refine WL_nil ?_
                refine n_then ?_
                refine W_seq ?_
                refine W_draw [(0, true, []), (1, true, []), (2, true, []), (3, true, []), (4, true, []), (5, true, []), (6, true, []), (7, true, []), (8, true, []), (9, true, []), (10, false, [])] [[], [], [1], [1, 2], [1, 2, 3], [], [5], [1, 2, 3, 4, 5, 6], [0, 1, 2, 3, 4, 5, 6, 7], [0, 1, 2, 3, 4, 5, 6, 7, 8], [0, 1, 2, 3, 4, 5, 6, 7, 8, 9]] MX (by kernel_rfl) ?_
                intro w1 hw1 hw2 hw3 hw4; replace hs := hs.redrawn hw1 hw2 hw3 hw4; clear hw1 hw2 hw3 hw4
                obtain ⟨w, rfl⟩ : ∃ w : World, w = w1 := ⟨_, rfl⟩
                refine D_q rfl rfl ?_
                refine s_move rfl rfl ?_
                refine D_qn ?_
                refine D_q rfl rfl ?_
                refine s_move rfl rfl ?_
                refine D_qn ?_
                refine D_q rfl rfl ?_
                refine s_nilCheck rfl rfl ?_
                refine D_qn ?_
                refine D_q rfl rfl ?_
                refine s_fieldAddr rfl rfl (FA106_5 _ _) ?_
                refine D_qn ?_
                refine D_q rfl rfl ?_
                first
                  | refine s_load Try.isAgg3 rfl rfl (hs.cell (k := 1) rfl rfl) ?_
                refine D_qn ?_
                refine D_q rfl rfl ?_
                refine s_fieldAddr rfl rfl (FA71_5 _ _) ?_
                refine D_qn ?_
                refine D_q rfl rfl ?_
                first
                  | refine s_load Try.isAgg3 rfl rfl (hs.cell (k := 0) rfl rfl) ?_
                refine D_qn ?_
                refine D_q rfl rfl ?_
                refine s_max rfl rfl rfl ?_
                rw [show (if ((R.follow x.m.term).n : Int) < (x.m.fn : Int) then (x.m.fn : Int) else ((R.follow x.m.term).n : Int)) = ((max R.n x.m.n : Nat) : Int) from by rw [g5, hfn]; split <;> omega]
                refine D_qn ?_
                refine D_q rfl rfl ?_
                refine s_nilCheck rfl rfl ?_
                refine D_qn ?_
                refine D_q rfl rfl ?_
                refine s_fieldAddr rfl rfl (FA106_5 _ _) ?_
                refine D_qn ?_
                refine D_e rfl ?_
                first
                  | refine s_storeB Try.sizeOf3 rfl rfl rfl hs (kk := 1) rfl rfl ?_
                clear hs; intro w hs; try simp only [List.set_cons_zero, List.set_cons_succ, splice, List.take_succ_cons, List.take_zero, List.drop_succ_cons, List.drop_zero, List.nil_append, List.cons_append, List.length_cons, List.length_nil, Nat.reduceAdd, List.append_assoc] at hs
                refine D_en ?re ?_
                case re =>
                  exact Reks_nil
                refine D_nil ?_
                refine n_then ?_
                refine W_seq ?_
                refine W_draw [(0, true, []), (1, true, []), (2, true, []), (3, true, []), (4, true, []), (5, true, []), (6, true, []), (7, true, []), (8, true, []), (9, true, []), (10, true, []), (11, true, []), (12, true, []), (13, true, []), (14, true, []), (15, true, []), (16, false, []), (17, true, [])] [[], [0], [0, 1], [0, 1, 2], [], [4], [], [6], [6, 7], [6, 7, 8], [], [10], [10, 11], [10, 11, 12], [10, 11, 12, 13], [0, 1, 2, 3, 4, 5, 6, 7, 8, 9, 10, 11, 12, 13, 14], [0, 1, 2, 3, 4, 5, 6, 7, 8, 9, 10, 11, 12, 13, 14, 15], [0, 1, 2, 3, 4, 5, 6, 7, 8, 9, 10, 11, 12, 13, 14, 15, 16]] MX (by kernel_rfl) ?_
                intro w1 hw1 hw2 hw3 hw4; replace hs := hs.redrawn hw1 hw2 hw3 hw4; clear hw1 hw2 hw3 hw4
                obtain ⟨w, rfl⟩ : ∃ w : World, w = w1 := ⟨_, rfl⟩
                refine D_q rfl rfl ?_
                refine s_move rfl rfl ?_
                refine D_qn ?_
                refine D_q rfl rfl ?_
                refine s_nilCheck rfl rfl ?_
                refine D_qn ?_
                refine D_q rfl rfl ?_
                refine s_fieldAddr rfl rfl (FA106_0 _ _) ?_
                refine D_qn ?_
                refine D_q rfl rfl ?_
                first
                  | refine s_load Try.isAgg3 rfl rfl (hs.cell (k := 1) rfl rfl) ?_
                refine D_qn ?_
                refine D_q rfl rfl ?_
                refine s_fieldAddr rfl rfl (FA71_1 _ _) ?_
                refine D_qn ?_
                refine D_q rfl rfl ?_
                first
                  | refine s_load Try.isAgg3 rfl rfl (hs.cell (k := 0) rfl rfl) ?_
                refine D_qn ?_
                refine D_q rfl rfl ?_
                refine s_move rfl rfl ?_
                refine D_qn ?_
                refine D_q rfl rfl ?_
                refine s_nilCheck rfl rfl ?_
                refine D_qn ?_
                refine D_q rfl rfl ?_
                refine s_fieldAddr rfl rfl (FA106_2 _ _) ?_
                refine D_qn ?_
                refine D_q rfl rfl ?_
                first
                  | refine s_load Try.isAgg3 rfl rfl (hs.cell (k := 1) rfl rfl) ?_
                refine D_qn ?_
                refine D_q rfl rfl ?_
                refine s_move rfl rfl ?_
                refine D_qn ?_
                refine D_q rfl rfl ?_
                refine s_nilCheck rfl rfl ?_
                refine D_qn ?_
                refine D_q rfl rfl ?_
                refine s_fieldAddr rfl rfl (FA106_4 _ _) ?_
                refine D_qn ?_
                refine D_q rfl rfl ?_
                first
                  | refine s_load Try.isAgg69 rfl rfl (hs.cell (k := 1) rfl rfl) ?_
                refine D_qn ?_
                refine D_q rfl rfl ?_
                refine s_len rfl rfl (LN69 _ _ _ _) ?_
                refine D_qn ?_
                refine D_q rfl rfl ?_
                refine s_build rfl rfl (BD71_0_1_2_3_5 _ _ _ _ _) ?_
                refine D_qn ?_
                refine D_e rfl ?_
                refine s_buildSlice rfl rfl (BS65_1 _ _ _ _ _ _ _) hs ?_; clear hs; intro b169 w hs
                refine D_en ?re ?_
                case re =>
                  exact Reks_nil
                refine D_q rfl rfl ?_
                refine s_assign rfl rfl ?_
                refine D_qn ?_
                refine D_nil ?_
                refine n_then ?_
                refine W_ret ?_
                refine r_blk ?_
                refine r_then ?_
                first
                  | (have hwt := wrote_t (R := R) (m := x.m) (by unfold Rp.takes; omega) hWk
                     rw [hwt] at hrv hwok
                     have hmd := md_one (b := b169) (d := ⟨⟨R.id, x.frm, Rp.ackM { R.follow x.m.term with role := 0, log := x.m.log, lterm := x.m.term, n := max R.n x.m.n }⟩, .slice none 0 0⟩) (LP := LP) (LgIn.nil LP)
                     have hFW : FrAt p { R.follow x.m.term with role := 0, log := x.m.log, lterm := x.m.term, n := max R.n x.m.n } ((p, Blk 106 (fcells { R.follow x.m.term with role := 0, log := x.m.log, lterm := x.m.term, n := max R.n x.m.n } (.slice da x.m.log.length dc) (.slice (some ⟨bv2, 0, none⟩) R.mem R.mem) (.slice ta2 tn2 tc2) (.slice aa an ac))) :: ([(bv2, Blk 4 vs2)] ++ LA)) LP :=
                       ⟨_, _, _, _, _, _, rfl, hx, ⟨bv2, vs2, by show _ = Value.slice _ (R.follow x.m.term).mem (R.follow x.m.term).mem; rw [g2], rfl, by show _ = (R.follow x.m.term).mem; rw [g2]; exact hvl2, fun h => by cases h⟩, (fun h => by cases h), ⟨_, _, _, rfl⟩, ⟨_, _, _, rfl⟩, (fun h => by cases h), hwok⟩
                     refine end1 rfl rfl ⟨_, ?_, _, _, rfl, by rw [hrv]; exact hFW, by rw [hrv]; exact hmd⟩
                     have h9 := St.reord [[_], [_], [_], [_], LA] [2, 3, 4, 0] [1] (by simpa [cat] using hs) rfl
                     simpa [cat, fcells, Dm.cells, Rp.ackM, Mg.fn, g1] using h9)
              · skip
                try simp only [decide_eq_true_eq, decide_eq_false_iff_not, gt_iff_lt, ge_iff_le, beq_iff_eq, beq_eq_false_iff_ne, ne_eq, bne_iff_ne, bne_eq_false_iff_eq, Bool.not_eq_true', Bool.not_eq_false', Bool.not_eq_true, Bool.not_eq_false, Decidable.not_not] at hc132
                refine W_skip ?_
                refine n_then ?_
                refine W_seq ?_
                refine W_draw [(0, true, []), (1, true, []), (2, true, []), (3, true, []), (4, true, []), (5, true, []), (6, true, []), (7, true, []), (8, true, []), (9, true, []), (10, false, [])] [[], [], [1], [1, 2], [1, 2, 3], [], [5], [1, 2, 3, 4, 5, 6], [0, 1, 2, 3, 4, 5, 6, 7], [0, 1, 2, 3, 4, 5, 6, 7, 8], [0, 1, 2, 3, 4, 5, 6, 7, 8, 9]] MX (by kernel_rfl) ?_
                intro w1 hw1 hw2 hw3 hw4; replace hs := hs.redrawn hw1 hw2 hw3 hw4; clear hw1 hw2 hw3 hw4
                obtain ⟨w, rfl⟩ : ∃ w : World, w = w1 := ⟨_, rfl⟩
                refine D_q rfl rfl ?_
                refine s_move rfl rfl ?_
                refine D_qn ?_
                refine D_q rfl rfl ?_
                refine s_move rfl rfl ?_
                refine D_qn ?_
                refine D_q rfl rfl ?_
                refine s_nilCheck rfl rfl ?_
                refine D_qn ?_
                refine D_q rfl rfl ?_
                refine s_fieldAddr rfl rfl (FA106_5 _ _) ?_
                refine D_qn ?_
                refine D_q rfl rfl ?_
                first
                  | refine s_load Try.isAgg3 rfl rfl (hs.cell (k := 1) rfl rfl) ?_
                refine D_qn ?_
                refine D_q rfl rfl ?_
                refine s_fieldAddr rfl rfl (FA71_5 _ _) ?_
                refine D_qn ?_
                refine D_q rfl rfl ?_
                first
                  | refine s_load Try.isAgg3 rfl rfl (hs.cell (k := 0) rfl rfl) ?_
                refine D_qn ?_
                refine D_q rfl rfl ?_
                refine s_max rfl rfl rfl ?_
                rw [show (if ((R.follow x.m.term).n : Int) < (x.m.fn : Int) then (x.m.fn : Int) else ((R.follow x.m.term).n : Int)) = ((max R.n x.m.n : Nat) : Int) from by rw [g5, hfn]; split <;> omega]
                refine D_qn ?_
                refine D_q rfl rfl ?_
                refine s_nilCheck rfl rfl ?_
                refine D_qn ?_
                refine D_q rfl rfl ?_
                refine s_fieldAddr rfl rfl (FA106_5 _ _) ?_
                refine D_qn ?_
                refine D_e rfl ?_
                first
                  | refine s_storeB Try.sizeOf3 rfl rfl rfl hs (kk := 1) rfl rfl ?_
                clear hs; intro w hs; try simp only [List.set_cons_zero, List.set_cons_succ, splice, List.take_succ_cons, List.take_zero, List.drop_succ_cons, List.drop_zero, List.nil_append, List.cons_append, List.length_cons, List.length_nil, Nat.reduceAdd, List.append_assoc] at hs
                refine D_en ?re ?_
                case re =>
                  exact Reks_nil
                refine D_nil ?_
                refine n_then ?_
                refine W_seq ?_
                refine W_draw [(0, true, []), (1, true, []), (2, true, []), (3, true, []), (4, true, []), (5, true, []), (6, true, []), (7, true, []), (8, true, []), (9, true, []), (10, true, []), (11, true, []), (12, true, []), (13, true, []), (14, true, []), (15, true, []), (16, false, []), (17, true, [])] [[], [0], [0, 1], [0, 1, 2], [], [4], [], [6], [6, 7], [6, 7, 8], [], [10], [10, 11], [10, 11, 12], [10, 11, 12, 13], [0, 1, 2, 3, 4, 5, 6, 7, 8, 9, 10, 11, 12, 13, 14], [0, 1, 2, 3, 4, 5, 6, 7, 8, 9, 10, 11, 12, 13, 14, 15], [0, 1, 2, 3, 4, 5, 6, 7, 8, 9, 10, 11, 12, 13, 14, 15, 16]] MX (by kernel_rfl) ?_
                intro w1 hw1 hw2 hw3 hw4; replace hs := hs.redrawn hw1 hw2 hw3 hw4; clear hw1 hw2 hw3 hw4
                obtain ⟨w, rfl⟩ : ∃ w : World, w = w1 := ⟨_, rfl⟩
                refine D_q rfl rfl ?_
                refine s_move rfl rfl ?_
                refine D_qn ?_
                refine D_q rfl rfl ?_
                refine s_nilCheck rfl rfl ?_
                refine D_qn ?_
                refine D_q rfl rfl ?_
                refine s_fieldAddr rfl rfl (FA106_0 _ _) ?_
                refine D_qn ?_
                refine D_q rfl rfl ?_
                first
                  | refine s_load Try.isAgg3 rfl rfl (hs.cell (k := 1) rfl rfl) ?_
                refine D_qn ?_
                refine D_q rfl rfl ?_
                refine s_fieldAddr rfl rfl (FA71_1 _ _) ?_
                refine D_qn ?_
                refine D_q rfl rfl ?_
                first
                  | refine s_load Try.isAgg3 rfl rfl (hs.cell (k := 0) rfl rfl) ?_
                refine D_qn ?_
                refine D_q rfl rfl ?_
                refine s_move rfl rfl ?_
                refine D_qn ?_
                refine D_q rfl rfl ?_
                refine s_nilCheck rfl rfl ?_
                refine D_qn ?_
                refine D_q rfl rfl ?_
                refine s_fieldAddr rfl rfl (FA106_2 _ _) ?_
                refine D_qn ?_
                refine D_q rfl rfl ?_
                first
                  | refine s_load Try.isAgg3 rfl rfl (hs.cell (k := 1) rfl rfl) ?_
                refine D_qn ?_
                refine D_q rfl rfl ?_
                refine s_move rfl rfl ?_
                refine D_qn ?_
                refine D_q rfl rfl ?_
                refine s_nilCheck rfl rfl ?_
                refine D_qn ?_
                refine D_q rfl rfl ?_
                refine s_fieldAddr rfl rfl (FA106_4 _ _) ?_
                refine D_qn ?_
                refine D_q rfl rfl ?_
                first
                  | refine s_load Try.isAgg69 rfl rfl (hs.cell (k := 1) rfl rfl) ?_
                refine D_qn ?_
                refine D_q rfl rfl ?_
                refine s_len rfl rfl (LN69 _ _ _ _) ?_
                refine D_qn ?_
                refine D_q rfl rfl ?_
                refine s_build rfl rfl (BD71_0_1_2_3_5 _ _ _ _ _) ?_
                refine D_qn ?_
                refine D_e rfl ?_
                refine s_buildSlice rfl rfl (BS65_1 _ _ _ _ _ _ _) hs ?_; clear hs; intro b169 w hs
                refine D_en ?re ?_
                case re =>
                  exact Reks_nil
                refine D_q rfl rfl ?_
                refine s_assign rfl rfl ?_
                refine D_qn ?_
                refine D_nil ?_
                refine n_then ?_
                refine W_ret ?_
                refine r_blk ?_
                refine r_then ?_
                first
                  | (have hwt := wrote_f (R := R) (m := x.m) (by unfold Rp.takes; omega) hWk
                     rw [hwt] at hrv hwok
                     have hmd := md_one (b := b169) (d := ⟨⟨R.id, x.frm, Rp.ackM { R.follow x.m.term with role := 0, n := max R.n x.m.n }⟩, .slice none 0 0⟩) (LP := LP) (LgIn.nil LP)
                     have hFW : FrAt p { R.follow x.m.term with role := 0, n := max R.n x.m.n } ((p, Blk 106 (fcells { R.follow x.m.term with role := 0, n := max R.n x.m.n } (.slice la R.log.length lc) (.slice (some ⟨bv2, 0, none⟩) R.mem R.mem) (.slice ta2 tn2 tc2) (.slice aa an ac))) :: ([(bv2, Blk 4 vs2)] ++ LA)) LP :=
                       ⟨_, _, _, _, _, _, rfl, by show LgIn _ (R.follow x.m.term).log LP; rw [g4]; exact hlg, ⟨bv2, vs2, by show _ = Value.slice _ (R.follow x.m.term).mem (R.follow x.m.term).mem; rw [g2], rfl, by show _ = (R.follow x.m.term).mem; rw [g2]; exact hvl2, fun h => by cases h⟩, (fun h => by cases h), ⟨_, _, _, rfl⟩, ⟨_, _, _, rfl⟩, (fun h => by cases h), hwok⟩
                     refine end1 rfl rfl ⟨_, ?_, _, _, rfl, by rw [hrv]; exact hFW, by rw [hrv]; exact hmd⟩
                     have h9 := St.reord [[_], [_], [_], [_], LA] [2, 3, 4, 0] [1] (by simpa [cat] using hs) rfl
                     simpa [cat, fcells, Dm.cells, Rp.ackM, Mg.fn, g1, g4l] using h9)
            · skip
              try simp only [decide_eq_true_eq, decide_eq_false_iff_not, gt_iff_lt, ge_iff_le, beq_iff_eq, beq_eq_false_iff_ne, ne_eq, bne_iff_ne, bne_eq_false_iff_eq, Bool.not_eq_true', Bool.not_eq_false', Bool.not_eq_true, Bool.not_eq_false, Decidable.not_not] at hg121
              refine D_qn ?_
              refine D_q rfl rfl ?_
              refine WL_skip rfl rfl rfl ?_
              refine D_qn ?_
              refine D_q rfl rfl ?_
              refine WL_skip rfl rfl rfl ?_
              refine D_qn ?_
              refine D_q rfl rfl ?_
              refine WL_skip rfl rfl rfl ?_
              refine D_qn ?_
              refine D_q rfl rfl ?_
              refine WL_skip rfl rfl rfl ?_
              refine D_qn ?_
              refine D_q rfl rfl ?_
              refine WL_skip rfl rfl rfl ?_
              refine D_qn ?_
              refine D_q rfl rfl ?_
              refine WL_skip rfl rfl rfl ?_
              refine D_qn ?_
              refine D_q rfl rfl ?_
              refine WL_skip rfl rfl rfl ?_
              refine D_qn ?_
              refine D_q rfl rfl ?_
              refine WL_skip rfl rfl rfl ?_
              refine D_qn ?_
              refine D_q rfl rfl ?_
              refine WL_skip rfl rfl rfl ?_
              refine D_qn ?_
              refine D_q rfl rfl ?_
              refine WL_take rfl ?_
              refine s_pick_f rfl rfl rfl ?_
              refine D_qn ?_
              refine D_q rfl rfl ?_
              refine s_pick_f rfl rfl rfl ?_
              refine D_qn ?_
              refine D_nil ?_
              refine n_then ?_
              refine W_cond_f rfl ?_
              refine W_skip ?_
              refine n_then ?_
              refine W_seq ?_
              refine W_draw [(0, true, []), (1, true, []), (2, true, []), (3, true, []), (4, true, []), (5, true, []), (6, true, []), (7, true, []), (8, true, []), (9, true, []), (10, false, [])] [[], [], [1], [1, 2], [1, 2, 3], [], [5], [1, 2, 3, 4, 5, 6], [0, 1, 2, 3, 4, 5, 6, 7], [0, 1, 2, 3, 4, 5, 6, 7, 8], [0, 1, 2, 3, 4, 5, 6, 7, 8, 9]] MX (by kernel_rfl) ?_
              intro w1 hw1 hw2 hw3 hw4; replace hs := hs.redrawn hw1 hw2 hw3 hw4; clear hw1 hw2 hw3 hw4
              obtain ⟨w, rfl⟩ : ∃ w : World, w = w1 := ⟨_, rfl⟩
              refine D_q rfl rfl ?_
              refine s_move rfl rfl ?_
              refine D_qn ?_
              refine D_q rfl rfl ?_
              refine s_move rfl rfl ?_
              refine D_qn ?_
              refine D_q rfl rfl ?_
              refine s_nilCheck rfl rfl ?_
              refine D_qn ?_
              refine D_q rfl rfl ?_
              refine s_fieldAddr rfl rfl (FA106_5 _ _) ?_
              refine D_qn ?_
              refine D_q rfl rfl ?_
              first
                | refine s_load Try.isAgg3 rfl rfl (hs.cell (k := 1) rfl rfl) ?_
              refine D_qn ?_
              refine D_q rfl rfl ?_
              refine s_fieldAddr rfl rfl (FA71_5 _ _) ?_
              refine D_qn ?_
              refine D_q rfl rfl ?_
              first
                | refine s_load Try.isAgg3 rfl rfl (hs.cell (k := 0) rfl rfl) ?_
              refine D_qn ?_
              refine D_q rfl rfl ?_
              refine s_max rfl rfl rfl ?_
              rw [show (if ((R.follow x.m.term).n : Int) < (x.m.fn : Int) then (x.m.fn : Int) else ((R.follow x.m.term).n : Int)) = ((max R.n x.m.n : Nat) : Int) from by rw [g5, hfn]; split <;> omega]
              refine D_qn ?_
              refine D_q rfl rfl ?_
              refine s_nilCheck rfl rfl ?_
              refine D_qn ?_
              refine D_q rfl rfl ?_
              refine s_fieldAddr rfl rfl (FA106_5 _ _) ?_
              refine D_qn ?_
              refine D_e rfl ?_
              first
                | refine s_storeB Try.sizeOf3 rfl rfl rfl hs (kk := 1) rfl rfl ?_
              clear hs; intro w hs; try simp only [List.set_cons_zero, List.set_cons_succ, splice, List.take_succ_cons, List.take_zero, List.drop_succ_cons, List.drop_zero, List.nil_append, List.cons_append, List.length_cons, List.length_nil, Nat.reduceAdd, List.append_assoc] at hs
              refine D_en ?re ?_
              case re =>
                exact Reks_nil
              refine D_nil ?_
              refine n_then ?_
              refine W_seq ?_
              refine W_draw [(0, true, []), (1, true, []), (2, true, []), (3, true, []), (4, true, []), (5, true, []), (6, true, []), (7, true, []), (8, true, []), (9, true, []), (10, true, []), (11, true, []), (12, true, []), (13, true, []), (14, true, []), (15, true, []), (16, false, []), (17, true, [])] [[], [0], [0, 1], [0, 1, 2], [], [4], [], [6], [6, 7], [6, 7, 8], [], [10], [10, 11], [10, 11, 12], [10, 11, 12, 13], [0, 1, 2, 3, 4, 5, 6, 7, 8, 9, 10, 11, 12, 13, 14], [0, 1, 2, 3, 4, 5, 6, 7, 8, 9, 10, 11, 12, 13, 14, 15], [0, 1, 2, 3, 4, 5, 6, 7, 8, 9, 10, 11, 12, 13, 14, 15, 16]] MX (by kernel_rfl) ?_
              intro w1 hw1 hw2 hw3 hw4; replace hs := hs.redrawn hw1 hw2 hw3 hw4; clear hw1 hw2 hw3 hw4
              obtain ⟨w, rfl⟩ : ∃ w : World, w = w1 := ⟨_, rfl⟩
              refine D_q rfl rfl ?_
              refine s_move rfl rfl ?_
              refine D_qn ?_
              refine D_q rfl rfl ?_
              refine s_nilCheck rfl rfl ?_
              refine D_qn ?_
              refine D_q rfl rfl ?_
              refine s_fieldAddr rfl rfl (FA106_0 _ _) ?_
              refine D_qn ?_
              refine D_q rfl rfl ?_
              first
                | refine s_load Try.isAgg3 rfl rfl (hs.cell (k := 1) rfl rfl) ?_
              refine D_qn ?_
              refine D_q rfl rfl ?_
              refine s_fieldAddr rfl rfl (FA71_1 _ _) ?_
              refine D_qn ?_
              refine D_q rfl rfl ?_
              first
                | refine s_load Try.isAgg3 rfl rfl (hs.cell (k := 0) rfl rfl) ?_
              refine D_qn ?_
              refine D_q rfl rfl ?_
              refine s_move rfl rfl ?_
              refine D_qn ?_
              refine D_q rfl rfl ?_
              refine s_nilCheck rfl rfl ?_
              refine D_qn ?_
              refine D_q rfl rfl ?_
              refine s_fieldAddr rfl rfl (FA106_2 _ _) ?_
              refine D_qn ?_
              refine D_q rfl rfl ?_
              first
                | refine s_load Try.isAgg3 rfl rfl (hs.cell (k := 1) rfl rfl) ?_
              refine D_qn ?_
              refine D_q rfl rfl ?_
              refine s_move rfl rfl ?_
              refine D_qn ?_
              refine D_q rfl rfl ?_
              refine s_nilCheck rfl rfl ?_
              refine D_qn ?_
              refine D_q rfl rfl ?_
              refine s_fieldAddr rfl rfl (FA106_4 _ _) ?_
              refine D_qn ?_
              refine D_q rfl rfl ?_
              first
                | refine s_load Try.isAgg69 rfl rfl (hs.cell (k := 1) rfl rfl) ?_
              refine D_qn ?_
              refine D_q rfl rfl ?_
              refine s_len rfl rfl (LN69 _ _ _ _) ?_
              refine D_qn ?_
              refine D_q rfl rfl ?_
              refine s_build rfl rfl (BD71_0_1_2_3_5 _ _ _ _ _) ?_
              refine D_qn ?_
              refine D_e rfl ?_
              refine s_buildSlice rfl rfl (BS65_1 _ _ _ _ _ _ _) hs ?_; clear hs; intro b169 w hs
              refine D_en ?re ?_
              case re =>
                exact Reks_nil
              refine D_q rfl rfl ?_
              refine s_assign rfl rfl ?_
              refine D_qn ?_
              refine D_nil ?_
              refine n_then ?_
              refine W_ret ?_
              refine r_blk ?_
              refine r_then ?_
              first
                | (have hwt := wrote_f (R := R) (m := x.m) (by unfold Rp.takes; omega) hWk
                   rw [hwt] at hrv hwok
                   have hmd := md_one (b := b169) (d := ⟨⟨R.id, x.frm, Rp.ackM { R.follow x.m.term with role := 0, n := max R.n x.m.n }⟩, .slice none 0 0⟩) (LP := LP) (LgIn.nil LP)
                   have hFW : FrAt p { R.follow x.m.term with role := 0, n := max R.n x.m.n } ((p, Blk 106 (fcells { R.follow x.m.term with role := 0, n := max R.n x.m.n } (.slice la R.log.length lc) (.slice (some ⟨bv2, 0, none⟩) R.mem R.mem) (.slice ta2 tn2 tc2) (.slice aa an ac))) :: ([(bv2, Blk 4 vs2)] ++ LA)) LP :=
                     ⟨_, _, _, _, _, _, rfl, by show LgIn _ (R.follow x.m.term).log LP; rw [g4]; exact hlg, ⟨bv2, vs2, by show _ = Value.slice _ (R.follow x.m.term).mem (R.follow x.m.term).mem; rw [g2], rfl, by show _ = (R.follow x.m.term).mem; rw [g2]; exact hvl2, fun h => by cases h⟩, (fun h => by cases h), ⟨_, _, _, rfl⟩, ⟨_, _, _, rfl⟩, (fun h => by cases h), hwok⟩
                   refine end1 rfl rfl ⟨_, ?_, _, _, rfl, by rw [hrv]; exact hFW, by rw [hrv]; exact hmd⟩
                   have h9 := St.reord [[_], [_], [_], [_], LA] [2, 3, 4, 0] [1] (by simpa [cat] using hs) rfl
                   simpa [cat, fcells, Dm.cells, Rp.ackM, Mg.fn, g1, g4l] using h9)
      · skip
        try simp only [decide_eq_true_eq, decide_eq_false_iff_not, gt_iff_lt, ge_iff_le, beq_iff_eq, beq_eq_false_iff_ne, ne_eq, bne_iff_ne, bne_eq_false_iff_eq, Bool.not_eq_true', Bool.not_eq_false', Bool.not_eq_true, Bool.not_eq_false, Decidable.not_not] at hc90
        refine W_skip ?_
        refine n_blk ?_
        refine n_then ?_
        refine W_seq ?_
        refine W_seq ?_
        refine W_draw [(0, true, []), (1, true, []), (2, true, []), (3, true, []), (4, true, []), (5, true, []), (6, true, []), (7, true, []), (8, true, []), (9, true, []), (10, true, []), (11, true, []), (12, true, []), (13, true, [])] [[], [0], [0, 1], [0, 1, 2], [0, 1, 2, 3], [0, 1, 2, 3, 4], [0, 1, 2, 3, 4, 5], [0, 1, 2, 3, 4, 5, 6], [0, 1, 2, 3, 4, 5], [0, 1, 2, 3, 4, 5, 8], [0, 1, 2, 3, 4, 5, 8, 9], [0, 1, 2, 3, 4, 5, 8, 9, 10], [0, 1, 2, 3, 4, 5, 6, 7, 8, 9, 10, 11], [0, 1, 2, 3, 4, 5, 6, 7, 8, 9, 10, 11, 12]] MX (by kernel_rfl) ?_
        intro w1 hw1 hw2 hw3 hw4; replace hs := hs.redrawn hw1 hw2 hw3 hw4; clear hw1 hw2 hw3 hw4
        obtain ⟨w, rfl⟩ : ∃ w : World, w = w1 := ⟨_, rfl⟩
        refine D_q rfl rfl ?_
        refine s_move rfl rfl ?_
        refine D_qn ?_
        refine D_q rfl rfl ?_
        refine s_nilCheck rfl rfl ?_
        refine D_qn ?_
        refine D_q rfl rfl ?_
        refine s_fieldAddr rfl rfl (FA106_6 _ _) ?_
        refine D_qn ?_
        refine D_q rfl rfl ?_
        first
          | refine s_load Try.isAgg3 rfl rfl (hs.cell (k := 1) rfl rfl) ?_
        refine D_qn ?_
        refine D_q rfl rfl ?_
        refine s_neq rfl rfl rfl ?_
        refine D_qn ?_
        refine D_q rfl rfl ?_
        refine s_move rfl rfl ?_
        refine WL_case (s := 175) rfl (fun hg175 => ?_) (fun hg175 => ?_)
        · skip
          try simp only [decide_eq_true_eq, decide_eq_false_iff_not, gt_iff_lt, ge_iff_le, beq_iff_eq, beq_eq_false_iff_ne, ne_eq, bne_iff_ne, bne_eq_false_iff_eq, Bool.not_eq_true', Bool.not_eq_false', Bool.not_eq_true, Bool.not_eq_false, Decidable.not_not] at hg175
          refine D_qn ?_
          refine D_q rfl rfl ?_
          refine WL_skip rfl rfl rfl ?_
          refine D_qn ?_
          refine D_q rfl rfl ?_
          refine WL_skip rfl rfl rfl ?_
          refine D_qn ?_
          refine D_q rfl rfl ?_
          refine WL_skip rfl rfl rfl ?_
          refine D_qn ?_
          refine D_q rfl rfl ?_
          refine WL_skip rfl rfl rfl ?_
          refine D_qn ?_
          refine D_q rfl rfl ?_
          refine WL_skip rfl rfl rfl ?_
          refine D_qn ?_
          refine D_q rfl rfl ?_
          refine WL_skip rfl rfl rfl ?_
          refine D_qn ?_
          refine D_q rfl rfl ?_
          refine WL_skip rfl rfl rfl ?_
          refine D_qn ?_
          refine D_q rfl rfl ?_
          refine s_pick_t rfl rfl rfl ?_
          refine D_qn ?_
          refine D_nil ?_
          refine n_then ?_
          refine W_cond_t rfl ?_
          refine W_seq ?_
          refine W_region ?_
          refine s_assign rfl rfl ?_
          refine WL_nil ?_
          refine n_then ?_
          refine W_ret ?_
          refine r_then ?_
          first
            | (have hv : R.recv x.m x.frm = (R, []) := by rw [Rp.recv, if_neg (by omega), if_neg (by omega), if_neg (by omega), Rp.ack, if_pos (by omega)]
               exact end1 rfl rfl ⟨L0 ++ [], by rw [hL, List.append_nil]; exact hs.tail, [], L0, rfl, by rw [hv]; exact hR0, by rw [hv]; exact MdAt.nil LP⟩)
        · skip
          try simp only [decide_eq_true_eq, decide_eq_false_iff_not, gt_iff_lt, ge_iff_le, beq_iff_eq, beq_eq_false_iff_ne, ne_eq, bne_iff_ne, bne_eq_false_iff_eq, Bool.not_eq_true', Bool.not_eq_false', Bool.not_eq_true, Bool.not_eq_false, Decidable.not_not] at hg175
          refine D_qn ?_
          refine D_q rfl rfl ?_
          refine WL_take rfl ?_
          refine s_fieldAddr rfl rfl (FA71_3 _ _) ?_
          refine D_qn ?_
          refine D_q rfl rfl ?_
          refine WL_take rfl ?_
          first
            | refine s_load Try.isAgg3 rfl rfl (hs.cell (k := 0) rfl rfl) ?_
          refine D_qn ?_
          refine D_q rfl rfl ?_
          refine WL_take rfl ?_
          refine s_move rfl rfl ?_
          refine D_qn ?_
          refine D_q rfl rfl ?_
          refine WL_take rfl ?_
          refine s_nilCheck rfl rfl ?_
          refine D_qn ?_
          refine D_q rfl rfl ?_
          refine WL_take rfl ?_
          refine s_fieldAddr rfl rfl (FA106_2 _ _) ?_
          refine D_qn ?_
          refine D_q rfl rfl ?_
          refine WL_take rfl ?_
          first
            | refine s_load Try.isAgg3 rfl rfl (hs.cell (k := 1) rfl rfl) ?_
          refine D_qn ?_
          refine D_q rfl rfl ?_
          refine WL_take rfl ?_
          refine s_neq rfl rfl rfl ?_
          refine D_qn ?_
          refine D_q rfl rfl ?_
          refine s_pick_f rfl rfl rfl ?_
          refine D_qn ?_
          refine D_nil ?_
          refine n_then ?_
          refine W_cond rfl (fun hc183 => ?_) (fun hc183 => ?_)
          · skip
            try simp only [decide_eq_true_eq, decide_eq_false_iff_not, gt_iff_lt, ge_iff_le, beq_iff_eq, beq_eq_false_iff_ne, ne_eq, bne_iff_ne, bne_eq_false_iff_eq, Bool.not_eq_true', Bool.not_eq_false', Bool.not_eq_true, Bool.not_eq_false, Decidable.not_not] at hc183
            refine W_seq ?_
            refine W_region ?_
            refine s_assign rfl rfl ?_
            refine WL_nil ?_
            refine n_then ?_
            refine W_ret ?_
            refine r_then ?_
            first
              | (have hv : R.recv x.m x.frm = (R, []) := by rw [Rp.recv, if_neg (by omega), if_neg (by omega), if_neg (by omega), Rp.ack, if_pos (by omega)]
                 exact end1 rfl rfl ⟨L0 ++ [], by rw [hL, List.append_nil]; exact hs.tail, [], L0, rfl, by rw [hv]; exact hR0, by rw [hv]; exact MdAt.nil LP⟩)
          · skip
            try simp only [decide_eq_true_eq, decide_eq_false_iff_not, gt_iff_lt, ge_iff_le, beq_iff_eq, beq_eq_false_iff_ne, ne_eq, bne_iff_ne, bne_eq_false_iff_eq, Bool.not_eq_true', Bool.not_eq_false', Bool.not_eq_true, Bool.not_eq_false, Decidable.not_not] at hc183
            obtain ⟨ba, h1, rfl⟩ := hac (by omega)
            cases h1
            simp only [List.cons_append, List.nil_append] at hs
            have hfn : x.m.fn = x.m.ents := by unfold Mg.fn; rw [if_pos (by omega)]
            refine W_skip ?_
            refine n_then ?_
            refine W_seq ?_
            refine W_draw [(0, true, []), (1, true, []), (2, true, []), (3, true, []), (4, true, []), (5, true, []), (6, true, []), (7, true, []), (8, true, []), (9, true, []), (10, true, []), (11, true, []), (12, true, []), (13, true, []), (14, true, []), (15, true, []), (16, true, []), (17, true, []), (18, false, [])] [[], [0], [0, 1], [0, 1, 2], [], [4], [], [6], [6, 7], [6, 7, 8], [], [10], [6, 7, 8, 9, 10, 11], [6, 7, 8, 9, 10, 11, 12], [], [14], [6, 7, 8, 9, 10, 11, 12, 13, 14, 15], [0, 1, 2, 3, 4, 5, 6, 7, 8, 9, 10, 11, 12, 13, 14, 15, 16], [0, 1, 2, 3, 4, 5, 6, 7, 8, 9, 10, 11, 12, 13, 14, 15, 16, 17]] MX (by kernel_rfl) ?_
            intro w1 hw1 hw2 hw3 hw4; replace hs := hs.redrawn hw1 hw2 hw3 hw4; clear hw1 hw2 hw3 hw4
            obtain ⟨w, rfl⟩ : ∃ w : World, w = w1 := ⟨_, rfl⟩
            refine D_q rfl rfl ?_
            refine s_move rfl rfl ?_
            refine D_qn ?_
            refine D_q rfl rfl ?_
            refine s_nilCheck rfl rfl ?_
            refine D_qn ?_
            refine D_q rfl rfl ?_
            refine s_fieldAddr rfl rfl (FA106_9 _ _) ?_
            refine D_qn ?_
            refine D_q rfl rfl ?_
            first
              | refine s_load Try.isAgg58 rfl rfl (hs.cell (k := 1) rfl rfl) ?_
            refine D_qn ?_
            refine D_q rfl rfl ?_
            refine s_fieldAddr rfl rfl (FA71_1 _ _) ?_
            refine D_qn ?_
            refine D_q rfl rfl ?_
            first
              | refine s_load Try.isAgg3 rfl rfl (hs.cell (k := 0) rfl rfl) ?_
            refine D_qn ?_
            refine D_q rfl rfl ?_
            refine s_move rfl rfl ?_
            refine D_qn ?_
            refine D_q rfl rfl ?_
            refine s_nilCheck rfl rfl ?_
            refine D_qn ?_
            refine D_q rfl rfl ?_
            refine s_fieldAddr rfl rfl (FA106_9 _ _) ?_
            refine D_qn ?_
            refine D_q rfl rfl ?_
            first
              | refine s_load Try.isAgg58 rfl rfl (hs.cell (k := 1) rfl rfl) ?_
            refine D_qn ?_
            refine D_q rfl rfl ?_
            refine s_fieldAddr rfl rfl (FA71_1 _ _) ?_
            refine D_qn ?_
            refine D_q rfl rfl ?_
            first
              | refine s_load Try.isAgg3 rfl rfl (hs.cell (k := 0) rfl rfl) ?_
            refine D_qn ?_
            refine D_q rfl rfl ?_
            (refine s_indexAddr1 El58 rfl rfl rfl ?hx ?_; case hx => (constructor <;> first | omega | (simp; omega)))
            refine D_qn ?_
            refine D_q rfl rfl ?_
            refine s_load Try.isAgg3 rfl rfl (hs.cell (k := 3) rfl (show (i64s (ackL R))[0 + (x.frm : Int).toNat]? = some (.int .i64 (R.acks x.frm : Int)) by rw [Nat.zero_add, Int.toNat_natCast, i64s, List.getElem?_map, ackL_at hfm]; rfl)) ?_
            refine D_qn ?_
            refine D_q rfl rfl ?_
            refine s_fieldAddr rfl rfl (FA71_5 _ _) ?_
            refine D_qn ?_
            refine D_q rfl rfl ?_
            first
              | refine s_load Try.isAgg3 rfl rfl (hs.cell (k := 0) rfl rfl) ?_
            refine D_qn ?_
            refine D_q rfl rfl ?_
            refine s_max rfl rfl rfl ?_
            rw [show (if (R.acks x.frm : Int) < (x.m.fn : Int) then (x.m.fn : Int) else (R.acks x.frm : Int)) = ((max (R.acks x.frm) x.m.ents : Nat) : Int) from by rw [hfn]; split <;> omega]
            refine D_qn ?_
            refine D_q rfl rfl ?_
            (refine s_indexAddr1 El58 rfl rfl rfl ?hx ?_; case hx => (constructor <;> first | omega | (simp; omega)))
            refine D_qn ?_
            refine D_e rfl ?_
            refine s_store Try.sizeOf3 rfl rfl rfl hs (kk := 3) rfl (by simp [ackL_length]; omega) ?_
            clear hs; intro w hs
            simp only [List.set_cons_zero, List.set_cons_succ, Nat.zero_add, Int.toNat_natCast, i64s_set, ackL_acked R x.m x.frm hfm] at hs
            refine D_en ?re ?_
            case re =>
              exact Reks_nil
            refine D_nil ?_
            refine n_then ?_
            refine W_seq ?_
            refine W_region ?_
            refine s_move rfl rfl ?_
            obtain ⟨A, hA⟩ : ∃ A, A = R.acked x.m x.frm := ⟨_, rfl⟩
            have hAe : A.mem = R.mem ∧ A.log = R.log ∧ A.role = R.role ∧ A.term = R.term := by rw [hA]; exact ⟨rfl, rfl, rfl, rfl⟩
            obtain ⟨a1, a2, a3, a4⟩ := hAe
            have hAok : A.ok := by rw [hA]; exact { hok with }
            have hrv : R.recv x.m x.frm = match A.best A.log.length with
              | none => (A, [])
              | some n => ({ A with n := n }, Rp.others { A with n := n } (Rp.spreadM { A with n := n })) := by rw [Rp.recv, if_neg (by omega), if_neg (by omega), if_neg (by omega), Rp.ack, if_neg (by omega), hA]; rfl
            replace hs : St F w0 w ([] ++ ([(p, Blk 106 (fcells A (.slice la A.log.length lc) (.slice (some ⟨bv, 0, none⟩) R.mem R.mem) (.slice ta tn' tc) (.slice (some ⟨ba, 0, none⟩) A.mem A.mem)))] ++ ([(bv, Blk 4 vs)] ++ [(ba, Blk 3 (i64s (ackL A)))]))) := by
              rw [a1, a2, hA]
              simpa [fcells, Rp.acked] using hs.tail
            have hne : ba ≠ p := by have h9 := hs.nodup; simp [ids] at h9; exact fun h => h9.1.2 h.symm
            refine s_callL (M := []) (L1 := [(p, _)]) (X := [(bv, Blk 4 vs)] ++ [(ba, Blk 3 (i64s (ackL A)))]) Try.call56 rfl rfl hs (fun h => commits_ok p A la lc _ _ (some ⟨ba, 0, none⟩) A.mem _ w rfl (hs.sl (k := 2) (ds := i64s (ackL A)) rfl (Nat.le_refl _) (by intro j u hj; rw [Nat.zero_add]; exact hj)) (fun a ha => by cases ha; exact hne) (by rw [a1, a2]; omega) h) ?_
            clear hs; rintro u w L9 ⟨rfl, rfl⟩ - hs
            refine s_assign rfl rfl ?_
            refine WL_nil ?_
            refine n_then ?_
            refine W_seq ?_
            refine W_seq ?_
            refine W_region ?_
            refine s_move rfl rfl ?_
            refine WL_nil ?_
            refine n_then ?_
            refine W_cond rfl (fun hc204 => ?_) (fun hc204 => ?_)
            · skip
              try simp only [decide_eq_true_eq, decide_eq_false_iff_not, gt_iff_lt, ge_iff_le, beq_iff_eq, beq_eq_false_iff_ne, ne_eq, bne_iff_ne, bne_eq_false_iff_eq, Bool.not_eq_true', Bool.not_eq_false', Bool.not_eq_true, Bool.not_eq_false, Decidable.not_not] at hc204
              obtain ⟨n, hb⟩ := Option.isSome_iff_exists.1 hc204
              have hbl := A.best_le hb
              rw [hb] at hs hrv
              simp only at hrv
              have hAn : A.atN (some n) = { A with n := n } := rfl
              rw [hAn] at hs
              obtain ⟨B, hB⟩ : ∃ B : Rp, B = { A with n := n } := ⟨_, rfl⟩
              have hBe : B.mem = A.mem ∧ B.log = A.log ∧ ackL B = ackL A ∧ B.role = A.role := by rw [hB]; exact ⟨rfl, rfl, rfl, rfl⟩
              have hBok : B.ok := by rw [hB]; exact hAok.atN hbl.2
              rw [← hB] at hs hrv
              simp only [List.cons_append, List.nil_append] at hs
              have hlgB : LgIn (.slice la A.log.length lc) B.log LP := by rw [hBe.2.1, a2]; exact hlg
              refine W_seq ?_
              refine W_region ?_
              refine s_move rfl rfl ?_
              refine s_call Try.call53 rfl rfl (fothers_ok p B la A.log.length lc _ _ _ 2 B.spreadM w (hs.at (k := 0) rfl) (by rw [hBe.1, a1]; exact hm3) ⟨rfl, rfl, rfl⟩ (.inl ⟨rfl, rfl⟩)) ?_
              rintro r w ⟨Lr, hOr, hst⟩
              replace hs := (hs.back0 hst).swap (A := Lr)
              clear hst
              have hMd : MdAt r (B.others B.spreadM) Lr LP := ⟨_, oDms_s _ _ _, hOr, fun d hd => by
                obtain ⟨j, _, rfl⟩ := List.mem_map.1 hd
                exact hlgB⟩
              have hFR : FrAt p B ((p, Blk 106 (fcells B (.slice la A.log.length lc) (.slice (some ⟨bv, 0, none⟩) R.mem R.mem) (.slice ta tn' tc) (.slice (some ⟨ba, 0, none⟩) A.mem A.mem))) :: ([(bv, Blk 4 vs)] ++ [(ba, Blk 3 (i64s (ackL A)))])) LP :=
                ⟨_, _, _, _, _, _, rfl, hlgB, ⟨bv, vs, by rw [hBe.1, a1], rfl, by rw [hBe.1, a1]; exact hvl, fun h => by omega⟩, fun h => by omega, ⟨_, _, _, rfl⟩, ⟨_, _, _, rfl⟩, fun _ => ⟨ba, by rw [hBe.1], by rw [hBe.2.2.1]⟩, hBok⟩
              refine s_assign rfl rfl ?_
              refine WL_nil ?_
              refine n_then ?_
              refine W_ret ?_
              refine r_then ?_
              first
                | exact end1 rfl rfl ⟨_, hs, _, _, rfl, by rw [hrv]; exact hFR, by rw [hrv]; exact hMd⟩
            · skip
              try simp only [decide_eq_true_eq, decide_eq_false_iff_not, gt_iff_lt, ge_iff_le, beq_iff_eq, beq_eq_false_iff_ne, ne_eq, bne_iff_ne, bne_eq_false_iff_eq, Bool.not_eq_true', Bool.not_eq_false', Bool.not_eq_true, Bool.not_eq_false, Decidable.not_not] at hc204
              have hb : A.best A.log.length = none := by cases h : A.best A.log.length with
                | none => rfl
                | some n => rw [h] at hc204; cases hc204
              rw [hb] at hs hrv
              simp only at hrv
              have hAn : A.atN none = A := rfl
              rw [hAn] at hs
              have hFR : FrAt p A ((p, Blk 106 (fcells A (.slice la A.log.length lc) (.slice (some ⟨bv, 0, none⟩) R.mem R.mem) (.slice ta tn' tc) (.slice (some ⟨ba, 0, none⟩) A.mem A.mem))) :: ([(bv, Blk 4 vs)] ++ [(ba, Blk 3 (i64s (ackL A)))])) LP :=
                ⟨_, _, _, _, _, _, rfl, by rw [a2]; exact hlg, ⟨bv, vs, by rw [a1], rfl, by rw [a1]; exact hvl, fun h => by omega⟩, fun h => by omega, ⟨_, _, _, rfl⟩, ⟨_, _, _, rfl⟩, fun _ => ⟨ba, rfl, rfl⟩, hAok⟩
              have hMd : MdAt (.slice none 0 0) [] [] LP := MdAt.nil LP
              replace hs : St F w0 w (((p, Blk 106 (fcells A (.slice la A.log.length lc) (.slice (some ⟨bv, 0, none⟩) R.mem R.mem) (.slice ta tn' tc) (.slice (some ⟨ba, 0, none⟩) A.mem A.mem))) :: ([(bv, Blk 4 vs)] ++ [(ba, Blk 3 (i64s (ackL A)))])) ++ []) := by simpa using hs
              refine W_skip ?_
              refine n_then ?_
              refine W_seq ?_
              refine W_region ?_
              refine s_assign rfl rfl ?_
              refine WL_nil ?_
              refine n_then ?_
              refine W_ret ?_
              first
                | exact end1 rfl rfl ⟨_, hs, _, _, rfl, by rw [hrv]; exact hFR, by rw [hrv]; exact hMd⟩
end Go.Proofs.Ytkobigdfijeajaa
