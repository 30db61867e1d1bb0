/- A replica: Propose. -/
import Derived.Test.YtkobigdfijeajaaRpM
set_option linter.unusedVariables false
set_option linter.unusedSimpArgs false
namespace Go.Proofs.Ytkobigdfijeajaa
open Go.SL
def Rp.push (R : Rp) (e : En) : Rp := { R with log := R.log ++ [e], n := if R.mem < 2 then R.log.length + 1 else R.n }
def Rp.propose (R : Rp) (e : En) : Rp × List Ms × Int :=
  if R.role ≠ 2 then (R, [], 20) else if ¬ validP e.g e.x e.bs.length then (R, [], 1) else if 1000 ≤ R.log.length then (R, [], 4)
  else (R.push e, (R.push e).others (R.push e).spreadM, 0)
theorem Rp.ok.push {R : Rp} (h : R.ok) {e : En} (he : e.ok) (hl : R.log.length < 1000) : (R.push e).ok := by
  have hn := h.n
  refine { h with log := by simp [Rp.push]; omega, n := ?_, es := ?_ }
  · simp only [Rp.push, List.length_append, List.length_singleton]; split <;> omega
  · intro x hx
    simp only [Rp.push, List.mem_append, List.mem_singleton] at hx
    rcases hx with hx | rfl
    · exact h.es x hx
    · exact he
set_option maxHeartbeats 4000000 in
theorem propose_ok (p : Nat) (R : Rp) (L0 : Hp) (e : En) (v : Value) (w0 : World) (hR : RepAt p R L0) (hv : Sl w0 v e.bs.length (u8s e.bs)) (hap : ∀ a m c, v = .slice (some a) m c → u8s e.bs ≠ [] → a.block ∉ ids L0) (hB : ∀ b ∈ e.bs, isB b) (hs : St (ids L0) w0 w0 L0) :
    Ret Try.prog 13 [.pointer (some ⟨p, 0, none⟩), .agg (Em.cells ⟨e, v⟩).toArray].toArray w0 fun r w' => ∃ L', St (ids L0) w0 w' L' ∧ ∃ rv Lr LQ, r = .tuple #[rv, .int .i64 (R.propose e).2.2] ∧ L' = LQ ++ Lr ∧ RepAt p (R.propose e).1 LQ ∧ MsAt rv (R.propose e).2.1 Lr := by
  have hR0 := hR
  obtain ⟨lv, vv, av, es, LB, LP, LV, LA, hL, hlog, hvo, hac, hav, hok⟩ := hR
  obtain ⟨la, lc, rfl, hel⟩ := hlog.form
  obtain ⟨vx, rfl⟩ := hvo.val
  obtain ⟨ax, rfl⟩ := hav
  obtain ⟨va, vc, rfl, hvc⟩ := hv.len_le
  have hm1 := hok.m1
  have hm3 := hok.m3
  have hln := hok.log
  revert hap
  revert hs
  generalize ids L0 = F
  rw [hL]
  intro hs hap
  unfold rpCells at hs
  refine Ret_startL hs fun w hs => ?_
  refine Ret_of Try.func13 rfl Try.ntmps13 rfl ?_
  refine W_seq ?_
  refine W_region ?_
  first | refine s_box rfl rfl hs ?_
  clear hs; intro b3 w hs
  refine s_assign rfl rfl ?_
  refine s_assign rfl rfl ?_
  refine WL_nil ?_
  refine n_then ?_
  refine W_seq ?_
  refine W_block ?_
  refine W_seq ?_
  refine W_region ?_
  refine s_move rfl rfl ?_
  refine s_nilCheck rfl rfl ?_
  refine s_fieldAddr rfl rfl (FA89_4 _ _) ?_
  first
    | refine s_load Try.isAgg3 rfl rfl (hs.cell (k := 1) rfl rfl) ?_
  refine s_neq rfl rfl rfl ?_
  refine s_assign rfl rfl ?_
  refine WL_nil ?_
  refine n_then ?_
  refine W_cond rfl (fun hc6 => ?_) (fun hc6 => ?_)
  · skip
    try simp only [decide_eq_true_eq, decide_eq_false_iff_not, gt_iff_lt, ge_iff_le, beq_iff_eq, beq_eq_false_iff_ne, ne_eq, bne_iff_ne, bne_eq_false_iff_eq, Bool.not_eq_true', Bool.not_eq_false', Bool.not_eq_true, Bool.not_eq_false, Decidable.not_not] at hc6
    refine W_seq ?_
    refine W_region ?_
    refine s_assign rfl rfl ?_
    refine s_assign rfl rfl ?_
    refine WL_nil ?_
    refine n_then ?_
    refine W_ret ?_
    refine r_blk ?_
    refine r_then ?_
    first
      | (have hel : R.propose e = (R, [], 20) := by rw [Rp.propose, if_pos (by omega)]
         exact end2 rfl rfl rfl ⟨L0 ++ [], by rw [hL, List.append_nil]; exact hs.tail, _, [], L0, by rw [hel], rfl, by rw [hel]; exact hR0, by rw [hel]; exact MsAt.nil⟩)
  · skip
    try simp only [decide_eq_true_eq, decide_eq_false_iff_not, gt_iff_lt, ge_iff_le, beq_iff_eq, beq_eq_false_iff_ne, ne_eq, bne_iff_ne, bne_eq_false_iff_eq, Bool.not_eq_true', Bool.not_eq_false', Bool.not_eq_true, Bool.not_eq_false, Decidable.not_not] at hc6
    refine W_seq ?_
    refine W_region ?_
    first
      | refine s_loadW Try.isAgg35 Try.sizeOf35 rfl rfl hs (kk := 0) rfl rfl ?_
    refine s_call Try.call42 rfl rfl (valid_ok e.g e.x va e.bs.length vc w) ?_
    rintro r w ⟨hst, rfl⟩
    replace hs := hs.fwd1 hst
    clear hst
    refine s_not rfl rfl ?_
    refine s_assign rfl rfl ?_
    refine WL_nil ?_
    refine n_then ?_
    refine W_cond rfl (fun hc12 => ?_) (fun hc12 => ?_)
    · skip
      try simp only [decide_eq_true_eq, decide_eq_false_iff_not, gt_iff_lt, ge_iff_le, beq_iff_eq, beq_eq_false_iff_ne, ne_eq, bne_iff_ne, bne_eq_false_iff_eq, Bool.not_eq_true', Bool.not_eq_false', Bool.not_eq_true, Bool.not_eq_false, Decidable.not_not] at hc12
      refine W_seq ?_
      refine W_region ?_
      refine s_assign rfl rfl ?_
      refine s_assign rfl rfl ?_
      refine WL_nil ?_
      refine n_then ?_
      refine W_ret ?_
      refine r_blk ?_
      refine r_then ?_
      first
        | (have hel : R.propose e = (R, [], 1) := by rw [Rp.propose, if_neg (by omega), if_pos (by assumption)]
           exact end2 rfl rfl rfl ⟨L0 ++ [], by rw [hL, List.append_nil]; exact hs.tail, _, [], L0, by rw [hel], rfl, by rw [hel]; exact hR0, by rw [hel]; exact MsAt.nil⟩)
    · skip
      try simp only [decide_eq_true_eq, decide_eq_false_iff_not, gt_iff_lt, ge_iff_le, beq_iff_eq, beq_eq_false_iff_ne, ne_eq, bne_iff_ne, bne_eq_false_iff_eq, Bool.not_eq_true', Bool.not_eq_false', Bool.not_eq_true, Bool.not_eq_false, Decidable.not_not] at hc12
      refine W_seq ?_
      refine W_region ?_
      refine s_move rfl rfl ?_
      refine s_nilCheck rfl rfl ?_
      refine s_fieldAddr rfl rfl (FA89_5 _ _) ?_
      first
        | refine s_load Try.isAgg43 rfl rfl (hs.cell (k := 1) rfl rfl) ?_
      refine s_len rfl rfl (LN43 _ _ _ _) ?_
      refine s_geq rfl rfl rfl ?_
      refine s_assign rfl rfl ?_
      refine WL_nil ?_
      refine n_then ?_
      refine W_cond rfl (fun hc16 => ?_) (fun hc16 => ?_)
      · skip
        try simp only [decide_eq_true_eq, decide_eq_false_iff_not, gt_iff_lt, ge_iff_le, beq_iff_eq, beq_eq_false_iff_ne, ne_eq, bne_iff_ne, bne_eq_false_iff_eq, Bool.not_eq_true', Bool.not_eq_false', Bool.not_eq_true, Bool.not_eq_false, Decidable.not_not] at hc16
        refine W_seq ?_
        refine W_region ?_
        refine s_assign rfl rfl ?_
        refine s_assign rfl rfl ?_
        refine WL_nil ?_
        refine n_then ?_
        refine W_ret ?_
        refine r_blk ?_
        refine r_then ?_
        first
          | (have hel : R.propose e = (R, [], 4) := by rw [Rp.propose, if_neg (by omega), if_neg (by simpa), if_pos (by omega)]
             exact end2 rfl rfl rfl ⟨L0 ++ [], by rw [hL, List.append_nil]; exact hs.tail, _, [], L0, by rw [hel], rfl, by rw [hel]; exact hR0, by rw [hel]; exact MsAt.nil⟩)
      · skip
        try simp only [decide_eq_true_eq, decide_eq_false_iff_not, gt_iff_lt, ge_iff_le, beq_iff_eq, beq_eq_false_iff_ne, ne_eq, bne_iff_ne, bne_eq_false_iff_eq, Bool.not_eq_true', Bool.not_eq_false', Bool.not_eq_true, Bool.not_eq_false, Decidable.not_not] at hc16
        refine W_skip ?_
        refine n_blk ?_
        refine n_then ?_
        refine W_seq ?_
        refine W_draw [(0, true, []), (1, true, []), (2, true, []), (3, true, []), (4, true, []), (5, true, []), (6, false, [0, 1, 2, 3, 4]), (7, false, [0, 1, 2, 3, 4]), (8, false, [0]), (9, true, []), (10, true, []), (11, false, [])] [[], [], [1], [1, 2], [1, 2, 3], [], [5], [5, 6], [1, 2, 3, 4, 5, 6, 7], [0, 1, 2, 3, 4, 5, 6, 7, 8], [0, 1, 2, 3, 4, 5, 6, 7, 8, 9], [0, 1, 2, 3, 4, 5, 6, 7, 8, 9, 10]] MX (by kernel_rfl) ?_
        intro w1 hw1 hw2 hw3 hw4; replace hs := hs.redrawn hw1 hw2 hw3 hw4; clear hw1 hw2 hw3 hw4
        obtain ⟨w, rfl⟩ : ∃ w : World, w = w1 := ⟨_, rfl⟩
        refine D_q rfl rfl ?_
        refine s_move rfl rfl ?_
        refine D_qn ?_
        refine D_q rfl rfl ?_
        refine s_move rfl rfl ?_
        refine D_qn ?_
        refine D_q rfl rfl ?_
        refine s_nilCheck rfl rfl ?_
        refine D_qn ?_
        refine D_q rfl rfl ?_
        refine s_fieldAddr rfl rfl (FA89_5 _ _) ?_
        refine D_qn ?_
        refine D_q rfl rfl ?_
        first
          | refine s_load Try.isAgg43 rfl rfl (hs.cell (k := 1) rfl rfl) ?_
        refine D_qn ?_
        refine D_q rfl rfl ?_
        first
          | refine s_loadW Try.isAgg35 Try.sizeOf35 rfl rfl hs (kk := 0) rfl rfl ?_
        refine D_qn ?_
        refine D_e rfl ?_
        have hval : validP e.g e.x e.bs.length := by assumption
        refine s_call Try.call44 rfl rfl (separate_ok e _ w (hv.fwd hs.fwd hap) (by have := hval; unfold validP at this; omega)) ?_
        rintro r w ⟨v', Lr, rfl, hOr, hst⟩
        replace hs := hs.back0 hst
        clear hst
        obtain ⟨_, qc, qa, rfl, hql⟩ := hOr.form
        subst hql
        replace hs : St F w0 w ((b3, Blk 35 (Em.cells ⟨e, .slice va e.bs.length vc⟩)) :: (p, Blk 89 (rpCells R (.slice la R.log.length lc) (.map vx) (.map ax))) :: (LB ++ (LP ++ (Lr ++ (LV ++ LA))))) := by
          simpa [cat, rpCells, Em.cells] using St.reord [Lr, [_], [_], LB, LP, LV, LA] [1, 2, 3, 4, 0, 5, 6] [] (by simpa [cat, rpCells, Em.cells] using hs) rfl
        simp only [Em.cells, rpCells] at hs ⊢
        refine D_en ?re ?_
        case re =>
          refine Reks_cons rfl rfl rfl rfl ?_ ?_
          · skip
            refine s_move rfl rfl ?_
            exact Rek_end rfl
          refine Reks_cons rfl rfl rfl rfl ?_ ?_
          · skip
            refine s_move rfl rfl ?_
            exact Rek_end rfl
          refine Reks_cons rfl rfl rfl rfl ?_ ?_
          · skip
            refine s_nilCheck rfl rfl ?_
            exact Rek_end rfl
          refine Reks_cons rfl rfl rfl rfl ?_ ?_
          · skip
            refine s_fieldAddr rfl rfl (FA89_5 _ _) ?_
            exact Rek_end rfl
          refine Reks_cons rfl rfl rfl rfl ?_ ?_
          · skip
            first
              | refine s_load Try.isAgg43 rfl rfl (hs.cell (k := 1) rfl rfl) ?_
            exact Rek_end rfl
          exact Reks_nil
        refine D_e rfl ?_
        refine s_buildSlice rfl rfl (BS43_1 _ _ _ _ _ _) hs ?_; clear hs; intro b30 w hs
        refine D_en ?re ?_
        case re =>
          refine Reks_cons rfl rfl rfl rfl ?_ ?_
          · skip
            refine s_move rfl rfl ?_
            exact Rek_end rfl
          refine Reks_cons rfl rfl rfl rfl ?_ ?_
          · skip
            refine s_move rfl rfl ?_
            exact Rek_end rfl
          refine Reks_cons rfl rfl rfl rfl ?_ ?_
          · skip
            refine s_nilCheck rfl rfl ?_
            exact Rek_end rfl
          refine Reks_cons rfl rfl rfl rfl ?_ ?_
          · skip
            refine s_fieldAddr rfl rfl (FA89_5 _ _) ?_
            exact Rek_end rfl
          refine Reks_cons rfl rfl rfl rfl ?_ ?_
          · skip
            first
              | refine s_load Try.isAgg43 rfl rfl (hs.cell (k := 2) rfl rfl) ?_
            exact Rek_end rfl
          exact Reks_nil
        refine D_e rfl ?_
        have hLO := hlog.1
        rw [hel] at hLO
        refine s_appendM (M := [_] ++ ([_] ++ [_])) (X := LP ++ (Lr ++ (LV ++ LA))) El43 rfl rfl rfl hLO (by simpa [cat] using hs) (hs.sl (k := 0) (ds := [_, _, _, _, _, _]) rfl (Nat.le_refl _) (by intro j u hj; rw [Nat.zero_add]; exact hj)) rfl (by simp [Value.oneCell']) (by omega) ?_
        clear hs; intro v' w LB2 hO2 hs
        obtain ⟨_, yc2, ya2, rfl, hyv⟩ := hO2.form
        subst hyv
        simp only [List.cons_append, List.nil_append] at hs
        refine D_en ?re ?_
        case re =>
          refine Reks_cons rfl rfl rfl rfl ?_ ?_
          · skip
            refine s_move rfl rfl ?_
            exact Rek_end rfl
          exact Reks_nil
        refine D_q rfl rfl ?_
        refine s_nilCheck rfl rfl ?_
        refine D_qn ?_
        refine D_q rfl rfl ?_
        refine s_fieldAddr rfl rfl (FA89_5 _ _) ?_
        refine D_qn ?_
        refine D_e rfl ?_
        first
          | refine s_storeB Try.sizeOf43 rfl rfl rfl hs (kk := 2) rfl rfl ?_
        clear hs; intro w hs; try simp only [List.set_cons_zero, List.set_cons_succ, splice, List.take_succ_cons, List.take_zero, List.drop_succ_cons, List.drop_zero, List.nil_append, List.cons_append, List.length_cons, List.length_nil, Nat.reduceAdd, List.append_assoc] at hs
        refine D_en ?re ?_
        case re =>
          exact Reks_nil
        refine D_nil ?_
        refine n_then ?_
        refine W_seq ?_
        refine W_seq ?_
        refine W_region ?_
        refine s_move rfl rfl ?_
        have hpr : R.propose e = (R.push e, (R.push e).others (R.push e).spreadM, 0) := by rw [Rp.propose, if_neg (by omega), if_neg (by simpa using hval), if_neg (by omega)]
        have hpok : (R.push e).ok := hok.push ⟨hval, hB⟩ (by omega)
        have hlogP : LogAt (R.push e).log (.slice ya2 (R.log.length + 1) yc2) (es ++ [⟨e, .slice qa e.bs.length qc⟩]) LB2 (LP ++ Lr) := by
          refine ⟨?_, ?_, ?_⟩
          · simpa [emcells_append, emcells, Em.cells, hel] using hO2
          · intro y hy
            rcases List.mem_append.1 hy with hy | hy
            · exact RdS.mono' (hlog.2.1 y hy) fun q hq => by simp [hq]
            · obtain rfl := List.mem_singleton.1 hy; exact RdS.mono' hOr.rdS fun q hq => by simp [hq]
          · rw [ens_append, hlog.2.2]; rfl
        refine s_call Try.call38 rfl rfl (majority_ok p _ R.mem 1 w (hs.at (k := 2) rfl) rfl (by omega)) ?_
        rintro r w ⟨hst, rfl⟩
        replace hs := hs.back0 hst
        clear hst
        simp only [List.nil_append] at hs
        refine WL_nil ?_
        refine n_then ?_
        refine W_cond rfl (fun hc35 => ?_) (fun hc35 => ?_)
        · skip
          try simp only [decide_eq_true_eq, decide_eq_false_iff_not, gt_iff_lt, ge_iff_le, beq_iff_eq, beq_eq_false_iff_ne, ne_eq, bne_iff_ne, bne_eq_false_iff_eq, Bool.not_eq_true', Bool.not_eq_false', Bool.not_eq_true, Bool.not_eq_false, Decidable.not_not] at hc35
          refine W_region ?_
          refine s_move rfl rfl ?_
          refine s_move rfl rfl ?_
          refine s_nilCheck rfl rfl ?_
          refine s_fieldAddr rfl rfl (FA89_5 _ _) ?_
          first
            | refine s_load Try.isAgg43 rfl rfl (hs.cell (k := 2) rfl rfl) ?_
          refine s_len rfl rfl (LN43 _ _ _ _) ?_
          refine s_nilCheck rfl rfl ?_
          refine s_fieldAddr rfl rfl (FA89_6 _ _) ?_
          first
            | refine s_storeB Try.sizeOf3 rfl rfl rfl hs (kk := 2) rfl rfl ?_
          clear hs; intro w hs; try simp only [List.set_cons_zero, List.set_cons_succ, splice, List.take_succ_cons, List.take_zero, List.drop_succ_cons, List.drop_zero, List.nil_append, List.cons_append, List.length_cons, List.length_nil, Nat.reduceAdd, List.append_assoc] at hs
          refine WL_nil ?_
          refine n_then ?_
          refine W_seq ?_
          refine W_region ?_
          refine s_move rfl rfl ?_
          have hRF : RepAt p (R.push e) ((p, Blk 89 (rpCells (R.push e) (.slice ya2 (R.log.length + 1) yc2) (.map vx) (.map ax))) :: (LB2 ++ ((LP ++ Lr) ++ (LV ++ LA)))) :=
            ⟨_, _, _, _, LB2, LP ++ Lr, LV, LA, rfl, hlogP, hvo, fun h => by obtain ⟨b, o, kvs, h1, h2, h3, h4⟩ := hac h; exact ⟨b, o, kvs, h1, h2, h3, ⟨h4.mem, h4.none⟩⟩, ⟨_, rfl⟩, hpok⟩
          replace hs : St F w0 w ((p, Blk 89 (rpCells (R.push e) (.slice ya2 (R.log.length + 1) yc2) (.map vx) (.map ax))) :: (LB2 ++ ((LP ++ Lr) ++ (LV ++ LA)))) := by
            have h9 := St.reord [[_], [_], [_], LB2, LP, Lr, LV, LA] [2, 3, 4, 5, 6, 7] [0, 1] (by simpa [cat, rpCells] using hs) rfl
            first
              | (have hn : ((R.push e).n : Int) = (R.log.length : Int) + 1 := by simp only [Rp.push]; rw [if_pos (by omega)]; omega
                 unfold rpCells; rw [hn]; simpa [cat, Rp.push] using h9)
          refine s_call Try.call37 rfl rfl (spread_ok p (R.push e) _ w hRF hs.own) ?_
          rintro r w ⟨Lr2, hMs, hst⟩
          replace hs := (hs.back0 hst).swap (A := Lr2)
          clear hst
          refine s_assign rfl rfl ?_
          refine s_assign rfl rfl ?_
          refine WL_nil ?_
          refine n_then ?_
          refine W_ret ?_
          first
            | exact end2 rfl rfl rfl ⟨_, hs, _, Lr2, _, by rw [hpr], rfl, by rw [hpr]; exact hRF, by rw [hpr]; exact hMs⟩
        · skip
          try simp only [decide_eq_true_eq, decide_eq_false_iff_not, gt_iff_lt, ge_iff_le, beq_iff_eq, beq_eq_false_iff_ne, ne_eq, bne_iff_ne, bne_eq_false_iff_eq, Bool.not_eq_true', Bool.not_eq_false', Bool.not_eq_true, Bool.not_eq_false, Decidable.not_not] at hc35
          refine W_skip ?_
          refine n_then ?_
          refine W_seq ?_
          refine W_region ?_
          refine s_move rfl rfl ?_
          have hRF : RepAt p (R.push e) ((p, Blk 89 (rpCells (R.push e) (.slice ya2 (R.log.length + 1) yc2) (.map vx) (.map ax))) :: (LB2 ++ ((LP ++ Lr) ++ (LV ++ LA)))) :=
            ⟨_, _, _, _, LB2, LP ++ Lr, LV, LA, rfl, hlogP, hvo, fun h => by obtain ⟨b, o, kvs, h1, h2, h3, h4⟩ := hac h; exact ⟨b, o, kvs, h1, h2, h3, ⟨h4.mem, h4.none⟩⟩, ⟨_, rfl⟩, hpok⟩
          replace hs : St F w0 w ((p, Blk 89 (rpCells (R.push e) (.slice ya2 (R.log.length + 1) yc2) (.map vx) (.map ax))) :: (LB2 ++ ((LP ++ Lr) ++ (LV ++ LA)))) := by
            have h9 := St.reord [[_], [_], [_], LB2, LP, Lr, LV, LA] [2, 3, 4, 5, 6, 7] [0, 1] (by simpa [cat, rpCells] using hs) rfl
            first
              | (have hn : ((R.push e).n : Int) = (R.n : Int) := by simp only [Rp.push]; rw [if_neg (by omega)]
                 unfold rpCells; rw [hn]; simpa [cat, Rp.push] using h9)
          refine s_call Try.call37 rfl rfl (spread_ok p (R.push e) _ w hRF hs.own) ?_
          rintro r w ⟨Lr2, hMs, hst⟩
          replace hs := (hs.back0 hst).swap (A := Lr2)
          clear hst
          refine s_assign rfl rfl ?_
          refine s_assign rfl rfl ?_
          refine WL_nil ?_
          refine n_then ?_
          refine W_ret ?_
          first
            | exact end2 rfl rfl rfl ⟨_, hs, _, Lr2, _, by rw [hpr], rfl, by rw [hpr]; exact hRF, by rw [hpr]; exact hMs⟩
end Go.Proofs.Ytkobigdfijeajaa
