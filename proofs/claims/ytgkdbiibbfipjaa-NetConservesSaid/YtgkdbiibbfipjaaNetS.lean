/- Contracts of the reference model of package net, second part. -/
import Derived.Test.YtgkdbiibbfipjaaNetR
set_option linter.unusedVariables false
set_option linter.unusedSimpArgs false
namespace Go.Proofs.Ytgkdbiibbfipjaa
open Go.SL
theorem rcopy_no (p : Nat) (gs : List Int) (rs : List RMsg) (i : Int) (L0 : Hp) (w0 : World) (hN : RefAt p gs rs L0) (hs : St (ids L0) w0 w0 L0) (hin : ¬ (0 ≤ i ∧ i < rs.length)) :
    Ret Try.prog 18 [.pointer (some ⟨p, 0, none⟩), .int .i64 i].toArray w0 fun r w' => ∃ L', St (ids L0) w0 w' L' ∧ r = .int .i64 9 ∧ RefAt p gs rs L' := by
  obtain ⟨gv, Lg, lv, Ll, hL, hG, hO⟩ := hN
  obtain ⟨gl, gc, ga, rfl, rfl⟩ := hG.form
  obtain ⟨tl, tc, ta, rfl, rfl⟩ := hO.form
  replace hs : St (ids L0) w0 w0 ((p, Blk 45 [.slice ga gs.length gc, .slice ta rs.length tc]) :: (Lg ++ Ll)) := by rw [hL] at hs ⊢; exact hs
  refine Ret_startL hs fun w hs => ?_
  refine Ret_of Try.func18 rfl Try.ntmps18 rfl ?_
  refine W_seq ?_
  refine W_region ?_
  refine s_assign rfl rfl ?_
  refine WL_nil ?_
  refine n_then ?_
  refine W_seq ?_
  refine W_seq ?_
  refine W_region ?_
  refine s_move rfl rfl ?_
  refine s_lss rfl rfl rfl ?_
  refine s_move rfl rfl ?_
  refine WL_case (s := 7) rfl (fun hg7 => ?_) (fun hg7 => ?_)
  · skip
    simp only [decide_eq_true_eq, decide_eq_false_iff_not] at hg7
    refine WL_skip rfl rfl rfl ?_
    refine WL_skip rfl rfl rfl ?_
    refine WL_skip rfl rfl rfl ?_
    refine WL_skip rfl rfl rfl ?_
    refine WL_skip rfl rfl rfl ?_
    refine WL_skip rfl rfl rfl ?_
    refine WL_skip rfl rfl rfl ?_
    refine s_pick_t rfl rfl rfl ?_
    refine WL_nil ?_
    refine n_then ?_
    refine W_cond_t rfl ?_
    refine W_seq ?_
    refine W_region ?_
    refine s_assign rfl rfl ?_
    refine WL_nil ?_
    refine n_then ?_
    refine W_ret ?_
    refine r_then ?_
    exact end1 rfl rfl ⟨_, hs, rfl, _, Lg, _, Ll, rfl, hG, hO⟩
  · skip
    simp only [decide_eq_true_eq, decide_eq_false_iff_not] at hg7
    refine WL_take rfl ?_
    refine s_move rfl rfl ?_
    refine WL_take rfl ?_
    refine s_move rfl rfl ?_
    refine WL_take rfl ?_
    refine s_nilCheck rfl rfl ?_
    refine WL_take rfl ?_
    refine s_fieldAddr rfl rfl (FA45_1 _ _) ?_
    refine WL_take rfl ?_
    first
      | refine s_load Try.isAgg43 rfl rfl (hs.cell (k := 0) rfl rfl) ?_
      | refine s_load Try.isAgg43 rfl rfl (hs.cell (k := 1) rfl rfl) ?_
      | refine s_load Try.isAgg43 rfl rfl (hs.cell (k := 2) rfl rfl) ?_
      | refine s_load Try.isAgg43 rfl rfl (hs.cell (k := 3) rfl rfl) ?_
      | refine s_load Try.isAgg43 rfl rfl (hs.cell (k := 4) rfl rfl) ?_
      | refine s_load Try.isAgg43 rfl rfl (hs.cell (k := 5) rfl rfl) ?_
      | refine s_load Try.isAgg43 rfl rfl (hs.cell (k := 6) rfl rfl) ?_
      | refine s_load Try.isAgg43 rfl rfl (hs.cell (k := 7) rfl rfl) ?_
      | refine s_load Try.isAgg43 rfl rfl (hs.cell (k := 8) rfl rfl) ?_
      | refine s_load Try.isAgg43 rfl rfl (hs.cell (k := 9) rfl rfl) ?_
    refine WL_take rfl ?_
    refine s_len rfl rfl (LN43 _ _ _ _) ?_
    refine WL_take rfl ?_
    refine s_geq rfl rfl rfl ?_
    refine s_pick_f rfl rfl rfl ?_
    refine WL_nil ?_
    refine n_then ?_
    refine W_cond_kt rfl ((by simp; omega)) ?_
    refine W_seq ?_
    refine W_region ?_
    refine s_assign rfl rfl ?_
    refine WL_nil ?_
    refine n_then ?_
    refine W_ret ?_
    refine r_then ?_
    exact end1 rfl rfl ⟨_, hs, rfl, _, Lg, _, Ll, rfl, hG, hO⟩
theorem rcopy_yes (p : Nat) (gs : List Int) (rs : List RMsg) (i : Int) (m : RMsg) (L0 : Hp) (w0 : World) (hN : RefAt p gs rs L0) (hs : St (ids L0) w0 w0 L0) (hin : 0 ≤ i ∧ i < rs.length) (hm : rs[i.toNat]? = some m) (hml : rs.length ≤ 1000) :
    Ret Try.prog 18 [.pointer (some ⟨p, 0, none⟩), .int .i64 i].toArray w0 fun r w' => ∃ L', St (ids L0) w0 w' L' ∧
      ((1000 ≤ rs.length ∧ r = .int .i64 4 ∧ RefAt p gs rs L') ∨ (rs.length < 1000 ∧ r = .int .i64 0 ∧ RefAt p gs (rs ++ [m]) L')) := by
  obtain ⟨gv, Lg, lv, Ll, hL, hG, hO⟩ := hN
  obtain ⟨gl, gc, ga, rfl, rfl⟩ := hG.form
  obtain ⟨tl, tc, ta, rfl, rfl⟩ := hO.form
  replace hs : St (ids L0) w0 w0 ((p, Blk 45 [.slice ga gs.length gc, .slice ta rs.length tc]) :: (Lg ++ Ll)) := by rw [hL] at hs ⊢; exact hs
  refine Ret_startL hs fun w hs => ?_
  obtain ⟨g, cap, sp, hv, hcap, hLl⟩ := hO.block (by omega)
  cases hv
  subst hLl
  have c0 : (rcells rs ++ sp)[0 + i.toNat * 3 + 0]? = some (.int .i64 m.f) := by rw [Nat.zero_add, List.getElem?_append_left (by rw [rcells_length]; omega)]; exact rcells_at (by omega) hm
  have c1 : (rcells rs ++ sp)[0 + i.toNat * 3 + 1]? = some (.int .i64 m.t) := by rw [Nat.zero_add, List.getElem?_append_left (by rw [rcells_length]; omega)]; exact rcells_at (by omega) hm
  have c2 : (rcells rs ++ sp)[0 + i.toNat * 3 + 2]? = some (.slice m.a m.n m.c) := by rw [Nat.zero_add, List.getElem?_append_left (by rw [rcells_length]; omega)]; exact rcells_at (by omega) hm
  replace hs : St (ids L0) w0 w (_ :: _ :: Lg) := St.reord [[_], Lg, [_]] [0, 2, 1] [] hs rfl
  refine Ret_of Try.func18 rfl Try.ntmps18 rfl ?_
  refine W_seq ?_
  refine W_region ?_
  refine s_assign rfl rfl ?_
  refine WL_nil ?_
  refine n_then ?_
  refine W_seq ?_
  refine W_seq ?_
  refine W_region ?_
  refine s_move rfl rfl ?_
  refine s_lss rfl rfl rfl ?_
  refine s_move rfl rfl ?_
  refine WL_know (s := 7) (c := false) rfl ((by simp; omega)) ?_
  refine WL_take rfl ?_
  refine s_move rfl rfl ?_
  refine WL_take rfl ?_
  refine s_move rfl rfl ?_
  refine WL_take rfl ?_
  refine s_nilCheck rfl rfl ?_
  refine WL_take rfl ?_
  refine s_fieldAddr rfl rfl (FA45_1 _ _) ?_
  refine WL_take rfl ?_
  first
    | refine s_load Try.isAgg43 rfl rfl (hs.cell (k := 0) rfl rfl) ?_
    | refine s_load Try.isAgg43 rfl rfl (hs.cell (k := 1) rfl rfl) ?_
    | refine s_load Try.isAgg43 rfl rfl (hs.cell (k := 2) rfl rfl) ?_
    | refine s_load Try.isAgg43 rfl rfl (hs.cell (k := 3) rfl rfl) ?_
    | refine s_load Try.isAgg43 rfl rfl (hs.cell (k := 4) rfl rfl) ?_
    | refine s_load Try.isAgg43 rfl rfl (hs.cell (k := 5) rfl rfl) ?_
    | refine s_load Try.isAgg43 rfl rfl (hs.cell (k := 6) rfl rfl) ?_
    | refine s_load Try.isAgg43 rfl rfl (hs.cell (k := 7) rfl rfl) ?_
    | refine s_load Try.isAgg43 rfl rfl (hs.cell (k := 8) rfl rfl) ?_
    | refine s_load Try.isAgg43 rfl rfl (hs.cell (k := 9) rfl rfl) ?_
  refine WL_take rfl ?_
  refine s_len rfl rfl (LN43 _ _ _ _) ?_
  refine WL_take rfl ?_
  refine s_geq rfl rfl rfl ?_
  refine s_pick_f rfl rfl rfl ?_
  refine WL_nil ?_
  refine n_then ?_
  refine W_cond_kf rfl ((by simp; omega)) ?_
  refine W_skip ?_
  refine n_then ?_
  refine W_seq ?_
  refine W_seq ?_
  refine W_region ?_
  refine s_move rfl rfl ?_
  refine s_nilCheck rfl rfl ?_
  refine s_fieldAddr rfl rfl (FA45_1 _ _) ?_
  first
    | refine s_load Try.isAgg43 rfl rfl (hs.cell (k := 0) rfl rfl) ?_
    | refine s_load Try.isAgg43 rfl rfl (hs.cell (k := 1) rfl rfl) ?_
    | refine s_load Try.isAgg43 rfl rfl (hs.cell (k := 2) rfl rfl) ?_
    | refine s_load Try.isAgg43 rfl rfl (hs.cell (k := 3) rfl rfl) ?_
    | refine s_load Try.isAgg43 rfl rfl (hs.cell (k := 4) rfl rfl) ?_
    | refine s_load Try.isAgg43 rfl rfl (hs.cell (k := 5) rfl rfl) ?_
    | refine s_load Try.isAgg43 rfl rfl (hs.cell (k := 6) rfl rfl) ?_
    | refine s_load Try.isAgg43 rfl rfl (hs.cell (k := 7) rfl rfl) ?_
    | refine s_load Try.isAgg43 rfl rfl (hs.cell (k := 8) rfl rfl) ?_
    | refine s_load Try.isAgg43 rfl rfl (hs.cell (k := 9) rfl rfl) ?_
  refine s_len rfl rfl (LN43 _ _ _ _) ?_
  refine s_geq rfl rfl rfl ?_
  refine WL_nil ?_
  refine n_then ?_
  refine W_cond rfl (fun hc21 => ?_) (fun hc21 => ?_)
  · skip
    simp only [decide_eq_true_eq, decide_eq_false_iff_not] at hc21
    refine W_seq ?_
    refine W_region ?_
    refine s_assign rfl rfl ?_
    refine WL_nil ?_
    refine n_then ?_
    refine W_ret ?_
    refine r_then ?_
    refine end1 rfl rfl ?_
    first
      | exact ⟨_, St.reord [[_], [_], Lg] [0, 2, 1] [] hs rfl, Or.inl ⟨by omega, rfl, _, Lg, _, [_], rfl, hG, hO⟩⟩
      | (refine ⟨_, St.reord [[_], [_], Ll', Lg] [1, 3, 2] [0] hs rfl, Or.inr ⟨by omega, rfl, _, Lg, _, Ll', rfl, hG, ?_⟩⟩
         rw [List.length_append, rcells_append]
         simpa [rcells] using hO')
  · skip
    simp only [decide_eq_true_eq, decide_eq_false_iff_not] at hc21
    refine W_skip ?_
    refine n_then ?_
    refine W_seq ?_
    refine W_draw [(0, true, []), (1, true, []), (2, true, []), (3, true, []), (4, true, []), (5, true, []), (6, true, []), (7, true, []), (8, true, []), (9, true, []), (10, true, []), (11, true, []), (12, false, [0, 1, 2, 3, 4]), (13, false, [0]), (14, true, []), (15, true, []), (16, false, [])] MX (by kernel_rfl) ?_
    intro w1 hw1 hw2 hw3 hw4; replace hs := hs.redrawn hw1 hw2 hw3 hw4; clear hw1 hw2 hw3 hw4
    obtain ⟨w, rfl⟩ : ∃ w : World, w = w1 := ⟨_, rfl⟩
    refine D_q rfl rfl ?_
    refine s_move rfl rfl ?_
    refine D_qn ?_
    refine D_q rfl rfl ?_
    refine s_move rfl rfl ?_
    refine D_qn ?_
    refine D_q rfl rfl ?_
    refine s_nilCheck rfl rfl ?_
    refine D_qn ?_
    refine D_q rfl rfl ?_
    refine s_fieldAddr rfl rfl (FA45_1 _ _) ?_
    refine D_qn ?_
    refine D_q rfl rfl ?_
    first
      | refine s_load Try.isAgg43 rfl rfl (hs.cell (k := 0) rfl rfl) ?_
      | refine s_load Try.isAgg43 rfl rfl (hs.cell (k := 1) rfl rfl) ?_
      | refine s_load Try.isAgg43 rfl rfl (hs.cell (k := 2) rfl rfl) ?_
      | refine s_load Try.isAgg43 rfl rfl (hs.cell (k := 3) rfl rfl) ?_
      | refine s_load Try.isAgg43 rfl rfl (hs.cell (k := 4) rfl rfl) ?_
      | refine s_load Try.isAgg43 rfl rfl (hs.cell (k := 5) rfl rfl) ?_
      | refine s_load Try.isAgg43 rfl rfl (hs.cell (k := 6) rfl rfl) ?_
      | refine s_load Try.isAgg43 rfl rfl (hs.cell (k := 7) rfl rfl) ?_
      | refine s_load Try.isAgg43 rfl rfl (hs.cell (k := 8) rfl rfl) ?_
      | refine s_load Try.isAgg43 rfl rfl (hs.cell (k := 9) rfl rfl) ?_
    refine D_qn ?_
    refine D_q rfl rfl ?_
    refine s_move rfl rfl ?_
    refine D_qn ?_
    refine D_q rfl rfl ?_
    refine s_nilCheck rfl rfl ?_
    refine D_qn ?_
    refine D_q rfl rfl ?_
    refine s_fieldAddr rfl rfl (FA45_1 _ _) ?_
    refine D_qn ?_
    refine D_q rfl rfl ?_
    first
      | refine s_load Try.isAgg43 rfl rfl (hs.cell (k := 0) rfl rfl) ?_
      | refine s_load Try.isAgg43 rfl rfl (hs.cell (k := 1) rfl rfl) ?_
      | refine s_load Try.isAgg43 rfl rfl (hs.cell (k := 2) rfl rfl) ?_
      | refine s_load Try.isAgg43 rfl rfl (hs.cell (k := 3) rfl rfl) ?_
      | refine s_load Try.isAgg43 rfl rfl (hs.cell (k := 4) rfl rfl) ?_
      | refine s_load Try.isAgg43 rfl rfl (hs.cell (k := 5) rfl rfl) ?_
      | refine s_load Try.isAgg43 rfl rfl (hs.cell (k := 6) rfl rfl) ?_
      | refine s_load Try.isAgg43 rfl rfl (hs.cell (k := 7) rfl rfl) ?_
      | refine s_load Try.isAgg43 rfl rfl (hs.cell (k := 8) rfl rfl) ?_
      | refine s_load Try.isAgg43 rfl rfl (hs.cell (k := 9) rfl rfl) ?_
    refine D_qn ?_
    refine D_q rfl rfl ?_
    refine s_move rfl rfl ?_
    refine D_qn ?_
    refine D_q rfl rfl ?_
    (refine s_indexAddr El43 rfl rfl rfl ?hx ?_; case hx => (constructor <;> first | omega | (simp; omega)))
    refine D_qn ?_
    refine D_q rfl rfl ?_
    refine s_load_3 Try.isAgg32 Try.sizeOf32 rfl rfl (hs.cell (k := 1) (fz := (0, 0)) rfl c0) (hs.cell (k := 1) (fz := (0, 0)) rfl c1) (hs.cell (k := 1) (fz := (0, 0)) rfl c2) ?_
    refine D_qn ?_
    refine D_e rfl ?_
    refine s_buildSlice rfl rfl (BS43_1 _ _ _) hs ?_; clear hs; intro b34 w hs
    refine D_en ?re ?_
    case re =>
      refine Reks_cons rfl rfl rfl rfl ?_ ?_
      · skip
        refine s_move rfl rfl ?_
        exact Rek_end rfl
      refine Reks_cons rfl rfl rfl rfl ?_ ?_
      · skip
        refine s_move rfl rfl ?_
        exact Rek_end rfl
      refine Reks_cons rfl rfl rfl rfl ?_ ?_
      · skip
        refine s_nilCheck rfl rfl ?_
        exact Rek_end rfl
      refine Reks_cons rfl rfl rfl rfl ?_ ?_
      · skip
        refine s_fieldAddr rfl rfl (FA45_1 _ _) ?_
        exact Rek_end rfl
      refine Reks_cons rfl rfl rfl rfl ?_ ?_
      · skip
        first
          | refine s_load Try.isAgg43 rfl rfl (hs.cell (k := 0) rfl rfl) ?_
          | refine s_load Try.isAgg43 rfl rfl (hs.cell (k := 1) rfl rfl) ?_
          | refine s_load Try.isAgg43 rfl rfl (hs.cell (k := 2) rfl rfl) ?_
          | refine s_load Try.isAgg43 rfl rfl (hs.cell (k := 3) rfl rfl) ?_
          | refine s_load Try.isAgg43 rfl rfl (hs.cell (k := 4) rfl rfl) ?_
          | refine s_load Try.isAgg43 rfl rfl (hs.cell (k := 5) rfl rfl) ?_
          | refine s_load Try.isAgg43 rfl rfl (hs.cell (k := 6) rfl rfl) ?_
          | refine s_load Try.isAgg43 rfl rfl (hs.cell (k := 7) rfl rfl) ?_
          | refine s_load Try.isAgg43 rfl rfl (hs.cell (k := 8) rfl rfl) ?_
          | refine s_load Try.isAgg43 rfl rfl (hs.cell (k := 9) rfl rfl) ?_
        exact Rek_end rfl
      exact Reks_nil
    refine D_e rfl ?_
    refine s_appendM (M := [_, _]) (X := Lg) El43 rfl rfl rfl hO hs (hs.sl (k := 0) (ds := m.cells) rfl (Nat.le_refl _) (by intro j u hj; rw [Nat.zero_add]; exact hj)) rfl (rcells_one [m]) (by omega) ?_
    clear hs; intro lv' w Ll' hO' hs
    simp only [List.cons_append, List.nil_append] at hs
    obtain ⟨tl', tc', ta', rfl, rfl⟩ := hO'.form
    refine D_en ?re ?_
    case re =>
      refine Reks_cons rfl rfl rfl rfl ?_ ?_
      · skip
        refine s_move rfl rfl ?_
        exact Rek_end rfl
      exact Reks_nil
    refine D_q rfl rfl ?_
    refine s_nilCheck rfl rfl ?_
    refine D_qn ?_
    refine D_q rfl rfl ?_
    refine s_fieldAddr rfl rfl (FA45_1 _ _) ?_
    refine D_qn ?_
    refine D_e rfl ?_
    first
      | refine s_storeB Try.sizeOf43 rfl rfl rfl hs (kk := 0) rfl rfl ?_
      | refine s_storeB Try.sizeOf43 rfl rfl rfl hs (kk := 1) rfl rfl ?_
      | refine s_storeB Try.sizeOf43 rfl rfl rfl hs (kk := 2) rfl rfl ?_
      | refine s_storeB Try.sizeOf43 rfl rfl rfl hs (kk := 3) rfl rfl ?_
      | refine s_storeB Try.sizeOf43 rfl rfl rfl hs (kk := 4) rfl rfl ?_
      | refine s_storeB Try.sizeOf43 rfl rfl rfl hs (kk := 5) rfl rfl ?_
      | refine s_storeB Try.sizeOf43 rfl rfl rfl hs (kk := 6) rfl rfl ?_
      | refine s_storeB Try.sizeOf43 rfl rfl rfl hs (kk := 7) rfl rfl ?_
      | refine s_storeB Try.sizeOf43 rfl rfl rfl hs (kk := 8) rfl rfl ?_
      | refine s_storeB Try.sizeOf43 rfl rfl rfl hs (kk := 9) rfl rfl ?_
    clear hs; intro w hs; try simp only [List.set_cons_zero, List.set_cons_succ, splice, List.take_succ_cons, List.take_zero, List.drop_succ_cons, List.drop_zero, List.nil_append, List.cons_append, List.length_cons, List.length_nil, Nat.reduceAdd, List.append_assoc] at hs
    refine D_en ?re ?_
    case re =>
      exact Reks_nil
    refine D_nil ?_
    refine n_then ?_
    refine W_seq ?_
    refine W_region ?_
    refine s_assign rfl rfl ?_
    refine WL_nil ?_
    refine n_then ?_
    refine W_ret ?_
    refine end1 rfl rfl ?_
    first
      | exact ⟨_, St.reord [[_], [_], Lg] [0, 2, 1] [] hs rfl, Or.inl ⟨by omega, rfl, _, Lg, _, [_], rfl, hG, hO⟩⟩
      | (refine ⟨_, St.reord [[_], [_], Ll', Lg] [1, 3, 2] [0] hs rfl, Or.inr ⟨by omega, rfl, _, Lg, _, Ll', rfl, hG, ?_⟩⟩
         rw [List.length_append, rcells_append]
         simpa [rcells] using hO')
theorem rdrop_no (p : Nat) (gs : List Int) (rs : List RMsg) (i : Int) (L0 : Hp) (w0 : World) (hN : RefAt p gs rs L0) (hs : St (ids L0) w0 w0 L0) (hin : ¬ (0 ≤ i ∧ i < rs.length)) :
    Ret Try.prog 20 [.pointer (some ⟨p, 0, none⟩), .int .i64 i].toArray w0 fun r w' => ∃ L', St (ids L0) w0 w' L' ∧ r = .int .i64 9 ∧ RefAt p gs rs L' := by
  obtain ⟨gv, Lg, lv, Ll, hL, hG, hO⟩ := hN
  obtain ⟨gl, gc, ga, rfl, rfl⟩ := hG.form
  obtain ⟨tl, tc, ta, rfl, rfl⟩ := hO.form
  replace hs : St (ids L0) w0 w0 ((p, Blk 45 [.slice ga gs.length gc, .slice ta rs.length tc]) :: (Lg ++ Ll)) := by rw [hL] at hs ⊢; exact hs
  refine Ret_startL hs fun w hs => ?_
  refine Ret_of Try.func20 rfl Try.ntmps20 rfl ?_
  refine W_seq ?_
  refine W_region ?_
  refine s_assign rfl rfl ?_
  refine WL_nil ?_
  refine n_then ?_
  refine W_seq ?_
  refine W_seq ?_
  refine W_region ?_
  refine s_move rfl rfl ?_
  refine s_lss rfl rfl rfl ?_
  refine s_move rfl rfl ?_
  refine WL_case (s := 7) rfl (fun hg7 => ?_) (fun hg7 => ?_)
  · skip
    simp only [decide_eq_true_eq, decide_eq_false_iff_not] at hg7
    refine WL_skip rfl rfl rfl ?_
    refine WL_skip rfl rfl rfl ?_
    refine WL_skip rfl rfl rfl ?_
    refine WL_skip rfl rfl rfl ?_
    refine WL_skip rfl rfl rfl ?_
    refine WL_skip rfl rfl rfl ?_
    refine WL_skip rfl rfl rfl ?_
    refine s_pick_t rfl rfl rfl ?_
    refine WL_nil ?_
    refine n_then ?_
    refine W_cond_t rfl ?_
    refine W_seq ?_
    refine W_region ?_
    refine s_assign rfl rfl ?_
    refine WL_nil ?_
    refine n_then ?_
    refine W_ret ?_
    refine r_then ?_
    exact end1 rfl rfl ⟨_, hs, rfl, _, Lg, _, Ll, rfl, hG, hO⟩
  · skip
    simp only [decide_eq_true_eq, decide_eq_false_iff_not] at hg7
    refine WL_take rfl ?_
    refine s_move rfl rfl ?_
    refine WL_take rfl ?_
    refine s_move rfl rfl ?_
    refine WL_take rfl ?_
    refine s_nilCheck rfl rfl ?_
    refine WL_take rfl ?_
    refine s_fieldAddr rfl rfl (FA45_1 _ _) ?_
    refine WL_take rfl ?_
    first
      | refine s_load Try.isAgg43 rfl rfl (hs.cell (k := 0) rfl rfl) ?_
      | refine s_load Try.isAgg43 rfl rfl (hs.cell (k := 1) rfl rfl) ?_
      | refine s_load Try.isAgg43 rfl rfl (hs.cell (k := 2) rfl rfl) ?_
      | refine s_load Try.isAgg43 rfl rfl (hs.cell (k := 3) rfl rfl) ?_
      | refine s_load Try.isAgg43 rfl rfl (hs.cell (k := 4) rfl rfl) ?_
      | refine s_load Try.isAgg43 rfl rfl (hs.cell (k := 5) rfl rfl) ?_
      | refine s_load Try.isAgg43 rfl rfl (hs.cell (k := 6) rfl rfl) ?_
      | refine s_load Try.isAgg43 rfl rfl (hs.cell (k := 7) rfl rfl) ?_
      | refine s_load Try.isAgg43 rfl rfl (hs.cell (k := 8) rfl rfl) ?_
      | refine s_load Try.isAgg43 rfl rfl (hs.cell (k := 9) rfl rfl) ?_
    refine WL_take rfl ?_
    refine s_len rfl rfl (LN43 _ _ _ _) ?_
    refine WL_take rfl ?_
    refine s_geq rfl rfl rfl ?_
    refine s_pick_f rfl rfl rfl ?_
    refine WL_nil ?_
    refine n_then ?_
    refine W_cond_kt rfl ((by simp; omega)) ?_
    refine W_seq ?_
    refine W_region ?_
    refine s_assign rfl rfl ?_
    refine WL_nil ?_
    refine n_then ?_
    refine W_ret ?_
    refine r_then ?_
    exact end1 rfl rfl ⟨_, hs, rfl, _, Lg, _, Ll, rfl, hG, hO⟩
theorem rdrop_yes (p : Nat) (gs : List Int) (rs : List RMsg) (i : Int) (L0 : Hp) (w0 : World) (hN : RefAt p gs rs L0) (hs : St (ids L0) w0 w0 L0) (hin : 0 ≤ i ∧ i < rs.length) (hml : rs.length ≤ 1000) :
    Ret Try.prog 20 [.pointer (some ⟨p, 0, none⟩), .int .i64 i].toArray w0 fun r w' => ∃ L', St (ids L0) w0 w' L' ∧ r = .int .i64 0 ∧ RefAt p gs (rs.eraseIdx i.toNat) L' := by
  obtain ⟨gv, Lg, lv, Ll, hL, hG, hO⟩ := hN
  obtain ⟨gl, gc, ga, rfl, rfl⟩ := hG.form
  obtain ⟨tl, tc, ta, rfl, rfl⟩ := hO.form
  replace hs : St (ids L0) w0 w0 ((p, Blk 45 [.slice ga gs.length gc, .slice ta rs.length tc]) :: (Lg ++ Ll)) := by rw [hL] at hs ⊢; exact hs
  refine Ret_startL hs fun w hs => ?_
  refine Ret_of Try.func20 rfl Try.ntmps20 rfl ?_
  refine W_seq ?_
  refine W_region ?_
  refine s_assign rfl rfl ?_
  refine WL_nil ?_
  refine n_then ?_
  refine W_seq ?_
  refine W_seq ?_
  refine W_region ?_
  refine s_move rfl rfl ?_
  refine s_lss rfl rfl rfl ?_
  refine s_move rfl rfl ?_
  refine WL_know (s := 7) (c := false) rfl ((by simp; omega)) ?_
  refine WL_take rfl ?_
  refine s_move rfl rfl ?_
  refine WL_take rfl ?_
  refine s_move rfl rfl ?_
  refine WL_take rfl ?_
  refine s_nilCheck rfl rfl ?_
  refine WL_take rfl ?_
  refine s_fieldAddr rfl rfl (FA45_1 _ _) ?_
  refine WL_take rfl ?_
  first
    | refine s_load Try.isAgg43 rfl rfl (hs.cell (k := 0) rfl rfl) ?_
    | refine s_load Try.isAgg43 rfl rfl (hs.cell (k := 1) rfl rfl) ?_
    | refine s_load Try.isAgg43 rfl rfl (hs.cell (k := 2) rfl rfl) ?_
    | refine s_load Try.isAgg43 rfl rfl (hs.cell (k := 3) rfl rfl) ?_
    | refine s_load Try.isAgg43 rfl rfl (hs.cell (k := 4) rfl rfl) ?_
    | refine s_load Try.isAgg43 rfl rfl (hs.cell (k := 5) rfl rfl) ?_
    | refine s_load Try.isAgg43 rfl rfl (hs.cell (k := 6) rfl rfl) ?_
    | refine s_load Try.isAgg43 rfl rfl (hs.cell (k := 7) rfl rfl) ?_
    | refine s_load Try.isAgg43 rfl rfl (hs.cell (k := 8) rfl rfl) ?_
    | refine s_load Try.isAgg43 rfl rfl (hs.cell (k := 9) rfl rfl) ?_
  refine WL_take rfl ?_
  refine s_len rfl rfl (LN43 _ _ _ _) ?_
  refine WL_take rfl ?_
  refine s_geq rfl rfl rfl ?_
  refine s_pick_f rfl rfl rfl ?_
  refine WL_nil ?_
  refine n_then ?_
  refine W_cond_kf rfl ((by simp; omega)) ?_
  refine W_skip ?_
  refine n_then ?_
  refine W_seq ?_
  refine W_region ?_
  refine s_move rfl rfl ?_
  refine s_move rfl rfl ?_
  refine s_callL (M := []) (L1 := _ :: (Lg ++ Ll)) (X := []) Try.call33 rfl rfl (by simpa using hs) (fun h => remove_ok p gs rs i _ w ⟨_, Lg, _, Ll, rfl, hG, hO⟩ h hin hml) ?_
  clear hs; intro v w L1 hN1 _ hs
  simp only [List.nil_append, List.append_nil] at hs
  refine WL_nil ?_
  refine n_then ?_
  refine W_seq ?_
  refine W_region ?_
  refine s_assign rfl rfl ?_
  refine WL_nil ?_
  refine n_then ?_
  refine W_ret ?_
  exact end1 rfl rfl ⟨L1, hs, rfl, hN1⟩
theorem rpart_no (p : Nat) (gs : List Int) (rs : List RMsg) (hs' : List Int) (v : Value) (L0 : Hp) (w0 : World) (hN : RefAt p gs rs L0) (hs : St (ids L0) w0 w0 L0) (hv : Sl w0 v hs'.length (i64s hs')) (hne : hs'.length ≠ gs.length) :
    Ret Try.prog 22 [.pointer (some ⟨p, 0, none⟩), v].toArray w0 fun r w' => ∃ L', St (ids L0) w0 w' L' ∧ r = .int .i64 1 ∧ RefAt p gs rs L' := by
  obtain ⟨a, c, rfl, hc⟩ := hv.len_le
  obtain ⟨gv, Lg, lv, Ll, hL, hG, hO⟩ := hN
  obtain ⟨gl, gc, ga, rfl, rfl⟩ := hG.form
  obtain ⟨tl, tc, ta, rfl, rfl⟩ := hO.form
  replace hs : St (ids L0) w0 w0 ((p, Blk 45 [.slice ga gs.length gc, .slice ta rs.length tc]) :: (Lg ++ Ll)) := by rw [hL] at hs ⊢; exact hs
  refine Ret_startL hs fun w hs => ?_
  refine Ret_of Try.func22 rfl Try.ntmps22 rfl ?_
  refine W_seq ?_
  refine W_region ?_
  refine s_assign rfl rfl ?_
  refine WL_nil ?_
  refine n_then ?_
  refine W_seq ?_
  refine W_seq ?_
  refine W_region ?_
  refine s_move rfl rfl ?_
  refine s_len rfl rfl (LN22 _ _ _ _) ?_
  refine s_move rfl rfl ?_
  refine s_nilCheck rfl rfl ?_
  refine s_fieldAddr rfl rfl (FA45_0 _ _) ?_
  first
    | refine s_load Try.isAgg22 rfl rfl (hs.cell (k := 0) rfl rfl) ?_
    | refine s_load Try.isAgg22 rfl rfl (hs.cell (k := 1) rfl rfl) ?_
    | refine s_load Try.isAgg22 rfl rfl (hs.cell (k := 2) rfl rfl) ?_
    | refine s_load Try.isAgg22 rfl rfl (hs.cell (k := 3) rfl rfl) ?_
    | refine s_load Try.isAgg22 rfl rfl (hs.cell (k := 4) rfl rfl) ?_
    | refine s_load Try.isAgg22 rfl rfl (hs.cell (k := 5) rfl rfl) ?_
    | refine s_load Try.isAgg22 rfl rfl (hs.cell (k := 6) rfl rfl) ?_
    | refine s_load Try.isAgg22 rfl rfl (hs.cell (k := 7) rfl rfl) ?_
    | refine s_load Try.isAgg22 rfl rfl (hs.cell (k := 8) rfl rfl) ?_
    | refine s_load Try.isAgg22 rfl rfl (hs.cell (k := 9) rfl rfl) ?_
  refine s_len rfl rfl (LN22 _ _ _ _) ?_
  refine s_neq rfl rfl rfl ?_
  refine WL_nil ?_
  refine n_then ?_
  refine W_cond_kt rfl (by simp; omega) ?_
  refine W_seq ?_
  refine W_region ?_
  refine s_assign rfl rfl ?_
  refine WL_nil ?_
  refine n_then ?_
  refine W_ret ?_
  refine r_then ?_
  exact end1 rfl rfl ⟨_, hs, rfl, _, Lg, _, Ll, rfl, hG, hO⟩
theorem rpart_yes (p : Nat) (gs : List Int) (rs : List RMsg) (hs' : List Int) (v : Value) (L0 : Hp) (w0 : World) (hN : RefAt p gs rs L0) (hs : St (ids L0) w0 w0 L0) (hv : Sl w0 v hs'.length (i64s hs')) (hne : hs'.length = gs.length) (hgl : gs.length ≤ 4294967296) :
    Ret Try.prog 22 [.pointer (some ⟨p, 0, none⟩), v].toArray w0 fun r w' => ∃ L', St (ids L0) w0 w' L' ∧ r = .int .i64 0 ∧ RefAt p hs' rs L' := by
  obtain ⟨a, c, rfl, hc⟩ := hv.len_le
  obtain ⟨gv, Lg, lv, Ll, hL, hG, hO⟩ := hN
  obtain ⟨gl, gc, ga, rfl, rfl⟩ := hG.form
  obtain ⟨tl, tc, ta, rfl, rfl⟩ := hO.form
  replace hs : St (ids L0) w0 w0 ((p, Blk 45 [.slice ga gs.length gc, .slice ta rs.length tc]) :: (Lg ++ Ll)) := by rw [hL] at hs ⊢; exact hs
  refine Ret_of Try.func22 rfl Try.ntmps22 rfl ?_
  refine W_seq ?_
  refine W_region ?_
  refine s_assign rfl rfl ?_
  refine WL_nil ?_
  refine n_then ?_
  refine W_seq ?_
  refine W_seq ?_
  refine W_region ?_
  refine s_move rfl rfl ?_
  refine s_len rfl rfl (LN22 _ _ _ _) ?_
  refine s_move rfl rfl ?_
  refine s_nilCheck rfl rfl ?_
  refine s_fieldAddr rfl rfl (FA45_0 _ _) ?_
  first
    | refine s_load Try.isAgg22 rfl rfl (hs.cell (k := 0) rfl rfl) ?_
    | refine s_load Try.isAgg22 rfl rfl (hs.cell (k := 1) rfl rfl) ?_
    | refine s_load Try.isAgg22 rfl rfl (hs.cell (k := 2) rfl rfl) ?_
    | refine s_load Try.isAgg22 rfl rfl (hs.cell (k := 3) rfl rfl) ?_
    | refine s_load Try.isAgg22 rfl rfl (hs.cell (k := 4) rfl rfl) ?_
    | refine s_load Try.isAgg22 rfl rfl (hs.cell (k := 5) rfl rfl) ?_
    | refine s_load Try.isAgg22 rfl rfl (hs.cell (k := 6) rfl rfl) ?_
    | refine s_load Try.isAgg22 rfl rfl (hs.cell (k := 7) rfl rfl) ?_
    | refine s_load Try.isAgg22 rfl rfl (hs.cell (k := 8) rfl rfl) ?_
    | refine s_load Try.isAgg22 rfl rfl (hs.cell (k := 9) rfl rfl) ?_
  refine s_len rfl rfl (LN22 _ _ _ _) ?_
  refine s_neq rfl rfl rfl ?_
  refine WL_nil ?_
  refine n_then ?_
  refine W_cond_kf rfl (by simp; omega) ?_
  refine W_skip ?_
  refine n_then ?_
  refine W_seq ?_
  refine W_region ?_
  refine s_move rfl rfl ?_
  refine s_move rfl rfl ?_
  refine s_move rfl rfl ?_
  refine s_len rfl rfl (LN22 _ _ _ _) ?_
  refine s_call Try.call27 rfl rfl (ints_ok _ hs' hs'.length _ hv (by omega)) ?_
  rintro r w ⟨Lr, hR, hst⟩
  replace hs := St.back0 hs hst
  rw [Nat.min_self, List.take_of_length_le (Nat.le_refl _)] at hR
  obtain ⟨rl, rc, ra, rfl, rfl⟩ := hR.form
  replace hs : St (ids L0) w0 w (_ :: (Lr ++ (Lg ++ Ll))) := St.reord [Lr, [_], Lg, Ll] [1, 0, 2, 3] [] hs rfl
  refine s_nilCheck rfl rfl ?_
  refine s_fieldAddr rfl rfl (FA45_0 _ _) ?_
  first
    | refine s_storeB Try.sizeOf22 rfl rfl rfl hs (kk := 0) rfl rfl ?_
    | refine s_storeB Try.sizeOf22 rfl rfl rfl hs (kk := 1) rfl rfl ?_
    | refine s_storeB Try.sizeOf22 rfl rfl rfl hs (kk := 2) rfl rfl ?_
    | refine s_storeB Try.sizeOf22 rfl rfl rfl hs (kk := 3) rfl rfl ?_
    | refine s_storeB Try.sizeOf22 rfl rfl rfl hs (kk := 4) rfl rfl ?_
    | refine s_storeB Try.sizeOf22 rfl rfl rfl hs (kk := 5) rfl rfl ?_
    | refine s_storeB Try.sizeOf22 rfl rfl rfl hs (kk := 6) rfl rfl ?_
    | refine s_storeB Try.sizeOf22 rfl rfl rfl hs (kk := 7) rfl rfl ?_
    | refine s_storeB Try.sizeOf22 rfl rfl rfl hs (kk := 8) rfl rfl ?_
    | refine s_storeB Try.sizeOf22 rfl rfl rfl hs (kk := 9) rfl rfl ?_
  clear hs; intro w hs; try simp only [List.set_cons_zero, List.set_cons_succ, splice, List.take_succ_cons, List.take_zero, List.drop_succ_cons, List.drop_zero, List.nil_append, List.cons_append, List.length_cons, List.length_nil, Nat.reduceAdd, List.append_assoc] at hs
  refine WL_nil ?_
  refine n_then ?_
  refine W_seq ?_
  refine W_region ?_
  refine s_assign rfl rfl ?_
  refine WL_nil ?_
  refine n_then ?_
  refine W_ret ?_
  exact end1 rfl rfl ⟨_, St.reord [[_], Lr, Lg, Ll] [0, 1, 3] [2] hs rfl, rfl, _, Lr, _, Ll, rfl, hR, hO⟩
theorem same_ok (f t f' t' : Int) (va vb : Value) (xs ys : List Int) (w0 : World) (ha : Sl w0 va xs.length (u8s xs)) (hb : Sl w0 vb ys.length (u8s ys)) (hl : xs.length ≤ 4611686018427387904) :
    Ret Try.prog 16 [.agg #[.int .i64 f, .int .i64 t, va], .agg #[.int .i64 f', .int .i64 t', vb]].toArray w0 fun r w' => Fwd [] w0 w' ∧ r = .bool (decide (f = f' ∧ t = t' ∧ xs = ys)) := by
  obtain ⟨a, ca, rfl, _⟩ := ha.len_le
  obtain ⟨b, cb, rfl, _⟩ := hb.len_le
  refine Ret_start fun w hs => ?_
  refine Ret_of Try.func16 rfl Try.ntmps16 rfl ?_
  refine W_seq ?_
  refine W_region ?_
  first | refine s_box rfl rfl hs ?_ | refine s_box1 rfl rfl rfl hs ?_
  clear hs; intro b2 w hs
  first | refine s_box rfl rfl hs ?_ | refine s_box1 rfl rfl rfl hs ?_
  clear hs; intro b3 w hs
  refine s_assign rfl rfl ?_
  refine WL_nil ?_
  refine n_then ?_
  refine W_seq ?_
  refine W_region ?_
  refine s_fieldAddr rfl rfl (FA32_0 _ _) ?_
  first
    | refine s_load Try.isAgg3 rfl rfl (hs.cell (k := 0) rfl rfl) ?_
    | refine s_load Try.isAgg3 rfl rfl (hs.cell (k := 1) rfl rfl) ?_
    | refine s_load Try.isAgg3 rfl rfl (hs.cell (k := 2) rfl rfl) ?_
    | refine s_load Try.isAgg3 rfl rfl (hs.cell (k := 3) rfl rfl) ?_
    | refine s_load Try.isAgg3 rfl rfl (hs.cell (k := 4) rfl rfl) ?_
    | refine s_load Try.isAgg3 rfl rfl (hs.cell (k := 5) rfl rfl) ?_
    | refine s_load Try.isAgg3 rfl rfl (hs.cell (k := 6) rfl rfl) ?_
    | refine s_load Try.isAgg3 rfl rfl (hs.cell (k := 7) rfl rfl) ?_
    | refine s_load Try.isAgg3 rfl rfl (hs.cell (k := 8) rfl rfl) ?_
    | refine s_load Try.isAgg3 rfl rfl (hs.cell (k := 9) rfl rfl) ?_
  refine s_fieldAddr rfl rfl (FA32_0 _ _) ?_
  first
    | refine s_load Try.isAgg3 rfl rfl (hs.cell (k := 0) rfl rfl) ?_
    | refine s_load Try.isAgg3 rfl rfl (hs.cell (k := 1) rfl rfl) ?_
    | refine s_load Try.isAgg3 rfl rfl (hs.cell (k := 2) rfl rfl) ?_
    | refine s_load Try.isAgg3 rfl rfl (hs.cell (k := 3) rfl rfl) ?_
    | refine s_load Try.isAgg3 rfl rfl (hs.cell (k := 4) rfl rfl) ?_
    | refine s_load Try.isAgg3 rfl rfl (hs.cell (k := 5) rfl rfl) ?_
    | refine s_load Try.isAgg3 rfl rfl (hs.cell (k := 6) rfl rfl) ?_
    | refine s_load Try.isAgg3 rfl rfl (hs.cell (k := 7) rfl rfl) ?_
    | refine s_load Try.isAgg3 rfl rfl (hs.cell (k := 8) rfl rfl) ?_
    | refine s_load Try.isAgg3 rfl rfl (hs.cell (k := 9) rfl rfl) ?_
  refine s_eql rfl rfl rfl ?_
  refine s_move rfl rfl ?_
  refine WL_case (s := 10) rfl (fun hg10 => ?_) (fun hg10 => ?_)
  · skip
    simp only [beq_iff_eq, beq_eq_false_iff_ne, ne_eq, decide_eq_true_eq, decide_eq_false_iff_not] at hg10
    refine WL_take rfl ?_
    refine s_fieldAddr rfl rfl (FA32_1 _ _) ?_
    refine WL_take rfl ?_
    first
      | refine s_load Try.isAgg3 rfl rfl (hs.cell (k := 0) rfl rfl) ?_
      | refine s_load Try.isAgg3 rfl rfl (hs.cell (k := 1) rfl rfl) ?_
      | refine s_load Try.isAgg3 rfl rfl (hs.cell (k := 2) rfl rfl) ?_
      | refine s_load Try.isAgg3 rfl rfl (hs.cell (k := 3) rfl rfl) ?_
      | refine s_load Try.isAgg3 rfl rfl (hs.cell (k := 4) rfl rfl) ?_
      | refine s_load Try.isAgg3 rfl rfl (hs.cell (k := 5) rfl rfl) ?_
      | refine s_load Try.isAgg3 rfl rfl (hs.cell (k := 6) rfl rfl) ?_
      | refine s_load Try.isAgg3 rfl rfl (hs.cell (k := 7) rfl rfl) ?_
      | refine s_load Try.isAgg3 rfl rfl (hs.cell (k := 8) rfl rfl) ?_
      | refine s_load Try.isAgg3 rfl rfl (hs.cell (k := 9) rfl rfl) ?_
    refine WL_take rfl ?_
    refine s_fieldAddr rfl rfl (FA32_1 _ _) ?_
    refine WL_take rfl ?_
    first
      | refine s_load Try.isAgg3 rfl rfl (hs.cell (k := 0) rfl rfl) ?_
      | refine s_load Try.isAgg3 rfl rfl (hs.cell (k := 1) rfl rfl) ?_
      | refine s_load Try.isAgg3 rfl rfl (hs.cell (k := 2) rfl rfl) ?_
      | refine s_load Try.isAgg3 rfl rfl (hs.cell (k := 3) rfl rfl) ?_
      | refine s_load Try.isAgg3 rfl rfl (hs.cell (k := 4) rfl rfl) ?_
      | refine s_load Try.isAgg3 rfl rfl (hs.cell (k := 5) rfl rfl) ?_
      | refine s_load Try.isAgg3 rfl rfl (hs.cell (k := 6) rfl rfl) ?_
      | refine s_load Try.isAgg3 rfl rfl (hs.cell (k := 7) rfl rfl) ?_
      | refine s_load Try.isAgg3 rfl rfl (hs.cell (k := 8) rfl rfl) ?_
      | refine s_load Try.isAgg3 rfl rfl (hs.cell (k := 9) rfl rfl) ?_
    refine WL_take rfl ?_
    refine s_eql rfl rfl rfl ?_
    refine s_pick_t rfl rfl rfl ?_
    refine s_move rfl rfl ?_
    refine WL_case (s := 17) rfl (fun hg17 => ?_) (fun hg17 => ?_)
    · skip
      simp only [beq_iff_eq, beq_eq_false_iff_ne, ne_eq, decide_eq_true_eq, decide_eq_false_iff_not] at hg17
      refine WL_take rfl ?_
      refine s_fieldAddr rfl rfl (FA32_2 _ _) ?_
      refine WL_take rfl ?_
      first
        | refine s_load Try.isAgg30 rfl rfl (hs.cell (k := 0) rfl rfl) ?_
        | refine s_load Try.isAgg30 rfl rfl (hs.cell (k := 1) rfl rfl) ?_
        | refine s_load Try.isAgg30 rfl rfl (hs.cell (k := 2) rfl rfl) ?_
        | refine s_load Try.isAgg30 rfl rfl (hs.cell (k := 3) rfl rfl) ?_
        | refine s_load Try.isAgg30 rfl rfl (hs.cell (k := 4) rfl rfl) ?_
        | refine s_load Try.isAgg30 rfl rfl (hs.cell (k := 5) rfl rfl) ?_
        | refine s_load Try.isAgg30 rfl rfl (hs.cell (k := 6) rfl rfl) ?_
        | refine s_load Try.isAgg30 rfl rfl (hs.cell (k := 7) rfl rfl) ?_
        | refine s_load Try.isAgg30 rfl rfl (hs.cell (k := 8) rfl rfl) ?_
        | refine s_load Try.isAgg30 rfl rfl (hs.cell (k := 9) rfl rfl) ?_
      refine WL_take rfl ?_
      refine s_fieldAddr rfl rfl (FA32_2 _ _) ?_
      refine WL_take rfl ?_
      first
        | refine s_load Try.isAgg30 rfl rfl (hs.cell (k := 0) rfl rfl) ?_
        | refine s_load Try.isAgg30 rfl rfl (hs.cell (k := 1) rfl rfl) ?_
        | refine s_load Try.isAgg30 rfl rfl (hs.cell (k := 2) rfl rfl) ?_
        | refine s_load Try.isAgg30 rfl rfl (hs.cell (k := 3) rfl rfl) ?_
        | refine s_load Try.isAgg30 rfl rfl (hs.cell (k := 4) rfl rfl) ?_
        | refine s_load Try.isAgg30 rfl rfl (hs.cell (k := 5) rfl rfl) ?_
        | refine s_load Try.isAgg30 rfl rfl (hs.cell (k := 6) rfl rfl) ?_
        | refine s_load Try.isAgg30 rfl rfl (hs.cell (k := 7) rfl rfl) ?_
        | refine s_load Try.isAgg30 rfl rfl (hs.cell (k := 8) rfl rfl) ?_
        | refine s_load Try.isAgg30 rfl rfl (hs.cell (k := 9) rfl rfl) ?_
      refine WL_take rfl ?_
      refine s_call Try.call29 rfl rfl (sameBytes_ok _ _ xs ys _ (ha.fwd0 hs.fwd) (hb.fwd0 hs.fwd) hl) ?_
      rintro r w ⟨hst, rfl⟩
      replace hs := hs.fwd1 hst
      refine s_pick_t rfl rfl rfl ?_
      refine s_assign rfl rfl ?_
      refine WL_nil ?_
      refine n_then ?_
      refine W_ret ?_
      refine end1 rfl rfl ⟨hs.fwd, ?_⟩
      refine congrArg Value.bool ?_
      simp_all
    · skip
      simp only [beq_iff_eq, beq_eq_false_iff_ne, ne_eq, decide_eq_true_eq, decide_eq_false_iff_not] at hg17
      refine WL_skip rfl rfl rfl ?_
      refine WL_skip rfl rfl rfl ?_
      refine WL_skip rfl rfl rfl ?_
      refine WL_skip rfl rfl rfl ?_
      refine WL_skip rfl rfl rfl ?_
      refine s_pick_f rfl rfl rfl ?_
      refine s_assign rfl rfl ?_
      refine WL_nil ?_
      refine n_then ?_
      refine W_ret ?_
      refine end1 rfl rfl ⟨hs.fwd, ?_⟩
      refine congrArg Value.bool ?_
      simp_all
  · skip
    simp only [beq_iff_eq, beq_eq_false_iff_ne, ne_eq, decide_eq_true_eq, decide_eq_false_iff_not] at hg10
    refine WL_skip rfl rfl rfl ?_
    refine WL_skip rfl rfl rfl ?_
    refine WL_skip rfl rfl rfl ?_
    refine WL_skip rfl rfl rfl ?_
    refine WL_skip rfl rfl rfl ?_
    refine s_pick_f rfl rfl rfl ?_
    refine s_move rfl rfl ?_
    refine WL_skip rfl rfl rfl ?_
    refine WL_skip rfl rfl rfl ?_
    refine WL_skip rfl rfl rfl ?_
    refine WL_skip rfl rfl rfl ?_
    refine WL_skip rfl rfl rfl ?_
    refine s_pick_f rfl rfl rfl ?_
    refine s_assign rfl rfl ?_
    refine WL_nil ?_
    refine n_then ?_
    refine W_ret ?_
    refine end1 rfl rfl ⟨hs.fwd, ?_⟩
    refine congrArg Value.bool ?_
    simp_all
end Go.Proofs.Ytgkdbiibbfipjaa
