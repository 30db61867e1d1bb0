/- Both disks side by side: same, made; DiskRuns. -/
import Derived.Test.YthfcdjbkbmhjgaaRdD
import Derived.Test.YthfcdjbkbmhjgaaDkJ
set_option linter.unusedVariables false
set_option linter.unusedSimpArgs false
namespace Go.Proofs.Ythfcdjbkbmhjgaa
open Go.SL
theorem St_perm3 {F : List Nat} {w0 w : World} {A B C : Hp} (h : St F w0 w (A ++ (B ++ C))) : St F w0 w (B ++ (A ++ C)) := h.pull
set_option maxHeartbeats 4000000 in
theorem same_ok (p q : Nat) (D : Dk) (L1 L2 : Hp) (w0 : World) (hD : DiskAt p D L1) (hR : RefAt q D L2) (hs : St (ids (L1 ++ L2)) w0 w0 (L1 ++ L2)) :
    Ret Try.prog 30 [.pointer (some ⟨p, 0, none⟩), .pointer (some ⟨q, 0, none⟩)].toArray w0 fun r w' => ∃ L', St (ids (L1 ++ L2)) w0 w' L' ∧ L' = L1 ++ L2 ∧ r = .bool true := by
  have hR0 := hR
  obtain ⟨gB, gF, rs, hL2, hRs, hK⟩ := hR
  unfold rdCells at hL2
  have hgood := hD.good
  refine Ret_startL hs fun w hs => ?_
  have hhead : ∀ (F : List Nat) (w0 w : World) (M X : Hp), St F w0 w (M ++ (L2 ++ X)) → w.cell? ⟨q, 3, none⟩ = some (.bool D.off) ∧ w.cell? ⟨q, 1, none⟩ = some (.slice (some ⟨gB, 0, none⟩) 64 64) := by
    intro F w0 w M X h
    have h1 := h.pull
    rw [hL2] at h1
    exact ⟨h1.cell (k := 0) (i := 3) rfl rfl, h1.cell (k := 0) (i := 1) rfl rfl⟩
  refine Ret_of Try.func30 rfl Try.ntmps30 rfl ?_
  refine W_seq ?_
  refine W_region ?_
  refine s_assign rfl rfl ?_
  refine WL_nil ?_
  refine n_then ?_
  refine W_seq ?_
  refine W_seq ?_
  refine W_draw [(0, true, []), (2, true, []), (1, false, [2]), (3, false, []), (4, true, []), (5, true, []), (6, true, []), (8, true, []), (9, true, []), (10, true, []), (11, true, []), (7, false, [8, 9, 10, 11]), (12, true, []), (13, true, []), (14, true, []), (15, true, []), (17, true, []), (16, false, [17]), (18, false, []), (19, false, []), (20, true, []), (21, true, [])] [[], [0], [], [0, 1, 2], [0, 1, 2, 3], [0, 1, 2, 3, 4], [0, 1, 2, 3, 4, 5], [0, 1, 2, 3, 4, 5, 6], [0, 1, 2, 3, 4, 5], [0, 1, 2, 3, 4, 5, 8], [0, 1, 2, 3, 4, 5, 8, 9], [0, 1, 2, 3, 4, 5, 8, 9, 10], [0, 1, 2, 3, 4, 5, 6, 7, 8, 9, 10, 11], [0, 1, 2, 3, 4, 5, 6, 7, 8, 9, 10, 11, 12], [0, 1, 2, 3, 4, 5, 6, 7, 8, 9, 10, 11, 12, 13], [0, 1, 2, 3, 4, 5, 6, 7, 8, 9, 10, 11, 12, 13, 14], [0, 1, 2, 3, 4, 5, 6, 7, 8, 9, 10, 11, 12, 13, 14, 15], [0, 1, 2, 3, 4, 5, 6, 7, 8, 9, 10, 11, 12, 13, 14], [0, 1, 2, 3, 4, 5, 6, 7, 8, 9, 10, 11, 12, 13, 14, 15, 16, 17], [0, 1, 2, 3, 4, 5, 6, 7, 8, 9, 10, 11, 12, 13, 14, 15, 16, 17, 18], [0, 1, 2, 3, 4, 5, 6, 7, 8, 9, 10, 11, 12, 13, 14, 15, 16, 17, 18, 19], [0, 1, 2, 3, 4, 5, 6, 7, 8, 9, 10, 11, 12, 13, 14, 15, 16, 17, 18, 19, 20]] MX (by kernel_rfl) ?_
  intro w1 hw1 hw2 hw3 hw4; replace hs := hs.redrawn hw1 hw2 hw3 hw4; clear hw1 hw2 hw3 hw4
  obtain ⟨w, rfl⟩ : ∃ w : World, w = w1 := ⟨_, rfl⟩
  refine D_q rfl rfl ?_
  refine s_move rfl rfl ?_
  refine D_qn ?_
  refine D_q rfl rfl ?_
  refine s_move rfl rfl ?_
  refine D_qn ?_
  refine D_e rfl ?_
  refine s_callL (M := []) (L1 := L1) (X := L2) Try.call20 rfl rfl hs (fun h => used_ok p D L1 w hD h) ?_
  clear hs; rintro u w L9 ⟨hL9, rfl⟩ - hs
  rw [hL9] at hs
  clear hL9
  simp only [List.nil_append] at hs
  refine D_en ?re ?_
  case re =>
    refine Reks_cons rfl rfl rfl rfl ?_ ?_
    · skip
      refine s_move rfl rfl ?_
      exact Rek_end rfl
    exact Reks_nil
  refine D_e rfl ?_
  refine s_callL (M := L1) (L1 := L2) (X := []) Try.call42 rfl rfl (by simpa using hs) (fun h => rUsed_ok q D L2 w hR0 h) ?_
  clear hs; rintro u w L9 ⟨hL9, rfl⟩ - hs
  rw [hL9] at hs
  clear hL9
  simp only [List.append_nil] at hs
  refine D_en ?re ?_
  case re =>
    exact Reks_nil
  refine D_q rfl rfl ?_
  refine s_neq rfl rfl rfl ?_
  refine D_qn ?_
  refine D_q rfl rfl ?_
  refine s_move rfl rfl ?_
  refine WL_know (s := 13) (c := false) rfl ((by simp)) ?_
  refine D_qn ?_
  refine D_q rfl rfl ?_
  refine WL_take rfl ?_
  refine s_move rfl rfl ?_
  refine D_qn ?_
  refine D_q rfl rfl ?_
  refine WL_take rfl ?_
  refine s_move rfl rfl ?_
  refine D_qn ?_
  refine D_q rfl rfl ?_
  refine WL_take rfl ?_
  refine s_nilCheck rfl rfl ?_
  refine D_qn ?_
  refine D_q rfl rfl ?_
  refine WL_take rfl ?_
  refine s_fieldAddr rfl rfl (FA49_3 _ _) ?_
  refine D_qn ?_
  refine D_q rfl rfl ?_
  refine WL_take rfl ?_
  refine s_load Try.isAgg4 rfl rfl (hhead _ _ w L1 [] (by simpa using hs)).1 ?_
  refine D_qn ?_
  refine D_e rfl ?_
  refine WL_take rfl ?_
  refine s_callL (M := []) (L1 := L1) (X := L2) Try.call23 rfl rfl hs (fun h => on_ok p D L1 w hD h) ?_
  clear hs; rintro u w L9 ⟨hL9, rfl⟩ - hs
  rw [hL9] at hs
  clear hL9
  simp only [List.nil_append] at hs
  refine D_en ?re ?_
  case re =>
    refine Reks_cons rfl rfl rfl rfl ?_ ?_
    · skip
      refine WL_take rfl ?_
      refine s_move rfl rfl ?_
      exact Rek_end rfl
    refine Reks_cons rfl rfl rfl rfl ?_ ?_
    · skip
      refine WL_take rfl ?_
      refine s_nilCheck rfl rfl ?_
      exact Rek_end rfl
    refine Reks_cons rfl rfl rfl rfl ?_ ?_
    · skip
      refine WL_take rfl ?_
      refine s_fieldAddr rfl rfl (FA49_3 _ _) ?_
      exact Rek_end rfl
    refine Reks_cons rfl rfl rfl rfl ?_ ?_
    · skip
      refine WL_take rfl ?_
      refine s_load Try.isAgg4 rfl rfl (hhead _ _ w L1 [] (by simpa using hs)).1 ?_
      exact Rek_end rfl
    exact Reks_nil
  refine D_q rfl rfl ?_
  refine WL_take rfl ?_
  refine s_eql_bool Try.underlying4 rfl rfl rfl ?_
  refine D_qn ?_
  refine D_q rfl rfl ?_
  refine s_pick_f rfl rfl rfl ?_
  refine D_qn ?_
  refine D_q rfl rfl ?_
  refine s_move rfl rfl ?_
  refine WL_know (s := 22) (c := false) rfl ((by cases D.off <;> rfl)) ?_
  refine D_qn ?_
  refine D_q rfl rfl ?_
  refine WL_take rfl ?_
  refine s_move rfl rfl ?_
  refine D_qn ?_
  refine D_q rfl rfl ?_
  refine WL_take rfl ?_
  refine s_move rfl rfl ?_
  refine D_qn ?_
  refine D_e rfl ?_
  refine WL_take rfl ?_
  refine s_callL (M := []) (L1 := L1) (X := L2) Try.call34 rfl rfl hs (fun h => files_ok p D L1 w hD h) ?_
  clear hs; rintro u w L9 ⟨Lf1, rfl, hF1⟩ - hs
  simp only [List.nil_append, List.append_assoc] at hs
  refine D_en ?re ?_
  case re =>
    refine Reks_cons rfl rfl rfl rfl ?_ ?_
    · skip
      refine WL_take rfl ?_
      refine s_move rfl rfl ?_
      exact Rek_end rfl
    exact Reks_nil
  refine D_e rfl ?_
  refine WL_take rfl ?_
  refine s_callL (M := Lf1 ++ L1) (L1 := L2) (X := []) Try.call44 rfl rfl (by simpa using hs) (fun h => rFiles_ok q D L2 w hR0 h) ?_
  clear hs; rintro u w L9 ⟨Lf2, rfl, hF2⟩ - hs
  simp only [List.append_nil, List.append_assoc] at hs
  refine D_en ?re ?_
  case re =>
    exact Reks_nil
  refine D_e rfl ?_
  refine WL_take rfl ?_
  have hfl := filesV_len D
  refine s_call Try.call43 rfl rfl (sameInts_ok _ _ (filesV D) (filesV D) w (OwnS_slIn hF1 fun p hp => hs.own p (by simp [hp])) (OwnS_slIn hF2 fun p hp => hs.own p (by simp [hp])) (by omega)) ?_
  rintro r w ⟨hst, rfl⟩
  replace hs := hs.fwd1 hst
  clear hst
  replace hs : St (ids (L1 ++ L2)) w0 w (L1 ++ L2) := by
    have h9 := St.reord [Lf1, L1, Lf2, L2] [1, 3] [0, 2] hs rfl
    exact h9
  refine D_en ?re ?_
  case re =>
    exact Reks_nil
  refine D_q rfl rfl ?_
  refine WL_take rfl ?_
  refine s_not rfl rfl ?_
  refine D_qn ?_
  refine D_q rfl rfl ?_
  refine s_pick_f rfl rfl rfl ?_
  refine D_qn ?_
  refine D_nil ?_
  refine n_then ?_
  refine W_cond_kf rfl ((by simp)) ?_
  refine W_skip ?_
  refine n_then ?_
  refine W_seq ?_
  refine W_seq ?_
  refine W_region ?_
  refine s_assign rfl rfl ?_
  refine WL_nil ?_
  refine n_then ?_
  refine W_block ?_
  refine W_loop (σ := Nat) (fun k => [(0, .pointer (some ⟨p, 0, none⟩)), (1, .pointer (some ⟨q, 0, none⟩)), (5, .int .i64 (k : Int))]) (fun k w => St (ids (L1 ++ L2)) w0 w (L1 ++ L2) ∧ k ≤ 4) (fun k => 4 - k) 0 ⟨rfl, rfl, rfl, trivial⟩ ⟨hs, by omega⟩ ?_
  clear hs
  rintro k w ⟨hs, hk⟩
  refine W_seq ?_
  refine W_seq ?_
  refine W_region ?_
  refine s_move rfl rfl ?_
  refine s_lss rfl rfl rfl ?_
  refine WL_nil ?_
  refine n_then ?_
  refine W_cond rfl (fun hc31 => ?_) (fun hc31 => ?_)
  · skip
    try simp only [decide_eq_true_eq, decide_eq_false_iff_not, gt_iff_lt, beq_iff_eq, beq_eq_false_iff_ne, ne_eq, Bool.not_eq_true', Bool.not_eq_false'] at hc31
    have hk64 : k < 64 := by omega
    obtain ⟨r, hr, hok, hc, hd, hv, hdv⟩ := hRs.get hk64
    have hlt := len_le_total D (f := (k : Int)) (by omega)
    obtain ⟨_, cr, ar, hrvv, hrvl⟩ := hok.1.form
    refine W_skip ?_
    refine n_then ?_
    refine W_seq ?_
    refine W_block ?_
    refine W_seq ?_
    refine W_region ?_
    refine s_move rfl rfl ?_
    refine s_move rfl rfl ?_
    refine s_callL (M := []) (L1 := L1) (X := L2) Try.call16 rfl rfl hs (fun h => dRead_ok p D (k : Int) L1 w hD h) ?_
    clear hs; rintro u w L9 ⟨v1, Lr1, rfl, rfl, hO1⟩ - hs
    simp only [List.nil_append, List.append_assoc] at hs
    obtain ⟨_, c1, a1, rfl, hv1⟩ := hO1.form
    subst hv1
    refine s_move rfl rfl ?_
    refine s_extract rfl rfl rfl ?_
    refine s_extract rfl rfl rfl ?_
    refine s_assign rfl rfl ?_
    refine s_assign rfl rfl ?_
    refine WL_nil ?_
    refine n_then ?_
    refine W_seq ?_
    refine W_seq ?_
    refine W_region ?_
    refine s_move rfl rfl ?_
    refine s_nilCheck rfl rfl ?_
    refine s_fieldAddr rfl rfl (FA49_3 _ _) ?_
    refine s_load Try.isAgg4 rfl rfl (hhead _ _ w (Lr1 ++ L1) [] (by simpa using hs)).1 ?_
    refine s_move rfl rfl ?_
    refine WL_case (s := 44) rfl (fun hg44 => ?_) (fun hg44 => ?_)
    · skip
      try simp only [decide_eq_true_eq, decide_eq_false_iff_not, gt_iff_lt, beq_iff_eq, beq_eq_false_iff_ne, ne_eq, Bool.not_eq_true', Bool.not_eq_false'] at hg44
      have hq := readE_off (D := D) (f := (k : Int)) (by omega) hg44
      refine WL_take rfl ?_
      refine s_move rfl rfl ?_
      refine WL_take rfl ?_
      refine s_neq rfl rfl rfl ?_
      refine WL_take rfl ?_
      refine s_move rfl rfl ?_
      refine WL_know (s := 47) (c := false) rfl ((by rw [hq.1]; rfl)) ?_
      refine WL_take rfl ?_
      refine s_move rfl rfl ?_
      refine WL_take rfl ?_
      refine s_len rfl rfl (LN27 _ _ _ _) ?_
      refine WL_take rfl ?_
      refine s_neq rfl rfl rfl ?_
      refine WL_take rfl ?_
      refine s_pick_f rfl rfl rfl ?_
      refine s_pick_t rfl rfl rfl ?_
      refine WL_nil ?_
      refine n_then ?_
      refine W_cond_kf rfl ((by rw [hq.2]; rfl)) ?_
      refine W_skip ?_
      refine n_then ?_
      refine W_seq ?_
      refine W_region ?_
      refine s_move rfl rfl ?_
      refine s_nilCheck rfl rfl ?_
      refine s_fieldAddr rfl rfl (FA49_3 _ _) ?_
      refine s_load Try.isAgg4 rfl rfl (hhead _ _ w (Lr1 ++ L1) [] (by simpa using hs)).1 ?_
      refine s_not rfl rfl ?_
      refine s_move rfl rfl ?_
      refine WL_case (s := 58) rfl (fun hg58 => ?_) (fun hg58 => ?_)
      · skip
        try simp only [decide_eq_true_eq, decide_eq_false_iff_not, gt_iff_lt, beq_iff_eq, beq_eq_false_iff_ne, ne_eq, Bool.not_eq_true', Bool.not_eq_false'] at hg58
        have hq0 := readE_ok (D := D) (f := (k : Int)) (by omega) hg58
        refine WL_take rfl ?_
        refine s_move rfl rfl ?_
        refine WL_take rfl ?_
        refine s_neq rfl rfl rfl ?_
        refine WL_take rfl ?_
        refine s_move rfl rfl ?_
        refine WL_know (s := 61) (c := false) rfl ((by rw [hq0.1]; rfl)) ?_
        refine WL_take rfl ?_
        refine s_move rfl rfl ?_
        refine WL_take rfl ?_
        refine s_move rfl rfl ?_
        refine WL_take rfl ?_
        refine s_nilCheck rfl rfl ?_
        refine WL_take rfl ?_
        refine s_fieldAddr rfl rfl (FA49_1 _ _) ?_
        refine WL_take rfl ?_
        refine s_load Try.isAgg22 rfl rfl (hhead _ _ w (Lr1 ++ L1) [] (by simpa using hs)).2 ?_
        refine WL_take rfl ?_
        refine s_move rfl rfl ?_
        refine WL_take rfl ?_
        (refine s_indexAddr1 El22 rfl rfl rfl ?hx ?_; case hx => (constructor <;> first | omega | (simp; omega)))
        refine WL_take rfl ?_
        have hcell : w.cell? ⟨gB, 0 + (k : Int).toNat, none⟩ = some r.v := by
          have h1 : St (ids (L1 ++ L2)) w0 w ((Lr1 ++ L1) ++ (L2 ++ [])) := by simpa using hs
          have h2 := h1.pull
          rw [hL2] at h2
          rw [Nat.zero_add, Int.toNat_natCast]
          exact h2.cell (k := 1) rfl hv
        refine s_load Try.isAgg27 rfl rfl hcell ?_
        refine WL_take rfl ?_
        have hS2 := OwnS_slIn hok.1 (w := w) fun x hx => hs.own x (by
          obtain ⟨R, h1, _⟩ := rw_open hr
          rw [hL2]
          simp only [List.mem_append, List.mem_cons]
          exact .inr (.inr (.inr (.inr (.inr (h1.mem_iff.2 (List.mem_append_left _ hx)))))))
        have hS1 := OwnS_slIn hO1 (w := w) fun x hx => hs.own x (by simp [hx])
        rw [hq0.2] at hS1 ⊢
        rw [← hc] at hS2
        refine s_call Try.call17 rfl rfl (sameBytes_ok _ _ (D.c (k : Int)) (D.c (k : Int)) w hS1 hS2 (by have := hgood.1; omega)) ?_
        rintro r2 w ⟨hst, rfl⟩
        replace hs := hs.fwd1 hst
        clear hst
        refine WL_take rfl ?_
        refine s_not rfl rfl ?_
        refine WL_take rfl ?_
        refine s_pick_f rfl rfl rfl ?_
        refine s_pick_t rfl rfl rfl ?_
        refine WL_nil ?_
        refine n_then ?_
        refine W_cond_kf rfl ((by simp)) ?_
        refine W_skip ?_
        refine n_blk ?_
        refine n_then ?_
        refine W_region ?_
        refine s_move rfl rfl ?_
        first | (refine s_add' rfl rfl rfl ?hx ?_; case hx => (constructor <;> first | omega | (simp only; omega))) | refine s_add rfl rfl rfl ?_
        refine s_assign rfl rfl ?_
        refine WL_nil ?_
        refine n_loop ?_
        exact ⟨k + 1, ⟨rfl, rfl, rfl, trivial⟩, ⟨hs.right, by omega⟩, by omega⟩
      · skip
        try simp only [decide_eq_true_eq, decide_eq_false_iff_not, gt_iff_lt, beq_iff_eq, beq_eq_false_iff_ne, ne_eq, Bool.not_eq_true', Bool.not_eq_false'] at hg58
        refine WL_skip rfl rfl rfl ?_
        refine WL_skip rfl rfl rfl ?_
        refine WL_skip rfl rfl rfl ?_
        refine WL_skipU rfl rfl ?_
        refine WL_skipU rfl rfl ?_
        refine WL_skipU rfl rfl ?_
        refine WL_skipU rfl rfl ?_
        refine WL_skipU rfl rfl ?_
        refine WL_skipU rfl rfl ?_
        refine WL_skipU rfl rfl ?_
        refine WL_skipU rfl rfl ?_
        refine WL_skipU rfl rfl ?_
        refine WL_skipU rfl rfl ?_
        refine WL_skip rfl rfl rfl ?_
        refine s_pick_f rfl rfl rfl ?_
        refine WL_nil ?_
        refine n_then ?_
        refine W_cond_f rfl ?_
        refine W_skip ?_
        refine n_blk ?_
        refine n_then ?_
        refine W_region ?_
        refine s_move rfl rfl ?_
        first | (refine s_add' rfl rfl rfl ?hx ?_; case hx => (constructor <;> first | omega | (simp only; omega))) | refine s_add rfl rfl rfl ?_
        refine s_assign rfl rfl ?_
        refine WL_nil ?_
        refine n_loop ?_
        exact ⟨k + 1, ⟨rfl, rfl, rfl, trivial⟩, ⟨hs.right, by omega⟩, by omega⟩
    · skip
      try simp only [decide_eq_true_eq, decide_eq_false_iff_not, gt_iff_lt, beq_iff_eq, beq_eq_false_iff_ne, ne_eq, Bool.not_eq_true', Bool.not_eq_false'] at hg44
      refine WL_skip rfl rfl rfl ?_
      refine WL_skip rfl rfl rfl ?_
      refine WL_skip rfl rfl rfl ?_
      refine WL_skipU rfl rfl ?_
      refine WL_skipU rfl rfl ?_
      refine WL_skipU rfl rfl ?_
      refine WL_skip rfl rfl rfl ?_
      refine s_pick_f rfl rfl rfl ?_
      refine WL_nil ?_
      refine n_then ?_
      refine W_cond_f rfl ?_
      have hq := readE_ok (D := D) (f := (k : Int)) (by omega) hg44
      refine W_skip ?_
      refine n_then ?_
      refine W_seq ?_
      refine W_region ?_
      refine s_move rfl rfl ?_
      refine s_nilCheck rfl rfl ?_
      refine s_fieldAddr rfl rfl (FA49_3 _ _) ?_
      refine s_load Try.isAgg4 rfl rfl (hhead _ _ w (Lr1 ++ L1) [] (by simpa using hs)).1 ?_
      refine s_not rfl rfl ?_
      refine s_move rfl rfl ?_
      refine WL_case (s := 58) rfl (fun hg58 => ?_) (fun hg58 => ?_)
      · skip
        try simp only [decide_eq_true_eq, decide_eq_false_iff_not, gt_iff_lt, beq_iff_eq, beq_eq_false_iff_ne, ne_eq, Bool.not_eq_true', Bool.not_eq_false'] at hg58
        have hq0 := readE_ok (D := D) (f := (k : Int)) (by omega) hg58
        refine WL_take rfl ?_
        refine s_move rfl rfl ?_
        refine WL_take rfl ?_
        refine s_neq rfl rfl rfl ?_
        refine WL_take rfl ?_
        refine s_move rfl rfl ?_
        refine WL_know (s := 61) (c := false) rfl ((by rw [hq0.1]; rfl)) ?_
        refine WL_take rfl ?_
        refine s_move rfl rfl ?_
        refine WL_take rfl ?_
        refine s_move rfl rfl ?_
        refine WL_take rfl ?_
        refine s_nilCheck rfl rfl ?_
        refine WL_take rfl ?_
        refine s_fieldAddr rfl rfl (FA49_1 _ _) ?_
        refine WL_take rfl ?_
        refine s_load Try.isAgg22 rfl rfl (hhead _ _ w (Lr1 ++ L1) [] (by simpa using hs)).2 ?_
        refine WL_take rfl ?_
        refine s_move rfl rfl ?_
        refine WL_take rfl ?_
        (refine s_indexAddr1 El22 rfl rfl rfl ?hx ?_; case hx => (constructor <;> first | omega | (simp; omega)))
        refine WL_take rfl ?_
        have hcell : w.cell? ⟨gB, 0 + (k : Int).toNat, none⟩ = some r.v := by
          have h1 : St (ids (L1 ++ L2)) w0 w ((Lr1 ++ L1) ++ (L2 ++ [])) := by simpa using hs
          have h2 := h1.pull
          rw [hL2] at h2
          rw [Nat.zero_add, Int.toNat_natCast]
          exact h2.cell (k := 1) rfl hv
        refine s_load Try.isAgg27 rfl rfl hcell ?_
        refine WL_take rfl ?_
        have hS2 := OwnS_slIn hok.1 (w := w) fun x hx => hs.own x (by
          obtain ⟨R, h1, _⟩ := rw_open hr
          rw [hL2]
          simp only [List.mem_append, List.mem_cons]
          exact .inr (.inr (.inr (.inr (.inr (h1.mem_iff.2 (List.mem_append_left _ hx)))))))
        have hS1 := OwnS_slIn hO1 (w := w) fun x hx => hs.own x (by simp [hx])
        rw [hq0.2] at hS1 ⊢
        rw [← hc] at hS2
        refine s_call Try.call17 rfl rfl (sameBytes_ok _ _ (D.c (k : Int)) (D.c (k : Int)) w hS1 hS2 (by have := hgood.1; omega)) ?_
        rintro r2 w ⟨hst, rfl⟩
        replace hs := hs.fwd1 hst
        clear hst
        refine WL_take rfl ?_
        refine s_not rfl rfl ?_
        refine WL_take rfl ?_
        refine s_pick_f rfl rfl rfl ?_
        refine s_pick_t rfl rfl rfl ?_
        refine WL_nil ?_
        refine n_then ?_
        refine W_cond_kf rfl ((by simp)) ?_
        refine W_skip ?_
        refine n_blk ?_
        refine n_then ?_
        refine W_region ?_
        refine s_move rfl rfl ?_
        first | (refine s_add' rfl rfl rfl ?hx ?_; case hx => (constructor <;> first | omega | (simp only; omega))) | refine s_add rfl rfl rfl ?_
        refine s_assign rfl rfl ?_
        refine WL_nil ?_
        refine n_loop ?_
        exact ⟨k + 1, ⟨rfl, rfl, rfl, trivial⟩, ⟨hs.right, by omega⟩, by omega⟩
      · skip
        try simp only [decide_eq_true_eq, decide_eq_false_iff_not, gt_iff_lt, beq_iff_eq, beq_eq_false_iff_ne, ne_eq, Bool.not_eq_true', Bool.not_eq_false'] at hg58
        refine WL_skip rfl rfl rfl ?_
        refine WL_skip rfl rfl rfl ?_
        refine WL_skip rfl rfl rfl ?_
        refine WL_skipU rfl rfl ?_
        refine WL_skipU rfl rfl ?_
        refine WL_skipU rfl rfl ?_
        refine WL_skipU rfl rfl ?_
        refine WL_skipU rfl rfl ?_
        refine WL_skipU rfl rfl ?_
        refine WL_skipU rfl rfl ?_
        refine WL_skipU rfl rfl ?_
        refine WL_skipU rfl rfl ?_
        refine WL_skipU rfl rfl ?_
        refine WL_skip rfl rfl rfl ?_
        refine s_pick_f rfl rfl rfl ?_
        refine WL_nil ?_
        refine n_then ?_
        refine W_cond_f rfl ?_
        refine W_skip ?_
        refine n_blk ?_
        refine n_then ?_
        refine W_region ?_
        refine s_move rfl rfl ?_
        first | (refine s_add' rfl rfl rfl ?hx ?_; case hx => (constructor <;> first | omega | (simp only; omega))) | refine s_add rfl rfl rfl ?_
        refine s_assign rfl rfl ?_
        refine WL_nil ?_
        refine n_loop ?_
        exact ⟨k + 1, ⟨rfl, rfl, rfl, trivial⟩, ⟨hs.right, by omega⟩, by omega⟩
  · skip
    try simp only [decide_eq_true_eq, decide_eq_false_iff_not, gt_iff_lt, beq_iff_eq, beq_eq_false_iff_ne, ne_eq, Bool.not_eq_true', Bool.not_eq_false'] at hc31
    refine W_exit ?_
    refine x_then ?_
    refine x_then ?_
    refine exit_hit ?_
    refine n_then ?_
    refine W_seq ?_
    refine W_region ?_
    refine s_assign rfl rfl ?_
    refine WL_nil ?_
    refine n_then ?_
    refine W_ret ?_
    exact end1 rfl rfl ⟨_, hs, rfl, rfl⟩
theorem app_noop {D : Dk} : True := trivial
structure MdS where
  i : Nat
  D : Dk
  L1 : Hp
  L2 : Hp
theorem ids_disj {F : List Nat} {w0 w : World} {A B C : Hp} (hs : St F w0 w (A ++ (B ++ C))) : (∀ b ∈ ids C, b ∉ ids A) ∧ (∀ b ∈ ids C, b ∉ ids B) ∧ (∀ b ∈ ids B, b ∉ ids A) := by
  have h := hs.nodup
  rw [ids_append, ids_append, List.nodup_append, List.nodup_append] at h
  obtain ⟨_, ⟨_, _, h2⟩, h1⟩ := h
  exact ⟨fun b hb ha => h1 b ha b (List.mem_append_right _ hb) rfl, fun b hb ha => h2 b ha b hb rfl, fun b hb ha => h1 b ha b (List.mem_append_left _ hb) rfl⟩
theorem loadOp {w : World} {os : List OpV} {o : OpV} {a : Option Addr} {c i : Nat} {Lv : Hp} (hO : OwnS 56 5 (.slice a os.length c) os.length (ocells os) Lv) (hs : ∀ p ∈ Lv, w.heap[p.1]? = some p.2) (ho : os[i]? = some o) :
    ∃ b q, a = some ⟨b, q, none⟩ ∧ ∀ (j : Nat) (u : Value), o.cells[j]? = some u → w.cell? ⟨b, q + i * 5 + j, none⟩ = some u := by
  have hl : i < os.length := (List.getElem?_eq_some_iff.1 ho).1
  have hS := OwnS_slIn hO hs
  obtain ⟨b, q, h1, _, h2⟩ := Sl_all hS (by intro h; have := congrArg List.length h; rw [ocells_length] at this; simp at this; omega)
  refine ⟨b, q, h1, fun j u hj => ?_⟩
  rw [Nat.add_assoc]
  exact h2 _ u (ocells_at ho j u hj)
theorem loadOpAt {w : World} {os : List OpV} {o : OpV} {b q c i : Nat} {Lv : Hp} (hO : OwnS 56 5 (.slice (some ⟨b, q, none⟩) os.length c) os.length (ocells os) Lv) (hs : ∀ p ∈ Lv, w.heap[p.1]? = some p.2) (ho : os[i]? = some o) :
    ∀ (j : Nat) (u : Value), o.cells[j]? = some u → w.cell? ⟨b, q + i * 5 + j, none⟩ = some u := by
  obtain ⟨b', q', h1, h2⟩ := loadOp hO hs ho
  cases h1; exact h2
set_option maxHeartbeats 4000000 in
theorem made_ok (vl : Value) (room : Int) (ls : List Int) (w0 : World) (hl : Sl w0 vl ls.length (i64s ls)) (hli : ∀ z ∈ ls, isI64 z) (hroom : isI64 room) :
    Ret Try.prog 21 [.int .i64 room, vl].toArray w0 fun r w' => ∃ p q D L1 L2, r = .tuple #[.pointer (some ⟨p, 0, none⟩), .pointer (some ⟨q, 0, none⟩)] ∧ DiskAt p D L1 ∧ RefAt q D L2 ∧ St [] w0 w' (L1 ++ L2) := by
  have hrr := aroundV_range (m := room) (q := 40) (by omega)
  refine Ret_start fun w hs => ?_
  refine Ret_of Try.func21 rfl Try.ntmps21 rfl ?_
  refine W_seq ?_
  refine W_region ?_
  refine s_assign rfl rfl ?_
  refine s_assign rfl rfl ?_
  refine WL_nil ?_
  refine n_then ?_
  refine W_seq ?_
  refine W_region ?_
  refine s_move rfl rfl ?_
  refine s_call Try.call11 rfl rfl (around_ok room 40 _ (by omega) hroom) ?_
  rintro r w ⟨rfl, rfl⟩
  first | (refine s_add' rfl rfl rfl ?hx ?_; case hx => (constructor <;> first | omega | (simp only; omega))) | refine s_add rfl rfl rfl ?_
  refine s_assign rfl rfl ?_
  refine WL_nil ?_
  refine n_then ?_
  refine W_seq ?_
  refine W_region ?_
  refine s_move rfl rfl ?_
  refine s_call Try.call10 rfl rfl (dNew_ok (12 + aroundV room 40) w) ?_
  rintro v w (⟨-, -, p, Ld, rfl, hD, hst⟩ | ⟨h, -⟩)
  rotate_left
  · exact absurd ⟨by omega, by omega⟩ h
  replace hs := (St.back0 hs hst).left
  clear hst
  refine s_move rfl rfl ?_
  refine s_extract rfl rfl rfl ?_
  refine s_extract rfl rfl rfl ?_
  refine s_assign rfl rfl ?_
  refine s_assign rfl rfl ?_
  refine WL_nil ?_
  refine n_then ?_
  refine W_seq ?_
  refine W_seq ?_
  refine W_region ?_
  refine s_move rfl rfl ?_
  refine s_eql_ptr_nil Try.underlying23 rfl rfl rfl ?_
  refine s_move rfl rfl ?_
  refine WL_know (s := 22) (c := false) rfl (rfl) ?_
  refine WL_take rfl ?_
  refine s_move rfl rfl ?_
  refine WL_take rfl ?_
  refine s_neq rfl rfl rfl ?_
  refine s_pick_f rfl rfl rfl ?_
  refine WL_nil ?_
  refine n_then ?_
  refine W_cond_kf rfl (rfl) ?_
  refine W_skip ?_
  refine n_then ?_
  refine W_seq ?_
  refine W_region ?_
  refine s_move rfl rfl ?_
  refine s_call Try.call26 rfl rfl (rNew_ok (12 + aroundV room 40) w (by omega)) ?_
  rintro v w ⟨q, Lm, rfl, hR, hst⟩
  replace hs := (St.back0 hs hst).swap
  clear hst
  refine s_assign rfl rfl ?_
  refine WL_nil ?_
  refine n_then ?_
  refine W_seq ?_
  refine W_region ?_
  refine s_move rfl rfl ?_
  refine s_call Try.call27 rfl rfl (ops_ok vl ls w (hl.fwd0 hs.fwd) hli) ?_
  rintro v w ⟨os, Lv, LX, hO, hst, hok, hosl⟩
  replace hs := (St.back0 hs hst).swap
  simp only [List.append_assoc] at hs
  clear hst
  obtain ⟨_, cv, av, rfl, hvl⟩ := hO.form
  subst hvl
  refine s_assign rfl rfl ?_
  refine WL_nil ?_
  refine n_then ?_
  refine W_seq ?_
  refine W_seq ?_
  refine W_region ?_
  refine s_assign rfl rfl ?_
  refine WL_nil ?_
  refine n_then ?_
  refine W_block ?_
  refine W_loop (σ := MdS) (fun s => [(7, .pointer (some ⟨p, 0, none⟩)), (9, .pointer (some ⟨q, 0, none⟩)), (10, .slice av os.length cv), (11, .int .i64 (s.i : Int))]) (fun s w => St [] w0 w (s.L1 ++ (s.L2 ++ (Lv ++ LX))) ∧ DiskAt p s.D s.L1 ∧ RefAt q s.D s.L2 ∧ s.i ≤ os.length) (fun s => os.length - s.i) ⟨0, newDk (12 + aroundV room 40), Ld, Lm⟩ ⟨rfl, rfl, rfl, rfl, trivial⟩ ⟨hs, hD, hR, Nat.zero_le _⟩ ?_
  clear hs hD hR
  rintro ⟨i, D, L1, L2⟩ w ⟨hs, hD, hR, hi⟩
  simp only at hs hD hR hi ⊢
  refine W_seq ?_
  refine W_seq ?_
  refine W_region ?_
  refine s_move rfl rfl ?_
  refine s_move rfl rfl ?_
  refine s_len rfl rfl (LN52 _ _ _ _) ?_
  refine s_lss rfl rfl rfl ?_
  refine WL_nil ?_
  refine n_then ?_
  refine W_cond rfl (fun hc33 => ?_) (fun hc33 => ?_)
  · skip
    try simp only [decide_eq_true_eq, decide_eq_false_iff_not, gt_iff_lt] at hc33
    have hil : i < os.length := by omega
    obtain ⟨o, ho⟩ : ∃ o, os[i]? = some o := ⟨_, List.getElem?_eq_getElem hil⟩
    have hoo := hok o (List.mem_of_getElem? ho)
    obtain ⟨b1, o1, hA1, -⟩ := loadOp (w := w) hO (fun x hx => hs.own x (by simp [hx])) ho
    subst hA1
    refine W_skip ?_
    refine n_then ?_
    refine W_seq ?_
    refine W_block ?_
    refine W_seq ?_
    refine W_region ?_
    refine s_move rfl rfl ?_
    refine s_move rfl rfl ?_
    refine s_move rfl rfl ?_
    (refine s_indexAddr El52 rfl rfl rfl ?hx ?_; case hx => (constructor <;> first | omega | (simp; omega)))
    refine s_loadA (cs := o.cells) Try.isAgg56 Try.sizeOf56 rfl rfl rfl (by intro j u hj; rw [Int.toNat_natCast]; exact loadOpAt hO (fun x hx => hs.own x (by simp [hx])) ho j u hj) ?_
    have hdj := ids_disj (A := L1) (B := L2 ++ Lv) (C := LX) (by simpa using hs)
    refine s_callL (M := []) (L1 := L1) (X := L2 ++ (Lv ++ LX)) Try.call28 rfl rfl hs (fun h => do_ok p D o LX L1 w hD hoo (fun x hx => hs.own x (by simp [hx])) hdj.1 h) ?_
    clear hs; rintro u w L1' ⟨hD', rfl⟩ - hs
    simp only [List.nil_append] at hs
    refine WL_nil ?_
    refine n_then ?_
    refine W_region ?_
    refine s_move rfl rfl ?_
    refine s_move rfl rfl ?_
    refine s_move rfl rfl ?_
    (refine s_indexAddr El52 rfl rfl rfl ?hx ?_; case hx => (constructor <;> first | omega | (simp; omega)))
    refine s_loadA (cs := o.cells) Try.isAgg56 Try.sizeOf56 rfl rfl rfl (by intro j u hj; rw [Int.toNat_natCast]; exact loadOpAt hO (fun x hx => hs.own x (by simp [hx])) ho j u hj) ?_
    have hdj := ids_disj (A := L1' ++ Lv) (B := L2) (C := LX) (by have h9 := St.reord [L1', L2, Lv, LX] [0, 2, 1, 3] [] hs rfl; simpa [cat] using h9)
    refine s_callL (M := L1') (L1 := L2) (X := Lv ++ LX) Try.call29 rfl rfl hs (fun h => rDo_ok q D o LX L2 w hD.firmOk hR hoo (fun x hx => hs.own x (by simp [hx])) hdj.2.1 h) ?_
    clear hs; rintro u w L2' ⟨hR', rfl⟩ - hs
    refine WL_nil ?_
    refine n_blk ?_
    refine n_then ?_
    refine W_region ?_
    refine s_move rfl rfl ?_
    first | (refine s_add' rfl rfl rfl ?hx ?_; case hx => (constructor <;> first | omega | (simp only; omega))) | refine s_add rfl rfl rfl ?_
    refine s_assign rfl rfl ?_
    refine WL_nil ?_
    refine n_loop ?_
    exact ⟨⟨i + 1, _, L1', L2'⟩, ⟨rfl, rfl, rfl, rfl, trivial⟩, ⟨hs, hD', hR', hil⟩, by simp only; omega⟩
  · skip
    try simp only [decide_eq_true_eq, decide_eq_false_iff_not, gt_iff_lt] at hc33
    refine W_exit ?_
    refine x_then ?_
    refine x_then ?_
    refine exit_hit ?_
    refine n_then ?_
    refine W_seq ?_
    refine W_region ?_
    refine s_move rfl rfl ?_
    refine s_move rfl rfl ?_
    refine s_assign rfl rfl ?_
    refine s_assign rfl rfl ?_
    refine WL_nil ?_
    refine n_then ?_
    refine W_ret ?_
    refine end2 rfl rfl rfl ⟨p, q, D, L1, L2, rfl, hD, hR, ?_⟩
    have h9 : St [] w0 w ((L1 ++ L2) ++ (Lv ++ LX)) := by simpa using hs
    exact h9.left
set_option maxHeartbeats 4000000 in
theorem diskRuns_ok (vl : Value) (room : Int) (ls : List Int) (w0 : World) (hl : Sl w0 vl ls.length (i64s ls)) (hli : ∀ z ∈ ls, isI64 z) (hroom : isI64 room) :
    Ret Try.prog 6 [.int .i64 room, vl].toArray w0 fun r w' => Fwd [] w0 w' ∧ r = .bool true := by
  have hrr := aroundV_range (m := room) (q := 40) (by omega)
  refine Ret_start fun w hs => ?_
  refine Ret_of Try.func6 rfl Try.ntmps6 rfl ?_
  refine W_seq ?_
  refine W_region ?_
  refine s_assign rfl rfl ?_
  refine WL_nil ?_
  refine n_then ?_
  refine W_seq ?_
  refine W_region ?_
  refine s_move rfl rfl ?_
  refine s_call Try.call11 rfl rfl (around_ok room 40 _ (by omega) hroom) ?_
  rintro r w ⟨rfl, rfl⟩
  first | (refine s_add' rfl rfl rfl ?hx ?_; case hx => (constructor <;> first | omega | (simp only; omega))) | refine s_add rfl rfl rfl ?_
  refine s_assign rfl rfl ?_
  refine WL_nil ?_
  refine n_then ?_
  refine W_seq ?_
  refine W_region ?_
  refine s_move rfl rfl ?_
  refine s_call Try.call10 rfl rfl (dNew_ok (12 + aroundV room 40) w) ?_
  rintro v w (⟨-, -, p, Ld, rfl, hD, hst⟩ | ⟨h, -⟩)
  rotate_left
  · exact absurd ⟨by omega, by omega⟩ h
  replace hs := (St.back0 hs hst).left
  clear hst
  refine s_move rfl rfl ?_
  refine s_extract rfl rfl rfl ?_
  refine s_extract rfl rfl rfl ?_
  refine s_assign rfl rfl ?_
  refine s_assign rfl rfl ?_
  refine WL_nil ?_
  refine n_then ?_
  refine W_seq ?_
  refine W_seq ?_
  refine W_region ?_
  refine s_move rfl rfl ?_
  refine s_eql_ptr_nil Try.underlying23 rfl rfl rfl ?_
  refine s_move rfl rfl ?_
  refine WL_know (s := 21) (c := false) rfl (rfl) ?_
  refine WL_take rfl ?_
  refine s_move rfl rfl ?_
  refine WL_take rfl ?_
  refine s_neq rfl rfl rfl ?_
  refine s_pick_f rfl rfl rfl ?_
  refine WL_nil ?_
  refine n_then ?_
  refine W_cond_kf rfl (rfl) ?_
  refine W_skip ?_
  refine n_then ?_
  refine W_seq ?_
  refine W_region ?_
  refine s_move rfl rfl ?_
  refine s_call Try.call26 rfl rfl (rNew_ok (12 + aroundV room 40) w (by omega)) ?_
  rintro v w ⟨q, Lm, rfl, hR, hst⟩
  replace hs := (St.back0 hs hst).swap
  clear hst
  refine s_assign rfl rfl ?_
  refine WL_nil ?_
  refine n_then ?_
  refine W_seq ?_
  refine W_region ?_
  refine s_move rfl rfl ?_
  refine s_call Try.call27 rfl rfl (ops_ok vl ls w (hl.fwd0 hs.fwd) hli) ?_
  rintro v w ⟨os, Lv, LX, hO, hst, hok, hosl⟩
  replace hs := (St.back0 hs hst).swap
  simp only [List.append_assoc] at hs
  clear hst
  obtain ⟨_, cv, av, rfl, hvl⟩ := hO.form
  subst hvl
  refine s_assign rfl rfl ?_
  refine WL_nil ?_
  refine n_then ?_
  refine W_seq ?_
  refine W_seq ?_
  refine W_region ?_
  refine s_assign rfl rfl ?_
  refine WL_nil ?_
  refine n_then ?_
  refine W_block ?_
  refine W_loop (σ := MdS) (fun s => [(6, .pointer (some ⟨p, 0, none⟩)), (8, .pointer (some ⟨q, 0, none⟩)), (9, .slice av os.length cv), (10, .int .i64 (s.i : Int))]) (fun s w => St [] w0 w (s.L1 ++ (s.L2 ++ (Lv ++ LX))) ∧ DiskAt p s.D s.L1 ∧ RefAt q s.D s.L2 ∧ s.i ≤ os.length) (fun s => os.length - s.i) ⟨0, newDk (12 + aroundV room 40), Ld, Lm⟩ ⟨rfl, rfl, rfl, rfl, trivial⟩ ⟨hs, hD, hR, Nat.zero_le _⟩ ?_
  clear hs hD hR
  rintro ⟨i, D, L1, L2⟩ w ⟨hs, hD, hR, hi⟩
  simp only at hs hD hR hi ⊢
  refine W_seq ?_
  refine W_seq ?_
  refine W_region ?_
  refine s_move rfl rfl ?_
  refine s_move rfl rfl ?_
  refine s_len rfl rfl (LN52 _ _ _ _) ?_
  refine s_lss rfl rfl rfl ?_
  refine WL_nil ?_
  refine n_then ?_
  refine W_cond rfl (fun hc32 => ?_) (fun hc32 => ?_)
  · skip
    try simp only [decide_eq_true_eq, decide_eq_false_iff_not, gt_iff_lt] at hc32
    have hil : i < os.length := by omega
    obtain ⟨o, ho⟩ : ∃ o, os[i]? = some o := ⟨_, List.getElem?_eq_getElem hil⟩
    have hoo := hok o (List.mem_of_getElem? ho)
    obtain ⟨b1, o1, hA1, -⟩ := loadOp (w := w) hO (fun x hx => hs.own x (by simp [hx])) ho
    subst hA1
    refine W_skip ?_
    refine n_then ?_
    refine W_seq ?_
    refine W_block ?_
    refine W_seq ?_
    refine W_draw [(0, true, []), (1, true, []), (2, true, []), (3, true, []), (4, true, []), (6, true, []), (7, true, []), (8, true, []), (9, true, []), (10, true, []), (5, false, [6, 7, 8, 9, 10]), (11, false, []), (12, true, []), (13, true, []), (14, true, []), (15, true, []), (16, false, []), (17, true, []), (18, true, [])] [[], [], [], [1, 2], [1, 2, 3], [0, 1, 2, 3, 4], [], [], [], [7, 8], [7, 8, 9], [0, 1, 2, 3, 4, 5, 6, 7, 8, 9, 10], [0, 1, 2, 3, 4, 5, 6, 7, 8, 9, 10, 11], [0, 1, 2, 3, 4, 5, 6, 7, 8, 9, 10, 11, 12], [0, 1, 2, 3, 4, 5, 6, 7, 8, 9, 10, 11, 12, 13], [0, 1, 2, 3, 4, 5, 6, 7, 8, 9, 10, 11, 12, 13], [0, 1, 2, 3, 4, 5, 6, 7, 8, 9, 10, 11, 12, 13, 14, 15], [0, 1, 2, 3, 4, 5, 6, 7, 8, 9, 10, 11, 12, 13, 14, 15, 16], [0, 1, 2, 3, 4, 5, 6, 7, 8, 9, 10, 11, 12, 13, 14, 15, 16, 17]] MX (by kernel_rfl) ?_
    intro w1 hw1 hw2 hw3 hw4; replace hs := hs.redrawn hw1 hw2 hw3 hw4; clear hw1 hw2 hw3 hw4
    obtain ⟨w, rfl⟩ : ∃ w : World, w = w1 := ⟨_, rfl⟩
    refine D_q rfl rfl ?_
    refine s_move rfl rfl ?_
    refine D_qn ?_
    refine D_q rfl rfl ?_
    refine s_move rfl rfl ?_
    refine D_qn ?_
    refine D_q rfl rfl ?_
    refine s_move rfl rfl ?_
    refine D_qn ?_
    refine D_q rfl rfl ?_
    (refine s_indexAddr El52 rfl rfl rfl ?hx ?_; case hx => (constructor <;> first | omega | (simp; omega)))
    refine D_qn ?_
    refine D_q rfl rfl ?_
    refine s_loadA (cs := o.cells) Try.isAgg56 Try.sizeOf56 rfl rfl rfl (by intro j u hj; rw [Int.toNat_natCast]; exact loadOpAt hO (fun x hx => hs.own x (by simp [hx])) ho j u hj) ?_
    refine D_qn ?_
    refine D_q rfl rfl ?_
    refine s_move rfl rfl ?_
    refine D_qn ?_
    refine D_q rfl rfl ?_
    refine s_move rfl rfl ?_
    refine D_qn ?_
    refine D_q rfl rfl ?_
    refine s_move rfl rfl ?_
    refine D_qn ?_
    refine D_q rfl rfl ?_
    (refine s_indexAddr El52 rfl rfl rfl ?hx ?_; case hx => (constructor <;> first | omega | (simp; omega)))
    refine D_qn ?_
    refine D_q rfl rfl ?_
    refine s_loadA (cs := o.cells) Try.isAgg56 Try.sizeOf56 rfl rfl rfl (by intro j u hj; rw [Int.toNat_natCast]; exact loadOpAt hO (fun x hx => hs.own x (by simp [hx])) ho j u hj) ?_
    refine D_qn ?_
    refine D_e rfl ?_
    have hdj := ids_disj (A := L1) (B := L2 ++ Lv) (C := LX) (by simpa using hs)
    refine s_callL (M := []) (L1 := L1) (X := L2 ++ (Lv ++ LX)) Try.call28 rfl rfl hs (fun h => do_ok p D o LX L1 w hD hoo (fun x hx => hs.own x (by simp [hx])) hdj.1 h) ?_
    clear hs; rintro u w L1' ⟨hD', rfl⟩ - hs
    simp only [List.nil_append] at hs
    refine D_en ?re ?_
    case re =>
      refine Reks_cons rfl rfl rfl rfl ?_ ?_
      · skip
        refine s_move rfl rfl ?_
        exact Rek_end rfl
      refine Reks_cons rfl rfl rfl rfl ?_ ?_
      · skip
        refine s_move rfl rfl ?_
        exact Rek_end rfl
      refine Reks_cons rfl rfl rfl rfl ?_ ?_
      · skip
        refine s_move rfl rfl ?_
        exact Rek_end rfl
      refine Reks_cons rfl rfl rfl rfl ?_ ?_
      · skip
        (refine s_indexAddr El52 rfl rfl rfl ?hx ?_; case hx => (constructor <;> first | omega | (simp; omega)))
        exact Rek_end rfl
      refine Reks_cons rfl rfl rfl rfl ?_ ?_
      · skip
        refine s_loadA (cs := o.cells) Try.isAgg56 Try.sizeOf56 rfl rfl rfl (by intro j u hj; rw [Int.toNat_natCast]; exact loadOpAt hO (fun x hx => hs.own x (by simp [hx])) ho j u hj) ?_
        exact Rek_end rfl
      exact Reks_nil
    refine D_e rfl ?_
    have hdj := ids_disj (A := L1' ++ Lv) (B := L2) (C := LX) (by have h9 := St.reord [L1', L2, Lv, LX] [0, 2, 1, 3] [] hs rfl; simpa [cat] using h9)
    refine s_callL (M := L1') (L1 := L2) (X := Lv ++ LX) Try.call29 rfl rfl hs (fun h => rDo_ok q D o LX L2 w hD.firmOk hR hoo (fun x hx => hs.own x (by simp [hx])) hdj.2.1 h) ?_
    clear hs; rintro u w L2' ⟨hR', rfl⟩ - hs
    refine D_en ?re ?_
    case re =>
      exact Reks_nil
    refine D_q rfl rfl ?_
    refine s_neq rfl rfl rfl ?_
    refine D_qn ?_
    refine D_q rfl rfl ?_
    refine s_move rfl rfl ?_
    refine WL_know (s := 48) (c := false) rfl ((by simp)) ?_
    refine D_qn ?_
    refine D_q rfl rfl ?_
    refine WL_take rfl ?_
    refine s_move rfl rfl ?_
    refine D_qn ?_
    refine D_q rfl rfl ?_
    refine WL_take rfl ?_
    refine s_move rfl rfl ?_
    refine D_qn ?_
    refine D_e rfl ?_
    refine WL_take rfl ?_
    refine s_callL (M := []) (L1 := L1' ++ L2') (X := Lv ++ LX) Try.call30 rfl rfl (by simpa using hs) (fun h => same_ok p q _ L1' L2' w hD' hR' h) ?_
    clear hs; rintro u w L9 ⟨hL9, rfl⟩ - hs
    rw [hL9] at hs
    clear hL9
    simp only [List.nil_append, List.append_assoc] at hs
    refine D_en ?re ?_
    case re =>
      exact Reks_nil
    refine D_q rfl rfl ?_
    refine WL_take rfl ?_
    refine s_not rfl rfl ?_
    refine D_qn ?_
    refine D_q rfl rfl ?_
    refine s_pick_f rfl rfl rfl ?_
    refine D_qn ?_
    refine D_nil ?_
    refine n_then ?_
    refine W_cond_kf rfl (rfl) ?_
    refine W_skip ?_
    refine n_blk ?_
    refine n_then ?_
    refine W_region ?_
    refine s_move rfl rfl ?_
    first | (refine s_add' rfl rfl rfl ?hx ?_; case hx => (constructor <;> first | omega | (simp only; omega))) | refine s_add rfl rfl rfl ?_
    refine s_assign rfl rfl ?_
    refine WL_nil ?_
    refine n_loop ?_
    exact ⟨⟨i + 1, _, L1', L2'⟩, ⟨rfl, rfl, rfl, rfl, trivial⟩, ⟨hs, hD', hR', hil⟩, by simp only; omega⟩
  · skip
    try simp only [decide_eq_true_eq, decide_eq_false_iff_not, gt_iff_lt] at hc32
    refine W_exit ?_
    refine x_then ?_
    refine x_then ?_
    refine exit_hit ?_
    refine n_then ?_
    refine W_seq ?_
    refine W_region ?_
    refine s_call Try.call18 rfl rfl (lives_ok w) ?_
    rintro r w ⟨hst, rfl⟩
    replace hs := hs.fwd1 hst
    clear hst
    refine s_assign rfl rfl ?_
    refine WL_nil ?_
    refine n_then ?_
    refine W_ret ?_
    exact end1 rfl rfl ⟨hs.fwd, rfl⟩
end Go.Proofs.Ythfcdjbkbmhjgaa
