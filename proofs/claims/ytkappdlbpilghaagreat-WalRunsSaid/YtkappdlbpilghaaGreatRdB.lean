/- The reference's disk: Append, Sync, Truncate. -/
import Derived.Test.YtkappdlbpilghaaGreatRdA
set_option linter.unusedVariables false
set_option linter.unusedSimpArgs false
namespace Go.Proofs.YtkappdlbpilghaaGreat
open Go.SL
abbrev RL (p gB gF : Nat) (D : Dk) (rs : List Rw) : Hp := (p, Blk 50 (rdCells D gB gF)) :: (gB, Blk 39 (rvs rs)) :: (gF, Blk 3 (rds rs)) :: rblks rs
theorem RefAt.mk {p gB gF : Nat} {D : Dk} {rs : List Rw} (hR : RsOk D rs) (hK : dkOk D) : RefAt p D (RL p gB gF D rs) := ⟨gB, gF, rs, rfl, hR, hK⟩
theorem rs_swap {F : List Nat} {w0 w : World} {rs : List Rw} {i : Nat} {r : Rw} (h : rs[i]? = some r) (r' : Rw) {P Q S : Nat × Obj} (hs : St F w0 w (P :: Q :: S :: (r'.L ++ rblks rs))) : St F w0 w (P :: Q :: S :: rblks (rs.set i r')) := by
  obtain ⟨R, h1, h2⟩ := rw_open h
  have h3 : (r'.L ++ rblks rs).Perm (rblks (rs.set i r') ++ r.L) :=
    ((h1.append_left r'.L).trans (perm_mid _ _ _)).trans (((h2 r').append_left r.L).trans List.perm_append_comm)
  have h4 := hs.perm (((h3.cons S).cons Q).cons P)
  exact St.left (L := P :: Q :: S :: rblks (rs.set i r')) (M := r.L) h4
theorem rs_same {rs : List Rw} {i : Nat} {r r' : Rw} (h : rs[i]? = some r) (hL : r'.L = r.L) : (rblks rs).Perm (rblks (rs.set i r')) := by
  obtain ⟨R, h1, h2⟩ := rw_open h
  exact h1.trans (by rw [← hL]; exact h2 r')
theorem RsOk.congr {D E : Dk} {rs : List Rw} (h : RsOk D rs) (hc : ∀ i : Nat, i < 64 → E.c (i : Int) = D.c (i : Int) ∧ E.d (i : Int) = D.d (i : Int)) : RsOk E rs := by
  refine ⟨h.len, fun i r hi => ?_⟩
  have hl : i < 64 := by have := (List.getElem?_eq_some_iff.1 hi).1; rw [h.len] at this; exact this
  rw [(hc i hl).1, (hc i hl).2]; exact h.at' i r hi
theorem rvs_length {D : Dk} {rs : List Rw} (h : RsOk D rs) : (rvs rs).length = 64 ∧ (rds rs).length = 64 := ⟨by rw [rvs, List.length_map]; exact h.len, by rw [rds, List.length_map]; exact h.len⟩
set_option maxHeartbeats 1000000 in
theorem rAppend_ok (p : Nat) (D : Dk) (f : Int) (v : Value) (bs : List Int) (L0 : Hp) (w0 : World) (hD : RefAt p D L0) (hv : Sl w0 v bs.length (u8s bs)) (hap : ∀ a m c, v = .slice (some a) m c → u8s bs ≠ [] → a.block ∉ ids L0) (hB : ∀ b ∈ bs, isB b) (hbl : bs.length ≤ 1099511627776) (hs : St (ids L0) w0 w0 L0) :
    Ret Tryz.prog 36 [.pointer (some ⟨p, 0, none⟩), .int .i64 f, v].toArray w0 fun r w' => ∃ L', St (ids L0) w0 w' L' ∧ RefAt p (D.app f bs).1 L' ∧ r = .int .i64 (D.app f bs).2 := by
  obtain ⟨va, vc, rfl, hvc⟩ := hv.len_le
  obtain ⟨gB, gF, rs, hL, hR, hK⟩ := hD
  have hrl := rvs_length hR
  have hstep := step_c D
  have hsg := step_ok hK
  replace hs : St (ids L0) w0 w0 (RL p gB gF D rs) := by rw [hL] at hs ⊢; exact hs
  unfold RL rdCells at hs
  have hend : ∀ w, St (ids L0) w0 w (RL p gB gF D rs) → ∃ L', St (ids L0) w0 w L' ∧ RefAt p D L' := fun w h => ⟨_, h, RefAt.mk hR hK⟩
  refine Ret_startL hs fun w hs => ?_
  refine Ret_of Tryz.func36 rfl Tryz.ntmps36 rfl ?_
  refine W_seq ?_
  refine W_region ?_
  refine s_assign rfl rfl ?_
  refine WL_nil ?_
  refine n_then ?_
  refine W_seq ?_
  refine W_seq ?_
  refine W_region ?_
  refine s_move rfl rfl ?_
  refine s_lss rfl rfl rfl ?_
  refine s_move rfl rfl ?_
  refine WL_case (s := 11) rfl (fun hg11 => ?_) (fun hg11 => ?_)
  · skip
    try simp only [decide_eq_true_eq, decide_eq_false_iff_not, gt_iff_lt] at hg11
    refine WL_skip rfl rfl rfl ?_
    refine WL_skip rfl rfl rfl ?_
    refine s_pick_t rfl rfl rfl ?_
    refine WL_nil ?_
    refine n_then ?_
    refine W_cond_t rfl ?_
    refine W_seq ?_
    refine W_region ?_
    refine s_assign rfl rfl ?_
    refine WL_nil ?_
    refine n_then ?_
    refine W_ret ?_
    refine r_then ?_
    first
      | (rw [Dk.app, if_pos (by omega)]
         obtain ⟨L', h1, h2⟩ := hend w hs
         exact end1 rfl rfl ⟨L', h1, h2, rfl⟩)
      | (rw [Dk.app, if_neg (by omega), if_pos (by assumption)]
         obtain ⟨L', h1, h2⟩ := hend w hs
         exact end1 rfl rfl ⟨L', h1, h2, rfl⟩)
      | (rw [Dk.app, if_neg (by omega), if_neg (by simp [*]), if_pos (by omega)]
         obtain ⟨L', h1, h2⟩ := hend w hs
         exact end1 rfl rfl ⟨L', h1, h2, rfl⟩)
      | (rw [hapE]
         simp only [hc49, if_true]
         exact end1 rfl rfl ⟨_, hs, RefAt.mk hRf hKf, rfl⟩)
      | (rw [hapE]
         simp only [hc49]
         exact end1 rfl rfl ⟨_, hs, RefAt.mk hRf hKf, rfl⟩)
  · skip
    try simp only [decide_eq_true_eq, decide_eq_false_iff_not, gt_iff_lt] at hg11
    refine WL_take rfl ?_
    refine s_move rfl rfl ?_
    refine WL_take rfl ?_
    refine s_gtr rfl rfl rfl ?_
    refine s_pick_f rfl rfl rfl ?_
    refine WL_nil ?_
    refine n_then ?_
    refine W_cond rfl (fun hc14 => ?_) (fun hc14 => ?_)
    · skip
      try simp only [decide_eq_true_eq, decide_eq_false_iff_not, gt_iff_lt] at hc14
      refine W_seq ?_
      refine W_region ?_
      refine s_assign rfl rfl ?_
      refine WL_nil ?_
      refine n_then ?_
      refine W_ret ?_
      refine r_then ?_
      first
        | (rw [Dk.app, if_pos (by omega)]
           obtain ⟨L', h1, h2⟩ := hend w hs
           exact end1 rfl rfl ⟨L', h1, h2, rfl⟩)
        | (rw [Dk.app, if_neg (by omega), if_pos (by assumption)]
           obtain ⟨L', h1, h2⟩ := hend w hs
           exact end1 rfl rfl ⟨L', h1, h2, rfl⟩)
        | (rw [Dk.app, if_neg (by omega), if_neg (by simp [*]), if_pos (by omega)]
           obtain ⟨L', h1, h2⟩ := hend w hs
           exact end1 rfl rfl ⟨L', h1, h2, rfl⟩)
        | (rw [hapE]
           simp only [hc49, if_true]
           exact end1 rfl rfl ⟨_, hs, RefAt.mk hRf hKf, rfl⟩)
        | (rw [hapE]
           simp only [hc49]
           exact end1 rfl rfl ⟨_, hs, RefAt.mk hRf hKf, rfl⟩)
    · skip
      try simp only [decide_eq_true_eq, decide_eq_false_iff_not, gt_iff_lt] at hc14
      refine W_skip ?_
      refine n_then ?_
      refine W_seq ?_
      refine W_seq ?_
      refine W_region ?_
      refine s_move rfl rfl ?_
      refine s_nilCheck rfl rfl ?_
      refine s_fieldAddr rfl rfl (FA50_3 _ _) ?_
      first
        | refine s_load Tryz.isAgg4 rfl rfl (hs.cell (k := 0) rfl rfl) ?_
      refine WL_nil ?_
      refine n_then ?_
      refine W_cond rfl (fun hc18 => ?_) (fun hc18 => ?_)
      · skip
        try simp only [decide_eq_true_eq, decide_eq_false_iff_not, gt_iff_lt] at hc18
        refine W_seq ?_
        refine W_region ?_
        refine s_assign rfl rfl ?_
        refine WL_nil ?_
        refine n_then ?_
        refine W_ret ?_
        refine r_then ?_
        first
          | (rw [Dk.app, if_pos (by omega)]
             obtain ⟨L', h1, h2⟩ := hend w hs
             exact end1 rfl rfl ⟨L', h1, h2, rfl⟩)
          | (rw [Dk.app, if_neg (by omega), if_pos (by assumption)]
             obtain ⟨L', h1, h2⟩ := hend w hs
             exact end1 rfl rfl ⟨L', h1, h2, rfl⟩)
          | (rw [Dk.app, if_neg (by omega), if_neg (by simp [*]), if_pos (by omega)]
             obtain ⟨L', h1, h2⟩ := hend w hs
             exact end1 rfl rfl ⟨L', h1, h2, rfl⟩)
          | (rw [hapE]
             simp only [hc49, if_true]
             exact end1 rfl rfl ⟨_, hs, RefAt.mk hRf hKf, rfl⟩)
          | (rw [hapE]
             simp only [hc49]
             exact end1 rfl rfl ⟨_, hs, RefAt.mk hRf hKf, rfl⟩)
      · skip
        try simp only [decide_eq_true_eq, decide_eq_false_iff_not, gt_iff_lt] at hc18
        obtain ⟨i, rfl⟩ : ∃ i : Nat, f = (i : Int) := ⟨f.toNat, by omega⟩
        have hi64 : i < 64 := by omega
        obtain ⟨r, hr, hok, hc, hd, hrv, hdv⟩ := hR.get hi64
        have hts := total_set (D := D) (f := (i : Int)) (bs := D.c (i : Int) ++ bs) (d := D.d (i : Int)) (by omega)
        have hlt := len_le_total D (f := (i : Int)) (by omega)
        simp only [List.length_append] at hts
        have hK1 := hK.1
        refine W_skip ?_
        refine n_then ?_
        refine W_seq ?_
        refine W_seq ?_
        refine W_draw [(0, true, []), (2, true, []), (3, true, []), (5, true, []), (6, true, []), (7, true, []), (8, true, []), (1, false, [2, 3, 5, 6, 7, 8]), (4, true, []), (9, true, [])] [[], [0], [], [2], [0, 1, 2, 3], [], [5], [5, 6], [5, 6, 7], [0, 1, 2, 3, 4, 5, 6, 7, 8]] MX (by kernel_rfl) ?_
        intro w1 hw1 hw2 hw3 hw4; replace hs := hs.redrawn hw1 hw2 hw3 hw4; clear hw1 hw2 hw3 hw4
        obtain ⟨w, rfl⟩ : ∃ w : World, w = w1 := ⟨_, rfl⟩
        refine D_q rfl rfl ?_
        refine s_move rfl rfl ?_
        refine D_qn ?_
        refine D_q rfl rfl ?_
        refine s_move rfl rfl ?_
        refine D_qn ?_
        refine D_q rfl rfl ?_
        refine s_len rfl rfl (LN39 _ _ _ _) ?_
        refine D_qn ?_
        refine D_q rfl rfl ?_
        refine s_move rfl rfl ?_
        refine D_qn ?_
        refine D_q rfl rfl ?_
        refine s_nilCheck rfl rfl ?_
        refine D_qn ?_
        refine D_q rfl rfl ?_
        refine s_fieldAddr rfl rfl (FA50_0 _ _) ?_
        refine D_qn ?_
        refine D_q rfl rfl ?_
        first
          | refine s_load Tryz.isAgg3 rfl rfl (hs.cell (k := 0) rfl rfl) ?_
        refine D_qn ?_
        refine D_e rfl ?_
        refine s_callL (M := []) (L1 := RL p gB gF D rs) (X := []) Tryz.call50 rfl rfl (by rw [List.append_nil]; exact hs) (fun h => rUsed_ok p D _ w (RefAt.mk hR hK) h) ?_
        clear hs; rintro u w L9 ⟨hL9, rfl⟩ - hs
        rw [hL9] at hs
        clear hL9
        rw [List.append_nil, List.nil_append] at hs
        unfold RL rdCells at hs
        refine D_en ?re ?_
        case re =>
          refine Reks_cons rfl rfl rfl rfl ?_ ?_
          · skip
            refine s_move rfl rfl ?_
            exact Rek_end rfl
          refine Reks_cons rfl rfl rfl rfl ?_ ?_
          · skip
            refine s_len rfl rfl (LN39 _ _ _ _) ?_
            exact Rek_end rfl
          refine Reks_cons rfl rfl rfl rfl ?_ ?_
          · skip
            refine s_move rfl rfl ?_
            exact Rek_end rfl
          refine Reks_cons rfl rfl rfl rfl ?_ ?_
          · skip
            refine s_nilCheck rfl rfl ?_
            exact Rek_end rfl
          refine Reks_cons rfl rfl rfl rfl ?_ ?_
          · skip
            refine s_fieldAddr rfl rfl (FA50_0 _ _) ?_
            exact Rek_end rfl
          refine Reks_cons rfl rfl rfl rfl ?_ ?_
          · skip
            first
              | refine s_load Tryz.isAgg3 rfl rfl (hs.cell (k := 0) rfl rfl) ?_
            exact Rek_end rfl
          exact Reks_nil
        refine D_q rfl rfl ?_
        first | (refine s_add' rfl rfl rfl ?hx ?_; case hx => (constructor <;> first | omega | (simp only; omega))) | refine s_add rfl rfl rfl ?_
        refine D_qn ?_
        refine D_q rfl rfl ?_
        refine s_gtr rfl rfl rfl ?_
        refine D_qn ?_
        refine D_nil ?_
        refine n_then ?_
        refine W_cond rfl (fun hc28 => ?_) (fun hc28 => ?_)
        · skip
          try simp only [decide_eq_true_eq, decide_eq_false_iff_not, gt_iff_lt] at hc28
          refine W_seq ?_
          refine W_region ?_
          refine s_assign rfl rfl ?_
          refine WL_nil ?_
          refine n_then ?_
          refine W_ret ?_
          refine r_then ?_
          first
            | (rw [Dk.app, if_pos (by omega)]
               obtain ⟨L', h1, h2⟩ := hend w hs
               exact end1 rfl rfl ⟨L', h1, h2, rfl⟩)
            | (rw [Dk.app, if_neg (by omega), if_pos (by assumption)]
               obtain ⟨L', h1, h2⟩ := hend w hs
               exact end1 rfl rfl ⟨L', h1, h2, rfl⟩)
            | (rw [Dk.app, if_neg (by omega), if_neg (by simp [*]), if_pos (by omega)]
               obtain ⟨L', h1, h2⟩ := hend w hs
               exact end1 rfl rfl ⟨L', h1, h2, rfl⟩)
            | (rw [hapE]
               simp only [hc49, if_true]
               exact end1 rfl rfl ⟨_, hs, RefAt.mk hRf hKf, rfl⟩)
            | (rw [hapE]
               simp only [hc49]
               exact end1 rfl rfl ⟨_, hs, RefAt.mk hRf hKf, rfl⟩)
        · skip
          try simp only [decide_eq_true_eq, decide_eq_false_iff_not, gt_iff_lt] at hc28
          refine W_skip ?_
          refine n_then ?_
          refine W_seq ?_
          refine W_region ?_
          refine s_assign rfl rfl ?_
          refine WL_nil ?_
          refine n_then ?_
          refine W_seq ?_
          refine W_region ?_
          refine s_move rfl rfl ?_
          refine s_move rfl rfl ?_
          refine s_nilCheck rfl rfl ?_
          refine s_fieldAddr rfl rfl (FA50_1 _ _) ?_
          first
            | refine s_load Tryz.isAgg29 rfl rfl (hs.cell (k := 0) rfl rfl) ?_
          refine s_move rfl rfl ?_
          (refine s_indexAddr1 El29 rfl rfl rfl ?hx ?_; case hx => (constructor <;> first | omega | (simp; omega)))
          refine s_load Tryz.isAgg39 rfl rfl (hs.cell (k := 1) rfl (by rw [Nat.zero_add, Int.toNat_natCast]; exact hrv)) ?_
          have hS := OwnS_slIn hok.1 (w := w) fun q hq => hs.own q (by
            obtain ⟨R, h1, _⟩ := rw_open hr
            simp only [List.mem_cons]
            exact .inr (.inr (.inr (h1.mem_iff.2 (List.mem_append_left _ hq)))))
          refine s_appendM (M := [_, _, _]) (X := rblks rs) (Lv := []) El39 rfl rfl rfl (OwnS.nil _ _) hs hS (by simp) (u8s_one _) (by rw [← hc]; omega) ?_
          clear hs hS; intro v' w Lv hO' hs
          rw [Nat.zero_add, List.nil_append, ← hc] at hO'
          simp only [List.cons_append, List.nil_append] at hs
          refine s_assign rfl rfl ?_
          refine WL_nil ?_
          refine n_then ?_
          refine W_seq ?_
          refine W_draw [(0, true, []), (1, true, []), (2, true, []), (3, true, []), (4, true, []), (5, true, []), (6, true, []), (7, false, [0, 1, 2, 3, 4]), (8, true, []), (9, false, [])] [[], [0], [0, 1], [0, 1, 2], [], [], [], [5, 6], [0, 1, 2, 3, 4, 5, 6, 7], [0, 1, 2, 3, 4, 5, 6, 7, 8]] MX (by kernel_rfl) ?_
          intro w1 hw1 hw2 hw3 hw4; replace hs := hs.redrawn hw1 hw2 hw3 hw4; clear hw1 hw2 hw3 hw4
          obtain ⟨w, rfl⟩ : ∃ w : World, w = w1 := ⟨_, rfl⟩
          refine D_q rfl rfl ?_
          refine s_move rfl rfl ?_
          refine D_qn ?_
          refine D_q rfl rfl ?_
          refine s_nilCheck rfl rfl ?_
          refine D_qn ?_
          refine D_q rfl rfl ?_
          refine s_fieldAddr rfl rfl (FA50_1 _ _) ?_
          refine D_qn ?_
          refine D_q rfl rfl ?_
          first
            | refine s_load Tryz.isAgg29 rfl rfl (hs.cell (k := 0) rfl rfl) ?_
          refine D_qn ?_
          refine D_q rfl rfl ?_
          refine s_move rfl rfl ?_
          refine D_qn ?_
          refine D_q rfl rfl ?_
          refine s_move rfl rfl ?_
          refine D_qn ?_
          refine D_q rfl rfl ?_
          refine s_move rfl rfl ?_
          refine D_qn ?_
          refine D_e rfl ?_
          refine s_appendM (M := [_, _, _]) (X := rblks rs) El39 rfl rfl rfl hO' hs (hv.fwd hs.fwd hap) (by simp) (u8s_one _) (by omega) ?_
          clear hs hO'; intro v' w Lv hO' hs
          obtain ⟨_, c', a', rfl, hvl⟩ := hO'.form
          subst hvl
          simp only [List.cons_append, List.nil_append] at hs
          refine D_en ?re ?_
          case re =>
            refine Reks_cons rfl rfl rfl rfl ?_ ?_
            · skip
              refine s_move rfl rfl ?_
              exact Rek_end rfl
            refine Reks_cons rfl rfl rfl rfl ?_ ?_
            · skip
              refine s_nilCheck rfl rfl ?_
              exact Rek_end rfl
            refine Reks_cons rfl rfl rfl rfl ?_ ?_
            · skip
              refine s_fieldAddr rfl rfl (FA50_1 _ _) ?_
              exact Rek_end rfl
            refine Reks_cons rfl rfl rfl rfl ?_ ?_
            · skip
              first
                | refine s_load Tryz.isAgg29 rfl rfl (hs.cell (k := 0) rfl rfl) ?_
              exact Rek_end rfl
            refine Reks_cons rfl rfl rfl rfl ?_ ?_
            · skip
              refine s_move rfl rfl ?_
              exact Rek_end rfl
            exact Reks_nil
          refine D_q rfl rfl ?_
          (refine s_indexAddr1 El29 rfl rfl rfl ?hx ?_; case hx => (constructor <;> first | omega | (simp; omega)))
          refine D_qn ?_
          refine D_e rfl ?_
          refine s_store Tryz.sizeOf39 rfl rfl rfl hs (kk := 1) rfl (by rw [hrl.1]; omega) ?_
          clear hs; intro w hs
          simp only [List.set_cons_zero, List.set_cons_succ, Int.toNat_natCast, Nat.zero_add] at hs
          obtain ⟨r', hr'⟩ : ∃ r' : Rw, r' = ⟨.slice a' ((D.c (i : Int)).length + bs.length) c', D.c (i : Int) ++ bs, D.d (i : Int), Lv⟩ := ⟨_, rfl⟩
          have hr1 : rvs (rs.set i r') = (rvs rs).set i (.slice a' ((D.c (i : Int)).length + bs.length) c') := by rw [rvs_set, hr']
          have hr2 : rds (rs.set i r') = rds rs := by
            rw [rds_set, hr']
            apply List.ext_getElem?
            intro j
            rw [List.getElem?_set]
            split
            · rename_i h; subst h
              rw [hdv, hd]; simp [hrl.2, hi64]
            · rfl
          replace hs := rs_swap (r' := r') hr (by rw [hr']; exact hs)
          rw [← hr1, ← hr2] at hs
          have hok' : r'.ok := by
            rw [hr']
            refine ⟨by simp only [List.length_append]; rw [u8s, List.map_append]; exact hO', by simp only [List.length_append]; have := hok.2.1; rw [← hc, ← hd] at this; omega, fun b hb => ?_⟩
            rcases List.mem_append.1 hb with hb | hb
            · exact hok.2.2 b (hc ▸ hb)
            · exact hB b hb
          refine D_en ?re ?_
          case re =>
            exact Reks_nil
          refine D_nil ?_
          refine n_then ?_
          refine W_seq ?_
          refine W_region ?_
          refine s_move rfl rfl ?_
          refine s_callL (M := []) (L1 := [_]) (X := [_, _] ++ rblks (rs.set i r')) Tryz.call46 rfl rfl hs (fun h => rstep_ok p gB gF D w hK hc18 h) ?_
          clear hs; rintro u w L9 ⟨rfl, rfl⟩ - hs
          simp only [List.cons_append, List.nil_append] at hs
          have hss := set_step D (i : Int) (D.c (i : Int) ++ bs) (D.d (i : Int))
          have hRf : RsOk (D.step.1.set (i : Int) (D.c (i : Int) ++ bs) (D.d (i : Int))) (rs.set i r') := hR.set (r := r') hok' (by rw [hss.1, hr']) (by rw [hss.2, hr'])
          have hKf : dkOk (D.step.1.set (i : Int) (D.c (i : Int) ++ bs) (D.d (i : Int))) := ⟨⟨by rw [hss.1]; show _ ≤ D.step.1.room; rw [hstep.2.2]; omega, by show 0 ≤ D.step.1.room; rw [hstep.2.2]; omega, by show D.step.1.room ≤ _; rw [hstep.2.2]; omega⟩, hsg.2⟩
          have hapE : D.app (i : Int) bs = (D.step.1.set (i : Int) (D.c (i : Int) ++ bs) (D.d (i : Int)), if D.step.2 then 18 else 0) := by
            rw [Dk.app, if_neg (by omega), if_neg (by simp [hc18]), if_neg (by omega)]
          refine s_assign rfl rfl ?_
          refine WL_nil ?_
          refine n_then ?_
          refine W_seq ?_
          refine W_seq ?_
          refine W_region ?_
          refine s_move rfl rfl ?_
          refine WL_nil ?_
          refine n_then ?_
          refine W_cond rfl (fun hc49 => ?_) (fun hc49 => ?_)
          · skip
            try simp only [decide_eq_true_eq, decide_eq_false_iff_not, gt_iff_lt] at hc49
            refine W_seq ?_
            refine W_region ?_
            refine s_assign rfl rfl ?_
            refine WL_nil ?_
            refine n_then ?_
            refine W_ret ?_
            refine r_then ?_
            first
              | (rw [Dk.app, if_pos (by omega)]
                 obtain ⟨L', h1, h2⟩ := hend w hs
                 exact end1 rfl rfl ⟨L', h1, h2, rfl⟩)
              | (rw [Dk.app, if_neg (by omega), if_pos (by assumption)]
                 obtain ⟨L', h1, h2⟩ := hend w hs
                 exact end1 rfl rfl ⟨L', h1, h2, rfl⟩)
              | (rw [Dk.app, if_neg (by omega), if_neg (by simp [*]), if_pos (by omega)]
                 obtain ⟨L', h1, h2⟩ := hend w hs
                 exact end1 rfl rfl ⟨L', h1, h2, rfl⟩)
              | (rw [hapE]
                 simp only [hc49, if_true]
                 exact end1 rfl rfl ⟨_, hs, RefAt.mk hRf hKf, rfl⟩)
              | (rw [hapE]
                 simp only [hc49]
                 exact end1 rfl rfl ⟨_, hs, RefAt.mk hRf hKf, rfl⟩)
          · skip
            try simp only [decide_eq_true_eq, decide_eq_false_iff_not, gt_iff_lt] at hc49
            refine W_skip ?_
            refine n_then ?_
            refine W_seq ?_
            refine W_region ?_
            refine s_assign rfl rfl ?_
            refine WL_nil ?_
            refine n_then ?_
            refine W_ret ?_
            first
              | (rw [Dk.app, if_pos (by omega)]
                 obtain ⟨L', h1, h2⟩ := hend w hs
                 exact end1 rfl rfl ⟨L', h1, h2, rfl⟩)
              | (rw [Dk.app, if_neg (by omega), if_pos (by assumption)]
                 obtain ⟨L', h1, h2⟩ := hend w hs
                 exact end1 rfl rfl ⟨L', h1, h2, rfl⟩)
              | (rw [Dk.app, if_neg (by omega), if_neg (by simp [*]), if_pos (by omega)]
                 obtain ⟨L', h1, h2⟩ := hend w hs
                 exact end1 rfl rfl ⟨L', h1, h2, rfl⟩)
              | (rw [hapE]
                 simp only [hc49, if_true]
                 exact end1 rfl rfl ⟨_, hs, RefAt.mk hRf hKf, rfl⟩)
              | (rw [hapE]
                 simp only [hc49]
                 exact end1 rfl rfl ⟨_, hs, RefAt.mk hRf hKf, rfl⟩)
/-- the numbers below k -/
abbrev ints (k : Nat) : List Int := (List.range k).map fun (i : Nat) => (i : Int)
theorem ints_succ (k : Nat) : ints (k + 1) = ints k ++ [(k : Int)] := by rw [ints, List.range_succ, List.map_append]; rfl
theorem firm_ints {D : Dk} {rs : List Rw} (h : RsOk (D.firm (ints 64)) rs) : RsOk D.solid rs := by
  refine h.congr fun i hi => ⟨rfl, ?_⟩
  have : (i : Int) ∈ ints 64 := List.mem_map.2 ⟨i, List.mem_range.2 hi, rfl⟩
  simp only [Dk.solid, Dk.firm, if_pos this]
structure RsS where
  k : Nat
  rs : List Rw
theorem solid_ok {D : Dk} (h : dkOk D) : dkOk D.solid := h
theorem firm_step {D : Dk} {rs : List Rw} {k : Nat} {r : Rw} (h : RsOk (D.firm (ints k)) rs) (hr : rs[k]? = some r) (hok : r.ok) (hc : (D.firm (ints k)).c (k : Int) = r.bs) : RsOk (D.firm (ints (k + 1))) (rs.set k { r with dur := r.bs.length }) := by
  have hsn := firm_snoc D (ints k) (k : Int)
  have hcc : D.c (k : Int) = r.bs := hc
  refine h.set (r := { r with dur := r.bs.length }) ⟨hok.1, Nat.le_refl _, hok.2.2⟩ ?_ ?_
  · rw [ints_succ, hsn.1, hcc]
  · rw [ints_succ, hsn.2, hcc]
set_option maxHeartbeats 1000000 in
theorem rSyncB_ok (p gB gF : Nat) (D : Dk) (rs : List Rw) (L0 : Hp) (w0 : World) (hL : L0 = RL p gB gF D rs) (hR : RsOk D rs) (hK : dkOk D) (hs : St (ids L0) w0 w0 L0) :
    Ret Tryz.prog 28 [.pointer (some ⟨p, 0, none⟩)].toArray w0 fun r w' => ∃ L', St (ids L0) w0 w' L' ∧ ∃ rs', L' = RL p gB gF D.sync.1 rs' ∧ RsOk D.sync.1 rs' ∧ dkOk D.sync.1 ∧ (rblks rs).Perm (rblks rs') ∧ r = .int .i64 D.sync.2 := by
  have hstep := step_c D
  have hsg := step_ok hK
  replace hs : St (ids L0) w0 w0 (RL p gB gF D rs) := by rw [hL] at hs ⊢; exact hs
  unfold RL rdCells at hs
  refine Ret_startL hs fun w hs => ?_
  refine Ret_of Tryz.func28 rfl Tryz.ntmps28 rfl ?_
  refine W_seq ?_
  refine W_region ?_
  refine s_assign rfl rfl ?_
  refine WL_nil ?_
  refine n_then ?_
  refine W_seq ?_
  refine W_seq ?_
  refine W_region ?_
  refine s_move rfl rfl ?_
  refine s_nilCheck rfl rfl ?_
  refine s_fieldAddr rfl rfl (FA50_3 _ _) ?_
  first
    | refine s_load Tryz.isAgg4 rfl rfl (hs.cell (k := 0) rfl rfl) ?_
  refine WL_nil ?_
  refine n_then ?_
  refine W_cond rfl (fun hc8 => ?_) (fun hc8 => ?_)
  · skip
    try simp only [decide_eq_true_eq, decide_eq_false_iff_not, gt_iff_lt] at hc8
    refine W_seq ?_
    refine W_region ?_
    refine s_assign rfl rfl ?_
    refine WL_nil ?_
    refine n_then ?_
    refine W_ret ?_
    refine r_then ?_
    first
      | (rw [Dk.sync, if_pos (by assumption)]
         exact end1 rfl rfl ⟨_, hs, rs, rfl, hR, hK, List.Perm.refl _, rfl⟩)
      | (rw [Dk.sync, if_neg (by simp [*]), if_pos (by simp [*]), ← hE]
         exact end1 rfl rfl ⟨_, hs, rs, rfl, hRE, hsg, List.Perm.refl _, rfl⟩)
      | (rw [Dk.sync, if_neg (by simp [*]), if_neg (by simp [*]), ← hE]
         have hk64 : k = 64 := by omega
         subst hk64
         exact end1 rfl rfl ⟨_, hs, rk, rfl, firm_ints hRk, solid_ok hsg, hpm, rfl⟩)
  · skip
    try simp only [decide_eq_true_eq, decide_eq_false_iff_not, gt_iff_lt] at hc8
    refine W_skip ?_
    refine n_then ?_
    refine W_seq ?_
    refine W_region ?_
    refine s_move rfl rfl ?_
    refine s_callL (M := []) (L1 := [_]) (X := [_, _] ++ rblks rs) Tryz.call46 rfl rfl hs (fun h => rstep_ok p gB gF D w hK hc8 h) ?_
    clear hs; rintro u w L9 ⟨rfl, rfl⟩ - hs
    simp only [List.cons_append, List.nil_append] at hs
    obtain ⟨E, hE⟩ : ∃ E, E = D.step.1 := ⟨_, rfl⟩
    rw [← hE] at hs hsg
    have hRE : RsOk E rs := by rw [hE]; exact hR.of hstep.1 hstep.2.1
    unfold rdCells at hs
    refine s_assign rfl rfl ?_
    refine WL_nil ?_
    refine n_then ?_
    refine W_seq ?_
    refine W_seq ?_
    refine W_region ?_
    refine s_move rfl rfl ?_
    refine WL_nil ?_
    refine n_then ?_
    refine W_cond rfl (fun hc11 => ?_) (fun hc11 => ?_)
    · skip
      try simp only [decide_eq_true_eq, decide_eq_false_iff_not, gt_iff_lt] at hc11
      refine W_seq ?_
      refine W_region ?_
      refine s_assign rfl rfl ?_
      refine WL_nil ?_
      refine n_then ?_
      refine W_ret ?_
      refine r_then ?_
      first
        | (rw [Dk.sync, if_pos (by assumption)]
           exact end1 rfl rfl ⟨_, hs, rs, rfl, hR, hK, List.Perm.refl _, rfl⟩)
        | (rw [Dk.sync, if_neg (by simp [*]), if_pos (by simp [*]), ← hE]
           exact end1 rfl rfl ⟨_, hs, rs, rfl, hRE, hsg, List.Perm.refl _, rfl⟩)
        | (rw [Dk.sync, if_neg (by simp [*]), if_neg (by simp [*]), ← hE]
           have hk64 : k = 64 := by omega
           subst hk64
           exact end1 rfl rfl ⟨_, hs, rk, rfl, firm_ints hRk, solid_ok hsg, hpm, rfl⟩)
    · skip
      try simp only [decide_eq_true_eq, decide_eq_false_iff_not, gt_iff_lt] at hc11
      refine W_skip ?_
      refine n_then ?_
      refine W_seq ?_
      refine W_seq ?_
      refine W_region ?_
      refine s_assign rfl rfl ?_
      refine WL_nil ?_
      refine n_then ?_
      refine W_block ?_
      refine W_loop (σ := RsS) (fun s => [(0, .pointer (some ⟨p, 0, none⟩)), (4, .int .i64 (s.k : Int))]) (fun s w => St (ids L0) w0 w ((p, Blk 50 [.int .i64 E.room, .slice (some ⟨gB, 0, none⟩) 64 64, .slice (some ⟨gF, 0, none⟩) 64 64, .bool E.off, .int .i64 E.plan]) :: (gB, Blk 39 (rvs s.rs)) :: (gF, Blk 3 (rds s.rs)) :: rblks s.rs) ∧ s.k ≤ 64 ∧ RsOk (E.firm (ints s.k)) s.rs ∧ (rblks rs).Perm (rblks s.rs)) (fun s => 64 - s.k) ⟨0, rs⟩ ⟨rfl, rfl, trivial⟩ ⟨hs, by simp, hRE, List.Perm.refl _⟩ ?_
      clear hs
      rintro ⟨k, rk⟩ w ⟨hs, hk, hRk, hpm⟩
      simp only at hs hk hRk hpm ⊢
      refine W_seq ?_
      refine W_seq ?_
      refine W_region ?_
      refine s_move rfl rfl ?_
      refine s_lss rfl rfl rfl ?_
      refine WL_nil ?_
      refine n_then ?_
      refine W_cond rfl (fun hc13 => ?_) (fun hc13 => ?_)
      · skip
        try simp only [decide_eq_true_eq, decide_eq_false_iff_not, gt_iff_lt] at hc13
        have hk64 : k < 64 := by omega
        obtain ⟨r, hr, hok, hc, hd, hv, hdv⟩ := hRk.get hk64
        have hrl := rvs_length hRk
        obtain ⟨_, cr, ar, hrv, hrvl⟩ := hok.1.form
        rw [hrv, hrvl] at hv
        refine W_skip ?_
        refine n_then ?_
        refine W_seq ?_
        refine W_block ?_
        refine W_draw [(0, true, []), (1, true, []), (2, true, []), (3, true, []), (4, true, []), (5, true, []), (6, true, []), (7, true, []), (8, true, []), (9, true, []), (10, true, []), (11, true, []), (12, true, []), (13, true, []), (14, false, [])] [[], [0], [0, 1], [0, 1, 2], [], [], [5], [5, 6], [5, 6, 7], [], [5, 6, 7, 8, 9], [5, 6, 7, 8, 9, 10], [5, 6, 7, 8, 9, 10, 11], [0, 1, 2, 3, 4, 5, 6, 7, 8, 9, 10, 11, 12], [0, 1, 2, 3, 4, 5, 6, 7, 8, 9, 10, 11, 12, 13]] MX (by kernel_rfl) ?_
        intro w1 hw1 hw2 hw3 hw4; replace hs := hs.redrawn hw1 hw2 hw3 hw4; clear hw1 hw2 hw3 hw4
        obtain ⟨w, rfl⟩ : ∃ w : World, w = w1 := ⟨_, rfl⟩
        refine D_q rfl rfl ?_
        refine s_move rfl rfl ?_
        refine D_qn ?_
        refine D_q rfl rfl ?_
        refine s_nilCheck rfl rfl ?_
        refine D_qn ?_
        refine D_q rfl rfl ?_
        refine s_fieldAddr rfl rfl (FA50_2 _ _) ?_
        refine D_qn ?_
        refine D_q rfl rfl ?_
        first
          | refine s_load Tryz.isAgg22 rfl rfl (hs.cell (k := 0) rfl rfl) ?_
        refine D_qn ?_
        refine D_q rfl rfl ?_
        refine s_move rfl rfl ?_
        refine D_qn ?_
        refine D_q rfl rfl ?_
        refine s_move rfl rfl ?_
        refine D_qn ?_
        refine D_q rfl rfl ?_
        refine s_nilCheck rfl rfl ?_
        refine D_qn ?_
        refine D_q rfl rfl ?_
        refine s_fieldAddr rfl rfl (FA50_1 _ _) ?_
        refine D_qn ?_
        refine D_q rfl rfl ?_
        first
          | refine s_load Tryz.isAgg29 rfl rfl (hs.cell (k := 0) rfl rfl) ?_
        refine D_qn ?_
        refine D_q rfl rfl ?_
        refine s_move rfl rfl ?_
        refine D_qn ?_
        refine D_q rfl rfl ?_
        (refine s_indexAddr1 El29 rfl rfl rfl ?hx ?_; case hx => (constructor <;> first | omega | (simp; omega)))
        refine D_qn ?_
        refine D_q rfl rfl ?_
        refine s_load Tryz.isAgg39 rfl rfl (hs.cell (k := 1) rfl (by rw [Nat.zero_add, Int.toNat_natCast]; exact hv)) ?_
        refine D_qn ?_
        refine D_q rfl rfl ?_
        refine s_len rfl rfl (LN39 _ _ _ _) ?_
        refine D_qn ?_
        refine D_q rfl rfl ?_
        (refine s_indexAddr1 El22 rfl rfl rfl ?hx ?_; case hx => (constructor <;> first | omega | (simp; omega)))
        refine D_qn ?_
        refine D_e rfl ?_
        refine s_store Tryz.sizeOf3 rfl rfl rfl hs (kk := 2) rfl (by rw [hrl.2]; omega) ?_
        clear hs; intro w hs
        simp only [List.set_cons_zero, List.set_cons_succ, Int.toNat_natCast, Nat.zero_add] at hs
        refine D_en ?re ?_
        case re =>
          exact Reks_nil
        refine D_nil ?_
        refine n_blk ?_
        refine n_then ?_
        refine W_region ?_
        refine s_move rfl rfl ?_
        first | (refine s_add' rfl rfl rfl ?hx ?_; case hx => (constructor <;> first | omega | (simp only; omega))) | refine s_add rfl rfl rfl ?_
        refine s_assign rfl rfl ?_
        refine WL_nil ?_
        refine n_loop ?_
        have hr1 : rvs (rk.set k { r with dur := r.bs.length }) = rvs rk := by
          rw [rvs_set]
          apply List.ext_getElem?
          intro j
          rw [List.getElem?_set]
          split
          · rename_i h; subst h
            rw [hv, hrv, hrvl]; simp [hrl.1, hk64]
          · rfl
        refine ⟨⟨k + 1, rk.set k { r with dur := r.bs.length }⟩, ⟨rfl, rfl, trivial⟩, ⟨?_, by simp only; omega, firm_step hRk hr hok hc, hpm.trans (rs_same (r' := { r with dur := r.bs.length }) hr rfl)⟩, by simp only; omega⟩
        simp only
        rw [hr1, rds_set]
        exact hs.perm ((((rs_same (r' := { r with dur := r.bs.length }) hr rfl).cons _).cons _).cons _)
      · skip
        try simp only [decide_eq_true_eq, decide_eq_false_iff_not, gt_iff_lt] at hc13
        refine W_exit ?_
        refine x_then ?_
        refine x_then ?_
        refine exit_hit ?_
        refine n_then ?_
        refine W_seq ?_
        refine W_region ?_
        refine s_assign rfl rfl ?_
        refine WL_nil ?_
        refine n_then ?_
        refine W_ret ?_
        first
          | (rw [Dk.sync, if_pos (by assumption)]
             exact end1 rfl rfl ⟨_, hs, rs, rfl, hR, hK, List.Perm.refl _, rfl⟩)
          | (rw [Dk.sync, if_neg (by simp [*]), if_pos (by simp [*]), ← hE]
             exact end1 rfl rfl ⟨_, hs, rs, rfl, hRE, hsg, List.Perm.refl _, rfl⟩)
          | (rw [Dk.sync, if_neg (by simp [*]), if_neg (by simp [*]), ← hE]
             have hk64 : k = 64 := by omega
             subst hk64
             exact end1 rfl rfl ⟨_, hs, rk, rfl, firm_ints hRk, solid_ok hsg, hpm, rfl⟩)
theorem rSync_ok (p : Nat) (D : Dk) (L0 : Hp) (w0 : World) (hD : RefAt p D L0) (hs : St (ids L0) w0 w0 L0) :
    Ret Tryz.prog 28 [.pointer (some ⟨p, 0, none⟩)].toArray w0 fun r w' => ∃ L', St (ids L0) w0 w' L' ∧ RefAt p D.sync.1 L' ∧ r = .int .i64 D.sync.2 := by
  obtain ⟨gB, gF, rs, hL, hR, hK⟩ := hD
  refine (rSyncB_ok p gB gF D rs L0 w0 hL hR hK hs).mono ?_
  rintro r w ⟨L', hs', rs', hL', hR', hK', -, hr⟩
  exact ⟨L', hs', ⟨gB, gF, rs', hL', hR', hK'⟩, hr⟩
set_option maxHeartbeats 1000000 in
theorem rTruncB_ok (p gB gF : Nat) (D : Dk) (rs : List Rw) (f n : Int) (L0 : Hp) (w0 : World) (hL : L0 = RL p gB gF D rs) (hR : RsOk D rs) (hK : dkOk D) (hn : isI64 n) (hs : St (ids L0) w0 w0 L0) :
    Ret Tryz.prog 27 [.pointer (some ⟨p, 0, none⟩), .int .i64 f, .int .i64 n].toArray w0 fun r w' => ∃ L', St (ids L0) w0 w' L' ∧ ∃ rs', L' = RL p gB gF (D.trunc f n).1 rs' ∧ RsOk (D.trunc f n).1 rs' ∧ dkOk (D.trunc f n).1 ∧ (rblks rs).Perm (rblks rs') ∧ r = .int .i64 (D.trunc f n).2 := by
  unfold isI64 at hn
  have hrl := rvs_length hR
  have hstep := step_c D
  have hsg := step_ok hK
  replace hs : St (ids L0) w0 w0 (RL p gB gF D rs) := by rw [hL] at hs ⊢; exact hs
  unfold RL rdCells at hs
  refine Ret_startL hs fun w hs => ?_
  refine Ret_of Tryz.func27 rfl Tryz.ntmps27 rfl ?_
  refine W_seq ?_
  refine W_region ?_
  refine s_assign rfl rfl ?_
  refine WL_nil ?_
  refine n_then ?_
  refine W_seq ?_
  refine W_seq ?_
  refine W_region ?_
  refine s_move rfl rfl ?_
  refine s_lss rfl rfl rfl ?_
  refine s_move rfl rfl ?_
  refine WL_case (s := 10) rfl (fun hg10 => ?_) (fun hg10 => ?_)
  · skip
    try simp only [decide_eq_true_eq, decide_eq_false_iff_not, gt_iff_lt] at hg10
    refine WL_skip rfl rfl rfl ?_
    refine WL_skip rfl rfl rfl ?_
    refine s_pick_t rfl rfl rfl ?_
    refine s_move rfl rfl ?_
    refine WL_skip rfl rfl rfl ?_
    refine WL_skip rfl rfl rfl ?_
    refine s_pick_t rfl rfl rfl ?_
    refine s_move rfl rfl ?_
    refine WL_skip rfl rfl rfl ?_
    refine WL_skip rfl rfl rfl ?_
    refine WL_skip rfl rfl rfl ?_
    refine WL_skip rfl rfl rfl ?_
    refine WL_skip rfl rfl rfl ?_
    refine WL_skip rfl rfl rfl ?_
    refine WL_skip rfl rfl rfl ?_
    refine WL_skip rfl rfl rfl ?_
    refine WL_skip rfl rfl rfl ?_
    refine WL_skip rfl rfl rfl ?_
    refine s_pick_t rfl rfl rfl ?_
    refine WL_nil ?_
    refine n_then ?_
    refine W_cond_t rfl ?_
    refine W_seq ?_
    refine W_region ?_
    refine s_assign rfl rfl ?_
    refine WL_nil ?_
    refine n_then ?_
    refine W_ret ?_
    refine r_then ?_
    first
      | (rw [Dk.trunc, if_pos (by omega)]
         exact end1 rfl rfl ⟨_, hs, rs, rfl, hR, hK, List.Perm.refl _, rfl⟩)
      | (rw [Dk.trunc, hc, if_pos (by omega)]
         exact end1 rfl rfl ⟨_, hs, rs, rfl, hR, hK, List.Perm.refl _, rfl⟩)
      | (rw [Dk.trunc, hc, if_neg (by omega), if_pos (by assumption)]
         exact end1 rfl rfl ⟨_, hs, rs, rfl, hR, hK, List.Perm.refl _, rfl⟩)
      | (rw [Dk.trunc, hc, if_neg (by omega), if_neg (by simp [*]), if_pos (by simp [*]), ← hE]
         exact end1 rfl rfl ⟨_, hs, rs, rfl, hRE, hsg, List.Perm.refl _, rfl⟩)
      | (rw [Dk.trunc, hc, hd, if_neg (by omega), if_neg (by simp [*]), if_neg (by simp [*]), ← hE]
         exact end1 rfl rfl ⟨_, hfin, _, rfl, hRf, hKf, by rw [hr']; exact rs_same hr rfl, rfl⟩)
  · skip
    try simp only [decide_eq_true_eq, decide_eq_false_iff_not, gt_iff_lt] at hg10
    refine WL_take rfl ?_
    refine s_move rfl rfl ?_
    refine WL_take rfl ?_
    refine s_gtr rfl rfl rfl ?_
    refine s_pick_f rfl rfl rfl ?_
    refine s_move rfl rfl ?_
    refine WL_case (s := 14) rfl (fun hg14 => ?_) (fun hg14 => ?_)
    · skip
      try simp only [decide_eq_true_eq, decide_eq_false_iff_not, gt_iff_lt] at hg14
      refine WL_skip rfl rfl rfl ?_
      refine WL_skip rfl rfl rfl ?_
      refine s_pick_t rfl rfl rfl ?_
      refine s_move rfl rfl ?_
      refine WL_skip rfl rfl rfl ?_
      refine WL_skip rfl rfl rfl ?_
      refine WL_skip rfl rfl rfl ?_
      refine WL_skip rfl rfl rfl ?_
      refine WL_skip rfl rfl rfl ?_
      refine WL_skip rfl rfl rfl ?_
      refine WL_skip rfl rfl rfl ?_
      refine WL_skip rfl rfl rfl ?_
      refine WL_skip rfl rfl rfl ?_
      refine WL_skip rfl rfl rfl ?_
      refine s_pick_t rfl rfl rfl ?_
      refine WL_nil ?_
      refine n_then ?_
      refine W_cond_t rfl ?_
      refine W_seq ?_
      refine W_region ?_
      refine s_assign rfl rfl ?_
      refine WL_nil ?_
      refine n_then ?_
      refine W_ret ?_
      refine r_then ?_
      first
        | (rw [Dk.trunc, if_pos (by omega)]
           exact end1 rfl rfl ⟨_, hs, rs, rfl, hR, hK, List.Perm.refl _, rfl⟩)
        | (rw [Dk.trunc, hc, if_pos (by omega)]
           exact end1 rfl rfl ⟨_, hs, rs, rfl, hR, hK, List.Perm.refl _, rfl⟩)
        | (rw [Dk.trunc, hc, if_neg (by omega), if_pos (by assumption)]
           exact end1 rfl rfl ⟨_, hs, rs, rfl, hR, hK, List.Perm.refl _, rfl⟩)
        | (rw [Dk.trunc, hc, if_neg (by omega), if_neg (by simp [*]), if_pos (by simp [*]), ← hE]
           exact end1 rfl rfl ⟨_, hs, rs, rfl, hRE, hsg, List.Perm.refl _, rfl⟩)
        | (rw [Dk.trunc, hc, hd, if_neg (by omega), if_neg (by simp [*]), if_neg (by simp [*]), ← hE]
           exact end1 rfl rfl ⟨_, hfin, _, rfl, hRf, hKf, by rw [hr']; exact rs_same hr rfl, rfl⟩)
    · skip
      try simp only [decide_eq_true_eq, decide_eq_false_iff_not, gt_iff_lt] at hg14
      refine WL_take rfl ?_
      refine s_move rfl rfl ?_
      refine WL_take rfl ?_
      refine s_lss rfl rfl rfl ?_
      refine s_pick_f rfl rfl rfl ?_
      refine s_move rfl rfl ?_
      refine WL_case (s := 18) rfl (fun hg18 => ?_) (fun hg18 => ?_)
      · skip
        try simp only [decide_eq_true_eq, decide_eq_false_iff_not, gt_iff_lt] at hg18
        refine WL_skip rfl rfl rfl ?_
        refine WL_skip rfl rfl rfl ?_
        refine WL_skip rfl rfl rfl ?_
        refine WL_skip rfl rfl rfl ?_
        refine WL_skip rfl rfl rfl ?_
        refine WL_skip rfl rfl rfl ?_
        refine WL_skip rfl rfl rfl ?_
        refine WL_skip rfl rfl rfl ?_
        refine WL_skip rfl rfl rfl ?_
        refine WL_skip rfl rfl rfl ?_
        refine s_pick_t rfl rfl rfl ?_
        refine WL_nil ?_
        refine n_then ?_
        refine W_cond_t rfl ?_
        refine W_seq ?_
        refine W_region ?_
        refine s_assign rfl rfl ?_
        refine WL_nil ?_
        refine n_then ?_
        refine W_ret ?_
        refine r_then ?_
        first
          | (rw [Dk.trunc, if_pos (by omega)]
             exact end1 rfl rfl ⟨_, hs, rs, rfl, hR, hK, List.Perm.refl _, rfl⟩)
          | (rw [Dk.trunc, hc, if_pos (by omega)]
             exact end1 rfl rfl ⟨_, hs, rs, rfl, hR, hK, List.Perm.refl _, rfl⟩)
          | (rw [Dk.trunc, hc, if_neg (by omega), if_pos (by assumption)]
             exact end1 rfl rfl ⟨_, hs, rs, rfl, hR, hK, List.Perm.refl _, rfl⟩)
          | (rw [Dk.trunc, hc, if_neg (by omega), if_neg (by simp [*]), if_pos (by simp [*]), ← hE]
             exact end1 rfl rfl ⟨_, hs, rs, rfl, hRE, hsg, List.Perm.refl _, rfl⟩)
          | (rw [Dk.trunc, hc, hd, if_neg (by omega), if_neg (by simp [*]), if_neg (by simp [*]), ← hE]
             exact end1 rfl rfl ⟨_, hfin, _, rfl, hRf, hKf, by rw [hr']; exact rs_same hr rfl, rfl⟩)
      · skip
        try simp only [decide_eq_true_eq, decide_eq_false_iff_not, gt_iff_lt] at hg18
        refine WL_take rfl ?_
        refine s_move rfl rfl ?_
        refine WL_take rfl ?_
        refine s_move rfl rfl ?_
        refine WL_take rfl ?_
        refine s_nilCheck rfl rfl ?_
        refine WL_take rfl ?_
        refine s_fieldAddr rfl rfl (FA50_1 _ _) ?_
        refine WL_take rfl ?_
        first
          | refine s_load Tryz.isAgg29 rfl rfl (hs.cell (k := 0) rfl rfl) ?_
        refine WL_take rfl ?_
        obtain ⟨i, rfl⟩ : ∃ i : Nat, f = (i : Int) := ⟨f.toNat, by omega⟩
        have hi64 : i < 64 := by omega
        obtain ⟨r, hr, hok, hc, hd, hrv, hdv⟩ := hR.get hi64
        obtain ⟨_, cr, ar, hrvv, hrvl⟩ := hok.1.form
        rw [hrvl] at hrvv
        rw [hrvv] at hrv
        have hlt := len_le_total D (f := (i : Int)) (by omega)
        have hts := total_set (D := D) (f := (i : Int)) (bs := (D.c (i : Int)).take n.toNat) (d := min (D.d (i : Int)) n.toNat) (by omega)
        rw [List.length_take] at hts
        have hK1 := hK.1
        rw [hc] at hlt hts
        refine s_move rfl rfl ?_
        refine WL_take rfl ?_
        (refine s_indexAddr1 El29 rfl rfl rfl ?hx ?_; case hx => (constructor <;> first | omega | (simp; omega)))
        refine WL_take rfl ?_
        refine s_load Tryz.isAgg39 rfl rfl (hs.cell (k := 1) rfl (by rw [Nat.zero_add, Int.toNat_natCast]; exact hrv)) ?_
        refine WL_take rfl ?_
        refine s_len rfl rfl (LN39 _ _ _ _) ?_
        refine WL_take rfl ?_
        refine s_gtr rfl rfl rfl ?_
        refine s_pick_f rfl rfl rfl ?_
        refine WL_nil ?_
        refine n_then ?_
        refine W_cond rfl (fun hc29 => ?_) (fun hc29 => ?_)
        · skip
          try simp only [decide_eq_true_eq, decide_eq_false_iff_not, gt_iff_lt] at hc29
          refine W_seq ?_
          refine W_region ?_
          refine s_assign rfl rfl ?_
          refine WL_nil ?_
          refine n_then ?_
          refine W_ret ?_
          refine r_then ?_
          first
            | (rw [Dk.trunc, if_pos (by omega)]
               exact end1 rfl rfl ⟨_, hs, rs, rfl, hR, hK, List.Perm.refl _, rfl⟩)
            | (rw [Dk.trunc, hc, if_pos (by omega)]
               exact end1 rfl rfl ⟨_, hs, rs, rfl, hR, hK, List.Perm.refl _, rfl⟩)
            | (rw [Dk.trunc, hc, if_neg (by omega), if_pos (by assumption)]
               exact end1 rfl rfl ⟨_, hs, rs, rfl, hR, hK, List.Perm.refl _, rfl⟩)
            | (rw [Dk.trunc, hc, if_neg (by omega), if_neg (by simp [*]), if_pos (by simp [*]), ← hE]
               exact end1 rfl rfl ⟨_, hs, rs, rfl, hRE, hsg, List.Perm.refl _, rfl⟩)
            | (rw [Dk.trunc, hc, hd, if_neg (by omega), if_neg (by simp [*]), if_neg (by simp [*]), ← hE]
               exact end1 rfl rfl ⟨_, hfin, _, rfl, hRf, hKf, by rw [hr']; exact rs_same hr rfl, rfl⟩)
        · skip
          try simp only [decide_eq_true_eq, decide_eq_false_iff_not, gt_iff_lt] at hc29
          refine W_skip ?_
          refine n_then ?_
          refine W_seq ?_
          refine W_seq ?_
          refine W_region ?_
          refine s_move rfl rfl ?_
          refine s_nilCheck rfl rfl ?_
          refine s_fieldAddr rfl rfl (FA50_3 _ _) ?_
          first
            | refine s_load Tryz.isAgg4 rfl rfl (hs.cell (k := 0) rfl rfl) ?_
          refine WL_nil ?_
          refine n_then ?_
          refine W_cond rfl (fun hc33 => ?_) (fun hc33 => ?_)
          · skip
            try simp only [decide_eq_true_eq, decide_eq_false_iff_not, gt_iff_lt] at hc33
            refine W_seq ?_
            refine W_region ?_
            refine s_assign rfl rfl ?_
            refine WL_nil ?_
            refine n_then ?_
            refine W_ret ?_
            refine r_then ?_
            first
              | (rw [Dk.trunc, if_pos (by omega)]
                 exact end1 rfl rfl ⟨_, hs, rs, rfl, hR, hK, List.Perm.refl _, rfl⟩)
              | (rw [Dk.trunc, hc, if_pos (by omega)]
                 exact end1 rfl rfl ⟨_, hs, rs, rfl, hR, hK, List.Perm.refl _, rfl⟩)
              | (rw [Dk.trunc, hc, if_neg (by omega), if_pos (by assumption)]
                 exact end1 rfl rfl ⟨_, hs, rs, rfl, hR, hK, List.Perm.refl _, rfl⟩)
              | (rw [Dk.trunc, hc, if_neg (by omega), if_neg (by simp [*]), if_pos (by simp [*]), ← hE]
                 exact end1 rfl rfl ⟨_, hs, rs, rfl, hRE, hsg, List.Perm.refl _, rfl⟩)
              | (rw [Dk.trunc, hc, hd, if_neg (by omega), if_neg (by simp [*]), if_neg (by simp [*]), ← hE]
                 exact end1 rfl rfl ⟨_, hfin, _, rfl, hRf, hKf, by rw [hr']; exact rs_same hr rfl, rfl⟩)
          · skip
            try simp only [decide_eq_true_eq, decide_eq_false_iff_not, gt_iff_lt] at hc33
            refine W_skip ?_
            refine n_then ?_
            refine W_seq ?_
            refine W_region ?_
            refine s_move rfl rfl ?_
            refine s_callL (M := []) (L1 := [_]) (X := [_, _] ++ rblks rs) Tryz.call46 rfl rfl hs (fun h => rstep_ok p gB gF D w hK hc33 h) ?_
            clear hs; rintro u w L9 ⟨rfl, rfl⟩ - hs
            simp only [List.cons_append, List.nil_append] at hs
            obtain ⟨E, hE⟩ : ∃ E, E = D.step.1 := ⟨_, rfl⟩
            rw [← hE] at hs hsg
            have hEc : E.c = D.c := by rw [hE]; exact hstep.1
            have hEd : E.d = D.d := by rw [hE]; exact hstep.2.1
            have hEr : E.room = D.room := by rw [hE]; exact hstep.2.2
            have hRE : RsOk E rs := hR.of hEc hEd
            have hcap : r.bs.length ≤ cr := by
              obtain ⟨a9, c9, h8, h9⟩ := (OwnS_slIn hok.1 (w := w) fun q hq => hs.own q (by
                obtain ⟨R, h1, _⟩ := rw_open hr
                simp only [List.mem_cons]
                exact .inr (.inr (.inr (h1.mem_iff.2 (List.mem_append_left _ hq)))))).len_le
              rw [hrvv] at h8; cases h8; exact h9
            unfold rdCells at hs
            refine s_assign rfl rfl ?_
            refine WL_nil ?_
            refine n_then ?_
            refine W_seq ?_
            refine W_seq ?_
            refine W_region ?_
            refine s_move rfl rfl ?_
            refine WL_nil ?_
            refine n_then ?_
            refine W_cond rfl (fun hc36 => ?_) (fun hc36 => ?_)
            · skip
              try simp only [decide_eq_true_eq, decide_eq_false_iff_not, gt_iff_lt] at hc36
              refine W_seq ?_
              refine W_region ?_
              refine s_assign rfl rfl ?_
              refine WL_nil ?_
              refine n_then ?_
              refine W_ret ?_
              refine r_then ?_
              first
                | (rw [Dk.trunc, if_pos (by omega)]
                   exact end1 rfl rfl ⟨_, hs, rs, rfl, hR, hK, List.Perm.refl _, rfl⟩)
                | (rw [Dk.trunc, hc, if_pos (by omega)]
                   exact end1 rfl rfl ⟨_, hs, rs, rfl, hR, hK, List.Perm.refl _, rfl⟩)
                | (rw [Dk.trunc, hc, if_neg (by omega), if_pos (by assumption)]
                   exact end1 rfl rfl ⟨_, hs, rs, rfl, hR, hK, List.Perm.refl _, rfl⟩)
                | (rw [Dk.trunc, hc, if_neg (by omega), if_neg (by simp [*]), if_pos (by simp [*]), ← hE]
                   exact end1 rfl rfl ⟨_, hs, rs, rfl, hRE, hsg, List.Perm.refl _, rfl⟩)
                | (rw [Dk.trunc, hc, hd, if_neg (by omega), if_neg (by simp [*]), if_neg (by simp [*]), ← hE]
                   exact end1 rfl rfl ⟨_, hfin, _, rfl, hRf, hKf, by rw [hr']; exact rs_same hr rfl, rfl⟩)
            · skip
              try simp only [decide_eq_true_eq, decide_eq_false_iff_not, gt_iff_lt] at hc36
              refine W_skip ?_
              refine n_then ?_
              refine W_seq ?_
              refine W_draw [(0, true, []), (1, true, []), (2, true, []), (3, true, []), (4, true, []), (5, true, []), (6, true, []), (7, true, []), (8, true, []), (9, true, []), (10, true, []), (11, true, []), (12, true, []), (13, true, []), (14, true, []), (15, false, [])] [[], [0], [0, 1], [0, 1, 2], [], [], [5], [5, 6], [5, 6, 7], [], [5, 6, 7, 8, 9], [5, 6, 7, 8, 9, 10], [], [5, 6, 7, 8, 9, 10, 11, 12], [0, 1, 2, 3, 4, 5, 6, 7, 8, 9, 10, 11, 12, 13], [0, 1, 2, 3, 4, 5, 6, 7, 8, 9, 10, 11, 12, 13, 14]] MX (by kernel_rfl) ?_
              intro w1 hw1 hw2 hw3 hw4; replace hs := hs.redrawn hw1 hw2 hw3 hw4; clear hw1 hw2 hw3 hw4
              obtain ⟨w, rfl⟩ : ∃ w : World, w = w1 := ⟨_, rfl⟩
              refine D_q rfl rfl ?_
              refine s_move rfl rfl ?_
              refine D_qn ?_
              refine D_q rfl rfl ?_
              refine s_nilCheck rfl rfl ?_
              refine D_qn ?_
              refine D_q rfl rfl ?_
              refine s_fieldAddr rfl rfl (FA50_1 _ _) ?_
              refine D_qn ?_
              refine D_q rfl rfl ?_
              first
                | refine s_load Tryz.isAgg29 rfl rfl (hs.cell (k := 0) rfl rfl) ?_
              refine D_qn ?_
              refine D_q rfl rfl ?_
              refine s_move rfl rfl ?_
              refine D_qn ?_
              refine D_q rfl rfl ?_
              refine s_move rfl rfl ?_
              refine D_qn ?_
              refine D_q rfl rfl ?_
              refine s_nilCheck rfl rfl ?_
              refine D_qn ?_
              refine D_q rfl rfl ?_
              refine s_fieldAddr rfl rfl (FA50_1 _ _) ?_
              refine D_qn ?_
              refine D_q rfl rfl ?_
              first
                | refine s_load Tryz.isAgg29 rfl rfl (hs.cell (k := 0) rfl rfl) ?_
              refine D_qn ?_
              refine D_q rfl rfl ?_
              refine s_move rfl rfl ?_
              refine D_qn ?_
              refine D_q rfl rfl ?_
              (refine s_indexAddr1 El29 rfl rfl rfl ?hx ?_; case hx => (constructor <;> first | omega | (simp; omega)))
              refine D_qn ?_
              refine D_q rfl rfl ?_
              refine s_load Tryz.isAgg39 rfl rfl (hs.cell (k := 1) rfl (by rw [Nat.zero_add, Int.toNat_natCast]; exact hrv)) ?_
              refine D_qn ?_
              refine D_q rfl rfl ?_
              refine s_move rfl rfl ?_
              refine D_qn ?_
              refine D_q rfl rfl ?_
              (refine s_slice_hi El39 rfl rfl rfl ?hx ?_; case hx => (constructor <;> omega))
              refine D_qn ?_
              refine D_q rfl rfl ?_
              (refine s_indexAddr1 El29 rfl rfl rfl ?hx ?_; case hx => (constructor <;> first | omega | (simp; omega)))
              refine D_qn ?_
              refine D_e rfl ?_
              refine s_store Tryz.sizeOf39 rfl rfl rfl hs (kk := 1) rfl (by rw [hrl.1]; omega) ?_
              clear hs; intro w hs
              simp only [List.set_cons_zero, List.set_cons_succ, Int.toNat_natCast, Nat.zero_add] at hs
              refine D_en ?re ?_
              case re =>
                exact Reks_nil
              refine D_nil ?_
              refine n_then ?_
              refine W_seq ?_
              refine W_draw [(0, true, []), (1, true, []), (2, true, []), (3, true, []), (4, true, []), (5, true, []), (6, true, []), (7, true, []), (8, true, []), (9, true, []), (10, true, []), (11, true, []), (12, true, []), (13, true, []), (14, true, []), (15, false, [])] [[], [0], [0, 1], [0, 1, 2], [], [], [5], [5, 6], [5, 6, 7], [], [5, 6, 7, 8, 9], [5, 6, 7, 8, 9, 10], [], [5, 6, 7, 8, 9, 10, 11, 12], [0, 1, 2, 3, 4, 5, 6, 7, 8, 9, 10, 11, 12, 13], [0, 1, 2, 3, 4, 5, 6, 7, 8, 9, 10, 11, 12, 13, 14]] MX (by kernel_rfl) ?_
              intro w1 hw1 hw2 hw3 hw4; replace hs := hs.redrawn hw1 hw2 hw3 hw4; clear hw1 hw2 hw3 hw4
              obtain ⟨w, rfl⟩ : ∃ w : World, w = w1 := ⟨_, rfl⟩
              refine D_q rfl rfl ?_
              refine s_move rfl rfl ?_
              refine D_qn ?_
              refine D_q rfl rfl ?_
              refine s_nilCheck rfl rfl ?_
              refine D_qn ?_
              refine D_q rfl rfl ?_
              refine s_fieldAddr rfl rfl (FA50_2 _ _) ?_
              refine D_qn ?_
              refine D_q rfl rfl ?_
              first
                | refine s_load Tryz.isAgg22 rfl rfl (hs.cell (k := 0) rfl rfl) ?_
              refine D_qn ?_
              refine D_q rfl rfl ?_
              refine s_move rfl rfl ?_
              refine D_qn ?_
              refine D_q rfl rfl ?_
              refine s_move rfl rfl ?_
              refine D_qn ?_
              refine D_q rfl rfl ?_
              refine s_nilCheck rfl rfl ?_
              refine D_qn ?_
              refine D_q rfl rfl ?_
              refine s_fieldAddr rfl rfl (FA50_2 _ _) ?_
              refine D_qn ?_
              refine D_q rfl rfl ?_
              first
                | refine s_load Tryz.isAgg22 rfl rfl (hs.cell (k := 0) rfl rfl) ?_
              refine D_qn ?_
              refine D_q rfl rfl ?_
              refine s_move rfl rfl ?_
              refine D_qn ?_
              refine D_q rfl rfl ?_
              (refine s_indexAddr1 El22 rfl rfl rfl ?hx ?_; case hx => (constructor <;> first | omega | (simp; omega)))
              refine D_qn ?_
              refine D_q rfl rfl ?_
              refine s_load Tryz.isAgg3 rfl rfl (hs.cell (k := 2) rfl (by rw [Nat.zero_add, Int.toNat_natCast]; exact hdv)) ?_
              refine D_qn ?_
              refine D_q rfl rfl ?_
              refine s_move rfl rfl ?_
              refine D_qn ?_
              refine D_q rfl rfl ?_
              refine s_min rfl rfl rfl ?_
              rw [show (if n < (r.dur : Int) then n else (r.dur : Int)) = ((min r.dur n.toNat : Nat) : Int) by split <;> omega]
              refine D_qn ?_
              refine D_q rfl rfl ?_
              (refine s_indexAddr1 El22 rfl rfl rfl ?hx ?_; case hx => (constructor <;> first | omega | (simp; omega)))
              refine D_qn ?_
              refine D_e rfl ?_
              refine s_store Tryz.sizeOf3 rfl rfl rfl hs (kk := 2) rfl (by rw [hrl.2]; omega) ?_
              clear hs; intro w hs
              simp only [List.set_cons_zero, List.set_cons_succ, Int.toNat_natCast, Nat.zero_add] at hs
              obtain ⟨r', hr'⟩ : ∃ r' : Rw, r' = ⟨.slice ar n.toNat cr, r.bs.take n.toNat, min r.dur n.toNat, r.L⟩ := ⟨_, rfl⟩
              have htl : (r.bs.take n.toNat).length = n.toNat := by rw [List.length_take]; omega
              have hok' : r'.ok := by
                rw [hr']
                refine ⟨?_, by simp only; rw [htl]; omega, fun b hb => hok.2.2 b (List.mem_of_mem_take hb)⟩
                have h1 := hok.1
                rw [hrvv] at h1
                have h2 := OwnS.cut h1 (k := n.toNat) (by omega)
                rw [Nat.mul_one, ← List.map_take] at h2
                simp only; rw [htl]; exact h2
              have hss := set_step D (i : Int) ((D.c (i : Int)).take n.toNat) (min (D.d (i : Int)) n.toNat)
              rw [← hE, hc, hd] at hss
              have hRf : RsOk (E.set (i : Int) (r.bs.take n.toNat) (min r.dur n.toNat)) (rs.set i r') := hR.set (r := r') hok' (by rw [hss.1, hr']) (by rw [hss.2, hr'])
              have hKf : dkOk (E.set (i : Int) (r.bs.take n.toNat) (min r.dur n.toNat)) := ⟨⟨by rw [hss.1]; show _ ≤ E.room; rw [hEr]; rw [hd] at hts; omega, by show 0 ≤ E.room; rw [hEr]; omega, by show E.room ≤ _; rw [hEr]; omega⟩, hsg.2⟩
              have hfin : St (ids L0) w0 w (RL p gB gF (E.set (i : Int) (r.bs.take n.toNat) (min r.dur n.toNat)) (rs.set i r')) := by
                unfold RL
                rw [rvs_set, rds_set, hr']
                exact hs.perm ((((rs_same (r' := ⟨.slice ar n.toNat cr, r.bs.take n.toNat, min r.dur n.toNat, r.L⟩) hr rfl).cons _).cons _).cons _)
              refine D_en ?re ?_
              case re =>
                exact Reks_nil
              refine D_nil ?_
              refine n_then ?_
              refine W_seq ?_
              refine W_region ?_
              refine s_assign rfl rfl ?_
              refine WL_nil ?_
              refine n_then ?_
              refine W_ret ?_
              first
                | (rw [Dk.trunc, if_pos (by omega)]
                   exact end1 rfl rfl ⟨_, hs, rs, rfl, hR, hK, List.Perm.refl _, rfl⟩)
                | (rw [Dk.trunc, hc, if_pos (by omega)]
                   exact end1 rfl rfl ⟨_, hs, rs, rfl, hR, hK, List.Perm.refl _, rfl⟩)
                | (rw [Dk.trunc, hc, if_neg (by omega), if_pos (by assumption)]
                   exact end1 rfl rfl ⟨_, hs, rs, rfl, hR, hK, List.Perm.refl _, rfl⟩)
                | (rw [Dk.trunc, hc, if_neg (by omega), if_neg (by simp [*]), if_pos (by simp [*]), ← hE]
                   exact end1 rfl rfl ⟨_, hs, rs, rfl, hRE, hsg, List.Perm.refl _, rfl⟩)
                | (rw [Dk.trunc, hc, hd, if_neg (by omega), if_neg (by simp [*]), if_neg (by simp [*]), ← hE]
                   exact end1 rfl rfl ⟨_, hfin, _, rfl, hRf, hKf, by rw [hr']; exact rs_same hr rfl, rfl⟩)
theorem rTrunc_ok (p : Nat) (D : Dk) (f n : Int) (L0 : Hp) (w0 : World) (hD : RefAt p D L0) (hn : isI64 n) (hs : St (ids L0) w0 w0 L0) :
    Ret Tryz.prog 27 [.pointer (some ⟨p, 0, none⟩), .int .i64 f, .int .i64 n].toArray w0 fun r w' => ∃ L', St (ids L0) w0 w' L' ∧ RefAt p (D.trunc f n).1 L' ∧ r = .int .i64 (D.trunc f n).2 := by
  obtain ⟨gB, gF, rs, hL, hR, hK⟩ := hD
  refine (rTruncB_ok p gB gF D rs f n L0 w0 hL hR hK hn hs).mono ?_
  rintro r w ⟨L', hs', rs', hL', hR', hK', -, hr⟩
  exact ⟨L', hs', ⟨gB, gF, rs', hL', hR', hK'⟩, hr⟩
end Go.Proofs.YtkappdlbpilghaaGreat
