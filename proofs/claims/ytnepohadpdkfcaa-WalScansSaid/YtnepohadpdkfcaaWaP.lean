/- WalScans. -/
import Derived.Test.YtnepohadpdkfcaaWaO
import Derived.Test.YtnepohadpdkfcaaCut
set_option linter.unusedVariables false
set_option linter.unusedSimpArgs false
namespace Go.Proofs.Ytnepohadpdkfcaa
open Go.SL
structure WsS where
  all : List Int
  v : Value
  L : Hp
theorem isB_set {l : List Int} {i : Nat} {c : Int} (h : ∀ b ∈ l, isB b) (hc : isB c) : ∀ b ∈ l.set i c, isB b := by
  intro b hb
  rcases List.mem_or_eq_of_mem_set hb with hb | rfl
  · exact h b hb
  · exact hc
set_option maxHeartbeats 2000000 in
theorem walScans_ok (vr vl : Value) (es ls : List Int) (at_ cc : Int) (w0 : World) (hr : Sl w0 vr es.length (u8s es)) (hrb : ∀ z ∈ es, isB z) (hl : Sl w0 vl ls.length (i64s ls)) (hli : ∀ z ∈ ls, isI64 z) (hat : isI64 at_) (hcc : isB cc) :
    Ret Try.prog 4 [vr, vl, .int .i64 at_, .int .u8 cc].toArray w0 fun r w' => Fwd [] w0 w' ∧ r = .bool true := by
  obtain ⟨mx, hmx⟩ := isMix
  obtain ⟨ar, cr, rfl, hrc⟩ := hr.len_le
  obtain ⟨e60, he60⟩ : ∃ er, er = es.take 60 := ⟨_, rfl⟩
  have hel : e60.length = min es.length 60 := by rw [he60]; simp [Nat.min_comm]
  have hel2 : min es.length 60 ≤ 60 := Nat.min_le_right _ _
  have he60B : ∀ z ∈ e60, isB z := fun z hz => hrb z (List.mem_of_mem_take (by rw [← he60]; exact hz))
  obtain ⟨e5, he5⟩ : ∃ er, er = es.take 5 := ⟨_, rfl⟩
  have hel5 : e5.length = min es.length 5 := by rw [he5]; simp [Nat.min_comm]
  have hm5 : (if (5 : Int) < (es.length : Int) then (5 : Int) else (es.length : Int)) = ((min es.length 5 : Nat) : Int) := min_nat es.length 5
  have hm52 : min es.length 5 ≤ es.length := Nat.min_le_left _ _
  have hm53 : min es.length 5 ≤ 5 := Nat.min_le_right _ _
  have he5B : ∀ z ∈ e5, isB z := fun z hz => hrb z (List.mem_of_mem_take (by rw [← he5]; exact hz))
  have hf1 := frame_len_le hmx (n := 1) (x := e5) (by unfold isI64; omega) (by omega)
  have hf1B := frameV_isB (mx := mx) (n := 1) he5B
  refine Ret_start fun w hs => ?_
  refine Ret_of Try.func4 rfl Try.ntmps4 rfl ?_
  refine W_seq ?_
  refine W_region ?_
  refine s_assign rfl rfl ?_
  refine WL_nil ?_
  refine n_then ?_
  refine W_seq ?_
  refine W_region ?_
  refine s_move rfl rfl ?_
  refine s_call Try.call10 rfl rfl (records_ok vl ls w (hl.fwd0 hs.fwd) hli) ?_
  rintro r w ⟨xs, Lv, LX, hOx, hst, hxin, hsm, hrl⟩
  replace hs := St.back0 hs hst
  simp only [List.append_assoc, List.append_nil] at hs
  clear hst
  have hrl6 : xs.length ≤ 6 := by omega
  have hxb := hsm.2
  obtain ⟨_, cx, ax, rfl, hxxl⟩ := hOx.form
  subst hxxl
  refine s_assign rfl rfl ?_
  refine WL_nil ?_
  refine n_then ?_
  refine W_seq ?_
  refine W_region ?_
  refine s_assign rfl rfl ?_
  refine WL_nil ?_
  refine n_then ?_
  refine W_seq ?_
  refine W_seq ?_
  refine W_region ?_
  refine s_assign rfl rfl ?_
  refine WL_nil ?_
  refine n_then ?_
  refine W_block ?_
  refine W_loop (σ := WfS) (fun s => [(0, .slice ar es.length cr), (2, .int .i64 at_), (3, .int .u8 cc), (9, .slice ax xs.length cx), (10, s.v), (11, .int .i64 (s.i : Int))]) (fun s w => St [] w0 w (s.L ++ (Lv ++ LX)) ∧ OwnS 5 1 s.v (framesV mx 0 (xs.x.take s.i)).length (u8s (framesV mx 0 (xs.x.take s.i))) s.L ∧ s.i ≤ xs.length) (fun s => xs.length - s.i) ⟨0, .slice none 0 0, []⟩ ⟨rfl, rfl, rfl, rfl, rfl, rfl, trivial⟩ ⟨hs, OwnS.nil _ _, Nat.zero_le _⟩ ?_
  clear hs
  rintro ⟨i, v, L⟩ w ⟨hs, hO, hi⟩
  simp only at hs hO hi ⊢
  have hfle := framesV_le hmx (xs := xs.x.take i) (k := 200) (by omega) (fun x hx => by have := hxb x (List.mem_of_mem_take hx); omega) 0 (by rw [List.length_take, Recs.x_length]; omega)
  have htl : (xs.x.take i).length = i := by rw [List.length_take, Recs.x_length]; omega
  rw [htl] at hfle
  have hi7 : i * 240 ≤ 7 * 240 := Nat.mul_le_mul_right _ (by omega)
  obtain ⟨_, ca, aa, rfl, haal⟩ := hO.form
  subst haal
  refine W_seq ?_
  refine W_seq ?_
  refine W_region ?_
  refine s_move rfl rfl ?_
  refine s_move rfl rfl ?_
  refine s_len rfl rfl (LN27 _ _ _ _) ?_
  refine s_lss rfl rfl rfl ?_
  refine WL_nil ?_
  refine n_then ?_
  refine W_cond rfl (fun hc23 => ?_) (fun hc23 => ?_)
  · skip
    try simp only [decide_eq_true_eq, decide_eq_false_iff_not] at hc23
    have hil : i < xs.length := by omega
    obtain ⟨u1, x1, hxi, hm1, hv1, hx1⟩ := Recs.at hil
    have hsX := OwnS_slIn hOx (w := w) fun p hp => hs.own p (by simp [hp])
    obtain ⟨b1, o1, hA1, hc1⟩ := hsX.at hv1
    have hS1 := (hxin _ hm1).sl w fun p hp => hs.own p (by simp [hp])
    have hx1b := hxb x1 (List.mem_of_getElem? hx1)
    simp only at hS1
    refine W_skip ?_
    refine n_then ?_
    refine W_seq ?_
    refine W_block ?_
    refine W_region ?_
    refine s_move rfl rfl ?_
    refine s_move rfl rfl ?_
    refine s_move rfl rfl ?_
    refine s_move rfl rfl ?_
    (refine s_indexAddrO El27 rfl rfl rfl hA1 ?hx ?_; case hx => (constructor <;> omega))
    refine s_load Try.isAgg23 rfl rfl hc1 ?_
    refine s_call Try.call9 rfl rfl (fFrame_ok hmx (i : Int) _ x1 w hS1 (by unfold isI64; omega) hx1b.2 (by omega)) ?_
    rintro r w ⟨LF, hOF, hst⟩
    replace hs := St.back0 hs hst
    clear hst
    have hfl := frame_len_le hmx (n := (i : Int)) (x := x1) (by unfold isI64; omega) (by omega)
    refine s_appendM (M := LF) (X := Lv ++ LX) El23 rfl rfl rfl hO hs (hOF.sl hs) (by simp) (u8s_one _) (by omega) ?_
    clear hs; intro v' w L' hO' hs
    replace hs := hs.right
    refine s_assign rfl rfl ?_
    refine WL_nil ?_
    refine n_blk ?_
    refine n_then ?_
    refine W_region ?_
    refine s_move rfl rfl ?_
    first | (refine s_add' rfl rfl rfl ?hx ?_; case hx => (constructor <;> first | omega | (simp only; omega))) | refine s_add rfl rfl rfl ?_
    refine s_assign rfl rfl ?_
    refine WL_nil ?_
    refine n_loop ?_
    refine ⟨⟨i + 1, v', L'⟩, ⟨rfl, rfl, rfl, rfl, rfl, rfl, trivial⟩, ⟨hs, ?_, by simp only; omega⟩, by simp only; omega⟩
    have h9 : framesV mx 0 (xs.x.take (i + 1)) = framesV mx 0 (xs.x.take i) ++ frameV mx (i : Int) x1 := by
      rw [List.take_add_one, hx1]
      have := framesV_snoc mx (xs.x.take i) x1 0
      rw [htl, Nat.zero_add] at this
      exact this
    simp only [h9, List.length_append, u8s_app]; exact hO'
  · skip
    try simp only [decide_eq_true_eq, decide_eq_false_iff_not] at hc23
    have hallB : ∀ z ∈ framesV mx 0 (xs.x.take i), isB z := framesV_isB (fun x hx => (hxb x (List.mem_of_mem_take hx)).2) 0
    generalize framesV mx 0 (xs.x.take i) = all at hO hfle hallB
    replace hs := hs.left
    have halll : all.length ≤ 1680 := by omega
    clear hfle htl hi7
    refine W_exit ?_
    refine x_then ?_
    refine x_then ?_
    refine exit_hit ?_
    refine n_then ?_
    refine W_cut (σ := WsS) (fun S => [(0, .slice ar es.length cr), (10, S.v)]) (fun S w => St [] w0 w S.L ∧ OwnS 5 1 S.v S.all.length (u8s S.all) S.L ∧ S.all.length ≤ 1680 ∧ (∀ z ∈ S.all, isB z)) ?_ ?_
    · skip
      refine W_seq ?_
      refine W_region ?_
      refine s_move rfl rfl ?_
      refine s_len rfl rfl (LN23 _ _ _ _) ?_
      refine s_gtr rfl rfl rfl ?_
      refine WL_nil ?_
      refine n_then ?_
      refine W_cond rfl (fun hc36 => ?_) (fun hc36 => ?_)
      · skip
        try simp only [decide_eq_true_eq, decide_eq_false_iff_not] at hc36
        have hpos : 0 < all.length := by omega
        have hra := aroundV_range (m := at_) (q := (all.length : Int)) (by omega)
        refine W_region ?_
        refine s_move rfl rfl ?_
        refine s_move rfl rfl ?_
        refine s_move rfl rfl ?_
        refine s_len rfl rfl (LN23 _ _ _ _) ?_
        refine s_call Try.call15 rfl rfl (around_ok at_ all.length _ (by omega) hat) ?_
        rintro r w ⟨rfl, rfl⟩
        obtain ⟨g, cap, sp, hgv, hcap, hLg⟩ := hO.block hpos
        cases hgv
        subst hLg
        refine s_move rfl rfl ?_
        (refine s_indexAddr1 El23 rfl rfl rfl ?hx ?_; case hx => (constructor <;> first | omega | (simp; omega)))
        refine s_store Try.sizeOf5 rfl rfl rfl hs (kk := 0) rfl (by simp; omega) ?_
        clear hs; intro w hs
        simp only [List.set_cons_zero, Nat.zero_add] at hs
        rw [List.set_append_left _ _ (by simp; omega), ← List.map_set] at hs
        refine WL_nil ?_
        refine n_loop ?_
        first
          | (refine ⟨⟨all.set (aroundV at_ (all.length : Int)).toNat cc, _, _⟩, ⟨rfl, rfl, trivial⟩, hs, ?_, by simp only [List.length_set]; omega, isB_set hallB hcc⟩
             obtain ⟨h1, h2 | ⟨g', cap', sp', h3, h4, h5, h6, h7⟩⟩ := hO
             · exact absurd h2.2.1 (by omega)
             · cases h3
               have h8 : sp = sp' := by simpa using h7
               subst h8
               simp only [List.length_set]
               refine ⟨by simp, .inr ⟨g, _, sp, rfl, hcap, h5, ?_, rfl⟩⟩
               simp only [List.length_append, List.length_map, List.length_set] at h6 ⊢; exact h6)
          | exact ⟨⟨all, _, _⟩, ⟨rfl, rfl, trivial⟩, hs, hO, halll, hallB⟩
      · skip
        try simp only [decide_eq_true_eq, decide_eq_false_iff_not] at hc36
        refine W_skip ?_
        refine n_loop ?_
        first
          | (refine ⟨⟨all.set (aroundV at_ (all.length : Int)).toNat cc, _, _⟩, ⟨rfl, rfl, trivial⟩, hs, ?_, by simp only [List.length_set]; omega, isB_set hallB hcc⟩
             obtain ⟨h1, h2 | ⟨g', cap', sp', h3, h4, h5, h6, h7⟩⟩ := hO
             · exact absurd h2.2.1 (by omega)
             · cases h3
               have h8 : sp = sp' := by simpa using h7
               subst h8
               simp only [List.length_set]
               refine ⟨by simp, .inr ⟨g, _, sp, rfl, hcap, h5, ?_, rfl⟩⟩
               simp only [List.length_append, List.length_map, List.length_set] at h6 ⊢; exact h6)
          | exact ⟨⟨all, _, _⟩, ⟨rfl, rfl, trivial⟩, hs, hO, halll, hallB⟩
    · skip
      clear hs hO halll hallB
      clear all L
      rintro ⟨all, va, La⟩ w ⟨hs, hO, halll, hallB⟩
      simp only at hs hO halll hallB ⊢
      obtain ⟨_, cva, ava, rfl, hvl⟩ := hO.form
      subst hvl
      refine W_seq ?_
      refine W_draw [(0, true, []), (2, true, []), (3, true, []), (4, true, []), (5, true, []), (6, true, []), (7, true, []), (1, false, [2, 3, 4, 5, 6, 7]), (8, false, [2]), (9, false, []), (10, true, [])] [[], [0], [], [], [], [4], [4, 5], [3, 4, 5, 6], [0, 1, 3, 4, 5, 6, 7], [0, 1, 2, 3, 4, 5, 6, 7, 8], [0, 1, 2, 3, 4, 5, 6, 7, 8, 9]] MX (by kernel_rfl) ?_
      intro w1 hw1 hw2 hw3 hw4; replace hs := hs.redrawn hw1 hw2 hw3 hw4; clear hw1 hw2 hw3 hw4
      obtain ⟨w, rfl⟩ : ∃ w : World, w = w1 := ⟨_, rfl⟩
      refine D_q rfl rfl ?_
      refine s_move rfl rfl ?_
      refine D_qn ?_
      refine D_q rfl rfl ?_
      refine s_move rfl rfl ?_
      refine D_qn ?_
      refine D_q rfl rfl ?_
      refine s_move rfl rfl ?_
      refine D_qn ?_
      refine D_q rfl rfl ?_
      refine s_move rfl rfl ?_
      refine D_qn ?_
      refine D_q rfl rfl ?_
      refine s_len rfl rfl (LN23 _ _ _ _) ?_
      refine D_qn ?_
      refine D_q rfl rfl ?_
      refine s_min rfl rfl rfl ?_
      rw [hm5]
      refine D_qn ?_
      refine D_q rfl rfl ?_
      (refine s_slice_hi El23 rfl rfl rfl ?hx ?_; case hx => (constructor <;> omega))
      refine D_qn ?_
      refine D_e rfl ?_
      refine s_call Try.call6 rfl rfl (few_ok _ es 60 w (hr.fwd0 hs.fwd) (by omega)) ?_
      rintro r w ⟨L1, hO1, hst⟩
      replace hs := St.back0 hs hst
      clear hst
      rw [← he60, ← hel] at hO1
      obtain ⟨_, cv1, av1, rfl, hv1⟩ := hO1.form
      subst hv1
      refine D_en ?re ?_
      case re =>
        refine Reks_cons rfl rfl rfl rfl ?_ ?_
        · skip
          refine s_move rfl rfl ?_
          exact Rek_end rfl
        refine Reks_cons rfl rfl rfl rfl ?_ ?_
        · skip
          refine s_move rfl rfl ?_
          exact Rek_end rfl
        refine Reks_cons rfl rfl rfl rfl ?_ ?_
        · skip
          refine s_move rfl rfl ?_
          exact Rek_end rfl
        refine Reks_cons rfl rfl rfl rfl ?_ ?_
        · skip
          refine s_len rfl rfl (LN23 _ _ _ _) ?_
          exact Rek_end rfl
        refine Reks_cons rfl rfl rfl rfl ?_ ?_
        · skip
          refine s_min rfl rfl rfl ?_
          rw [hm5]
          exact Rek_end rfl
        refine Reks_cons rfl rfl rfl rfl ?_ ?_
        · skip
          (refine s_slice_hi El23 rfl rfl rfl ?hx ?_; case hx => (constructor <;> omega))
          exact Rek_end rfl
        exact Reks_nil
      refine D_e rfl ?_
      have hsl5 : Sl w (.slice ar (min es.length 5) cr) e5.length (u8s e5) := by
        have h1 := (hr.fwd0 hs.fwd).take (k := min es.length 5) (size := 1) hm52 rfl
        have h2 : List.take (min es.length 5 * 1) (u8s es) = u8s e5 := by
          rw [Nat.mul_one, ← List.map_take, he5]; congr 1; rw [List.take_eq_take_iff]; simp [Nat.min_comm]
        rw [h2] at h1; rw [hel5]; exact h1
      refine s_call Try.call9 rfl rfl (fFrame_ok hmx 1 _ e5 w hsl5 (by unfold isI64; omega) he5B (by omega)) ?_
      rintro r w ⟨L2, hO2, hst⟩
      replace hs := St.back0 hs hst
      clear hst hsl5
      obtain ⟨_, cv2, av2, rfl, hv2⟩ := hO2.form
      subst hv2
      refine D_en ?re ?_
      case re =>
        refine Reks_cons rfl rfl rfl rfl ?_ ?_
        · skip
          refine s_move rfl rfl ?_
          exact Rek_end rfl
        exact Reks_nil
      refine D_e rfl ?_
      refine s_buildSlice rfl rfl (BS27_3 _ _ _ _ _ _ _ _ _) hs ?_; clear hs; intro b53 w hs
      refine D_en ?re ?_
      case re =>
        exact Reks_nil
      refine D_q rfl rfl ?_
      refine s_assign rfl rfl ?_
      refine D_qn ?_
      refine D_nil ?_
      refine n_then ?_
      refine W_seq ?_
      refine W_seq ?_
      refine W_region ?_
      obtain ⟨qs, hqs⟩ : ∃ qs : Recs, qs = [(.slice av1 e60.length cv1, e60), (.slice ava all.length cva, all), (.slice av2 (frameV mx 1 e5).length cv2, frameV mx 1 e5)] := ⟨_, rfl⟩
      have hql : qs.length = 3 := by rw [hqs]; rfl
      have hqv : [Value.slice av1 e60.length cv1, .slice ava all.length cva, .slice av2 (frameV mx 1 e5).length cv2] = qs.v := by rw [hqs]; rfl
      have hqin : RecsIn qs (L2 ++ (L1 ++ La)) := by
        intro q hq
        rw [hqs] at hq
        simp only [List.mem_cons, List.not_mem_nil, or_false] at hq
        rcases hq with rfl | rfl | rfl
        · exact hO1.rdS.mono fun p hp => by simp [hp]
        · exact hO.rdS.mono fun p hp => by simp [hp]
        · exact hO2.rdS.mono fun p hp => by simp [hp]
      have hqb : ∀ q ∈ qs, q.2.length ≤ 1048576 ∧ ∀ b ∈ q.2, isB b := by
        intro q hq
        rw [hqs] at hq
        simp only [List.mem_cons, List.not_mem_nil, or_false] at hq
        rcases hq with rfl | rfl | rfl
        · exact ⟨by simp only; omega, he60B⟩
        · exact ⟨by simp only; omega, hallB⟩
        · exact ⟨by simp only; omega, hf1B⟩
      rw [hqv] at hs
      clear hqs hqv hO1 hO hO2
      generalize L2 ++ (L1 ++ La) = LQ at hs hqin
      refine s_assign rfl rfl ?_
      refine WL_nil ?_
      refine n_then ?_
      refine W_block ?_
      refine W_loop (σ := Nat) (fun i => [(12, .slice (some ⟨b53, 0, none⟩) 3 3), (13, .int .i64 (i : Int))]) (fun i w => St [] w0 w ((b53, Blk 23 qs.v) :: LQ) ∧ i ≤ 3) (fun i => 3 - i) 0 ⟨rfl, rfl, trivial⟩ ⟨hs, by omega⟩ ?_
      clear hs
      rintro i w ⟨hs, hi⟩
      refine W_seq ?_
      refine W_seq ?_
      refine W_region ?_
      refine s_move rfl rfl ?_
      refine s_lss rfl rfl rfl ?_
      refine WL_nil ?_
      refine n_then ?_
      refine W_cond rfl (fun hc55 => ?_) (fun hc55 => ?_)
      · skip
        try simp only [decide_eq_true_eq, decide_eq_false_iff_not] at hc55
        have hil : i < qs.length := by omega
        obtain ⟨u1, x1, hxi, hm1, hv1, hx1⟩ := Recs.at hil
        have hS1 := (hqin _ hm1).sl w fun p hp => hs.own p (by simp [hp])
        have hB1 := hqb _ hm1
        simp only at hS1 hB1
        refine W_skip ?_
        refine n_then ?_
        refine W_seq ?_
        refine W_block ?_
        refine W_seq ?_
        refine W_region ?_
        refine s_move rfl rfl ?_
        refine s_move rfl rfl ?_
        (refine s_indexAddr1 El27 rfl rfl rfl ?hx ?_; case hx => (constructor <;> first | omega | (simp; omega)))
        refine s_load Try.isAgg23 rfl rfl (hs.cell (k := 0) (fz := (0, 0)) rfl (by rw [Nat.zero_add, Int.toNat_natCast]; exact hv1)) ?_
        refine s_call Try.call11 rfl rfl (scan_ok hmx u1 x1 w hS1 hB1.2 hB1.1) ?_
        rintro r w ⟨r1, u2, Lu1, Lx1, rfl, hOu1, hst, hr1, hsc1⟩
        replace hs := St.back0 hs hst
        simp only [List.append_assoc] at hs
        clear hst
        refine s_move rfl rfl ?_
        refine s_extract rfl rfl rfl ?_
        refine s_extract rfl rfl rfl ?_
        refine s_assign rfl rfl ?_
        refine s_assign rfl rfl ?_
        refine WL_nil ?_
        refine n_then ?_
        refine W_seq ?_
        refine W_region ?_
        refine s_move rfl rfl ?_
        refine s_move rfl rfl ?_
        (refine s_indexAddr1 El27 rfl rfl rfl ?hx ?_; case hx => (constructor <;> first | omega | (simp; omega)))
        refine s_load Try.isAgg23 rfl rfl (hs.right.right.cell (k := 0) (fz := (0, 0)) rfl (by rw [Nat.zero_add, Int.toNat_natCast]; exact hv1)) ?_
        refine s_call Try.call12 rfl rfl (fScan_ok hmx u1 x1 LQ w (hqin _ hm1) (fun p hp => hs.own p (by simp [hp])) hB1.2 hB1.1) ?_
        rintro r w ⟨r2, u3, Lu2, rfl, hOu2, hst, hr2, hsc2⟩
        replace hs := St.back0 hs hst
        clear hst
        have hex := scan_unique hmx hB1.1 hsc1 hsc2
        have hcnt1 := framesV_cnt (mx := mx) (n := 0) (xs := r1.x)
        have hle1 : (framesV mx 0 r1.x).length ≤ x1.length := by obtain ⟨q, h, _⟩ := hsc1; rw [h, List.length_append]; omega
        rw [Recs.x_length] at hcnt1
        refine s_move rfl rfl ?_
        refine s_extract rfl rfl rfl ?_
        refine s_extract rfl rfl rfl ?_
        refine s_assign rfl rfl ?_
        refine s_assign rfl rfl ?_
        refine WL_nil ?_
        refine n_then ?_
        refine W_seq ?_
        refine W_region ?_
        refine s_move rfl rfl ?_
        refine s_move rfl rfl ?_
        refine s_neq rfl rfl rfl ?_
        refine s_move rfl rfl ?_
        refine WL_know (s := 77) (c := false) rfl ((by rw [hex]; simp)) ?_
        refine WL_take rfl ?_
        refine s_move rfl rfl ?_
        refine WL_take rfl ?_
        refine s_move rfl rfl ?_
        refine WL_take rfl ?_
        refine s_call Try.call13 rfl rfl (sameLists_ok _ _ r1 r2 w (OwnS_slIn hOu1 fun p hp => hs.own p (by simp [hp])) (OwnS_slIn hOu2 fun p hp => hs.own p (by simp [hp])) (fun q hq => (hr1 q hq).sl w fun p hp => hs.own p (by simp [hp])) (fun q hq => (hr2 q hq).sl w fun p hp => hs.own p (by simp [hp])) (by omega) (fun q hq => by have h1 := framesV_mem (mx := mx) (n := 0) (xs := r1.x) (x := q.2) (List.mem_map_of_mem hq); omega)) ?_
        rintro r w ⟨hst, rfl⟩
        replace hs := hs.fwd1 hst
        clear hst
        refine WL_take rfl ?_
        refine s_not rfl rfl ?_
        refine s_pick_f rfl rfl rfl ?_
        refine WL_nil ?_
        refine n_then ?_
        refine W_cond_kf rfl ((by simp [hex])) ?_
        refine W_skip ?_
        refine n_blk ?_
        refine n_then ?_
        refine W_region ?_
        refine s_move rfl rfl ?_
        first | (refine s_add' rfl rfl rfl ?hx ?_; case hx => (constructor <;> first | omega | (simp only; omega))) | refine s_add rfl rfl rfl ?_
        refine s_assign rfl rfl ?_
        refine WL_nil ?_
        refine n_loop ?_
        exact ⟨i + 1, ⟨rfl, rfl, trivial⟩, ⟨hs.right.right.right, by omega⟩, by omega⟩
      · skip
        try simp only [decide_eq_true_eq, decide_eq_false_iff_not] at hc55
        refine W_exit ?_
        refine x_then ?_
        refine x_then ?_
        refine exit_hit ?_
        refine n_then ?_
        refine W_seq ?_
        refine W_region ?_
        refine s_call Try.call14 rfl rfl (lives_ok w) ?_
        rintro r w ⟨hst, rfl⟩
        replace hs := hs.fwd1 hst
        clear hst
        refine s_assign rfl rfl ?_
        refine WL_nil ?_
        refine n_then ?_
        refine W_ret ?_
        exact end1 rfl rfl ⟨hs.fwd, rfl⟩
end Go.Proofs.Ytnepohadpdkfcaa
