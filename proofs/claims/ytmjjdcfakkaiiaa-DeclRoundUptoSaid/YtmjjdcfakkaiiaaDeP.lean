/- The law DeclRound. -/
import Derived.Test.YtmjjdcfakkaiiaaDeO
set_option linter.unusedVariables false
set_option linter.unusedSimpArgs false
namespace Go.Proofs.Ytmjjdcfakkaiiaa
open Go.SL
set_option maxHeartbeats 4000000 in
theorem declRound_ok (v : Value) (xs : List Int) (d3 : De) (l3 : List Lb) (w0 : World) (hv : Sl w0 v xs.length (i64s xs)) (hx : ∀ z ∈ xs, isI64 z) (h3 : Sl w0 d3.lv l3.length (lbcells l3)) (hi3 : d3.Ints) (hz3 : d3.name.size ≤ 1048576) (hl3 : ∀ x ∈ l3, x.1.size ≤ 1048576 ∧ x.2.size ≤ 1048576) :
    Ret Try.prog 8 [v, .agg d3.vals.toArray].toArray w0 fun r w' => Fwd [] w0 w' ∧ r = .bool true := by
  refine Ret_start fun w hs => ?_
  refine Ret_of Try.func8 rfl Try.ntmps8 rfl ?_
  refine W_seq ?_
  refine W_region ?_
  first | refine s_box rfl rfl hs ?_ | refine s_box1 rfl rfl rfl hs ?_
  clear hs; intro b3 w hs
  refine s_assign rfl rfl ?_
  refine WL_nil ?_
  refine n_then ?_
  refine W_seq ?_
  refine W_draw [(0, true, []), (2, true, []), (1, false, [2]), (3, false, []), (4, false, []), (5, true, [])] [[], [0], [], [0, 1, 2], [0, 1, 2, 3], [0, 1, 2, 3, 4]] MX (by kernel_rfl) ?_
  intro w1 hw1 hw2 hw3 hw4; replace hs := hs.redrawn hw1 hw2 hw3 hw4; clear hw1 hw2 hw3 hw4
  obtain ⟨w, rfl⟩ : ∃ w : World, w = w1 := ⟨_, rfl⟩
  refine D_q rfl rfl ?_
  refine s_move rfl rfl ?_
  refine D_qn ?_
  refine D_q rfl rfl ?_
  first
    | refine s_loadW Try.isAgg27 Try.sizeOf27 rfl rfl hs (kk := 0) rfl rfl ?_
    | refine s_loadW Try.isAgg27 Try.sizeOf27 rfl rfl hs (kk := 1) rfl rfl ?_
    | refine s_load_12 Try.isAgg27 Try.sizeOf27 rfl rfl (by first | exact hs.cell (k := 0) rfl rfl | exact hs.cell (k := 1) rfl rfl) (by first | exact hs.cell (k := 0) rfl rfl | exact hs.cell (k := 1) rfl rfl) (by first | exact hs.cell (k := 0) rfl rfl | exact hs.cell (k := 1) rfl rfl) (by first | exact hs.cell (k := 0) rfl rfl | exact hs.cell (k := 1) rfl rfl) (by first | exact hs.cell (k := 0) rfl rfl | exact hs.cell (k := 1) rfl rfl) (by first | exact hs.cell (k := 0) rfl rfl | exact hs.cell (k := 1) rfl rfl) (by first | exact hs.cell (k := 0) rfl rfl | exact hs.cell (k := 1) rfl rfl) (by first | exact hs.cell (k := 0) rfl rfl | exact hs.cell (k := 1) rfl rfl) (by first | exact hs.cell (k := 0) rfl rfl | exact hs.cell (k := 1) rfl rfl) (by first | exact hs.cell (k := 0) rfl rfl | exact hs.cell (k := 1) rfl rfl) (by first | exact hs.cell (k := 0) rfl rfl | exact hs.cell (k := 1) rfl rfl) (by first | exact hs.cell (k := 0) rfl rfl | exact hs.cell (k := 1) rfl rfl) ?_
  refine D_qn ?_
  refine D_e rfl ?_
  refine s_call Try.call10 rfl rfl (declGen_ok v xs w (hv.fwd0 hs.fwd) hx) ?_
  rintro r w ⟨d0, ls0, Lr, rfl, hG, hO0, hl0, hl2, hl16, hst⟩
  replace hs := (St.back0 hs hst).swap
  simp only [List.cons_append, List.nil_append] at hs
  clear hst
  have hE0 := gen_encOk hG hl2 hl16
  have hone0 := De.vals_one (d := d0) (by obtain ⟨x, y, z, h, _⟩ := hO0.form; exact ⟨_, _, _, h⟩)
  refine D_en ?re ?_
  case re =>
    refine Reks_cons rfl rfl rfl rfl ?_ ?_
    · skip
      first
        | refine s_loadW Try.isAgg27 Try.sizeOf27 rfl rfl hs (kk := 0) rfl rfl ?_
        | refine s_loadW Try.isAgg27 Try.sizeOf27 rfl rfl hs (kk := 1) rfl rfl ?_
        | refine s_load_12 Try.isAgg27 Try.sizeOf27 rfl rfl (by first | exact hs.cell (k := 0) rfl rfl | exact hs.cell (k := 1) rfl rfl) (by first | exact hs.cell (k := 0) rfl rfl | exact hs.cell (k := 1) rfl rfl) (by first | exact hs.cell (k := 0) rfl rfl | exact hs.cell (k := 1) rfl rfl) (by first | exact hs.cell (k := 0) rfl rfl | exact hs.cell (k := 1) rfl rfl) (by first | exact hs.cell (k := 0) rfl rfl | exact hs.cell (k := 1) rfl rfl) (by first | exact hs.cell (k := 0) rfl rfl | exact hs.cell (k := 1) rfl rfl) (by first | exact hs.cell (k := 0) rfl rfl | exact hs.cell (k := 1) rfl rfl) (by first | exact hs.cell (k := 0) rfl rfl | exact hs.cell (k := 1) rfl rfl) (by first | exact hs.cell (k := 0) rfl rfl | exact hs.cell (k := 1) rfl rfl) (by first | exact hs.cell (k := 0) rfl rfl | exact hs.cell (k := 1) rfl rfl) (by first | exact hs.cell (k := 0) rfl rfl | exact hs.cell (k := 1) rfl rfl) (by first | exact hs.cell (k := 0) rfl rfl | exact hs.cell (k := 1) rfl rfl) ?_
      exact Rek_end rfl
    exact Reks_nil
  refine D_e rfl ?_
  refine s_call Try.call12 rfl rfl (fewLb2_ok d3 l3 w (h3.fwd0 hs.fwd)) ?_
  rintro r w ⟨d1, Lf, rfl, ⟨hdn, hdm⟩, hO1, hst⟩
  replace hs := (St.back0 hs hst).swap
  simp only [List.cons_append, List.nil_append] at hs
  clear hst
  have hE1 := few_encOk hi3 hdn hdm hz3 hl3
  generalize l3.take 10 = ls1 at hE1 hO1
  refine D_en ?re ?_
  case re =>
    exact Reks_nil
  refine D_e rfl ?_
  refine s_buildSlice rfl rfl (BS35_2 _ _ _ _ _ _ _ _ _ _ _ _ _ _ _ _ _ _ _ _ _ _ _ _) hs ?_; clear hs; intro b14 w hs
  refine D_en ?re ?_
  case re =>
    exact Reks_nil
  refine D_q rfl rfl ?_
  refine s_assign rfl rfl ?_
  refine D_qn ?_
  refine D_nil ?_
  refine n_then ?_
  refine W_seq ?_
  refine W_seq ?_
  refine W_region ?_
  refine s_assign rfl rfl ?_
  refine WL_nil ?_
  refine n_then ?_
  refine W_block ?_
  obtain ⟨CS, hCS⟩ : ∃ CS, CS = ([d0, d1] : List De).flatMap De.vals ++ [] := ⟨_, rfl⟩
  replace hs : St [] w0 w ((b14, Blk 27 CS) :: (Lr ++ Lf)) := by
    rw [hCS]
    exact (hs.perm (List.Perm.swap _ _ _)).tail
  refine W_loop (σ := Nat) (fun i => [(5, .slice (some ⟨b14, 0, none⟩) 2 2), (6, .int .i64 (i : Int))]) (fun i w => St [] w0 w ((b14, Blk 27 CS) :: (Lr ++ Lf)) ∧ i ≤ 2) (fun i => 2 - i) 0 ⟨rfl, rfl, trivial⟩ ⟨hs, by omega⟩ ?_
  clear hs
  rintro i w ⟨hs, hi2⟩
  refine W_seq ?_
  refine W_seq ?_
  refine W_region ?_
  refine s_move rfl rfl ?_
  refine s_lss rfl rfl rfl ?_
  refine WL_nil ?_
  refine n_then ?_
  refine W_cond rfl (fun hc16 => ?_) (fun hc16 => ?_)
  · skip
    try simp only [decide_eq_true_eq, decide_eq_false_iff_not, beq_iff_eq, beq_eq_false_iff_ne, bne_iff_ne, bne_eq_false_iff_eq, ne_eq, gt_iff_lt] at hc16
    obtain ⟨x, ls, hdi, hSl, hE, hxlv⟩ : ∃ x ls, ([d0, d1] : List De)[i]? = some x ∧ (∀ w : World, (∀ y ∈ Lr ++ Lf, w.heap[y.1]? = some y.2) → Sl w x.lv ls.length (lbcells ls)) ∧ EncOk x ls ∧ ∃ a c, x.lv = .slice a ls.length c := by
      have h01 : i = 0 ∨ i = 1 := by omega
      rcases h01 with rfl | rfl
      · exact ⟨d0, ls0, rfl, fun w h => OwnS_slIn hO0 fun x hx => h x (List.mem_append_left _ hx), hE0, by obtain ⟨x, y, z, h, hh⟩ := hO0.form; exact ⟨_, _, hh ▸ h⟩⟩
      · exact ⟨d1, ls1, rfl, fun w h => OwnS_slIn hO1 fun x hx => h x (List.mem_append_right _ hx), hE1, by obtain ⟨x, y, z, h, hh⟩ := hO1.form; exact ⟨_, _, hh ▸ h⟩⟩
    have cc : ∀ o u, o < 12 → x.vals[o]? = some u → CS[0 + (i : Int).toNat * 12 + o]? = some u := fun o u ho hu => by rw [hCS]; exact flat_at' De.vals_length ho hdi hu
    have c0 := cc 0 _ (by omega) rfl; have c1 := cc 1 _ (by omega) rfl; have c2 := cc 2 _ (by omega) rfl; have c3 := cc 3 _ (by omega) rfl; have c4 := cc 4 _ (by omega) rfl; have c5 := cc 5 _ (by omega) rfl
    have c6 := cc 6 _ (by omega) rfl; have c7 := cc 7 _ (by omega) rfl; have c8 := cc 8 _ (by omega) rfl; have c9 := cc 9 _ (by omega) rfl; have c10 := cc 10 _ (by omega) rfl; have c11 := cc 11 _ (by omega) rfl
    clear cc
    have hxl := hE.len
    obtain ⟨xa, xc, hxv⟩ := hxlv
    have c1' : CS[0 + (i : Int).toNat * 12 + 1]? = some (.slice xa ls.length xc) := by rw [← hxv]; exact c1
    refine W_skip ?_
    refine n_then ?_
    refine W_seq ?_
    refine W_block ?_
    refine W_seq ?_
    refine W_region ?_
    refine s_move rfl rfl ?_
    refine s_move rfl rfl ?_
    (refine s_indexAddr El35 rfl rfl rfl ?hx ?_; case hx => (constructor <;> first | omega | (simp; omega)))
    refine s_load_12 Try.isAgg27 Try.sizeOf27 rfl rfl (hs.cell (k := 0) rfl c0) (hs.cell (k := 0) rfl c1) (hs.cell (k := 0) rfl c2) (hs.cell (k := 0) rfl c3) (hs.cell (k := 0) rfl c4) (hs.cell (k := 0) rfl c5) (hs.cell (k := 0) rfl c6) (hs.cell (k := 0) rfl c7) (hs.cell (k := 0) rfl c8) (hs.cell (k := 0) rfl c9) (hs.cell (k := 0) rfl c10) (hs.cell (k := 0) rfl c11) ?_
    refine s_call Try.call23 rfl rfl (encode_ok x ls w (hSl w fun y hy => hs.own y (List.mem_cons_of_mem _ hy)) hE) ?_
    rintro r w ⟨Le, hOe, hst⟩
    replace hs := (St.back0 hs hst).swap
    simp only [List.cons_append, List.append_assoc] at hs
    clear hst
    refine s_call Try.call28 rfl rfl (decode_ok _ (encD x ls) w (OwnS_slIn hOe fun y hy => hs.own y (by simp [hy])) (enc_len hE) (enc_isB x ls)) ?_
    rintro r w ⟨d, l', e, Ld, rfl, hst, hOd, hD⟩
    replace hs := (St.back0 hs hst).swap
    simp only [List.cons_append, List.append_assoc] at hs
    clear hst
    have hone := De.vals_one (d := d) (by obtain ⟨x, y, z, h, _⟩ := hOd.form; exact ⟨_, _, _, h⟩)
    refine s_move rfl rfl ?_
    refine s_extract rfl rfl rfl ?_
    refine s_extract rfl rfl rfl ?_
    refine s_alloc rfl AL27 hs ?_; clear hs; intro b7 w hs
    refine s_storeW Try.sizeOf27 rfl rfl hone rfl hs (kk := 0) rfl rfl ?_
    clear hs; intro w hs; simp only [List.set_cons_zero] at hs
    refine s_assign rfl rfl ?_
    refine WL_nil ?_
    refine n_then ?_
    refine W_seq ?_
    refine W_region ?_
    refine s_move rfl rfl ?_
    refine s_move rfl rfl ?_
    (refine s_indexAddr El35 rfl rfl rfl ?hx ?_; case hx => (constructor <;> first | omega | (simp; omega)))
    refine s_load_12 Try.isAgg27 Try.sizeOf27 rfl rfl (hs.cell (k := 1) rfl c0) (hs.cell (k := 1) rfl c1) (hs.cell (k := 1) rfl c2) (hs.cell (k := 1) rfl c3) (hs.cell (k := 1) rfl c4) (hs.cell (k := 1) rfl c5) (hs.cell (k := 1) rfl c6) (hs.cell (k := 1) rfl c7) (hs.cell (k := 1) rfl c8) (hs.cell (k := 1) rfl c9) (hs.cell (k := 1) rfl c10) (hs.cell (k := 1) rfl c11) ?_
    refine s_call Try.call14 rfl rfl (fValid10_ok x ls w (hSl w fun y hy => hs.own y (by rw [List.mem_append] at hy; rcases hy with hy | hy <;> simp [hy]))) ?_
    rintro r w ⟨hst, f, rfl, hf⟩
    replace hs := hs.fwd1 hst
    clear hst
    obtain ⟨hef, hcase⟩ := round_law hE hD hf
    refine s_assign rfl rfl ?_
    refine WL_nil ?_
    refine n_then ?_
    refine W_seq ?_
    refine W_seq ?_
    refine W_region ?_
    refine s_move rfl rfl ?_
    refine s_move rfl rfl ?_
    (refine s_indexAddr El35 rfl rfl rfl ?hx ?_; case hx => (constructor <;> first | omega | (simp; omega)))
    refine s_fieldAddr rfl rfl (FA27_1 _ _) ?_
    refine s_load Try.isAgg23 rfl rfl (hs.cell (k := 1) rfl c1') ?_
    refine s_len rfl rfl (LN23 _ _ _ _) ?_
    refine s_gtr rfl rfl rfl ?_
    refine WL_nil ?_
    refine n_then ?_
    refine W_cond rfl (fun hc39 => ?_) (fun hc39 => ?_)
    · skip
      try simp only [decide_eq_true_eq, decide_eq_false_iff_not, beq_iff_eq, beq_eq_false_iff_ne, bne_iff_ne, bne_eq_false_iff_eq, ne_eq, gt_iff_lt] at hc39
      rw [if_pos (by omega)] at hef
      subst hef
      refine W_region ?_
      refine s_assign rfl rfl ?_
      refine WL_nil ?_
      refine n_then ?_
      refine W_seq ?_
      refine W_draw [(0, true, []), (1, true, []), (2, true, []), (3, true, []), (4, true, []), (5, true, []), (6, true, []), (7, true, []), (8, true, []), (9, true, []), (10, true, []), (11, true, []), (12, false, []), (13, true, []), (14, true, []), (15, true, []), (16, true, []), (17, true, []), (18, true, []), (19, true, []), (20, true, []), (21, true, []), (22, false, []), (23, true, []), (24, true, []), (25, true, [])] [[], [], [0, 1], [0, 1, 2], [0, 1, 2, 3], [0, 1, 2, 3, 4], [0, 1, 2, 3, 4, 5], [0, 1, 2, 3, 4, 5, 6], [0, 1, 2, 3, 4, 5, 6], [0, 1, 2, 3, 4, 5, 6], [0, 1, 2, 3, 4, 5, 6, 8, 9], [0, 1, 2, 3, 4, 5, 6, 8, 9, 10], [0, 1, 2, 3, 4, 5, 6, 7, 8, 9, 10, 11], [0, 1, 2, 3, 4, 5, 6, 7, 8, 9, 10, 11, 12], [0, 1, 2, 3, 4, 5, 6, 7, 8, 9, 10, 11, 12, 13], [0, 1, 2, 3, 4, 5, 6, 7, 8, 9, 10, 11, 12, 13, 14], [0, 1, 2, 3, 4, 5, 6, 7, 8, 9, 10, 11, 12, 13, 14, 15], [0, 1, 2, 3, 4, 5, 6, 7, 8, 9, 10, 11, 12, 13, 14, 15, 16], [0, 1, 2, 3, 4, 5, 6, 7, 8, 9, 10, 11, 12, 13, 14, 15, 16, 17], [0, 1, 2, 3, 4, 5, 6, 7, 8, 9, 10, 11, 12, 13, 14, 15, 16, 17, 18], [0, 1, 2, 3, 4, 5, 6, 7, 8, 9, 10, 11, 12, 13, 14, 15, 16, 17, 18, 19], [0, 1, 2, 3, 4, 5, 6, 7, 8, 9, 10, 11, 12, 13, 14, 15, 16, 17, 18, 19], [0, 1, 2, 3, 4, 5, 6, 7, 8, 9, 10, 11, 12, 13, 14, 15, 16, 17, 18, 19, 20, 21], [0, 1, 2, 3, 4, 5, 6, 7, 8, 9, 10, 11, 12, 13, 14, 15, 16, 17, 18, 19, 20, 21, 22], [0, 1, 2, 3, 4, 5, 6, 7, 8, 9, 10, 11, 12, 13, 14, 15, 16, 17, 18, 19, 20, 21, 22, 23], [0, 1, 2, 3, 4, 5, 6, 7, 8, 9, 10, 11, 12, 13, 14, 15, 16, 17, 18, 19, 20, 21, 22, 23, 24]] MX (by kernel_rfl) ?_
      intro w1 hw1 hw2 hw3 hw4; replace hs := hs.redrawn hw1 hw2 hw3 hw4; clear hw1 hw2 hw3 hw4
      obtain ⟨w, rfl⟩ : ∃ w : World, w = w1 := ⟨_, rfl⟩
      refine D_q rfl rfl ?_
      refine s_move rfl rfl ?_
      refine D_qn ?_
      refine D_q rfl rfl ?_
      refine s_move rfl rfl ?_
      refine D_qn ?_
      refine D_q rfl rfl ?_
      refine s_neq rfl rfl rfl ?_
      refine D_qn ?_
      refine D_q rfl rfl ?_
      refine s_move rfl rfl ?_
      refine WL_know (s := 43) (c := false) rfl ((by simp)) ?_
      refine D_qn ?_
      refine D_q rfl rfl ?_
      refine WL_take rfl ?_
      refine s_move rfl rfl ?_
      refine D_qn ?_
      refine D_q rfl rfl ?_
      refine WL_take rfl ?_
      refine s_eql rfl rfl rfl ?_
      refine D_qn ?_
      refine D_q rfl rfl ?_
      refine WL_take rfl ?_
      refine s_move rfl rfl ?_
      refine WL_case (s := 46) rfl (fun hg46 => ?_) (fun hg46 => ?_)
      · skip
        try simp only [decide_eq_true_eq, decide_eq_false_iff_not, beq_iff_eq, beq_eq_false_iff_ne, bne_iff_ne, bne_eq_false_iff_eq, ne_eq, gt_iff_lt] at hg46
        obtain ⟨hdn', hdm', hll⟩ : d.name = x.name ∧ d.nums = x.nums ∧ l' = ls := by
          rcases hcase with h | h
          · exact h.2
          · exact absurd hg46 h.1
        rw [hll] at hOd
        refine D_qn ?_
        refine D_q rfl rfl ?_
        refine WL_take rfl ?_
        first
          | refine s_loadW Try.isAgg27 Try.sizeOf27 rfl rfl hs (kk := 0) rfl rfl ?_
          | refine s_loadW Try.isAgg27 Try.sizeOf27 rfl rfl hs (kk := 1) rfl rfl ?_
          | refine s_load_12 Try.isAgg27 Try.sizeOf27 rfl rfl (by first | exact hs.cell (k := 0) rfl rfl | exact hs.cell (k := 1) rfl rfl) (by first | exact hs.cell (k := 0) rfl rfl | exact hs.cell (k := 1) rfl rfl) (by first | exact hs.cell (k := 0) rfl rfl | exact hs.cell (k := 1) rfl rfl) (by first | exact hs.cell (k := 0) rfl rfl | exact hs.cell (k := 1) rfl rfl) (by first | exact hs.cell (k := 0) rfl rfl | exact hs.cell (k := 1) rfl rfl) (by first | exact hs.cell (k := 0) rfl rfl | exact hs.cell (k := 1) rfl rfl) (by first | exact hs.cell (k := 0) rfl rfl | exact hs.cell (k := 1) rfl rfl) (by first | exact hs.cell (k := 0) rfl rfl | exact hs.cell (k := 1) rfl rfl) (by first | exact hs.cell (k := 0) rfl rfl | exact hs.cell (k := 1) rfl rfl) (by first | exact hs.cell (k := 0) rfl rfl | exact hs.cell (k := 1) rfl rfl) (by first | exact hs.cell (k := 0) rfl rfl | exact hs.cell (k := 1) rfl rfl) (by first | exact hs.cell (k := 0) rfl rfl | exact hs.cell (k := 1) rfl rfl) ?_
        refine D_qn ?_
        refine D_q rfl rfl ?_
        refine WL_take rfl ?_
        refine s_move rfl rfl ?_
        refine D_qn ?_
        refine D_q rfl rfl ?_
        refine WL_take rfl ?_
        refine s_move rfl rfl ?_
        refine D_qn ?_
        refine D_q rfl rfl ?_
        refine WL_take rfl ?_
        (refine s_indexAddr El35 rfl rfl rfl ?hx ?_; case hx => (constructor <;> first | omega | (simp; omega)))
        refine D_qn ?_
        refine D_q rfl rfl ?_
        refine WL_take rfl ?_
        refine s_load_12 Try.isAgg27 Try.sizeOf27 rfl rfl (hs.cell (k := 1) rfl c0) (hs.cell (k := 1) rfl c1) (hs.cell (k := 1) rfl c2) (hs.cell (k := 1) rfl c3) (hs.cell (k := 1) rfl c4) (hs.cell (k := 1) rfl c5) (hs.cell (k := 1) rfl c6) (hs.cell (k := 1) rfl c7) (hs.cell (k := 1) rfl c8) (hs.cell (k := 1) rfl c9) (hs.cell (k := 1) rfl c10) (hs.cell (k := 1) rfl c11) ?_
        refine D_qn ?_
        refine D_e rfl ?_
        refine WL_take rfl ?_
        refine s_call Try.call29 rfl rfl (equal_ok d x ls w (OwnS_slIn hOd fun y hy => hs.own y (by simp [hy])) (hSl w fun y hy => hs.own y (by rw [List.mem_append] at hy; rcases hy with hy | hy <;> simp [hy])) hdn' hdm' (by omega)) ?_
        rintro r w ⟨hst, rfl⟩
        replace hs := hs.fwd1 hst
        clear hst
        refine D_en ?re ?_
        case re =>
          exact Reks_nil
        refine D_q rfl rfl ?_
        refine WL_take rfl ?_
        refine s_not rfl rfl ?_
        refine D_qn ?_
        refine D_q rfl rfl ?_
        refine WL_take rfl ?_
        refine s_pick_t rfl rfl rfl ?_
        refine D_qn ?_
        refine D_q rfl rfl ?_
        refine s_pick_f rfl rfl rfl ?_
        refine D_qn ?_
        refine D_q rfl rfl ?_
        refine s_move rfl rfl ?_
        refine WL_know (s := 56) (c := false) rfl ((by simp)) ?_
        refine D_qn ?_
        refine D_q rfl rfl ?_
        refine WL_take rfl ?_
        refine s_move rfl rfl ?_
        refine D_qn ?_
        refine D_q rfl rfl ?_
        refine WL_take rfl ?_
        refine s_neq rfl rfl rfl ?_
        refine D_qn ?_
        refine D_q rfl rfl ?_
        refine WL_take rfl ?_
        refine s_move rfl rfl ?_
        refine WL_case (s := 59) rfl (fun hg59 => ?_) (fun hg59 => ?_)
        · skip
          try simp only [decide_eq_true_eq, decide_eq_false_iff_not, beq_iff_eq, beq_eq_false_iff_ne, bne_iff_ne, bne_eq_false_iff_eq, ne_eq, gt_iff_lt] at hg59
          have hdz : d = dZero := by
            rcases hcase with h | h
            · exact absurd h.1 hg59
            · exact h.2.1
          rw [hdz] at hs
          refine D_qn ?_
          refine D_q rfl rfl ?_
          refine WL_take rfl ?_
          first
            | refine s_loadW Try.isAgg27 Try.sizeOf27 rfl rfl hs (kk := 0) rfl rfl ?_
            | refine s_loadW Try.isAgg27 Try.sizeOf27 rfl rfl hs (kk := 1) rfl rfl ?_
            | refine s_load_12 Try.isAgg27 Try.sizeOf27 rfl rfl (by first | exact hs.cell (k := 0) rfl rfl | exact hs.cell (k := 1) rfl rfl) (by first | exact hs.cell (k := 0) rfl rfl | exact hs.cell (k := 1) rfl rfl) (by first | exact hs.cell (k := 0) rfl rfl | exact hs.cell (k := 1) rfl rfl) (by first | exact hs.cell (k := 0) rfl rfl | exact hs.cell (k := 1) rfl rfl) (by first | exact hs.cell (k := 0) rfl rfl | exact hs.cell (k := 1) rfl rfl) (by first | exact hs.cell (k := 0) rfl rfl | exact hs.cell (k := 1) rfl rfl) (by first | exact hs.cell (k := 0) rfl rfl | exact hs.cell (k := 1) rfl rfl) (by first | exact hs.cell (k := 0) rfl rfl | exact hs.cell (k := 1) rfl rfl) (by first | exact hs.cell (k := 0) rfl rfl | exact hs.cell (k := 1) rfl rfl) (by first | exact hs.cell (k := 0) rfl rfl | exact hs.cell (k := 1) rfl rfl) (by first | exact hs.cell (k := 0) rfl rfl | exact hs.cell (k := 1) rfl rfl) (by first | exact hs.cell (k := 0) rfl rfl | exact hs.cell (k := 1) rfl rfl) ?_
          refine D_qn ?_
          refine D_q rfl rfl ?_
          refine WL_take rfl ?_
          refine s_build rfl rfl (BD27_ ) ?_
          refine D_qn ?_
          refine D_e rfl ?_
          refine WL_take rfl ?_
          refine s_call Try.call29 rfl rfl (equal_ok dZero dZero [] w (slLb w) (slLb w) rfl rfl (by simp)) ?_
          rintro r w ⟨hst, rfl⟩
          replace hs := hs.fwd1 hst
          clear hst
          refine D_en ?re ?_
          case re =>
            exact Reks_nil
          refine D_q rfl rfl ?_
          refine WL_take rfl ?_
          refine s_not rfl rfl ?_
          refine D_qn ?_
          refine D_q rfl rfl ?_
          refine WL_take rfl ?_
          refine s_pick_t rfl rfl rfl ?_
          refine D_qn ?_
          refine D_q rfl rfl ?_
          refine s_pick_f rfl rfl rfl ?_
          refine D_qn ?_
          refine D_nil ?_
          refine n_then ?_
          refine W_cond_kf rfl ((by simp)) ?_
          refine W_skip ?_
          refine n_blk ?_
          refine n_then ?_
          refine W_region ?_
          refine s_move rfl rfl ?_
          first | (refine s_add' rfl rfl rfl ?hx ?_; case hx => (constructor <;> first | omega | (simp only; omega))) | refine s_add rfl rfl rfl ?_
          refine s_assign rfl rfl ?_
          refine WL_nil ?_
          refine n_loop ?_
          replace hs : St [] w0 w ((b14, Blk 27 CS) :: (Lr ++ Lf)) := St.left (L := _ :: (Lr ++ Lf)) (M := Le ++ Ld) (by simp only [List.cons_append, List.append_assoc]; exact hs.tail)
          exact ⟨i + 1, ⟨rfl, rfl, trivial⟩, ⟨hs, by omega⟩, by omega⟩
        · skip
          try simp only [decide_eq_true_eq, decide_eq_false_iff_not, beq_iff_eq, beq_eq_false_iff_ne, bne_iff_ne, bne_eq_false_iff_eq, ne_eq, gt_iff_lt] at hg59
          refine D_qn ?_
          refine D_q rfl rfl ?_
          refine WL_skip rfl rfl rfl ?_
          refine D_qn ?_
          refine D_q rfl rfl ?_
          refine WL_skip rfl rfl rfl ?_
          refine D_qn ?_
          refine D_e rfl ?_
          refine WL_skip rfl rfl rfl ?_
          refine D_en ?re ?_
          case re =>
            exact Reks_nil
          refine D_q rfl rfl ?_
          refine WL_skip rfl rfl rfl ?_
          refine D_qn ?_
          refine D_q rfl rfl ?_
          refine WL_take rfl ?_
          refine s_pick_f rfl rfl rfl ?_
          refine D_qn ?_
          refine D_q rfl rfl ?_
          refine s_pick_f rfl rfl rfl ?_
          refine D_qn ?_
          refine D_nil ?_
          refine n_then ?_
          refine W_cond_f rfl ?_
          refine W_skip ?_
          refine n_blk ?_
          refine n_then ?_
          refine W_region ?_
          refine s_move rfl rfl ?_
          first | (refine s_add' rfl rfl rfl ?hx ?_; case hx => (constructor <;> first | omega | (simp only; omega))) | refine s_add rfl rfl rfl ?_
          refine s_assign rfl rfl ?_
          refine WL_nil ?_
          refine n_loop ?_
          replace hs : St [] w0 w ((b14, Blk 27 CS) :: (Lr ++ Lf)) := St.left (L := _ :: (Lr ++ Lf)) (M := Le ++ Ld) (by simp only [List.cons_append, List.append_assoc]; exact hs.tail)
          exact ⟨i + 1, ⟨rfl, rfl, trivial⟩, ⟨hs, by omega⟩, by omega⟩
      · skip
        try simp only [decide_eq_true_eq, decide_eq_false_iff_not, beq_iff_eq, beq_eq_false_iff_ne, bne_iff_ne, bne_eq_false_iff_eq, ne_eq, gt_iff_lt] at hg46
        refine D_qn ?_
        refine D_q rfl rfl ?_
        refine WL_skip rfl rfl rfl ?_
        refine D_qn ?_
        refine D_q rfl rfl ?_
        refine WL_skip rfl rfl rfl ?_
        refine D_qn ?_
        refine D_q rfl rfl ?_
        refine WL_skip rfl rfl rfl ?_
        refine D_qn ?_
        refine D_q rfl rfl ?_
        refine WL_skip rfl rfl rfl ?_
        refine D_qn ?_
        refine D_q rfl rfl ?_
        refine WL_skip rfl rfl rfl ?_
        refine D_qn ?_
        refine D_e rfl ?_
        refine WL_skip rfl rfl rfl ?_
        refine D_en ?re ?_
        case re =>
          exact Reks_nil
        refine D_q rfl rfl ?_
        refine WL_skip rfl rfl rfl ?_
        refine D_qn ?_
        refine D_q rfl rfl ?_
        refine WL_take rfl ?_
        refine s_pick_f rfl rfl rfl ?_
        refine D_qn ?_
        refine D_q rfl rfl ?_
        refine s_pick_f rfl rfl rfl ?_
        refine D_qn ?_
        refine D_q rfl rfl ?_
        refine s_move rfl rfl ?_
        refine D_qn ?_
        refine D_q rfl rfl ?_
        refine WL_take rfl ?_
        refine s_move rfl rfl ?_
        refine D_qn ?_
        refine D_q rfl rfl ?_
        refine WL_take rfl ?_
        refine s_neq rfl rfl rfl ?_
        refine D_qn ?_
        refine D_q rfl rfl ?_
        refine WL_take rfl ?_
        refine s_move rfl rfl ?_
        refine WL_case (s := 59) rfl (fun hg59 => ?_) (fun hg59 => ?_)
        · skip
          try simp only [decide_eq_true_eq, decide_eq_false_iff_not, beq_iff_eq, beq_eq_false_iff_ne, bne_iff_ne, bne_eq_false_iff_eq, ne_eq, gt_iff_lt] at hg59
          have hdz : d = dZero := by
            rcases hcase with h | h
            · exact absurd h.1 hg59
            · exact h.2.1
          rw [hdz] at hs
          refine D_qn ?_
          refine D_q rfl rfl ?_
          refine WL_take rfl ?_
          first
            | refine s_loadW Try.isAgg27 Try.sizeOf27 rfl rfl hs (kk := 0) rfl rfl ?_
            | refine s_loadW Try.isAgg27 Try.sizeOf27 rfl rfl hs (kk := 1) rfl rfl ?_
            | refine s_load_12 Try.isAgg27 Try.sizeOf27 rfl rfl (by first | exact hs.cell (k := 0) rfl rfl | exact hs.cell (k := 1) rfl rfl) (by first | exact hs.cell (k := 0) rfl rfl | exact hs.cell (k := 1) rfl rfl) (by first | exact hs.cell (k := 0) rfl rfl | exact hs.cell (k := 1) rfl rfl) (by first | exact hs.cell (k := 0) rfl rfl | exact hs.cell (k := 1) rfl rfl) (by first | exact hs.cell (k := 0) rfl rfl | exact hs.cell (k := 1) rfl rfl) (by first | exact hs.cell (k := 0) rfl rfl | exact hs.cell (k := 1) rfl rfl) (by first | exact hs.cell (k := 0) rfl rfl | exact hs.cell (k := 1) rfl rfl) (by first | exact hs.cell (k := 0) rfl rfl | exact hs.cell (k := 1) rfl rfl) (by first | exact hs.cell (k := 0) rfl rfl | exact hs.cell (k := 1) rfl rfl) (by first | exact hs.cell (k := 0) rfl rfl | exact hs.cell (k := 1) rfl rfl) (by first | exact hs.cell (k := 0) rfl rfl | exact hs.cell (k := 1) rfl rfl) (by first | exact hs.cell (k := 0) rfl rfl | exact hs.cell (k := 1) rfl rfl) ?_
          refine D_qn ?_
          refine D_q rfl rfl ?_
          refine WL_take rfl ?_
          refine s_build rfl rfl (BD27_ ) ?_
          refine D_qn ?_
          refine D_e rfl ?_
          refine WL_take rfl ?_
          refine s_call Try.call29 rfl rfl (equal_ok dZero dZero [] w (slLb w) (slLb w) rfl rfl (by simp)) ?_
          rintro r w ⟨hst, rfl⟩
          replace hs := hs.fwd1 hst
          clear hst
          refine D_en ?re ?_
          case re =>
            exact Reks_nil
          refine D_q rfl rfl ?_
          refine WL_take rfl ?_
          refine s_not rfl rfl ?_
          refine D_qn ?_
          refine D_q rfl rfl ?_
          refine WL_take rfl ?_
          refine s_pick_t rfl rfl rfl ?_
          refine D_qn ?_
          refine D_q rfl rfl ?_
          refine s_pick_f rfl rfl rfl ?_
          refine D_qn ?_
          refine D_nil ?_
          refine n_then ?_
          refine W_cond_kf rfl ((by simp)) ?_
          refine W_skip ?_
          refine n_blk ?_
          refine n_then ?_
          refine W_region ?_
          refine s_move rfl rfl ?_
          first | (refine s_add' rfl rfl rfl ?hx ?_; case hx => (constructor <;> first | omega | (simp only; omega))) | refine s_add rfl rfl rfl ?_
          refine s_assign rfl rfl ?_
          refine WL_nil ?_
          refine n_loop ?_
          replace hs : St [] w0 w ((b14, Blk 27 CS) :: (Lr ++ Lf)) := St.left (L := _ :: (Lr ++ Lf)) (M := Le ++ Ld) (by simp only [List.cons_append, List.append_assoc]; exact hs.tail)
          exact ⟨i + 1, ⟨rfl, rfl, trivial⟩, ⟨hs, by omega⟩, by omega⟩
        · skip
          try simp only [decide_eq_true_eq, decide_eq_false_iff_not, beq_iff_eq, beq_eq_false_iff_ne, bne_iff_ne, bne_eq_false_iff_eq, ne_eq, gt_iff_lt] at hg59
          refine D_qn ?_
          refine D_q rfl rfl ?_
          refine WL_skip rfl rfl rfl ?_
          refine D_qn ?_
          refine D_q rfl rfl ?_
          refine WL_skip rfl rfl rfl ?_
          refine D_qn ?_
          refine D_e rfl ?_
          refine WL_skip rfl rfl rfl ?_
          refine D_en ?re ?_
          case re =>
            exact Reks_nil
          refine D_q rfl rfl ?_
          refine WL_skip rfl rfl rfl ?_
          refine D_qn ?_
          refine D_q rfl rfl ?_
          refine WL_take rfl ?_
          refine s_pick_f rfl rfl rfl ?_
          refine D_qn ?_
          refine D_q rfl rfl ?_
          refine s_pick_f rfl rfl rfl ?_
          refine D_qn ?_
          refine D_nil ?_
          refine n_then ?_
          refine W_cond_f rfl ?_
          refine W_skip ?_
          refine n_blk ?_
          refine n_then ?_
          refine W_region ?_
          refine s_move rfl rfl ?_
          first | (refine s_add' rfl rfl rfl ?hx ?_; case hx => (constructor <;> first | omega | (simp only; omega))) | refine s_add rfl rfl rfl ?_
          refine s_assign rfl rfl ?_
          refine WL_nil ?_
          refine n_loop ?_
          replace hs : St [] w0 w ((b14, Blk 27 CS) :: (Lr ++ Lf)) := St.left (L := _ :: (Lr ++ Lf)) (M := Le ++ Ld) (by simp only [List.cons_append, List.append_assoc]; exact hs.tail)
          exact ⟨i + 1, ⟨rfl, rfl, trivial⟩, ⟨hs, by omega⟩, by omega⟩
    · skip
      try simp only [decide_eq_true_eq, decide_eq_false_iff_not, beq_iff_eq, beq_eq_false_iff_ne, bne_iff_ne, bne_eq_false_iff_eq, ne_eq, gt_iff_lt] at hc39
      rw [if_neg (by omega)] at hef
      subst hef
      refine W_skip ?_
      refine n_then ?_
      refine W_seq ?_
      refine W_draw [(0, true, []), (1, true, []), (2, true, []), (3, true, []), (4, true, []), (5, true, []), (6, true, []), (7, true, []), (8, true, []), (9, true, []), (10, true, []), (11, true, []), (12, false, []), (13, true, []), (14, true, []), (15, true, []), (16, true, []), (17, true, []), (18, true, []), (19, true, []), (20, true, []), (21, true, []), (22, false, []), (23, true, []), (24, true, []), (25, true, [])] [[], [], [0, 1], [0, 1, 2], [0, 1, 2, 3], [0, 1, 2, 3, 4], [0, 1, 2, 3, 4, 5], [0, 1, 2, 3, 4, 5, 6], [0, 1, 2, 3, 4, 5, 6], [0, 1, 2, 3, 4, 5, 6], [0, 1, 2, 3, 4, 5, 6, 8, 9], [0, 1, 2, 3, 4, 5, 6, 8, 9, 10], [0, 1, 2, 3, 4, 5, 6, 7, 8, 9, 10, 11], [0, 1, 2, 3, 4, 5, 6, 7, 8, 9, 10, 11, 12], [0, 1, 2, 3, 4, 5, 6, 7, 8, 9, 10, 11, 12, 13], [0, 1, 2, 3, 4, 5, 6, 7, 8, 9, 10, 11, 12, 13, 14], [0, 1, 2, 3, 4, 5, 6, 7, 8, 9, 10, 11, 12, 13, 14, 15], [0, 1, 2, 3, 4, 5, 6, 7, 8, 9, 10, 11, 12, 13, 14, 15, 16], [0, 1, 2, 3, 4, 5, 6, 7, 8, 9, 10, 11, 12, 13, 14, 15, 16, 17], [0, 1, 2, 3, 4, 5, 6, 7, 8, 9, 10, 11, 12, 13, 14, 15, 16, 17, 18], [0, 1, 2, 3, 4, 5, 6, 7, 8, 9, 10, 11, 12, 13, 14, 15, 16, 17, 18, 19], [0, 1, 2, 3, 4, 5, 6, 7, 8, 9, 10, 11, 12, 13, 14, 15, 16, 17, 18, 19], [0, 1, 2, 3, 4, 5, 6, 7, 8, 9, 10, 11, 12, 13, 14, 15, 16, 17, 18, 19, 20, 21], [0, 1, 2, 3, 4, 5, 6, 7, 8, 9, 10, 11, 12, 13, 14, 15, 16, 17, 18, 19, 20, 21, 22], [0, 1, 2, 3, 4, 5, 6, 7, 8, 9, 10, 11, 12, 13, 14, 15, 16, 17, 18, 19, 20, 21, 22, 23], [0, 1, 2, 3, 4, 5, 6, 7, 8, 9, 10, 11, 12, 13, 14, 15, 16, 17, 18, 19, 20, 21, 22, 23, 24]] MX (by kernel_rfl) ?_
      intro w1 hw1 hw2 hw3 hw4; replace hs := hs.redrawn hw1 hw2 hw3 hw4; clear hw1 hw2 hw3 hw4
      obtain ⟨w, rfl⟩ : ∃ w : World, w = w1 := ⟨_, rfl⟩
      refine D_q rfl rfl ?_
      refine s_move rfl rfl ?_
      refine D_qn ?_
      refine D_q rfl rfl ?_
      refine s_move rfl rfl ?_
      refine D_qn ?_
      refine D_q rfl rfl ?_
      refine s_neq rfl rfl rfl ?_
      refine D_qn ?_
      refine D_q rfl rfl ?_
      refine s_move rfl rfl ?_
      refine WL_know (s := 43) (c := false) rfl ((by simp)) ?_
      refine D_qn ?_
      refine D_q rfl rfl ?_
      refine WL_take rfl ?_
      refine s_move rfl rfl ?_
      refine D_qn ?_
      refine D_q rfl rfl ?_
      refine WL_take rfl ?_
      refine s_eql rfl rfl rfl ?_
      refine D_qn ?_
      refine D_q rfl rfl ?_
      refine WL_take rfl ?_
      refine s_move rfl rfl ?_
      refine WL_case (s := 46) rfl (fun hg46 => ?_) (fun hg46 => ?_)
      · skip
        try simp only [decide_eq_true_eq, decide_eq_false_iff_not, beq_iff_eq, beq_eq_false_iff_ne, bne_iff_ne, bne_eq_false_iff_eq, ne_eq, gt_iff_lt] at hg46
        obtain ⟨hdn', hdm', hll⟩ : d.name = x.name ∧ d.nums = x.nums ∧ l' = ls := by
          rcases hcase with h | h
          · exact h.2
          · exact absurd hg46 h.1
        rw [hll] at hOd
        refine D_qn ?_
        refine D_q rfl rfl ?_
        refine WL_take rfl ?_
        first
          | refine s_loadW Try.isAgg27 Try.sizeOf27 rfl rfl hs (kk := 0) rfl rfl ?_
          | refine s_loadW Try.isAgg27 Try.sizeOf27 rfl rfl hs (kk := 1) rfl rfl ?_
          | refine s_load_12 Try.isAgg27 Try.sizeOf27 rfl rfl (by first | exact hs.cell (k := 0) rfl rfl | exact hs.cell (k := 1) rfl rfl) (by first | exact hs.cell (k := 0) rfl rfl | exact hs.cell (k := 1) rfl rfl) (by first | exact hs.cell (k := 0) rfl rfl | exact hs.cell (k := 1) rfl rfl) (by first | exact hs.cell (k := 0) rfl rfl | exact hs.cell (k := 1) rfl rfl) (by first | exact hs.cell (k := 0) rfl rfl | exact hs.cell (k := 1) rfl rfl) (by first | exact hs.cell (k := 0) rfl rfl | exact hs.cell (k := 1) rfl rfl) (by first | exact hs.cell (k := 0) rfl rfl | exact hs.cell (k := 1) rfl rfl) (by first | exact hs.cell (k := 0) rfl rfl | exact hs.cell (k := 1) rfl rfl) (by first | exact hs.cell (k := 0) rfl rfl | exact hs.cell (k := 1) rfl rfl) (by first | exact hs.cell (k := 0) rfl rfl | exact hs.cell (k := 1) rfl rfl) (by first | exact hs.cell (k := 0) rfl rfl | exact hs.cell (k := 1) rfl rfl) (by first | exact hs.cell (k := 0) rfl rfl | exact hs.cell (k := 1) rfl rfl) ?_
        refine D_qn ?_
        refine D_q rfl rfl ?_
        refine WL_take rfl ?_
        refine s_move rfl rfl ?_
        refine D_qn ?_
        refine D_q rfl rfl ?_
        refine WL_take rfl ?_
        refine s_move rfl rfl ?_
        refine D_qn ?_
        refine D_q rfl rfl ?_
        refine WL_take rfl ?_
        (refine s_indexAddr El35 rfl rfl rfl ?hx ?_; case hx => (constructor <;> first | omega | (simp; omega)))
        refine D_qn ?_
        refine D_q rfl rfl ?_
        refine WL_take rfl ?_
        refine s_load_12 Try.isAgg27 Try.sizeOf27 rfl rfl (hs.cell (k := 1) rfl c0) (hs.cell (k := 1) rfl c1) (hs.cell (k := 1) rfl c2) (hs.cell (k := 1) rfl c3) (hs.cell (k := 1) rfl c4) (hs.cell (k := 1) rfl c5) (hs.cell (k := 1) rfl c6) (hs.cell (k := 1) rfl c7) (hs.cell (k := 1) rfl c8) (hs.cell (k := 1) rfl c9) (hs.cell (k := 1) rfl c10) (hs.cell (k := 1) rfl c11) ?_
        refine D_qn ?_
        refine D_e rfl ?_
        refine WL_take rfl ?_
        refine s_call Try.call29 rfl rfl (equal_ok d x ls w (OwnS_slIn hOd fun y hy => hs.own y (by simp [hy])) (hSl w fun y hy => hs.own y (by rw [List.mem_append] at hy; rcases hy with hy | hy <;> simp [hy])) hdn' hdm' (by omega)) ?_
        rintro r w ⟨hst, rfl⟩
        replace hs := hs.fwd1 hst
        clear hst
        refine D_en ?re ?_
        case re =>
          exact Reks_nil
        refine D_q rfl rfl ?_
        refine WL_take rfl ?_
        refine s_not rfl rfl ?_
        refine D_qn ?_
        refine D_q rfl rfl ?_
        refine WL_take rfl ?_
        refine s_pick_t rfl rfl rfl ?_
        refine D_qn ?_
        refine D_q rfl rfl ?_
        refine s_pick_f rfl rfl rfl ?_
        refine D_qn ?_
        refine D_q rfl rfl ?_
        refine s_move rfl rfl ?_
        refine WL_know (s := 56) (c := false) rfl ((by simp)) ?_
        refine D_qn ?_
        refine D_q rfl rfl ?_
        refine WL_take rfl ?_
        refine s_move rfl rfl ?_
        refine D_qn ?_
        refine D_q rfl rfl ?_
        refine WL_take rfl ?_
        refine s_neq rfl rfl rfl ?_
        refine D_qn ?_
        refine D_q rfl rfl ?_
        refine WL_take rfl ?_
        refine s_move rfl rfl ?_
        refine WL_case (s := 59) rfl (fun hg59 => ?_) (fun hg59 => ?_)
        · skip
          try simp only [decide_eq_true_eq, decide_eq_false_iff_not, beq_iff_eq, beq_eq_false_iff_ne, bne_iff_ne, bne_eq_false_iff_eq, ne_eq, gt_iff_lt] at hg59
          have hdz : d = dZero := by
            rcases hcase with h | h
            · exact absurd h.1 hg59
            · exact h.2.1
          rw [hdz] at hs
          refine D_qn ?_
          refine D_q rfl rfl ?_
          refine WL_take rfl ?_
          first
            | refine s_loadW Try.isAgg27 Try.sizeOf27 rfl rfl hs (kk := 0) rfl rfl ?_
            | refine s_loadW Try.isAgg27 Try.sizeOf27 rfl rfl hs (kk := 1) rfl rfl ?_
            | refine s_load_12 Try.isAgg27 Try.sizeOf27 rfl rfl (by first | exact hs.cell (k := 0) rfl rfl | exact hs.cell (k := 1) rfl rfl) (by first | exact hs.cell (k := 0) rfl rfl | exact hs.cell (k := 1) rfl rfl) (by first | exact hs.cell (k := 0) rfl rfl | exact hs.cell (k := 1) rfl rfl) (by first | exact hs.cell (k := 0) rfl rfl | exact hs.cell (k := 1) rfl rfl) (by first | exact hs.cell (k := 0) rfl rfl | exact hs.cell (k := 1) rfl rfl) (by first | exact hs.cell (k := 0) rfl rfl | exact hs.cell (k := 1) rfl rfl) (by first | exact hs.cell (k := 0) rfl rfl | exact hs.cell (k := 1) rfl rfl) (by first | exact hs.cell (k := 0) rfl rfl | exact hs.cell (k := 1) rfl rfl) (by first | exact hs.cell (k := 0) rfl rfl | exact hs.cell (k := 1) rfl rfl) (by first | exact hs.cell (k := 0) rfl rfl | exact hs.cell (k := 1) rfl rfl) (by first | exact hs.cell (k := 0) rfl rfl | exact hs.cell (k := 1) rfl rfl) (by first | exact hs.cell (k := 0) rfl rfl | exact hs.cell (k := 1) rfl rfl) ?_
          refine D_qn ?_
          refine D_q rfl rfl ?_
          refine WL_take rfl ?_
          refine s_build rfl rfl (BD27_ ) ?_
          refine D_qn ?_
          refine D_e rfl ?_
          refine WL_take rfl ?_
          refine s_call Try.call29 rfl rfl (equal_ok dZero dZero [] w (slLb w) (slLb w) rfl rfl (by simp)) ?_
          rintro r w ⟨hst, rfl⟩
          replace hs := hs.fwd1 hst
          clear hst
          refine D_en ?re ?_
          case re =>
            exact Reks_nil
          refine D_q rfl rfl ?_
          refine WL_take rfl ?_
          refine s_not rfl rfl ?_
          refine D_qn ?_
          refine D_q rfl rfl ?_
          refine WL_take rfl ?_
          refine s_pick_t rfl rfl rfl ?_
          refine D_qn ?_
          refine D_q rfl rfl ?_
          refine s_pick_f rfl rfl rfl ?_
          refine D_qn ?_
          refine D_nil ?_
          refine n_then ?_
          refine W_cond_kf rfl ((by simp)) ?_
          refine W_skip ?_
          refine n_blk ?_
          refine n_then ?_
          refine W_region ?_
          refine s_move rfl rfl ?_
          first | (refine s_add' rfl rfl rfl ?hx ?_; case hx => (constructor <;> first | omega | (simp only; omega))) | refine s_add rfl rfl rfl ?_
          refine s_assign rfl rfl ?_
          refine WL_nil ?_
          refine n_loop ?_
          replace hs : St [] w0 w ((b14, Blk 27 CS) :: (Lr ++ Lf)) := St.left (L := _ :: (Lr ++ Lf)) (M := Le ++ Ld) (by simp only [List.cons_append, List.append_assoc]; exact hs.tail)
          exact ⟨i + 1, ⟨rfl, rfl, trivial⟩, ⟨hs, by omega⟩, by omega⟩
        · skip
          try simp only [decide_eq_true_eq, decide_eq_false_iff_not, beq_iff_eq, beq_eq_false_iff_ne, bne_iff_ne, bne_eq_false_iff_eq, ne_eq, gt_iff_lt] at hg59
          refine D_qn ?_
          refine D_q rfl rfl ?_
          refine WL_skip rfl rfl rfl ?_
          refine D_qn ?_
          refine D_q rfl rfl ?_
          refine WL_skip rfl rfl rfl ?_
          refine D_qn ?_
          refine D_e rfl ?_
          refine WL_skip rfl rfl rfl ?_
          refine D_en ?re ?_
          case re =>
            exact Reks_nil
          refine D_q rfl rfl ?_
          refine WL_skip rfl rfl rfl ?_
          refine D_qn ?_
          refine D_q rfl rfl ?_
          refine WL_take rfl ?_
          refine s_pick_f rfl rfl rfl ?_
          refine D_qn ?_
          refine D_q rfl rfl ?_
          refine s_pick_f rfl rfl rfl ?_
          refine D_qn ?_
          refine D_nil ?_
          refine n_then ?_
          refine W_cond_f rfl ?_
          refine W_skip ?_
          refine n_blk ?_
          refine n_then ?_
          refine W_region ?_
          refine s_move rfl rfl ?_
          first | (refine s_add' rfl rfl rfl ?hx ?_; case hx => (constructor <;> first | omega | (simp only; omega))) | refine s_add rfl rfl rfl ?_
          refine s_assign rfl rfl ?_
          refine WL_nil ?_
          refine n_loop ?_
          replace hs : St [] w0 w ((b14, Blk 27 CS) :: (Lr ++ Lf)) := St.left (L := _ :: (Lr ++ Lf)) (M := Le ++ Ld) (by simp only [List.cons_append, List.append_assoc]; exact hs.tail)
          exact ⟨i + 1, ⟨rfl, rfl, trivial⟩, ⟨hs, by omega⟩, by omega⟩
      · skip
        try simp only [decide_eq_true_eq, decide_eq_false_iff_not, beq_iff_eq, beq_eq_false_iff_ne, bne_iff_ne, bne_eq_false_iff_eq, ne_eq, gt_iff_lt] at hg46
        refine D_qn ?_
        refine D_q rfl rfl ?_
        refine WL_skip rfl rfl rfl ?_
        refine D_qn ?_
        refine D_q rfl rfl ?_
        refine WL_skip rfl rfl rfl ?_
        refine D_qn ?_
        refine D_q rfl rfl ?_
        refine WL_skip rfl rfl rfl ?_
        refine D_qn ?_
        refine D_q rfl rfl ?_
        refine WL_skip rfl rfl rfl ?_
        refine D_qn ?_
        refine D_q rfl rfl ?_
        refine WL_skip rfl rfl rfl ?_
        refine D_qn ?_
        refine D_e rfl ?_
        refine WL_skip rfl rfl rfl ?_
        refine D_en ?re ?_
        case re =>
          exact Reks_nil
        refine D_q rfl rfl ?_
        refine WL_skip rfl rfl rfl ?_
        refine D_qn ?_
        refine D_q rfl rfl ?_
        refine WL_take rfl ?_
        refine s_pick_f rfl rfl rfl ?_
        refine D_qn ?_
        refine D_q rfl rfl ?_
        refine s_pick_f rfl rfl rfl ?_
        refine D_qn ?_
        refine D_q rfl rfl ?_
        refine s_move rfl rfl ?_
        refine D_qn ?_
        refine D_q rfl rfl ?_
        refine WL_take rfl ?_
        refine s_move rfl rfl ?_
        refine D_qn ?_
        refine D_q rfl rfl ?_
        refine WL_take rfl ?_
        refine s_neq rfl rfl rfl ?_
        refine D_qn ?_
        refine D_q rfl rfl ?_
        refine WL_take rfl ?_
        refine s_move rfl rfl ?_
        refine WL_case (s := 59) rfl (fun hg59 => ?_) (fun hg59 => ?_)
        · skip
          try simp only [decide_eq_true_eq, decide_eq_false_iff_not, beq_iff_eq, beq_eq_false_iff_ne, bne_iff_ne, bne_eq_false_iff_eq, ne_eq, gt_iff_lt] at hg59
          have hdz : d = dZero := by
            rcases hcase with h | h
            · exact absurd h.1 hg59
            · exact h.2.1
          rw [hdz] at hs
          refine D_qn ?_
          refine D_q rfl rfl ?_
          refine WL_take rfl ?_
          first
            | refine s_loadW Try.isAgg27 Try.sizeOf27 rfl rfl hs (kk := 0) rfl rfl ?_
            | refine s_loadW Try.isAgg27 Try.sizeOf27 rfl rfl hs (kk := 1) rfl rfl ?_
            | refine s_load_12 Try.isAgg27 Try.sizeOf27 rfl rfl (by first | exact hs.cell (k := 0) rfl rfl | exact hs.cell (k := 1) rfl rfl) (by first | exact hs.cell (k := 0) rfl rfl | exact hs.cell (k := 1) rfl rfl) (by first | exact hs.cell (k := 0) rfl rfl | exact hs.cell (k := 1) rfl rfl) (by first | exact hs.cell (k := 0) rfl rfl | exact hs.cell (k := 1) rfl rfl) (by first | exact hs.cell (k := 0) rfl rfl | exact hs.cell (k := 1) rfl rfl) (by first | exact hs.cell (k := 0) rfl rfl | exact hs.cell (k := 1) rfl rfl) (by first | exact hs.cell (k := 0) rfl rfl | exact hs.cell (k := 1) rfl rfl) (by first | exact hs.cell (k := 0) rfl rfl | exact hs.cell (k := 1) rfl rfl) (by first | exact hs.cell (k := 0) rfl rfl | exact hs.cell (k := 1) rfl rfl) (by first | exact hs.cell (k := 0) rfl rfl | exact hs.cell (k := 1) rfl rfl) (by first | exact hs.cell (k := 0) rfl rfl | exact hs.cell (k := 1) rfl rfl) (by first | exact hs.cell (k := 0) rfl rfl | exact hs.cell (k := 1) rfl rfl) ?_
          refine D_qn ?_
          refine D_q rfl rfl ?_
          refine WL_take rfl ?_
          refine s_build rfl rfl (BD27_ ) ?_
          refine D_qn ?_
          refine D_e rfl ?_
          refine WL_take rfl ?_
          refine s_call Try.call29 rfl rfl (equal_ok dZero dZero [] w (slLb w) (slLb w) rfl rfl (by simp)) ?_
          rintro r w ⟨hst, rfl⟩
          replace hs := hs.fwd1 hst
          clear hst
          refine D_en ?re ?_
          case re =>
            exact Reks_nil
          refine D_q rfl rfl ?_
          refine WL_take rfl ?_
          refine s_not rfl rfl ?_
          refine D_qn ?_
          refine D_q rfl rfl ?_
          refine WL_take rfl ?_
          refine s_pick_t rfl rfl rfl ?_
          refine D_qn ?_
          refine D_q rfl rfl ?_
          refine s_pick_f rfl rfl rfl ?_
          refine D_qn ?_
          refine D_nil ?_
          refine n_then ?_
          refine W_cond_kf rfl ((by simp)) ?_
          refine W_skip ?_
          refine n_blk ?_
          refine n_then ?_
          refine W_region ?_
          refine s_move rfl rfl ?_
          first | (refine s_add' rfl rfl rfl ?hx ?_; case hx => (constructor <;> first | omega | (simp only; omega))) | refine s_add rfl rfl rfl ?_
          refine s_assign rfl rfl ?_
          refine WL_nil ?_
          refine n_loop ?_
          replace hs : St [] w0 w ((b14, Blk 27 CS) :: (Lr ++ Lf)) := St.left (L := _ :: (Lr ++ Lf)) (M := Le ++ Ld) (by simp only [List.cons_append, List.append_assoc]; exact hs.tail)
          exact ⟨i + 1, ⟨rfl, rfl, trivial⟩, ⟨hs, by omega⟩, by omega⟩
        · skip
          try simp only [decide_eq_true_eq, decide_eq_false_iff_not, beq_iff_eq, beq_eq_false_iff_ne, bne_iff_ne, bne_eq_false_iff_eq, ne_eq, gt_iff_lt] at hg59
          refine D_qn ?_
          refine D_q rfl rfl ?_
          refine WL_skip rfl rfl rfl ?_
          refine D_qn ?_
          refine D_q rfl rfl ?_
          refine WL_skip rfl rfl rfl ?_
          refine D_qn ?_
          refine D_e rfl ?_
          refine WL_skip rfl rfl rfl ?_
          refine D_en ?re ?_
          case re =>
            exact Reks_nil
          refine D_q rfl rfl ?_
          refine WL_skip rfl rfl rfl ?_
          refine D_qn ?_
          refine D_q rfl rfl ?_
          refine WL_take rfl ?_
          refine s_pick_f rfl rfl rfl ?_
          refine D_qn ?_
          refine D_q rfl rfl ?_
          refine s_pick_f rfl rfl rfl ?_
          refine D_qn ?_
          refine D_nil ?_
          refine n_then ?_
          refine W_cond_f rfl ?_
          refine W_skip ?_
          refine n_blk ?_
          refine n_then ?_
          refine W_region ?_
          refine s_move rfl rfl ?_
          first | (refine s_add' rfl rfl rfl ?hx ?_; case hx => (constructor <;> first | omega | (simp only; omega))) | refine s_add rfl rfl rfl ?_
          refine s_assign rfl rfl ?_
          refine WL_nil ?_
          refine n_loop ?_
          replace hs : St [] w0 w ((b14, Blk 27 CS) :: (Lr ++ Lf)) := St.left (L := _ :: (Lr ++ Lf)) (M := Le ++ Ld) (by simp only [List.cons_append, List.append_assoc]; exact hs.tail)
          exact ⟨i + 1, ⟨rfl, rfl, trivial⟩, ⟨hs, by omega⟩, by omega⟩
  · skip
    try simp only [decide_eq_true_eq, decide_eq_false_iff_not, beq_iff_eq, beq_eq_false_iff_ne, bne_iff_ne, bne_eq_false_iff_eq, ne_eq, gt_iff_lt] at hc16
    refine W_exit ?_
    refine x_then ?_
    refine x_then ?_
    refine exit_hit ?_
    refine n_then ?_
    refine W_seq ?_
    refine W_region ?_
    refine s_call Try.call15 rfl rfl (lives_ok w) ?_
    rintro r w ⟨hst, rfl⟩
    replace hs := hs.fwd1 hst
    clear hst
    refine s_assign rfl rfl ?_
    refine WL_nil ?_
    refine n_then ?_
    refine W_ret ?_
    exact end1 rfl rfl ⟨hs.fwd, rfl⟩
end Go.Proofs.Ytmjjdcfakkaiiaa
