/- The reference's Numbers, SameLabels, Equal; the laws DeclRound and DeclWire. -/
import Derived.Test.YtmjjdcfakkaiiaaDeN
set_option linter.unusedVariables false
set_option linter.unusedSimpArgs false
namespace Go.Proofs.Ytmjjdcfakkaiiaa
open Go.SL
theorem fNums_ok (d : De) (w0 : World) : Ret Try.prog 26 [.agg d.vals.toArray].toArray w0 fun r w' => ∃ Lr, OwnS 3 1 r d.nums.length (i64s d.nums) Lr ∧ St [] w0 w' Lr := by
  obtain ⟨name, lv, u0, u1, u2, lo, hi, dn, up, fi, la, bu⟩ := d
  refine Ret_start fun w hs => ?_
  simp only [De.vals]
  refine Ret_of Try.func26 rfl Try.ntmps26 rfl ?_
  refine W_seq ?_
  refine W_region ?_
  first | refine s_box rfl rfl hs ?_ | refine s_box1 rfl rfl rfl hs ?_
  clear hs; intro b1 w hs
  refine s_assign rfl rfl ?_
  refine WL_nil ?_
  refine n_then ?_
  refine W_seq ?_
  refine W_region ?_
  refine s_fieldAddr rfl rfl (FA27_2 _ _) ?_
  (refine s_indexAddrA Try.underlying25 Try.sizeOf3 rfl rfl rfl ?hx ?_; case hx => (constructor <;> omega))
  first
    | refine s_load Try.isAgg3 rfl rfl (hs.cell (k := 0) rfl rfl) ?_
  refine s_fieldAddr rfl rfl (FA27_2 _ _) ?_
  (refine s_indexAddrA Try.underlying25 Try.sizeOf3 rfl rfl rfl ?hx ?_; case hx => (constructor <;> omega))
  first
    | refine s_load Try.isAgg3 rfl rfl (hs.cell (k := 0) rfl rfl) ?_
  refine s_fieldAddr rfl rfl (FA27_2 _ _) ?_
  (refine s_indexAddrA Try.underlying25 Try.sizeOf3 rfl rfl rfl ?hx ?_; case hx => (constructor <;> omega))
  first
    | refine s_load Try.isAgg3 rfl rfl (hs.cell (k := 0) rfl rfl) ?_
  refine s_fieldAddr rfl rfl (FA27_3 _ _) ?_
  first
    | refine s_load Try.isAgg3 rfl rfl (hs.cell (k := 0) rfl rfl) ?_
  refine s_fieldAddr rfl rfl (FA27_4 _ _) ?_
  first
    | refine s_load Try.isAgg3 rfl rfl (hs.cell (k := 0) rfl rfl) ?_
  refine s_fieldAddr rfl rfl (FA27_5 _ _) ?_
  first
    | refine s_load Try.isAgg3 rfl rfl (hs.cell (k := 0) rfl rfl) ?_
  refine s_fieldAddr rfl rfl (FA27_6 _ _) ?_
  first
    | refine s_load Try.isAgg3 rfl rfl (hs.cell (k := 0) rfl rfl) ?_
  refine s_fieldAddr rfl rfl (FA27_7 _ _) ?_
  first
    | refine s_load Try.isAgg3 rfl rfl (hs.cell (k := 0) rfl rfl) ?_
  refine s_fieldAddr rfl rfl (FA27_8 _ _) ?_
  first
    | refine s_load Try.isAgg3 rfl rfl (hs.cell (k := 0) rfl rfl) ?_
  refine s_fieldAddr rfl rfl (FA27_9 _ _) ?_
  first
    | refine s_load Try.isAgg3 rfl rfl (hs.cell (k := 0) rfl rfl) ?_
  refine s_buildSlice rfl rfl (BS22_10 _ _ _ _ _ _ _ _ _ _) hs ?_; clear hs; intro b26 w hs
  refine s_assign rfl rfl ?_
  refine WL_nil ?_
  refine n_then ?_
  refine W_ret ?_
  exact end1 rfl rfl ⟨_, ⟨rfl, .inr ⟨_, 10, [], rfl, Nat.le_refl _, by decide, rfl, rfl⟩⟩, St.left (L := [_]) hs⟩
theorem fSameL_ok (va vb : Value) (xs ys : List Lb) (w0 : World) (ha : Sl w0 va xs.length (lbcells xs)) (hb : Sl w0 vb ys.length (lbcells ys)) (hl : xs.length ≤ 4611686018427387904) :
    Ret Try.prog 53 [va, vb].toArray w0 fun v w' => Fwd [] w0 w' ∧ ∃ b, v = .bool b ∧ (b = true ↔ xs = ys) := by
  obtain ⟨a, ca, rfl, _⟩ := ha.len_le
  obtain ⟨b, cb, rfl, _⟩ := hb.len_le
  refine Ret_start fun w hs => ?_
  refine Ret_of Try.func53 rfl Try.ntmps53 rfl ?_
  refine W_seq ?_
  refine W_region ?_
  refine s_assign rfl rfl ?_
  refine WL_nil ?_
  refine n_then ?_
  refine W_seq ?_
  refine W_seq ?_
  refine W_region ?_
  refine s_move rfl rfl ?_
  refine s_len rfl rfl (LN23 _ _ _ _) ?_
  refine s_move rfl rfl ?_
  refine s_len rfl rfl (LN23 _ _ _ _) ?_
  refine s_neq rfl rfl rfl ?_
  refine WL_nil ?_
  refine n_then ?_
  refine W_cond rfl (fun hc10 => ?_) (fun hc10 => ?_)
  · skip
    try simp only [decide_eq_true_eq, decide_eq_false_iff_not, bne_iff_ne, bne_eq_false_iff_eq, ne_eq, Bool.not_eq_true', Bool.not_eq_false'] at hc10
    refine W_seq ?_
    refine W_region ?_
    refine s_assign rfl rfl ?_
    refine WL_nil ?_
    refine n_then ?_
    refine W_ret ?_
    refine r_then ?_
    first
      | exact end1 rfl rfl ⟨hs.fwd, false, rfl, by simp, fun h => by rw [h] at hc10; exact absurd rfl hc10⟩
      | exact end1 rfl rfl ⟨hs.fwd, true, rfl, fun _ => by rw [List.take_of_length_le (by omega), List.take_of_length_le (by omega)] at htk; exact htk, fun _ => rfl⟩
      | exact end1 rfl rfl ⟨hs.fwd, false, rfl, by simp, fun h => by
          rw [h, hyi] at hxi; cases hxi; exact absurd ⟨rfl, rfl⟩ hc25⟩
  · skip
    try simp only [decide_eq_true_eq, decide_eq_false_iff_not, bne_iff_ne, bne_eq_false_iff_eq, ne_eq, Bool.not_eq_true', Bool.not_eq_false'] at hc10
    refine W_skip ?_
    refine n_then ?_
    refine W_seq ?_
    refine W_seq ?_
    refine W_region ?_
    refine s_assign rfl rfl ?_
    refine WL_nil ?_
    refine n_then ?_
    refine W_block ?_
    refine W_loop (σ := Nat) (fun k => [(0, .slice a xs.length ca), (1, .slice b ys.length cb), (5, .int .i64 (k : Int))]) (fun k w => St [] w0 w [] ∧ k ≤ xs.length ∧ xs.take k = ys.take k) (fun k => xs.length - k) 0 ⟨rfl, rfl, rfl, trivial⟩ ⟨hs, Nat.zero_le _, rfl⟩ ?_
    clear hs
    intro k w ⟨hs, hk, htk⟩
    refine W_seq ?_
    refine W_seq ?_
    refine W_region ?_
    refine s_move rfl rfl ?_
    refine s_move rfl rfl ?_
    refine s_len rfl rfl (LN23 _ _ _ _) ?_
    refine s_lss rfl rfl rfl ?_
    refine WL_nil ?_
    refine n_then ?_
    refine W_cond rfl (fun hc14 => ?_) (fun hc14 => ?_)
    · skip
      try simp only [decide_eq_true_eq, decide_eq_false_iff_not, bne_iff_ne, bne_eq_false_iff_eq, ne_eq, Bool.not_eq_true', Bool.not_eq_false'] at hc14
      have hkl : k < xs.length := by omega
      have hkb : k < ys.length := by omega
      have hxi : xs[k]? = some xs[k] := List.getElem?_eq_getElem hkl
      have hyi : ys[k]? = some ys[k] := List.getElem?_eq_getElem hkb
      generalize xs[k] = x at hxi
      generalize ys[k] = y at hyi
      obtain ⟨b1, o1, hA1, hB1, hc1, hc2⟩ := sl2 ha hxi
      obtain ⟨b2, o2, hA2, hB2, hc3, hc4⟩ := sl2 hb hyi
      refine W_skip ?_
      refine n_then ?_
      refine W_seq ?_
      refine W_block ?_
      refine W_seq ?_
      refine W_draw [(0, true, []), (1, true, []), (2, true, []), (3, true, []), (4, true, []), (5, true, []), (6, true, []), (7, true, []), (8, true, [])] [[], [], [0, 1], [0, 1, 2], [], [], [4, 5], [4, 5, 6], [0, 1, 2, 3, 4, 5, 6, 7]] MX (by kernel_rfl) ?_
      intro w1 hw1 hw2 hw3 hw4; replace hs := hs.redrawn hw1 hw2 hw3 hw4; clear hw1 hw2 hw3 hw4
      obtain ⟨w, rfl⟩ : ∃ w : World, w = w1 := ⟨_, rfl⟩
      refine D_q rfl rfl ?_
      refine s_move rfl rfl ?_
      refine D_qn ?_
      refine D_q rfl rfl ?_
      refine s_move rfl rfl ?_
      refine D_qn ?_
      refine D_q rfl rfl ?_
      (refine s_indexAddrP El23 rfl rfl rfl hA1 ?hx ?_; case hx => (constructor <;> omega))
      refine D_qn ?_
      refine D_q rfl rfl ?_
      refine s_load_2 Try.isAgg51 Try.sizeOf51 rfl rfl ((hs.oldcell (a := ⟨b1, _, none⟩) hB1 (by simp)).trans hc1) ((hs.oldcell (a := ⟨b1, _, none⟩) hB1 (by simp)).trans hc2) ?_
      refine D_qn ?_
      refine D_q rfl rfl ?_
      refine s_move rfl rfl ?_
      refine D_qn ?_
      refine D_q rfl rfl ?_
      refine s_move rfl rfl ?_
      refine D_qn ?_
      refine D_q rfl rfl ?_
      (refine s_indexAddrP El23 rfl rfl rfl hA2 ?hx ?_; case hx => (constructor <;> omega))
      refine D_qn ?_
      refine D_q rfl rfl ?_
      refine s_load_2 Try.isAgg51 Try.sizeOf51 rfl rfl ((hs.oldcell (a := ⟨b2, _, none⟩) hB2 (by simp)).trans hc3) ((hs.oldcell (a := ⟨b2, _, none⟩) hB2 (by simp)).trans hc4) ?_
      refine D_qn ?_
      refine D_q rfl rfl ?_
      refine s_neq_agg EG51 rfl rfl rfl (SE51 _ _ _ _) ?_
      refine D_qn ?_
      refine D_nil ?_
      refine n_then ?_
      refine W_cond rfl (fun hc25 => ?_) (fun hc25 => ?_)
      · skip
        try simp only [decide_eq_true_eq, decide_eq_false_iff_not, bne_iff_ne, bne_eq_false_iff_eq, ne_eq, Bool.not_eq_true', Bool.not_eq_false'] at hc25
        refine W_seq ?_
        refine W_region ?_
        refine s_assign rfl rfl ?_
        refine WL_nil ?_
        refine n_then ?_
        refine W_ret ?_
        refine r_blk ?_
        refine r_then ?_
        refine r_then ?_
        refine r_blk ?_
        refine r_then ?_
        first
          | exact end1 rfl rfl ⟨hs.fwd, false, rfl, by simp, fun h => by rw [h] at hc10; exact absurd rfl hc10⟩
          | exact end1 rfl rfl ⟨hs.fwd, true, rfl, fun _ => by rw [List.take_of_length_le (by omega), List.take_of_length_le (by omega)] at htk; exact htk, fun _ => rfl⟩
          | exact end1 rfl rfl ⟨hs.fwd, false, rfl, by simp, fun h => by
              rw [h, hyi] at hxi; cases hxi; exact absurd ⟨rfl, rfl⟩ hc25⟩
      · skip
        try simp only [decide_eq_true_eq, decide_eq_false_iff_not, bne_iff_ne, bne_eq_false_iff_eq, ne_eq, Bool.not_eq_true', Bool.not_eq_false'] at hc25
        refine W_skip ?_
        refine n_blk ?_
        refine n_then ?_
        refine W_region ?_
        refine s_move rfl rfl ?_
        first | (refine s_add' rfl rfl rfl ?hx ?_; case hx => (constructor <;> first | omega | (simp only; omega))) | refine s_add rfl rfl rfl ?_
        refine s_assign rfl rfl ?_
        refine WL_nil ?_
        refine n_loop ?_
        refine ⟨k + 1, ⟨rfl, rfl, rfl, trivial⟩, ⟨hs, by omega, ?_⟩, by omega⟩
        rw [List.take_add_one, List.take_add_one, hxi, hyi, htk, show x = y from Prod.ext hc25.1 hc25.2]
    · skip
      try simp only [decide_eq_true_eq, decide_eq_false_iff_not, bne_iff_ne, bne_eq_false_iff_eq, ne_eq, Bool.not_eq_true', Bool.not_eq_false'] at hc14
      refine W_exit ?_
      refine x_then ?_
      refine x_then ?_
      refine exit_hit ?_
      refine n_then ?_
      refine W_seq ?_
      refine W_region ?_
      refine s_assign rfl rfl ?_
      refine WL_nil ?_
      refine n_then ?_
      refine W_ret ?_
      first
        | exact end1 rfl rfl ⟨hs.fwd, false, rfl, by simp, fun h => by rw [h] at hc10; exact absurd rfl hc10⟩
        | exact end1 rfl rfl ⟨hs.fwd, true, rfl, fun _ => by rw [List.take_of_length_le (by omega), List.take_of_length_le (by omega)] at htk; exact htk, fun _ => rfl⟩
        | exact end1 rfl rfl ⟨hs.fwd, false, rfl, by simp, fun h => by
            rw [h, hyi] at hxi; cases hxi; exact absurd ⟨rfl, rfl⟩ hc25⟩
set_option maxHeartbeats 1000000 in
theorem equal_ok (d1 d2 : De) (ls : List Lb) (w0 : World) (h1 : Sl w0 d1.lv ls.length (lbcells ls)) (h2 : Sl w0 d2.lv ls.length (lbcells ls)) (hnm : d1.name = d2.name) (hns : d1.nums = d2.nums) (hl : ls.length ≤ 1000) :
    Ret Try.prog 29 [.agg d1.vals.toArray, .agg d2.vals.toArray].toArray w0 fun r w' => Fwd [] w0 w' ∧ r = .bool true := by
  refine Ret_start fun w hs => ?_
  have v10 : d1.vals[0]? = some (.string d1.name) := rfl
  have v20 : d2.vals[0]? = some (.string d1.name) := by rw [hnm]; rfl
  refine Ret_of Try.func29 rfl Try.ntmps29 rfl ?_
  refine W_seq ?_
  refine W_region ?_
  first | refine s_box rfl rfl hs ?_ | refine s_box1 rfl rfl rfl hs ?_
  clear hs; intro b2 w hs
  first | refine s_box rfl rfl hs ?_ | refine s_box1 rfl rfl rfl hs ?_
  clear hs; intro b3 w hs
  refine s_assign rfl rfl ?_
  refine WL_nil ?_
  refine n_then ?_
  refine W_seq ?_
  refine W_draw [(0, true, []), (2, true, []), (1, false, [2]), (3, false, []), (4, false, []), (5, true, [])] [[], [0], [], [0, 1, 2], [0, 1, 2, 3], [0, 1, 2, 3, 4]] MX (by kernel_rfl) ?_
  intro w1 hw1 hw2 hw3 hw4; replace hs := hs.redrawn hw1 hw2 hw3 hw4; clear hw1 hw2 hw3 hw4
  obtain ⟨w, rfl⟩ : ∃ w : World, w = w1 := ⟨_, rfl⟩
  refine D_q rfl rfl ?_
  first
    | refine s_loadW Try.isAgg27 Try.sizeOf27 rfl rfl hs (kk := 0) rfl rfl ?_
    | refine s_loadW Try.isAgg27 Try.sizeOf27 rfl rfl hs (kk := 1) rfl rfl ?_
    | refine s_load_12 Try.isAgg27 Try.sizeOf27 rfl rfl (by first | exact hs.cell (k := 0) rfl rfl | exact hs.cell (k := 1) rfl rfl) (by first | exact hs.cell (k := 0) rfl rfl | exact hs.cell (k := 1) rfl rfl) (by first | exact hs.cell (k := 0) rfl rfl | exact hs.cell (k := 1) rfl rfl) (by first | exact hs.cell (k := 0) rfl rfl | exact hs.cell (k := 1) rfl rfl) (by first | exact hs.cell (k := 0) rfl rfl | exact hs.cell (k := 1) rfl rfl) (by first | exact hs.cell (k := 0) rfl rfl | exact hs.cell (k := 1) rfl rfl) (by first | exact hs.cell (k := 0) rfl rfl | exact hs.cell (k := 1) rfl rfl) (by first | exact hs.cell (k := 0) rfl rfl | exact hs.cell (k := 1) rfl rfl) (by first | exact hs.cell (k := 0) rfl rfl | exact hs.cell (k := 1) rfl rfl) (by first | exact hs.cell (k := 0) rfl rfl | exact hs.cell (k := 1) rfl rfl) (by first | exact hs.cell (k := 0) rfl rfl | exact hs.cell (k := 1) rfl rfl) (by first | exact hs.cell (k := 0) rfl rfl | exact hs.cell (k := 1) rfl rfl) ?_
  refine D_qn ?_
  refine D_q rfl rfl ?_
  first
    | refine s_loadW Try.isAgg27 Try.sizeOf27 rfl rfl hs (kk := 0) rfl rfl ?_
    | refine s_loadW Try.isAgg27 Try.sizeOf27 rfl rfl hs (kk := 1) rfl rfl ?_
    | refine s_load_12 Try.isAgg27 Try.sizeOf27 rfl rfl (by first | exact hs.cell (k := 0) rfl rfl | exact hs.cell (k := 1) rfl rfl) (by first | exact hs.cell (k := 0) rfl rfl | exact hs.cell (k := 1) rfl rfl) (by first | exact hs.cell (k := 0) rfl rfl | exact hs.cell (k := 1) rfl rfl) (by first | exact hs.cell (k := 0) rfl rfl | exact hs.cell (k := 1) rfl rfl) (by first | exact hs.cell (k := 0) rfl rfl | exact hs.cell (k := 1) rfl rfl) (by first | exact hs.cell (k := 0) rfl rfl | exact hs.cell (k := 1) rfl rfl) (by first | exact hs.cell (k := 0) rfl rfl | exact hs.cell (k := 1) rfl rfl) (by first | exact hs.cell (k := 0) rfl rfl | exact hs.cell (k := 1) rfl rfl) (by first | exact hs.cell (k := 0) rfl rfl | exact hs.cell (k := 1) rfl rfl) (by first | exact hs.cell (k := 0) rfl rfl | exact hs.cell (k := 1) rfl rfl) (by first | exact hs.cell (k := 0) rfl rfl | exact hs.cell (k := 1) rfl rfl) (by first | exact hs.cell (k := 0) rfl rfl | exact hs.cell (k := 1) rfl rfl) ?_
  refine D_qn ?_
  refine D_e rfl ?_
  refine s_call Try.call26 rfl rfl (fNums_ok d1 w) ?_
  rintro r w ⟨L1, hO1, hst⟩
  replace hs := (St.back0 hs hst).swap
  simp only [List.cons_append, List.nil_append] at hs
  clear hst
  refine D_en ?re ?_
  case re =>
    refine Reks_cons rfl rfl rfl rfl ?_ ?_
    · skip
      first
        | refine s_loadW Try.isAgg27 Try.sizeOf27 rfl rfl hs (kk := 0) rfl rfl ?_
        | refine s_loadW Try.isAgg27 Try.sizeOf27 rfl rfl hs (kk := 1) rfl rfl ?_
        | refine s_load_12 Try.isAgg27 Try.sizeOf27 rfl rfl (by first | exact hs.cell (k := 0) rfl rfl | exact hs.cell (k := 1) rfl rfl) (by first | exact hs.cell (k := 0) rfl rfl | exact hs.cell (k := 1) rfl rfl) (by first | exact hs.cell (k := 0) rfl rfl | exact hs.cell (k := 1) rfl rfl) (by first | exact hs.cell (k := 0) rfl rfl | exact hs.cell (k := 1) rfl rfl) (by first | exact hs.cell (k := 0) rfl rfl | exact hs.cell (k := 1) rfl rfl) (by first | exact hs.cell (k := 0) rfl rfl | exact hs.cell (k := 1) rfl rfl) (by first | exact hs.cell (k := 0) rfl rfl | exact hs.cell (k := 1) rfl rfl) (by first | exact hs.cell (k := 0) rfl rfl | exact hs.cell (k := 1) rfl rfl) (by first | exact hs.cell (k := 0) rfl rfl | exact hs.cell (k := 1) rfl rfl) (by first | exact hs.cell (k := 0) rfl rfl | exact hs.cell (k := 1) rfl rfl) (by first | exact hs.cell (k := 0) rfl rfl | exact hs.cell (k := 1) rfl rfl) (by first | exact hs.cell (k := 0) rfl rfl | exact hs.cell (k := 1) rfl rfl) ?_
      exact Rek_end rfl
    exact Reks_nil
  refine D_e rfl ?_
  refine s_call Try.call26 rfl rfl (fNums_ok d2 w) ?_
  rintro r w ⟨L2, hO2, hst⟩
  replace hs := (St.back0 hs hst).swap
  simp only [List.cons_append, List.nil_append] at hs
  clear hst
  rw [← hns] at hO2
  refine D_en ?re ?_
  case re =>
    exact Reks_nil
  refine D_e rfl ?_
  refine s_call Try.call52 rfl rfl (sameInts_ok _ _ d1.nums d1.nums w (OwnS_slIn hO1 fun x hx => hs.own x (by simp [hx])) (OwnS_slIn hO2 fun x hx => hs.own x (by simp [hx])) (show 10 ≤ 4611686018427387904 by decide)) ?_
  rintro r w ⟨hst, rfl⟩
  replace hs := hs.fwd1 hst
  clear hst
  rw [show decide (d1.nums = d1.nums) = true by simp]
  refine D_en ?re ?_
  case re =>
    exact Reks_nil
  refine D_q rfl rfl ?_
  refine s_assign rfl rfl ?_
  refine D_qn ?_
  refine D_nil ?_
  refine n_then ?_
  refine W_seq ?_
  refine W_region ?_
  refine s_fieldAddr rfl rfl (FA27_1 _ _) ?_
  first
    | refine s_load Try.isAgg23 rfl rfl (hs.cell (k := 0) rfl rfl) ?_
    | refine s_load Try.isAgg23 rfl rfl (hs.cell (k := 1) rfl rfl) ?_
  refine s_fieldAddr rfl rfl (FA27_1 _ _) ?_
  first
    | refine s_load Try.isAgg23 rfl rfl (hs.cell (k := 0) rfl rfl) ?_
    | refine s_load Try.isAgg23 rfl rfl (hs.cell (k := 1) rfl rfl) ?_
  refine s_call Try.call53 rfl rfl (fSameL_ok d1.lv d2.lv ls ls w (h1.fwd0 hs.fwd) (h2.fwd0 hs.fwd) (by omega)) ?_
  rintro r w ⟨hst, b, rfl, hb⟩
  replace hs := hs.fwd1 hst
  clear hst
  obtain rfl : b = true := hb.2 rfl
  refine s_assign rfl rfl ?_
  refine WL_nil ?_
  refine n_then ?_
  refine W_seq ?_
  refine W_region ?_
  refine s_move rfl rfl ?_
  refine s_move rfl rfl ?_
  refine WL_know (s := 18) (c := true) rfl (rfl) ?_
  refine WL_take rfl ?_
  refine s_move rfl rfl ?_
  refine s_pick_t rfl rfl rfl ?_
  refine s_move rfl rfl ?_
  refine WL_know (s := 21) (c := true) rfl (rfl) ?_
  refine WL_take rfl ?_
  refine s_fieldAddr rfl rfl (FA27_0 _ _) ?_
  refine WL_take rfl ?_
  refine s_load Try.isAgg9 rfl rfl (hs.cell (k := 1) rfl v10) ?_
  refine WL_take rfl ?_
  refine s_fieldAddr rfl rfl (FA27_0 _ _) ?_
  refine WL_take rfl ?_
  refine s_load Try.isAgg9 rfl rfl (hs.cell (k := 0) rfl v20) ?_
  refine WL_take rfl ?_
  refine s_eql_S rfl rfl rfl ?_
  refine s_pick_t rfl rfl rfl ?_
  refine s_assign rfl rfl ?_
  refine WL_nil ?_
  refine n_then ?_
  refine W_ret ?_
  exact end1 rfl rfl ⟨hs.fwd, by simp⟩
theorem De.fields {d x : De} (h : d.nums = x.nums) : d.u0 = x.u0 ∧ d.u1 = x.u1 ∧ d.u2 = x.u2 ∧ d.lo = x.lo ∧ d.hi = x.hi ∧ d.dn = x.dn ∧ d.up = x.up ∧ d.fi = x.fi ∧ d.la = x.la ∧ d.bu = x.bu := by
  simp only [De.nums, List.cons.injEq, and_true] at h; exact h
theorem DeclE.congr {d x : De} {ls : List Lb} {e : Int} (hn : d.name = x.name) (h : d.nums = x.nums) (he : DeclE d ls e) : DeclE x ls e := by
  obtain ⟨h0, h1, h2, h3, h4, h5, h6, h7, h8, h9⟩ := De.fields h
  have hr : d.rangeBad ↔ x.rangeBad := by unfold De.rangeBad; rw [h3, h4, h5, h6, h9]
  have hl : d.limBad ↔ x.limBad := by unfold De.limBad; rw [h0, h1, h2, h7, h8]
  unfold DeclE at he ⊢
  rw [hn, hr, hl] at he; exact he
theorem round_law {x d : De} {ls l' : List Lb} {e f : Int} (hE : EncOk x ls) (hD : DecR (encD x ls) d l' e) (hf : DeclE x ls f) : e = (if 8 < ls.length then 2 else f) ∧ ((e = 0 ∧ d.name = x.name ∧ d.nums = x.nums ∧ l' = ls) ∨ (e ≠ 0 ∧ d = dZero ∧ l' = [])) := by
  rcases Nat.lt_or_ge 8 ls.length with h8 | h8
  · rw [if_pos h8]
    have hm := enc_many hE h8
    rcases hD with ⟨_, h2, h3, h4⟩ | ⟨h1, _⟩ | ⟨_, _, h1, _⟩
    · exact ⟨h2, .inr ⟨by omega, h3, h4⟩⟩
    · exact absurd h1 (hm _ _ _)
    · exact absurd h1 (hm _ _ _)
  · rw [if_neg (by omega)]
    have hk := enc_dec hE h8
    rcases hD with ⟨h1, _⟩ | ⟨h1, h2, h3⟩ | ⟨d2, l2, h1, h2, h3, h4, h5⟩
    · exact absurd hk (h1 _ _ _)
    · obtain ⟨e1, e2, e3⟩ := h1.uniq hk
      subst e2
      exact ⟨by rw [h2]; exact (h3.congr e1 e3).eq hf, .inl ⟨h2, e1, e3, rfl⟩⟩
    · obtain ⟨e1, e2, e3⟩ := h1.uniq hk
      subst e2
      exact ⟨(h2.congr e1 e3).eq hf, .inr ⟨h3, h4, h5⟩⟩
set_option maxHeartbeats 1000000 in
theorem fewLb2_ok (d : De) (ls : List Lb) (w0 : World) (hv : Sl w0 d.lv ls.length (lbcells ls)) : Ret Try.prog 12 [.agg d.vals.toArray].toArray w0 fun r w' => ∃ (d' : De) (Lr : Hp), r = .agg d'.vals.toArray ∧ (d'.name = d.name ∧ d'.nums = d.nums) ∧ OwnS 51 2 d'.lv (ls.take 10).length (lbcells (ls.take 10)) Lr ∧ St [] w0 w' Lr := by
  obtain ⟨name, lv, u0, u1, u2, lo, hi, dn, up, fi, la, bu⟩ := d
  simp only at hv
  obtain ⟨va, vc, rfl, hvc⟩ := hv.len_le
  refine Ret_start fun w hs => ?_
  simp only [De.vals]
  refine Ret_of Try.func12 rfl Try.ntmps12 rfl ?_
  refine W_seq ?_
  refine W_region ?_
  first | refine s_box rfl rfl hs ?_ | refine s_box1 rfl rfl rfl hs ?_
  clear hs; intro b1 w hs
  refine s_alloc rfl AL27 hs ?_; clear hs; intro b2 w hs
  refine WL_nil ?_
  refine n_then ?_
  refine W_seq ?_
  refine W_region ?_
  refine s_buildSlice rfl rfl (BS23_0 ) hs ?_; clear hs; intro b3 w hs
  refine s_fieldAddr rfl rfl (FA27_1 _ _) ?_
  first
    | refine s_load Try.isAgg23 rfl rfl (hs.cell (k := 0) rfl rfl) ?_
    | refine s_load Try.isAgg23 rfl rfl (hs.cell (k := 1) rfl rfl) ?_
    | refine s_load Try.isAgg23 rfl rfl (hs.cell (k := 2) rfl rfl) ?_
    | refine s_load Try.isAgg23 rfl rfl (hs.cell (k := 3) rfl rfl) ?_
  refine s_fieldAddr rfl rfl (FA27_1 _ _) ?_
  first
    | refine s_load Try.isAgg23 rfl rfl (hs.cell (k := 0) rfl rfl) ?_
    | refine s_load Try.isAgg23 rfl rfl (hs.cell (k := 1) rfl rfl) ?_
    | refine s_load Try.isAgg23 rfl rfl (hs.cell (k := 2) rfl rfl) ?_
    | refine s_load Try.isAgg23 rfl rfl (hs.cell (k := 3) rfl rfl) ?_
  refine s_len rfl rfl (LN23 _ _ _ _) ?_
  refine s_min rfl rfl rfl ?_
  rw [show (if (10 : Int) < (ls.length : Int) then (10 : Int) else (ls.length : Int)) = (((ls.take 10).length : Nat) : Int) by rw [List.length_take]; split <;> omega]
  have hml : (ls.take 10).length ≤ ls.length ∧ (ls.take 10).length ≤ 10 := by rw [List.length_take]; omega
  (refine s_slice_hi El23 rfl rfl rfl ?hx ?_; case hx => (constructor <;> omega))
  rw [show (((ls.take 10).length : Nat) : Int).toNat = (ls.take 10).length by omega]
  have htk := (hv.fwd0 hs.fwd).take (k := (ls.take 10).length) (size := 2) hml.1 rfl
  rw [lb_take, show ls.take (ls.take 10).length = ls.take 10 by rw [List.length_take]; exact List.take_eq_take_min.symm] at htk
  refine s_appendM (M := [_, _, _]) (X := []) El23 rfl rfl rfl (OwnS.bare _ _ _) (by simp only [List.append_nil]; exact hs) htk (flat_length lbC_length _) (fun c hc => lb_one hc) (by omega) ?_
  clear hs; intro v' w Lv' hO' hs
  simp only [List.cons_append, List.nil_append, List.append_nil, Nat.zero_add] at hs hO'
  obtain ⟨_, tc, ta, rfl, rfl⟩ := hO'.form
  refine s_fieldAddr rfl rfl (FA27_1 _ _) ?_
  first
    | refine s_storeB Try.sizeOf23 rfl rfl rfl hs (kk := 0) rfl rfl ?_
    | refine s_storeB Try.sizeOf23 rfl rfl rfl hs (kk := 1) rfl rfl ?_
    | refine s_storeB Try.sizeOf23 rfl rfl rfl hs (kk := 2) rfl rfl ?_
    | refine s_storeB Try.sizeOf23 rfl rfl rfl hs (kk := 3) rfl rfl ?_
  clear hs; intro w hs; try simp only [List.set_cons_zero, List.set_cons_succ, splice, List.take_succ_cons, List.take_zero, List.drop_succ_cons, List.drop_zero, List.nil_append, List.cons_append, List.length_cons, List.length_nil, Nat.reduceAdd, List.append_assoc] at hs
  refine WL_nil ?_
  refine n_then ?_
  refine W_seq ?_
  refine W_region ?_
  first
    | refine s_loadW Try.isAgg27 Try.sizeOf27 rfl rfl hs (kk := 0) rfl rfl ?_
    | refine s_loadW Try.isAgg27 Try.sizeOf27 rfl rfl hs (kk := 1) rfl rfl ?_
    | refine s_loadW Try.isAgg27 Try.sizeOf27 rfl rfl hs (kk := 2) rfl rfl ?_
    | refine s_loadW Try.isAgg27 Try.sizeOf27 rfl rfl hs (kk := 3) rfl rfl ?_
    | refine s_load_12 Try.isAgg27 Try.sizeOf27 rfl rfl (by first | exact hs.cell (k := 0) rfl rfl | exact hs.cell (k := 1) rfl rfl | exact hs.cell (k := 2) rfl rfl | exact hs.cell (k := 3) rfl rfl) (by first | exact hs.cell (k := 0) rfl rfl | exact hs.cell (k := 1) rfl rfl | exact hs.cell (k := 2) rfl rfl | exact hs.cell (k := 3) rfl rfl) (by first | exact hs.cell (k := 0) rfl rfl | exact hs.cell (k := 1) rfl rfl | exact hs.cell (k := 2) rfl rfl | exact hs.cell (k := 3) rfl rfl) (by first | exact hs.cell (k := 0) rfl rfl | exact hs.cell (k := 1) rfl rfl | exact hs.cell (k := 2) rfl rfl | exact hs.cell (k := 3) rfl rfl) (by first | exact hs.cell (k := 0) rfl rfl | exact hs.cell (k := 1) rfl rfl | exact hs.cell (k := 2) rfl rfl | exact hs.cell (k := 3) rfl rfl) (by first | exact hs.cell (k := 0) rfl rfl | exact hs.cell (k := 1) rfl rfl | exact hs.cell (k := 2) rfl rfl | exact hs.cell (k := 3) rfl rfl) (by first | exact hs.cell (k := 0) rfl rfl | exact hs.cell (k := 1) rfl rfl | exact hs.cell (k := 2) rfl rfl | exact hs.cell (k := 3) rfl rfl) (by first | exact hs.cell (k := 0) rfl rfl | exact hs.cell (k := 1) rfl rfl | exact hs.cell (k := 2) rfl rfl | exact hs.cell (k := 3) rfl rfl) (by first | exact hs.cell (k := 0) rfl rfl | exact hs.cell (k := 1) rfl rfl | exact hs.cell (k := 2) rfl rfl | exact hs.cell (k := 3) rfl rfl) (by first | exact hs.cell (k := 0) rfl rfl | exact hs.cell (k := 1) rfl rfl | exact hs.cell (k := 2) rfl rfl | exact hs.cell (k := 3) rfl rfl) (by first | exact hs.cell (k := 0) rfl rfl | exact hs.cell (k := 1) rfl rfl | exact hs.cell (k := 2) rfl rfl | exact hs.cell (k := 3) rfl rfl) (by first | exact hs.cell (k := 0) rfl rfl | exact hs.cell (k := 1) rfl rfl | exact hs.cell (k := 2) rfl rfl | exact hs.cell (k := 3) rfl rfl) ?_
  first
    | refine s_storeW Try.sizeOf27 rfl rfl rfl rfl hs (kk := 0) rfl rfl ?_
    | refine s_storeW Try.sizeOf27 rfl rfl rfl rfl hs (kk := 1) rfl rfl ?_
    | refine s_storeW Try.sizeOf27 rfl rfl rfl rfl hs (kk := 2) rfl rfl ?_
    | refine s_storeW Try.sizeOf27 rfl rfl rfl rfl hs (kk := 3) rfl rfl ?_
    | refine s_storeAB Try.sizeOf27 rfl rfl rfl rfl hs (kk := 0) rfl rfl ?_
    | refine s_storeAB Try.sizeOf27 rfl rfl rfl rfl hs (kk := 1) rfl rfl ?_
    | refine s_storeAB Try.sizeOf27 rfl rfl rfl rfl hs (kk := 2) rfl rfl ?_
    | refine s_storeAB Try.sizeOf27 rfl rfl rfl rfl hs (kk := 3) rfl rfl ?_
  clear hs; intro w hs; try simp only [List.set_cons_zero, List.set_cons_succ, splice, List.take_succ_cons, List.take_zero, List.drop_succ_cons, List.drop_zero, List.nil_append, List.cons_append, List.length_cons, List.length_nil, Nat.reduceAdd, List.append_assoc] at hs
  refine WL_nil ?_
  refine n_then ?_
  refine W_ret ?_
  exact end1 rfl (resOk_block Try.isAgg27 Try.sizeOf27 hs rfl (kk := 1) rfl rfl) ⟨⟨_, _, _, _, _, _, _, _, _, _, _, _⟩, _, rfl, ⟨rfl, rfl⟩, hO', St.right (M := [_, _, _]) hs⟩
theorem few_encOk {d x : De} {ls : List Lb} (hi : d.Ints) (hn : x.name = d.name) (hm : x.nums = d.nums) (hz : d.name.size ≤ 1048576) (hl : ∀ y ∈ ls, y.1.size ≤ 1048576 ∧ y.2.size ≤ 1048576) : EncOk x (ls.take 10) := by
  obtain ⟨h0, h1, h2, h3, h4, h5, h6, h7, h8, h9⟩ := De.fields hm
  refine ⟨⟨by rw [h0]; exact hi.u0, by rw [h1]; exact hi.u1, by rw [h2]; exact hi.u2, by rw [h3]; exact hi.lo, by rw [h4]; exact hi.hi, by rw [h5]; exact hi.dn, by rw [h6]; exact hi.up, by rw [h7]; exact hi.fi, by rw [h8]; exact hi.la, by rw [h9]; exact hi.bu⟩, by rw [hn]; exact hz, by rw [List.length_take]; omega, fun y hy => hl y (List.mem_of_mem_take hy)⟩
theorem enc_len {d : De} {ls : List Lb} (h : EncOk d ls) : (encD d ls).length ≤ 4294967296 := by
  have h0 := h.len
  have h1 := txt_len (s := d.name) (by have := h.name; omega)
  have h2 := uvar_len10 (zz_lt (n := (ls.length : Int)) (by omega))
  have h3 := flatMap_le lbTxt 2097172 ls (fun x hx => by
    have h3 := h.lab x hx
    have h4 := txt_len (s := x.1) (by omega)
    have h5 := txt_len (s := x.2) (by omega)
    rw [lbTxt, List.length_append]; omega)
  have h4 : (d.nums.flatMap (fun n => uvar (zz n))).length ≤ 100 := nums_len d d.nums (De.nums_i64 h.ints)
  have h5 := h.name
  rw [encD]; simp only [List.length_append]; omega
end Go.Proofs.Ytmjjdcfakkaiiaa
