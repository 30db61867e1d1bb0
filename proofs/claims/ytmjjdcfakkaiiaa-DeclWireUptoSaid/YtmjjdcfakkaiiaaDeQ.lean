/- The law DeclWire. -/
import Derived.Test.YtmjjdcfakkaiiaaDeO
set_option linter.unusedVariables false
set_option linter.unusedSimpArgs false
namespace Go.Proofs.Ytmjjdcfakkaiiaa
open Go.SL
set_option maxHeartbeats 4000000 in
theorem declWire_ok (d3 : De) (l3 : List Lb) (w0 : World) (h3 : Sl w0 d3.lv l3.length (lbcells l3)) (hi3 : d3.Ints) (hz3 : d3.name.size ≤ 1048576) (hl3 : ∀ x ∈ l3, x.1.size ≤ 1048576 ∧ x.2.size ≤ 1048576) :
    Ret Try.prog 7 [.agg d3.vals.toArray].toArray w0 fun r w' => Fwd [] w0 w' ∧ r = .bool true := by
  refine Ret_start fun w hs => ?_
  refine Ret_of Try.func7 rfl Try.ntmps7 rfl ?_
  refine W_seq ?_
  refine W_region ?_
  first | refine s_box rfl rfl hs ?_ | refine s_box1 rfl rfl rfl hs ?_
  clear hs; intro b1 w hs
  refine s_assign rfl rfl ?_
  refine WL_nil ?_
  refine n_then ?_
  refine W_seq ?_
  refine W_region ?_
  first
    | refine s_loadW Try.isAgg27 Try.sizeOf27 rfl rfl hs (kk := 0) rfl rfl ?_
    | refine s_loadW Try.isAgg27 Try.sizeOf27 rfl rfl hs (kk := 1) rfl rfl ?_
    | refine s_load_12 Try.isAgg27 Try.sizeOf27 rfl rfl (by first | exact hs.cell (k := 0) rfl rfl | exact hs.cell (k := 1) rfl rfl) (by first | exact hs.cell (k := 0) rfl rfl | exact hs.cell (k := 1) rfl rfl) (by first | exact hs.cell (k := 0) rfl rfl | exact hs.cell (k := 1) rfl rfl) (by first | exact hs.cell (k := 0) rfl rfl | exact hs.cell (k := 1) rfl rfl) (by first | exact hs.cell (k := 0) rfl rfl | exact hs.cell (k := 1) rfl rfl) (by first | exact hs.cell (k := 0) rfl rfl | exact hs.cell (k := 1) rfl rfl) (by first | exact hs.cell (k := 0) rfl rfl | exact hs.cell (k := 1) rfl rfl) (by first | exact hs.cell (k := 0) rfl rfl | exact hs.cell (k := 1) rfl rfl) (by first | exact hs.cell (k := 0) rfl rfl | exact hs.cell (k := 1) rfl rfl) (by first | exact hs.cell (k := 0) rfl rfl | exact hs.cell (k := 1) rfl rfl) (by first | exact hs.cell (k := 0) rfl rfl | exact hs.cell (k := 1) rfl rfl) (by first | exact hs.cell (k := 0) rfl rfl | exact hs.cell (k := 1) rfl rfl) ?_
  refine s_call Try.call12 rfl rfl (fewLb2_ok d3 l3 w (h3.fwd0 hs.fwd)) ?_
  rintro r w ⟨x, Lf, rfl, ⟨hdn, hdm⟩, hO, hst⟩
  replace hs := (St.back0 hs hst).swap
  simp only [List.cons_append, List.nil_append] at hs
  clear hst
  have hE := few_encOk hi3 hdn hdm hz3 hl3
  generalize l3.take 10 = ls at hE hO
  obtain ⟨_, vc, va, hxv, hh⟩ := hO.form
  rw [hh] at hxv
  clear hh
  have hone := De.vals_one (d := x) ⟨_, _, _, hxv⟩
  have hv1 : x.vals[1]? = some (.slice va ls.length vc) := by rw [← hxv]; rfl
  rw [hxv] at hO
  have hlen := hE.len
  refine s_alloc rfl AL27 hs ?_; clear hs; intro b3 w hs
  refine s_storeW Try.sizeOf27 rfl rfl hone rfl hs (kk := 0) rfl rfl ?_
  clear hs; intro w hs; simp only [List.set_cons_zero] at hs
  refine WL_nil ?_
  refine n_then ?_
  refine W_seq ?_
  refine W_region ?_
  first
    | refine s_loadW Try.isAgg27 Try.sizeOf27 rfl rfl hs (kk := 0) rfl rfl ?_
    | refine s_loadW Try.isAgg27 Try.sizeOf27 rfl rfl hs (kk := 1) rfl rfl ?_
    | refine s_load_12 Try.isAgg27 Try.sizeOf27 rfl rfl (by first | exact hs.cell (k := 0) rfl rfl | exact hs.cell (k := 1) rfl rfl) (by first | exact hs.cell (k := 0) rfl rfl | exact hs.cell (k := 1) rfl rfl) (by first | exact hs.cell (k := 0) rfl rfl | exact hs.cell (k := 1) rfl rfl) (by first | exact hs.cell (k := 0) rfl rfl | exact hs.cell (k := 1) rfl rfl) (by first | exact hs.cell (k := 0) rfl rfl | exact hs.cell (k := 1) rfl rfl) (by first | exact hs.cell (k := 0) rfl rfl | exact hs.cell (k := 1) rfl rfl) (by first | exact hs.cell (k := 0) rfl rfl | exact hs.cell (k := 1) rfl rfl) (by first | exact hs.cell (k := 0) rfl rfl | exact hs.cell (k := 1) rfl rfl) (by first | exact hs.cell (k := 0) rfl rfl | exact hs.cell (k := 1) rfl rfl) (by first | exact hs.cell (k := 0) rfl rfl | exact hs.cell (k := 1) rfl rfl) (by first | exact hs.cell (k := 0) rfl rfl | exact hs.cell (k := 1) rfl rfl) (by first | exact hs.cell (k := 0) rfl rfl | exact hs.cell (k := 1) rfl rfl) ?_
  refine s_call Try.call23 rfl rfl (encode_ok x ls w (by rw [hxv]; exact OwnS_slIn hO fun y hy => hs.own y (by simp [hy])) hE) ?_
  rintro r w ⟨Le, hOe, hst⟩
  replace hs := (St.back0 hs hst).swap
  simp only [List.cons_append] at hs
  clear hst
  refine s_call Try.call22 rfl rfl (read_ok _ (encD x ls) w (OwnS_slIn hOe fun y hy => hs.own y (by simp [hy])) (enc_len hE) (enc_isB x ls)) ?_
  rintro r w ⟨p, LR, rfl, hR, hst⟩
  replace hs := (St.back0 hs hst).swap
  simp only [List.cons_append, List.append_assoc] at hs
  clear hst
  refine s_assign rfl rfl ?_
  refine WL_nil ?_
  refine n_then ?_
  refine W_seq ?_
  refine W_seq ?_
  refine W_region ?_
  refine s_move rfl rfl ?_
  refine s_eql_ptr_nil Try.underlying44 rfl rfl rfl ?_
  refine WL_nil ?_
  refine n_then ?_
  refine W_cond_kf rfl (rfl) ?_
  refine W_skip ?_
  refine n_then ?_
  refine W_seq ?_
  refine W_region ?_
  refine s_move rfl rfl ?_
  refine s_callL (M := _ :: _ :: (Lf ++ Le)) (L1 := LR) (X := []) Try.call24 rfl rfl (by simp only [List.append_nil, List.cons_append, List.append_assoc]; exact hs) (fun h => rText_ok p ⟨encD x ls, 0⟩ LR w hR h) ?_
  clear hs hR; rintro v w LR ⟨hR, rfl⟩ - hs
  simp only [List.append_nil, List.cons_append, List.append_assoc] at hs
  rw [show strOf (rdRaw ⟨encD x ls, 0⟩).1 = x.name by rw [enc_raw hE]; exact strOf_bytesOf' _]
  rw [enc_raw hE] at hR
  simp only at hR
  refine s_assign rfl rfl ?_
  refine WL_nil ?_
  refine n_then ?_
  refine W_seq ?_
  refine W_region ?_
  refine s_move rfl rfl ?_
  refine s_callL (M := _ :: _ :: (Lf ++ Le)) (L1 := LR) (X := []) Try.call25 rfl rfl (by simp only [List.append_nil, List.cons_append, List.append_assoc]; exact hs) (fun h => rInt_ok p _ LR w hR h) ?_
  clear hs hR; rintro v w LR ⟨hR, rfl⟩ - hs
  simp only [List.append_nil, List.cons_append, List.append_assoc] at hs
  rw [enc_cnt hE] at hR ⊢
  simp only at hR ⊢
  generalize hN : x.nums.flatMap (fun n => uvar (zz n)) = N at hR
  refine s_assign rfl rfl ?_
  refine WL_nil ?_
  refine n_then ?_
  refine W_seq ?_
  refine W_seq ?_
  refine W_region ?_
  refine s_move rfl rfl ?_
  refine s_fieldAddr rfl rfl (FA27_0 _ _) ?_
  first
    | refine s_load Try.isAgg9 rfl rfl (hs.cell (k := 0) rfl rfl) ?_
    | refine s_load Try.isAgg9 rfl rfl (hs.cell (k := 1) rfl rfl) ?_
  refine s_neq_S rfl rfl rfl ?_
  refine s_move rfl rfl ?_
  refine WL_know (s := 27) (c := false) rfl ((by simp)) ?_
  refine WL_take rfl ?_
  refine s_move rfl rfl ?_
  refine WL_take rfl ?_
  refine s_fieldAddr rfl rfl (FA27_1 _ _) ?_
  refine WL_take rfl ?_
  refine s_load Try.isAgg23 rfl rfl (hs.cell (k := 0) rfl hv1) ?_
  refine WL_take rfl ?_
  refine s_len rfl rfl (LN23 _ _ _ _) ?_
  refine WL_take rfl ?_
  refine s_neq rfl rfl rfl ?_
  refine s_pick_f rfl rfl rfl ?_
  refine WL_nil ?_
  refine n_then ?_
  refine W_cond_kf rfl ((by simp)) ?_
  refine W_skip ?_
  refine n_then ?_
  refine W_seq ?_
  refine W_seq ?_
  refine W_region ?_
  refine s_assign rfl rfl ?_
  refine WL_nil ?_
  refine n_then ?_
  refine W_block ?_
  refine W_loop (σ := Nat × Hp) (fun s => [(3, .pointer (some ⟨b3, 0, none⟩)), (4, .pointer (some ⟨p, 0, none⟩)), (6, .int .i64 (ls.length : Int)), (7, .int .i64 (s.1 : Int))]) (fun s w => St [] w0 w ((b3, Blk 27 x.vals) :: (b1, Blk 27 d3.vals) :: (Lf ++ (Le ++ s.2))) ∧ RdAt p ⟨(ls.drop s.1).flatMap lbTxt ++ N, 0⟩ s.2 ∧ s.1 ≤ ls.length) (fun s => ls.length - s.1) (0, LR) ⟨rfl, rfl, rfl, rfl, trivial⟩ ⟨hs, hR, Nat.zero_le _⟩ ?_
  clear hs hR
  rintro ⟨i, LR⟩ w ⟨hs, hR, hi⟩
  simp only at hs hR hi ⊢
  refine W_seq ?_
  refine W_seq ?_
  refine W_region ?_
  refine s_move rfl rfl ?_
  refine s_move rfl rfl ?_
  refine s_lss rfl rfl rfl ?_
  refine WL_nil ?_
  refine n_then ?_
  refine W_cond rfl (fun hc36 => ?_) (fun hc36 => ?_)
  · skip
    try simp only [decide_eq_true_eq, decide_eq_false_iff_not, beq_iff_eq, beq_eq_false_iff_ne, bne_iff_ne, bne_eq_false_iff_eq, ne_eq, gt_iff_lt] at hc36
    have hil : i < ls.length := by omega
    have hli : ls[i]? = some ls[i] := List.getElem?_eq_getElem hil
    have hdr : ls.drop i = ls[i] :: ls.drop (i + 1) := List.drop_eq_getElem_cons hil
    generalize ls[i] = y at hli hdr
    have hyl := hE.lab y (List.mem_of_getElem? hli)
    rw [hdr, List.flatMap_cons, lbTxt, List.append_assoc, List.append_assoc] at hR
    clear hdr
    refine W_skip ?_
    refine n_then ?_
    refine W_seq ?_
    refine W_block ?_
    refine W_seq ?_
    refine W_region ?_
    refine s_move rfl rfl ?_
    refine s_callL (M := _ :: _ :: (Lf ++ Le)) (L1 := LR) (X := []) Try.call24 rfl rfl (by simp only [List.append_nil, List.cons_append, List.append_assoc]; exact hs) (fun h => rText_ok p _ LR w hR h) ?_
    clear hs hR; rintro v w LR ⟨hR, rfl⟩ - hs
    simp only [List.append_nil, List.cons_append, List.append_assoc] at hs
    rw [rdRaw_txt (by omega)] at hR ⊢
    simp only at hR ⊢
    rw [strOf_bytesOf']
    refine s_assign rfl rfl ?_
    refine WL_nil ?_
    refine n_then ?_
    refine W_seq ?_
    refine W_region ?_
    refine s_move rfl rfl ?_
    refine s_callL (M := _ :: _ :: (Lf ++ Le)) (L1 := LR) (X := []) Try.call24 rfl rfl (by simp only [List.append_nil, List.cons_append, List.append_assoc]; exact hs) (fun h => rText_ok p _ LR w hR h) ?_
    clear hs hR; rintro v w LR ⟨hR, rfl⟩ - hs
    simp only [List.append_nil, List.cons_append, List.append_assoc] at hs
    rw [rdRaw_txt (by omega)] at hR ⊢
    simp only at hR ⊢
    rw [strOf_bytesOf']
    obtain ⟨b2, o2, hA2, hB2, hc1, hc2⟩ := sl2 (OwnS_slIn hO fun z hz => hs.own z (by simp [hz])) hli
    refine s_assign rfl rfl ?_
    refine WL_nil ?_
    refine n_then ?_
    refine W_seq ?_
    refine W_region ?_
    refine s_move rfl rfl ?_
    refine s_fieldAddr rfl rfl (FA27_1 _ _) ?_
    refine s_load Try.isAgg23 rfl rfl (hs.cell (k := 0) rfl hv1) ?_
    refine s_move rfl rfl ?_
    (refine s_indexAddrP El23 rfl rfl rfl hA2 ?hx ?_; case hx => (constructor <;> omega))
    refine s_fieldAddr rfl rfl (FA51_0 _ _) ?_
    refine s_load Try.isAgg9 rfl rfl hc1 ?_
    refine s_neq_S rfl rfl rfl ?_
    refine s_move rfl rfl ?_
    refine WL_know (s := 51) (c := false) rfl ((by simp)) ?_
    refine WL_take rfl ?_
    refine s_move rfl rfl ?_
    refine WL_take rfl ?_
    refine s_fieldAddr rfl rfl (FA27_1 _ _) ?_
    refine WL_take rfl ?_
    refine s_load Try.isAgg23 rfl rfl (hs.cell (k := 0) rfl hv1) ?_
    refine WL_take rfl ?_
    refine s_move rfl rfl ?_
    refine WL_take rfl ?_
    (refine s_indexAddrP El23 rfl rfl rfl hA2 ?hx ?_; case hx => (constructor <;> omega))
    refine WL_take rfl ?_
    refine s_fieldAddr rfl rfl (FA51_1 _ _) ?_
    refine WL_take rfl ?_
    refine s_load Try.isAgg9 rfl rfl hc2 ?_
    refine WL_take rfl ?_
    refine s_neq_S rfl rfl rfl ?_
    refine s_pick_f rfl rfl rfl ?_
    refine WL_nil ?_
    refine n_then ?_
    refine W_cond_kf rfl ((by simp)) ?_
    refine W_skip ?_
    refine n_blk ?_
    refine n_then ?_
    refine W_region ?_
    refine s_move rfl rfl ?_
    first | (refine s_add' rfl rfl rfl ?hx ?_; case hx => (constructor <;> first | omega | (simp only; omega))) | refine s_add rfl rfl rfl ?_
    refine s_assign rfl rfl ?_
    refine WL_nil ?_
    refine n_loop ?_
    exact ⟨(i + 1, LR), ⟨rfl, rfl, rfl, rfl, trivial⟩, ⟨hs, hR, by simp only; omega⟩, by simp only; omega⟩
  · skip
    try simp only [decide_eq_true_eq, decide_eq_false_iff_not, beq_iff_eq, beq_eq_false_iff_ne, bne_iff_ne, bne_eq_false_iff_eq, ne_eq, gt_iff_lt] at hc36
    refine W_exit ?_
    refine x_then ?_
    refine x_then ?_
    refine exit_hit ?_
    refine n_then ?_
    refine W_seq ?_
    refine W_region ?_
    first
      | refine s_loadW Try.isAgg27 Try.sizeOf27 rfl rfl hs (kk := 0) rfl rfl ?_
      | refine s_loadW Try.isAgg27 Try.sizeOf27 rfl rfl hs (kk := 1) rfl rfl ?_
      | refine s_load_12 Try.isAgg27 Try.sizeOf27 rfl rfl (by first | exact hs.cell (k := 0) rfl rfl | exact hs.cell (k := 1) rfl rfl) (by first | exact hs.cell (k := 0) rfl rfl | exact hs.cell (k := 1) rfl rfl) (by first | exact hs.cell (k := 0) rfl rfl | exact hs.cell (k := 1) rfl rfl) (by first | exact hs.cell (k := 0) rfl rfl | exact hs.cell (k := 1) rfl rfl) (by first | exact hs.cell (k := 0) rfl rfl | exact hs.cell (k := 1) rfl rfl) (by first | exact hs.cell (k := 0) rfl rfl | exact hs.cell (k := 1) rfl rfl) (by first | exact hs.cell (k := 0) rfl rfl | exact hs.cell (k := 1) rfl rfl) (by first | exact hs.cell (k := 0) rfl rfl | exact hs.cell (k := 1) rfl rfl) (by first | exact hs.cell (k := 0) rfl rfl | exact hs.cell (k := 1) rfl rfl) (by first | exact hs.cell (k := 0) rfl rfl | exact hs.cell (k := 1) rfl rfl) (by first | exact hs.cell (k := 0) rfl rfl | exact hs.cell (k := 1) rfl rfl) (by first | exact hs.cell (k := 0) rfl rfl | exact hs.cell (k := 1) rfl rfl) ?_
    have hie : i = ls.length := by omega
    rw [hie, List.drop_length, List.flatMap_nil, List.nil_append, ← hN] at hR
    refine s_call Try.call26 rfl rfl (fNums_ok x w) ?_
    rintro r w ⟨Ln, hOn, hst⟩
    replace hs := (St.back0 hs hst).swap
    simp only [List.cons_append, List.append_assoc] at hs
    clear hst
    obtain ⟨g, gc, sp, rfl, hgc, rfl⟩ := hOn.block (show 0 < 10 by decide)
    have hi64 := De.nums_i64 hE.ints
    have hn10 : x.nums.length = 10 := rfl
    generalize x.nums = ns at hR hs hOn hi64 hn10
    rw [hn10]
    refine s_assign rfl rfl ?_
    refine WL_nil ?_
    refine n_then ?_
    refine W_seq ?_
    refine W_seq ?_
    refine W_region ?_
    refine s_assign rfl rfl ?_
    refine WL_nil ?_
    refine n_then ?_
    refine W_block ?_
    refine W_loop (σ := Nat × Hp) (fun s => [(4, .pointer (some ⟨p, 0, none⟩)), (10, .slice (some ⟨g, 0, none⟩) 10 gc), (11, .int .i64 (s.1 : Int))]) (fun s w => St [] w0 w ((b3, Blk 27 x.vals) :: (b1, Blk 27 d3.vals) :: (Lf ++ (Le ++ (s.2 ++ [(g, Blk 3 (i64s ns ++ sp))])))) ∧ RdAt p ⟨(ns.drop s.1).flatMap (fun n => uvar (zz n)), 0⟩ s.2 ∧ s.1 ≤ 10) (fun s => 10 - s.1) (0, LR) ⟨rfl, rfl, rfl, trivial⟩ ⟨hs, hR, Nat.zero_le _⟩ ?_
    clear hs hR
    rintro ⟨j, LR⟩ w ⟨hs, hR, hj⟩
    simp only at hs hR hj ⊢
    refine W_seq ?_
    refine W_seq ?_
    refine W_region ?_
    refine s_move rfl rfl ?_
    refine s_move rfl rfl ?_
    refine s_len rfl rfl (LN22 _ _ _ _) ?_
    refine s_lss rfl rfl rfl ?_
    refine WL_nil ?_
    refine n_then ?_
    refine W_cond rfl (fun hc66 => ?_) (fun hc66 => ?_)
    · skip
      try simp only [decide_eq_true_eq, decide_eq_false_iff_not, beq_iff_eq, beq_eq_false_iff_ne, bne_iff_ne, bne_eq_false_iff_eq, ne_eq, gt_iff_lt] at hc66
      have hjl : j < ns.length := by omega
      have hnj : ns[j]? = some ns[j] := List.getElem?_eq_getElem hjl
      have hdr : ns.drop j = ns[j] :: ns.drop (j + 1) := List.drop_eq_getElem_cons hjl
      generalize ns[j] = z at hnj hdr
      have hz := hi64 z (List.mem_of_getElem? hnj)
      rw [hdr, List.flatMap_cons] at hR
      clear hdr
      have hcz : (i64s ns ++ sp)[0 + (j : Int).toNat]? = some (.int .i64 z) := by
        rw [show 0 + (j : Int).toNat = j by omega, List.getElem?_append_left (by simpa [i64s] using hjl), i64s, List.getElem?_map, hnj]; rfl
      refine W_skip ?_
      refine n_then ?_
      refine W_seq ?_
      refine W_block ?_
      refine W_seq ?_
      refine W_draw [(0, true, []), (2, true, []), (3, true, []), (4, true, []), (5, true, []), (1, false, [2, 3, 4, 5]), (6, true, [])] [[], [0], [], [], [2, 3], [2, 3, 4], [0, 1, 2, 3, 4, 5]] MX (by kernel_rfl) ?_
      intro w1 hw1 hw2 hw3 hw4; replace hs := hs.redrawn hw1 hw2 hw3 hw4; clear hw1 hw2 hw3 hw4
      obtain ⟨w, rfl⟩ : ∃ w : World, w = w1 := ⟨_, rfl⟩
      refine D_q rfl rfl ?_
      refine s_move rfl rfl ?_
      refine D_qn ?_
      refine D_q rfl rfl ?_
      refine s_move rfl rfl ?_
      refine D_qn ?_
      refine D_q rfl rfl ?_
      refine s_move rfl rfl ?_
      refine D_qn ?_
      refine D_q rfl rfl ?_
      (refine s_indexAddr1 El22 rfl rfl rfl ?hx ?_; case hx => (constructor <;> first | omega | (simp; omega)))
      refine D_qn ?_
      refine D_q rfl rfl ?_
      refine s_load Try.isAgg3 rfl rfl ((St.right (M := _) (St.right (M := _) (St.right (M := _) hs.tail.tail))).cell (k := 0) rfl hcz) ?_
      refine D_qn ?_
      refine D_e rfl ?_
      refine s_callL (M := _ :: _ :: (Lf ++ Le)) (L1 := LR) (X := [_]) Try.call25 rfl rfl (by simp only [List.cons_append, List.append_assoc]; exact hs) (fun h => rInt_ok p _ LR w hR h) ?_
      clear hs hR; rintro v w LR ⟨hR, rfl⟩ - hs
      simp only [List.cons_append, List.append_assoc] at hs
      rw [rdI_uvar hz] at hR ⊢
      simp only at hR ⊢
      refine D_en ?re ?_
      case re =>
        refine Reks_cons rfl rfl rfl rfl ?_ ?_
        · skip
          refine s_move rfl rfl ?_
          exact Rek_end rfl
        refine Reks_cons rfl rfl rfl rfl ?_ ?_
        · skip
          refine s_move rfl rfl ?_
          exact Rek_end rfl
        refine Reks_cons rfl rfl rfl rfl ?_ ?_
        · skip
          (refine s_indexAddr1 El22 rfl rfl rfl ?hx ?_; case hx => (constructor <;> first | omega | (simp; omega)))
          exact Rek_end rfl
        refine Reks_cons rfl rfl rfl rfl ?_ ?_
        · skip
          refine s_load Try.isAgg3 rfl rfl ((St.right (M := _) (St.right (M := _) (St.right (M := _) hs.tail.tail))).cell (k := 0) rfl hcz) ?_
          exact Rek_end rfl
        exact Reks_nil
      refine D_q rfl rfl ?_
      refine s_neq rfl rfl rfl ?_
      refine D_qn ?_
      refine D_nil ?_
      refine n_then ?_
      refine W_cond_kf rfl ((by simp)) ?_
      refine W_skip ?_
      refine n_blk ?_
      refine n_then ?_
      refine W_region ?_
      refine s_move rfl rfl ?_
      first | (refine s_add' rfl rfl rfl ?hx ?_; case hx => (constructor <;> first | omega | (simp only; omega))) | refine s_add rfl rfl rfl ?_
      refine s_assign rfl rfl ?_
      refine WL_nil ?_
      refine n_loop ?_
      exact ⟨(j + 1, LR), ⟨rfl, rfl, rfl, trivial⟩, ⟨hs, hR, by simp only; omega⟩, by simp only; omega⟩
    · skip
      try simp only [decide_eq_true_eq, decide_eq_false_iff_not, beq_iff_eq, beq_eq_false_iff_ne, bne_iff_ne, bne_eq_false_iff_eq, ne_eq, gt_iff_lt] at hc66
      refine W_exit ?_
      refine x_then ?_
      refine x_then ?_
      refine exit_hit ?_
      refine n_then ?_
      refine W_seq ?_
      refine W_region ?_
      refine s_move rfl rfl ?_
      have hje : j = ns.length := by omega
      rw [hje, List.drop_length, List.flatMap_nil] at hR
      refine s_callL (M := _ :: _ :: (Lf ++ Le)) (L1 := LR) (X := [_]) Try.call27 rfl rfl (by simp only [List.cons_append, List.append_assoc]; exact hs) (fun h => rEnd_ok p ⟨[], 0⟩ LR w hR h) ?_
      clear hs; rintro v w L9 ⟨hL9, rfl⟩ - hs
      rw [hL9] at hs
      clear hL9 L9
      rw [show rdEnd ⟨[], 0⟩ = 0 from rfl]
      refine s_eql rfl rfl rfl ?_
      refine s_move rfl rfl ?_
      refine WL_know (s := 79) (c := true) rfl ((by simp)) ?_
      refine WL_take rfl ?_
      refine s_call Try.call15 rfl rfl (lives_ok w) ?_
      rintro r w ⟨hst, rfl⟩
      replace hs := hs.fwd1 hst
      clear hst
      refine s_pick_t rfl rfl rfl ?_
      refine s_assign rfl rfl ?_
      refine WL_nil ?_
      refine n_then ?_
      refine W_ret ?_
      exact end1 rfl rfl ⟨hs.fwd, rfl⟩
end Go.Proofs.Ytmjjdcfakkaiiaa
