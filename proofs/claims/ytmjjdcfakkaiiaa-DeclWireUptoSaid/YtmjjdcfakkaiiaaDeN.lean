/- The law DeclReads. -/
import Derived.Test.YtmjjdcfakkaiiaaDeM
set_option linter.unusedVariables false
set_option linter.unusedSimpArgs false
namespace Go.Proofs.Ytmjjdcfakkaiiaa
open Go.SL
theorem OwnS.upd {e n : Nat} {v : Value} {cs : List Value} {Lv : Hp} (h : OwnS e 1 v n cs Lv) (hn : 0 < n) : ∃ g cap sp, v = .slice (some ⟨g, 0, none⟩) n cap ∧ Lv = [(g, Blk e (cs ++ sp))] ∧ (cs ++ sp).length = cap ∧ n ≤ cap ∧ ∀ k u, k < n → OwnS e 1 v n (cs.set k u) [(g, Blk e ((cs ++ sp).set k u))] := by
  obtain ⟨hl, h⟩ := h
  rcases h with ⟨_, h0, _⟩ | ⟨g, cap, sp, rfl, h2, h3, h4, rfl⟩
  · omega
  · refine ⟨g, cap, sp, rfl, rfl, by omega, h2, fun k u hk => ⟨by rw [List.length_set]; exact hl, .inr ⟨g, cap, sp, rfl, h2, h3, ?_, ?_⟩⟩⟩
    · rw [List.length_append, List.length_set, ← List.length_append]; exact h4
    · rw [List.set_append_left _ _ (by omega)]
theorem enc_pos (d : De) (ls : List Lb) : 0 < (encD d ls).length := by
  have := uvar_ne d.name.size
  have h : 0 < (uvar d.name.size).length := List.length_pos_iff.2 this
  rw [encD, txt]; simp only [List.length_append]; omega
theorem enc_isB (d : De) (ls : List Lb) : ∀ b ∈ encD d ls, isB b := by
  have ht : ∀ s, ∀ b ∈ txt s, isB b := fun s b hb => by
    rw [txt, List.mem_append] at hb
    rcases hb with hb | hb
    · exact uvar_isB _ b hb
    · exact bytesOf_isB s b hb
  intro b hb
  rw [encD, List.mem_append, List.mem_append, List.mem_append] at hb
  rcases hb with ((hb | hb) | hb) | hb
  · exact ht _ b hb
  · exact uvar_isB _ b hb
  · obtain ⟨x, _, hx⟩ := List.mem_flatMap.1 hb
    rw [lbTxt, List.mem_append] at hx
    rcases hx with hx | hx
    · exact ht _ b hx
    · exact ht _ b hx
  · obtain ⟨x, _, hx⟩ := List.mem_flatMap.1 hb
    exact uvar_isB _ b hx
theorem txt_ge (s : ByteArray) : s.size ≤ (txt s).length := by rw [txt, List.length_append, bytesOf_length]; omega
theorem encOk_of {d : De} {ls : List Lb} (hi : ∀ z ∈ d.nums, isI64 z) (h8 : ls.length ≤ 8) (hl : (encD d ls).length ≤ 1048576) : EncOk d ls := by
  have hn : d.Ints := ⟨hi _ (by simp [De.nums]), hi _ (by simp [De.nums]), hi _ (by simp [De.nums]), hi _ (by simp [De.nums]), hi _ (by simp [De.nums]), hi _ (by simp [De.nums]), hi _ (by simp [De.nums]), hi _ (by simp [De.nums]), hi _ (by simp [De.nums]), hi _ (by simp [De.nums])⟩
  have h1 := txt_ge d.name
  rw [encD] at hl
  simp only [List.length_append] at hl
  refine ⟨hn, by omega, by omega, fun x hx => ?_⟩
  have h2 : (lbTxt x).length ≤ (ls.flatMap lbTxt).length := by
    obtain ⟨a, b, rfl⟩ := List.append_of_mem hx
    simp only [List.flatMap_append, List.flatMap_cons, List.length_append]; omega
  have h3 := txt_ge x.1
  have h4 := txt_ge x.2
  rw [lbTxt, List.length_append] at h2
  omega
theorem gen_encOk {d : De} {ls : List Lb} (h : GenOk d) (hl : ls.length ≤ 2) (hs : ∀ x ∈ ls, x.1.size ≤ 16 ∧ x.2.size ≤ 16) : EncOk d ls := by
  have h1 := h.u; have h2 := h.lo; have h3 := h.hi; have h4 := h.dn; have h5 := h.up; have h6 := h.fi; have h7 := h.la; have h8 := h.bu
  have h9 := h.size
  refine ⟨?_, by omega, by omega, fun x hx => by have := hs x hx; omega⟩
  constructor <;> unfold isI64 <;> omega
theorem gen_len {d : De} {ls : List Lb} (h : GenOk d) (hl : ls.length ≤ 2) (hs : ∀ x ∈ ls, x.1.size ≤ 16 ∧ x.2.size ≤ 16) : (encD d ls).length ≤ 1000 := by
  have hE := gen_encOk h hl hs
  have h0 := h.size
  have h1 := txt_len (s := d.name) (by omega)
  have h2 := uvar_len10 (zz_lt (n := (ls.length : Int)) (by omega))
  have h3 := flatMap_le lbTxt 52 ls (fun x hx => by
    have h3 := hs x hx
    have h4 := txt_len (s := x.1) (by omega)
    have h5 := txt_len (s := x.2) (by omega)
    rw [lbTxt, List.length_append]; omega)
  have h4 : (d.nums.flatMap (fun n => uvar (zz n))).length ≤ 100 := nums_len d d.nums (De.nums_i64 hE.ints)
  rw [encD]; simp only [List.length_append]; omega
theorem set_isB {bs : List Int} (h : ∀ b ∈ bs, isB b) {k : Nat} {c : Int} (hc : isB c) : ∀ b ∈ bs.set k c, isB b := fun b hb => by
  rcases List.mem_or_eq_of_mem_set hb with h1 | rfl
  · exact h b h1
  · exact hc
set_option maxHeartbeats 4000000 in
theorem declReads_ok (v0 v1 : Value) (raw xs : List Int) (n c : Int) (w0 : World) (hr : Sl w0 v0 raw.length (u8s raw)) (hrB : ∀ z ∈ raw, isB z) (hv : Sl w0 v1 xs.length (i64s xs)) (hx : ∀ z ∈ xs, isI64 z) (hn : isI64 n) (hc : isB c) :
    Ret Try.prog 9 [v0, v1, .int .i64 n, .int .u8 c].toArray w0 fun r w' => Fwd [] w0 w' ∧ r = .bool true := by
  refine Ret_start fun w hs => ?_
  refine Ret_of Try.func9 rfl Try.ntmps9 rfl ?_
  refine W_seq ?_
  refine W_region ?_
  refine s_assign rfl rfl ?_
  refine WL_nil ?_
  refine n_then ?_
  refine W_seq ?_
  refine W_region ?_
  refine s_move rfl rfl ?_
  refine s_call Try.call10 rfl rfl (declGen_ok v1 xs w (hv.fwd0 hs.fwd) hx) ?_
  rintro r w ⟨d0, ls0, Lr, rfl, hG, hO, hl, hl2, hl16, hst⟩
  replace hs := St.back0 hs hst
  simp only [List.append_nil] at hs
  clear hst
  have hE0 := gen_encOk hG hl2 hl16
  refine s_call Try.call23 rfl rfl (encode_ok d0 ls0 w (OwnS_slIn hO fun x hx => hs.own x hx) hE0) ?_
  rintro r w ⟨L9, hO9, hst⟩
  replace hs := St.left (St.back0 hs hst)
  clear hst hO
  have hb0 := enc_isB d0 ls0
  have hp0 := enc_pos d0 ls0
  have hq0 := gen_len hG hl2 hl16
  generalize encD d0 ls0 = bs at hO9 hb0 hp0 hq0
  obtain ⟨g, cap, sp, rfl, rfl, hsp, hcap, hupd⟩ := OwnS.upd hO9 hp0
  clear hO9
  refine s_assign rfl rfl ?_
  refine WL_nil ?_
  refine n_then ?_
  refine W_seq ?_
  refine W_seq ?_
  refine W_region ?_
  refine s_move rfl rfl ?_
  refine s_len rfl rfl (LN46 _ _ _ _) ?_
  refine s_eql rfl rfl rfl ?_
  refine WL_nil ?_
  refine n_then ?_
  refine W_cond_kf rfl ((by rw [beq_eq_false_iff_ne]; omega)) ?_
  refine W_skip ?_
  refine n_then ?_
  refine W_seq ?_
  refine W_region ?_
  refine s_move rfl rfl ?_
  refine s_move rfl rfl ?_
  refine s_move rfl rfl ?_
  refine s_len rfl rfl (LN46 _ _ _ _) ?_
  refine s_call Try.call20 rfl rfl (around_ok n (bs.length : Int) w (by omega) hn) ?_
  rintro r w1 ⟨hw1, rfl⟩
  rw [hw1]; clear hw1 w1
  have hkr := aroundV_range (m := n) (q := (bs.length : Int)) (by omega)
  generalize aroundV n (bs.length : Int) = k at hkr
  refine s_move rfl rfl ?_
  (refine s_indexAddr1 El46 rfl rfl rfl ?hx ?_; case hx => (constructor <;> first | omega | (simp; omega)))
  refine s_storeB Try.sizeOf5 rfl rfl rfl hs (kk := 0) rfl (by rw [Nat.blt_eq, hsp]; omega) ?_
  clear hs; intro w hs; simp only [List.set_cons_zero, Nat.zero_add] at hs
  have hO9 := hupd k.toNat (.int .u8 c) (by omega)
  replace hO9 : OwnS 5 1 (.slice (some ⟨g, 0, none⟩) bs.length cap) (bs.set k.toNat c).length (u8s (bs.set k.toNat c)) [(g, Blk 5 ((u8s bs ++ sp).set k.toNat (.int .u8 c)))] := by
    rw [List.length_set, u8s, List.map_set]; exact hO9
  have hbB := set_isB hb0 (k := k.toNat) hc
  have hbl : (bs.set k.toNat c).length ≤ 1000 := by rw [List.length_set]; omega
  generalize [(g, Blk 5 ((u8s bs ++ sp).set k.toNat (.int .u8 c)))] = LG at hs hO9
  generalize bs.set k.toNat c = bs1 at hO9 hbB hbl
  refine WL_nil ?_
  refine n_then ?_
  refine W_seq ?_
  refine W_region ?_
  refine s_move rfl rfl ?_
  refine s_call Try.call30 rfl rfl (few_ok v0 raw 90 w (hr.fwd0 hs.fwd) (by decide)) ?_
  rintro r w ⟨LF, hOF, hst⟩
  replace hs := St.back0 hs hst
  clear hst
  obtain ⟨_, fc, fa, rfl, hfl⟩ := hOF.form
  subst hfl
  have hOF' : OwnS 5 1 (.slice fa (min raw.length 90) fc) (raw.take 90).length (u8s (raw.take 90)) LF := by rw [List.length_take, Nat.min_comm 90]; exact hOF
  have hfB : ∀ b ∈ raw.take 90, isB b := fun b hb => hrB b (List.mem_of_mem_take hb)
  have hfL : (raw.take 90).length ≤ 1000 := by rw [List.length_take]; omega
  refine s_move rfl rfl ?_
  refine s_buildSlice rfl rfl (BS60_2 _ _ _ _ _ _) hs ?_; clear hs; intro b30 w hs
  refine s_assign rfl rfl ?_
  refine WL_nil ?_
  refine n_then ?_
  refine W_seq ?_
  refine W_seq ?_
  refine W_region ?_
  refine s_assign rfl rfl ?_
  refine WL_nil ?_
  refine n_then ?_
  refine W_block ?_
  obtain ⟨CS, hCS⟩ : ∃ CS : List Value, CS = [.slice fa (min raw.length 90) fc, .slice (some ⟨g, 0, none⟩) bs.length cap] := ⟨_, rfl⟩
  replace hs : St [] w0 w ((b30, Blk 46 CS) :: (LF ++ LG)) := by rw [hCS]; exact hs
  refine W_loop (σ := Nat) (fun i => [(10, .slice (some ⟨b30, 0, none⟩) 2 2), (11, .int .i64 (i : Int))]) (fun i w => St [] w0 w ((b30, Blk 46 CS) :: (LF ++ LG)) ∧ i ≤ 2) (fun i => 2 - i) 0 ⟨rfl, rfl, trivial⟩ ⟨hs, by omega⟩ ?_
  clear hs
  rintro i w ⟨hs, hi2⟩
  refine W_seq ?_
  refine W_seq ?_
  refine W_region ?_
  refine s_move rfl rfl ?_
  refine s_lss rfl rfl rfl ?_
  refine WL_nil ?_
  refine n_then ?_
  refine W_cond rfl (fun hc32 => ?_) (fun hc32 => ?_)
  · skip
    try simp only [decide_eq_true_eq, decide_eq_false_iff_not, beq_iff_eq, beq_eq_false_iff_ne, ne_eq] at hc32
    obtain ⟨vi, bi, hci, hSl, hBi, hLi⟩ : ∃ vi bi, CS[0 + (i : Int).toNat]? = some vi ∧ (∀ w : World, (∀ x ∈ LF ++ LG, w.heap[x.1]? = some x.2) → Sl w vi bi.length (u8s bi)) ∧ (∀ b ∈ bi, isB b) ∧ bi.length ≤ 1000 := by
      have h01 : i = 0 ∨ i = 1 := by omega
      rcases h01 with rfl | rfl
      · exact ⟨_, raw.take 90, by rw [hCS]; rfl, fun w h => OwnS_slIn hOF' fun x hx => h x (List.mem_append_left _ hx), hfB, hfL⟩
      · exact ⟨_, bs1, by rw [hCS]; rfl, fun w h => OwnS_slIn hO9 fun x hx => h x (List.mem_append_right _ hx), hbB, hbl⟩
    refine W_skip ?_
    refine n_then ?_
    refine W_seq ?_
    refine W_block ?_
    refine W_seq ?_
    refine W_region ?_
    refine s_move rfl rfl ?_
    refine s_move rfl rfl ?_
    (refine s_indexAddr1 El60 rfl rfl rfl ?hx ?_; case hx => (constructor <;> first | omega | (simp; omega)))
    refine s_load Try.isAgg46 rfl rfl (hs.cell (k := 0) rfl hci) ?_
    refine s_call Try.call28 rfl rfl (decode_ok vi bi w (hSl w fun x hx => hs.own x (List.mem_cons_of_mem _ hx)) (by omega) hBi) ?_
    rintro r w ⟨d, ls, e, Ld, rfl, hst, hOd, hD⟩
    replace hs := (St.back0 hs hst).swap
    clear hst
    simp only [List.cons_append] at hs
    have hone := De.vals_one (d := d) (by obtain ⟨x, y, z, h, _⟩ := hOd.form; exact ⟨_, _, _, h⟩)
    refine s_move rfl rfl ?_
    refine s_extract rfl rfl rfl ?_
    refine s_extract rfl rfl rfl ?_
    refine s_alloc rfl AL27 hs ?_; clear hs; intro b12 w hs
    refine s_storeW Try.sizeOf27 rfl rfl hone rfl hs (kk := 0) rfl rfl ?_
    clear hs; intro w hs; simp only [List.set_cons_zero] at hs
    refine s_assign rfl rfl ?_
    refine WL_nil ?_
    refine n_then ?_
    refine W_seq ?_
    refine W_draw [(0, true, []), (1, true, []), (2, true, []), (3, true, []), (5, true, []), (6, true, []), (7, true, []), (8, true, []), (4, false, [5, 6, 7, 8]), (9, false, []), (10, true, []), (11, true, []), (12, true, []), (13, false, []), (14, true, []), (15, true, []), (16, true, [])] [[], [0], [0, 1], [0, 1, 2], [0, 1, 2, 3], [0, 1, 2], [0, 1, 2], [0, 1, 2, 5, 6], [0, 1, 2, 5, 6, 7], [0, 1, 2, 3, 4, 5, 6, 7, 8], [0, 1, 2, 3, 4, 5, 6, 7, 8, 9], [0, 1, 2, 3, 4, 5, 6, 7, 8, 9, 10], [0, 1, 2, 3, 4, 5, 6, 7, 8, 9, 10, 11], [0, 1, 2, 3, 4, 5, 6, 7, 8, 9, 10, 11, 12], [0, 1, 2, 3, 4, 5, 6, 7, 8, 9, 10, 11, 12, 13], [0, 1, 2, 3, 4, 5, 6, 7, 8, 9, 10, 11, 12, 13, 14], [0, 1, 2, 3, 4, 5, 6, 7, 8, 9, 10, 11, 12, 13, 14, 15]] MX (by kernel_rfl) ?_
    intro w1 hw1 hw2 hw3 hw4; replace hs := hs.redrawn hw1 hw2 hw3 hw4; clear hw1 hw2 hw3 hw4
    obtain ⟨w, rfl⟩ : ∃ w : World, w = w1 := ⟨_, rfl⟩
    refine D_q rfl rfl ?_
    refine s_move rfl rfl ?_
    refine D_qn ?_
    refine D_q rfl rfl ?_
    refine s_eql rfl rfl rfl ?_
    refine D_qn ?_
    refine D_q rfl rfl ?_
    refine s_move rfl rfl ?_
    refine WL_case (s := 45) rfl (fun hg45 => ?_) (fun hg45 => ?_)
    · skip
      try simp only [decide_eq_true_eq, decide_eq_false_iff_not, beq_iff_eq, beq_eq_false_iff_ne, ne_eq] at hg45
      obtain ⟨hDk, he0⟩ : DecOk bi d.name ls d.nums ∧ DeclE d ls 0 := by
        rcases hD with ⟨_, h2, _⟩ | ⟨h1, _, h3⟩ | ⟨_, _, _, _, h3, _⟩
        · omega
        · exact ⟨h1, h3⟩
        · omega
      obtain ⟨hen, hni, hl8⟩ := dec_enc hDk hBi
      have hEd := encOk_of hni hl8 (by rw [hen]; omega)
      refine D_qn ?_
      refine D_q rfl rfl ?_
      refine WL_take rfl ?_
      first
        | refine s_loadW Try.isAgg27 Try.sizeOf27 rfl rfl hs (kk := 0) rfl rfl ?_
        | refine s_loadW Try.isAgg27 Try.sizeOf27 rfl rfl hs (kk := 1) rfl rfl ?_
        | refine s_load_12 Try.isAgg27 Try.sizeOf27 rfl rfl (by first | exact hs.cell (k := 0) rfl rfl | exact hs.cell (k := 1) rfl rfl) (by first | exact hs.cell (k := 0) rfl rfl | exact hs.cell (k := 1) rfl rfl) (by first | exact hs.cell (k := 0) rfl rfl | exact hs.cell (k := 1) rfl rfl) (by first | exact hs.cell (k := 0) rfl rfl | exact hs.cell (k := 1) rfl rfl) (by first | exact hs.cell (k := 0) rfl rfl | exact hs.cell (k := 1) rfl rfl) (by first | exact hs.cell (k := 0) rfl rfl | exact hs.cell (k := 1) rfl rfl) (by first | exact hs.cell (k := 0) rfl rfl | exact hs.cell (k := 1) rfl rfl) (by first | exact hs.cell (k := 0) rfl rfl | exact hs.cell (k := 1) rfl rfl) (by first | exact hs.cell (k := 0) rfl rfl | exact hs.cell (k := 1) rfl rfl) (by first | exact hs.cell (k := 0) rfl rfl | exact hs.cell (k := 1) rfl rfl) (by first | exact hs.cell (k := 0) rfl rfl | exact hs.cell (k := 1) rfl rfl) (by first | exact hs.cell (k := 0) rfl rfl | exact hs.cell (k := 1) rfl rfl) ?_
      refine D_qn ?_
      refine D_q rfl rfl ?_
      refine WL_take rfl ?_
      refine s_move rfl rfl ?_
      refine D_qn ?_
      refine D_q rfl rfl ?_
      refine WL_take rfl ?_
      refine s_move rfl rfl ?_
      refine D_qn ?_
      refine D_q rfl rfl ?_
      refine WL_take rfl ?_
      (refine s_indexAddr1 El60 rfl rfl rfl ?hx ?_; case hx => (constructor <;> first | omega | (simp; omega)))
      refine D_qn ?_
      refine D_q rfl rfl ?_
      refine WL_take rfl ?_
      refine s_load Try.isAgg46 rfl rfl (hs.cell (k := 1) rfl hci) ?_
      refine D_qn ?_
      refine D_e rfl ?_
      refine WL_take rfl ?_
      refine s_call Try.call23 rfl rfl (encode_ok d ls w (OwnS_slIn hOd fun x hx => hs.own x (by simp [hx])) hEd) ?_
      rintro r w ⟨Le, hOe, hst⟩
      replace hs := (St.back0 hs hst).swap
      clear hst
      simp only [List.cons_append, List.append_assoc] at hs
      rw [hen] at hOe
      refine D_en ?re ?_
      case re =>
        refine Reks_cons rfl rfl rfl rfl ?_ ?_
        · skip
          refine WL_take rfl ?_
          refine s_move rfl rfl ?_
          exact Rek_end rfl
        refine Reks_cons rfl rfl rfl rfl ?_ ?_
        · skip
          refine WL_take rfl ?_
          refine s_move rfl rfl ?_
          exact Rek_end rfl
        refine Reks_cons rfl rfl rfl rfl ?_ ?_
        · skip
          refine WL_take rfl ?_
          (refine s_indexAddr1 El60 rfl rfl rfl ?hx ?_; case hx => (constructor <;> first | omega | (simp; omega)))
          exact Rek_end rfl
        refine Reks_cons rfl rfl rfl rfl ?_ ?_
        · skip
          refine WL_take rfl ?_
          refine s_load Try.isAgg46 rfl rfl (hs.cell (k := 1) rfl hci) ?_
          exact Rek_end rfl
        exact Reks_nil
      refine D_e rfl ?_
      refine WL_take rfl ?_
      refine s_call Try.call31 rfl rfl (sameBytes_ok _ vi bi bi w (OwnS_slIn hOe fun x hx => hs.own x (by simp [hx])) (hSl w fun x hx => hs.own x (by rw [List.mem_append] at hx; rcases hx with hx | hx <;> simp [hx])) (by omega)) ?_
      rintro r w ⟨hst, rfl⟩
      replace hs := hs.fwd1 hst
      clear hst
      rw [show decide (bi = bi) = true by simp]
      refine D_en ?re ?_
      case re =>
        exact Reks_nil
      refine D_q rfl rfl ?_
      refine WL_take rfl ?_
      refine s_not rfl rfl ?_
      refine D_qn ?_
      refine D_q rfl rfl ?_
      refine WL_take rfl ?_
      refine s_move rfl rfl ?_
      refine WL_know (s := 54) (c := false) rfl (rfl) ?_
      refine D_qn ?_
      refine D_q rfl rfl ?_
      refine WL_take rfl ?_
      first
        | refine s_loadW Try.isAgg27 Try.sizeOf27 rfl rfl hs (kk := 0) rfl rfl ?_
        | refine s_loadW Try.isAgg27 Try.sizeOf27 rfl rfl hs (kk := 1) rfl rfl ?_
        | refine s_load_12 Try.isAgg27 Try.sizeOf27 rfl rfl (by first | exact hs.cell (k := 0) rfl rfl | exact hs.cell (k := 1) rfl rfl) (by first | exact hs.cell (k := 0) rfl rfl | exact hs.cell (k := 1) rfl rfl) (by first | exact hs.cell (k := 0) rfl rfl | exact hs.cell (k := 1) rfl rfl) (by first | exact hs.cell (k := 0) rfl rfl | exact hs.cell (k := 1) rfl rfl) (by first | exact hs.cell (k := 0) rfl rfl | exact hs.cell (k := 1) rfl rfl) (by first | exact hs.cell (k := 0) rfl rfl | exact hs.cell (k := 1) rfl rfl) (by first | exact hs.cell (k := 0) rfl rfl | exact hs.cell (k := 1) rfl rfl) (by first | exact hs.cell (k := 0) rfl rfl | exact hs.cell (k := 1) rfl rfl) (by first | exact hs.cell (k := 0) rfl rfl | exact hs.cell (k := 1) rfl rfl) (by first | exact hs.cell (k := 0) rfl rfl | exact hs.cell (k := 1) rfl rfl) (by first | exact hs.cell (k := 0) rfl rfl | exact hs.cell (k := 1) rfl rfl) (by first | exact hs.cell (k := 0) rfl rfl | exact hs.cell (k := 1) rfl rfl) ?_
      refine D_qn ?_
      refine D_e rfl ?_
      refine WL_take rfl ?_
      refine s_call Try.call14 rfl rfl (fValid10_ok d ls w (OwnS_slIn hOd fun x hx => hs.own x (by simp [hx]))) ?_
      rintro r w ⟨hst, e2, rfl, he2⟩
      replace hs := hs.fwd1 hst
      clear hst
      rw [he2.eq he0]
      refine D_en ?re ?_
      case re =>
        exact Reks_nil
      refine D_q rfl rfl ?_
      refine WL_take rfl ?_
      refine s_neq rfl rfl rfl ?_
      refine D_qn ?_
      refine D_q rfl rfl ?_
      refine WL_take rfl ?_
      refine s_pick_f rfl rfl rfl ?_
      refine D_qn ?_
      refine D_q rfl rfl ?_
      refine s_pick_t rfl rfl rfl ?_
      refine D_qn ?_
      refine D_nil ?_
      refine n_then ?_
      refine W_cond_kf rfl (rfl) ?_
      refine W_skip ?_
      refine n_blk ?_
      refine n_then ?_
      refine W_region ?_
      refine s_move rfl rfl ?_
      first | (refine s_add' rfl rfl rfl ?hx ?_; case hx => (constructor <;> first | omega | (simp only; omega))) | refine s_add rfl rfl rfl ?_
      refine s_assign rfl rfl ?_
      refine WL_nil ?_
      refine n_loop ?_
      replace hs : St [] w0 w ((b30, Blk 46 CS) :: (LF ++ LG)) := by
        first
          | exact St.left (L := _ :: (LF ++ LG)) hs.tail
          | exact St.left (L := _ :: (LF ++ LG)) (M := Ld ++ Le) (by simp only [List.cons_append, List.append_assoc]; exact hs.tail)
      exact ⟨i + 1, ⟨rfl, rfl, trivial⟩, ⟨hs, by omega⟩, by omega⟩
    · skip
      try simp only [decide_eq_true_eq, decide_eq_false_iff_not, beq_iff_eq, beq_eq_false_iff_ne, ne_eq] at hg45
      refine D_qn ?_
      refine D_q rfl rfl ?_
      refine WL_skip rfl rfl rfl ?_
      refine D_qn ?_
      refine D_q rfl rfl ?_
      refine WL_skip rfl rfl rfl ?_
      refine D_qn ?_
      refine D_q rfl rfl ?_
      refine WL_skip rfl rfl rfl ?_
      refine D_qn ?_
      refine D_q rfl rfl ?_
      refine WL_skip rfl rfl rfl ?_
      refine D_qn ?_
      refine D_q rfl rfl ?_
      refine WL_skip rfl rfl rfl ?_
      refine D_qn ?_
      refine D_e rfl ?_
      refine WL_skip rfl rfl rfl ?_
      refine D_en ?re ?_
      case re =>
        refine Reks_cons rfl rfl rfl rfl ?_ ?_
        · skip
          refine WL_skip rfl rfl rfl ?_
          exact Rek_end rfl
        refine Reks_cons rfl rfl rfl rfl ?_ ?_
        · skip
          refine WL_skip rfl rfl rfl ?_
          exact Rek_end rfl
        refine Reks_cons rfl rfl rfl rfl ?_ ?_
        · skip
          refine WL_skip rfl rfl rfl ?_
          exact Rek_end rfl
        refine Reks_cons rfl rfl rfl rfl ?_ ?_
        · skip
          refine WL_skip rfl rfl rfl ?_
          exact Rek_end rfl
        exact Reks_nil
      refine D_e rfl ?_
      refine WL_skip rfl rfl rfl ?_
      refine D_en ?re ?_
      case re =>
        exact Reks_nil
      refine D_q rfl rfl ?_
      refine WL_skip rfl rfl rfl ?_
      refine D_qn ?_
      refine D_q rfl rfl ?_
      refine WL_skip rfl rfl rfl ?_
      refine D_qn ?_
      refine D_q rfl rfl ?_
      refine WL_skipU rfl rfl ?_
      refine D_qn ?_
      refine D_e rfl ?_
      refine WL_skipU rfl rfl ?_
      refine D_en ?re ?_
      case re =>
        exact Reks_nil
      refine D_q rfl rfl ?_
      refine WL_skipU rfl rfl ?_
      refine D_qn ?_
      refine D_q rfl rfl ?_
      refine WL_skip rfl rfl rfl ?_
      refine D_qn ?_
      refine D_q rfl rfl ?_
      refine s_pick_f rfl rfl rfl ?_
      refine D_qn ?_
      refine D_nil ?_
      refine n_then ?_
      refine W_cond_f rfl ?_
      refine W_skip ?_
      refine n_blk ?_
      refine n_then ?_
      refine W_region ?_
      refine s_move rfl rfl ?_
      first | (refine s_add' rfl rfl rfl ?hx ?_; case hx => (constructor <;> first | omega | (simp only; omega))) | refine s_add rfl rfl rfl ?_
      refine s_assign rfl rfl ?_
      refine WL_nil ?_
      refine n_loop ?_
      replace hs : St [] w0 w ((b30, Blk 46 CS) :: (LF ++ LG)) := by
        first
          | exact St.left (L := _ :: (LF ++ LG)) hs.tail
          | exact St.left (L := _ :: (LF ++ LG)) (M := Ld ++ Le) (by simp only [List.cons_append, List.append_assoc]; exact hs.tail)
      exact ⟨i + 1, ⟨rfl, rfl, trivial⟩, ⟨hs, by omega⟩, by omega⟩
  · skip
    try simp only [decide_eq_true_eq, decide_eq_false_iff_not, beq_iff_eq, beq_eq_false_iff_ne, ne_eq] at hc32
    refine W_exit ?_
    refine x_then ?_
    refine x_then ?_
    refine exit_hit ?_
    refine n_then ?_
    refine W_seq ?_
    refine W_region ?_
    refine s_call Try.call15 rfl rfl (lives_ok w) ?_
    rintro r w ⟨hst, rfl⟩
    replace hs := hs.fwd1 hst
    clear hst
    refine s_assign rfl rfl ?_
    refine WL_nil ?_
    refine n_then ?_
    refine W_ret ?_
    exact end1 rfl rfl ⟨hs.fwd, rfl⟩
end Go.Proofs.Ytmjjdcfakkaiiaa
