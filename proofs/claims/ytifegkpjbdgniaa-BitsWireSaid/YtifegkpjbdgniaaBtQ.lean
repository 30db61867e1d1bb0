/- BitsReads: the reference's reader, and the law. -/
import Derived.Test.YtifegkpjbdgniaaBtN
set_option linter.unusedVariables false
set_option linter.unusedSimpArgs false
namespace Go.Proofs.Ytifegkpjbdgniaa
open Go.SL
/-- the bits of the bytes -/
def BitsOf (ys : List Int) (bs : List Bool) : Prop := bs.length = 8 * ys.length ∧ ∀ i, i < 8 * ys.length → bs[i]? = some (bitAt ys i)
theorem testB : ∀ (B : Fin 256) (j : Fin 8), (nb B.val 8)[j.val]? = some (B.val &&& (128 / 2 ^ j.val) != 0) := by decide +kernel
theorem BitsOf.nil : BitsOf [] [] := ⟨rfl, fun i hi => by simp at hi⟩
theorem BitsOf.snoc {ys : List Int} {bs : List Bool} {B : Nat} (h : BitsOf ys bs) (hB : B < 256) : BitsOf (ys ++ [(B : Int)]) (bs ++ nb B 8) := by
  obtain ⟨h1, h2⟩ := h
  refine ⟨by simp [nb_length]; omega, fun i hi => ?_⟩
  simp only [List.length_append, List.length_singleton] at hi
  unfold bitAt
  rcases Nat.lt_or_ge i (8 * ys.length) with hlt | hge
  · rw [List.getElem?_append_left (by omega), h2 i hlt]
    unfold bitAt
    rw [List.getD_eq_getElem?_getD, List.getD_eq_getElem?_getD, List.getElem?_append_left (by omega)]
  · rw [List.getElem?_append_right (by omega), h1]
    have h3 := testB ⟨B, hB⟩ ⟨i - 8 * ys.length, by omega⟩
    simp only at h3
    rw [h3, List.getD_eq_getElem?_getD, List.getElem?_append_right (by omega), show i / 8 - ys.length = 0 by omega, show i % 8 = i - 8 * ys.length by omega]
    simp
theorem unpack_ok (v : Value) (ys : List Int) (w0 : World) (hv : Sl w0 v ys.length (u8s ys)) (hb : ∀ b ∈ ys, isB b) (hl : ys.length ≤ 65536) :
    Ret Try.prog 23 [v].toArray w0 fun r w' => ∃ bs Lr, OwnS 4 1 r bs.length (bls bs) Lr ∧ BitsOf ys bs ∧ St [] w0 w' Lr := by
  obtain ⟨a, c, rfl, hac⟩ := hv.len_le
  refine Ret_start fun w hs => ?_
  refine Ret_of Try.func23 rfl Try.ntmps23 rfl ?_
  refine W_seq ?_
  refine W_region ?_
  refine s_assign rfl rfl ?_
  refine WL_nil ?_
  refine n_then ?_
  refine W_seq ?_
  refine W_region ?_
  refine s_assign rfl rfl ?_
  refine WL_nil ?_
  refine n_then ?_
  refine W_seq ?_
  refine W_seq ?_
  refine W_region ?_
  refine s_assign rfl rfl ?_
  refine WL_nil ?_
  refine n_then ?_
  refine W_block ?_
  refine W_loop (σ := Nat × Value × Hp × List Bool) (fun s => [(0, .slice a ys.length c), (3, s.2.1), (4, .int .i64 (s.1 : Int))]) (fun s w => St [] w0 w s.2.2.1 ∧ OwnS 4 1 s.2.1 s.2.2.2.length (bls s.2.2.2) s.2.2.1 ∧ BitsOf (ys.take s.1) s.2.2.2 ∧ s.1 ≤ ys.length) (fun s => ys.length - s.1) (0, .slice none 0 0, [], []) ⟨rfl, rfl, rfl, trivial⟩ ⟨hs, OwnS.nil _ _, BitsOf.nil, Nat.zero_le _⟩ ?_
  clear hs
  rintro ⟨i, v3, Lv, bs⟩ w ⟨hs, hO, hbs, hi⟩
  simp only at hs hO hbs hi ⊢
  have hbl := hbs.1
  rw [List.length_take] at hbl
  refine W_seq ?_
  refine W_seq ?_
  refine W_region ?_
  refine s_move rfl rfl ?_
  refine s_move rfl rfl ?_
  refine s_len rfl rfl (LN29 _ _ _ _) ?_
  refine s_lss rfl rfl rfl ?_
  refine WL_nil ?_
  refine n_then ?_
  refine W_cond rfl (fun hc8 => ?_) (fun hc8 => ?_)
  · skip
    try simp only [decide_eq_true_eq, decide_eq_false_iff_not] at hc8
    have hix : i < ys.length := by omega
    obtain ⟨B, hB, hB2⟩ : ∃ B : Nat, ys[i] = (B : Int) ∧ B < 256 := by
      have h1 := hb _ (List.getElem_mem hix)
      exact ⟨ys[i].toNat, by unfold isB at h1; omega, by unfold isB at h1; omega⟩
    have htk : ys.take (i + 1) = ys.take i ++ [(B : Int)] := by rw [List.take_succ_eq_append_getElem hix, hB]
    obtain ⟨b1, o1, hA1, hc1⟩ := hv.at (k := i) (u := .int .u8 (B : Int)) (by simp [hix, hB])
    have hB1 : b1 < w0.heap.size := World.block_lt_of_cell? w0 _ hc1
    refine W_skip ?_
    refine n_then ?_
    refine W_seq ?_
    refine W_block ?_
    refine W_region ?_
    refine s_move rfl rfl ?_
    refine s_move rfl rfl ?_
    refine s_move rfl rfl ?_
    (refine s_indexAddrO El29 rfl rfl rfl hA1 ?hx ?_; case hx => (constructor <;> omega))
    refine s_load Try.isAgg5 rfl rfl ((hs.oldcell (a := ⟨b1, o1 + i, none⟩) hB1 (by simp)).trans hc1) ?_
    refine s_convert rfl rfl (CV5_23 _) ?_
    rw [IntWalk.u64_in _ (by omega)]
    refine s_call Try.call45 rfl rfl (refBits_ok B 8 w) ?_
    rintro r w ⟨Lq, hq, hst⟩
    rw [show (clampV 8).toNat = 8 from by decide] at hq
    rw [nb_length] at hq
    replace hs := St.back0 hs hst
    clear hst
    refine s_appendM (M := Lq) (X := []) El32 rfl rfl rfl hO (by simpa using hs) (hq.sl (M := Lv) hs) (by simp [nb_length]) (bls_one _) (by omega) ?_
    clear hs; intro v' w Lv' hO' hs
    simp only [List.append_nil] at hs
    refine s_assign rfl rfl ?_
    refine WL_nil ?_
    refine n_blk ?_
    refine n_then ?_
    refine W_region ?_
    refine s_move rfl rfl ?_
    first | (refine s_add' rfl rfl rfl ?hx ?_; case hx => (constructor <;> first | omega | (simp only; omega))) | refine s_add rfl rfl rfl ?_
    refine s_assign rfl rfl ?_
    refine WL_nil ?_
    refine n_loop ?_
    exact ⟨(i + 1, v', Lv', bs ++ nb B 8), ⟨rfl, rfl, rfl, trivial⟩, ⟨hs.right, by simpa [bls, nb_length] using hO', by simp only; rw [htk]; exact hbs.snoc hB2, by simp only; omega⟩, by simp only; omega⟩
  · skip
    try simp only [decide_eq_true_eq, decide_eq_false_iff_not] at hc8
    refine W_exit ?_
    refine x_then ?_
    refine x_then ?_
    refine exit_hit ?_
    refine n_then ?_
    refine W_seq ?_
    refine W_region ?_
    refine s_move rfl rfl ?_
    refine s_assign rfl rfl ?_
    refine WL_nil ?_
    refine n_then ?_
    refine W_ret ?_
    rw [List.take_of_length_le (show ys.length ≤ i by omega)] at hbs
    exact end1 rfl rfl ⟨bs, Lv, hO, hbs, hs⟩
/-- the reference's reader -/
def RfAt (p : Nat) (ys : List Int) (k : Nat) (e : Int) (L : Hp) : Prop := ∃ v Lb bs, L = (p, Blk 49 [v, .int .i64 (k : Int), .int .i64 e]) :: Lb ∧ OwnS 4 1 v bs.length (bls bs) Lb ∧ BitsOf ys bs ∧ k ≤ 8 * ys.length ∧ ys.length ≤ 65536
theorem bl_at {ys : List Int} {bs : List Bool} {sp : List Value} {i : Nat} (h : BitsOf ys bs) (hi : i < 8 * ys.length) : (bls bs ++ sp)[0 + ((i : Nat) : Int).toNat]? = some (.bool (bitAt ys i)) := by
  rw [Nat.zero_add, Int.toNat_natCast, List.getElem?_append_left (by rw [List.length_map, h.1]; exact hi), List.getElem?_map, h.2 i hi]; rfl
set_option maxHeartbeats 1000000 in
theorem fBits_ok (p : Nat) (ys : List Int) (k : Nat) (e cnt : Int) (L0 : Hp) (w0 : World) (hR : RfAt p ys k e L0) (hs : St (ids L0) w0 w0 L0) :
    Ret Try.prog 26 [.pointer (some ⟨p, 0, none⟩), .int .i64 cnt].toArray w0 fun r w' => ∃ L', St (ids L0) w0 w' L' ∧ RfAt p ys (rbV ys k e cnt).2.1 (rbV ys k e cnt).2.2 L' ∧ r = .int .u64 ((rbV ys k e cnt).1 : Int) := by
  obtain ⟨hcv, hc⟩ := clampV_nat cnt
  generalize hV : rbV ys k e cnt = V
  unfold rbV at hV
  generalize (clampV cnt).toNat = c at *
  obtain ⟨v, Lb, bs, hL, hO, hbs, hk, hl⟩ := hR
  obtain ⟨_, vc, va', rfl, rfl⟩ := hO.form
  have hbl := hbs.1
  replace hs : St (ids L0) w0 w0 ((p, Blk 49 [.slice va' bs.length vc, .int .i64 (k : Int), .int .i64 e]) :: Lb) := by rw [hL] at hs ⊢; exact hs
  refine Ret_startL hs fun w hs => ?_
  refine Ret_of Try.func26 rfl Try.ntmps26 rfl ?_
  refine W_seq ?_
  refine W_region ?_
  refine s_assign rfl rfl ?_
  refine WL_nil ?_
  refine n_then ?_
  refine W_seq ?_
  refine W_region ?_
  refine s_move rfl rfl ?_
  refine s_call Try.call51 rfl rfl (count_ok cnt w) ?_
  rintro v w1 ⟨hw1, rfl⟩
  rw [hw1, hcv]; clear hw1 w1
  refine s_assign rfl rfl ?_
  refine WL_nil ?_
  refine n_then ?_
  refine W_cut (σ := Int) (fun s => [(0, .pointer (some ⟨p, 0, none⟩)), (5, .int .i64 (c : Int))]) (fun s w => St (ids L0) w0 w ((p, Blk 49 [.slice va' bs.length vc, .int .i64 (k : Int), .int .i64 s]) :: Lb) ∧ ((s ≠ 0 ∧ V = (0, k, s)) ∨ (s = 0 ∧ c ≤ 8 * ys.length - k ∧ V = (va (bitsAt ys k c), k + c, 0)))) ?_ ?_
  · skip
    refine W_seq ?_
    refine W_draw [(0, true, []), (1, true, []), (2, true, []), (3, true, []), (4, true, []), (5, true, []), (6, true, []), (7, true, []), (8, true, []), (9, true, []), (10, true, []), (11, true, []), (12, true, []), (13, true, []), (14, true, []), (15, true, []), (16, true, []), (17, true, []), (18, true, [])] MX (by kernel_rfl) ?_
    intro w1 hw1 hw2 hw3 hw4; replace hs := hs.redrawn hw1 hw2 hw3 hw4; clear hw1 hw2 hw3 hw4
    obtain ⟨w, rfl⟩ : ∃ w : World, w = w1 := ⟨_, rfl⟩
    refine D_q rfl rfl ?_
    refine s_move rfl rfl ?_
    refine D_qn ?_
    refine D_q rfl rfl ?_
    refine s_nilCheck rfl rfl ?_
    refine D_qn ?_
    refine D_q rfl rfl ?_
    refine s_fieldAddr rfl rfl (FA49_2 _ _) ?_
    refine D_qn ?_
    refine D_q rfl rfl ?_
    first
      | refine s_load Try.isAgg47 rfl rfl (hs.cell (k := 0) rfl rfl) ?_
      | refine s_load Try.isAgg47 rfl rfl (hs.cell (k := 1) rfl rfl) ?_
    refine D_qn ?_
    refine D_q rfl rfl ?_
    refine s_eql rfl rfl rfl ?_
    refine D_qn ?_
    refine D_q rfl rfl ?_
    refine s_move rfl rfl ?_
    refine WL_case (s := 15) rfl (fun hg15 => ?_) (fun hg15 => ?_)
    · skip
      try simp only [decide_eq_true_eq, decide_eq_false_iff_not, bne_iff_ne, ne_eq, bne_eq_false_iff_eq, beq_iff_eq, beq_eq_false_iff_ne, gt_iff_lt] at hg15
      refine D_qn ?_
      refine D_q rfl rfl ?_
      refine WL_take rfl ?_
      refine s_move rfl rfl ?_
      refine D_qn ?_
      refine D_q rfl rfl ?_
      refine WL_take rfl ?_
      refine s_move rfl rfl ?_
      refine D_qn ?_
      refine D_q rfl rfl ?_
      refine WL_take rfl ?_
      refine s_nilCheck rfl rfl ?_
      refine D_qn ?_
      refine D_q rfl rfl ?_
      refine WL_take rfl ?_
      refine s_fieldAddr rfl rfl (FA49_0 _ _) ?_
      refine D_qn ?_
      refine D_q rfl rfl ?_
      refine WL_take rfl ?_
      first
        | refine s_load Try.isAgg32 rfl rfl (hs.cell (k := 0) rfl rfl) ?_
        | refine s_load Try.isAgg32 rfl rfl (hs.cell (k := 1) rfl rfl) ?_
      refine D_qn ?_
      refine D_q rfl rfl ?_
      refine WL_take rfl ?_
      refine s_len rfl rfl (LN32 _ _ _ _) ?_
      refine D_qn ?_
      refine D_q rfl rfl ?_
      refine WL_take rfl ?_
      refine s_move rfl rfl ?_
      refine D_qn ?_
      refine D_q rfl rfl ?_
      refine WL_take rfl ?_
      refine s_nilCheck rfl rfl ?_
      refine D_qn ?_
      refine D_q rfl rfl ?_
      refine WL_take rfl ?_
      refine s_fieldAddr rfl rfl (FA49_1 _ _) ?_
      refine D_qn ?_
      refine D_q rfl rfl ?_
      refine WL_take rfl ?_
      first
        | refine s_load Try.isAgg3 rfl rfl (hs.cell (k := 0) rfl rfl) ?_
        | refine s_load Try.isAgg3 rfl rfl (hs.cell (k := 1) rfl rfl) ?_
      refine D_qn ?_
      refine D_q rfl rfl ?_
      refine WL_take rfl ?_
      first | (refine s_sub' rfl rfl rfl ?hx ?_; case hx => (constructor <;> first | omega | (simp only; omega))) | refine s_sub rfl rfl rfl ?_
      refine D_qn ?_
      refine D_q rfl rfl ?_
      refine WL_take rfl ?_
      refine s_gtr rfl rfl rfl ?_
      refine D_qn ?_
      refine D_q rfl rfl ?_
      refine s_pick_t rfl rfl rfl ?_
      refine D_qn ?_
      refine D_nil ?_
      refine n_then ?_
      refine W_cond rfl (fun hc28 => ?_) (fun hc28 => ?_)
      · skip
        try simp only [decide_eq_true_eq, decide_eq_false_iff_not, bne_iff_ne, ne_eq, bne_eq_false_iff_eq, beq_iff_eq, beq_eq_false_iff_ne, gt_iff_lt] at hc28
        refine W_region ?_
        refine s_move rfl rfl ?_
        refine s_nilCheck rfl rfl ?_
        refine s_fieldAddr rfl rfl (FA49_2 _ _) ?_
        first
          | refine s_storeB Try.sizeOf47 rfl rfl rfl hs (kk := 0) rfl rfl ?_
          | refine s_storeB Try.sizeOf47 rfl rfl rfl hs (kk := 1) rfl rfl ?_
        clear hs; intro w hs; try simp only [List.set_cons_zero, List.set_cons_succ, splice, List.take_succ_cons, List.take_zero, List.drop_succ_cons, List.drop_zero, List.nil_append, List.cons_append, List.length_cons, List.length_nil, Nat.reduceAdd, List.append_assoc] at hs
        refine WL_nil ?_
        refine n_loop ?_
        first
          | exact ⟨3, ⟨rfl, rfl, trivial⟩, hs, .inl ⟨by decide, by rw [← hV, if_neg (by omega), if_pos (by omega)]⟩⟩
          | exact ⟨e, ⟨rfl, rfl, trivial⟩, hs, .inr ⟨by omega, by omega, by rw [← hV, if_neg (by omega), if_neg (by omega)]⟩⟩
          | exact ⟨e, ⟨rfl, rfl, trivial⟩, hs, .inl ⟨by omega, by rw [← hV, if_pos (by omega)]⟩⟩
      · skip
        try simp only [decide_eq_true_eq, decide_eq_false_iff_not, bne_iff_ne, ne_eq, bne_eq_false_iff_eq, beq_iff_eq, beq_eq_false_iff_ne, gt_iff_lt] at hc28
        refine W_skip ?_
        refine n_loop ?_
        first
          | exact ⟨3, ⟨rfl, rfl, trivial⟩, hs, .inl ⟨by decide, by rw [← hV, if_neg (by omega), if_pos (by omega)]⟩⟩
          | exact ⟨e, ⟨rfl, rfl, trivial⟩, hs, .inr ⟨by omega, by omega, by rw [← hV, if_neg (by omega), if_neg (by omega)]⟩⟩
          | exact ⟨e, ⟨rfl, rfl, trivial⟩, hs, .inl ⟨by omega, by rw [← hV, if_pos (by omega)]⟩⟩
    · skip
      try simp only [decide_eq_true_eq, decide_eq_false_iff_not, bne_iff_ne, ne_eq, bne_eq_false_iff_eq, beq_iff_eq, beq_eq_false_iff_ne, gt_iff_lt] at hg15
      refine D_qn ?_
      refine D_q rfl rfl ?_
      refine WL_skip rfl rfl rfl ?_
      refine D_qn ?_
      refine D_q rfl rfl ?_
      refine WL_skip rfl rfl rfl ?_
      refine D_qn ?_
      refine D_q rfl rfl ?_
      refine WL_skip rfl rfl rfl ?_
      refine D_qn ?_
      refine D_q rfl rfl ?_
      refine WL_skip rfl rfl rfl ?_
      refine D_qn ?_
      refine D_q rfl rfl ?_
      refine WL_skip rfl rfl rfl ?_
      refine D_qn ?_
      refine D_q rfl rfl ?_
      refine WL_skip rfl rfl rfl ?_
      refine D_qn ?_
      refine D_q rfl rfl ?_
      refine WL_skip rfl rfl rfl ?_
      refine D_qn ?_
      refine D_q rfl rfl ?_
      refine WL_skip rfl rfl rfl ?_
      refine D_qn ?_
      refine D_q rfl rfl ?_
      refine WL_skip rfl rfl rfl ?_
      refine D_qn ?_
      refine D_q rfl rfl ?_
      refine WL_skip rfl rfl rfl ?_
      refine D_qn ?_
      refine D_q rfl rfl ?_
      refine WL_skip rfl rfl rfl ?_
      refine D_qn ?_
      refine D_q rfl rfl ?_
      refine WL_skip rfl rfl rfl ?_
      refine D_qn ?_
      refine D_q rfl rfl ?_
      refine s_pick_f rfl rfl rfl ?_
      refine D_qn ?_
      refine D_nil ?_
      refine n_then ?_
      refine W_cond_f rfl ?_
      refine W_skip ?_
      refine n_loop ?_
      first
        | exact ⟨3, ⟨rfl, rfl, trivial⟩, hs, .inl ⟨by decide, by rw [← hV, if_neg (by omega), if_pos (by omega)]⟩⟩
        | exact ⟨e, ⟨rfl, rfl, trivial⟩, hs, .inr ⟨by omega, by omega, by rw [← hV, if_neg (by omega), if_neg (by omega)]⟩⟩
        | exact ⟨e, ⟨rfl, rfl, trivial⟩, hs, .inl ⟨by omega, by rw [← hV, if_pos (by omega)]⟩⟩
  · skip
    clear hs hV
    clear w
    rintro e w ⟨hs, hV⟩
    refine W_seq ?_
    refine W_region ?_
    refine s_assign rfl rfl ?_
    refine WL_nil ?_
    refine n_then ?_
    refine W_seq ?_
    refine W_seq ?_
    refine W_region ?_
    refine s_assign rfl rfl ?_
    refine WL_nil ?_
    refine n_then ?_
    refine W_block ?_
    refine W_loop (σ := Nat) (fun s => [(0, .pointer (some ⟨p, 0, none⟩)), (5, .int .i64 (c : Int)), (6, .int .u64 (va (bitsAt ys k s) : Int)), (7, .int .i64 (s : Int))]) (fun s w => St (ids L0) w0 w ((p, Blk 49 [.slice va' bs.length vc, .int .i64 ((k + s : Nat) : Int), .int .i64 e]) :: Lb) ∧ s ≤ c ∧ (e ≠ 0 → s = 0)) (fun s => c - s) 0 ⟨rfl, rfl, rfl, rfl, trivial⟩ ⟨hs, Nat.zero_le _, fun _ => rfl⟩ ?_
    clear hs
    rintro i w ⟨hs, hi, hei⟩
    refine W_seq ?_
    refine W_seq ?_
    refine W_region ?_
    refine s_move rfl rfl ?_
    refine s_move rfl rfl ?_
    refine s_lss rfl rfl rfl ?_
    refine s_move rfl rfl ?_
    refine WL_case (s := 35) rfl (fun hg35 => ?_) (fun hg35 => ?_)
    · skip
      try simp only [decide_eq_true_eq, decide_eq_false_iff_not, bne_iff_ne, ne_eq, bne_eq_false_iff_eq, beq_iff_eq, beq_eq_false_iff_ne, gt_iff_lt] at hg35
      refine WL_take rfl ?_
      refine s_move rfl rfl ?_
      refine WL_take rfl ?_
      refine s_nilCheck rfl rfl ?_
      refine WL_take rfl ?_
      refine s_fieldAddr rfl rfl (FA49_2 _ _) ?_
      refine WL_take rfl ?_
      first
        | refine s_load Try.isAgg47 rfl rfl (hs.cell (k := 0) rfl rfl) ?_
        | refine s_load Try.isAgg47 rfl rfl (hs.cell (k := 1) rfl rfl) ?_
      refine WL_take rfl ?_
      refine s_eql rfl rfl rfl ?_
      refine s_pick_t rfl rfl rfl ?_
      refine WL_nil ?_
      refine n_then ?_
      refine W_cond rfl (fun hc41 => ?_) (fun hc41 => ?_)
      · skip
        try simp only [decide_eq_true_eq, decide_eq_false_iff_not, bne_iff_ne, ne_eq, bne_eq_false_iff_eq, beq_iff_eq, beq_eq_false_iff_ne, gt_iff_lt] at hc41
        have he0 : e = 0 := by omega
        have hkc : c ≤ 8 * ys.length - k := by rcases hV with ⟨h, _⟩ | ⟨_, h, _⟩ <;> first | exact h | exact absurd he0 h
        obtain ⟨g, gc, sp, hgv, hgc, rfl⟩ := hO.block (by omega)
        cases hgv
        have hat := bl_at (sp := sp) hbs (show k + i < 8 * ys.length by omega)
        have hvl := va_lt (bitsAt ys k i)
        rw [bitsAt_length] at hvl
        have h63 : 2 ^ i ≤ 2 ^ 63 := Nat.pow_le_pow_right (by decide) (by omega)
        have hv9 : va (bitsAt ys k (i + 1)) = 2 * va (bitsAt ys k i) + (bitAt ys (k + i)).toNat := by rw [bitsAt, va_snoc]
        refine W_skip ?_
        refine n_then ?_
        refine W_seq ?_
        refine W_block ?_
        refine W_seq ?_
        refine W_region ?_
        refine s_move rfl rfl ?_
        refine s_mul rfl rfl rfl ?_
        rw [IntWalk.u64_in _ (by omega)]
        refine s_assign rfl rfl ?_
        refine WL_nil ?_
        refine n_then ?_
        refine W_seq ?_
        refine W_seq ?_
        refine W_draw [(0, true, []), (1, true, []), (2, true, []), (3, true, []), (4, true, []), (5, true, []), (6, true, []), (7, true, []), (8, true, []), (9, true, [])] MX (by kernel_rfl) ?_
        intro w1 hw1 hw2 hw3 hw4; replace hs := hs.redrawn hw1 hw2 hw3 hw4; clear hw1 hw2 hw3 hw4
        obtain ⟨w, rfl⟩ : ∃ w : World, w = w1 := ⟨_, rfl⟩
        refine D_q rfl rfl ?_
        refine s_move rfl rfl ?_
        refine D_qn ?_
        refine D_q rfl rfl ?_
        refine s_nilCheck rfl rfl ?_
        refine D_qn ?_
        refine D_q rfl rfl ?_
        refine s_fieldAddr rfl rfl (FA49_0 _ _) ?_
        refine D_qn ?_
        refine D_q rfl rfl ?_
        first
          | refine s_load Try.isAgg32 rfl rfl (hs.cell (k := 0) rfl rfl) ?_
          | refine s_load Try.isAgg32 rfl rfl (hs.cell (k := 1) rfl rfl) ?_
        refine D_qn ?_
        refine D_q rfl rfl ?_
        refine s_move rfl rfl ?_
        refine D_qn ?_
        refine D_q rfl rfl ?_
        refine s_nilCheck rfl rfl ?_
        refine D_qn ?_
        refine D_q rfl rfl ?_
        refine s_fieldAddr rfl rfl (FA49_1 _ _) ?_
        refine D_qn ?_
        refine D_q rfl rfl ?_
        first
          | refine s_load Try.isAgg3 rfl rfl (hs.cell (k := 0) rfl rfl) ?_
          | refine s_load Try.isAgg3 rfl rfl (hs.cell (k := 1) rfl rfl) ?_
        refine D_qn ?_
        refine D_q rfl rfl ?_
        (refine s_indexAddr1 El32 rfl rfl rfl ?hx ?_; case hx => (constructor <;> first | omega | (simp; omega)))
        refine D_qn ?_
        refine D_q rfl rfl ?_
        refine s_load Try.isAgg4 rfl rfl (hs.cell (k := 1) rfl hat) ?_
        refine D_qn ?_
        refine D_nil ?_
        refine n_then ?_
        refine W_cond rfl (fun hc55 => ?_) (fun hc55 => ?_)
        · skip
          try simp only [decide_eq_true_eq, decide_eq_false_iff_not, bne_iff_ne, ne_eq, bne_eq_false_iff_eq, beq_iff_eq, beq_eq_false_iff_ne, gt_iff_lt] at hc55
          rw [hc55] at hv9
          have hv8 : 2 * ((va (bitsAt ys k i) : Nat) : Int) + 1 = ((va (bitsAt ys k (i + 1)) : Nat) : Int) := by rw [hv9]; simp
          refine W_region ?_
          refine s_move rfl rfl ?_
          refine s_add rfl rfl rfl ?_
          rw [IntWalk.u64_in _ (by omega), hv8]
          refine s_assign rfl rfl ?_
          refine WL_nil ?_
          refine n_then ?_
          refine W_region ?_
          refine s_move rfl rfl ?_
          refine s_move rfl rfl ?_
          refine s_nilCheck rfl rfl ?_
          refine s_fieldAddr rfl rfl (FA49_1 _ _) ?_
          first
            | refine s_load Try.isAgg3 rfl rfl (hs.cell (k := 0) rfl rfl) ?_
            | refine s_load Try.isAgg3 rfl rfl (hs.cell (k := 1) rfl rfl) ?_
          (refine s_add' rfl rfl rfl ?hx ?_; case hx => (constructor <;> omega))
          rw [show ((k + i : Nat) : Int) + 1 = ((k + (i + 1) : Nat) : Int) from by omega]
          refine s_nilCheck rfl rfl ?_
          refine s_fieldAddr rfl rfl (FA49_1 _ _) ?_
          first
            | refine s_storeB Try.sizeOf3 rfl rfl rfl hs (kk := 0) rfl rfl ?_
            | refine s_storeB Try.sizeOf3 rfl rfl rfl hs (kk := 1) rfl rfl ?_
          clear hs; intro w hs; try simp only [List.set_cons_zero, List.set_cons_succ, splice, List.take_succ_cons, List.take_zero, List.drop_succ_cons, List.drop_zero, List.nil_append, List.cons_append, List.length_cons, List.length_nil, Nat.reduceAdd, List.append_assoc] at hs
          refine WL_nil ?_
          refine n_blk ?_
          refine n_then ?_
          refine W_region ?_
          refine s_move rfl rfl ?_
          first | (refine s_add' rfl rfl rfl ?hx ?_; case hx => (constructor <;> first | omega | (simp only; omega))) | refine s_add rfl rfl rfl ?_
          refine s_assign rfl rfl ?_
          refine WL_nil ?_
          refine n_loop ?_
          exact ⟨i + 1, ⟨rfl, rfl, rfl, rfl, trivial⟩, ⟨hs, by omega, by omega⟩, by omega⟩
        · skip
          try simp only [decide_eq_true_eq, decide_eq_false_iff_not, bne_iff_ne, ne_eq, bne_eq_false_iff_eq, beq_iff_eq, beq_eq_false_iff_ne, gt_iff_lt] at hc55
          rw [hc55] at hv9
          have hv8 : 2 * ((va (bitsAt ys k i) : Nat) : Int) = ((va (bitsAt ys k (i + 1)) : Nat) : Int) := by rw [hv9]; simp
          rw [hv8]
          refine W_skip ?_
          refine n_then ?_
          refine W_region ?_
          refine s_move rfl rfl ?_
          refine s_move rfl rfl ?_
          refine s_nilCheck rfl rfl ?_
          refine s_fieldAddr rfl rfl (FA49_1 _ _) ?_
          first
            | refine s_load Try.isAgg3 rfl rfl (hs.cell (k := 0) rfl rfl) ?_
            | refine s_load Try.isAgg3 rfl rfl (hs.cell (k := 1) rfl rfl) ?_
          (refine s_add' rfl rfl rfl ?hx ?_; case hx => (constructor <;> omega))
          rw [show ((k + i : Nat) : Int) + 1 = ((k + (i + 1) : Nat) : Int) from by omega]
          refine s_nilCheck rfl rfl ?_
          refine s_fieldAddr rfl rfl (FA49_1 _ _) ?_
          first
            | refine s_storeB Try.sizeOf3 rfl rfl rfl hs (kk := 0) rfl rfl ?_
            | refine s_storeB Try.sizeOf3 rfl rfl rfl hs (kk := 1) rfl rfl ?_
          clear hs; intro w hs; try simp only [List.set_cons_zero, List.set_cons_succ, splice, List.take_succ_cons, List.take_zero, List.drop_succ_cons, List.drop_zero, List.nil_append, List.cons_append, List.length_cons, List.length_nil, Nat.reduceAdd, List.append_assoc] at hs
          refine WL_nil ?_
          refine n_blk ?_
          refine n_then ?_
          refine W_region ?_
          refine s_move rfl rfl ?_
          first | (refine s_add' rfl rfl rfl ?hx ?_; case hx => (constructor <;> first | omega | (simp only; omega))) | refine s_add rfl rfl rfl ?_
          refine s_assign rfl rfl ?_
          refine WL_nil ?_
          refine n_loop ?_
          exact ⟨i + 1, ⟨rfl, rfl, rfl, rfl, trivial⟩, ⟨hs, by omega, by omega⟩, by omega⟩
      · skip
        try simp only [decide_eq_true_eq, decide_eq_false_iff_not, bne_iff_ne, ne_eq, bne_eq_false_iff_eq, beq_iff_eq, beq_eq_false_iff_ne, gt_iff_lt] at hc41
        refine W_exit ?_
        refine x_then ?_
        refine x_then ?_
        refine exit_hit ?_
        refine n_then ?_
        refine W_seq ?_
        refine W_region ?_
        refine s_move rfl rfl ?_
        refine s_assign rfl rfl ?_
        refine WL_nil ?_
        refine n_then ?_
        refine W_ret ?_
        rcases hV with ⟨h1, rfl⟩ | ⟨h1, h2, rfl⟩
        · have := hei h1
          subst this
          exact end1 rfl rfl ⟨_, hs, ⟨_, Lb, bs, rfl, hO, hbs, hk, hl⟩, rfl⟩
        · subst h1
          obtain rfl : i = c := by omega
          exact end1 rfl rfl ⟨_, hs, ⟨_, Lb, bs, rfl, hO, hbs, by simp only; omega, hl⟩, rfl⟩
    · skip
      try simp only [decide_eq_true_eq, decide_eq_false_iff_not, bne_iff_ne, ne_eq, bne_eq_false_iff_eq, beq_iff_eq, beq_eq_false_iff_ne, gt_iff_lt] at hg35
      refine WL_skip rfl rfl rfl ?_
      refine WL_skip rfl rfl rfl ?_
      refine WL_skip rfl rfl rfl ?_
      refine WL_skip rfl rfl rfl ?_
      refine WL_skip rfl rfl rfl ?_
      refine s_pick_f rfl rfl rfl ?_
      refine WL_nil ?_
      refine n_then ?_
      refine W_cond_f rfl ?_
      refine W_exit ?_
      refine x_then ?_
      refine x_then ?_
      refine exit_hit ?_
      refine n_then ?_
      refine W_seq ?_
      refine W_region ?_
      refine s_move rfl rfl ?_
      refine s_assign rfl rfl ?_
      refine WL_nil ?_
      refine n_then ?_
      refine W_ret ?_
      rcases hV with ⟨h1, rfl⟩ | ⟨h1, h2, rfl⟩
      · have := hei h1
        subst this
        exact end1 rfl rfl ⟨_, hs, ⟨_, Lb, bs, rfl, hO, hbs, hk, hl⟩, rfl⟩
      · subst h1
        obtain rfl : i = c := by omega
        exact end1 rfl rfl ⟨_, hs, ⟨_, Lb, bs, rfl, hO, hbs, by simp only; omega, hl⟩, rfl⟩
/-! Unary -/
set_option maxHeartbeats 1000000 in
theorem fUnary_ok (p : Nat) (ys : List Int) (k : Nat) (e most : Int) (L0 : Hp) (w0 : World) (hR : RfAt p ys k e L0) (hs : St (ids L0) w0 w0 L0) :
    Ret Try.prog 28 [.pointer (some ⟨p, 0, none⟩), .int .i64 most].toArray w0 fun r w' => ∃ L', St (ids L0) w0 w' L' ∧ RfAt p ys (ruV ys k e most).2.1 (ruV ys k e most).2.2 L' ∧ r = .int .i64 ((ruV ys k e most).1 : Int) := by
  generalize hV : ruV ys k e most = V
  unfold ruV at hV
  have hmx : (if 0 < most then most else 0) = (most.toNat : Int) := by split <;> omega
  generalize most.toNat = m at *
  obtain ⟨v, Lb, bs, hL, hO, hbs, hk, hl⟩ := hR
  obtain ⟨_, vc, va', rfl, rfl⟩ := hO.form
  have hbl := hbs.1
  replace hs : St (ids L0) w0 w0 ((p, Blk 49 [.slice va' bs.length vc, .int .i64 (k : Int), .int .i64 e]) :: Lb) := by rw [hL] at hs ⊢; exact hs
  refine Ret_startL hs fun w hs => ?_
  refine Ret_of Try.func28 rfl Try.ntmps28 rfl ?_
  refine W_seq ?_
  refine W_region ?_
  refine s_assign rfl rfl ?_
  refine WL_nil ?_
  refine n_then ?_
  refine W_seq ?_
  refine W_seq ?_
  refine W_region ?_
  refine s_assign rfl rfl ?_
  refine WL_nil ?_
  refine n_then ?_
  refine W_block ?_
  refine W_loop (σ := Nat × Int) (fun s => [(0, .pointer (some ⟨p, 0, none⟩)), (1, .int .i64 most), (5, .int .i64 (s.1 : Int))]) (fun s w => St (ids L0) w0 w ((p, Blk 49 [.slice va' bs.length vc, .int .i64 (k : Int), .int .i64 s.2]) :: Lb) ∧ s.1 ≤ 1000000 ∧ ((s.2 ≠ 0 ∧ V = (0, k, s.2)) ∨ (s.2 = 0 ∧ s.1 ≤ 8 * ys.length - k ∧ s.1 ≤ m ∧ ruGo ys k m (8 * ys.length - k - s.1) s.1 = V))) (fun s => if s.2 = 0 then 8 * ys.length - k - s.1 + 1 else 0) (0, e) ⟨rfl, rfl, rfl, trivial⟩ ⟨hs, by simp, ?hi⟩ ?_
  case hi =>
    by_cases h : e ≠ 0
    · rw [if_pos h] at hV; exact .inl ⟨h, hV.symm⟩
    · rw [if_neg h] at hV; exact .inr ⟨by simp only; omega, Nat.zero_le _, Nat.zero_le _, hV⟩
  clear hs hV hL
  rintro ⟨n, e⟩ w ⟨hs, hn1, hV⟩
  simp only at hs hV hn1 ⊢
  refine W_seq ?_
  refine W_seq ?_
  refine W_region ?_
  refine s_move rfl rfl ?_
  refine s_nilCheck rfl rfl ?_
  refine s_fieldAddr rfl rfl (FA49_2 _ _) ?_
  first
    | refine s_load Try.isAgg47 rfl rfl (hs.cell (k := 0) rfl rfl) ?_
    | refine s_load Try.isAgg47 rfl rfl (hs.cell (k := 1) rfl rfl) ?_
  refine s_eql rfl rfl rfl ?_
  refine WL_nil ?_
  refine n_then ?_
  refine W_cond rfl (fun hc10 => ?_) (fun hc10 => ?_)
  · skip
    try simp only [decide_eq_true_eq, decide_eq_false_iff_not, bne_iff_ne, ne_eq, bne_eq_false_iff_eq, beq_iff_eq, beq_eq_false_iff_ne, Bool.not_eq_true', Bool.not_eq_false', ge_iff_le] at hc10
    subst hc10
    obtain ⟨hn, hnm, hgo⟩ : n ≤ 8 * ys.length - k ∧ n ≤ m ∧ ruGo ys k m (8 * ys.length - k - n) n = V := by
      rcases hV with ⟨h, _⟩ | ⟨_, h⟩
      · exact absurd rfl h
      · exact h
    clear hV
    refine W_skip ?_
    refine n_then ?_
    refine W_seq ?_
    refine W_block ?_
    refine W_seq ?_
    refine W_seq ?_
    refine W_draw [(0, true, []), (1, true, []), (2, true, []), (3, true, []), (4, true, []), (5, true, []), (6, true, []), (7, true, []), (8, true, []), (9, true, []), (10, true, []), (11, true, [])] MX (by kernel_rfl) ?_
    intro w1 hw1 hw2 hw3 hw4; replace hs := hs.redrawn hw1 hw2 hw3 hw4; clear hw1 hw2 hw3 hw4
    obtain ⟨w, rfl⟩ : ∃ w : World, w = w1 := ⟨_, rfl⟩
    refine D_q rfl rfl ?_
    refine s_move rfl rfl ?_
    refine D_qn ?_
    refine D_q rfl rfl ?_
    refine s_nilCheck rfl rfl ?_
    refine D_qn ?_
    refine D_q rfl rfl ?_
    refine s_fieldAddr rfl rfl (FA49_1 _ _) ?_
    refine D_qn ?_
    refine D_q rfl rfl ?_
    first
      | refine s_load Try.isAgg3 rfl rfl (hs.cell (k := 0) rfl rfl) ?_
      | refine s_load Try.isAgg3 rfl rfl (hs.cell (k := 1) rfl rfl) ?_
    refine D_qn ?_
    refine D_q rfl rfl ?_
    refine s_move rfl rfl ?_
    refine D_qn ?_
    refine D_q rfl rfl ?_
    (refine s_add' rfl rfl rfl ?hx ?_; case hx => (constructor <;> omega))
    refine D_qn ?_
    refine D_q rfl rfl ?_
    refine s_move rfl rfl ?_
    refine D_qn ?_
    refine D_q rfl rfl ?_
    refine s_nilCheck rfl rfl ?_
    refine D_qn ?_
    refine D_q rfl rfl ?_
    refine s_fieldAddr rfl rfl (FA49_0 _ _) ?_
    refine D_qn ?_
    refine D_q rfl rfl ?_
    first
      | refine s_load Try.isAgg32 rfl rfl (hs.cell (k := 0) rfl rfl) ?_
      | refine s_load Try.isAgg32 rfl rfl (hs.cell (k := 1) rfl rfl) ?_
    refine D_qn ?_
    refine D_q rfl rfl ?_
    refine s_len rfl rfl (LN32 _ _ _ _) ?_
    refine D_qn ?_
    refine D_q rfl rfl ?_
    refine s_geq rfl rfl rfl ?_
    refine D_qn ?_
    refine D_nil ?_
    refine n_then ?_
    refine W_cond rfl (fun hc24 => ?_) (fun hc24 => ?_)
    · skip
      try simp only [decide_eq_true_eq, decide_eq_false_iff_not, bne_iff_ne, ne_eq, bne_eq_false_iff_eq, beq_iff_eq, beq_eq_false_iff_ne, Bool.not_eq_true', Bool.not_eq_false', ge_iff_le] at hc24
      rw [show 8 * ys.length - k - n = 0 by omega] at hgo
      simp only [ruGo] at hgo
      refine W_seq ?_
      refine W_region ?_
      refine s_move rfl rfl ?_
      refine s_nilCheck rfl rfl ?_
      refine s_fieldAddr rfl rfl (FA49_2 _ _) ?_
      first
        | refine s_storeB Try.sizeOf47 rfl rfl rfl hs (kk := 0) rfl rfl ?_
        | refine s_storeB Try.sizeOf47 rfl rfl rfl hs (kk := 1) rfl rfl ?_
      clear hs; intro w hs; try simp only [List.set_cons_zero, List.set_cons_succ, splice, List.take_succ_cons, List.take_zero, List.drop_succ_cons, List.drop_zero, List.nil_append, List.cons_append, List.length_cons, List.length_nil, Nat.reduceAdd, List.append_assoc] at hs
      refine WL_nil ?_
      refine n_then ?_
      refine W_exit ?_
      refine x_then ?_
      refine exit_miss rfl ?_
      refine x_then ?_
      refine x_then ?_
      refine exit_hit ?_
      refine n_then ?_
      refine W_seq ?_
      refine W_region ?_
      refine s_assign rfl rfl ?_
      refine WL_nil ?_
      refine n_then ?_
      refine W_ret ?_
      first
        | (subst hgo
           exact end1 rfl rfl ⟨_, hs, ⟨_, _, bs, rfl, hO, hbs, by simp only; omega, hl⟩, rfl⟩)
        | (rcases hV with ⟨h, rfl⟩ | ⟨h, _⟩
           · exact end1 rfl rfl ⟨_, hs, ⟨_, _, bs, rfl, hO, hbs, hk, hl⟩, rfl⟩
           · exact absurd h hc10)
    · skip
      try simp only [decide_eq_true_eq, decide_eq_false_iff_not, bne_iff_ne, ne_eq, bne_eq_false_iff_eq, beq_iff_eq, beq_eq_false_iff_ne, Bool.not_eq_true', Bool.not_eq_false', ge_iff_le] at hc24
      rw [show 8 * ys.length - k - n = (8 * ys.length - k - n - 1) + 1 by omega] at hgo
      simp only [ruGo] at hgo
      obtain ⟨g, gc, sp, hgv, hgc, rfl⟩ := hO.block (by omega)
      cases hgv
      have hat := bl_at (sp := sp) hbs (show k + n < 8 * ys.length by omega)
      refine W_skip ?_
      refine n_then ?_
      refine W_seq ?_
      refine W_seq ?_
      refine W_draw [(0, true, []), (1, true, []), (2, true, []), (3, true, []), (4, true, []), (5, true, []), (6, true, []), (7, true, []), (8, true, []), (9, true, []), (10, true, []), (11, true, []), (12, true, [])] MX (by kernel_rfl) ?_
      intro w1 hw1 hw2 hw3 hw4; replace hs := hs.redrawn hw1 hw2 hw3 hw4; clear hw1 hw2 hw3 hw4
      obtain ⟨w, rfl⟩ : ∃ w : World, w = w1 := ⟨_, rfl⟩
      refine D_q rfl rfl ?_
      refine s_move rfl rfl ?_
      refine D_qn ?_
      refine D_q rfl rfl ?_
      refine s_nilCheck rfl rfl ?_
      refine D_qn ?_
      refine D_q rfl rfl ?_
      refine s_fieldAddr rfl rfl (FA49_0 _ _) ?_
      refine D_qn ?_
      refine D_q rfl rfl ?_
      first
        | refine s_load Try.isAgg32 rfl rfl (hs.cell (k := 0) rfl rfl) ?_
        | refine s_load Try.isAgg32 rfl rfl (hs.cell (k := 1) rfl rfl) ?_
      refine D_qn ?_
      refine D_q rfl rfl ?_
      refine s_move rfl rfl ?_
      refine D_qn ?_
      refine D_q rfl rfl ?_
      refine s_nilCheck rfl rfl ?_
      refine D_qn ?_
      refine D_q rfl rfl ?_
      refine s_fieldAddr rfl rfl (FA49_1 _ _) ?_
      refine D_qn ?_
      refine D_q rfl rfl ?_
      first
        | refine s_load Try.isAgg3 rfl rfl (hs.cell (k := 0) rfl rfl) ?_
        | refine s_load Try.isAgg3 rfl rfl (hs.cell (k := 1) rfl rfl) ?_
      refine D_qn ?_
      refine D_q rfl rfl ?_
      refine s_move rfl rfl ?_
      refine D_qn ?_
      refine D_q rfl rfl ?_
      (refine s_add' rfl rfl rfl ?hx ?_; case hx => (constructor <;> omega))
      rw [show (k : Int) + (n : Int) = ((k + n : Nat) : Int) from by omega]
      refine D_qn ?_
      refine D_q rfl rfl ?_
      (refine s_indexAddr1 El32 rfl rfl rfl ?hx ?_; case hx => (constructor <;> first | omega | (simp; omega)))
      refine D_qn ?_
      refine D_q rfl rfl ?_
      refine s_load Try.isAgg4 rfl rfl (hs.cell (k := 1) rfl hat) ?_
      refine D_qn ?_
      refine D_q rfl rfl ?_
      refine s_not rfl rfl ?_
      refine D_qn ?_
      refine D_nil ?_
      refine n_then ?_
      refine W_cond rfl (fun hc40 => ?_) (fun hc40 => ?_)
      · skip
        try simp only [decide_eq_true_eq, decide_eq_false_iff_not, bne_iff_ne, ne_eq, bne_eq_false_iff_eq, beq_iff_eq, beq_eq_false_iff_ne, Bool.not_eq_true', Bool.not_eq_false', ge_iff_le] at hc40
        rw [if_pos hc40] at hgo
        refine W_seq ?_
        refine W_region ?_
        refine s_move rfl rfl ?_
        refine s_move rfl rfl ?_
        refine s_nilCheck rfl rfl ?_
        refine s_fieldAddr rfl rfl (FA49_1 _ _) ?_
        first
          | refine s_load Try.isAgg3 rfl rfl (hs.cell (k := 0) rfl rfl) ?_
          | refine s_load Try.isAgg3 rfl rfl (hs.cell (k := 1) rfl rfl) ?_
        refine s_move rfl rfl ?_
        first | (refine s_add' rfl rfl rfl ?hx ?_; case hx => (constructor <;> first | omega | (simp only; omega))) | refine s_add rfl rfl rfl ?_
        (refine s_add' rfl rfl rfl ?hx ?_; case hx => (constructor <;> omega))
        rw [show (k : Int) + (n : Int) + 1 = ((k + n + 1 : Nat) : Int) from by omega]
        refine s_nilCheck rfl rfl ?_
        refine s_fieldAddr rfl rfl (FA49_1 _ _) ?_
        first
          | refine s_storeB Try.sizeOf3 rfl rfl rfl hs (kk := 0) rfl rfl ?_
          | refine s_storeB Try.sizeOf3 rfl rfl rfl hs (kk := 1) rfl rfl ?_
        clear hs; intro w hs; try simp only [List.set_cons_zero, List.set_cons_succ, splice, List.take_succ_cons, List.take_zero, List.drop_succ_cons, List.drop_zero, List.nil_append, List.cons_append, List.length_cons, List.length_nil, Nat.reduceAdd, List.append_assoc] at hs
        refine WL_nil ?_
        refine n_then ?_
        refine W_seq ?_
        refine W_region ?_
        refine s_move rfl rfl ?_
        refine s_assign rfl rfl ?_
        refine WL_nil ?_
        refine n_then ?_
        refine W_ret ?_
        refine r_then ?_
        refine r_blk ?_
        refine r_then ?_
        refine r_then ?_
        refine r_blk ?_
        refine r_then ?_
        first
          | (subst hgo
             exact end1 rfl rfl ⟨_, hs, ⟨_, _, bs, rfl, hO, hbs, by simp only; omega, hl⟩, rfl⟩)
          | (rcases hV with ⟨h, rfl⟩ | ⟨h, _⟩
             · exact end1 rfl rfl ⟨_, hs, ⟨_, _, bs, rfl, hO, hbs, hk, hl⟩, rfl⟩
             · exact absurd h hc10)
      · skip
        try simp only [decide_eq_true_eq, decide_eq_false_iff_not, bne_iff_ne, ne_eq, bne_eq_false_iff_eq, beq_iff_eq, beq_eq_false_iff_ne, Bool.not_eq_true', Bool.not_eq_false', ge_iff_le] at hc40
        rw [if_neg (by rw [hc40]; simp)] at hgo
        refine W_skip ?_
        refine n_then ?_
        refine W_seq ?_
        refine W_region ?_
        refine s_move rfl rfl ?_
        refine s_move rfl rfl ?_
        refine s_max rfl rfl rfl ?_
        rw [hmx]
        refine s_geq rfl rfl rfl ?_
        refine WL_nil ?_
        refine n_then ?_
        refine W_cond rfl (fun hc55 => ?_) (fun hc55 => ?_)
        · skip
          try simp only [decide_eq_true_eq, decide_eq_false_iff_not, bne_iff_ne, ne_eq, bne_eq_false_iff_eq, beq_iff_eq, beq_eq_false_iff_ne, Bool.not_eq_true', Bool.not_eq_false', ge_iff_le] at hc55
          rw [if_pos (by omega)] at hgo
          refine W_region ?_
          refine s_move rfl rfl ?_
          refine s_nilCheck rfl rfl ?_
          refine s_fieldAddr rfl rfl (FA49_2 _ _) ?_
          first
            | refine s_storeB Try.sizeOf47 rfl rfl rfl hs (kk := 0) rfl rfl ?_
            | refine s_storeB Try.sizeOf47 rfl rfl rfl hs (kk := 1) rfl rfl ?_
          clear hs; intro w hs; try simp only [List.set_cons_zero, List.set_cons_succ, splice, List.take_succ_cons, List.take_zero, List.drop_succ_cons, List.drop_zero, List.nil_append, List.cons_append, List.length_cons, List.length_nil, Nat.reduceAdd, List.append_assoc] at hs
          refine WL_nil ?_
          refine n_blk ?_
          refine n_then ?_
          refine W_region ?_
          refine s_move rfl rfl ?_
          first | (refine s_add' rfl rfl rfl ?hx ?_; case hx => (constructor <;> first | omega | (simp only; omega))) | refine s_add rfl rfl rfl ?_
          refine s_assign rfl rfl ?_
          refine WL_nil ?_
          refine n_loop ?_
          first
            | exact ⟨(n + 1, 0), ⟨rfl, rfl, rfl, trivial⟩, ⟨hs, by simp only; omega, .inr ⟨rfl, by simp only; omega, by simp only; omega, by simp only; rw [← hgo]; congr 1⟩⟩, by simp only [if_true]; omega⟩
            | exact ⟨(n + 1, 4), ⟨rfl, rfl, rfl, trivial⟩, ⟨hs, by simp only; omega, .inl ⟨by simp, hgo.symm⟩⟩, by simp⟩
        · skip
          try simp only [decide_eq_true_eq, decide_eq_false_iff_not, bne_iff_ne, ne_eq, bne_eq_false_iff_eq, beq_iff_eq, beq_eq_false_iff_ne, Bool.not_eq_true', Bool.not_eq_false', ge_iff_le] at hc55
          rw [if_neg (by omega)] at hgo
          refine W_skip ?_
          refine n_blk ?_
          refine n_then ?_
          refine W_region ?_
          refine s_move rfl rfl ?_
          first | (refine s_add' rfl rfl rfl ?hx ?_; case hx => (constructor <;> first | omega | (simp only; omega))) | refine s_add rfl rfl rfl ?_
          refine s_assign rfl rfl ?_
          refine WL_nil ?_
          refine n_loop ?_
          first
            | exact ⟨(n + 1, 0), ⟨rfl, rfl, rfl, trivial⟩, ⟨hs, by simp only; omega, .inr ⟨rfl, by simp only; omega, by simp only; omega, by simp only; rw [← hgo]; congr 1⟩⟩, by simp only [if_true]; omega⟩
            | exact ⟨(n + 1, 4), ⟨rfl, rfl, rfl, trivial⟩, ⟨hs, by simp only; omega, .inl ⟨by simp, hgo.symm⟩⟩, by simp⟩
  · skip
    try simp only [decide_eq_true_eq, decide_eq_false_iff_not, bne_iff_ne, ne_eq, bne_eq_false_iff_eq, beq_iff_eq, beq_eq_false_iff_ne, Bool.not_eq_true', Bool.not_eq_false', ge_iff_le] at hc10
    refine W_exit ?_
    refine x_then ?_
    refine x_then ?_
    refine exit_hit ?_
    refine n_then ?_
    refine W_seq ?_
    refine W_region ?_
    refine s_assign rfl rfl ?_
    refine WL_nil ?_
    refine n_then ?_
    refine W_ret ?_
    first
      | (subst hgo
         exact end1 rfl rfl ⟨_, hs, ⟨_, _, bs, rfl, hO, hbs, by simp only; omega, hl⟩, rfl⟩)
      | (rcases hV with ⟨h, rfl⟩ | ⟨h, _⟩
         · exact end1 rfl rfl ⟨_, hs, ⟨_, _, bs, rfl, hO, hbs, hk, hl⟩, rfl⟩
         · exact absurd h hc10)
theorem fEnd_ok (p : Nat) (ys : List Int) (k : Nat) (e : Int) (L0 : Hp) (w0 : World) (hR : RfAt p ys k e L0) (hs : St (ids L0) w0 w0 L0) :
    Ret Try.prog 31 [.pointer (some ⟨p, 0, none⟩)].toArray w0 fun r w' => ∃ L', St (ids L0) w0 w' L' ∧ L' = L0 ∧ r = .int .i64 (reV ys k e) := by
  unfold reV
  obtain ⟨v, Lb, bs, hL, hO, hbs, hk, hl⟩ := hR
  obtain ⟨_, vc, va', rfl, rfl⟩ := hO.form
  have hbl := hbs.1
  replace hs : St (ids L0) w0 w0 ((p, Blk 49 [.slice va' bs.length vc, .int .i64 (k : Int), .int .i64 e]) :: Lb) := by rw [hL] at hs ⊢; exact hs
  refine Ret_startL hs fun w hs => ?_
  refine Ret_of Try.func31 rfl Try.ntmps31 rfl ?_
  refine W_seq ?_
  refine W_region ?_
  refine s_assign rfl rfl ?_
  refine WL_nil ?_
  refine n_then ?_
  refine W_seq ?_
  refine W_seq ?_
  refine W_region ?_
  refine s_move rfl rfl ?_
  refine s_nilCheck rfl rfl ?_
  refine s_fieldAddr rfl rfl (FA49_2 _ _) ?_
  first
    | refine s_load Try.isAgg47 rfl rfl (hs.cell (k := 0) rfl rfl) ?_
    | refine s_load Try.isAgg47 rfl rfl (hs.cell (k := 1) rfl rfl) ?_
  refine s_neq rfl rfl rfl ?_
  refine WL_nil ?_
  refine n_then ?_
  refine W_cond rfl (fun hc8 => ?_) (fun hc8 => ?_)
  · skip
    try simp only [decide_eq_true_eq, decide_eq_false_iff_not, bne_iff_ne, ne_eq, bne_eq_false_iff_eq, ge_iff_le] at hc8
    refine W_seq ?_
    refine W_region ?_
    refine s_move rfl rfl ?_
    refine s_nilCheck rfl rfl ?_
    refine s_fieldAddr rfl rfl (FA49_2 _ _) ?_
    first
      | refine s_load Try.isAgg47 rfl rfl (hs.cell (k := 0) rfl rfl) ?_
      | refine s_load Try.isAgg47 rfl rfl (hs.cell (k := 1) rfl rfl) ?_
    refine s_assign rfl rfl ?_
    refine WL_nil ?_
    refine n_then ?_
    refine W_ret ?_
    refine r_then ?_
    first
      | (refine end1 rfl rfl ⟨_, hs, hL.symm, ?_⟩
         rw [if_pos (show e ≠ 0 from hc8)]; done)
      | (refine end1 rfl rfl ⟨_, hs, hL.symm, ?_⟩
         rw [if_neg (show ¬ e ≠ 0 by omega), if_pos (by omega)]; done)
      | (refine end1 rfl rfl ⟨_, hs, hL.symm, ?_⟩
         rw [if_neg (show ¬ e ≠ 0 by omega), if_neg (by omega), if_pos (List.any_eq_true.2 ⟨n, List.mem_range.2 (by omega), hc43⟩)]; done)
      | (refine end1 rfl rfl ⟨_, hs, hL.symm, ?_⟩
         rw [if_neg (show ¬ e ≠ 0 by omega), if_neg (by omega), if_neg]
         intro h
         obtain ⟨j, hj, hj2⟩ := List.any_eq_true.1 h
         have := hz j (by have := List.mem_range.1 hj; omega)
         rw [this] at hj2; cases hj2)
  · skip
    try simp only [decide_eq_true_eq, decide_eq_false_iff_not, bne_iff_ne, ne_eq, bne_eq_false_iff_eq, ge_iff_le] at hc8
    refine W_skip ?_
    refine n_then ?_
    refine W_seq ?_
    refine W_seq ?_
    refine W_draw [(0, true, []), (1, true, []), (2, true, []), (3, true, []), (4, true, []), (5, true, []), (6, true, []), (7, true, []), (8, true, []), (9, true, []), (10, true, [])] MX (by kernel_rfl) ?_
    intro w1 hw1 hw2 hw3 hw4; replace hs := hs.redrawn hw1 hw2 hw3 hw4; clear hw1 hw2 hw3 hw4
    obtain ⟨w, rfl⟩ : ∃ w : World, w = w1 := ⟨_, rfl⟩
    refine D_q rfl rfl ?_
    refine s_move rfl rfl ?_
    refine D_qn ?_
    refine D_q rfl rfl ?_
    refine s_nilCheck rfl rfl ?_
    refine D_qn ?_
    refine D_q rfl rfl ?_
    refine s_fieldAddr rfl rfl (FA49_0 _ _) ?_
    refine D_qn ?_
    refine D_q rfl rfl ?_
    first
      | refine s_load Try.isAgg32 rfl rfl (hs.cell (k := 0) rfl rfl) ?_
      | refine s_load Try.isAgg32 rfl rfl (hs.cell (k := 1) rfl rfl) ?_
    refine D_qn ?_
    refine D_q rfl rfl ?_
    refine s_len rfl rfl (LN32 _ _ _ _) ?_
    refine D_qn ?_
    refine D_q rfl rfl ?_
    refine s_move rfl rfl ?_
    refine D_qn ?_
    refine D_q rfl rfl ?_
    refine s_nilCheck rfl rfl ?_
    refine D_qn ?_
    refine D_q rfl rfl ?_
    refine s_fieldAddr rfl rfl (FA49_1 _ _) ?_
    refine D_qn ?_
    refine D_q rfl rfl ?_
    first
      | refine s_load Try.isAgg3 rfl rfl (hs.cell (k := 0) rfl rfl) ?_
      | refine s_load Try.isAgg3 rfl rfl (hs.cell (k := 1) rfl rfl) ?_
    refine D_qn ?_
    refine D_q rfl rfl ?_
    first | (refine s_sub' rfl rfl rfl ?hx ?_; case hx => (constructor <;> first | omega | (simp only; omega))) | refine s_sub rfl rfl rfl ?_
    refine D_qn ?_
    refine D_q rfl rfl ?_
    refine s_geq rfl rfl rfl ?_
    refine D_qn ?_
    refine D_nil ?_
    refine n_then ?_
    refine W_cond rfl (fun hc23 => ?_) (fun hc23 => ?_)
    · skip
      try simp only [decide_eq_true_eq, decide_eq_false_iff_not, bne_iff_ne, ne_eq, bne_eq_false_iff_eq, ge_iff_le] at hc23
      refine W_seq ?_
      refine W_region ?_
      refine s_assign rfl rfl ?_
      refine WL_nil ?_
      refine n_then ?_
      refine W_ret ?_
      refine r_then ?_
      first
        | (refine end1 rfl rfl ⟨_, hs, hL.symm, ?_⟩
           rw [if_pos (show e ≠ 0 from hc8)]; done)
        | (refine end1 rfl rfl ⟨_, hs, hL.symm, ?_⟩
           rw [if_neg (show ¬ e ≠ 0 by omega), if_pos (by omega)]; done)
        | (refine end1 rfl rfl ⟨_, hs, hL.symm, ?_⟩
           rw [if_neg (show ¬ e ≠ 0 by omega), if_neg (by omega), if_pos (List.any_eq_true.2 ⟨n, List.mem_range.2 (by omega), hc43⟩)]; done)
        | (refine end1 rfl rfl ⟨_, hs, hL.symm, ?_⟩
           rw [if_neg (show ¬ e ≠ 0 by omega), if_neg (by omega), if_neg]
           intro h
           obtain ⟨j, hj, hj2⟩ := List.any_eq_true.1 h
           have := hz j (by have := List.mem_range.1 hj; omega)
           rw [this] at hj2; cases hj2)
    · skip
      try simp only [decide_eq_true_eq, decide_eq_false_iff_not, bne_iff_ne, ne_eq, bne_eq_false_iff_eq, ge_iff_le] at hc23
      refine W_skip ?_
      refine n_then ?_
      refine W_seq ?_
      refine W_seq ?_
      refine W_region ?_
      refine s_move rfl rfl ?_
      refine s_nilCheck rfl rfl ?_
      refine s_fieldAddr rfl rfl (FA49_1 _ _) ?_
      first
        | refine s_load Try.isAgg3 rfl rfl (hs.cell (k := 0) rfl rfl) ?_
        | refine s_load Try.isAgg3 rfl rfl (hs.cell (k := 1) rfl rfl) ?_
      refine s_assign rfl rfl ?_
      refine WL_nil ?_
      refine n_then ?_
      refine W_block ?_
      refine W_loop (σ := Nat) (fun s => [(0, .pointer (some ⟨p, 0, none⟩)), (3, .int .i64 ((k + s : Nat) : Int))]) (fun s w => St (ids L0) w0 w ((p, Blk 49 [.slice va' bs.length vc, .int .i64 (k : Int), .int .i64 e]) :: Lb) ∧ s ≤ 8 * ys.length - k ∧ ∀ j, j < s → bitAt ys (k + j) = false) (fun s => 8 * ys.length - k - s) 0 ⟨rfl, rfl, trivial⟩ ⟨hs, Nat.zero_le _, fun j hj => absurd hj (Nat.not_lt_zero _)⟩ ?_
      clear hs
      rintro n w ⟨hs, hn, hz⟩
      refine W_seq ?_
      refine W_seq ?_
      refine W_region ?_
      refine s_move rfl rfl ?_
      refine s_move rfl rfl ?_
      refine s_nilCheck rfl rfl ?_
      refine s_fieldAddr rfl rfl (FA49_0 _ _) ?_
      first
        | refine s_load Try.isAgg32 rfl rfl (hs.cell (k := 0) rfl rfl) ?_
        | refine s_load Try.isAgg32 rfl rfl (hs.cell (k := 1) rfl rfl) ?_
      refine s_len rfl rfl (LN32 _ _ _ _) ?_
      refine s_lss rfl rfl rfl ?_
      refine WL_nil ?_
      refine n_then ?_
      refine W_cond rfl (fun hc34 => ?_) (fun hc34 => ?_)
      · skip
        try simp only [decide_eq_true_eq, decide_eq_false_iff_not, bne_iff_ne, ne_eq, bne_eq_false_iff_eq, ge_iff_le] at hc34
        obtain ⟨g, gc, sp, hgv, hgc, rfl⟩ := hO.block (by omega)
        cases hgv
        have hat := bl_at (sp := sp) hbs (show k + n < 8 * ys.length by omega)
        refine W_skip ?_
        refine n_then ?_
        refine W_seq ?_
        refine W_block ?_
        refine W_seq ?_
        refine W_region ?_
        refine s_move rfl rfl ?_
        refine s_nilCheck rfl rfl ?_
        refine s_fieldAddr rfl rfl (FA49_0 _ _) ?_
        first
          | refine s_load Try.isAgg32 rfl rfl (hs.cell (k := 0) rfl rfl) ?_
          | refine s_load Try.isAgg32 rfl rfl (hs.cell (k := 1) rfl rfl) ?_
        refine s_move rfl rfl ?_
        (refine s_indexAddr1 El32 rfl rfl rfl ?hx ?_; case hx => (constructor <;> first | omega | (simp; omega)))
        refine s_load Try.isAgg4 rfl rfl (hs.cell (k := 1) rfl hat) ?_
        refine WL_nil ?_
        refine n_then ?_
        refine W_cond rfl (fun hc43 => ?_) (fun hc43 => ?_)
        · skip
          try simp only [decide_eq_true_eq, decide_eq_false_iff_not, bne_iff_ne, ne_eq, bne_eq_false_iff_eq, ge_iff_le] at hc43
          refine W_seq ?_
          refine W_region ?_
          refine s_assign rfl rfl ?_
          refine WL_nil ?_
          refine n_then ?_
          refine W_ret ?_
          refine r_blk ?_
          refine r_then ?_
          refine r_then ?_
          refine r_blk ?_
          refine r_then ?_
          first
            | (refine end1 rfl rfl ⟨_, hs, hL.symm, ?_⟩
               rw [if_pos (show e ≠ 0 from hc8)]; done)
            | (refine end1 rfl rfl ⟨_, hs, hL.symm, ?_⟩
               rw [if_neg (show ¬ e ≠ 0 by omega), if_pos (by omega)]; done)
            | (refine end1 rfl rfl ⟨_, hs, hL.symm, ?_⟩
               rw [if_neg (show ¬ e ≠ 0 by omega), if_neg (by omega), if_pos (List.any_eq_true.2 ⟨n, List.mem_range.2 (by omega), hc43⟩)]; done)
            | (refine end1 rfl rfl ⟨_, hs, hL.symm, ?_⟩
               rw [if_neg (show ¬ e ≠ 0 by omega), if_neg (by omega), if_neg]
               intro h
               obtain ⟨j, hj, hj2⟩ := List.any_eq_true.1 h
               have := hz j (by have := List.mem_range.1 hj; omega)
               rw [this] at hj2; cases hj2)
        · skip
          try simp only [decide_eq_true_eq, decide_eq_false_iff_not, bne_iff_ne, ne_eq, bne_eq_false_iff_eq, ge_iff_le] at hc43
          refine W_skip ?_
          refine n_blk ?_
          refine n_then ?_
          refine W_region ?_
          refine s_move rfl rfl ?_
          (refine s_add' rfl rfl rfl ?hx ?_; case hx => (constructor <;> omega))
          rw [show ((k + n : Nat) : Int) + 1 = ((k + (n + 1) : Nat) : Int) from by omega]
          refine s_assign rfl rfl ?_
          refine WL_nil ?_
          refine n_loop ?_
          exact ⟨n + 1, ⟨rfl, rfl, trivial⟩, ⟨hs, by omega, fun j hj => by
            rcases Nat.lt_or_ge j n with h | h
            · exact hz j h
            · rw [show j = n by omega]; exact hc43⟩, by omega⟩
      · skip
        try simp only [decide_eq_true_eq, decide_eq_false_iff_not, bne_iff_ne, ne_eq, bne_eq_false_iff_eq, ge_iff_le] at hc34
        refine W_exit ?_
        refine x_then ?_
        refine x_then ?_
        refine exit_hit ?_
        refine n_then ?_
        refine W_seq ?_
        refine W_region ?_
        refine s_assign rfl rfl ?_
        refine WL_nil ?_
        refine n_then ?_
        refine W_ret ?_
        first
          | (refine end1 rfl rfl ⟨_, hs, hL.symm, ?_⟩
             rw [if_pos (show e ≠ 0 from hc8)]; done)
          | (refine end1 rfl rfl ⟨_, hs, hL.symm, ?_⟩
             rw [if_neg (show ¬ e ≠ 0 by omega), if_pos (by omega)]; done)
          | (refine end1 rfl rfl ⟨_, hs, hL.symm, ?_⟩
             rw [if_neg (show ¬ e ≠ 0 by omega), if_neg (by omega), if_pos (List.any_eq_true.2 ⟨n, List.mem_range.2 (by omega), hc43⟩)]; done)
          | (refine end1 rfl rfl ⟨_, hs, hL.symm, ?_⟩
             rw [if_neg (show ¬ e ≠ 0 by omega), if_neg (by omega), if_neg]
             intro h
             obtain ⟨j, hj, hj2⟩ := List.any_eq_true.1 h
             have := hz j (by have := List.mem_range.1 hj; omega)
             rw [this] at hj2; cases hj2)
/-! the law -/
set_option maxHeartbeats 4000000 in
theorem bitsReads_ok (rv v : Value) (raw xs : List Int) (most : Int) (w0 : World) (hr : Sl w0 rv raw.length (u8s raw)) (hrB : ∀ z ∈ raw, isB z) (hv : Sl w0 v xs.length (i64s xs)) (hx : ∀ z ∈ xs, isI64 z) :
    Ret Try.prog 4 [rv, v, .int .i64 most].toArray w0 fun r w' => Fwd [] w0 w' ∧ r = .bool true := by
  obtain ⟨xa, xc, rfl, hxc⟩ := hv.len_le
  refine Ret_start fun w hs => ?_
  refine Ret_of Try.func4 rfl Try.ntmps4 rfl ?_
  refine W_seq ?_
  refine W_region ?_
  refine s_assign rfl rfl ?_
  refine WL_nil ?_
  refine n_then ?_
  refine W_seq ?_
  refine W_region ?_
  refine s_move rfl rfl ?_
  refine s_call Try.call21 rfl rfl (few_ok rv raw 60 w (hr.fwd0 hs.fwd) (by decide)) ?_
  rintro r w ⟨Ly, hOy, hst⟩
  replace hs := St.back0 hs hst
  simp only [List.append_nil] at hs
  clear hst
  have hyB : ∀ z ∈ raw.take 60, isB z := fun z hz => hrB z (List.mem_of_mem_take hz)
  have hyl : (raw.take 60).length = min raw.length 60 := by simp [Nat.min_comm]
  have hy60 : (raw.take 60).length ≤ 60 := by omega
  rw [← hyl] at hOy
  clear hyl
  generalize raw.take 60 = ys at *
  obtain ⟨_, yc, ya, rfl, rfl⟩ := hOy.form
  refine s_assign rfl rfl ?_
  refine WL_nil ?_
  refine n_then ?_
  refine W_seq ?_
  refine W_region ?_
  refine s_move rfl rfl ?_
  refine s_call Try.call22 rfl rfl (bRead_ok _ ys w (hOy.sl (M := []) (by simpa using hs)) (by omega) hyB) ?_
  rintro r w ⟨p, LP, rfl, hP, hst⟩
  replace hs := St.back0 hs hst
  clear hst
  refine s_assign rfl rfl ?_
  refine WL_nil ?_
  refine n_then ?_
  refine W_seq ?_
  refine W_region ?_
  refine s_move rfl rfl ?_
  refine s_call Try.call23 rfl rfl (unpack_ok _ ys w (hOy.slM (M := LP) (X := []) (by simpa using hs)) hyB (by omega)) ?_
  rintro r w ⟨bs, LU, hU, hbs, hst⟩
  replace hs := St.back0 hs hst
  clear hst
  obtain ⟨_, uc, ua, rfl, rfl⟩ := hU.form
  replace hs : St [] w0 w (LU ++ LP) := by rw [← List.append_assoc] at hs; exact hs.left
  refine s_build rfl rfl (BD49_0 _ _ _) ?_
  first | refine s_box rfl rfl hs ?_ | refine s_box1 rfl rfl rfl hs ?_
  clear hs; intro b19 w hs
  refine s_assign rfl rfl ?_
  refine WL_nil ?_
  refine n_then ?_
  refine W_seq ?_
  refine W_seq ?_
  refine W_region ?_
  obtain ⟨LQ, hLQ, hQ⟩ : ∃ LQ, (b19, Blk 49 [.slice ua bs.length uc, .int .i64 0, .int .i64 0]) :: LU = LQ ∧ RfAt b19 ys 0 0 LQ := ⟨_, rfl, _, LU, bs, rfl, hU, hbs, Nat.zero_le _, by omega⟩
  replace hs : St [] w0 w (LQ ++ LP) := by rw [← hLQ]; exact hs
  clear hLQ hU hbs hOy
  refine s_move rfl rfl ?_
  refine s_eql_ptr_nil Try.underlying43 rfl rfl rfl ?_
  refine WL_nil ?_
  refine n_then ?_
  refine W_cond_kf rfl (rfl) ?_
  refine W_skip ?_
  refine n_then ?_
  refine W_seq ?_
  refine W_seq ?_
  refine W_region ?_
  refine s_assign rfl rfl ?_
  refine WL_nil ?_
  refine n_then ?_
  refine W_block ?_
  refine W_loop (σ := Nat × Nat × Int × Hp × Hp) (fun s => [(1, .slice xa xs.length xc), (2, .int .i64 most), (8, .pointer (some ⟨p, 0, none⟩)), (9, .pointer (some ⟨b19, 0, none⟩)), (10, .int .i64 (s.1 : Int))]) (fun s w => St [] w0 w (s.2.2.2.1 ++ s.2.2.2.2) ∧ RfAt b19 ys s.2.1 s.2.2.1 s.2.2.2.1 ∧ RbAt p ys s.2.1 s.2.2.1 s.2.2.2.2 ∧ s.1 ≤ 14) (fun s => 14 - s.1) (0, 0, 0, LQ, LP) ⟨rfl, rfl, rfl, rfl, rfl, trivial⟩ ⟨hs, hQ, hP, Nat.zero_le _⟩ ?_
  clear hs hP hQ
  rintro ⟨i, k, e, LQ, LP⟩ w ⟨hs, hQ, hP, hi⟩
  simp only at hs hQ hP hi ⊢
  refine W_seq ?_
  refine W_seq ?_
  refine W_region ?_
  refine s_move rfl rfl ?_
  refine s_move rfl rfl ?_
  refine s_len rfl rfl (LN22 _ _ _ _) ?_
  refine s_lss rfl rfl rfl ?_
  refine s_move rfl rfl ?_
  refine WL_case (s := 26) rfl (fun hg26 => ?_) (fun hg26 => ?_)
  · skip
    try simp only [decide_eq_true_eq, decide_eq_false_iff_not, beq_iff_eq, beq_eq_false_iff_ne, ne_eq, bne_iff_ne, bne_eq_false_iff_eq] at hg26
    refine WL_take rfl ?_
    refine s_move rfl rfl ?_
    refine WL_take rfl ?_
    refine s_lss rfl rfl rfl ?_
    refine s_pick_t rfl rfl rfl ?_
    refine WL_nil ?_
    refine n_then ?_
    refine W_cond rfl (fun hc29 => ?_) (fun hc29 => ?_)
    · skip
      try simp only [decide_eq_true_eq, decide_eq_false_iff_not, beq_iff_eq, beq_eq_false_iff_ne, ne_eq, bne_iff_ne, bne_eq_false_iff_eq] at hc29
      have hix : i < xs.length := by omega
      obtain ⟨b1, o1, hA1, hc1⟩ := hv.at (k := i) (i64s_at' hix)
      have hB1 : b1 < w0.heap.size := World.block_lt_of_cell? w0 _ hc1
      have hm : isI64 (xs.getD i 0) := hx _ (by rw [List.getD_eq_getElem?_getD, List.getElem?_eq_getElem hix]; simp)
      generalize xs.getD i 0 = q at hc1 hm
      refine W_skip ?_
      refine n_then ?_
      refine W_seq ?_
      refine W_block ?_
      refine W_seq ?_
      refine W_region ?_
      refine s_move rfl rfl ?_
      refine s_move rfl rfl ?_
      (refine s_indexAddrO El22 rfl rfl rfl hA1 ?hx ?_; case hx => (constructor <;> omega))
      refine s_load Try.isAgg3 rfl rfl ((hs.oldcell (a := ⟨b1, o1 + i, none⟩) hB1 (by simp)).trans hc1) ?_
      (refine s_quo rfl rfl rfl ?hx ?_; case hx => omega)
      have hq2 : isI64 (IntKind.i64.wrap (q.tdiv 2)) := wrap_i64 _
      generalize IntKind.i64.wrap (q.tdiv 2) = z at hq2
      refine s_call Try.call24 rfl rfl (around_ok z 68 w (by omega) hq2) ?_
      rintro r w1 ⟨hw1, rfl⟩
      rw [hw1]; clear hw1 w1
      have har := aroundV_range (m := z) (q := 68) (by omega)
      generalize aroundV z 68 = cv at har
      first | (refine s_sub' rfl rfl rfl ?hx ?_; case hx => (constructor <;> first | omega | (simp only; omega))) | refine s_sub rfl rfl rfl ?_
      refine s_assign rfl rfl ?_
      refine WL_nil ?_
      refine n_then ?_
      refine W_seq ?_
      refine W_seq ?_
      refine W_region ?_
      refine s_move rfl rfl ?_
      refine s_move rfl rfl ?_
      (refine s_indexAddrO El22 rfl rfl rfl hA1 ?hx ?_; case hx => (constructor <;> omega))
      refine s_load Try.isAgg3 rfl rfl ((hs.oldcell (a := ⟨b1, o1 + i, none⟩) hB1 (by simp)).trans hc1) ?_
      (refine s_rem rfl rfl rfl ?hx ?_; case hx => omega)
      refine s_eql rfl rfl rfl ?_
      refine WL_nil ?_
      refine n_then ?_
      refine W_cond rfl (fun hc44 => ?_) (fun hc44 => ?_)
      · skip
        try simp only [decide_eq_true_eq, decide_eq_false_iff_not, beq_iff_eq, beq_eq_false_iff_ne, ne_eq, bne_iff_ne, bne_eq_false_iff_eq] at hc44
        refine W_seq ?_
        refine W_region ?_
        refine s_move rfl rfl ?_
        refine s_move rfl rfl ?_
        refine s_callL (M := LQ) (L1 := LP) (X := []) Try.call25 rfl rfl (by rw [List.append_nil]; exact hs) (fun h => rBits_ok p _ _ _ (cv - 2) _ w hP h) ?_
        clear hs hP; rintro v w LP ⟨hP, rfl⟩ - hs
        rw [List.append_nil] at hs
        refine s_move rfl rfl ?_
        refine s_move rfl rfl ?_
        refine s_callL (M := []) (L1 := LQ) (X := LP) Try.call26 rfl rfl hs (fun h => fBits_ok b19 _ _ _ (cv - 2) _ w hQ h) ?_
        clear hs hQ; rintro v w LQ ⟨hQ, rfl⟩ - hs
        rw [List.nil_append] at hs
        refine s_neq rfl rfl rfl ?_
        refine WL_nil ?_
        refine n_then ?_
        refine W_cond_kf rfl ((by simp)) ?_
        refine W_skip ?_
        refine n_then ?_
        refine W_seq ?_
        refine W_draw [(0, true, []), (2, true, []), (3, true, []), (4, true, []), (5, true, []), (1, false, [2, 3, 4, 5]), (6, true, []), (7, true, []), (8, true, []), (10, true, []), (9, false, [10]), (11, false, []), (12, true, []), (13, true, [])] MX (by kernel_rfl) ?_
        intro w1 hw1 hw2 hw3 hw4; replace hs := hs.redrawn hw1 hw2 hw3 hw4; clear hw1 hw2 hw3 hw4
        obtain ⟨w, rfl⟩ : ∃ w : World, w = w1 := ⟨_, rfl⟩
        refine D_q rfl rfl ?_
        obtain ⟨v9, Lb9, bs9, hL9, hO9, hB9, hk9, hl9⟩ := id hQ
        subst hL9
        simp only [List.cons_append] at hs
        refine s_move rfl rfl ?_
        refine D_qn ?_
        refine D_q rfl rfl ?_
        refine s_move rfl rfl ?_
        refine D_qn ?_
        refine D_q rfl rfl ?_
        refine s_nilCheck rfl rfl ?_
        refine D_qn ?_
        refine D_q rfl rfl ?_
        refine s_fieldAddr rfl rfl (FA49_1 _ _) ?_
        refine D_qn ?_
        refine D_q rfl rfl ?_
        first
          | refine s_load Try.isAgg3 rfl rfl (hs.cell (k := 0) rfl rfl) ?_
          | refine s_load Try.isAgg3 rfl rfl (hs.cell (k := 1) rfl rfl) ?_
          | refine s_load Try.isAgg3 rfl rfl (hs.cell (k := 2) rfl rfl) ?_
        refine D_qn ?_
        refine D_e rfl ?_
        refine s_callL (M := _ :: Lb9) (L1 := LP) (X := []) Try.call29 rfl rfl (by rw [List.append_nil]; exact hs) (fun h => rAt_ok p _ _ _ _ w hP h) ?_
        clear hs; rintro v w L9 ⟨hL9, rfl⟩ - hs
        rw [hL9] at hs; clear hL9 L9
        simp only [List.append_nil, List.cons_append] at hs
        refine D_en ?re ?_
        case re =>
          refine Reks_cons rfl rfl rfl rfl ?_ ?_
          · skip
            refine s_move rfl rfl ?_
            exact Rek_end rfl
          refine Reks_cons rfl rfl rfl rfl ?_ ?_
          · skip
            refine s_nilCheck rfl rfl ?_
            exact Rek_end rfl
          refine Reks_cons rfl rfl rfl rfl ?_ ?_
          · skip
            refine s_fieldAddr rfl rfl (FA49_1 _ _) ?_
            exact Rek_end rfl
          refine Reks_cons rfl rfl rfl rfl ?_ ?_
          · skip
            first
              | refine s_load Try.isAgg3 rfl rfl (hs.cell (k := 0) rfl rfl) ?_
              | refine s_load Try.isAgg3 rfl rfl (hs.cell (k := 1) rfl rfl) ?_
              | refine s_load Try.isAgg3 rfl rfl (hs.cell (k := 2) rfl rfl) ?_
            exact Rek_end rfl
          exact Reks_nil
        refine D_q rfl rfl ?_
        refine s_neq rfl rfl rfl ?_
        refine D_qn ?_
        refine D_q rfl rfl ?_
        refine s_move rfl rfl ?_
        refine WL_know (s := 70) (c := false) rfl ((by simp)) ?_
        refine D_qn ?_
        refine D_q rfl rfl ?_
        refine WL_take rfl ?_
        refine s_move rfl rfl ?_
        refine D_qn ?_
        refine D_q rfl rfl ?_
        refine WL_take rfl ?_
        refine s_move rfl rfl ?_
        refine D_qn ?_
        refine D_e rfl ?_
        refine WL_take rfl ?_
        refine s_callL (M := _ :: Lb9) (L1 := LP) (X := []) Try.call30 rfl rfl (by rw [List.append_nil]; exact hs) (fun h => rEnd_ok p _ _ _ _ w hP h) ?_
        clear hs; rintro v w L9 ⟨hL9, rfl⟩ - hs
        rw [hL9] at hs; clear hL9 L9
        simp only [List.append_nil, List.cons_append] at hs
        refine D_en ?re ?_
        case re =>
          refine Reks_cons rfl rfl rfl rfl ?_ ?_
          · skip
            refine WL_take rfl ?_
            refine s_move rfl rfl ?_
            exact Rek_end rfl
          exact Reks_nil
        refine D_e rfl ?_
        refine WL_take rfl ?_
        refine s_callL (M := []) (L1 := _ :: Lb9) (X := LP) Try.call31 rfl rfl hs (fun h => fEnd_ok b19 _ _ _ _ w hQ h) ?_
        clear hs; rintro v w L9 ⟨hL9, rfl⟩ - hs
        rw [hL9] at hs; clear hL9 L9
        simp only [List.nil_append, List.cons_append] at hs
        refine D_en ?re ?_
        case re =>
          exact Reks_nil
        refine D_q rfl rfl ?_
        refine WL_take rfl ?_
        refine s_neq rfl rfl rfl ?_
        refine D_qn ?_
        refine D_q rfl rfl ?_
        refine s_pick_f rfl rfl rfl ?_
        refine D_qn ?_
        refine D_nil ?_
        refine n_then ?_
        refine W_cond_kf rfl ((by simp)) ?_
        refine W_skip ?_
        refine n_blk ?_
        refine n_then ?_
        refine W_region ?_
        refine s_move rfl rfl ?_
        first | (refine s_add' rfl rfl rfl ?hx ?_; case hx => (constructor <;> first | omega | (simp only; omega))) | refine s_add rfl rfl rfl ?_
        refine s_assign rfl rfl ?_
        refine WL_nil ?_
        refine n_loop ?_
        exact ⟨(i + 1, _, _, _ :: Lb9, LP), ⟨rfl, rfl, rfl, rfl, rfl, trivial⟩, ⟨hs, hQ, hP, by simp only; omega⟩, by simp only; omega⟩
      · skip
        try simp only [decide_eq_true_eq, decide_eq_false_iff_not, beq_iff_eq, beq_eq_false_iff_ne, ne_eq, bne_iff_ne, bne_eq_false_iff_eq] at hc44
        refine W_seq ?_
        refine W_seq ?_
        refine W_region ?_
        refine s_move rfl rfl ?_
        first | (refine s_rem' rfl rfl rfl ?hx ?_; case hx => (refine ⟨?_, ?_⟩ <;> omega)) | (refine s_rem rfl rfl rfl ?hx ?_; case hx => omega)
        refine s_eql rfl rfl rfl ?_
        refine WL_nil ?_
        refine n_then ?_
        refine W_cond rfl (fun hc54 => ?_) (fun hc54 => ?_)
        · skip
          try simp only [decide_eq_true_eq, decide_eq_false_iff_not, beq_iff_eq, beq_eq_false_iff_ne, ne_eq, bne_iff_ne, bne_eq_false_iff_eq] at hc54
          refine W_region ?_
          refine s_move rfl rfl ?_
          refine s_assign rfl rfl ?_
          refine WL_nil ?_
          refine n_then ?_
          refine W_seq ?_
          refine W_region ?_
          refine s_move rfl rfl ?_
          refine s_move rfl rfl ?_
          refine s_callL (M := LQ) (L1 := LP) (X := []) Try.call27 rfl rfl (by rw [List.append_nil]; exact hs) (fun h => rUnary_ok p _ _ _ _ _ w hP h) ?_
          clear hs hP; rintro v w LP ⟨hP, rfl⟩ - hs
          rw [List.append_nil] at hs
          refine s_move rfl rfl ?_
          refine s_move rfl rfl ?_
          refine s_callL (M := []) (L1 := LQ) (X := LP) Try.call28 rfl rfl hs (fun h => fUnary_ok b19 _ _ _ _ _ w hQ h) ?_
          clear hs hQ; rintro v w LQ ⟨hQ, rfl⟩ - hs
          rw [List.nil_append] at hs
          refine s_neq rfl rfl rfl ?_
          refine WL_nil ?_
          refine n_then ?_
          refine W_cond_kf rfl ((by simp)) ?_
          refine W_skip ?_
          refine n_then ?_
          refine W_seq ?_
          refine W_draw [(0, true, []), (2, true, []), (3, true, []), (4, true, []), (5, true, []), (1, false, [2, 3, 4, 5]), (6, true, []), (7, true, []), (8, true, []), (10, true, []), (9, false, [10]), (11, false, []), (12, true, []), (13, true, [])] MX (by kernel_rfl) ?_
          intro w1 hw1 hw2 hw3 hw4; replace hs := hs.redrawn hw1 hw2 hw3 hw4; clear hw1 hw2 hw3 hw4
          obtain ⟨w, rfl⟩ : ∃ w : World, w = w1 := ⟨_, rfl⟩
          refine D_q rfl rfl ?_
          obtain ⟨v9, Lb9, bs9, hL9, hO9, hB9, hk9, hl9⟩ := id hQ
          subst hL9
          simp only [List.cons_append] at hs
          refine s_move rfl rfl ?_
          refine D_qn ?_
          refine D_q rfl rfl ?_
          refine s_move rfl rfl ?_
          refine D_qn ?_
          refine D_q rfl rfl ?_
          refine s_nilCheck rfl rfl ?_
          refine D_qn ?_
          refine D_q rfl rfl ?_
          refine s_fieldAddr rfl rfl (FA49_1 _ _) ?_
          refine D_qn ?_
          refine D_q rfl rfl ?_
          first
            | refine s_load Try.isAgg3 rfl rfl (hs.cell (k := 0) rfl rfl) ?_
            | refine s_load Try.isAgg3 rfl rfl (hs.cell (k := 1) rfl rfl) ?_
            | refine s_load Try.isAgg3 rfl rfl (hs.cell (k := 2) rfl rfl) ?_
          refine D_qn ?_
          refine D_e rfl ?_
          refine s_callL (M := _ :: Lb9) (L1 := LP) (X := []) Try.call29 rfl rfl (by rw [List.append_nil]; exact hs) (fun h => rAt_ok p _ _ _ _ w hP h) ?_
          clear hs; rintro v w L9 ⟨hL9, rfl⟩ - hs
          rw [hL9] at hs; clear hL9 L9
          simp only [List.append_nil, List.cons_append] at hs
          refine D_en ?re ?_
          case re =>
            refine Reks_cons rfl rfl rfl rfl ?_ ?_
            · skip
              refine s_move rfl rfl ?_
              exact Rek_end rfl
            refine Reks_cons rfl rfl rfl rfl ?_ ?_
            · skip
              refine s_nilCheck rfl rfl ?_
              exact Rek_end rfl
            refine Reks_cons rfl rfl rfl rfl ?_ ?_
            · skip
              refine s_fieldAddr rfl rfl (FA49_1 _ _) ?_
              exact Rek_end rfl
            refine Reks_cons rfl rfl rfl rfl ?_ ?_
            · skip
              first
                | refine s_load Try.isAgg3 rfl rfl (hs.cell (k := 0) rfl rfl) ?_
                | refine s_load Try.isAgg3 rfl rfl (hs.cell (k := 1) rfl rfl) ?_
                | refine s_load Try.isAgg3 rfl rfl (hs.cell (k := 2) rfl rfl) ?_
              exact Rek_end rfl
            exact Reks_nil
          refine D_q rfl rfl ?_
          refine s_neq rfl rfl rfl ?_
          refine D_qn ?_
          refine D_q rfl rfl ?_
          refine s_move rfl rfl ?_
          refine WL_know (s := 70) (c := false) rfl ((by simp)) ?_
          refine D_qn ?_
          refine D_q rfl rfl ?_
          refine WL_take rfl ?_
          refine s_move rfl rfl ?_
          refine D_qn ?_
          refine D_q rfl rfl ?_
          refine WL_take rfl ?_
          refine s_move rfl rfl ?_
          refine D_qn ?_
          refine D_e rfl ?_
          refine WL_take rfl ?_
          refine s_callL (M := _ :: Lb9) (L1 := LP) (X := []) Try.call30 rfl rfl (by rw [List.append_nil]; exact hs) (fun h => rEnd_ok p _ _ _ _ w hP h) ?_
          clear hs; rintro v w L9 ⟨hL9, rfl⟩ - hs
          rw [hL9] at hs; clear hL9 L9
          simp only [List.append_nil, List.cons_append] at hs
          refine D_en ?re ?_
          case re =>
            refine Reks_cons rfl rfl rfl rfl ?_ ?_
            · skip
              refine WL_take rfl ?_
              refine s_move rfl rfl ?_
              exact Rek_end rfl
            exact Reks_nil
          refine D_e rfl ?_
          refine WL_take rfl ?_
          refine s_callL (M := []) (L1 := _ :: Lb9) (X := LP) Try.call31 rfl rfl hs (fun h => fEnd_ok b19 _ _ _ _ w hQ h) ?_
          clear hs; rintro v w L9 ⟨hL9, rfl⟩ - hs
          rw [hL9] at hs; clear hL9 L9
          simp only [List.nil_append, List.cons_append] at hs
          refine D_en ?re ?_
          case re =>
            exact Reks_nil
          refine D_q rfl rfl ?_
          refine WL_take rfl ?_
          refine s_neq rfl rfl rfl ?_
          refine D_qn ?_
          refine D_q rfl rfl ?_
          refine s_pick_f rfl rfl rfl ?_
          refine D_qn ?_
          refine D_nil ?_
          refine n_then ?_
          refine W_cond_kf rfl ((by simp)) ?_
          refine W_skip ?_
          refine n_blk ?_
          refine n_then ?_
          refine W_region ?_
          refine s_move rfl rfl ?_
          first | (refine s_add' rfl rfl rfl ?hx ?_; case hx => (constructor <;> first | omega | (simp only; omega))) | refine s_add rfl rfl rfl ?_
          refine s_assign rfl rfl ?_
          refine WL_nil ?_
          refine n_loop ?_
          exact ⟨(i + 1, _, _, _ :: Lb9, LP), ⟨rfl, rfl, rfl, rfl, rfl, trivial⟩, ⟨hs, hQ, hP, by simp only; omega⟩, by simp only; omega⟩
        · skip
          try simp only [decide_eq_true_eq, decide_eq_false_iff_not, beq_iff_eq, beq_eq_false_iff_ne, ne_eq, bne_iff_ne, bne_eq_false_iff_eq] at hc54
          refine W_skip ?_
          refine n_then ?_
          refine W_seq ?_
          refine W_region ?_
          refine s_move rfl rfl ?_
          refine s_move rfl rfl ?_
          refine s_callL (M := LQ) (L1 := LP) (X := []) Try.call27 rfl rfl (by rw [List.append_nil]; exact hs) (fun h => rUnary_ok p _ _ _ _ _ w hP h) ?_
          clear hs hP; rintro v w LP ⟨hP, rfl⟩ - hs
          rw [List.append_nil] at hs
          refine s_move rfl rfl ?_
          refine s_move rfl rfl ?_
          refine s_callL (M := []) (L1 := LQ) (X := LP) Try.call28 rfl rfl hs (fun h => fUnary_ok b19 _ _ _ _ _ w hQ h) ?_
          clear hs hQ; rintro v w LQ ⟨hQ, rfl⟩ - hs
          rw [List.nil_append] at hs
          refine s_neq rfl rfl rfl ?_
          refine WL_nil ?_
          refine n_then ?_
          refine W_cond_kf rfl ((by simp)) ?_
          refine W_skip ?_
          refine n_then ?_
          refine W_seq ?_
          refine W_draw [(0, true, []), (2, true, []), (3, true, []), (4, true, []), (5, true, []), (1, false, [2, 3, 4, 5]), (6, true, []), (7, true, []), (8, true, []), (10, true, []), (9, false, [10]), (11, false, []), (12, true, []), (13, true, [])] MX (by kernel_rfl) ?_
          intro w1 hw1 hw2 hw3 hw4; replace hs := hs.redrawn hw1 hw2 hw3 hw4; clear hw1 hw2 hw3 hw4
          obtain ⟨w, rfl⟩ : ∃ w : World, w = w1 := ⟨_, rfl⟩
          refine D_q rfl rfl ?_
          obtain ⟨v9, Lb9, bs9, hL9, hO9, hB9, hk9, hl9⟩ := id hQ
          subst hL9
          simp only [List.cons_append] at hs
          refine s_move rfl rfl ?_
          refine D_qn ?_
          refine D_q rfl rfl ?_
          refine s_move rfl rfl ?_
          refine D_qn ?_
          refine D_q rfl rfl ?_
          refine s_nilCheck rfl rfl ?_
          refine D_qn ?_
          refine D_q rfl rfl ?_
          refine s_fieldAddr rfl rfl (FA49_1 _ _) ?_
          refine D_qn ?_
          refine D_q rfl rfl ?_
          first
            | refine s_load Try.isAgg3 rfl rfl (hs.cell (k := 0) rfl rfl) ?_
            | refine s_load Try.isAgg3 rfl rfl (hs.cell (k := 1) rfl rfl) ?_
            | refine s_load Try.isAgg3 rfl rfl (hs.cell (k := 2) rfl rfl) ?_
          refine D_qn ?_
          refine D_e rfl ?_
          refine s_callL (M := _ :: Lb9) (L1 := LP) (X := []) Try.call29 rfl rfl (by rw [List.append_nil]; exact hs) (fun h => rAt_ok p _ _ _ _ w hP h) ?_
          clear hs; rintro v w L9 ⟨hL9, rfl⟩ - hs
          rw [hL9] at hs; clear hL9 L9
          simp only [List.append_nil, List.cons_append] at hs
          refine D_en ?re ?_
          case re =>
            refine Reks_cons rfl rfl rfl rfl ?_ ?_
            · skip
              refine s_move rfl rfl ?_
              exact Rek_end rfl
            refine Reks_cons rfl rfl rfl rfl ?_ ?_
            · skip
              refine s_nilCheck rfl rfl ?_
              exact Rek_end rfl
            refine Reks_cons rfl rfl rfl rfl ?_ ?_
            · skip
              refine s_fieldAddr rfl rfl (FA49_1 _ _) ?_
              exact Rek_end rfl
            refine Reks_cons rfl rfl rfl rfl ?_ ?_
            · skip
              first
                | refine s_load Try.isAgg3 rfl rfl (hs.cell (k := 0) rfl rfl) ?_
                | refine s_load Try.isAgg3 rfl rfl (hs.cell (k := 1) rfl rfl) ?_
                | refine s_load Try.isAgg3 rfl rfl (hs.cell (k := 2) rfl rfl) ?_
              exact Rek_end rfl
            exact Reks_nil
          refine D_q rfl rfl ?_
          refine s_neq rfl rfl rfl ?_
          refine D_qn ?_
          refine D_q rfl rfl ?_
          refine s_move rfl rfl ?_
          refine WL_know (s := 70) (c := false) rfl ((by simp)) ?_
          refine D_qn ?_
          refine D_q rfl rfl ?_
          refine WL_take rfl ?_
          refine s_move rfl rfl ?_
          refine D_qn ?_
          refine D_q rfl rfl ?_
          refine WL_take rfl ?_
          refine s_move rfl rfl ?_
          refine D_qn ?_
          refine D_e rfl ?_
          refine WL_take rfl ?_
          refine s_callL (M := _ :: Lb9) (L1 := LP) (X := []) Try.call30 rfl rfl (by rw [List.append_nil]; exact hs) (fun h => rEnd_ok p _ _ _ _ w hP h) ?_
          clear hs; rintro v w L9 ⟨hL9, rfl⟩ - hs
          rw [hL9] at hs; clear hL9 L9
          simp only [List.append_nil, List.cons_append] at hs
          refine D_en ?re ?_
          case re =>
            refine Reks_cons rfl rfl rfl rfl ?_ ?_
            · skip
              refine WL_take rfl ?_
              refine s_move rfl rfl ?_
              exact Rek_end rfl
            exact Reks_nil
          refine D_e rfl ?_
          refine WL_take rfl ?_
          refine s_callL (M := []) (L1 := _ :: Lb9) (X := LP) Try.call31 rfl rfl hs (fun h => fEnd_ok b19 _ _ _ _ w hQ h) ?_
          clear hs; rintro v w L9 ⟨hL9, rfl⟩ - hs
          rw [hL9] at hs; clear hL9 L9
          simp only [List.nil_append, List.cons_append] at hs
          refine D_en ?re ?_
          case re =>
            exact Reks_nil
          refine D_q rfl rfl ?_
          refine WL_take rfl ?_
          refine s_neq rfl rfl rfl ?_
          refine D_qn ?_
          refine D_q rfl rfl ?_
          refine s_pick_f rfl rfl rfl ?_
          refine D_qn ?_
          refine D_nil ?_
          refine n_then ?_
          refine W_cond_kf rfl ((by simp)) ?_
          refine W_skip ?_
          refine n_blk ?_
          refine n_then ?_
          refine W_region ?_
          refine s_move rfl rfl ?_
          first | (refine s_add' rfl rfl rfl ?hx ?_; case hx => (constructor <;> first | omega | (simp only; omega))) | refine s_add rfl rfl rfl ?_
          refine s_assign rfl rfl ?_
          refine WL_nil ?_
          refine n_loop ?_
          exact ⟨(i + 1, _, _, _ :: Lb9, LP), ⟨rfl, rfl, rfl, rfl, rfl, trivial⟩, ⟨hs, hQ, hP, by simp only; omega⟩, by simp only; omega⟩
    · skip
      try simp only [decide_eq_true_eq, decide_eq_false_iff_not, beq_iff_eq, beq_eq_false_iff_ne, ne_eq, bne_iff_ne, bne_eq_false_iff_eq] at hc29
      refine W_exit ?_
      refine x_then ?_
      refine x_then ?_
      refine exit_hit ?_
      refine n_then ?_
      refine W_seq ?_
      refine W_region ?_
      refine s_call Try.call20 rfl rfl (lives_ok w) ?_
      rintro r w ⟨hst, rfl⟩
      replace hs := hs.fwd1 hst
      clear hst
      refine s_assign rfl rfl ?_
      refine WL_nil ?_
      refine n_then ?_
      refine W_ret ?_
      exact end1 rfl rfl ⟨hs.fwd, rfl⟩
  · skip
    try simp only [decide_eq_true_eq, decide_eq_false_iff_not, beq_iff_eq, beq_eq_false_iff_ne, ne_eq, bne_iff_ne, bne_eq_false_iff_eq] at hg26
    refine WL_skip rfl rfl rfl ?_
    refine WL_skip rfl rfl rfl ?_
    refine s_pick_f rfl rfl rfl ?_
    refine WL_nil ?_
    refine n_then ?_
    refine W_cond_f rfl ?_
    refine W_exit ?_
    refine x_then ?_
    refine x_then ?_
    refine exit_hit ?_
    refine n_then ?_
    refine W_seq ?_
    refine W_region ?_
    refine s_call Try.call20 rfl rfl (lives_ok w) ?_
    rintro r w ⟨hst, rfl⟩
    replace hs := hs.fwd1 hst
    clear hst
    refine s_assign rfl rfl ?_
    refine WL_nil ?_
    refine n_then ?_
    refine W_ret ?_
    exact end1 rfl rfl ⟨hs.fwd, rfl⟩
end Go.Proofs.Ytifegkpjbdgniaa
