/- NetPartition: a message is delivered if and only if its nodes belong to the same group, and otherwise after the groups were joined: the law returns true for every input. -/
import Derived.Test.YtgkdbiibbfipjaaNetE
set_option linter.unusedVariables false
set_option linter.unusedSimpArgs false
namespace Go.Proofs.Ytgkdbiibbfipjaa
open Go.SL
theorem around_bd (m q : Int) (hq : 0 < q) : 0 ≤ aroundV m q ∧ aroundV m q < q := by
  unfold aroundV
  exact ⟨Int.emod_nonneg _ (by omega), Int.emod_lt_of_pos _ hq⟩
theorem gs_in {gs : List Int} {i : Int} {sp : List Value} {n : Nat} (h : 0 ≤ i ∧ i < n) (hn : gs.length = n) : (i64s gs ++ sp)[0 + i.toNat]? = some (.int .i64 (grp gs i)) := by
  rw [List.getElem?_append_left (by simp; omega)]; exact gs_at (by omega)
theorem grp0 {a b : Int} (h1 : 0 ≤ a ∧ a < 6) (h2 : 0 ≤ b ∧ b < 6) : grp [0, 0, 0, 0, 0, 0] a = grp [0, 0, 0, 0, 0, 0] b := by
  have key : ∀ i : Int, 0 ≤ i ∧ i < 6 → grp [0, 0, 0, 0, 0, 0] i = 0 := by
    intro i hi
    obtain ⟨k, rfl⟩ : ∃ k : Nat, i = k := ⟨i.toNat, by omega⟩
    have : k < 6 := by omega
    match k, this with
    | 0, _ | 1, _ | 2, _ | 3, _ | 4, _ | 5, _ => rfl
  rw [key a h1, key b h2]
set_option maxHeartbeats 1000000 in
theorem part_a_same (v : Value) (zs : List Int) (from_ to_ : Int) (w0 : World) (hv : Sl w0 v zs.length (i64s zs)) (hf : -9223372036854775808 ≤ from_ ∧ from_ ≤ 9223372036854775807) (ht : -9223372036854775808 ≤ to_ ∧ to_ ≤ 9223372036854775807)
    (gl : List Int) (hgl : gl = [0, 0, 0, 0, 0, 0]) (h6 : zs.length < 6) (hgg : grp gl (aroundV from_ 6) = grp gl (aroundV to_ 6)) :
    Ret Try.prog 7 [v, .int .i64 from_, .int .i64 to_].toArray w0 fun r w' => Fwd [] w0 w' ∧ r = .bool true := by
  have hll : gl.length = 6 := by rw [hgl]; simp
  have hab1 := around_bd from_ 6 (by omega)
  have hab2 := around_bd to_ 6 (by omega)
  obtain ⟨a, ha'⟩ : ∃ a, a = aroundV from_ 6 := ⟨_, rfl⟩
  obtain ⟨b, hb'⟩ : ∃ b, b = aroundV to_ 6 := ⟨_, rfl⟩
  rw [← ha'] at hab1 hgg
  rw [← hb'] at hab2 hgg
  refine Ret_start fun w hs => ?_
  refine Ret_of Try.func7 rfl Try.ntmps7 rfl ?_
  refine W_seq ?_
  refine W_region ?_
  refine s_assign rfl rfl ?_
  refine WL_nil ?_
  refine n_then ?_
  refine W_seq ?_
  refine W_region ?_
  refine s_call Try.call25 rfl rfl (new_ok 6 w (by omega)) ?_
  rintro r w (⟨_, _, p, LN, rfl, hN, hst⟩ | ⟨h, _⟩)
  case inr => exact absurd ⟨by omega, by omega⟩ h
  replace hs : St [] w0 w (LN ++ []) := St.back0 hs hst
  replace hN : NetAt p [0, 0, 0, 0, 0, 0] [] LN := hN
  clear hst
  refine s_move rfl rfl ?_
  refine s_extract rfl rfl rfl ?_
  refine s_extract rfl rfl rfl ?_
  refine s_assign rfl rfl ?_
  refine s_assign rfl rfl ?_
  refine WL_nil ?_
  refine n_then ?_
  refine W_seq ?_
  refine W_seq ?_
  refine W_region ?_
  refine s_move rfl rfl ?_
  refine s_eql_ptr_nil Try.underlying23 rfl rfl rfl ?_
  refine s_move rfl rfl ?_
  refine WL_know (s := 22) (c := false) rfl (rfl) ?_
  refine WL_take rfl ?_
  refine s_move rfl rfl ?_
  refine WL_take rfl ?_
  refine s_neq rfl rfl rfl ?_
  refine s_pick_f rfl rfl rfl ?_
  refine WL_nil ?_
  refine n_then ?_
  refine W_cond_kf rfl (rfl) ?_
  refine W_skip ?_
  refine n_then ?_
  refine W_seq ?_
  refine W_region ?_
  refine s_move rfl rfl ?_
  refine s_call Try.call26 rfl rfl (around_ok from_ 6 w (by omega) hf) ?_
  rintro r w ⟨rfl, rfl⟩
  rw [← ha']
  refine s_assign rfl rfl ?_
  refine WL_nil ?_
  refine n_then ?_
  refine W_seq ?_
  refine W_region ?_
  refine s_move rfl rfl ?_
  refine s_call Try.call26 rfl rfl (around_ok to_ 6 w (by omega) ht) ?_
  rintro r w ⟨rfl, rfl⟩
  rw [← hb']
  refine s_assign rfl rfl ?_
  refine WL_nil ?_
  refine n_then ?_
  refine W_seq ?_
  refine W_region ?_
  refine s_move rfl rfl ?_
  refine s_move rfl rfl ?_
  refine s_move rfl rfl ?_
  refine s_buildSlice rfl rfl (BS30_1 _) hs ?_; clear hs; intro b33 w hs
  refine s_build rfl rfl (BD32_0_1_2 _ _ _ _ _) ?_
  have hE : sendE [0, 0, 0, 0, 0, 0] [] a b [9] = 0 := by rw [sendE, if_neg (by simp; omega), if_neg (by simp)]
  refine s_callL (M := [_]) (L1 := LN) (X := []) Try.call12 rfl rfl hs (fun h => send_ok p _ [] a b _ [9] LN w hN h (hs.sl (k := 0) rfl (Nat.le_refl _) (by intro j u hj; rw [Nat.zero_add]; exact hj)) (by simp) (fun a m c he _ => by cases he; exact hs.notin (M := [_]) (by simp [ids]))) ?_
  clear hs; rintro v w LN ⟨rfl, ms, hN, -, hms⟩ - hs
  obtain ⟨b1, rfl⟩ := hms hE
  simp only [List.cons_append, List.nil_append] at hs hN
  replace hs := hs.tail
  refine WL_nil ?_
  refine n_then ?_
  refine W_seq ?_
  refine W_region ?_
  refine s_move rfl rfl ?_
  refine s_call Try.call27 rfl rfl (ints_ok v zs 6 w (hv.fwd0 hs.fwd) (by omega)) ?_
  rintro r w ⟨Lr, hO, hst⟩
  replace hs := St.back0 hs hst
  clear hst
  obtain ⟨tl, tc, ta, rfl, rfl⟩ := hO.form
  refine s_assign rfl rfl ?_
  refine WL_nil ?_
  refine n_then ?_
  refine W_seq ?_
  refine W_seq ?_
  refine W_region ?_
  refine s_move rfl rfl ?_
  refine s_len rfl rfl (LN22 _ _ _ _) ?_
  refine s_lss rfl rfl rfl ?_
  refine WL_nil ?_
  refine n_then ?_
  refine W_cond_kt rfl ((by simp; omega)) ?_
  refine W_seq ?_
  refine W_seq ?_
  refine W_region ?_
  refine s_move rfl rfl ?_
  refine s_move rfl rfl ?_
  refine s_call Try.call21 rfl rfl (partition_no p _ (zs.take 6) _ _ LN w hN (hs.lendM (M := Lr) (X := [])) (by have := hO.sl hs; simpa [Nat.min_comm] using this) (by simp; omega)) ?_
  rintro r w ⟨rfl, rfl⟩
  refine s_neq rfl rfl rfl ?_
  refine WL_nil ?_
  refine n_then ?_
  refine W_cond_kf rfl (rfl) ?_
  refine W_skip ?_
  refine n_then ?_
  refine W_region ?_
  replace hs : St [] w0 w (LN ++ []) := hs.right
  refine s_buildSlice rfl rfl (BS22_6 _ _ _ _ _ _) hs ?_; clear hs; intro gb w hs
  have hcap : 6 ≤ 6 := Nat.le_refl _
  obtain ⟨sp, hsp⟩ : ∃ sp : List Value, sp = [] := ⟨_, rfl⟩
  replace hs : St [] w0 w ((gb, Blk 3 (i64s gl ++ sp)) :: (LN ++ [])) := by rw [hsp, hgl]; exact hs
  rw [← hgl] at hN
  refine s_assign rfl rfl ?_
  refine WL_nil ?_
  refine n_then ?_
  refine W_seq ?_
  refine W_region ?_
  refine s_move rfl rfl ?_
  refine s_call Try.call27 rfl rfl (ints_ok _ gl 6 w (by rw [hll]; exact hs.sl (k := 0) (ds := i64s gl) rfl hcap (by intro j u hj; rw [Nat.zero_add, List.getElem?_append_left (List.getElem?_eq_some_iff.1 hj).1]; exact hj)) (by omega)) ?_
  rintro r w ⟨Lo, hO2, hst⟩
  replace hs := St.back0 hs hst
  clear hst
  rw [hll, show min 6 6 = 6 from rfl, List.take_of_length_le (by omega)] at hO2
  obtain ⟨ob, ocap, osp, rfl, hocap, rfl⟩ := hO2.block (by omega)
  simp only [List.cons_append, List.nil_append] at hs
  have hgl2 : (i64s gl ++ sp).length = 6 + sp.length := by simp [hll]
  refine s_assign rfl rfl ?_
  refine WL_nil ?_
  refine n_then ?_
  refine W_seq ?_
  refine W_seq ?_
  refine W_region ?_
  refine s_assign rfl rfl ?_
  refine WL_nil ?_
  refine n_then ?_
  refine W_block ?_
  refine W_loop (σ := Nat × List Value) (fun s => [(7, .pointer (some ⟨p, 0, none⟩)), (9, .int .i64 a), (10, .int .i64 b), (11, .slice (some ⟨gb, 0, none⟩) 6 6), (12, .slice (some ⟨ob, 0, none⟩) 6 ocap), (13, .int .i64 (s.1 : Int))])
    (fun s w => St [] w0 w ((ob, Blk 3 (i64s gl ++ osp)) :: (gb, Blk 3 s.2) :: (LN ++ [])) ∧ s.2.length = 6 + sp.length ∧ s.1 ≤ 6)
    (fun s => 6 - s.1) (0, i64s gl ++ sp) ⟨rfl, rfl, rfl, rfl, rfl, rfl, trivial⟩ ⟨hs, hgl2, Nat.zero_le _⟩ ?_
  clear hs
  rintro ⟨k, c⟩ w ⟨hs, hcl, hk⟩
  simp only at hs hcl hk
  refine W_seq ?_
  refine W_seq ?_
  refine W_region ?_
  refine s_move rfl rfl ?_
  refine s_lss rfl rfl rfl ?_
  refine WL_nil ?_
  refine n_then ?_
  refine W_cond rfl (fun hc53 => ?_) (fun hc53 => ?_)
  · skip
    simp only [decide_eq_true_eq, decide_eq_false_iff_not, bne_iff_ne, bne_eq_false_iff_eq, ne_eq] at hc53
    refine W_skip ?_
    refine n_then ?_
    refine W_seq ?_
    refine W_block ?_
    refine W_region ?_
    refine s_move rfl rfl ?_
    refine s_move rfl rfl ?_
    refine s_move rfl rfl ?_
    (refine s_indexAddr1 El22 rfl rfl rfl ?hx ?_; case hx => (constructor <;> first | omega | (simp; omega)))
    refine s_store Try.sizeOf3 rfl rfl rfl hs (kk := 1) rfl (by simp; omega) ?_
    clear hs; intro w hs
    simp only [List.set_cons_zero, List.set_cons_succ] at hs
    refine WL_nil ?_
    refine n_blk ?_
    refine n_then ?_
    refine W_region ?_
    refine s_move rfl rfl ?_
    first | (refine s_add' rfl rfl rfl ?hx ?_; case hx => (constructor <;> omega)) | refine s_add rfl rfl rfl ?_
    refine s_assign rfl rfl ?_
    refine WL_nil ?_
    refine n_loop ?_
    exact ⟨(k + 1, _), ⟨rfl, rfl, rfl, rfl, rfl, rfl, trivial⟩, ⟨hs, by simpa using hcl, by show k + 1 ≤ _; omega⟩, by show _ - (k + 1) < _; omega⟩
  · skip
    simp only [decide_eq_true_eq, decide_eq_false_iff_not, bne_iff_ne, bne_eq_false_iff_eq, ne_eq] at hc53
    refine W_exit ?_
    refine x_then ?_
    refine x_then ?_
    refine exit_hit ?_
    refine n_then ?_
    refine W_seq ?_
    refine W_region ?_
    refine s_move rfl rfl ?_
    refine s_callL (M := [_, _]) (L1 := LN) (X := []) Try.call14 rfl rfl hs (fun h => take_yes p gl _ 0 LN w hN h (by simp) (by simp) _ (by simp; rfl) (by simp [hll]; omega)) ?_
    clear hs; intro v w LN h _ hs
    obtain ⟨h, _⟩ | ⟨_, rfl, L1, rfl, hN⟩ := h
    case inl => exact absurd hgg h
    simp only [List.cons_append, List.nil_append, Msg.blk] at hs
    simp only [Msg.cells]
    refine s_move rfl rfl ?_
    refine s_extract rfl rfl rfl ?_
    refine s_extract rfl rfl rfl ?_
    refine s_alloc rfl AL32 hs ?_; clear hs; intro b14 w hs
    first
      | refine s_storeW Try.sizeOf32 rfl rfl rfl rfl hs (kk := 0) rfl rfl ?_
      | refine s_storeW Try.sizeOf32 rfl rfl rfl rfl hs (kk := 1) rfl rfl ?_
      | refine s_storeW Try.sizeOf32 rfl rfl rfl rfl hs (kk := 2) rfl rfl ?_
      | refine s_storeW Try.sizeOf32 rfl rfl rfl rfl hs (kk := 3) rfl rfl ?_
      | refine s_storeW Try.sizeOf32 rfl rfl rfl rfl hs (kk := 4) rfl rfl ?_
      | refine s_storeW Try.sizeOf32 rfl rfl rfl rfl hs (kk := 5) rfl rfl ?_
      | refine s_storeW Try.sizeOf32 rfl rfl rfl rfl hs (kk := 6) rfl rfl ?_
      | refine s_storeW Try.sizeOf32 rfl rfl rfl rfl hs (kk := 7) rfl rfl ?_
      | refine s_storeW Try.sizeOf32 rfl rfl rfl rfl hs (kk := 8) rfl rfl ?_
      | refine s_storeW Try.sizeOf32 rfl rfl rfl rfl hs (kk := 9) rfl rfl ?_
      | refine s_storeAB Try.sizeOf32 rfl rfl rfl rfl hs (kk := 0) rfl rfl ?_
      | refine s_storeAB Try.sizeOf32 rfl rfl rfl rfl hs (kk := 1) rfl rfl ?_
      | refine s_storeAB Try.sizeOf32 rfl rfl rfl rfl hs (kk := 2) rfl rfl ?_
      | refine s_storeAB Try.sizeOf32 rfl rfl rfl rfl hs (kk := 3) rfl rfl ?_
      | refine s_storeAB Try.sizeOf32 rfl rfl rfl rfl hs (kk := 4) rfl rfl ?_
      | refine s_storeAB Try.sizeOf32 rfl rfl rfl rfl hs (kk := 5) rfl rfl ?_
      | refine s_storeAB Try.sizeOf32 rfl rfl rfl rfl hs (kk := 6) rfl rfl ?_
      | refine s_storeAB Try.sizeOf32 rfl rfl rfl rfl hs (kk := 7) rfl rfl ?_
      | refine s_storeAB Try.sizeOf32 rfl rfl rfl rfl hs (kk := 8) rfl rfl ?_
      | refine s_storeAB Try.sizeOf32 rfl rfl rfl rfl hs (kk := 9) rfl rfl ?_
    clear hs; intro w hs; try simp only [List.set_cons_zero, List.set_cons_succ, splice, List.take_succ_cons, List.take_zero, List.drop_succ_cons, List.drop_zero, List.nil_append, List.cons_append, List.length_cons, List.length_nil, Nat.reduceAdd, List.append_assoc] at hs
    refine s_assign rfl rfl ?_
    refine WL_nil ?_
    refine n_then ?_
    refine W_seq ?_
    refine W_seq ?_
    refine W_draw [(0, true, []), (1, true, []), (2, true, []), (3, true, []), (4, true, []), (5, true, []), (6, true, []), (7, true, []), (8, true, [])] MX (by kernel_rfl) ?_
    intro w1 hw1 hw2 hw3 hw4; replace hs := hs.redrawn hw1 hw2 hw3 hw4; clear hw1 hw2 hw3 hw4
    obtain ⟨w, rfl⟩ : ∃ w : World, w = w1 := ⟨_, rfl⟩
    refine D_q rfl rfl ?_
    refine s_move rfl rfl ?_
    refine D_qn ?_
    refine D_q rfl rfl ?_
    refine s_move rfl rfl ?_
    refine D_qn ?_
    refine D_q rfl rfl ?_
    (refine s_indexAddr1 El22 rfl rfl rfl ?hx ?_; case hx => (constructor <;> first | omega | (simp; omega)))
    refine D_qn ?_
    refine D_q rfl rfl ?_
    first
      | refine s_load Try.isAgg3 rfl rfl (hs.cell (k := 0) rfl rfl) ?_
      | refine s_load Try.isAgg3 rfl rfl (hs.cell (k := 1) rfl rfl) ?_
      | refine s_load Try.isAgg3 rfl rfl (hs.cell (k := 2) rfl rfl) ?_
      | refine s_load Try.isAgg3 rfl rfl (hs.cell (k := 3) rfl rfl) ?_
      | refine s_load Try.isAgg3 rfl rfl (hs.cell (k := 4) rfl rfl) ?_
      | refine s_load Try.isAgg3 rfl rfl (hs.cell (k := 5) rfl rfl) ?_
      | refine s_load Try.isAgg3 rfl rfl (hs.cell (k := 6) rfl rfl) ?_
      | refine s_load Try.isAgg3 rfl rfl (hs.cell (k := 7) rfl rfl) ?_
      | refine s_load Try.isAgg3 rfl rfl (hs.cell (k := 8) rfl rfl) ?_
      | refine s_load Try.isAgg3 rfl rfl (hs.cell (k := 9) rfl rfl) ?_
      | refine s_load Try.isAgg3 rfl rfl (hs.cell (k := 1) (e := 3) (fz := (0, 0)) rfl (gs_in (sp := osp) (by omega) hll)) ?_
    refine D_qn ?_
    refine D_q rfl rfl ?_
    refine s_move rfl rfl ?_
    refine D_qn ?_
    refine D_q rfl rfl ?_
    refine s_move rfl rfl ?_
    refine D_qn ?_
    refine D_q rfl rfl ?_
    (refine s_indexAddr1 El22 rfl rfl rfl ?hx ?_; case hx => (constructor <;> first | omega | (simp; omega)))
    refine D_qn ?_
    refine D_q rfl rfl ?_
    first
      | refine s_load Try.isAgg3 rfl rfl (hs.cell (k := 0) rfl rfl) ?_
      | refine s_load Try.isAgg3 rfl rfl (hs.cell (k := 1) rfl rfl) ?_
      | refine s_load Try.isAgg3 rfl rfl (hs.cell (k := 2) rfl rfl) ?_
      | refine s_load Try.isAgg3 rfl rfl (hs.cell (k := 3) rfl rfl) ?_
      | refine s_load Try.isAgg3 rfl rfl (hs.cell (k := 4) rfl rfl) ?_
      | refine s_load Try.isAgg3 rfl rfl (hs.cell (k := 5) rfl rfl) ?_
      | refine s_load Try.isAgg3 rfl rfl (hs.cell (k := 6) rfl rfl) ?_
      | refine s_load Try.isAgg3 rfl rfl (hs.cell (k := 7) rfl rfl) ?_
      | refine s_load Try.isAgg3 rfl rfl (hs.cell (k := 8) rfl rfl) ?_
      | refine s_load Try.isAgg3 rfl rfl (hs.cell (k := 9) rfl rfl) ?_
      | refine s_load Try.isAgg3 rfl rfl (hs.cell (k := 1) (e := 3) (fz := (0, 0)) rfl (gs_in (sp := osp) (by omega) hll)) ?_
    refine D_qn ?_
    refine D_q rfl rfl ?_
    refine s_neq rfl rfl rfl ?_
    refine D_qn ?_
    refine D_nil ?_
    refine n_then ?_
    refine W_cond_kf rfl ((by simp [hgg])) ?_
    refine W_skip ?_
    refine n_then ?_
    refine W_seq ?_
    refine W_region ?_
    refine s_move rfl rfl ?_
    refine s_eql rfl rfl rfl ?_
    refine s_move rfl rfl ?_
    refine WL_know (s := 94) (c := true) rfl ((by first | rfl | simp)) ?_
    refine WL_take rfl ?_
    refine s_fieldAddr rfl rfl (FA32_0 _ _) ?_
    refine WL_take rfl ?_
    first
      | refine s_load Try.isAgg3 rfl rfl (hs.cell (k := 0) rfl rfl) ?_
      | refine s_load Try.isAgg3 rfl rfl (hs.cell (k := 1) rfl rfl) ?_
      | refine s_load Try.isAgg3 rfl rfl (hs.cell (k := 2) rfl rfl) ?_
      | refine s_load Try.isAgg3 rfl rfl (hs.cell (k := 3) rfl rfl) ?_
      | refine s_load Try.isAgg3 rfl rfl (hs.cell (k := 4) rfl rfl) ?_
      | refine s_load Try.isAgg3 rfl rfl (hs.cell (k := 5) rfl rfl) ?_
      | refine s_load Try.isAgg3 rfl rfl (hs.cell (k := 6) rfl rfl) ?_
      | refine s_load Try.isAgg3 rfl rfl (hs.cell (k := 7) rfl rfl) ?_
      | refine s_load Try.isAgg3 rfl rfl (hs.cell (k := 8) rfl rfl) ?_
      | refine s_load Try.isAgg3 rfl rfl (hs.cell (k := 9) rfl rfl) ?_
      | refine s_load Try.isAgg3 rfl rfl (hs.cell (k := 1) (e := 3) (fz := (0, 0)) rfl (gs_in (sp := osp) (by omega) hll)) ?_
    refine WL_take rfl ?_
    refine s_move rfl rfl ?_
    refine WL_take rfl ?_
    refine s_eql rfl rfl rfl ?_
    refine s_pick_t rfl rfl rfl ?_
    refine s_move rfl rfl ?_
    refine WL_know (s := 100) (c := true) rfl ((by first | rfl | simp)) ?_
    refine WL_take rfl ?_
    refine s_fieldAddr rfl rfl (FA32_1 _ _) ?_
    refine WL_take rfl ?_
    first
      | refine s_load Try.isAgg3 rfl rfl (hs.cell (k := 0) rfl rfl) ?_
      | refine s_load Try.isAgg3 rfl rfl (hs.cell (k := 1) rfl rfl) ?_
      | refine s_load Try.isAgg3 rfl rfl (hs.cell (k := 2) rfl rfl) ?_
      | refine s_load Try.isAgg3 rfl rfl (hs.cell (k := 3) rfl rfl) ?_
      | refine s_load Try.isAgg3 rfl rfl (hs.cell (k := 4) rfl rfl) ?_
      | refine s_load Try.isAgg3 rfl rfl (hs.cell (k := 5) rfl rfl) ?_
      | refine s_load Try.isAgg3 rfl rfl (hs.cell (k := 6) rfl rfl) ?_
      | refine s_load Try.isAgg3 rfl rfl (hs.cell (k := 7) rfl rfl) ?_
      | refine s_load Try.isAgg3 rfl rfl (hs.cell (k := 8) rfl rfl) ?_
      | refine s_load Try.isAgg3 rfl rfl (hs.cell (k := 9) rfl rfl) ?_
      | refine s_load Try.isAgg3 rfl rfl (hs.cell (k := 1) (e := 3) (fz := (0, 0)) rfl (gs_in (sp := osp) (by omega) hll)) ?_
    refine WL_take rfl ?_
    refine s_move rfl rfl ?_
    refine WL_take rfl ?_
    refine s_eql rfl rfl rfl ?_
    refine s_pick_t rfl rfl rfl ?_
    refine s_move rfl rfl ?_
    refine WL_know (s := 106) (c := true) rfl ((by first | rfl | simp)) ?_
    refine WL_take rfl ?_
    refine s_move rfl rfl ?_
    refine WL_take rfl ?_
    refine s_call Try.call23 rfl rfl (len_ok p _ _ L1 w hN (hs.lendM (M := [_, _, _, _]))) ?_
    rintro r w ⟨rfl, rfl⟩
    refine WL_take rfl ?_
    refine s_eql rfl rfl rfl ?_
    refine s_pick_t rfl rfl rfl ?_
    refine s_move rfl rfl ?_
    refine WL_know (s := 111) (c := true) rfl ((by first | rfl | simp)) ?_
    refine WL_take rfl ?_
    refine s_call Try.call24 rfl rfl (lives_ok w) ?_
    rintro r w ⟨hst, rfl⟩
    replace hs := hs.fwd1 hst
    clear hst
    refine s_pick_t rfl rfl rfl ?_
    refine s_assign rfl rfl ?_
    refine WL_nil ?_
    refine n_then ?_
    refine W_ret ?_
    exact end1 rfl rfl ⟨hs.fwd, rfl⟩
set_option maxHeartbeats 1000000 in
theorem part_a_diff (v : Value) (zs : List Int) (from_ to_ : Int) (w0 : World) (hv : Sl w0 v zs.length (i64s zs)) (hf : -9223372036854775808 ≤ from_ ∧ from_ ≤ 9223372036854775807) (ht : -9223372036854775808 ≤ to_ ∧ to_ ≤ 9223372036854775807)
    (gl : List Int) (hgl : gl = [0, 0, 0, 0, 0, 0]) (h6 : zs.length < 6) (hgg : grp gl (aroundV from_ 6) ≠ grp gl (aroundV to_ 6)) :
    Ret Try.prog 7 [v, .int .i64 from_, .int .i64 to_].toArray w0 fun r w' => Fwd [] w0 w' ∧ r = .bool true := by
  have hll : gl.length = 6 := by rw [hgl]; simp
  have hab1 := around_bd from_ 6 (by omega)
  have hab2 := around_bd to_ 6 (by omega)
  obtain ⟨a, ha'⟩ : ∃ a, a = aroundV from_ 6 := ⟨_, rfl⟩
  obtain ⟨b, hb'⟩ : ∃ b, b = aroundV to_ 6 := ⟨_, rfl⟩
  rw [← ha'] at hab1 hgg
  rw [← hb'] at hab2 hgg
  refine Ret_start fun w hs => ?_
  refine Ret_of Try.func7 rfl Try.ntmps7 rfl ?_
  refine W_seq ?_
  refine W_region ?_
  refine s_assign rfl rfl ?_
  refine WL_nil ?_
  refine n_then ?_
  refine W_seq ?_
  refine W_region ?_
  refine s_call Try.call25 rfl rfl (new_ok 6 w (by omega)) ?_
  rintro r w (⟨_, _, p, LN, rfl, hN, hst⟩ | ⟨h, _⟩)
  case inr => exact absurd ⟨by omega, by omega⟩ h
  replace hs : St [] w0 w (LN ++ []) := St.back0 hs hst
  replace hN : NetAt p [0, 0, 0, 0, 0, 0] [] LN := hN
  clear hst
  refine s_move rfl rfl ?_
  refine s_extract rfl rfl rfl ?_
  refine s_extract rfl rfl rfl ?_
  refine s_assign rfl rfl ?_
  refine s_assign rfl rfl ?_
  refine WL_nil ?_
  refine n_then ?_
  refine W_seq ?_
  refine W_seq ?_
  refine W_region ?_
  refine s_move rfl rfl ?_
  refine s_eql_ptr_nil Try.underlying23 rfl rfl rfl ?_
  refine s_move rfl rfl ?_
  refine WL_know (s := 22) (c := false) rfl (rfl) ?_
  refine WL_take rfl ?_
  refine s_move rfl rfl ?_
  refine WL_take rfl ?_
  refine s_neq rfl rfl rfl ?_
  refine s_pick_f rfl rfl rfl ?_
  refine WL_nil ?_
  refine n_then ?_
  refine W_cond_kf rfl (rfl) ?_
  refine W_skip ?_
  refine n_then ?_
  refine W_seq ?_
  refine W_region ?_
  refine s_move rfl rfl ?_
  refine s_call Try.call26 rfl rfl (around_ok from_ 6 w (by omega) hf) ?_
  rintro r w ⟨rfl, rfl⟩
  rw [← ha']
  refine s_assign rfl rfl ?_
  refine WL_nil ?_
  refine n_then ?_
  refine W_seq ?_
  refine W_region ?_
  refine s_move rfl rfl ?_
  refine s_call Try.call26 rfl rfl (around_ok to_ 6 w (by omega) ht) ?_
  rintro r w ⟨rfl, rfl⟩
  rw [← hb']
  refine s_assign rfl rfl ?_
  refine WL_nil ?_
  refine n_then ?_
  refine W_seq ?_
  refine W_region ?_
  refine s_move rfl rfl ?_
  refine s_move rfl rfl ?_
  refine s_move rfl rfl ?_
  refine s_buildSlice rfl rfl (BS30_1 _) hs ?_; clear hs; intro b33 w hs
  refine s_build rfl rfl (BD32_0_1_2 _ _ _ _ _) ?_
  have hE : sendE [0, 0, 0, 0, 0, 0] [] a b [9] = 0 := by rw [sendE, if_neg (by simp; omega), if_neg (by simp)]
  refine s_callL (M := [_]) (L1 := LN) (X := []) Try.call12 rfl rfl hs (fun h => send_ok p _ [] a b _ [9] LN w hN h (hs.sl (k := 0) rfl (Nat.le_refl _) (by intro j u hj; rw [Nat.zero_add]; exact hj)) (by simp) (fun a m c he _ => by cases he; exact hs.notin (M := [_]) (by simp [ids]))) ?_
  clear hs; rintro v w LN ⟨rfl, ms, hN, -, hms⟩ - hs
  obtain ⟨b1, rfl⟩ := hms hE
  simp only [List.cons_append, List.nil_append] at hs hN
  replace hs := hs.tail
  refine WL_nil ?_
  refine n_then ?_
  refine W_seq ?_
  refine W_region ?_
  refine s_move rfl rfl ?_
  refine s_call Try.call27 rfl rfl (ints_ok v zs 6 w (hv.fwd0 hs.fwd) (by omega)) ?_
  rintro r w ⟨Lr, hO, hst⟩
  replace hs := St.back0 hs hst
  clear hst
  obtain ⟨tl, tc, ta, rfl, rfl⟩ := hO.form
  refine s_assign rfl rfl ?_
  refine WL_nil ?_
  refine n_then ?_
  refine W_seq ?_
  refine W_seq ?_
  refine W_region ?_
  refine s_move rfl rfl ?_
  refine s_len rfl rfl (LN22 _ _ _ _) ?_
  refine s_lss rfl rfl rfl ?_
  refine WL_nil ?_
  refine n_then ?_
  refine W_cond_kt rfl ((by simp; omega)) ?_
  refine W_seq ?_
  refine W_seq ?_
  refine W_region ?_
  refine s_move rfl rfl ?_
  refine s_move rfl rfl ?_
  refine s_call Try.call21 rfl rfl (partition_no p _ (zs.take 6) _ _ LN w hN (hs.lendM (M := Lr) (X := [])) (by have := hO.sl hs; simpa [Nat.min_comm] using this) (by simp; omega)) ?_
  rintro r w ⟨rfl, rfl⟩
  refine s_neq rfl rfl rfl ?_
  refine WL_nil ?_
  refine n_then ?_
  refine W_cond_kf rfl (rfl) ?_
  refine W_skip ?_
  refine n_then ?_
  refine W_region ?_
  replace hs : St [] w0 w (LN ++ []) := hs.right
  refine s_buildSlice rfl rfl (BS22_6 _ _ _ _ _ _) hs ?_; clear hs; intro gb w hs
  have hcap : 6 ≤ 6 := Nat.le_refl _
  obtain ⟨sp, hsp⟩ : ∃ sp : List Value, sp = [] := ⟨_, rfl⟩
  replace hs : St [] w0 w ((gb, Blk 3 (i64s gl ++ sp)) :: (LN ++ [])) := by rw [hsp, hgl]; exact hs
  rw [← hgl] at hN
  refine s_assign rfl rfl ?_
  refine WL_nil ?_
  refine n_then ?_
  refine W_seq ?_
  refine W_region ?_
  refine s_move rfl rfl ?_
  refine s_call Try.call27 rfl rfl (ints_ok _ gl 6 w (by rw [hll]; exact hs.sl (k := 0) (ds := i64s gl) rfl hcap (by intro j u hj; rw [Nat.zero_add, List.getElem?_append_left (List.getElem?_eq_some_iff.1 hj).1]; exact hj)) (by omega)) ?_
  rintro r w ⟨Lo, hO2, hst⟩
  replace hs := St.back0 hs hst
  clear hst
  rw [hll, show min 6 6 = 6 from rfl, List.take_of_length_le (by omega)] at hO2
  obtain ⟨ob, ocap, osp, rfl, hocap, rfl⟩ := hO2.block (by omega)
  simp only [List.cons_append, List.nil_append] at hs
  have hgl2 : (i64s gl ++ sp).length = 6 + sp.length := by simp [hll]
  refine s_assign rfl rfl ?_
  refine WL_nil ?_
  refine n_then ?_
  refine W_seq ?_
  refine W_seq ?_
  refine W_region ?_
  refine s_assign rfl rfl ?_
  refine WL_nil ?_
  refine n_then ?_
  refine W_block ?_
  refine W_loop (σ := Nat × List Value) (fun s => [(7, .pointer (some ⟨p, 0, none⟩)), (9, .int .i64 a), (10, .int .i64 b), (11, .slice (some ⟨gb, 0, none⟩) 6 6), (12, .slice (some ⟨ob, 0, none⟩) 6 ocap), (13, .int .i64 (s.1 : Int))])
    (fun s w => St [] w0 w ((ob, Blk 3 (i64s gl ++ osp)) :: (gb, Blk 3 s.2) :: (LN ++ [])) ∧ s.2.length = 6 + sp.length ∧ s.1 ≤ 6)
    (fun s => 6 - s.1) (0, i64s gl ++ sp) ⟨rfl, rfl, rfl, rfl, rfl, rfl, trivial⟩ ⟨hs, hgl2, Nat.zero_le _⟩ ?_
  clear hs
  rintro ⟨k, c⟩ w ⟨hs, hcl, hk⟩
  simp only at hs hcl hk
  refine W_seq ?_
  refine W_seq ?_
  refine W_region ?_
  refine s_move rfl rfl ?_
  refine s_lss rfl rfl rfl ?_
  refine WL_nil ?_
  refine n_then ?_
  refine W_cond rfl (fun hc53 => ?_) (fun hc53 => ?_)
  · skip
    simp only [decide_eq_true_eq, decide_eq_false_iff_not, bne_iff_ne, bne_eq_false_iff_eq, ne_eq] at hc53
    refine W_skip ?_
    refine n_then ?_
    refine W_seq ?_
    refine W_block ?_
    refine W_region ?_
    refine s_move rfl rfl ?_
    refine s_move rfl rfl ?_
    refine s_move rfl rfl ?_
    (refine s_indexAddr1 El22 rfl rfl rfl ?hx ?_; case hx => (constructor <;> first | omega | (simp; omega)))
    refine s_store Try.sizeOf3 rfl rfl rfl hs (kk := 1) rfl (by simp; omega) ?_
    clear hs; intro w hs
    simp only [List.set_cons_zero, List.set_cons_succ] at hs
    refine WL_nil ?_
    refine n_blk ?_
    refine n_then ?_
    refine W_region ?_
    refine s_move rfl rfl ?_
    first | (refine s_add' rfl rfl rfl ?hx ?_; case hx => (constructor <;> omega)) | refine s_add rfl rfl rfl ?_
    refine s_assign rfl rfl ?_
    refine WL_nil ?_
    refine n_loop ?_
    exact ⟨(k + 1, _), ⟨rfl, rfl, rfl, rfl, rfl, rfl, trivial⟩, ⟨hs, by simpa using hcl, by show k + 1 ≤ _; omega⟩, by show _ - (k + 1) < _; omega⟩
  · skip
    simp only [decide_eq_true_eq, decide_eq_false_iff_not, bne_iff_ne, bne_eq_false_iff_eq, ne_eq] at hc53
    refine W_exit ?_
    refine x_then ?_
    refine x_then ?_
    refine exit_hit ?_
    refine n_then ?_
    refine W_seq ?_
    refine W_region ?_
    refine s_move rfl rfl ?_
    refine s_callL (M := [_, _]) (L1 := LN) (X := []) Try.call14 rfl rfl hs (fun h => take_yes p gl _ 0 LN w hN h (by simp) (by simp) _ (by simp; rfl) (by simp [hll]; omega)) ?_
    clear hs; intro v w LN h _ hs
    obtain ⟨_, rfl, hN⟩ | ⟨h, _⟩ := h
    case inr => exact absurd h hgg
    simp only [List.cons_append, List.nil_append] at hs
    refine s_move rfl rfl ?_
    refine s_extract rfl rfl rfl ?_
    refine s_extract rfl rfl rfl ?_
    refine s_alloc rfl AL32 hs ?_; clear hs; intro b14 w hs
    first
      | refine s_storeW Try.sizeOf32 rfl rfl rfl rfl hs (kk := 0) rfl rfl ?_
      | refine s_storeW Try.sizeOf32 rfl rfl rfl rfl hs (kk := 1) rfl rfl ?_
      | refine s_storeW Try.sizeOf32 rfl rfl rfl rfl hs (kk := 2) rfl rfl ?_
      | refine s_storeW Try.sizeOf32 rfl rfl rfl rfl hs (kk := 3) rfl rfl ?_
      | refine s_storeW Try.sizeOf32 rfl rfl rfl rfl hs (kk := 4) rfl rfl ?_
      | refine s_storeW Try.sizeOf32 rfl rfl rfl rfl hs (kk := 5) rfl rfl ?_
      | refine s_storeW Try.sizeOf32 rfl rfl rfl rfl hs (kk := 6) rfl rfl ?_
      | refine s_storeW Try.sizeOf32 rfl rfl rfl rfl hs (kk := 7) rfl rfl ?_
      | refine s_storeW Try.sizeOf32 rfl rfl rfl rfl hs (kk := 8) rfl rfl ?_
      | refine s_storeW Try.sizeOf32 rfl rfl rfl rfl hs (kk := 9) rfl rfl ?_
      | refine s_storeAB Try.sizeOf32 rfl rfl rfl rfl hs (kk := 0) rfl rfl ?_
      | refine s_storeAB Try.sizeOf32 rfl rfl rfl rfl hs (kk := 1) rfl rfl ?_
      | refine s_storeAB Try.sizeOf32 rfl rfl rfl rfl hs (kk := 2) rfl rfl ?_
      | refine s_storeAB Try.sizeOf32 rfl rfl rfl rfl hs (kk := 3) rfl rfl ?_
      | refine s_storeAB Try.sizeOf32 rfl rfl rfl rfl hs (kk := 4) rfl rfl ?_
      | refine s_storeAB Try.sizeOf32 rfl rfl rfl rfl hs (kk := 5) rfl rfl ?_
      | refine s_storeAB Try.sizeOf32 rfl rfl rfl rfl hs (kk := 6) rfl rfl ?_
      | refine s_storeAB Try.sizeOf32 rfl rfl rfl rfl hs (kk := 7) rfl rfl ?_
      | refine s_storeAB Try.sizeOf32 rfl rfl rfl rfl hs (kk := 8) rfl rfl ?_
      | refine s_storeAB Try.sizeOf32 rfl rfl rfl rfl hs (kk := 9) rfl rfl ?_
    clear hs; intro w hs; try simp only [List.set_cons_zero, List.set_cons_succ, splice, List.take_succ_cons, List.take_zero, List.drop_succ_cons, List.drop_zero, List.nil_append, List.cons_append, List.length_cons, List.length_nil, Nat.reduceAdd, List.append_assoc] at hs
    refine s_assign rfl rfl ?_
    refine WL_nil ?_
    refine n_then ?_
    refine W_seq ?_
    refine W_seq ?_
    refine W_draw [(0, true, []), (1, true, []), (2, true, []), (3, true, []), (4, true, []), (5, true, []), (6, true, []), (7, true, []), (8, true, [])] MX (by kernel_rfl) ?_
    intro w1 hw1 hw2 hw3 hw4; replace hs := hs.redrawn hw1 hw2 hw3 hw4; clear hw1 hw2 hw3 hw4
    obtain ⟨w, rfl⟩ : ∃ w : World, w = w1 := ⟨_, rfl⟩
    refine D_q rfl rfl ?_
    refine s_move rfl rfl ?_
    refine D_qn ?_
    refine D_q rfl rfl ?_
    refine s_move rfl rfl ?_
    refine D_qn ?_
    refine D_q rfl rfl ?_
    (refine s_indexAddr1 El22 rfl rfl rfl ?hx ?_; case hx => (constructor <;> first | omega | (simp; omega)))
    refine D_qn ?_
    refine D_q rfl rfl ?_
    first
      | refine s_load Try.isAgg3 rfl rfl (hs.cell (k := 0) rfl rfl) ?_
      | refine s_load Try.isAgg3 rfl rfl (hs.cell (k := 1) rfl rfl) ?_
      | refine s_load Try.isAgg3 rfl rfl (hs.cell (k := 2) rfl rfl) ?_
      | refine s_load Try.isAgg3 rfl rfl (hs.cell (k := 3) rfl rfl) ?_
      | refine s_load Try.isAgg3 rfl rfl (hs.cell (k := 4) rfl rfl) ?_
      | refine s_load Try.isAgg3 rfl rfl (hs.cell (k := 5) rfl rfl) ?_
      | refine s_load Try.isAgg3 rfl rfl (hs.cell (k := 6) rfl rfl) ?_
      | refine s_load Try.isAgg3 rfl rfl (hs.cell (k := 7) rfl rfl) ?_
      | refine s_load Try.isAgg3 rfl rfl (hs.cell (k := 8) rfl rfl) ?_
      | refine s_load Try.isAgg3 rfl rfl (hs.cell (k := 9) rfl rfl) ?_
      | refine s_load Try.isAgg3 rfl rfl (hs.cell (k := 1) (e := 3) (fz := (0, 0)) rfl (gs_in (sp := osp) (by omega) hll)) ?_
    refine D_qn ?_
    refine D_q rfl rfl ?_
    refine s_move rfl rfl ?_
    refine D_qn ?_
    refine D_q rfl rfl ?_
    refine s_move rfl rfl ?_
    refine D_qn ?_
    refine D_q rfl rfl ?_
    (refine s_indexAddr1 El22 rfl rfl rfl ?hx ?_; case hx => (constructor <;> first | omega | (simp; omega)))
    refine D_qn ?_
    refine D_q rfl rfl ?_
    first
      | refine s_load Try.isAgg3 rfl rfl (hs.cell (k := 0) rfl rfl) ?_
      | refine s_load Try.isAgg3 rfl rfl (hs.cell (k := 1) rfl rfl) ?_
      | refine s_load Try.isAgg3 rfl rfl (hs.cell (k := 2) rfl rfl) ?_
      | refine s_load Try.isAgg3 rfl rfl (hs.cell (k := 3) rfl rfl) ?_
      | refine s_load Try.isAgg3 rfl rfl (hs.cell (k := 4) rfl rfl) ?_
      | refine s_load Try.isAgg3 rfl rfl (hs.cell (k := 5) rfl rfl) ?_
      | refine s_load Try.isAgg3 rfl rfl (hs.cell (k := 6) rfl rfl) ?_
      | refine s_load Try.isAgg3 rfl rfl (hs.cell (k := 7) rfl rfl) ?_
      | refine s_load Try.isAgg3 rfl rfl (hs.cell (k := 8) rfl rfl) ?_
      | refine s_load Try.isAgg3 rfl rfl (hs.cell (k := 9) rfl rfl) ?_
      | refine s_load Try.isAgg3 rfl rfl (hs.cell (k := 1) (e := 3) (fz := (0, 0)) rfl (gs_in (sp := osp) (by omega) hll)) ?_
    refine D_qn ?_
    refine D_q rfl rfl ?_
    refine s_neq rfl rfl rfl ?_
    refine D_qn ?_
    refine D_nil ?_
    refine n_then ?_
    refine W_cond_kt rfl ((by simp [hgg])) ?_
    refine W_seq ?_
    refine W_seq ?_
    refine W_region ?_
    refine s_move rfl rfl ?_
    refine s_neq rfl rfl rfl ?_
    refine s_move rfl rfl ?_
    refine WL_know (s := 76) (c := false) rfl (rfl) ?_
    refine WL_take rfl ?_
    refine s_move rfl rfl ?_
    refine WL_take rfl ?_
    refine s_call Try.call23 rfl rfl (len_ok p _ _ LN w hN (hs.lendM (M := [_, _, _]))) ?_
    rintro r w ⟨rfl, rfl⟩
    refine WL_take rfl ?_
    refine s_neq rfl rfl rfl ?_
    refine s_pick_f rfl rfl rfl ?_
    refine s_move rfl rfl ?_
    refine WL_know (s := 81) (c := false) rfl (rfl) ?_
    refine WL_take rfl ?_
    refine s_move rfl rfl ?_
    refine WL_take rfl ?_
    refine s_makeSlice El22 rfl rfl rfl ?hx hs ?_
    case hx => (refine ⟨?_, ?_, ?_, ?_⟩ <;> omega)
    clear hs; intro b83 w hs
    refine WL_take rfl ?_
    refine s_callL (M := [_, _, _, _]) (L1 := LN) (X := []) Try.call21 rfl rfl hs (fun h => partition_yes p _ [0, 0, 0, 0, 0, 0] _ _ LN w hN h (hs.sl (k := 0) (ds := i64s [0, 0, 0, 0, 0, 0]) rfl (Nat.le_refl _) (by intro j u hj; rw [Nat.zero_add]; exact hj)) (by rw [hll]; rfl)) ?_
    clear hs; rintro v w LN ⟨rfl, hN⟩ - hs
    simp only [List.cons_append, List.nil_append] at hs
    replace hs := hs.tail
    refine WL_take rfl ?_
    refine s_neq rfl rfl rfl ?_
    refine s_pick_f rfl rfl rfl ?_
    refine WL_nil ?_
    refine n_then ?_
    refine W_cond_kf rfl (rfl) ?_
    refine W_skip ?_
    refine n_then ?_
    refine W_region ?_
    refine s_move rfl rfl ?_
    refine s_callL (M := [_, _, _]) (L1 := LN) (X := []) Try.call14 rfl rfl hs (fun h => take_yes p [0, 0, 0, 0, 0, 0] _ 0 LN w hN h (by simp) (by simp) _ (by simp; rfl) (by simp; omega)) ?_
    clear hs; intro v w LN h _ hs
    obtain ⟨h, _⟩ | ⟨_, rfl, L1, rfl, hN⟩ := h
    case inl => exact absurd (grp0 hab1 hab2) h
    simp only [List.cons_append, List.nil_append, Msg.blk] at hs
    simp only [Msg.cells]
    refine s_move rfl rfl ?_
    refine s_extract rfl rfl rfl ?_
    refine s_extract rfl rfl rfl ?_
    first
      | refine s_storeW Try.sizeOf32 rfl rfl rfl rfl hs (kk := 0) rfl rfl ?_
      | refine s_storeW Try.sizeOf32 rfl rfl rfl rfl hs (kk := 1) rfl rfl ?_
      | refine s_storeW Try.sizeOf32 rfl rfl rfl rfl hs (kk := 2) rfl rfl ?_
      | refine s_storeW Try.sizeOf32 rfl rfl rfl rfl hs (kk := 3) rfl rfl ?_
      | refine s_storeW Try.sizeOf32 rfl rfl rfl rfl hs (kk := 4) rfl rfl ?_
      | refine s_storeW Try.sizeOf32 rfl rfl rfl rfl hs (kk := 5) rfl rfl ?_
      | refine s_storeW Try.sizeOf32 rfl rfl rfl rfl hs (kk := 6) rfl rfl ?_
      | refine s_storeW Try.sizeOf32 rfl rfl rfl rfl hs (kk := 7) rfl rfl ?_
      | refine s_storeW Try.sizeOf32 rfl rfl rfl rfl hs (kk := 8) rfl rfl ?_
      | refine s_storeW Try.sizeOf32 rfl rfl rfl rfl hs (kk := 9) rfl rfl ?_
      | refine s_storeAB Try.sizeOf32 rfl rfl rfl rfl hs (kk := 0) rfl rfl ?_
      | refine s_storeAB Try.sizeOf32 rfl rfl rfl rfl hs (kk := 1) rfl rfl ?_
      | refine s_storeAB Try.sizeOf32 rfl rfl rfl rfl hs (kk := 2) rfl rfl ?_
      | refine s_storeAB Try.sizeOf32 rfl rfl rfl rfl hs (kk := 3) rfl rfl ?_
      | refine s_storeAB Try.sizeOf32 rfl rfl rfl rfl hs (kk := 4) rfl rfl ?_
      | refine s_storeAB Try.sizeOf32 rfl rfl rfl rfl hs (kk := 5) rfl rfl ?_
      | refine s_storeAB Try.sizeOf32 rfl rfl rfl rfl hs (kk := 6) rfl rfl ?_
      | refine s_storeAB Try.sizeOf32 rfl rfl rfl rfl hs (kk := 7) rfl rfl ?_
      | refine s_storeAB Try.sizeOf32 rfl rfl rfl rfl hs (kk := 8) rfl rfl ?_
      | refine s_storeAB Try.sizeOf32 rfl rfl rfl rfl hs (kk := 9) rfl rfl ?_
    clear hs; intro w hs; try simp only [List.set_cons_zero, List.set_cons_succ, splice, List.take_succ_cons, List.take_zero, List.drop_succ_cons, List.drop_zero, List.nil_append, List.cons_append, List.length_cons, List.length_nil, Nat.reduceAdd, List.append_assoc] at hs
    refine s_assign rfl rfl ?_
    refine WL_nil ?_
    refine n_then ?_
    refine W_seq ?_
    refine W_region ?_
    refine s_move rfl rfl ?_
    refine s_eql rfl rfl rfl ?_
    refine s_move rfl rfl ?_
    refine WL_know (s := 94) (c := true) rfl ((by first | rfl | simp)) ?_
    refine WL_take rfl ?_
    refine s_fieldAddr rfl rfl (FA32_0 _ _) ?_
    refine WL_take rfl ?_
    first
      | refine s_load Try.isAgg3 rfl rfl (hs.cell (k := 0) rfl rfl) ?_
      | refine s_load Try.isAgg3 rfl rfl (hs.cell (k := 1) rfl rfl) ?_
      | refine s_load Try.isAgg3 rfl rfl (hs.cell (k := 2) rfl rfl) ?_
      | refine s_load Try.isAgg3 rfl rfl (hs.cell (k := 3) rfl rfl) ?_
      | refine s_load Try.isAgg3 rfl rfl (hs.cell (k := 4) rfl rfl) ?_
      | refine s_load Try.isAgg3 rfl rfl (hs.cell (k := 5) rfl rfl) ?_
      | refine s_load Try.isAgg3 rfl rfl (hs.cell (k := 6) rfl rfl) ?_
      | refine s_load Try.isAgg3 rfl rfl (hs.cell (k := 7) rfl rfl) ?_
      | refine s_load Try.isAgg3 rfl rfl (hs.cell (k := 8) rfl rfl) ?_
      | refine s_load Try.isAgg3 rfl rfl (hs.cell (k := 9) rfl rfl) ?_
      | refine s_load Try.isAgg3 rfl rfl (hs.cell (k := 1) (e := 3) (fz := (0, 0)) rfl (gs_in (sp := osp) (by omega) hll)) ?_
    refine WL_take rfl ?_
    refine s_move rfl rfl ?_
    refine WL_take rfl ?_
    refine s_eql rfl rfl rfl ?_
    refine s_pick_t rfl rfl rfl ?_
    refine s_move rfl rfl ?_
    refine WL_know (s := 100) (c := true) rfl ((by first | rfl | simp)) ?_
    refine WL_take rfl ?_
    refine s_fieldAddr rfl rfl (FA32_1 _ _) ?_
    refine WL_take rfl ?_
    first
      | refine s_load Try.isAgg3 rfl rfl (hs.cell (k := 0) rfl rfl) ?_
      | refine s_load Try.isAgg3 rfl rfl (hs.cell (k := 1) rfl rfl) ?_
      | refine s_load Try.isAgg3 rfl rfl (hs.cell (k := 2) rfl rfl) ?_
      | refine s_load Try.isAgg3 rfl rfl (hs.cell (k := 3) rfl rfl) ?_
      | refine s_load Try.isAgg3 rfl rfl (hs.cell (k := 4) rfl rfl) ?_
      | refine s_load Try.isAgg3 rfl rfl (hs.cell (k := 5) rfl rfl) ?_
      | refine s_load Try.isAgg3 rfl rfl (hs.cell (k := 6) rfl rfl) ?_
      | refine s_load Try.isAgg3 rfl rfl (hs.cell (k := 7) rfl rfl) ?_
      | refine s_load Try.isAgg3 rfl rfl (hs.cell (k := 8) rfl rfl) ?_
      | refine s_load Try.isAgg3 rfl rfl (hs.cell (k := 9) rfl rfl) ?_
      | refine s_load Try.isAgg3 rfl rfl (hs.cell (k := 1) (e := 3) (fz := (0, 0)) rfl (gs_in (sp := osp) (by omega) hll)) ?_
    refine WL_take rfl ?_
    refine s_move rfl rfl ?_
    refine WL_take rfl ?_
    refine s_eql rfl rfl rfl ?_
    refine s_pick_t rfl rfl rfl ?_
    refine s_move rfl rfl ?_
    refine WL_know (s := 106) (c := true) rfl ((by first | rfl | simp)) ?_
    refine WL_take rfl ?_
    refine s_move rfl rfl ?_
    refine WL_take rfl ?_
    refine s_call Try.call23 rfl rfl (len_ok p _ _ L1 w hN (hs.lendM (M := [_, _, _, _]))) ?_
    rintro r w ⟨rfl, rfl⟩
    refine WL_take rfl ?_
    refine s_eql rfl rfl rfl ?_
    refine s_pick_t rfl rfl rfl ?_
    refine s_move rfl rfl ?_
    refine WL_know (s := 111) (c := true) rfl ((by first | rfl | simp)) ?_
    refine WL_take rfl ?_
    refine s_call Try.call24 rfl rfl (lives_ok w) ?_
    rintro r w ⟨hst, rfl⟩
    replace hs := hs.fwd1 hst
    clear hst
    refine s_pick_t rfl rfl rfl ?_
    refine s_assign rfl rfl ?_
    refine WL_nil ?_
    refine n_then ?_
    refine W_ret ?_
    exact end1 rfl rfl ⟨hs.fwd, rfl⟩
set_option maxHeartbeats 1000000 in
theorem part_b_same (v : Value) (zs : List Int) (from_ to_ : Int) (w0 : World) (hv : Sl w0 v zs.length (i64s zs)) (hf : -9223372036854775808 ≤ from_ ∧ from_ ≤ 9223372036854775807) (ht : -9223372036854775808 ≤ to_ ∧ to_ ≤ 9223372036854775807)
    (gl : List Int) (hgl : gl = zs.take 6) (h6 : 6 ≤ zs.length) (hgg : grp gl (aroundV from_ 6) = grp gl (aroundV to_ 6)) :
    Ret Try.prog 7 [v, .int .i64 from_, .int .i64 to_].toArray w0 fun r w' => Fwd [] w0 w' ∧ r = .bool true := by
  have hll : gl.length = 6 := by rw [hgl]; simp; omega
  have hab1 := around_bd from_ 6 (by omega)
  have hab2 := around_bd to_ 6 (by omega)
  obtain ⟨a, ha'⟩ : ∃ a, a = aroundV from_ 6 := ⟨_, rfl⟩
  obtain ⟨b, hb'⟩ : ∃ b, b = aroundV to_ 6 := ⟨_, rfl⟩
  rw [← ha'] at hab1 hgg
  rw [← hb'] at hab2 hgg
  refine Ret_start fun w hs => ?_
  refine Ret_of Try.func7 rfl Try.ntmps7 rfl ?_
  refine W_seq ?_
  refine W_region ?_
  refine s_assign rfl rfl ?_
  refine WL_nil ?_
  refine n_then ?_
  refine W_seq ?_
  refine W_region ?_
  refine s_call Try.call25 rfl rfl (new_ok 6 w (by omega)) ?_
  rintro r w (⟨_, _, p, LN, rfl, hN, hst⟩ | ⟨h, _⟩)
  case inr => exact absurd ⟨by omega, by omega⟩ h
  replace hs : St [] w0 w (LN ++ []) := St.back0 hs hst
  replace hN : NetAt p [0, 0, 0, 0, 0, 0] [] LN := hN
  clear hst
  refine s_move rfl rfl ?_
  refine s_extract rfl rfl rfl ?_
  refine s_extract rfl rfl rfl ?_
  refine s_assign rfl rfl ?_
  refine s_assign rfl rfl ?_
  refine WL_nil ?_
  refine n_then ?_
  refine W_seq ?_
  refine W_seq ?_
  refine W_region ?_
  refine s_move rfl rfl ?_
  refine s_eql_ptr_nil Try.underlying23 rfl rfl rfl ?_
  refine s_move rfl rfl ?_
  refine WL_know (s := 22) (c := false) rfl (rfl) ?_
  refine WL_take rfl ?_
  refine s_move rfl rfl ?_
  refine WL_take rfl ?_
  refine s_neq rfl rfl rfl ?_
  refine s_pick_f rfl rfl rfl ?_
  refine WL_nil ?_
  refine n_then ?_
  refine W_cond_kf rfl (rfl) ?_
  refine W_skip ?_
  refine n_then ?_
  refine W_seq ?_
  refine W_region ?_
  refine s_move rfl rfl ?_
  refine s_call Try.call26 rfl rfl (around_ok from_ 6 w (by omega) hf) ?_
  rintro r w ⟨rfl, rfl⟩
  rw [← ha']
  refine s_assign rfl rfl ?_
  refine WL_nil ?_
  refine n_then ?_
  refine W_seq ?_
  refine W_region ?_
  refine s_move rfl rfl ?_
  refine s_call Try.call26 rfl rfl (around_ok to_ 6 w (by omega) ht) ?_
  rintro r w ⟨rfl, rfl⟩
  rw [← hb']
  refine s_assign rfl rfl ?_
  refine WL_nil ?_
  refine n_then ?_
  refine W_seq ?_
  refine W_region ?_
  refine s_move rfl rfl ?_
  refine s_move rfl rfl ?_
  refine s_move rfl rfl ?_
  refine s_buildSlice rfl rfl (BS30_1 _) hs ?_; clear hs; intro b33 w hs
  refine s_build rfl rfl (BD32_0_1_2 _ _ _ _ _) ?_
  have hE : sendE [0, 0, 0, 0, 0, 0] [] a b [9] = 0 := by rw [sendE, if_neg (by simp; omega), if_neg (by simp)]
  refine s_callL (M := [_]) (L1 := LN) (X := []) Try.call12 rfl rfl hs (fun h => send_ok p _ [] a b _ [9] LN w hN h (hs.sl (k := 0) rfl (Nat.le_refl _) (by intro j u hj; rw [Nat.zero_add]; exact hj)) (by simp) (fun a m c he _ => by cases he; exact hs.notin (M := [_]) (by simp [ids]))) ?_
  clear hs; rintro v w LN ⟨rfl, ms, hN, -, hms⟩ - hs
  obtain ⟨b1, rfl⟩ := hms hE
  simp only [List.cons_append, List.nil_append] at hs hN
  replace hs := hs.tail
  refine WL_nil ?_
  refine n_then ?_
  refine W_seq ?_
  refine W_region ?_
  refine s_move rfl rfl ?_
  refine s_call Try.call27 rfl rfl (ints_ok v zs 6 w (hv.fwd0 hs.fwd) (by omega)) ?_
  rintro r w ⟨Lr, hO, hst⟩
  replace hs := St.back0 hs hst
  clear hst
  rw [show min zs.length 6 = 6 by omega] at hO
  obtain ⟨gb, gcap, sp, rfl, hcap, rfl⟩ := hO.block (by omega)
  simp only [List.cons_append, List.nil_append] at hs
  rw [← hgl] at hs
  refine s_assign rfl rfl ?_
  refine WL_nil ?_
  refine n_then ?_
  refine W_seq ?_
  refine W_seq ?_
  refine W_region ?_
  refine s_move rfl rfl ?_
  refine s_len rfl rfl (LN22 _ _ _ _) ?_
  refine s_lss rfl rfl rfl ?_
  refine WL_nil ?_
  refine n_then ?_
  refine W_cond_kf rfl ((by simp)) ?_
  refine W_seq ?_
  refine W_region ?_
  refine s_move rfl rfl ?_
  refine s_move rfl rfl ?_
  refine s_callL (M := [_]) (L1 := LN) (X := []) Try.call21 rfl rfl hs (fun h => partition_yes p _ gl _ _ LN w hN h (by rw [hll]; exact hs.sl (k := 0) (ds := i64s gl) rfl hcap (by intro j u hj; rw [Nat.zero_add, List.getElem?_append_left (List.getElem?_eq_some_iff.1 hj).1]; exact hj)) (by rw [hll]; rfl)) ?_
  clear hs; rintro v w LN ⟨rfl, hN⟩ - hs
  simp only [List.cons_append, List.nil_append] at hs
  refine s_neq rfl rfl rfl ?_
  refine WL_nil ?_
  refine n_then ?_
  refine W_cond_kf rfl (rfl) ?_
  refine W_skip ?_
  refine n_then ?_
  refine W_seq ?_
  refine W_region ?_
  refine s_move rfl rfl ?_
  refine s_call Try.call27 rfl rfl (ints_ok _ gl 6 w (by rw [hll]; exact hs.sl (k := 0) (ds := i64s gl) rfl hcap (by intro j u hj; rw [Nat.zero_add, List.getElem?_append_left (List.getElem?_eq_some_iff.1 hj).1]; exact hj)) (by omega)) ?_
  rintro r w ⟨Lo, hO2, hst⟩
  replace hs := St.back0 hs hst
  clear hst
  rw [hll, show min 6 6 = 6 from rfl, List.take_of_length_le (by omega)] at hO2
  obtain ⟨ob, ocap, osp, rfl, hocap, rfl⟩ := hO2.block (by omega)
  simp only [List.cons_append, List.nil_append] at hs
  have hgl2 : (i64s gl ++ sp).length = 6 + sp.length := by simp [hll]
  refine s_assign rfl rfl ?_
  refine WL_nil ?_
  refine n_then ?_
  refine W_seq ?_
  refine W_seq ?_
  refine W_region ?_
  refine s_assign rfl rfl ?_
  refine WL_nil ?_
  refine n_then ?_
  refine W_block ?_
  refine W_loop (σ := Nat × List Value) (fun s => [(7, .pointer (some ⟨p, 0, none⟩)), (9, .int .i64 a), (10, .int .i64 b), (11, .slice (some ⟨gb, 0, none⟩) 6 gcap), (12, .slice (some ⟨ob, 0, none⟩) 6 ocap), (13, .int .i64 (s.1 : Int))])
    (fun s w => St [] w0 w ((ob, Blk 3 (i64s gl ++ osp)) :: (gb, Blk 3 s.2) :: (LN ++ [])) ∧ s.2.length = 6 + sp.length ∧ s.1 ≤ 6)
    (fun s => 6 - s.1) (0, i64s gl ++ sp) ⟨rfl, rfl, rfl, rfl, rfl, rfl, trivial⟩ ⟨hs, hgl2, Nat.zero_le _⟩ ?_
  clear hs
  rintro ⟨k, c⟩ w ⟨hs, hcl, hk⟩
  simp only at hs hcl hk
  refine W_seq ?_
  refine W_seq ?_
  refine W_region ?_
  refine s_move rfl rfl ?_
  refine s_lss rfl rfl rfl ?_
  refine WL_nil ?_
  refine n_then ?_
  refine W_cond rfl (fun hc53 => ?_) (fun hc53 => ?_)
  · skip
    simp only [decide_eq_true_eq, decide_eq_false_iff_not, bne_iff_ne, bne_eq_false_iff_eq, ne_eq] at hc53
    refine W_skip ?_
    refine n_then ?_
    refine W_seq ?_
    refine W_block ?_
    refine W_region ?_
    refine s_move rfl rfl ?_
    refine s_move rfl rfl ?_
    refine s_move rfl rfl ?_
    (refine s_indexAddr1 El22 rfl rfl rfl ?hx ?_; case hx => (constructor <;> first | omega | (simp; omega)))
    refine s_store Try.sizeOf3 rfl rfl rfl hs (kk := 1) rfl (by simp; omega) ?_
    clear hs; intro w hs
    simp only [List.set_cons_zero, List.set_cons_succ] at hs
    refine WL_nil ?_
    refine n_blk ?_
    refine n_then ?_
    refine W_region ?_
    refine s_move rfl rfl ?_
    first | (refine s_add' rfl rfl rfl ?hx ?_; case hx => (constructor <;> omega)) | refine s_add rfl rfl rfl ?_
    refine s_assign rfl rfl ?_
    refine WL_nil ?_
    refine n_loop ?_
    exact ⟨(k + 1, _), ⟨rfl, rfl, rfl, rfl, rfl, rfl, trivial⟩, ⟨hs, by simpa using hcl, by show k + 1 ≤ _; omega⟩, by show _ - (k + 1) < _; omega⟩
  · skip
    simp only [decide_eq_true_eq, decide_eq_false_iff_not, bne_iff_ne, bne_eq_false_iff_eq, ne_eq] at hc53
    refine W_exit ?_
    refine x_then ?_
    refine x_then ?_
    refine exit_hit ?_
    refine n_then ?_
    refine W_seq ?_
    refine W_region ?_
    refine s_move rfl rfl ?_
    refine s_callL (M := [_, _]) (L1 := LN) (X := []) Try.call14 rfl rfl hs (fun h => take_yes p gl _ 0 LN w hN h (by simp) (by simp) _ (by simp; rfl) (by simp [hll]; omega)) ?_
    clear hs; intro v w LN h _ hs
    obtain ⟨h, _⟩ | ⟨_, rfl, L1, rfl, hN⟩ := h
    case inl => exact absurd hgg h
    simp only [List.cons_append, List.nil_append, Msg.blk] at hs
    simp only [Msg.cells]
    refine s_move rfl rfl ?_
    refine s_extract rfl rfl rfl ?_
    refine s_extract rfl rfl rfl ?_
    refine s_alloc rfl AL32 hs ?_; clear hs; intro b14 w hs
    first
      | refine s_storeW Try.sizeOf32 rfl rfl rfl rfl hs (kk := 0) rfl rfl ?_
      | refine s_storeW Try.sizeOf32 rfl rfl rfl rfl hs (kk := 1) rfl rfl ?_
      | refine s_storeW Try.sizeOf32 rfl rfl rfl rfl hs (kk := 2) rfl rfl ?_
      | refine s_storeW Try.sizeOf32 rfl rfl rfl rfl hs (kk := 3) rfl rfl ?_
      | refine s_storeW Try.sizeOf32 rfl rfl rfl rfl hs (kk := 4) rfl rfl ?_
      | refine s_storeW Try.sizeOf32 rfl rfl rfl rfl hs (kk := 5) rfl rfl ?_
      | refine s_storeW Try.sizeOf32 rfl rfl rfl rfl hs (kk := 6) rfl rfl ?_
      | refine s_storeW Try.sizeOf32 rfl rfl rfl rfl hs (kk := 7) rfl rfl ?_
      | refine s_storeW Try.sizeOf32 rfl rfl rfl rfl hs (kk := 8) rfl rfl ?_
      | refine s_storeW Try.sizeOf32 rfl rfl rfl rfl hs (kk := 9) rfl rfl ?_
      | refine s_storeAB Try.sizeOf32 rfl rfl rfl rfl hs (kk := 0) rfl rfl ?_
      | refine s_storeAB Try.sizeOf32 rfl rfl rfl rfl hs (kk := 1) rfl rfl ?_
      | refine s_storeAB Try.sizeOf32 rfl rfl rfl rfl hs (kk := 2) rfl rfl ?_
      | refine s_storeAB Try.sizeOf32 rfl rfl rfl rfl hs (kk := 3) rfl rfl ?_
      | refine s_storeAB Try.sizeOf32 rfl rfl rfl rfl hs (kk := 4) rfl rfl ?_
      | refine s_storeAB Try.sizeOf32 rfl rfl rfl rfl hs (kk := 5) rfl rfl ?_
      | refine s_storeAB Try.sizeOf32 rfl rfl rfl rfl hs (kk := 6) rfl rfl ?_
      | refine s_storeAB Try.sizeOf32 rfl rfl rfl rfl hs (kk := 7) rfl rfl ?_
      | refine s_storeAB Try.sizeOf32 rfl rfl rfl rfl hs (kk := 8) rfl rfl ?_
      | refine s_storeAB Try.sizeOf32 rfl rfl rfl rfl hs (kk := 9) rfl rfl ?_
    clear hs; intro w hs; try simp only [List.set_cons_zero, List.set_cons_succ, splice, List.take_succ_cons, List.take_zero, List.drop_succ_cons, List.drop_zero, List.nil_append, List.cons_append, List.length_cons, List.length_nil, Nat.reduceAdd, List.append_assoc] at hs
    refine s_assign rfl rfl ?_
    refine WL_nil ?_
    refine n_then ?_
    refine W_seq ?_
    refine W_seq ?_
    refine W_draw [(0, true, []), (1, true, []), (2, true, []), (3, true, []), (4, true, []), (5, true, []), (6, true, []), (7, true, []), (8, true, [])] MX (by kernel_rfl) ?_
    intro w1 hw1 hw2 hw3 hw4; replace hs := hs.redrawn hw1 hw2 hw3 hw4; clear hw1 hw2 hw3 hw4
    obtain ⟨w, rfl⟩ : ∃ w : World, w = w1 := ⟨_, rfl⟩
    refine D_q rfl rfl ?_
    refine s_move rfl rfl ?_
    refine D_qn ?_
    refine D_q rfl rfl ?_
    refine s_move rfl rfl ?_
    refine D_qn ?_
    refine D_q rfl rfl ?_
    (refine s_indexAddr1 El22 rfl rfl rfl ?hx ?_; case hx => (constructor <;> first | omega | (simp; omega)))
    refine D_qn ?_
    refine D_q rfl rfl ?_
    first
      | refine s_load Try.isAgg3 rfl rfl (hs.cell (k := 0) rfl rfl) ?_
      | refine s_load Try.isAgg3 rfl rfl (hs.cell (k := 1) rfl rfl) ?_
      | refine s_load Try.isAgg3 rfl rfl (hs.cell (k := 2) rfl rfl) ?_
      | refine s_load Try.isAgg3 rfl rfl (hs.cell (k := 3) rfl rfl) ?_
      | refine s_load Try.isAgg3 rfl rfl (hs.cell (k := 4) rfl rfl) ?_
      | refine s_load Try.isAgg3 rfl rfl (hs.cell (k := 5) rfl rfl) ?_
      | refine s_load Try.isAgg3 rfl rfl (hs.cell (k := 6) rfl rfl) ?_
      | refine s_load Try.isAgg3 rfl rfl (hs.cell (k := 7) rfl rfl) ?_
      | refine s_load Try.isAgg3 rfl rfl (hs.cell (k := 8) rfl rfl) ?_
      | refine s_load Try.isAgg3 rfl rfl (hs.cell (k := 9) rfl rfl) ?_
      | refine s_load Try.isAgg3 rfl rfl (hs.cell (k := 1) (e := 3) (fz := (0, 0)) rfl (gs_in (sp := osp) (by omega) hll)) ?_
    refine D_qn ?_
    refine D_q rfl rfl ?_
    refine s_move rfl rfl ?_
    refine D_qn ?_
    refine D_q rfl rfl ?_
    refine s_move rfl rfl ?_
    refine D_qn ?_
    refine D_q rfl rfl ?_
    (refine s_indexAddr1 El22 rfl rfl rfl ?hx ?_; case hx => (constructor <;> first | omega | (simp; omega)))
    refine D_qn ?_
    refine D_q rfl rfl ?_
    first
      | refine s_load Try.isAgg3 rfl rfl (hs.cell (k := 0) rfl rfl) ?_
      | refine s_load Try.isAgg3 rfl rfl (hs.cell (k := 1) rfl rfl) ?_
      | refine s_load Try.isAgg3 rfl rfl (hs.cell (k := 2) rfl rfl) ?_
      | refine s_load Try.isAgg3 rfl rfl (hs.cell (k := 3) rfl rfl) ?_
      | refine s_load Try.isAgg3 rfl rfl (hs.cell (k := 4) rfl rfl) ?_
      | refine s_load Try.isAgg3 rfl rfl (hs.cell (k := 5) rfl rfl) ?_
      | refine s_load Try.isAgg3 rfl rfl (hs.cell (k := 6) rfl rfl) ?_
      | refine s_load Try.isAgg3 rfl rfl (hs.cell (k := 7) rfl rfl) ?_
      | refine s_load Try.isAgg3 rfl rfl (hs.cell (k := 8) rfl rfl) ?_
      | refine s_load Try.isAgg3 rfl rfl (hs.cell (k := 9) rfl rfl) ?_
      | refine s_load Try.isAgg3 rfl rfl (hs.cell (k := 1) (e := 3) (fz := (0, 0)) rfl (gs_in (sp := osp) (by omega) hll)) ?_
    refine D_qn ?_
    refine D_q rfl rfl ?_
    refine s_neq rfl rfl rfl ?_
    refine D_qn ?_
    refine D_nil ?_
    refine n_then ?_
    refine W_cond_kf rfl ((by simp [hgg])) ?_
    refine W_skip ?_
    refine n_then ?_
    refine W_seq ?_
    refine W_region ?_
    refine s_move rfl rfl ?_
    refine s_eql rfl rfl rfl ?_
    refine s_move rfl rfl ?_
    refine WL_know (s := 94) (c := true) rfl ((by first | rfl | simp)) ?_
    refine WL_take rfl ?_
    refine s_fieldAddr rfl rfl (FA32_0 _ _) ?_
    refine WL_take rfl ?_
    first
      | refine s_load Try.isAgg3 rfl rfl (hs.cell (k := 0) rfl rfl) ?_
      | refine s_load Try.isAgg3 rfl rfl (hs.cell (k := 1) rfl rfl) ?_
      | refine s_load Try.isAgg3 rfl rfl (hs.cell (k := 2) rfl rfl) ?_
      | refine s_load Try.isAgg3 rfl rfl (hs.cell (k := 3) rfl rfl) ?_
      | refine s_load Try.isAgg3 rfl rfl (hs.cell (k := 4) rfl rfl) ?_
      | refine s_load Try.isAgg3 rfl rfl (hs.cell (k := 5) rfl rfl) ?_
      | refine s_load Try.isAgg3 rfl rfl (hs.cell (k := 6) rfl rfl) ?_
      | refine s_load Try.isAgg3 rfl rfl (hs.cell (k := 7) rfl rfl) ?_
      | refine s_load Try.isAgg3 rfl rfl (hs.cell (k := 8) rfl rfl) ?_
      | refine s_load Try.isAgg3 rfl rfl (hs.cell (k := 9) rfl rfl) ?_
      | refine s_load Try.isAgg3 rfl rfl (hs.cell (k := 1) (e := 3) (fz := (0, 0)) rfl (gs_in (sp := osp) (by omega) hll)) ?_
    refine WL_take rfl ?_
    refine s_move rfl rfl ?_
    refine WL_take rfl ?_
    refine s_eql rfl rfl rfl ?_
    refine s_pick_t rfl rfl rfl ?_
    refine s_move rfl rfl ?_
    refine WL_know (s := 100) (c := true) rfl ((by first | rfl | simp)) ?_
    refine WL_take rfl ?_
    refine s_fieldAddr rfl rfl (FA32_1 _ _) ?_
    refine WL_take rfl ?_
    first
      | refine s_load Try.isAgg3 rfl rfl (hs.cell (k := 0) rfl rfl) ?_
      | refine s_load Try.isAgg3 rfl rfl (hs.cell (k := 1) rfl rfl) ?_
      | refine s_load Try.isAgg3 rfl rfl (hs.cell (k := 2) rfl rfl) ?_
      | refine s_load Try.isAgg3 rfl rfl (hs.cell (k := 3) rfl rfl) ?_
      | refine s_load Try.isAgg3 rfl rfl (hs.cell (k := 4) rfl rfl) ?_
      | refine s_load Try.isAgg3 rfl rfl (hs.cell (k := 5) rfl rfl) ?_
      | refine s_load Try.isAgg3 rfl rfl (hs.cell (k := 6) rfl rfl) ?_
      | refine s_load Try.isAgg3 rfl rfl (hs.cell (k := 7) rfl rfl) ?_
      | refine s_load Try.isAgg3 rfl rfl (hs.cell (k := 8) rfl rfl) ?_
      | refine s_load Try.isAgg3 rfl rfl (hs.cell (k := 9) rfl rfl) ?_
      | refine s_load Try.isAgg3 rfl rfl (hs.cell (k := 1) (e := 3) (fz := (0, 0)) rfl (gs_in (sp := osp) (by omega) hll)) ?_
    refine WL_take rfl ?_
    refine s_move rfl rfl ?_
    refine WL_take rfl ?_
    refine s_eql rfl rfl rfl ?_
    refine s_pick_t rfl rfl rfl ?_
    refine s_move rfl rfl ?_
    refine WL_know (s := 106) (c := true) rfl ((by first | rfl | simp)) ?_
    refine WL_take rfl ?_
    refine s_move rfl rfl ?_
    refine WL_take rfl ?_
    refine s_call Try.call23 rfl rfl (len_ok p _ _ L1 w hN (hs.lendM (M := [_, _, _, _]))) ?_
    rintro r w ⟨rfl, rfl⟩
    refine WL_take rfl ?_
    refine s_eql rfl rfl rfl ?_
    refine s_pick_t rfl rfl rfl ?_
    refine s_move rfl rfl ?_
    refine WL_know (s := 111) (c := true) rfl ((by first | rfl | simp)) ?_
    refine WL_take rfl ?_
    refine s_call Try.call24 rfl rfl (lives_ok w) ?_
    rintro r w ⟨hst, rfl⟩
    replace hs := hs.fwd1 hst
    clear hst
    refine s_pick_t rfl rfl rfl ?_
    refine s_assign rfl rfl ?_
    refine WL_nil ?_
    refine n_then ?_
    refine W_ret ?_
    exact end1 rfl rfl ⟨hs.fwd, rfl⟩
set_option maxHeartbeats 1000000 in
theorem part_b_diff (v : Value) (zs : List Int) (from_ to_ : Int) (w0 : World) (hv : Sl w0 v zs.length (i64s zs)) (hf : -9223372036854775808 ≤ from_ ∧ from_ ≤ 9223372036854775807) (ht : -9223372036854775808 ≤ to_ ∧ to_ ≤ 9223372036854775807)
    (gl : List Int) (hgl : gl = zs.take 6) (h6 : 6 ≤ zs.length) (hgg : grp gl (aroundV from_ 6) ≠ grp gl (aroundV to_ 6)) :
    Ret Try.prog 7 [v, .int .i64 from_, .int .i64 to_].toArray w0 fun r w' => Fwd [] w0 w' ∧ r = .bool true := by
  have hll : gl.length = 6 := by rw [hgl]; simp; omega
  have hab1 := around_bd from_ 6 (by omega)
  have hab2 := around_bd to_ 6 (by omega)
  obtain ⟨a, ha'⟩ : ∃ a, a = aroundV from_ 6 := ⟨_, rfl⟩
  obtain ⟨b, hb'⟩ : ∃ b, b = aroundV to_ 6 := ⟨_, rfl⟩
  rw [← ha'] at hab1 hgg
  rw [← hb'] at hab2 hgg
  refine Ret_start fun w hs => ?_
  refine Ret_of Try.func7 rfl Try.ntmps7 rfl ?_
  refine W_seq ?_
  refine W_region ?_
  refine s_assign rfl rfl ?_
  refine WL_nil ?_
  refine n_then ?_
  refine W_seq ?_
  refine W_region ?_
  refine s_call Try.call25 rfl rfl (new_ok 6 w (by omega)) ?_
  rintro r w (⟨_, _, p, LN, rfl, hN, hst⟩ | ⟨h, _⟩)
  case inr => exact absurd ⟨by omega, by omega⟩ h
  replace hs : St [] w0 w (LN ++ []) := St.back0 hs hst
  replace hN : NetAt p [0, 0, 0, 0, 0, 0] [] LN := hN
  clear hst
  refine s_move rfl rfl ?_
  refine s_extract rfl rfl rfl ?_
  refine s_extract rfl rfl rfl ?_
  refine s_assign rfl rfl ?_
  refine s_assign rfl rfl ?_
  refine WL_nil ?_
  refine n_then ?_
  refine W_seq ?_
  refine W_seq ?_
  refine W_region ?_
  refine s_move rfl rfl ?_
  refine s_eql_ptr_nil Try.underlying23 rfl rfl rfl ?_
  refine s_move rfl rfl ?_
  refine WL_know (s := 22) (c := false) rfl (rfl) ?_
  refine WL_take rfl ?_
  refine s_move rfl rfl ?_
  refine WL_take rfl ?_
  refine s_neq rfl rfl rfl ?_
  refine s_pick_f rfl rfl rfl ?_
  refine WL_nil ?_
  refine n_then ?_
  refine W_cond_kf rfl (rfl) ?_
  refine W_skip ?_
  refine n_then ?_
  refine W_seq ?_
  refine W_region ?_
  refine s_move rfl rfl ?_
  refine s_call Try.call26 rfl rfl (around_ok from_ 6 w (by omega) hf) ?_
  rintro r w ⟨rfl, rfl⟩
  rw [← ha']
  refine s_assign rfl rfl ?_
  refine WL_nil ?_
  refine n_then ?_
  refine W_seq ?_
  refine W_region ?_
  refine s_move rfl rfl ?_
  refine s_call Try.call26 rfl rfl (around_ok to_ 6 w (by omega) ht) ?_
  rintro r w ⟨rfl, rfl⟩
  rw [← hb']
  refine s_assign rfl rfl ?_
  refine WL_nil ?_
  refine n_then ?_
  refine W_seq ?_
  refine W_region ?_
  refine s_move rfl rfl ?_
  refine s_move rfl rfl ?_
  refine s_move rfl rfl ?_
  refine s_buildSlice rfl rfl (BS30_1 _) hs ?_; clear hs; intro b33 w hs
  refine s_build rfl rfl (BD32_0_1_2 _ _ _ _ _) ?_
  have hE : sendE [0, 0, 0, 0, 0, 0] [] a b [9] = 0 := by rw [sendE, if_neg (by simp; omega), if_neg (by simp)]
  refine s_callL (M := [_]) (L1 := LN) (X := []) Try.call12 rfl rfl hs (fun h => send_ok p _ [] a b _ [9] LN w hN h (hs.sl (k := 0) rfl (Nat.le_refl _) (by intro j u hj; rw [Nat.zero_add]; exact hj)) (by simp) (fun a m c he _ => by cases he; exact hs.notin (M := [_]) (by simp [ids]))) ?_
  clear hs; rintro v w LN ⟨rfl, ms, hN, -, hms⟩ - hs
  obtain ⟨b1, rfl⟩ := hms hE
  simp only [List.cons_append, List.nil_append] at hs hN
  replace hs := hs.tail
  refine WL_nil ?_
  refine n_then ?_
  refine W_seq ?_
  refine W_region ?_
  refine s_move rfl rfl ?_
  refine s_call Try.call27 rfl rfl (ints_ok v zs 6 w (hv.fwd0 hs.fwd) (by omega)) ?_
  rintro r w ⟨Lr, hO, hst⟩
  replace hs := St.back0 hs hst
  clear hst
  rw [show min zs.length 6 = 6 by omega] at hO
  obtain ⟨gb, gcap, sp, rfl, hcap, rfl⟩ := hO.block (by omega)
  simp only [List.cons_append, List.nil_append] at hs
  rw [← hgl] at hs
  refine s_assign rfl rfl ?_
  refine WL_nil ?_
  refine n_then ?_
  refine W_seq ?_
  refine W_seq ?_
  refine W_region ?_
  refine s_move rfl rfl ?_
  refine s_len rfl rfl (LN22 _ _ _ _) ?_
  refine s_lss rfl rfl rfl ?_
  refine WL_nil ?_
  refine n_then ?_
  refine W_cond_kf rfl ((by simp)) ?_
  refine W_seq ?_
  refine W_region ?_
  refine s_move rfl rfl ?_
  refine s_move rfl rfl ?_
  refine s_callL (M := [_]) (L1 := LN) (X := []) Try.call21 rfl rfl hs (fun h => partition_yes p _ gl _ _ LN w hN h (by rw [hll]; exact hs.sl (k := 0) (ds := i64s gl) rfl hcap (by intro j u hj; rw [Nat.zero_add, List.getElem?_append_left (List.getElem?_eq_some_iff.1 hj).1]; exact hj)) (by rw [hll]; rfl)) ?_
  clear hs; rintro v w LN ⟨rfl, hN⟩ - hs
  simp only [List.cons_append, List.nil_append] at hs
  refine s_neq rfl rfl rfl ?_
  refine WL_nil ?_
  refine n_then ?_
  refine W_cond_kf rfl (rfl) ?_
  refine W_skip ?_
  refine n_then ?_
  refine W_seq ?_
  refine W_region ?_
  refine s_move rfl rfl ?_
  refine s_call Try.call27 rfl rfl (ints_ok _ gl 6 w (by rw [hll]; exact hs.sl (k := 0) (ds := i64s gl) rfl hcap (by intro j u hj; rw [Nat.zero_add, List.getElem?_append_left (List.getElem?_eq_some_iff.1 hj).1]; exact hj)) (by omega)) ?_
  rintro r w ⟨Lo, hO2, hst⟩
  replace hs := St.back0 hs hst
  clear hst
  rw [hll, show min 6 6 = 6 from rfl, List.take_of_length_le (by omega)] at hO2
  obtain ⟨ob, ocap, osp, rfl, hocap, rfl⟩ := hO2.block (by omega)
  simp only [List.cons_append, List.nil_append] at hs
  have hgl2 : (i64s gl ++ sp).length = 6 + sp.length := by simp [hll]
  refine s_assign rfl rfl ?_
  refine WL_nil ?_
  refine n_then ?_
  refine W_seq ?_
  refine W_seq ?_
  refine W_region ?_
  refine s_assign rfl rfl ?_
  refine WL_nil ?_
  refine n_then ?_
  refine W_block ?_
  refine W_loop (σ := Nat × List Value) (fun s => [(7, .pointer (some ⟨p, 0, none⟩)), (9, .int .i64 a), (10, .int .i64 b), (11, .slice (some ⟨gb, 0, none⟩) 6 gcap), (12, .slice (some ⟨ob, 0, none⟩) 6 ocap), (13, .int .i64 (s.1 : Int))])
    (fun s w => St [] w0 w ((ob, Blk 3 (i64s gl ++ osp)) :: (gb, Blk 3 s.2) :: (LN ++ [])) ∧ s.2.length = 6 + sp.length ∧ s.1 ≤ 6)
    (fun s => 6 - s.1) (0, i64s gl ++ sp) ⟨rfl, rfl, rfl, rfl, rfl, rfl, trivial⟩ ⟨hs, hgl2, Nat.zero_le _⟩ ?_
  clear hs
  rintro ⟨k, c⟩ w ⟨hs, hcl, hk⟩
  simp only at hs hcl hk
  refine W_seq ?_
  refine W_seq ?_
  refine W_region ?_
  refine s_move rfl rfl ?_
  refine s_lss rfl rfl rfl ?_
  refine WL_nil ?_
  refine n_then ?_
  refine W_cond rfl (fun hc53 => ?_) (fun hc53 => ?_)
  · skip
    simp only [decide_eq_true_eq, decide_eq_false_iff_not, bne_iff_ne, bne_eq_false_iff_eq, ne_eq] at hc53
    refine W_skip ?_
    refine n_then ?_
    refine W_seq ?_
    refine W_block ?_
    refine W_region ?_
    refine s_move rfl rfl ?_
    refine s_move rfl rfl ?_
    refine s_move rfl rfl ?_
    (refine s_indexAddr1 El22 rfl rfl rfl ?hx ?_; case hx => (constructor <;> first | omega | (simp; omega)))
    refine s_store Try.sizeOf3 rfl rfl rfl hs (kk := 1) rfl (by simp; omega) ?_
    clear hs; intro w hs
    simp only [List.set_cons_zero, List.set_cons_succ] at hs
    refine WL_nil ?_
    refine n_blk ?_
    refine n_then ?_
    refine W_region ?_
    refine s_move rfl rfl ?_
    first | (refine s_add' rfl rfl rfl ?hx ?_; case hx => (constructor <;> omega)) | refine s_add rfl rfl rfl ?_
    refine s_assign rfl rfl ?_
    refine WL_nil ?_
    refine n_loop ?_
    exact ⟨(k + 1, _), ⟨rfl, rfl, rfl, rfl, rfl, rfl, trivial⟩, ⟨hs, by simpa using hcl, by show k + 1 ≤ _; omega⟩, by show _ - (k + 1) < _; omega⟩
  · skip
    simp only [decide_eq_true_eq, decide_eq_false_iff_not, bne_iff_ne, bne_eq_false_iff_eq, ne_eq] at hc53
    refine W_exit ?_
    refine x_then ?_
    refine x_then ?_
    refine exit_hit ?_
    refine n_then ?_
    refine W_seq ?_
    refine W_region ?_
    refine s_move rfl rfl ?_
    refine s_callL (M := [_, _]) (L1 := LN) (X := []) Try.call14 rfl rfl hs (fun h => take_yes p gl _ 0 LN w hN h (by simp) (by simp) _ (by simp; rfl) (by simp [hll]; omega)) ?_
    clear hs; intro v w LN h _ hs
    obtain ⟨_, rfl, hN⟩ | ⟨h, _⟩ := h
    case inr => exact absurd h hgg
    simp only [List.cons_append, List.nil_append] at hs
    refine s_move rfl rfl ?_
    refine s_extract rfl rfl rfl ?_
    refine s_extract rfl rfl rfl ?_
    refine s_alloc rfl AL32 hs ?_; clear hs; intro b14 w hs
    first
      | refine s_storeW Try.sizeOf32 rfl rfl rfl rfl hs (kk := 0) rfl rfl ?_
      | refine s_storeW Try.sizeOf32 rfl rfl rfl rfl hs (kk := 1) rfl rfl ?_
      | refine s_storeW Try.sizeOf32 rfl rfl rfl rfl hs (kk := 2) rfl rfl ?_
      | refine s_storeW Try.sizeOf32 rfl rfl rfl rfl hs (kk := 3) rfl rfl ?_
      | refine s_storeW Try.sizeOf32 rfl rfl rfl rfl hs (kk := 4) rfl rfl ?_
      | refine s_storeW Try.sizeOf32 rfl rfl rfl rfl hs (kk := 5) rfl rfl ?_
      | refine s_storeW Try.sizeOf32 rfl rfl rfl rfl hs (kk := 6) rfl rfl ?_
      | refine s_storeW Try.sizeOf32 rfl rfl rfl rfl hs (kk := 7) rfl rfl ?_
      | refine s_storeW Try.sizeOf32 rfl rfl rfl rfl hs (kk := 8) rfl rfl ?_
      | refine s_storeW Try.sizeOf32 rfl rfl rfl rfl hs (kk := 9) rfl rfl ?_
      | refine s_storeAB Try.sizeOf32 rfl rfl rfl rfl hs (kk := 0) rfl rfl ?_
      | refine s_storeAB Try.sizeOf32 rfl rfl rfl rfl hs (kk := 1) rfl rfl ?_
      | refine s_storeAB Try.sizeOf32 rfl rfl rfl rfl hs (kk := 2) rfl rfl ?_
      | refine s_storeAB Try.sizeOf32 rfl rfl rfl rfl hs (kk := 3) rfl rfl ?_
      | refine s_storeAB Try.sizeOf32 rfl rfl rfl rfl hs (kk := 4) rfl rfl ?_
      | refine s_storeAB Try.sizeOf32 rfl rfl rfl rfl hs (kk := 5) rfl rfl ?_
      | refine s_storeAB Try.sizeOf32 rfl rfl rfl rfl hs (kk := 6) rfl rfl ?_
      | refine s_storeAB Try.sizeOf32 rfl rfl rfl rfl hs (kk := 7) rfl rfl ?_
      | refine s_storeAB Try.sizeOf32 rfl rfl rfl rfl hs (kk := 8) rfl rfl ?_
      | refine s_storeAB Try.sizeOf32 rfl rfl rfl rfl hs (kk := 9) rfl rfl ?_
    clear hs; intro w hs; try simp only [List.set_cons_zero, List.set_cons_succ, splice, List.take_succ_cons, List.take_zero, List.drop_succ_cons, List.drop_zero, List.nil_append, List.cons_append, List.length_cons, List.length_nil, Nat.reduceAdd, List.append_assoc] at hs
    refine s_assign rfl rfl ?_
    refine WL_nil ?_
    refine n_then ?_
    refine W_seq ?_
    refine W_seq ?_
    refine W_draw [(0, true, []), (1, true, []), (2, true, []), (3, true, []), (4, true, []), (5, true, []), (6, true, []), (7, true, []), (8, true, [])] MX (by kernel_rfl) ?_
    intro w1 hw1 hw2 hw3 hw4; replace hs := hs.redrawn hw1 hw2 hw3 hw4; clear hw1 hw2 hw3 hw4
    obtain ⟨w, rfl⟩ : ∃ w : World, w = w1 := ⟨_, rfl⟩
    refine D_q rfl rfl ?_
    refine s_move rfl rfl ?_
    refine D_qn ?_
    refine D_q rfl rfl ?_
    refine s_move rfl rfl ?_
    refine D_qn ?_
    refine D_q rfl rfl ?_
    (refine s_indexAddr1 El22 rfl rfl rfl ?hx ?_; case hx => (constructor <;> first | omega | (simp; omega)))
    refine D_qn ?_
    refine D_q rfl rfl ?_
    first
      | refine s_load Try.isAgg3 rfl rfl (hs.cell (k := 0) rfl rfl) ?_
      | refine s_load Try.isAgg3 rfl rfl (hs.cell (k := 1) rfl rfl) ?_
      | refine s_load Try.isAgg3 rfl rfl (hs.cell (k := 2) rfl rfl) ?_
      | refine s_load Try.isAgg3 rfl rfl (hs.cell (k := 3) rfl rfl) ?_
      | refine s_load Try.isAgg3 rfl rfl (hs.cell (k := 4) rfl rfl) ?_
      | refine s_load Try.isAgg3 rfl rfl (hs.cell (k := 5) rfl rfl) ?_
      | refine s_load Try.isAgg3 rfl rfl (hs.cell (k := 6) rfl rfl) ?_
      | refine s_load Try.isAgg3 rfl rfl (hs.cell (k := 7) rfl rfl) ?_
      | refine s_load Try.isAgg3 rfl rfl (hs.cell (k := 8) rfl rfl) ?_
      | refine s_load Try.isAgg3 rfl rfl (hs.cell (k := 9) rfl rfl) ?_
      | refine s_load Try.isAgg3 rfl rfl (hs.cell (k := 1) (e := 3) (fz := (0, 0)) rfl (gs_in (sp := osp) (by omega) hll)) ?_
    refine D_qn ?_
    refine D_q rfl rfl ?_
    refine s_move rfl rfl ?_
    refine D_qn ?_
    refine D_q rfl rfl ?_
    refine s_move rfl rfl ?_
    refine D_qn ?_
    refine D_q rfl rfl ?_
    (refine s_indexAddr1 El22 rfl rfl rfl ?hx ?_; case hx => (constructor <;> first | omega | (simp; omega)))
    refine D_qn ?_
    refine D_q rfl rfl ?_
    first
      | refine s_load Try.isAgg3 rfl rfl (hs.cell (k := 0) rfl rfl) ?_
      | refine s_load Try.isAgg3 rfl rfl (hs.cell (k := 1) rfl rfl) ?_
      | refine s_load Try.isAgg3 rfl rfl (hs.cell (k := 2) rfl rfl) ?_
      | refine s_load Try.isAgg3 rfl rfl (hs.cell (k := 3) rfl rfl) ?_
      | refine s_load Try.isAgg3 rfl rfl (hs.cell (k := 4) rfl rfl) ?_
      | refine s_load Try.isAgg3 rfl rfl (hs.cell (k := 5) rfl rfl) ?_
      | refine s_load Try.isAgg3 rfl rfl (hs.cell (k := 6) rfl rfl) ?_
      | refine s_load Try.isAgg3 rfl rfl (hs.cell (k := 7) rfl rfl) ?_
      | refine s_load Try.isAgg3 rfl rfl (hs.cell (k := 8) rfl rfl) ?_
      | refine s_load Try.isAgg3 rfl rfl (hs.cell (k := 9) rfl rfl) ?_
      | refine s_load Try.isAgg3 rfl rfl (hs.cell (k := 1) (e := 3) (fz := (0, 0)) rfl (gs_in (sp := osp) (by omega) hll)) ?_
    refine D_qn ?_
    refine D_q rfl rfl ?_
    refine s_neq rfl rfl rfl ?_
    refine D_qn ?_
    refine D_nil ?_
    refine n_then ?_
    refine W_cond_kt rfl ((by simp [hgg])) ?_
    refine W_seq ?_
    refine W_seq ?_
    refine W_region ?_
    refine s_move rfl rfl ?_
    refine s_neq rfl rfl rfl ?_
    refine s_move rfl rfl ?_
    refine WL_know (s := 76) (c := false) rfl (rfl) ?_
    refine WL_take rfl ?_
    refine s_move rfl rfl ?_
    refine WL_take rfl ?_
    refine s_call Try.call23 rfl rfl (len_ok p _ _ LN w hN (hs.lendM (M := [_, _, _]))) ?_
    rintro r w ⟨rfl, rfl⟩
    refine WL_take rfl ?_
    refine s_neq rfl rfl rfl ?_
    refine s_pick_f rfl rfl rfl ?_
    refine s_move rfl rfl ?_
    refine WL_know (s := 81) (c := false) rfl (rfl) ?_
    refine WL_take rfl ?_
    refine s_move rfl rfl ?_
    refine WL_take rfl ?_
    refine s_makeSlice El22 rfl rfl rfl ?hx hs ?_
    case hx => (refine ⟨?_, ?_, ?_, ?_⟩ <;> omega)
    clear hs; intro b83 w hs
    refine WL_take rfl ?_
    refine s_callL (M := [_, _, _, _]) (L1 := LN) (X := []) Try.call21 rfl rfl hs (fun h => partition_yes p _ [0, 0, 0, 0, 0, 0] _ _ LN w hN h (hs.sl (k := 0) (ds := i64s [0, 0, 0, 0, 0, 0]) rfl (Nat.le_refl _) (by intro j u hj; rw [Nat.zero_add]; exact hj)) (by rw [hll]; rfl)) ?_
    clear hs; rintro v w LN ⟨rfl, hN⟩ - hs
    simp only [List.cons_append, List.nil_append] at hs
    replace hs := hs.tail
    refine WL_take rfl ?_
    refine s_neq rfl rfl rfl ?_
    refine s_pick_f rfl rfl rfl ?_
    refine WL_nil ?_
    refine n_then ?_
    refine W_cond_kf rfl (rfl) ?_
    refine W_skip ?_
    refine n_then ?_
    refine W_region ?_
    refine s_move rfl rfl ?_
    refine s_callL (M := [_, _, _]) (L1 := LN) (X := []) Try.call14 rfl rfl hs (fun h => take_yes p [0, 0, 0, 0, 0, 0] _ 0 LN w hN h (by simp) (by simp) _ (by simp; rfl) (by simp; omega)) ?_
    clear hs; intro v w LN h _ hs
    obtain ⟨h, _⟩ | ⟨_, rfl, L1, rfl, hN⟩ := h
    case inl => exact absurd (grp0 hab1 hab2) h
    simp only [List.cons_append, List.nil_append, Msg.blk] at hs
    simp only [Msg.cells]
    refine s_move rfl rfl ?_
    refine s_extract rfl rfl rfl ?_
    refine s_extract rfl rfl rfl ?_
    first
      | refine s_storeW Try.sizeOf32 rfl rfl rfl rfl hs (kk := 0) rfl rfl ?_
      | refine s_storeW Try.sizeOf32 rfl rfl rfl rfl hs (kk := 1) rfl rfl ?_
      | refine s_storeW Try.sizeOf32 rfl rfl rfl rfl hs (kk := 2) rfl rfl ?_
      | refine s_storeW Try.sizeOf32 rfl rfl rfl rfl hs (kk := 3) rfl rfl ?_
      | refine s_storeW Try.sizeOf32 rfl rfl rfl rfl hs (kk := 4) rfl rfl ?_
      | refine s_storeW Try.sizeOf32 rfl rfl rfl rfl hs (kk := 5) rfl rfl ?_
      | refine s_storeW Try.sizeOf32 rfl rfl rfl rfl hs (kk := 6) rfl rfl ?_
      | refine s_storeW Try.sizeOf32 rfl rfl rfl rfl hs (kk := 7) rfl rfl ?_
      | refine s_storeW Try.sizeOf32 rfl rfl rfl rfl hs (kk := 8) rfl rfl ?_
      | refine s_storeW Try.sizeOf32 rfl rfl rfl rfl hs (kk := 9) rfl rfl ?_
      | refine s_storeAB Try.sizeOf32 rfl rfl rfl rfl hs (kk := 0) rfl rfl ?_
      | refine s_storeAB Try.sizeOf32 rfl rfl rfl rfl hs (kk := 1) rfl rfl ?_
      | refine s_storeAB Try.sizeOf32 rfl rfl rfl rfl hs (kk := 2) rfl rfl ?_
      | refine s_storeAB Try.sizeOf32 rfl rfl rfl rfl hs (kk := 3) rfl rfl ?_
      | refine s_storeAB Try.sizeOf32 rfl rfl rfl rfl hs (kk := 4) rfl rfl ?_
      | refine s_storeAB Try.sizeOf32 rfl rfl rfl rfl hs (kk := 5) rfl rfl ?_
      | refine s_storeAB Try.sizeOf32 rfl rfl rfl rfl hs (kk := 6) rfl rfl ?_
      | refine s_storeAB Try.sizeOf32 rfl rfl rfl rfl hs (kk := 7) rfl rfl ?_
      | refine s_storeAB Try.sizeOf32 rfl rfl rfl rfl hs (kk := 8) rfl rfl ?_
      | refine s_storeAB Try.sizeOf32 rfl rfl rfl rfl hs (kk := 9) rfl rfl ?_
    clear hs; intro w hs; try simp only [List.set_cons_zero, List.set_cons_succ, splice, List.take_succ_cons, List.take_zero, List.drop_succ_cons, List.drop_zero, List.nil_append, List.cons_append, List.length_cons, List.length_nil, Nat.reduceAdd, List.append_assoc] at hs
    refine s_assign rfl rfl ?_
    refine WL_nil ?_
    refine n_then ?_
    refine W_seq ?_
    refine W_region ?_
    refine s_move rfl rfl ?_
    refine s_eql rfl rfl rfl ?_
    refine s_move rfl rfl ?_
    refine WL_know (s := 94) (c := true) rfl ((by first | rfl | simp)) ?_
    refine WL_take rfl ?_
    refine s_fieldAddr rfl rfl (FA32_0 _ _) ?_
    refine WL_take rfl ?_
    first
      | refine s_load Try.isAgg3 rfl rfl (hs.cell (k := 0) rfl rfl) ?_
      | refine s_load Try.isAgg3 rfl rfl (hs.cell (k := 1) rfl rfl) ?_
      | refine s_load Try.isAgg3 rfl rfl (hs.cell (k := 2) rfl rfl) ?_
      | refine s_load Try.isAgg3 rfl rfl (hs.cell (k := 3) rfl rfl) ?_
      | refine s_load Try.isAgg3 rfl rfl (hs.cell (k := 4) rfl rfl) ?_
      | refine s_load Try.isAgg3 rfl rfl (hs.cell (k := 5) rfl rfl) ?_
      | refine s_load Try.isAgg3 rfl rfl (hs.cell (k := 6) rfl rfl) ?_
      | refine s_load Try.isAgg3 rfl rfl (hs.cell (k := 7) rfl rfl) ?_
      | refine s_load Try.isAgg3 rfl rfl (hs.cell (k := 8) rfl rfl) ?_
      | refine s_load Try.isAgg3 rfl rfl (hs.cell (k := 9) rfl rfl) ?_
      | refine s_load Try.isAgg3 rfl rfl (hs.cell (k := 1) (e := 3) (fz := (0, 0)) rfl (gs_in (sp := osp) (by omega) hll)) ?_
    refine WL_take rfl ?_
    refine s_move rfl rfl ?_
    refine WL_take rfl ?_
    refine s_eql rfl rfl rfl ?_
    refine s_pick_t rfl rfl rfl ?_
    refine s_move rfl rfl ?_
    refine WL_know (s := 100) (c := true) rfl ((by first | rfl | simp)) ?_
    refine WL_take rfl ?_
    refine s_fieldAddr rfl rfl (FA32_1 _ _) ?_
    refine WL_take rfl ?_
    first
      | refine s_load Try.isAgg3 rfl rfl (hs.cell (k := 0) rfl rfl) ?_
      | refine s_load Try.isAgg3 rfl rfl (hs.cell (k := 1) rfl rfl) ?_
      | refine s_load Try.isAgg3 rfl rfl (hs.cell (k := 2) rfl rfl) ?_
      | refine s_load Try.isAgg3 rfl rfl (hs.cell (k := 3) rfl rfl) ?_
      | refine s_load Try.isAgg3 rfl rfl (hs.cell (k := 4) rfl rfl) ?_
      | refine s_load Try.isAgg3 rfl rfl (hs.cell (k := 5) rfl rfl) ?_
      | refine s_load Try.isAgg3 rfl rfl (hs.cell (k := 6) rfl rfl) ?_
      | refine s_load Try.isAgg3 rfl rfl (hs.cell (k := 7) rfl rfl) ?_
      | refine s_load Try.isAgg3 rfl rfl (hs.cell (k := 8) rfl rfl) ?_
      | refine s_load Try.isAgg3 rfl rfl (hs.cell (k := 9) rfl rfl) ?_
      | refine s_load Try.isAgg3 rfl rfl (hs.cell (k := 1) (e := 3) (fz := (0, 0)) rfl (gs_in (sp := osp) (by omega) hll)) ?_
    refine WL_take rfl ?_
    refine s_move rfl rfl ?_
    refine WL_take rfl ?_
    refine s_eql rfl rfl rfl ?_
    refine s_pick_t rfl rfl rfl ?_
    refine s_move rfl rfl ?_
    refine WL_know (s := 106) (c := true) rfl ((by first | rfl | simp)) ?_
    refine WL_take rfl ?_
    refine s_move rfl rfl ?_
    refine WL_take rfl ?_
    refine s_call Try.call23 rfl rfl (len_ok p _ _ L1 w hN (hs.lendM (M := [_, _, _, _]))) ?_
    rintro r w ⟨rfl, rfl⟩
    refine WL_take rfl ?_
    refine s_eql rfl rfl rfl ?_
    refine s_pick_t rfl rfl rfl ?_
    refine s_move rfl rfl ?_
    refine WL_know (s := 111) (c := true) rfl ((by first | rfl | simp)) ?_
    refine WL_take rfl ?_
    refine s_call Try.call24 rfl rfl (lives_ok w) ?_
    rintro r w ⟨hst, rfl⟩
    replace hs := hs.fwd1 hst
    clear hst
    refine s_pick_t rfl rfl rfl ?_
    refine s_assign rfl rfl ?_
    refine WL_nil ?_
    refine n_then ?_
    refine W_ret ?_
    exact end1 rfl rfl ⟨hs.fwd, rfl⟩
theorem netPartition_ok (v : Value) (zs : List Int) (from_ to_ : Int) (w0 : World) (hv : Sl w0 v zs.length (i64s zs)) (hf : -9223372036854775808 ≤ from_ ∧ from_ ≤ 9223372036854775807) (ht : -9223372036854775808 ≤ to_ ∧ to_ ≤ 9223372036854775807) :
    Ret Try.prog 7 [v, .int .i64 from_, .int .i64 to_].toArray w0 fun r w' => Fwd [] w0 w' ∧ r = .bool true := by
  by_cases h6 : zs.length < 6
  · by_cases hg : grp [0, 0, 0, 0, 0, 0] (aroundV from_ 6) = grp [0, 0, 0, 0, 0, 0] (aroundV to_ 6)
    · exact part_a_same v zs from_ to_ w0 hv hf ht _ rfl h6 hg
    · exact part_a_diff v zs from_ to_ w0 hv hf ht _ rfl h6 hg
  · by_cases hg : grp (zs.take 6) (aroundV from_ 6) = grp (zs.take 6) (aroundV to_ 6)
    · exact part_b_same v zs from_ to_ w0 hv hf ht _ rfl (by omega) hg
    · exact part_b_diff v zs from_ to_ w0 hv hf ht _ rfl (by omega) hg
end Go.Proofs.Ytgkdbiibbfipjaa
