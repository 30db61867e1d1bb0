/- NetOrder: the walk. -/
import Derived.Test.YtgkdbiibbfipjaaNetOrd
set_option linter.unusedVariables false
set_option linter.unusedSimpArgs false
namespace Go.Proofs.Ytgkdbiibbfipjaa
open Go.SL
set_option maxHeartbeats 2000000 in
theorem netOrder_ok (nodes : Int) (v vb : Value) (zs : List Int) (ps : List Bool) (w0 : World) (hn : -9223372036854775808 ≤ nodes ∧ nodes ≤ 9223372036854775807) (hv : Sl w0 v zs.length (i64s zs)) (hz : ∀ z ∈ zs, -9223372036854775808 ≤ z ∧ z ≤ 9223372036854775807)
    (hvb : Sl w0 vb ps.length (ps.map Value.bool)) (hpl : ps.length ≤ 9223372036854775807) :
    Ret Try.prog 6 [.int .i64 nodes, v, vb].toArray w0 fun r w' => Fwd [] w0 w' ∧ r = .bool true := by
  obtain ⟨a, c, rfl, hc⟩ := hv.len_le
  obtain ⟨ab, cb, rfl, hcb⟩ := hvb.len_le
  have hm1 : min zs.length 30 ≤ 30 := Nat.min_le_right _ _
  have hm2 : min zs.length 30 ≤ zs.length := Nat.min_le_left _ _
  obtain ⟨many, hmany⟩ : ∃ many, many = min zs.length 30 := ⟨_, rfl⟩
  rw [← hmany] at hm1 hm2
  refine Ret_start fun w hs => ?_
  refine Ret_of Try.func6 rfl Try.ntmps6 rfl ?_
  refine W_seq ?_
  refine W_region ?_
  refine s_assign rfl rfl ?_
  refine WL_nil ?_
  refine n_then ?_
  refine W_seq ?_
  refine W_region ?_
  refine s_move rfl rfl ?_
  refine s_call Try.call9 rfl rfl (made_ok nodes w hn) ?_
  rintro r w ⟨k, p, LN, hk1, hk2, rfl, hN, hst⟩
  replace hs : St [] w0 w (LN ++ []) := St.back0 hs hst
  clear hst
  refine s_move rfl rfl ?_
  refine s_extract rfl rfl rfl ?_
  refine s_extract rfl rfl rfl ?_
  refine s_assign rfl rfl ?_
  refine s_assign rfl rfl ?_
  refine WL_nil ?_
  refine n_then ?_
  refine W_seq ?_
  refine W_seq ?_
  refine W_region ?_
  refine s_move rfl rfl ?_
  refine s_eql_ptr_nil Try.underlying23 rfl rfl rfl ?_
  refine WL_nil ?_
  refine n_then ?_
  refine W_cond_kf rfl (rfl) ?_
  refine W_skip ?_
  refine n_then ?_
  refine W_seq ?_
  refine W_region ?_
  refine s_move rfl rfl ?_
  refine s_makeSlice El22 rfl rfl rfl ?hx hs ?_
  case hx => (refine ⟨?_, ?_, ?_, ?_⟩ <;> omega)
  clear hs; intro b30 w hs
  refine s_assign rfl rfl ?_
  refine WL_nil ?_
  refine n_then ?_
  refine W_seq ?_
  refine W_seq ?_
  refine W_region ?_
  refine s_assign rfl rfl ?_
  refine WL_nil ?_
  refine n_then ?_
  refine W_block ?_
  replace hs : St [] w0 w ((b30, Blk 3 (i64s (idl 0) ++ List.replicate (k - 0) (Value.int .i64 0))) :: (LN ++ [])) := by
    have e : made [Value.int .i64 0] ((k : Int).toNat) = i64s (idl 0) ++ List.replicate (k - 0) (Value.int .i64 0) := by rw [made_one]; rfl
    rw [← e]; exact hs
  refine W_loop (σ := Nat) (fun i => [(1, .slice a zs.length c), (2, .slice ab ps.length cb), (7, .pointer (some ⟨p, 0, none⟩)), (8, .int .i64 (k : Int)), (9, .slice (some ⟨b30, 0, none⟩) k k), (10, .int .i64 (i : Int))])
    (fun i w => St [] w0 w ((b30, Blk 3 (i64s (idl i) ++ List.replicate (k - i) (Value.int .i64 0))) :: (LN ++ [])) ∧ i ≤ k)
    (fun i => k - i) 0 ⟨rfl, rfl, rfl, rfl, rfl, rfl, trivial⟩ ⟨hs, Nat.zero_le _⟩ ?_
  clear hs
  rintro i w ⟨hs, hik⟩
  refine W_seq ?_
  refine W_seq ?_
  refine W_region ?_
  refine s_move rfl rfl ?_
  refine s_move rfl rfl ?_
  refine s_lss rfl rfl rfl ?_
  refine WL_nil ?_
  refine n_then ?_
  refine W_cond rfl (fun hc33 => ?_) (fun hc33 => ?_)
  · skip
    simp only [decide_eq_true_eq, decide_eq_false_iff_not] at hc33
    refine W_skip ?_
    refine n_then ?_
    refine W_seq ?_
    refine W_block ?_
    refine W_region ?_
    refine s_move rfl rfl ?_
    refine s_move rfl rfl ?_
    refine s_move rfl rfl ?_
    (refine s_indexAddr1 El22 rfl rfl rfl ?hx ?_; case hx => (constructor <;> first | omega | (simp; omega)))
    refine s_store Try.sizeOf3 rfl rfl rfl hs (kk := 0) rfl (by simp [idl]; omega) ?_
    clear hs; intro w hs
    simp only [List.set_cons_zero] at hs
    rw [show 0 + (i : Int).toNat = i by omega, idl_set k i (by omega)] at hs
    refine WL_nil ?_
    refine n_blk ?_
    refine n_then ?_
    refine W_region ?_
    refine s_move rfl rfl ?_
    first | (refine s_add' rfl rfl rfl ?hx ?_; case hx => (constructor <;> omega)) | refine s_add rfl rfl rfl ?_
    refine s_assign rfl rfl ?_
    refine WL_nil ?_
    refine n_loop ?_
    exact ⟨i + 1, ⟨rfl, rfl, rfl, rfl, rfl, rfl, trivial⟩, ⟨hs, by omega⟩, by omega⟩
  · skip
    simp only [decide_eq_true_eq, decide_eq_false_iff_not] at hc33
    obtain rfl : i = k := by omega
    rw [Nat.sub_self, List.replicate_zero, List.append_nil] at hs
    refine W_exit ?_
    refine x_then ?_
    refine x_then ?_
    refine exit_hit ?_
    refine n_then ?_
    refine W_seq ?_
    refine W_region ?_
    refine s_move rfl rfl ?_
    refine s_makeSlice El22 rfl rfl rfl ?hx hs ?_
    case hx => (refine ⟨?_, ?_, ?_, ?_⟩ <;> omega)
    clear hs; intro b41 w hs
    refine s_assign rfl rfl ?_
    refine WL_nil ?_
    refine n_then ?_
    refine W_seq ?_
    refine W_region ?_
    refine s_move rfl rfl ?_
    refine s_len rfl rfl (LN22 _ _ _ _) ?_
    refine s_min rfl rfl rfl ?_
    rw [min30, ← hmany]
    refine s_assign rfl rfl ?_
    refine WL_nil ?_
    refine n_then ?_
    refine W_seq ?_
    refine W_region ?_
    refine s_assign rfl rfl ?_
    refine WL_nil ?_
    refine n_then ?_
    refine W_seq ?_
    refine W_seq ?_
    refine W_region ?_
    refine s_assign rfl rfl ?_
    refine WL_nil ?_
    refine n_then ?_
    refine W_block ?_
    replace hs : St [] w0 w ((b41, Blk 3 (i64s (List.replicate i 0))) :: (b30, Blk 3 (i64s (idl i))) :: (LN ++ [])) := by
      have e : made [Value.int .i64 0] ((i : Int).toNat) = i64s (List.replicate i 0) := by rw [made_one]; simp [i64s]
      rw [← e]; exact hs
    refine W_loop (σ := Nat × Nat × List Msg × Hp) (fun s => [(1, .slice a zs.length c), (2, .slice ab ps.length cb), (7, .pointer (some ⟨p, 0, none⟩)), (8, .int .i64 (i : Int)), (9, .slice (some ⟨b30, 0, none⟩) i i), (11, .slice (some ⟨b41, 0, none⟩) i i), (12, .int .i64 (many : Int)), (13, .int .i64 (s.2.1 : Int)), (14, .int .i64 (s.1 : Int))])
      (fun s w => St [] w0 w ((b41, Blk 3 (i64s (List.replicate i 0))) :: (b30, Blk 3 (i64s (idl i))) :: (s.2.2.2 ++ [])) ∧ NetAt p (List.replicate i 0) s.2.2.1 s.2.2.2 ∧ MsAt i zs s.2.1 s.1 s.2.2.1 ∧ s.1 ≤ many)
      (fun s => many - s.1) (0, 0, [], LN) ⟨rfl, rfl, rfl, rfl, rfl, rfl, rfl, rfl, rfl, trivial⟩ ⟨hs, hN, ⟨rfl, Nat.le_refl _, by simp⟩, Nat.zero_le _⟩ ?_
    clear hs hN
    rintro ⟨q, nx, ms, LM⟩ w ⟨hs, hN, hM, hq⟩
    simp only at hs hN hM hq
    refine W_seq ?_
    refine W_seq ?_
    refine W_region ?_
    refine s_move rfl rfl ?_
    refine s_move rfl rfl ?_
    refine s_lss rfl rfl rfl ?_
    refine WL_nil ?_
    refine n_then ?_
    refine W_cond rfl (fun hc47 => ?_) (fun hc47 => ?_)
    · skip
      simp only [decide_eq_true_eq, decide_eq_false_iff_not] at hc47
      have hqz : q < zs.length := by omega
      have hzq := hz zs[q] (List.getElem_mem hqz)
      obtain ⟨bz, oz, hAz, hcz⟩ := hv.at (k := q) (u := .int .i64 zs[q]) (by simp [hqz])
      have hBz : bz < w0.heap.size := World.block_lt_of_cell? w0 _ hcz
      have hxq : aroundV zs[q] 36 = xAt zs q := by simp [xAt, hqz]
      have hxb := xAt_bd zs q
      refine W_skip ?_
      refine n_then ?_
      refine W_seq ?_
      refine W_block ?_
      refine W_seq ?_
      refine W_region ?_
      refine s_move rfl rfl ?_
      refine s_move rfl rfl ?_
      (refine s_indexAddrO El22 rfl rfl rfl hAz ?hx ?_; case hx => (constructor <;> omega))
      first
        | refine s_load Try.isAgg3 rfl rfl (hs.cell (k := 0) rfl rfl) ?_
        | refine s_load Try.isAgg3 rfl rfl (hs.cell (k := 1) rfl rfl) ?_
        | refine s_load Try.isAgg3 rfl rfl (hs.cell (k := 2) rfl rfl) ?_
        | refine s_load Try.isAgg3 rfl rfl (hs.cell (k := 3) rfl rfl) ?_
        | refine s_load Try.isAgg3 rfl rfl (hs.cell (k := 4) rfl rfl) ?_
        | refine s_load Try.isAgg3 rfl rfl (hs.cell (k := 5) rfl rfl) ?_
        | refine s_load Try.isAgg3 rfl rfl ((hs.oldcell (a := ⟨bz, oz + q, none⟩) hBz (by simp)).trans hcz) ?_
      refine s_call Try.call26 rfl rfl (around_ok zs[q] 36 w (by omega) hzq) ?_
      rintro r w ⟨rfl, rfl⟩
      rw [hxq]
      refine s_assign rfl rfl ?_
      refine WL_nil ?_
      refine n_then ?_
      refine W_seq ?_
      refine W_seq ?_
      refine W_draw [(0, true, []), (1, true, []), (2, true, []), (3, true, []), (4, true, []), (5, true, []), (6, true, []), (7, true, []), (8, true, []), (9, true, []), (10, false, [0, 1, 2, 3, 4, 5, 6, 7]), (11, true, []), (12, false, []), (13, true, [])] MX (by kernel_rfl) ?_
      intro w1 hw1 hw2 hw3 hw4; replace hs := hs.redrawn hw1 hw2 hw3 hw4; clear hw1 hw2 hw3 hw4
      obtain ⟨w, rfl⟩ : ∃ w : World, w = w1 := ⟨_, rfl⟩
      refine D_q rfl rfl ?_
      refine s_move rfl rfl ?_
      refine D_qn ?_
      refine D_q rfl rfl ?_
      refine s_move rfl rfl ?_
      refine D_qn ?_
      refine D_q rfl rfl ?_
      refine s_move rfl rfl ?_
      refine D_qn ?_
      refine D_q rfl rfl ?_
      first | (refine s_rem' rfl rfl rfl ?hx ?_; case hx => (refine ⟨?_, ?_⟩ <;> omega)) | (refine s_rem rfl rfl rfl ?hx ?_; case hx => omega)
      refine D_qn ?_
      refine D_q rfl rfl ?_
      refine s_move rfl rfl ?_
      refine D_qn ?_
      refine D_q rfl rfl ?_
      first | (refine s_quo' rfl rfl rfl ?hx ?_; case hx => (refine ⟨?_, ?_, ?_⟩ <;> omega)) | (refine s_quo rfl rfl rfl ?hx ?_; case hx => omega)
      refine D_qn ?_
      refine D_q rfl rfl ?_
      refine s_move rfl rfl ?_
      refine D_qn ?_
      refine D_q rfl rfl ?_
      first | (refine s_rem' rfl rfl rfl ?hx ?_; case hx => (refine ⟨?_, ?_⟩ <;> omega)) | (refine s_rem rfl rfl rfl ?hx ?_; case hx => omega)
      refine D_qn ?_
      refine D_q rfl rfl ?_
      refine s_move rfl rfl ?_
      refine D_qn ?_
      refine D_q rfl rfl ?_
      refine s_convert rfl rfl (CV3_5 _) ?_
      rw [show IntKind.u8.wrap (((q, nx, ms, LM) : Nat × Nat × List Msg × Hp).1 : Int) = (q : Int) from IntWalk.u8_in _ (by simp only; omega)]
      refine D_qn ?_
      refine D_e rfl ?_
      refine s_buildSlice rfl rfl (BS30_1 _) hs ?_; clear hs; intro b65 w hs
      refine D_en ?re ?_
      case re =>
        refine Reks_cons rfl rfl rfl rfl ?_ ?_
        · skip
          refine s_move rfl rfl ?_
          exact Rek_end rfl
        refine Reks_cons rfl rfl rfl rfl ?_ ?_
        · skip
          refine s_move rfl rfl ?_
          exact Rek_end rfl
        refine Reks_cons rfl rfl rfl rfl ?_ ?_
        · skip
          refine s_move rfl rfl ?_
          exact Rek_end rfl
        refine Reks_cons rfl rfl rfl rfl ?_ ?_
        · skip
          first | (refine s_rem' rfl rfl rfl ?hx ?_; case hx => (refine ⟨?_, ?_⟩ <;> omega)) | (refine s_rem rfl rfl rfl ?hx ?_; case hx => omega)
          exact Rek_end rfl
        refine Reks_cons rfl rfl rfl rfl ?_ ?_
        · skip
          refine s_move rfl rfl ?_
          exact Rek_end rfl
        refine Reks_cons rfl rfl rfl rfl ?_ ?_
        · skip
          first | (refine s_quo' rfl rfl rfl ?hx ?_; case hx => (refine ⟨?_, ?_, ?_⟩ <;> omega)) | (refine s_quo rfl rfl rfl ?hx ?_; case hx => omega)
          exact Rek_end rfl
        refine Reks_cons rfl rfl rfl rfl ?_ ?_
        · skip
          refine s_move rfl rfl ?_
          exact Rek_end rfl
        refine Reks_cons rfl rfl rfl rfl ?_ ?_
        · skip
          first | (refine s_rem' rfl rfl rfl ?hx ?_; case hx => (refine ⟨?_, ?_⟩ <;> omega)) | (refine s_rem rfl rfl rfl ?hx ?_; case hx => omega)
          exact Rek_end rfl
        exact Reks_nil
      refine D_q rfl rfl ?_
      refine s_build rfl rfl (BD32_0_1_2 _ _ _ _ _) ?_
      refine D_qn ?_
      refine D_e rfl ?_
      have hlen := hM.1
      have hmod : 0 ≤ xAt zs q % i ∧ xAt zs q % i < i ∧ 0 ≤ xAt zs q / 6 % i ∧ xAt zs q / 6 % i < i := MsgIs.valid (k := i) (j := q) (xs := zs) (m := ⟨xAt zs q % i, xAt zs q / 6 % i, 0, [(q : Int)]⟩) ⟨rfl, rfl, rfl⟩ hk1
      have hE : sendE (List.replicate i 0) ms (xAt zs q % i) (xAt zs q / 6 % i) [(q : Int)] = 0 := by
        rw [sendE, if_neg (by rw [List.length_replicate]; simp; omega), if_neg (by omega)]
      refine s_callL (M := [_, _, _]) (L1 := LM) (X := []) Try.call12 rfl rfl hs (fun h => send_ok p _ ms _ _ _ [(q : Int)] LM w hN h (hs.sl (k := 0) rfl (Nat.le_refl _) (by intro j u hj; rw [Nat.zero_add]; exact hj)) (by omega) (fun a m c he _ => by cases he; exact hs.notin (M := [_, _, _]) (by simp [ids]))) ?_
      clear hs; rintro v w LM2 ⟨rfl, ms2, hN2, -, hms⟩ - hs
      obtain ⟨b9, rfl⟩ := hms hE
      rw [hE]
      replace hs := hs.tail
      clear hms
      have hM2 := hM.snoc (m := ⟨xAt zs q % i, xAt zs q / 6 % i, b9, [(q : Int)]⟩) ⟨rfl, rfl, rfl⟩
      refine D_en ?re ?_
      case re =>
        exact Reks_nil
      refine D_q rfl rfl ?_
      refine s_neq rfl rfl rfl ?_
      refine D_qn ?_
      refine D_nil ?_
      refine n_then ?_
      refine W_cond_kf rfl (rfl) ?_
      refine W_skip ?_
      refine n_then ?_
      refine W_seq ?_
      refine W_region ?_
      refine s_move rfl rfl ?_
      refine s_move rfl rfl ?_
      refine s_len rfl rfl (LN51 _ _ _ _) ?_
      refine s_lss rfl rfl rfl ?_
      refine s_move rfl rfl ?_
      refine WL_case (s := 73) rfl (fun hg73 => ?_) (fun hg73 => ?_)
      · skip
        simp only [decide_eq_true_eq, decide_eq_false_iff_not] at hg73
        have hqp : q < ps.length := by omega
        obtain ⟨bp, op, hAp, hcp⟩ := hvb.at (k := q) (u := .bool ps[q]) (by simp [hqp])
        have hBp : bp < w0.heap.size := World.block_lt_of_cell? w0 _ hcp
        refine WL_take rfl ?_
        refine s_move rfl rfl ?_
        refine WL_take rfl ?_
        refine s_move rfl rfl ?_
        refine WL_take rfl ?_
        (refine s_indexAddrO El51 rfl rfl rfl hAp ?hx ?_; case hx => (constructor <;> first | omega | (simp only; omega)))
        refine WL_take rfl ?_
        refine s_load Try.isAgg4 rfl rfl ((hs.oldcell (a := ⟨bp, op + q, none⟩) hBp (by simp)).trans hcp) ?_
        refine s_pick_t rfl rfl rfl ?_
        refine WL_nil ?_
        refine n_then ?_
        refine W_cond rfl (fun hc78 => ?_) (fun hc78 => ?_)
        · skip
          skip
          refine W_seq ?_
          refine W_seq ?_
          refine W_region ?_
          refine s_move rfl rfl ?_
          refine s_move rfl rfl ?_
          refine s_callL (M := [_, _]) (L1 := LM2) (X := []) Try.call21 rfl rfl hs (fun h => partition_yes p _ (idl i) _ _ LM2 w hN2 h (by rw [idl_length]; exact hs.sl (k := 1) (ds := i64s (idl i)) rfl (Nat.le_refl _) (by intro j u hj; rw [Nat.zero_add]; exact hj)) (by rw [idl_length]; simp)) ?_
          clear hs; rintro v w LM3 ⟨rfl, hN3⟩ - hs
          simp only [List.cons_append, List.nil_append] at hs
          refine s_neq rfl rfl rfl ?_
          refine WL_nil ?_
          refine n_then ?_
          refine W_cond_kf rfl (rfl) ?_
          refine W_skip ?_
          refine n_then ?_
          refine W_seq ?_
          refine W_region ?_
          refine s_move rfl rfl ?_
          obtain ⟨m0, hm0⟩ : ∃ m0, (ms ++ [(⟨xAt zs q % i, xAt zs q / 6 % i, b9, [(q : Int)]⟩ : Msg)])[(0 : Int).toNat]? = some m0 := by
            cases hh : ms with
            | nil => exact ⟨_, rfl⟩
            | cons x y => exact ⟨_, rfl⟩
          have hI0 := hM2.2.2 0 m0 hm0
          have hV0 := hI0.valid hk1
          have hml := hM2.1
          have hlp : 0 < (ms ++ [(⟨xAt zs q % i, xAt zs q / 6 % i, b9, [(q : Int)]⟩ : Msg)]).length := by simp
          refine s_callL (M := [_, _]) (L1 := LM3) (X := []) Try.call14 rfl rfl hs (fun h => take_yes p (idl i) _ 0 LM3 w hN3 h (by omega) (by omega) m0 hm0 (by rw [idl_length]; exact hV0)) ?_
          clear hs; intro v w LM4 h _ hs
          rw [grp_idl ⟨hV0.1, hV0.2.1⟩, grp_idl ⟨hV0.2.2.1, hV0.2.2.2⟩] at h
          obtain ⟨hft, rfl, hN4⟩ | ⟨hft, rfl, L5, rfl, hN5⟩ := h
          · skip
            simp only [List.cons_append, List.nil_append] at hs
            refine s_move rfl rfl ?_
            refine s_extract rfl rfl rfl ?_
            refine s_extract rfl rfl rfl ?_
            refine s_alloc rfl AL32 hs ?_; clear hs; intro b16 w hs
            first
              | refine s_storeW Try.sizeOf32 rfl rfl rfl rfl hs (kk := 0) rfl rfl ?_
              | refine s_storeW Try.sizeOf32 rfl rfl rfl rfl hs (kk := 1) rfl rfl ?_
              | refine s_storeW Try.sizeOf32 rfl rfl rfl rfl hs (kk := 2) rfl rfl ?_
              | refine s_storeW Try.sizeOf32 rfl rfl rfl rfl hs (kk := 3) rfl rfl ?_
              | refine s_storeW Try.sizeOf32 rfl rfl rfl rfl hs (kk := 4) rfl rfl ?_
              | refine s_storeW Try.sizeOf32 rfl rfl rfl rfl hs (kk := 5) rfl rfl ?_
              | refine s_storeAB Try.sizeOf32 rfl rfl rfl rfl hs (kk := 0) rfl rfl ?_
              | refine s_storeAB Try.sizeOf32 rfl rfl rfl rfl hs (kk := 1) rfl rfl ?_
              | refine s_storeAB Try.sizeOf32 rfl rfl rfl rfl hs (kk := 2) rfl rfl ?_
              | refine s_storeAB Try.sizeOf32 rfl rfl rfl rfl hs (kk := 3) rfl rfl ?_
              | refine s_storeAB Try.sizeOf32 rfl rfl rfl rfl hs (kk := 4) rfl rfl ?_
              | refine s_storeAB Try.sizeOf32 rfl rfl rfl rfl hs (kk := 5) rfl rfl ?_
            clear hs; intro w hs; try simp only [List.set_cons_zero, List.set_cons_succ, splice, List.take_succ_cons, List.take_zero, List.drop_succ_cons, List.drop_zero, List.nil_append, List.cons_append, List.length_cons, List.length_nil, Nat.reduceAdd, List.append_assoc] at hs
            refine s_assign rfl rfl ?_
            refine WL_nil ?_
            refine n_then ?_
            refine W_seq ?_
            refine W_seq ?_
            refine W_region ?_
            refine s_move rfl rfl ?_
            refine s_eql rfl rfl rfl ?_
            refine s_move rfl rfl ?_
            refine WL_know (s := 90) (c := false) rfl (rfl) ?_
            refine WL_skip rfl rfl rfl ?_
            refine WL_skip rfl rfl rfl ?_
            refine WL_skip rfl rfl rfl ?_
            refine WL_skip rfl rfl rfl ?_
            refine WL_skip rfl rfl rfl ?_
            refine WL_skip rfl rfl rfl ?_
            refine WL_skipU rfl rfl ?_
            refine WL_skipU rfl rfl ?_
            refine WL_skipU rfl rfl ?_
            refine WL_skipU rfl rfl ?_
            refine WL_skip rfl rfl rfl ?_
            refine WL_skip rfl rfl rfl ?_
            refine WL_skipU rfl rfl ?_
            refine WL_skipU rfl rfl ?_
            refine WL_skipU rfl rfl ?_
            refine WL_skipU rfl rfl ?_
            refine WL_skipU rfl rfl ?_
            refine WL_skipU rfl rfl ?_
            refine WL_skipU rfl rfl ?_
            refine WL_skip rfl rfl rfl ?_
            refine s_pick_f rfl rfl rfl ?_
            refine s_move rfl rfl ?_
            refine WL_take rfl ?_
            refine s_move rfl rfl ?_
            refine WL_take rfl ?_
            refine s_neq rfl rfl rfl ?_
            refine WL_take rfl ?_
            refine s_move rfl rfl ?_
            refine WL_know (s := 115) (c := true) rfl (rfl) ?_
            refine WL_take rfl ?_
            refine s_move rfl rfl ?_
            refine WL_take rfl ?_
            refine s_neq rfl rfl rfl ?_
            refine WL_take rfl ?_
            refine s_pick_t rfl rfl rfl ?_
            refine s_pick_f rfl rfl rfl ?_
            refine WL_nil ?_
            refine n_then ?_
            refine W_cond_kf rfl (rfl) ?_
            refine W_skip ?_
            refine n_then ?_
            refine W_seq ?_
            refine W_seq ?_
            refine W_region ?_
            refine s_move rfl rfl ?_
            refine s_eql rfl rfl rfl ?_
            refine WL_nil ?_
            refine n_then ?_
            refine W_cond_kf rfl (rfl) ?_
            refine W_skip ?_
            refine n_then ?_
            refine W_region ?_
            refine s_move rfl rfl ?_
            refine s_move rfl rfl ?_
            refine s_callL (M := [_, _, _]) (L1 := LM4) (X := []) Try.call21 rfl rfl hs (fun h => partition_yes p _ (List.replicate i 0) _ _ LM4 w hN4 h (by rw [List.length_replicate]; exact hs.sl (k := 1) (ds := i64s (List.replicate i 0)) rfl (Nat.le_refl _) (by intro j u hj; rw [Nat.zero_add]; exact hj)) (by rw [idl_length]; simp)) ?_
            clear hs; rintro v w LM6 ⟨rfl, hN6⟩ - hs
            replace hs := hs.tail
            refine WL_nil ?_
            refine n_blk ?_
            refine n_then ?_
            refine W_region ?_
            refine s_move rfl rfl ?_
            first | (refine s_add' rfl rfl rfl ?hx ?_; case hx => (constructor <;> omega)) | refine s_add rfl rfl rfl ?_
            refine s_assign rfl rfl ?_
            refine WL_nil ?_
            refine n_loop ?_
            exact ⟨(q + 1, nx, _, LM6), ⟨rfl, rfl, rfl, rfl, rfl, rfl, rfl, rfl, rfl, trivial⟩, ⟨hs, hN6, hM2, by show q + 1 ≤ many; omega⟩, by show many - (q + 1) < many - q; omega⟩
          · skip
            obtain ⟨hf0, ht0, hb0⟩ := hI0
            simp only [List.cons_append, List.nil_append, Msg.blk, hb0] at hs
            simp only [Msg.cells, hb0]
            refine s_move rfl rfl ?_
            refine s_extract rfl rfl rfl ?_
            refine s_extract rfl rfl rfl ?_
            refine s_alloc rfl AL32 hs ?_; clear hs; intro b16 w hs
            first
              | refine s_storeW Try.sizeOf32 rfl rfl rfl rfl hs (kk := 0) rfl rfl ?_
              | refine s_storeW Try.sizeOf32 rfl rfl rfl rfl hs (kk := 1) rfl rfl ?_
              | refine s_storeW Try.sizeOf32 rfl rfl rfl rfl hs (kk := 2) rfl rfl ?_
              | refine s_storeW Try.sizeOf32 rfl rfl rfl rfl hs (kk := 3) rfl rfl ?_
              | refine s_storeW Try.sizeOf32 rfl rfl rfl rfl hs (kk := 4) rfl rfl ?_
              | refine s_storeW Try.sizeOf32 rfl rfl rfl rfl hs (kk := 5) rfl rfl ?_
              | refine s_storeAB Try.sizeOf32 rfl rfl rfl rfl hs (kk := 0) rfl rfl ?_
              | refine s_storeAB Try.sizeOf32 rfl rfl rfl rfl hs (kk := 1) rfl rfl ?_
              | refine s_storeAB Try.sizeOf32 rfl rfl rfl rfl hs (kk := 2) rfl rfl ?_
              | refine s_storeAB Try.sizeOf32 rfl rfl rfl rfl hs (kk := 3) rfl rfl ?_
              | refine s_storeAB Try.sizeOf32 rfl rfl rfl rfl hs (kk := 4) rfl rfl ?_
              | refine s_storeAB Try.sizeOf32 rfl rfl rfl rfl hs (kk := 5) rfl rfl ?_
            clear hs; intro w hs; try simp only [List.set_cons_zero, List.set_cons_succ, splice, List.take_succ_cons, List.take_zero, List.drop_succ_cons, List.drop_zero, List.nil_append, List.cons_append, List.length_cons, List.length_nil, Nat.reduceAdd, List.append_assoc] at hs
            refine s_assign rfl rfl ?_
            refine WL_nil ?_
            refine n_then ?_
            refine W_seq ?_
            refine W_seq ?_
            refine W_region ?_
            refine s_move rfl rfl ?_
            refine s_eql rfl rfl rfl ?_
            refine s_move rfl rfl ?_
            refine WL_know (s := 90) (c := true) rfl (rfl) ?_
            refine WL_take rfl ?_
            refine s_fieldAddr rfl rfl (FA32_0 _ _) ?_
            refine WL_take rfl ?_
            first
              | refine s_load Try.isAgg3 rfl rfl (hs.cell (k := 0) rfl rfl) ?_
              | refine s_load Try.isAgg3 rfl rfl (hs.cell (k := 1) rfl rfl) ?_
              | refine s_load Try.isAgg3 rfl rfl (hs.cell (k := 2) rfl rfl) ?_
              | refine s_load Try.isAgg3 rfl rfl (hs.cell (k := 3) rfl rfl) ?_
              | refine s_load Try.isAgg3 rfl rfl (hs.cell (k := 4) rfl rfl) ?_
              | refine s_load Try.isAgg3 rfl rfl (hs.cell (k := 5) rfl rfl) ?_
              | refine s_load Try.isAgg3 rfl rfl ((hs.oldcell (a := ⟨bz, oz + q, none⟩) hBz (by simp)).trans hcz) ?_
            refine WL_take rfl ?_
            refine s_fieldAddr rfl rfl (FA32_1 _ _) ?_
            refine WL_take rfl ?_
            first
              | refine s_load Try.isAgg3 rfl rfl (hs.cell (k := 0) rfl rfl) ?_
              | refine s_load Try.isAgg3 rfl rfl (hs.cell (k := 1) rfl rfl) ?_
              | refine s_load Try.isAgg3 rfl rfl (hs.cell (k := 2) rfl rfl) ?_
              | refine s_load Try.isAgg3 rfl rfl (hs.cell (k := 3) rfl rfl) ?_
              | refine s_load Try.isAgg3 rfl rfl (hs.cell (k := 4) rfl rfl) ?_
              | refine s_load Try.isAgg3 rfl rfl (hs.cell (k := 5) rfl rfl) ?_
              | refine s_load Try.isAgg3 rfl rfl ((hs.oldcell (a := ⟨bz, oz + q, none⟩) hBz (by simp)).trans hcz) ?_
            refine WL_take rfl ?_
            refine s_neq rfl rfl rfl ?_
            refine WL_take rfl ?_
            refine s_move rfl rfl ?_
            refine WL_know (s := 96) (c := false) rfl ((by simp [hft])) ?_
            refine WL_take rfl ?_
            refine s_fieldAddr rfl rfl (FA32_2 _ _) ?_
            refine WL_take rfl ?_
            first
              | refine s_load Try.isAgg30 rfl rfl (hs.cell (k := 0) rfl rfl) ?_
              | refine s_load Try.isAgg30 rfl rfl (hs.cell (k := 1) rfl rfl) ?_
              | refine s_load Try.isAgg30 rfl rfl (hs.cell (k := 2) rfl rfl) ?_
              | refine s_load Try.isAgg30 rfl rfl (hs.cell (k := 3) rfl rfl) ?_
              | refine s_load Try.isAgg30 rfl rfl (hs.cell (k := 4) rfl rfl) ?_
              | refine s_load Try.isAgg30 rfl rfl (hs.cell (k := 5) rfl rfl) ?_
              | refine s_load Try.isAgg30 rfl rfl ((hs.oldcell (a := ⟨bz, oz + q, none⟩) hBz (by simp)).trans hcz) ?_
            refine WL_take rfl ?_
            refine s_len rfl rfl (LN30 _ _ _ _) ?_
            refine WL_take rfl ?_
            refine s_neq rfl rfl rfl ?_
            refine WL_take rfl ?_
            refine s_pick_f rfl rfl rfl ?_
            refine WL_take rfl ?_
            refine s_move rfl rfl ?_
            refine WL_know (s := 102) (c := false) rfl (rfl) ?_
            refine WL_take rfl ?_
            refine s_fieldAddr rfl rfl (FA32_2 _ _) ?_
            refine WL_take rfl ?_
            first
              | refine s_load Try.isAgg30 rfl rfl (hs.cell (k := 0) rfl rfl) ?_
              | refine s_load Try.isAgg30 rfl rfl (hs.cell (k := 1) rfl rfl) ?_
              | refine s_load Try.isAgg30 rfl rfl (hs.cell (k := 2) rfl rfl) ?_
              | refine s_load Try.isAgg30 rfl rfl (hs.cell (k := 3) rfl rfl) ?_
              | refine s_load Try.isAgg30 rfl rfl (hs.cell (k := 4) rfl rfl) ?_
              | refine s_load Try.isAgg30 rfl rfl (hs.cell (k := 5) rfl rfl) ?_
              | refine s_load Try.isAgg30 rfl rfl ((hs.oldcell (a := ⟨bz, oz + q, none⟩) hBz (by simp)).trans hcz) ?_
            refine WL_take rfl ?_
            (refine s_indexAddr1 El30 rfl rfl rfl ?hx ?_; case hx => (constructor <;> first | omega | (simp; omega)))
            refine WL_take rfl ?_
            first
              | refine s_load Try.isAgg5 rfl rfl (hs.cell (k := 0) rfl rfl) ?_
              | refine s_load Try.isAgg5 rfl rfl (hs.cell (k := 1) rfl rfl) ?_
              | refine s_load Try.isAgg5 rfl rfl (hs.cell (k := 2) rfl rfl) ?_
              | refine s_load Try.isAgg5 rfl rfl (hs.cell (k := 3) rfl rfl) ?_
              | refine s_load Try.isAgg5 rfl rfl (hs.cell (k := 4) rfl rfl) ?_
              | refine s_load Try.isAgg5 rfl rfl (hs.cell (k := 5) rfl rfl) ?_
              | refine s_load Try.isAgg5 rfl rfl ((hs.oldcell (a := ⟨bz, oz + q, none⟩) hBz (by simp)).trans hcz) ?_
            refine WL_take rfl ?_
            refine s_convert rfl rfl (CV5_3 _) ?_
            refine WL_take rfl ?_
            refine s_move rfl rfl ?_
            refine WL_take rfl ?_
            refine s_neq rfl rfl rfl ?_
            refine WL_take rfl ?_
            refine s_pick_f rfl rfl rfl ?_
            refine s_pick_t rfl rfl rfl ?_
            refine s_move rfl rfl ?_
            refine WL_know (s := 112) (c := false) rfl ((by rw [IntWalk.i64_in _ (by omega)]; simp)) ?_
            refine WL_take rfl ?_
            refine s_move rfl rfl ?_
            refine WL_take rfl ?_
            refine s_neq rfl rfl rfl ?_
            refine WL_take rfl ?_
            refine s_move rfl rfl ?_
            refine WL_know (s := 115) (c := false) rfl (rfl) ?_
            refine WL_skip rfl rfl rfl ?_
            refine WL_skip rfl rfl rfl ?_
            refine WL_take rfl ?_
            refine s_pick_f rfl rfl rfl ?_
            refine s_pick_f rfl rfl rfl ?_
            refine WL_nil ?_
            refine n_then ?_
            refine W_cond_f rfl ?_
            refine W_skip ?_
            refine n_then ?_
            refine W_seq ?_
            refine W_seq ?_
            refine W_region ?_
            refine s_move rfl rfl ?_
            refine s_eql rfl rfl rfl ?_
            refine WL_nil ?_
            refine n_then ?_
            refine W_cond_kt rfl (rfl) ?_
            refine W_region ?_
            refine s_move rfl rfl ?_
            first | (refine s_add' rfl rfl rfl ?hx ?_; case hx => (constructor <;> omega)) | refine s_add rfl rfl rfl ?_
            refine s_assign rfl rfl ?_
            refine WL_nil ?_
            refine n_then ?_
            refine W_region ?_
            refine s_move rfl rfl ?_
            refine s_move rfl rfl ?_
            refine s_callL (M := [_, _, _, _]) (L1 := L5) (X := []) Try.call21 rfl rfl hs (fun h => partition_yes p _ (List.replicate i 0) _ _ L5 w hN5 h (by rw [List.length_replicate]; exact hs.sl (k := 1) (ds := i64s (List.replicate i 0)) rfl (Nat.le_refl _) (by intro j u hj; rw [Nat.zero_add]; exact hj)) (by rw [idl_length]; simp)) ?_
            clear hs; rintro v w LM6 ⟨rfl, hN6⟩ - hs
            replace hs := St.reord [[_], [_], [_], [_], LM6, []] [1, 2, 4, 5] [0, 3] hs rfl
            refine WL_nil ?_
            refine n_blk ?_
            refine n_then ?_
            refine W_region ?_
            refine s_move rfl rfl ?_
            first | (refine s_add' rfl rfl rfl ?hx ?_; case hx => (constructor <;> omega)) | refine s_add rfl rfl rfl ?_
            refine s_assign rfl rfl ?_
            refine WL_nil ?_
            refine n_loop ?_
            exact ⟨(q + 1, nx + 1, _, LM6), ⟨rfl, rfl, rfl, rfl, rfl, rfl, rfl, rfl, rfl, trivial⟩, ⟨hs, hN6, hM2.tail (by omega), by show q + 1 ≤ many; omega⟩, by show many - (q + 1) < many - q; omega⟩
        · skip
          skip
          refine W_skip ?_
          refine n_blk ?_
          refine n_then ?_
          refine W_region ?_
          refine s_move rfl rfl ?_
          first | (refine s_add' rfl rfl rfl ?hx ?_; case hx => (constructor <;> omega)) | refine s_add rfl rfl rfl ?_
          refine s_assign rfl rfl ?_
          refine WL_nil ?_
          refine n_loop ?_
          exact ⟨(q + 1, nx, _, LM2), ⟨rfl, rfl, rfl, rfl, rfl, rfl, rfl, rfl, rfl, trivial⟩, ⟨hs, hN2, hM2, by show q + 1 ≤ many; omega⟩, by show many - (q + 1) < many - q; omega⟩
      · skip
        simp only [decide_eq_true_eq, decide_eq_false_iff_not] at hg73
        refine WL_skip rfl rfl rfl ?_
        refine WL_skip rfl rfl rfl ?_
        refine WL_skip rfl rfl rfl ?_
        refine WL_skip rfl rfl rfl ?_
        refine s_pick_f rfl rfl rfl ?_
        refine WL_nil ?_
        refine n_then ?_
        refine W_cond_f rfl ?_
        refine W_skip ?_
        refine n_blk ?_
        refine n_then ?_
        refine W_region ?_
        refine s_move rfl rfl ?_
        first | (refine s_add' rfl rfl rfl ?hx ?_; case hx => (constructor <;> omega)) | refine s_add rfl rfl rfl ?_
        refine s_assign rfl rfl ?_
        refine WL_nil ?_
        refine n_loop ?_
        exact ⟨(q + 1, nx, _, LM2), ⟨rfl, rfl, rfl, rfl, rfl, rfl, rfl, rfl, rfl, trivial⟩, ⟨hs, hN2, hM2, by show q + 1 ≤ many; omega⟩, by show many - (q + 1) < many - q; omega⟩
    · skip
      simp only [decide_eq_true_eq, decide_eq_false_iff_not] at hc47
      obtain rfl : q = many := by omega
      replace hs := hs.tail.tail
      refine W_exit ?_
      refine x_then ?_
      refine x_then ?_
      refine exit_hit ?_
      refine n_then ?_
      refine W_seq ?_
      refine W_block ?_
      refine W_loop (σ := Nat × List Msg × Hp) (fun s => [(1, .slice a zs.length c), (7, .pointer (some ⟨p, 0, none⟩)), (8, .int .i64 (i : Int)), (12, .int .i64 (q : Int)), (13, .int .i64 (s.1 : Int))])
        (fun s w => St [] w0 w (s.2.2 ++ []) ∧ NetAt p (List.replicate i 0) s.2.1 s.2.2 ∧ MsAt i zs s.1 q s.2.1)
        (fun s => q - s.1) (nx, ms, LM) ⟨rfl, rfl, rfl, rfl, rfl, trivial⟩ ⟨hs, hN, hM⟩ ?_
      clear hs hN hM
      rintro ⟨nx, ms, LM⟩ w ⟨hs, hN, hM⟩
      simp only at hs hN hM
      have hml := hM.1
      have hle := hM.2.1
      refine W_seq ?_
      refine W_seq ?_
      refine W_region ?_
      refine s_move rfl rfl ?_
      refine s_move rfl rfl ?_
      refine s_lss rfl rfl rfl ?_
      refine WL_nil ?_
      refine n_then ?_
      refine W_cond rfl (fun hc129 => ?_) (fun hc129 => ?_)
      · skip
        simp only [decide_eq_true_eq, decide_eq_false_iff_not] at hc129
        obtain ⟨m0, hm0⟩ : ∃ m0, ms[(0 : Int).toNat]? = some m0 := by
          cases hh : ms with
          | nil => rw [hh] at hml; simp at hml; omega
          | cons x y => exact ⟨_, rfl⟩
        have hI0 := hM.2.2 0 m0 hm0
        have hV0 := hI0.valid hk1
        obtain ⟨hf0, ht0, hb0⟩ := hI0
        have hqz : nx < zs.length := by omega
        have hzq := hz zs[nx] (List.getElem_mem hqz)
        obtain ⟨bz, oz, hAz, hcz⟩ := hv.at (k := nx) (u := .int .i64 zs[nx]) (by simp [hqz])
        have hBz : bz < w0.heap.size := World.block_lt_of_cell? w0 _ hcz
        have hxq : aroundV zs[nx] 36 = xAt zs nx := by simp [xAt, hqz]
        have hxb := xAt_bd zs nx
        refine W_skip ?_
        refine n_then ?_
        refine W_block ?_
        refine W_seq ?_
        refine W_region ?_
        refine s_move rfl rfl ?_
        refine s_callL (M := []) (L1 := LM) (X := []) Try.call14 rfl rfl hs (fun h => take_yes p _ ms 0 LM w hN h (by omega) (by omega) m0 hm0 (by rw [List.length_replicate]; exact hV0)) ?_
        clear hs; intro v w LM4 h _ hs
        obtain ⟨hft, _⟩ | ⟨hft, rfl, L5, rfl, hN5⟩ := h
        case inl => exact absurd (by rw [grp_rep, grp_rep]) hft
        simp only [List.cons_append, List.nil_append, Msg.blk, hb0] at hs
        simp only [Msg.cells, hb0]
        refine s_move rfl rfl ?_
        refine s_extract rfl rfl rfl ?_
        refine s_extract rfl rfl rfl ?_
        refine s_alloc rfl AL32 hs ?_; clear hs; intro b18 w hs
        first
          | refine s_storeW Try.sizeOf32 rfl rfl rfl rfl hs (kk := 0) rfl rfl ?_
          | refine s_storeW Try.sizeOf32 rfl rfl rfl rfl hs (kk := 1) rfl rfl ?_
          | refine s_storeW Try.sizeOf32 rfl rfl rfl rfl hs (kk := 2) rfl rfl ?_
          | refine s_storeW Try.sizeOf32 rfl rfl rfl rfl hs (kk := 3) rfl rfl ?_
          | refine s_storeW Try.sizeOf32 rfl rfl rfl rfl hs (kk := 4) rfl rfl ?_
          | refine s_storeW Try.sizeOf32 rfl rfl rfl rfl hs (kk := 5) rfl rfl ?_
          | refine s_storeAB Try.sizeOf32 rfl rfl rfl rfl hs (kk := 0) rfl rfl ?_
          | refine s_storeAB Try.sizeOf32 rfl rfl rfl rfl hs (kk := 1) rfl rfl ?_
          | refine s_storeAB Try.sizeOf32 rfl rfl rfl rfl hs (kk := 2) rfl rfl ?_
          | refine s_storeAB Try.sizeOf32 rfl rfl rfl rfl hs (kk := 3) rfl rfl ?_
          | refine s_storeAB Try.sizeOf32 rfl rfl rfl rfl hs (kk := 4) rfl rfl ?_
          | refine s_storeAB Try.sizeOf32 rfl rfl rfl rfl hs (kk := 5) rfl rfl ?_
        clear hs; intro w hs; try simp only [List.set_cons_zero, List.set_cons_succ, splice, List.take_succ_cons, List.take_zero, List.drop_succ_cons, List.drop_zero, List.nil_append, List.cons_append, List.length_cons, List.length_nil, Nat.reduceAdd, List.append_assoc] at hs
        refine s_assign rfl rfl ?_
        refine WL_nil ?_
        refine n_then ?_
        refine W_seq ?_
        refine W_seq ?_
        refine W_draw [(0, true, []), (1, true, []), (2, true, []), (3, true, []), (4, true, []), (5, true, []), (6, true, []), (7, true, []), (8, true, []), (9, true, []), (10, true, []), (11, true, []), (12, true, []), (13, true, []), (14, true, []), (15, true, []), (16, true, []), (17, true, []), (18, true, []), (19, true, []), (20, true, []), (21, true, []), (22, true, []), (23, true, []), (25, true, []), (24, false, [18, 19, 25]), (26, true, []), (27, true, []), (28, true, [])] MX (by kernel_rfl) ?_
        intro w1 hw1 hw2 hw3 hw4; replace hs := hs.redrawn hw1 hw2 hw3 hw4; clear hw1 hw2 hw3 hw4
        obtain ⟨w, rfl⟩ : ∃ w : World, w = w1 := ⟨_, rfl⟩
        refine D_q rfl rfl ?_
        refine s_move rfl rfl ?_
        refine D_qn ?_
        refine D_q rfl rfl ?_
        refine s_neq rfl rfl rfl ?_
        refine D_qn ?_
        refine D_q rfl rfl ?_
        refine s_move rfl rfl ?_
        refine WL_know (s := 137) (c := false) rfl (rfl) ?_
        refine D_qn ?_
        refine D_q rfl rfl ?_
        refine WL_take rfl ?_
        refine s_fieldAddr rfl rfl (FA32_2 _ _) ?_
        refine D_qn ?_
        refine D_q rfl rfl ?_
        refine WL_take rfl ?_
        first
          | refine s_load Try.isAgg30 rfl rfl (hs.cell (k := 0) rfl rfl) ?_
          | refine s_load Try.isAgg30 rfl rfl (hs.cell (k := 1) rfl rfl) ?_
          | refine s_load Try.isAgg30 rfl rfl (hs.cell (k := 2) rfl rfl) ?_
          | refine s_load Try.isAgg30 rfl rfl (hs.cell (k := 3) rfl rfl) ?_
          | refine s_load Try.isAgg30 rfl rfl (hs.cell (k := 4) rfl rfl) ?_
          | refine s_load Try.isAgg30 rfl rfl (hs.cell (k := 5) rfl rfl) ?_
          | refine s_load Try.isAgg30 rfl rfl ((hs.oldcell (a := ⟨bz, oz + q, none⟩) hBz (by simp)).trans hcz) ?_
        refine D_qn ?_
        refine D_q rfl rfl ?_
        refine WL_take rfl ?_
        refine s_len rfl rfl (LN30 _ _ _ _) ?_
        refine D_qn ?_
        refine D_q rfl rfl ?_
        refine WL_take rfl ?_
        refine s_neq rfl rfl rfl ?_
        refine D_qn ?_
        refine D_q rfl rfl ?_
        refine s_pick_f rfl rfl rfl ?_
        refine D_qn ?_
        refine D_q rfl rfl ?_
        refine s_move rfl rfl ?_
        refine WL_know (s := 143) (c := false) rfl (rfl) ?_
        refine D_qn ?_
        refine D_q rfl rfl ?_
        refine WL_take rfl ?_
        refine s_fieldAddr rfl rfl (FA32_2 _ _) ?_
        refine D_qn ?_
        refine D_q rfl rfl ?_
        refine WL_take rfl ?_
        first
          | refine s_load Try.isAgg30 rfl rfl (hs.cell (k := 0) rfl rfl) ?_
          | refine s_load Try.isAgg30 rfl rfl (hs.cell (k := 1) rfl rfl) ?_
          | refine s_load Try.isAgg30 rfl rfl (hs.cell (k := 2) rfl rfl) ?_
          | refine s_load Try.isAgg30 rfl rfl (hs.cell (k := 3) rfl rfl) ?_
          | refine s_load Try.isAgg30 rfl rfl (hs.cell (k := 4) rfl rfl) ?_
          | refine s_load Try.isAgg30 rfl rfl (hs.cell (k := 5) rfl rfl) ?_
          | refine s_load Try.isAgg30 rfl rfl ((hs.oldcell (a := ⟨bz, oz + q, none⟩) hBz (by simp)).trans hcz) ?_
        refine D_qn ?_
        refine D_q rfl rfl ?_
        refine WL_take rfl ?_
        (refine s_indexAddr1 El30 rfl rfl rfl ?hx ?_; case hx => (constructor <;> first | omega | (simp; omega)))
        refine D_qn ?_
        refine D_q rfl rfl ?_
        refine WL_take rfl ?_
        first
          | refine s_load Try.isAgg5 rfl rfl (hs.cell (k := 0) rfl rfl) ?_
          | refine s_load Try.isAgg5 rfl rfl (hs.cell (k := 1) rfl rfl) ?_
          | refine s_load Try.isAgg5 rfl rfl (hs.cell (k := 2) rfl rfl) ?_
          | refine s_load Try.isAgg5 rfl rfl (hs.cell (k := 3) rfl rfl) ?_
          | refine s_load Try.isAgg5 rfl rfl (hs.cell (k := 4) rfl rfl) ?_
          | refine s_load Try.isAgg5 rfl rfl (hs.cell (k := 5) rfl rfl) ?_
          | refine s_load Try.isAgg5 rfl rfl ((hs.oldcell (a := ⟨bz, oz + q, none⟩) hBz (by simp)).trans hcz) ?_
        refine D_qn ?_
        refine D_q rfl rfl ?_
        refine WL_take rfl ?_
        refine s_convert rfl rfl (CV5_3 _) ?_
        rw [show IntKind.i64.wrap (((nx + 0 : Nat)) : Int) = (nx : Int) from by rw [IntWalk.i64_in _ (by omega)]; rfl]
        refine D_qn ?_
        refine D_q rfl rfl ?_
        refine WL_take rfl ?_
        refine s_move rfl rfl ?_
        refine D_qn ?_
        refine D_q rfl rfl ?_
        refine WL_take rfl ?_
        refine s_neq rfl rfl rfl ?_
        refine D_qn ?_
        refine D_q rfl rfl ?_
        refine s_pick_f rfl rfl rfl ?_
        refine D_qn ?_
        refine D_q rfl rfl ?_
        refine s_move rfl rfl ?_
        refine WL_know (s := 152) (c := false) rfl ((by simp)) ?_
        refine D_qn ?_
        refine D_q rfl rfl ?_
        refine WL_take rfl ?_
        refine s_fieldAddr rfl rfl (FA32_0 _ _) ?_
        refine D_qn ?_
        refine D_q rfl rfl ?_
        refine WL_take rfl ?_
        first
          | refine s_load Try.isAgg3 rfl rfl (hs.cell (k := 0) rfl rfl) ?_
          | refine s_load Try.isAgg3 rfl rfl (hs.cell (k := 1) rfl rfl) ?_
          | refine s_load Try.isAgg3 rfl rfl (hs.cell (k := 2) rfl rfl) ?_
          | refine s_load Try.isAgg3 rfl rfl (hs.cell (k := 3) rfl rfl) ?_
          | refine s_load Try.isAgg3 rfl rfl (hs.cell (k := 4) rfl rfl) ?_
          | refine s_load Try.isAgg3 rfl rfl (hs.cell (k := 5) rfl rfl) ?_
          | refine s_load Try.isAgg3 rfl rfl ((hs.oldcell (a := ⟨bz, oz + q, none⟩) hBz (by simp)).trans hcz) ?_
        refine D_qn ?_
        refine D_q rfl rfl ?_
        refine WL_take rfl ?_
        refine s_move rfl rfl ?_
        refine D_qn ?_
        refine D_q rfl rfl ?_
        refine WL_take rfl ?_
        refine s_move rfl rfl ?_
        refine D_qn ?_
        refine D_q rfl rfl ?_
        refine WL_take rfl ?_
        (refine s_indexAddrO El22 rfl rfl rfl hAz ?hx ?_; case hx => (constructor <;> first | omega | (simp only; omega)))
        refine D_qn ?_
        refine D_q rfl rfl ?_
        refine WL_take rfl ?_
        refine s_load Try.isAgg3 rfl rfl ((hs.oldcell (a := ⟨bz, oz + nx, none⟩) hBz (by simp)).trans hcz) ?_
        refine D_qn ?_
        refine D_q rfl rfl ?_
        refine WL_take rfl ?_
        refine s_move rfl rfl ?_
        refine D_qn ?_
        refine D_e rfl ?_
        refine WL_take rfl ?_
        refine s_call Try.call26 rfl rfl (around_ok zs[nx] 36 w (by omega) hzq) ?_
        rintro r w ⟨rfl, rfl⟩
        rw [hxq]
        refine D_en ?re ?_
        case re =>
          refine Reks_cons rfl rfl rfl rfl ?_ ?_
          · skip
            refine WL_take rfl ?_
            refine s_fieldAddr rfl rfl (FA32_0 _ _) ?_
            exact Rek_end rfl
          refine Reks_cons rfl rfl rfl rfl ?_ ?_
          · skip
            refine WL_take rfl ?_
            first
              | refine s_load Try.isAgg3 rfl rfl (hs.cell (k := 0) rfl rfl) ?_
              | refine s_load Try.isAgg3 rfl rfl (hs.cell (k := 1) rfl rfl) ?_
              | refine s_load Try.isAgg3 rfl rfl (hs.cell (k := 2) rfl rfl) ?_
              | refine s_load Try.isAgg3 rfl rfl (hs.cell (k := 3) rfl rfl) ?_
              | refine s_load Try.isAgg3 rfl rfl (hs.cell (k := 4) rfl rfl) ?_
              | refine s_load Try.isAgg3 rfl rfl (hs.cell (k := 5) rfl rfl) ?_
              | refine s_load Try.isAgg3 rfl rfl ((hs.oldcell (a := ⟨bz, oz + q, none⟩) hBz (by simp)).trans hcz) ?_
            exact Rek_end rfl
          refine Reks_cons rfl rfl rfl rfl ?_ ?_
          · skip
            refine WL_take rfl ?_
            refine s_move rfl rfl ?_
            exact Rek_end rfl
          exact Reks_nil
        refine D_q rfl rfl ?_
        refine WL_take rfl ?_
        first | (refine s_rem' rfl rfl rfl ?hx ?_; case hx => (refine ⟨?_, ?_⟩ <;> omega)) | (refine s_rem rfl rfl rfl ?hx ?_; case hx => omega)
        refine D_qn ?_
        refine D_q rfl rfl ?_
        refine WL_take rfl ?_
        refine s_neq rfl rfl rfl ?_
        refine D_qn ?_
        refine D_q rfl rfl ?_
        refine s_pick_f rfl rfl rfl ?_
        refine D_qn ?_
        refine D_nil ?_
        refine n_then ?_
        refine W_cond_kf rfl ((by rw [hf0]; simp)) ?_
        refine W_skip ?_
        refine n_then ?_
        refine W_region ?_
        refine s_move rfl rfl ?_
        first | (refine s_add' rfl rfl rfl ?hx ?_; case hx => (constructor <;> omega)) | refine s_add rfl rfl rfl ?_
        refine s_assign rfl rfl ?_
        refine WL_nil ?_
        refine n_blk ?_
        refine n_loop ?_
        replace hs := hs.tail.tail
        exact ⟨(nx + 1, _, L5), ⟨rfl, rfl, rfl, rfl, rfl, trivial⟩, ⟨hs, hN5, hM.tail (by omega)⟩, by show q - (nx + 1) < q - nx; omega⟩
      · skip
        simp only [decide_eq_true_eq, decide_eq_false_iff_not] at hc129
        obtain rfl : ms = [] := List.eq_nil_of_length_eq_zero (by omega)
        refine W_exit ?_
        refine x_then ?_
        refine x_then ?_
        refine exit_hit ?_
        refine n_then ?_
        refine W_seq ?_
        refine W_region ?_
        refine s_move rfl rfl ?_
        refine s_callL (M := []) (L1 := LM) (X := []) Try.call14 rfl rfl hs (fun h => take_no p _ [] 0 LM w hN h (by simp)) ?_
        clear hs; rintro v w LM4 ⟨rfl, hN4⟩ - hs
        simp only [List.nil_append] at hs
        refine s_move rfl rfl ?_
        refine s_extract rfl rfl rfl ?_
        refine s_extract rfl rfl rfl ?_
        refine s_alloc rfl AL32 hs ?_; clear hs; intro b20 w hs
        first
          | refine s_storeW Try.sizeOf32 rfl rfl rfl rfl hs (kk := 0) rfl rfl ?_
          | refine s_storeW Try.sizeOf32 rfl rfl rfl rfl hs (kk := 1) rfl rfl ?_
          | refine s_storeW Try.sizeOf32 rfl rfl rfl rfl hs (kk := 2) rfl rfl ?_
          | refine s_storeW Try.sizeOf32 rfl rfl rfl rfl hs (kk := 3) rfl rfl ?_
          | refine s_storeW Try.sizeOf32 rfl rfl rfl rfl hs (kk := 4) rfl rfl ?_
          | refine s_storeW Try.sizeOf32 rfl rfl rfl rfl hs (kk := 5) rfl rfl ?_
          | refine s_storeAB Try.sizeOf32 rfl rfl rfl rfl hs (kk := 0) rfl rfl ?_
          | refine s_storeAB Try.sizeOf32 rfl rfl rfl rfl hs (kk := 1) rfl rfl ?_
          | refine s_storeAB Try.sizeOf32 rfl rfl rfl rfl hs (kk := 2) rfl rfl ?_
          | refine s_storeAB Try.sizeOf32 rfl rfl rfl rfl hs (kk := 3) rfl rfl ?_
          | refine s_storeAB Try.sizeOf32 rfl rfl rfl rfl hs (kk := 4) rfl rfl ?_
          | refine s_storeAB Try.sizeOf32 rfl rfl rfl rfl hs (kk := 5) rfl rfl ?_
        clear hs; intro w hs; try simp only [List.set_cons_zero, List.set_cons_succ, splice, List.take_succ_cons, List.take_zero, List.drop_succ_cons, List.drop_zero, List.nil_append, List.cons_append, List.length_cons, List.length_nil, Nat.reduceAdd, List.append_assoc] at hs
        refine s_assign rfl rfl ?_
        refine WL_nil ?_
        refine n_then ?_
        refine W_seq ?_
        refine W_region ?_
        refine s_move rfl rfl ?_
        refine s_eql rfl rfl rfl ?_
        refine s_move rfl rfl ?_
        refine WL_know (s := 173) (c := true) rfl (rfl) ?_
        refine WL_take rfl ?_
        refine s_move rfl rfl ?_
        refine WL_take rfl ?_
        refine s_call Try.call23 rfl rfl (len_ok p _ _ LM4 w hN4 (hs.lendM (M := [_]))) ?_
        rintro r w ⟨rfl, rfl⟩
        refine WL_take rfl ?_
        refine s_eql rfl rfl rfl ?_
        refine s_pick_t rfl rfl rfl ?_
        refine s_move rfl rfl ?_
        refine WL_know (s := 178) (c := true) rfl (rfl) ?_
        refine WL_take rfl ?_
        refine s_call Try.call24 rfl rfl (lives_ok w) ?_
        rintro r w ⟨hst, rfl⟩
        replace hs := hs.fwd1 hst
        clear hst
        refine s_pick_t rfl rfl rfl ?_
        refine s_assign rfl rfl ?_
        refine WL_nil ?_
        refine n_then ?_
        refine W_ret ?_
        exact end1 rfl rfl ⟨hs.fwd, rfl⟩
end Go.Proofs.Ytgkdbiibbfipjaa
