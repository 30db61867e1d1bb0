/- NetRuns: the walk. -/
import Derived.Test.YtgkdbiibbfipjaaNetQ
set_option linter.unusedVariables false
set_option linter.unusedSimpArgs false
namespace Go.Proofs.Ytgkdbiibbfipjaa
open Go.SL
set_option maxHeartbeats 4000000 in
theorem netRuns_ok (nodes : Int) (v : Value) (xs : List Int) (w0 : World) (hn : -9223372036854775808 ≤ nodes ∧ nodes ≤ 9223372036854775807) (hv : Sl w0 v xs.length (i64s xs)) (hx : ∀ z ∈ xs, -9223372036854775808 ≤ z ∧ z ≤ 9223372036854775807) :
    Ret Try.prog 3 [.int .i64 nodes, v].toArray w0 fun r w' => Fwd [] w0 w' ∧ r = .bool true := by
  refine Ret_start fun w hs => ?_
  refine Ret_of Try.func3 rfl Try.ntmps3 rfl ?_
  refine W_seq ?_
  refine W_region ?_
  refine s_assign rfl rfl ?_
  refine WL_nil ?_
  refine n_then ?_
  refine W_seq ?_
  refine W_region ?_
  refine s_move rfl rfl ?_
  refine s_call Try.call9 rfl rfl (made_ok nodes w hn) ?_
  rintro r w ⟨k, p, LN, hk1, hk2, rfl, hN, hst⟩
  replace hs : St [] w0 w (LN ++ []) := St.back0 hs hst
  clear hst
  refine s_move rfl rfl ?_
  refine s_extract rfl rfl rfl ?_
  refine s_extract rfl rfl rfl ?_
  refine s_assign rfl rfl ?_
  refine s_assign rfl rfl ?_
  refine WL_nil ?_
  refine n_then ?_
  refine W_seq ?_
  refine W_seq ?_
  refine W_region ?_
  refine s_move rfl rfl ?_
  refine s_eql_ptr_nil Try.underlying23 rfl rfl rfl ?_
  refine WL_nil ?_
  refine n_then ?_
  refine W_cond_kf rfl (rfl) ?_
  refine W_skip ?_
  refine n_then ?_
  refine W_seq ?_
  refine W_region ?_
  refine s_move rfl rfl ?_
  refine s_call Try.call10 rfl rfl (rnew_ok k w (by omega)) ?_
  rintro r w ⟨q, LR, rfl, hR, hst⟩
  replace hs : St [] w0 w (LR ++ (LN ++ [])) := St.back0 hs hst
  clear hst
  refine s_assign rfl rfl ?_
  refine WL_nil ?_
  refine n_then ?_
  refine W_seq ?_
  refine W_region ?_
  refine s_move rfl rfl ?_
  refine s_move rfl rfl ?_
  refine s_call Try.call11 rfl rfl (ops_ok v xs k w (hv.fwd0 hs.fwd) hx ⟨hk1, by omega⟩) ?_
  rintro r w ⟨os, Lo, hO, hok, hol, hst⟩
  replace hs := St.back0 hs hst
  clear hst
  obtain ⟨ol, oc, oa, rfl, rfl⟩ := hO.form
  have hI : RInv (Lo ++ oblks os) k p q w0 w 0 := ⟨_, [], [], LN, LR, by simpa [cat] using St.reord [Lo, oblks os, LR, LN, []] [3, 2, 0, 1, 4] [] (by simpa [cat] using hs) rfl, hN, hR, by simp, ⟨rfl, by simp⟩, by intro m hm; simp at hm, by simp⟩
  clear hs hN hR
  refine s_assign rfl rfl ?_
  refine WL_nil ?_
  refine n_then ?_
  refine W_seq ?_
  refine W_seq ?_
  refine W_region ?_
  refine s_assign rfl rfl ?_
  refine WL_nil ?_
  refine n_then ?_
  refine W_block ?_
  refine W_loop (σ := Nat) (fun i => [(5, .pointer (some ⟨p, 0, none⟩)), (7, .pointer (some ⟨q, 0, none⟩)), (8, .slice oa os.length oc), (9, .int .i64 (i : Int))])
    (fun i w => RInv (Lo ++ oblks os) k p q w0 w i ∧ i ≤ os.length) (fun i => os.length - i) 0 ⟨rfl, rfl, rfl, rfl, trivial⟩ ⟨hI, by simp⟩ ?_
  clear hI
  rintro i w ⟨⟨gs, ms, rs, LN, LR, hs, hN, hR, hgk, hP, hmv, hml⟩, hil⟩
  refine W_seq ?_
  refine W_seq ?_
  refine W_region ?_
  refine s_move rfl rfl ?_
  refine s_move rfl rfl ?_
  refine s_len rfl rfl (LN28 _ _ _ _) ?_
  refine s_lss rfl rfl rfl ?_
  refine WL_nil ?_
  refine n_then ?_
  refine W_cond rfl (fun hc31 => ?_) (fun hc31 => ?_)
  · skip
    simp only [decide_eq_true_eq, decide_eq_false_iff_not, beq_iff_eq, beq_eq_false_iff_ne, ne_eq] at hc31
    have hiq : i < os.length := by omega
    have hoi : os[i]? = some os[i] := List.getElem?_eq_getElem hiq
    have hok1 := hok _ (List.mem_of_getElem? hoi)
    have hom := List.mem_of_getElem? hoi
    obtain ⟨g0, cap, sp, hg0, hcap, hLo⟩ := hO.block (by omega)
    cases hg0
    subst hLo
    have cc : ∀ j, j < 6 → (ocells os ++ sp)[0 + i * 6 + j]? = os[i].cells[j]? := fun j hj => by rw [Nat.zero_add, List.getElem?_append_left (by rw [ocells_length]; omega)]; exact ocells_at hj hoi
    generalize os[i] = o at hoi hok1 hom cc
    obtain ⟨kd, oI, f, t, bv, gv, obs, ogs, oLb, oLg⟩ := o
    obtain ⟨hob, hog, hob2, hog2⟩ := hok1
    simp only at hob hog hob2 hog2
    obtain ⟨bl, bc, ba, rfl, rfl⟩ := hob.form
    obtain ⟨gl, gc, ga, rfl, rfl⟩ := hog.form
    have hLbY : ∀ x ∈ oLb, x ∈ [(g0, Blk 34 (ocells os ++ sp))] ++ oblks os := fun x hx => List.mem_append_right _ (oblks_of hom x (List.mem_append_left _ hx))
    have hLgY : ∀ x ∈ oLg, x ∈ [(g0, Blk 34 (ocells os ++ sp))] ++ oblks os := fun x hx => List.mem_append_right _ (oblks_of hom x (List.mem_append_right _ hx))
    have hs4 : St [] w0 w [_] := St.reord [LN, LR, [_], oblks os] [2] [0, 1, 3] hs rfl
    refine W_skip ?_
    refine n_then ?_
    refine W_seq ?_
    refine W_block ?_
    refine W_seq ?_
    refine W_region ?_
    refine s_move rfl rfl ?_
    refine s_move rfl rfl ?_
    (refine s_indexAddr El28 rfl rfl rfl ?hx ?_; case hx => (constructor <;> first | omega | (simp; omega)))
    refine s_load_6 Try.isAgg34 Try.sizeOf34 rfl rfl (hs4.cell (k := 0) (fz := (0, 0)) rfl (cc 0 (by omega))) (hs4.cell (k := 0) (fz := (0, 0)) rfl (cc 1 (by omega))) (hs4.cell (k := 0) (fz := (0, 0)) rfl (cc 2 (by omega))) (hs4.cell (k := 0) (fz := (0, 0)) rfl (cc 3 (by omega))) (hs4.cell (k := 0) (fz := (0, 0)) rfl (cc 4 (by omega))) (hs4.cell (k := 0) (fz := (0, 0)) rfl (cc 5 (by omega))) ?_
    refine s_alloc rfl AL34 hs ?_; clear hs; intro b10 w hs
    first
      | refine s_storeW Try.sizeOf34 rfl rfl rfl rfl hs (kk := 0) rfl rfl ?_
      | refine s_storeW Try.sizeOf34 rfl rfl rfl rfl hs (kk := 1) rfl rfl ?_
      | refine s_storeW Try.sizeOf34 rfl rfl rfl rfl hs (kk := 2) rfl rfl ?_
      | refine s_storeW Try.sizeOf34 rfl rfl rfl rfl hs (kk := 3) rfl rfl ?_
      | refine s_storeAB Try.sizeOf34 rfl rfl rfl rfl hs (kk := 0) rfl rfl ?_
      | refine s_storeAB Try.sizeOf34 rfl rfl rfl rfl hs (kk := 1) rfl rfl ?_
      | refine s_storeAB Try.sizeOf34 rfl rfl rfl rfl hs (kk := 2) rfl rfl ?_
      | refine s_storeAB Try.sizeOf34 rfl rfl rfl rfl hs (kk := 3) rfl rfl ?_
    clear hs; intro w hs; try simp only [List.set_cons_zero, List.set_cons_succ, splice, List.take_succ_cons, List.take_zero, List.drop_succ_cons, List.drop_zero, List.nil_append, List.cons_append, List.length_cons, List.length_nil, Nat.reduceAdd, List.append_assoc] at hs
    refine WL_nil ?_
    refine n_then ?_
    refine W_seq ?_
    refine W_region ?_
    refine s_assign rfl rfl ?_
    refine WL_nil ?_
    refine n_then ?_
    refine W_cut (σ := Unit) (fun _ => [(5, .pointer (some ⟨p, 0, none⟩)), (7, .pointer (some ⟨q, 0, none⟩)), (8, .slice (some ⟨g0, 0, none⟩) os.length oc), (9, .int .i64 (i : Int)), (11, .bool true)])
      (fun _ w => RInv ([(g0, Blk 34 (ocells os ++ sp))] ++ oblks os) k p q w0 w (i + 1)) ?_ ?_
    · skip
      refine W_seq ?_
      refine W_region ?_
      refine s_fieldAddr rfl rfl (FA34_0 _ _) ?_
      first
        | refine s_load Try.isAgg3 rfl rfl (hs.cell (k := 0) rfl rfl) ?_
        | refine s_load Try.isAgg3 rfl rfl (hs.cell (k := 1) rfl rfl) ?_
        | refine s_load Try.isAgg3 rfl rfl (hs.cell (k := 2) rfl rfl) ?_
        | refine s_load Try.isAgg3 rfl rfl (hs.cell (k := 3) rfl rfl) ?_
        | refine s_load Try.isAgg3 rfl rfl ((St.reord [LN, [_], Lg9, Ll9, [_], oblks os] [1] [0, 2, 3, 4, 5] (by simpa [cat] using hs) rfl).cell (k := 0) rfl rfl) ?_
      refine WL_nil ?_
      refine n_then ?_
      refine W_block ?_
      refine W_seq ?_
      refine W_region ?_
      refine s_eql rfl rfl rfl ?_
      refine s_assign rfl rfl ?_
      refine WL_nil ?_
      refine n_then ?_
      refine W_cond rfl (fun hc49 => ?_) (fun hc49 => ?_)
      · skip
        simp only [decide_eq_true_eq, decide_eq_false_iff_not, beq_iff_eq, beq_eq_false_iff_ne, ne_eq] at hc49
        refine W_draw [(0, true, []), (1, true, []), (2, true, []), (4, true, []), (5, true, []), (6, true, []), (3, false, [4, 5, 6]), (7, false, []), (8, true, []), (9, true, [])] MX (by kernel_rfl) ?_
        intro w1 hw1 hw2 hw3 hw4; replace hs := hs.redrawn hw1 hw2 hw3 hw4; clear hw1 hw2 hw3 hw4
        obtain ⟨w, rfl⟩ : ∃ w : World, w = w1 := ⟨_, rfl⟩
        refine D_q rfl rfl ?_
        refine s_move rfl rfl ?_
        refine D_qn ?_
        refine D_q rfl rfl ?_
        refine s_fieldAddr rfl rfl (FA34_2 _ _) ?_
        refine D_qn ?_
        refine D_q rfl rfl ?_
        first
          | refine s_loadW Try.isAgg32 Try.sizeOf32 rfl rfl hs (kk := 0) rfl rfl ?_
          | refine s_loadW Try.isAgg32 Try.sizeOf32 rfl rfl hs (kk := 1) rfl rfl ?_
          | refine s_loadW Try.isAgg32 Try.sizeOf32 rfl rfl hs (kk := 2) rfl rfl ?_
          | refine s_loadW Try.isAgg32 Try.sizeOf32 rfl rfl hs (kk := 3) rfl rfl ?_
          | refine s_load_3 Try.isAgg32 Try.sizeOf32 rfl rfl (by first | exact hs.cell (k := 0) rfl rfl | exact hs.cell (k := 1) rfl rfl | exact hs.cell (k := 2) rfl rfl | exact hs.cell (k := 3) rfl rfl) (by first | exact hs.cell (k := 0) rfl rfl | exact hs.cell (k := 1) rfl rfl | exact hs.cell (k := 2) rfl rfl | exact hs.cell (k := 3) rfl rfl) (by first | exact hs.cell (k := 0) rfl rfl | exact hs.cell (k := 1) rfl rfl | exact hs.cell (k := 2) rfl rfl | exact hs.cell (k := 3) rfl rfl) ?_
        refine D_qn ?_
        refine D_q rfl rfl ?_
        refine s_move rfl rfl ?_
        refine D_qn ?_
        refine D_q rfl rfl ?_
        refine s_fieldAddr rfl rfl (FA34_2 _ _) ?_
        refine D_qn ?_
        refine D_q rfl rfl ?_
        first
          | refine s_loadW Try.isAgg32 Try.sizeOf32 rfl rfl hs (kk := 0) rfl rfl ?_
          | refine s_loadW Try.isAgg32 Try.sizeOf32 rfl rfl hs (kk := 1) rfl rfl ?_
          | refine s_loadW Try.isAgg32 Try.sizeOf32 rfl rfl hs (kk := 2) rfl rfl ?_
          | refine s_loadW Try.isAgg32 Try.sizeOf32 rfl rfl hs (kk := 3) rfl rfl ?_
          | refine s_load_3 Try.isAgg32 Try.sizeOf32 rfl rfl (by first | exact hs.cell (k := 0) rfl rfl | exact hs.cell (k := 1) rfl rfl | exact hs.cell (k := 2) rfl rfl | exact hs.cell (k := 3) rfl rfl) (by first | exact hs.cell (k := 0) rfl rfl | exact hs.cell (k := 1) rfl rfl | exact hs.cell (k := 2) rfl rfl | exact hs.cell (k := 3) rfl rfl) (by first | exact hs.cell (k := 0) rfl rfl | exact hs.cell (k := 1) rfl rfl | exact hs.cell (k := 2) rfl rfl | exact hs.cell (k := 3) rfl rfl) ?_
        refine D_qn ?_
        refine D_e rfl ?_
        have hslb : Sl w (.slice ba obs.length bc) obs.length (u8s obs) := own_slIn hob (fun x hx => hs.own x (List.mem_cons_of_mem _ (List.mem_append_right _ (List.mem_append_right _ (hLbY x hx)))))
        refine s_callL (M := [_]) (L1 := LN) Try.call12 rfl rfl hs (fun h => send_ok p gs ms f t _ obs LN w hN h hslb (by omega) (fun a m c he _ => St.apart hs.tail (by obtain ⟨o9, ho9⟩ := mem_ids.1 (own_in hob he); exact mem_ids_of (List.mem_append_right _ (hLbY _ ho9))))) ?_
        clear hs; rintro v w LN2 ⟨rfl, ms2, hN2, hne2, heq2⟩ - hs
        simp only [List.cons_append, List.nil_append] at hs
        refine D_en ?re ?_
        case re =>
          refine Reks_cons rfl rfl rfl rfl ?_ ?_
          · skip
            refine s_move rfl rfl ?_
            exact Rek_end rfl
          refine Reks_cons rfl rfl rfl rfl ?_ ?_
          · skip
            refine s_fieldAddr rfl rfl (FA34_2 _ _) ?_
            exact Rek_end rfl
          refine Reks_cons rfl rfl rfl rfl ?_ ?_
          · skip
            first
              | refine s_loadW Try.isAgg32 Try.sizeOf32 rfl rfl hs (kk := 0) rfl rfl ?_
              | refine s_loadW Try.isAgg32 Try.sizeOf32 rfl rfl hs (kk := 1) rfl rfl ?_
              | refine s_loadW Try.isAgg32 Try.sizeOf32 rfl rfl hs (kk := 2) rfl rfl ?_
              | refine s_loadW Try.isAgg32 Try.sizeOf32 rfl rfl hs (kk := 3) rfl rfl ?_
              | refine s_load_3 Try.isAgg32 Try.sizeOf32 rfl rfl (by first | exact hs.cell (k := 0) rfl rfl | exact hs.cell (k := 1) rfl rfl | exact hs.cell (k := 2) rfl rfl | exact hs.cell (k := 3) rfl rfl) (by first | exact hs.cell (k := 0) rfl rfl | exact hs.cell (k := 1) rfl rfl | exact hs.cell (k := 2) rfl rfl | exact hs.cell (k := 3) rfl rfl) (by first | exact hs.cell (k := 0) rfl rfl | exact hs.cell (k := 1) rfl rfl | exact hs.cell (k := 2) rfl rfl | exact hs.cell (k := 3) rfl rfl) ?_
            exact Rek_end rfl
          exact Reks_nil
        refine D_e rfl ?_
        refine s_callL (M := _ :: LN2) (L1 := LR) Try.call13 rfl rfl hs (fun h => rsend_ok q gs rs ⟨f, t, ba, obs.length, bc⟩ LR w hR h (by have := hP.1; omega)) ?_
        clear hs; rintro v w LR2 ⟨rfl, hR2⟩ - hs
        simp only [List.cons_append, List.nil_append] at hs hR2 ⊢
        refine D_en ?re ?_
        case re =>
          exact Reks_nil
        refine D_q rfl rfl ?_
        refine s_eql rfl rfl rfl ?_
        have hEC : sendE gs ms f t obs = sendC gs.length rs.length f t obs.length := by rw [sendE_C, hP.1]
        rw [hEC, beq_self_eq_true]
        have hfin : (RInv ([(g0, Blk 34 (ocells os ++ sp))] ++ oblks os) k p q w0 w (i + 1)) := by
          by_cases hE : sendC gs.length rs.length f t obs.length = 0
          · obtain ⟨b9, rfl⟩ := heq2 (hEC.trans hE)
            rw [if_pos hE] at hR2
            have hval : ¬ (f < 0 ∨ (gs.length : Int) ≤ f ∨ t < 0 ∨ (gs.length : Int) ≤ t ∨ 65536 < (obs.length : Int)) := by
              intro h9; rw [sendC, if_pos h9] at hE; omega
            exact ⟨gs, _, _, LN2, LR2, hs.tail, hN2, hR2, hgk, hP.snoc ⟨rfl, rfl, rfl, fun w' hw' => own_slIn hob (fun x hx => hw' x (hLbY x hx))⟩, hmv.snoc (by simp only; omega), by simp; omega⟩
          · rw [if_neg hE] at hR2
            obtain rfl := hne2 (fun h9 => hE (hEC.symm.trans h9))
            exact ⟨gs, _, rs, LN2, LR2, hs.tail, hN2, hR2, hgk, hP, hmv, by omega⟩
        refine D_qn ?_
        refine D_q rfl rfl ?_
        refine s_assign rfl rfl ?_
        refine D_qn ?_
        refine D_nil ?_
        refine n_blk ?_
        refine n_loop ?_
        exact ⟨(), ⟨rfl, rfl, rfl, rfl, rfl, trivial⟩, hfin⟩
      · skip
        simp only [decide_eq_true_eq, decide_eq_false_iff_not, beq_iff_eq, beq_eq_false_iff_ne, ne_eq] at hc49
        refine W_seq ?_
        refine W_region ?_
        refine s_eql rfl rfl rfl ?_
        refine s_assign rfl rfl ?_
        refine WL_nil ?_
        refine n_then ?_
        refine W_cond rfl (fun hc60 => ?_) (fun hc60 => ?_)
        · skip
          simp only [decide_eq_true_eq, decide_eq_false_iff_not, beq_iff_eq, beq_eq_false_iff_ne, ne_eq] at hc60
          refine W_seq ?_
          refine W_region ?_
          refine s_move rfl rfl ?_
          refine s_fieldAddr rfl rfl (FA34_1 _ _) ?_
          first
            | refine s_load Try.isAgg3 rfl rfl (hs.cell (k := 0) rfl rfl) ?_
            | refine s_load Try.isAgg3 rfl rfl (hs.cell (k := 1) rfl rfl) ?_
            | refine s_load Try.isAgg3 rfl rfl (hs.cell (k := 2) rfl rfl) ?_
            | refine s_load Try.isAgg3 rfl rfl (hs.cell (k := 3) rfl rfl) ?_
            | refine s_load Try.isAgg3 rfl rfl ((St.reord [LN, [_], Lg9, Ll9, [_], oblks os] [1] [0, 2, 3, 4, 5] (by simpa [cat] using hs) rfl).cell (k := 0) rfl rfl) ?_
          refine s_callL (M := [_]) (L1 := LN) Try.call14 rfl rfl hs (fun h => take_all p gs ms oI LN w hN h (by omega) (by rw [hgk]; exact hmv)) ?_
          clear hs; intro v w LN2 h _ hs
          obtain ⟨hin, rfl, hN2⟩ | ⟨m, hin, hm, hg, rfl, hN2⟩ | ⟨m, hin, hm, hg, rfl, LN3, rfl, hN2⟩ := h
          · skip
            simp only [List.cons_append, List.nil_append, Msg.cells, Msg.blk] at hs ⊢
            refine s_move rfl rfl ?_
            refine s_extract rfl rfl rfl ?_
            refine s_extract rfl rfl rfl ?_
            refine s_alloc rfl AL32 hs ?_; clear hs; intro b12 w hs
            first
              | refine s_storeW Try.sizeOf32 rfl rfl rfl rfl hs (kk := 0) rfl rfl ?_
              | refine s_storeW Try.sizeOf32 rfl rfl rfl rfl hs (kk := 1) rfl rfl ?_
              | refine s_storeW Try.sizeOf32 rfl rfl rfl rfl hs (kk := 2) rfl rfl ?_
              | refine s_storeW Try.sizeOf32 rfl rfl rfl rfl hs (kk := 3) rfl rfl ?_
              | refine s_storeAB Try.sizeOf32 rfl rfl rfl rfl hs (kk := 0) rfl rfl ?_
              | refine s_storeAB Try.sizeOf32 rfl rfl rfl rfl hs (kk := 1) rfl rfl ?_
              | refine s_storeAB Try.sizeOf32 rfl rfl rfl rfl hs (kk := 2) rfl rfl ?_
              | refine s_storeAB Try.sizeOf32 rfl rfl rfl rfl hs (kk := 3) rfl rfl ?_
            clear hs; intro w hs; try simp only [List.set_cons_zero, List.set_cons_succ, splice, List.take_succ_cons, List.take_zero, List.drop_succ_cons, List.drop_zero, List.nil_append, List.cons_append, List.length_cons, List.length_nil, Nat.reduceAdd, List.append_assoc] at hs
            refine s_assign rfl rfl ?_
            refine WL_nil ?_
            refine n_then ?_
            refine W_seq ?_
            refine W_region ?_
            refine s_move rfl rfl ?_
            refine s_fieldAddr rfl rfl (FA34_1 _ _) ?_
            first
              | refine s_load Try.isAgg3 rfl rfl (hs.cell (k := 0) rfl rfl) ?_
              | refine s_load Try.isAgg3 rfl rfl (hs.cell (k := 1) rfl rfl) ?_
              | refine s_load Try.isAgg3 rfl rfl (hs.cell (k := 2) rfl rfl) ?_
              | refine s_load Try.isAgg3 rfl rfl (hs.cell (k := 3) rfl rfl) ?_
              | refine s_load Try.isAgg3 rfl rfl ((St.reord [LN, [_], Lg9, Ll9, [_], oblks os] [1] [0, 2, 3, 4, 5] (by simpa [cat] using hs) rfl).cell (k := 0) rfl rfl) ?_
            refine s_callL (M := _ :: _ :: LN2) (L1 := LR) Try.call15 rfl rfl hs (fun h => rtake_no q gs rs oI LR w hR h (by rw [hP.1]; exact hin)) ?_
            clear hs; rintro v w LR2 ⟨rfl, hR2⟩ - hs
            simp only [List.cons_append, List.nil_append] at hs
            refine s_move rfl rfl ?_
            refine s_extract rfl rfl rfl ?_
            refine s_extract rfl rfl rfl ?_
            refine s_alloc rfl AL32 hs ?_; clear hs; intro b14 w hs
            first
              | refine s_storeW Try.sizeOf32 rfl rfl rfl rfl hs (kk := 0) rfl rfl ?_
              | refine s_storeW Try.sizeOf32 rfl rfl rfl rfl hs (kk := 1) rfl rfl ?_
              | refine s_storeW Try.sizeOf32 rfl rfl rfl rfl hs (kk := 2) rfl rfl ?_
              | refine s_storeW Try.sizeOf32 rfl rfl rfl rfl hs (kk := 3) rfl rfl ?_
              | refine s_storeAB Try.sizeOf32 rfl rfl rfl rfl hs (kk := 0) rfl rfl ?_
              | refine s_storeAB Try.sizeOf32 rfl rfl rfl rfl hs (kk := 1) rfl rfl ?_
              | refine s_storeAB Try.sizeOf32 rfl rfl rfl rfl hs (kk := 2) rfl rfl ?_
              | refine s_storeAB Try.sizeOf32 rfl rfl rfl rfl hs (kk := 3) rfl rfl ?_
            clear hs; intro w hs; try simp only [List.set_cons_zero, List.set_cons_succ, splice, List.take_succ_cons, List.take_zero, List.drop_succ_cons, List.drop_zero, List.nil_append, List.cons_append, List.length_cons, List.length_nil, Nat.reduceAdd, List.append_assoc] at hs
            refine s_assign rfl rfl ?_
            refine WL_nil ?_
            refine n_then ?_
            refine W_region ?_
            refine s_move rfl rfl ?_
            refine s_move rfl rfl ?_
            refine s_eql rfl rfl rfl ?_
            refine s_move rfl rfl ?_
            refine WL_know (s := 79) (c := true) rfl (rfl) ?_
            refine WL_take rfl ?_
            first
              | refine s_loadW Try.isAgg32 Try.sizeOf32 rfl rfl hs (kk := 0) rfl rfl ?_
              | refine s_loadW Try.isAgg32 Try.sizeOf32 rfl rfl hs (kk := 1) rfl rfl ?_
              | refine s_loadW Try.isAgg32 Try.sizeOf32 rfl rfl hs (kk := 2) rfl rfl ?_
              | refine s_loadW Try.isAgg32 Try.sizeOf32 rfl rfl hs (kk := 3) rfl rfl ?_
              | refine s_load_3 Try.isAgg32 Try.sizeOf32 rfl rfl (by first | exact hs.cell (k := 0) rfl rfl | exact hs.cell (k := 1) rfl rfl | exact hs.cell (k := 2) rfl rfl | exact hs.cell (k := 3) rfl rfl) (by first | exact hs.cell (k := 0) rfl rfl | exact hs.cell (k := 1) rfl rfl | exact hs.cell (k := 2) rfl rfl | exact hs.cell (k := 3) rfl rfl) (by first | exact hs.cell (k := 0) rfl rfl | exact hs.cell (k := 1) rfl rfl | exact hs.cell (k := 2) rfl rfl | exact hs.cell (k := 3) rfl rfl) ?_
            refine WL_take rfl ?_
            first
              | refine s_loadW Try.isAgg32 Try.sizeOf32 rfl rfl hs (kk := 0) rfl rfl ?_
              | refine s_loadW Try.isAgg32 Try.sizeOf32 rfl rfl hs (kk := 1) rfl rfl ?_
              | refine s_loadW Try.isAgg32 Try.sizeOf32 rfl rfl hs (kk := 2) rfl rfl ?_
              | refine s_loadW Try.isAgg32 Try.sizeOf32 rfl rfl hs (kk := 3) rfl rfl ?_
              | refine s_load_3 Try.isAgg32 Try.sizeOf32 rfl rfl (by first | exact hs.cell (k := 0) rfl rfl | exact hs.cell (k := 1) rfl rfl | exact hs.cell (k := 2) rfl rfl | exact hs.cell (k := 3) rfl rfl) (by first | exact hs.cell (k := 0) rfl rfl | exact hs.cell (k := 1) rfl rfl | exact hs.cell (k := 2) rfl rfl | exact hs.cell (k := 3) rfl rfl) (by first | exact hs.cell (k := 0) rfl rfl | exact hs.cell (k := 1) rfl rfl | exact hs.cell (k := 2) rfl rfl | exact hs.cell (k := 3) rfl rfl) ?_
            refine WL_take rfl ?_
            refine s_call Try.call16 rfl rfl (same_ok 0 0 0 0 _ _ [] [] w ⟨none, 0, rfl, Nat.le_refl _, .inl rfl⟩ ⟨none, 0, rfl, Nat.le_refl _, .inl rfl⟩ (by simp)) ?_
            rintro r w ⟨hst, rfl⟩
            replace hs := hs.fwd1 hst
            have hfin : (RInv ([(g0, Blk 34 (ocells os ++ sp))] ++ oblks os) k p q w0 w (i + 1)) := ⟨gs, ms, rs, LN2, LR2, hs.tail.tail.tail, hN2, hR2, hgk, hP, hmv, by omega⟩
            refine s_pick_t rfl rfl rfl ?_
            refine s_assign rfl rfl ?_
            refine WL_nil ?_
            refine n_blk ?_
            refine n_loop ?_
            exact ⟨(), ⟨rfl, rfl, rfl, rfl, rfl, trivial⟩, hfin⟩
          · skip
            simp only [List.cons_append, List.nil_append, Msg.cells, Msg.blk] at hs ⊢
            refine s_move rfl rfl ?_
            refine s_extract rfl rfl rfl ?_
            refine s_extract rfl rfl rfl ?_
            refine s_alloc rfl AL32 hs ?_; clear hs; intro b12 w hs
            first
              | refine s_storeW Try.sizeOf32 rfl rfl rfl rfl hs (kk := 0) rfl rfl ?_
              | refine s_storeW Try.sizeOf32 rfl rfl rfl rfl hs (kk := 1) rfl rfl ?_
              | refine s_storeW Try.sizeOf32 rfl rfl rfl rfl hs (kk := 2) rfl rfl ?_
              | refine s_storeW Try.sizeOf32 rfl rfl rfl rfl hs (kk := 3) rfl rfl ?_
              | refine s_storeAB Try.sizeOf32 rfl rfl rfl rfl hs (kk := 0) rfl rfl ?_
              | refine s_storeAB Try.sizeOf32 rfl rfl rfl rfl hs (kk := 1) rfl rfl ?_
              | refine s_storeAB Try.sizeOf32 rfl rfl rfl rfl hs (kk := 2) rfl rfl ?_
              | refine s_storeAB Try.sizeOf32 rfl rfl rfl rfl hs (kk := 3) rfl rfl ?_
            clear hs; intro w hs; try simp only [List.set_cons_zero, List.set_cons_succ, splice, List.take_succ_cons, List.take_zero, List.drop_succ_cons, List.drop_zero, List.nil_append, List.cons_append, List.length_cons, List.length_nil, Nat.reduceAdd, List.append_assoc] at hs
            refine s_assign rfl rfl ?_
            refine WL_nil ?_
            refine n_then ?_
            refine W_seq ?_
            refine W_region ?_
            refine s_move rfl rfl ?_
            refine s_fieldAddr rfl rfl (FA34_1 _ _) ?_
            first
              | refine s_load Try.isAgg3 rfl rfl (hs.cell (k := 0) rfl rfl) ?_
              | refine s_load Try.isAgg3 rfl rfl (hs.cell (k := 1) rfl rfl) ?_
              | refine s_load Try.isAgg3 rfl rfl (hs.cell (k := 2) rfl rfl) ?_
              | refine s_load Try.isAgg3 rfl rfl (hs.cell (k := 3) rfl rfl) ?_
              | refine s_load Try.isAgg3 rfl rfl ((St.reord [LN, [_], Lg9, Ll9, [_], oblks os] [1] [0, 2, 3, 4, 5] (by simpa [cat] using hs) rfl).cell (k := 0) rfl rfl) ?_
            obtain ⟨r, hr⟩ : ∃ r, rs[oI.toNat]? = some r := ⟨_, List.getElem?_eq_getElem (by have := hP.1; omega)⟩
            have hRI := hP.2 _ _ _ hm hr
            have hmm := hmv _ (List.mem_of_getElem? hm)
            refine s_callL (M := _ :: _ :: LN2) (L1 := LR) Try.call15 rfl rfl hs (fun h => rtake_yes q gs rs oI r LR w hR h (by rw [hP.1]; exact hin) hr (by have := hP.1; omega) (by rw [hRI.1, hRI.2.1]; omega)) ?_
            clear hs; intro v w LR2 h _ hs
            rw [hRI.1, hRI.2.1] at h
            obtain ⟨_, rfl, hR2⟩ | ⟨h9, _⟩ := h
            case inr => exact absurd h9 hg
            simp only [List.cons_append, List.nil_append] at hs
            refine s_move rfl rfl ?_
            refine s_extract rfl rfl rfl ?_
            refine s_extract rfl rfl rfl ?_
            refine s_alloc rfl AL32 hs ?_; clear hs; intro b14 w hs
            first
              | refine s_storeW Try.sizeOf32 rfl rfl rfl rfl hs (kk := 0) rfl rfl ?_
              | refine s_storeW Try.sizeOf32 rfl rfl rfl rfl hs (kk := 1) rfl rfl ?_
              | refine s_storeW Try.sizeOf32 rfl rfl rfl rfl hs (kk := 2) rfl rfl ?_
              | refine s_storeW Try.sizeOf32 rfl rfl rfl rfl hs (kk := 3) rfl rfl ?_
              | refine s_storeAB Try.sizeOf32 rfl rfl rfl rfl hs (kk := 0) rfl rfl ?_
              | refine s_storeAB Try.sizeOf32 rfl rfl rfl rfl hs (kk := 1) rfl rfl ?_
              | refine s_storeAB Try.sizeOf32 rfl rfl rfl rfl hs (kk := 2) rfl rfl ?_
              | refine s_storeAB Try.sizeOf32 rfl rfl rfl rfl hs (kk := 3) rfl rfl ?_
            clear hs; intro w hs; try simp only [List.set_cons_zero, List.set_cons_succ, splice, List.take_succ_cons, List.take_zero, List.drop_succ_cons, List.drop_zero, List.nil_append, List.cons_append, List.length_cons, List.length_nil, Nat.reduceAdd, List.append_assoc] at hs
            refine s_assign rfl rfl ?_
            refine WL_nil ?_
            refine n_then ?_
            refine W_region ?_
            refine s_move rfl rfl ?_
            refine s_move rfl rfl ?_
            refine s_eql rfl rfl rfl ?_
            refine s_move rfl rfl ?_
            refine WL_know (s := 79) (c := true) rfl (rfl) ?_
            refine WL_take rfl ?_
            first
              | refine s_loadW Try.isAgg32 Try.sizeOf32 rfl rfl hs (kk := 0) rfl rfl ?_
              | refine s_loadW Try.isAgg32 Try.sizeOf32 rfl rfl hs (kk := 1) rfl rfl ?_
              | refine s_loadW Try.isAgg32 Try.sizeOf32 rfl rfl hs (kk := 2) rfl rfl ?_
              | refine s_loadW Try.isAgg32 Try.sizeOf32 rfl rfl hs (kk := 3) rfl rfl ?_
              | refine s_load_3 Try.isAgg32 Try.sizeOf32 rfl rfl (by first | exact hs.cell (k := 0) rfl rfl | exact hs.cell (k := 1) rfl rfl | exact hs.cell (k := 2) rfl rfl | exact hs.cell (k := 3) rfl rfl) (by first | exact hs.cell (k := 0) rfl rfl | exact hs.cell (k := 1) rfl rfl | exact hs.cell (k := 2) rfl rfl | exact hs.cell (k := 3) rfl rfl) (by first | exact hs.cell (k := 0) rfl rfl | exact hs.cell (k := 1) rfl rfl | exact hs.cell (k := 2) rfl rfl | exact hs.cell (k := 3) rfl rfl) ?_
            refine WL_take rfl ?_
            first
              | refine s_loadW Try.isAgg32 Try.sizeOf32 rfl rfl hs (kk := 0) rfl rfl ?_
              | refine s_loadW Try.isAgg32 Try.sizeOf32 rfl rfl hs (kk := 1) rfl rfl ?_
              | refine s_loadW Try.isAgg32 Try.sizeOf32 rfl rfl hs (kk := 2) rfl rfl ?_
              | refine s_loadW Try.isAgg32 Try.sizeOf32 rfl rfl hs (kk := 3) rfl rfl ?_
              | refine s_load_3 Try.isAgg32 Try.sizeOf32 rfl rfl (by first | exact hs.cell (k := 0) rfl rfl | exact hs.cell (k := 1) rfl rfl | exact hs.cell (k := 2) rfl rfl | exact hs.cell (k := 3) rfl rfl) (by first | exact hs.cell (k := 0) rfl rfl | exact hs.cell (k := 1) rfl rfl | exact hs.cell (k := 2) rfl rfl | exact hs.cell (k := 3) rfl rfl) (by first | exact hs.cell (k := 0) rfl rfl | exact hs.cell (k := 1) rfl rfl | exact hs.cell (k := 2) rfl rfl | exact hs.cell (k := 3) rfl rfl) ?_
            refine WL_take rfl ?_
            refine s_call Try.call16 rfl rfl (same_ok 0 0 0 0 _ _ [] [] w ⟨none, 0, rfl, Nat.le_refl _, .inl rfl⟩ ⟨none, 0, rfl, Nat.le_refl _, .inl rfl⟩ (by simp)) ?_
            rintro r w ⟨hst, rfl⟩
            replace hs := hs.fwd1 hst
            have hfin : (RInv ([(g0, Blk 34 (ocells os ++ sp))] ++ oblks os) k p q w0 w (i + 1)) := ⟨gs, ms, rs, LN2, LR2, hs.tail.tail.tail, hN2, hR2, hgk, hP, hmv, by omega⟩
            refine s_pick_t rfl rfl rfl ?_
            refine s_assign rfl rfl ?_
            refine WL_nil ?_
            refine n_blk ?_
            refine n_loop ?_
            exact ⟨(), ⟨rfl, rfl, rfl, rfl, rfl, trivial⟩, hfin⟩
          · skip
            simp only [List.cons_append, List.nil_append, Msg.cells, Msg.blk] at hs ⊢
            refine s_move rfl rfl ?_
            refine s_extract rfl rfl rfl ?_
            refine s_extract rfl rfl rfl ?_
            refine s_alloc rfl AL32 hs ?_; clear hs; intro b12 w hs
            first
              | refine s_storeW Try.sizeOf32 rfl rfl rfl rfl hs (kk := 0) rfl rfl ?_
              | refine s_storeW Try.sizeOf32 rfl rfl rfl rfl hs (kk := 1) rfl rfl ?_
              | refine s_storeW Try.sizeOf32 rfl rfl rfl rfl hs (kk := 2) rfl rfl ?_
              | refine s_storeW Try.sizeOf32 rfl rfl rfl rfl hs (kk := 3) rfl rfl ?_
              | refine s_storeAB Try.sizeOf32 rfl rfl rfl rfl hs (kk := 0) rfl rfl ?_
              | refine s_storeAB Try.sizeOf32 rfl rfl rfl rfl hs (kk := 1) rfl rfl ?_
              | refine s_storeAB Try.sizeOf32 rfl rfl rfl rfl hs (kk := 2) rfl rfl ?_
              | refine s_storeAB Try.sizeOf32 rfl rfl rfl rfl hs (kk := 3) rfl rfl ?_
            clear hs; intro w hs; try simp only [List.set_cons_zero, List.set_cons_succ, splice, List.take_succ_cons, List.take_zero, List.drop_succ_cons, List.drop_zero, List.nil_append, List.cons_append, List.length_cons, List.length_nil, Nat.reduceAdd, List.append_assoc] at hs
            refine s_assign rfl rfl ?_
            refine WL_nil ?_
            refine n_then ?_
            refine W_seq ?_
            refine W_region ?_
            refine s_move rfl rfl ?_
            refine s_fieldAddr rfl rfl (FA34_1 _ _) ?_
            first
              | refine s_load Try.isAgg3 rfl rfl (hs.cell (k := 0) rfl rfl) ?_
              | refine s_load Try.isAgg3 rfl rfl (hs.cell (k := 1) rfl rfl) ?_
              | refine s_load Try.isAgg3 rfl rfl (hs.cell (k := 2) rfl rfl) ?_
              | refine s_load Try.isAgg3 rfl rfl (hs.cell (k := 3) rfl rfl) ?_
              | refine s_load Try.isAgg3 rfl rfl ((St.reord [LN, [_], Lg9, Ll9, [_], oblks os] [1] [0, 2, 3, 4, 5] (by simpa [cat] using hs) rfl).cell (k := 0) rfl rfl) ?_
            obtain ⟨r, hr⟩ : ∃ r, rs[oI.toNat]? = some r := ⟨_, List.getElem?_eq_getElem (by have := hP.1; omega)⟩
            have hRI := hP.2 _ _ _ hm hr
            have hmm := hmv _ (List.mem_of_getElem? hm)
            refine s_callL (M := _ :: _ :: _ :: LN3) (L1 := LR) Try.call15 rfl rfl hs (fun h => rtake_yes q gs rs oI r LR w hR h (by rw [hP.1]; exact hin) hr (by have := hP.1; omega) (by rw [hRI.1, hRI.2.1]; omega)) ?_
            clear hs; intro v w LR2 h _ hs
            rw [hRI.1, hRI.2.1] at h
            obtain ⟨h9, _⟩ | ⟨_, rfl, hR2⟩ := h
            case inl => exact absurd hg h9
            simp only [List.cons_append, List.nil_append, RMsg.cells] at hs ⊢
            refine s_move rfl rfl ?_
            refine s_extract rfl rfl rfl ?_
            refine s_extract rfl rfl rfl ?_
            refine s_alloc rfl AL32 hs ?_; clear hs; intro b14 w hs
            first
              | refine s_storeW Try.sizeOf32 rfl rfl rfl rfl hs (kk := 0) rfl rfl ?_
              | refine s_storeW Try.sizeOf32 rfl rfl rfl rfl hs (kk := 1) rfl rfl ?_
              | refine s_storeW Try.sizeOf32 rfl rfl rfl rfl hs (kk := 2) rfl rfl ?_
              | refine s_storeW Try.sizeOf32 rfl rfl rfl rfl hs (kk := 3) rfl rfl ?_
              | refine s_storeAB Try.sizeOf32 rfl rfl rfl rfl hs (kk := 0) rfl rfl ?_
              | refine s_storeAB Try.sizeOf32 rfl rfl rfl rfl hs (kk := 1) rfl rfl ?_
              | refine s_storeAB Try.sizeOf32 rfl rfl rfl rfl hs (kk := 2) rfl rfl ?_
              | refine s_storeAB Try.sizeOf32 rfl rfl rfl rfl hs (kk := 3) rfl rfl ?_
            clear hs; intro w hs; try simp only [List.set_cons_zero, List.set_cons_succ, splice, List.take_succ_cons, List.take_zero, List.drop_succ_cons, List.drop_zero, List.nil_append, List.cons_append, List.length_cons, List.length_nil, Nat.reduceAdd, List.append_assoc] at hs
            refine s_assign rfl rfl ?_
            refine WL_nil ?_
            refine n_then ?_
            refine W_region ?_
            refine s_move rfl rfl ?_
            refine s_move rfl rfl ?_
            refine s_eql rfl rfl rfl ?_
            refine s_move rfl rfl ?_
            refine WL_know (s := 79) (c := true) rfl (rfl) ?_
            refine WL_take rfl ?_
            first
              | refine s_loadW Try.isAgg32 Try.sizeOf32 rfl rfl hs (kk := 0) rfl rfl ?_
              | refine s_loadW Try.isAgg32 Try.sizeOf32 rfl rfl hs (kk := 1) rfl rfl ?_
              | refine s_loadW Try.isAgg32 Try.sizeOf32 rfl rfl hs (kk := 2) rfl rfl ?_
              | refine s_loadW Try.isAgg32 Try.sizeOf32 rfl rfl hs (kk := 3) rfl rfl ?_
              | refine s_load_3 Try.isAgg32 Try.sizeOf32 rfl rfl (by first | exact hs.cell (k := 0) rfl rfl | exact hs.cell (k := 1) rfl rfl | exact hs.cell (k := 2) rfl rfl | exact hs.cell (k := 3) rfl rfl) (by first | exact hs.cell (k := 0) rfl rfl | exact hs.cell (k := 1) rfl rfl | exact hs.cell (k := 2) rfl rfl | exact hs.cell (k := 3) rfl rfl) (by first | exact hs.cell (k := 0) rfl rfl | exact hs.cell (k := 1) rfl rfl | exact hs.cell (k := 2) rfl rfl | exact hs.cell (k := 3) rfl rfl) ?_
            refine WL_take rfl ?_
            first
              | refine s_loadW Try.isAgg32 Try.sizeOf32 rfl rfl hs (kk := 0) rfl rfl ?_
              | refine s_loadW Try.isAgg32 Try.sizeOf32 rfl rfl hs (kk := 1) rfl rfl ?_
              | refine s_loadW Try.isAgg32 Try.sizeOf32 rfl rfl hs (kk := 2) rfl rfl ?_
              | refine s_loadW Try.isAgg32 Try.sizeOf32 rfl rfl hs (kk := 3) rfl rfl ?_
              | refine s_load_3 Try.isAgg32 Try.sizeOf32 rfl rfl (by first | exact hs.cell (k := 0) rfl rfl | exact hs.cell (k := 1) rfl rfl | exact hs.cell (k := 2) rfl rfl | exact hs.cell (k := 3) rfl rfl) (by first | exact hs.cell (k := 0) rfl rfl | exact hs.cell (k := 1) rfl rfl | exact hs.cell (k := 2) rfl rfl | exact hs.cell (k := 3) rfl rfl) (by first | exact hs.cell (k := 0) rfl rfl | exact hs.cell (k := 1) rfl rfl | exact hs.cell (k := 2) rfl rfl | exact hs.cell (k := 3) rfl rfl) ?_
            refine WL_take rfl ?_
            refine s_call Try.call16 rfl rfl (same_ok m.f m.t r.f r.t _ _ m.bs m.bs w (hs.sl (k := 3) (ds := u8s m.bs) rfl (Nat.le_refl _) (by intro j u hj; rw [Nat.zero_add]; exact hj)) (by have h8 := hRI.2.2.2 w (fun x hx => hs.own x (List.mem_cons_of_mem _ (List.mem_cons_of_mem _ (List.mem_cons_of_mem _ (List.mem_cons_of_mem _ (List.mem_append_right _ (List.mem_append_right _ hx))))))); exact h8) (by omega)) ?_
            rintro r9 w ⟨hst, rfl⟩
            replace hs := hs.fwd1 hst
            rw [show decide (m.f = r.f ∧ m.t = r.t ∧ m.bs = m.bs) = true from by simp [hRI.1, hRI.2.1]]
            have hfin : (RInv ([(g0, Blk 34 (ocells os ++ sp))] ++ oblks os) k p q w0 w (i + 1)) := ⟨gs, _, _, LN3, LR2, hs.tail.tail.tail.tail, hN2, hR2, hgk, hP.erase _, hmv.erase _, by have := List.length_eraseIdx_le ms oI.toNat; omega⟩
            refine s_pick_t rfl rfl rfl ?_
            refine s_assign rfl rfl ?_
            refine WL_nil ?_
            refine n_blk ?_
            refine n_loop ?_
            exact ⟨(), ⟨rfl, rfl, rfl, rfl, rfl, trivial⟩, hfin⟩
        · skip
          simp only [decide_eq_true_eq, decide_eq_false_iff_not, beq_iff_eq, beq_eq_false_iff_ne, ne_eq] at hc60
          refine W_seq ?_
          refine W_region ?_
          refine s_eql rfl rfl rfl ?_
          refine s_assign rfl rfl ?_
          refine WL_nil ?_
          refine n_then ?_
          refine W_cond rfl (fun hc84 => ?_) (fun hc84 => ?_)
          · skip
            simp only [decide_eq_true_eq, decide_eq_false_iff_not, beq_iff_eq, beq_eq_false_iff_ne, ne_eq] at hc84
            refine W_draw [(0, true, []), (1, true, []), (2, true, []), (4, true, []), (5, true, []), (6, true, []), (3, false, [4, 5, 6]), (7, false, []), (8, true, []), (9, true, [])] MX (by kernel_rfl) ?_
            intro w1 hw1 hw2 hw3 hw4; replace hs := hs.redrawn hw1 hw2 hw3 hw4; clear hw1 hw2 hw3 hw4
            obtain ⟨w, rfl⟩ : ∃ w : World, w = w1 := ⟨_, rfl⟩
            refine D_q rfl rfl ?_
            refine s_move rfl rfl ?_
            refine D_qn ?_
            refine D_q rfl rfl ?_
            refine s_fieldAddr rfl rfl (FA34_1 _ _) ?_
            refine D_qn ?_
            refine D_q rfl rfl ?_
            first
              | refine s_load Try.isAgg3 rfl rfl (hs.cell (k := 0) rfl rfl) ?_
              | refine s_load Try.isAgg3 rfl rfl (hs.cell (k := 1) rfl rfl) ?_
              | refine s_load Try.isAgg3 rfl rfl (hs.cell (k := 2) rfl rfl) ?_
              | refine s_load Try.isAgg3 rfl rfl (hs.cell (k := 3) rfl rfl) ?_
              | refine s_load Try.isAgg3 rfl rfl ((St.reord [LN, [_], Lg9, Ll9, [_], oblks os] [1] [0, 2, 3, 4, 5] (by simpa [cat] using hs) rfl).cell (k := 0) rfl rfl) ?_
            refine D_qn ?_
            refine D_q rfl rfl ?_
            refine s_move rfl rfl ?_
            refine D_qn ?_
            refine D_q rfl rfl ?_
            refine s_fieldAddr rfl rfl (FA34_1 _ _) ?_
            refine D_qn ?_
            refine D_q rfl rfl ?_
            first
              | refine s_load Try.isAgg3 rfl rfl (hs.cell (k := 0) rfl rfl) ?_
              | refine s_load Try.isAgg3 rfl rfl (hs.cell (k := 1) rfl rfl) ?_
              | refine s_load Try.isAgg3 rfl rfl (hs.cell (k := 2) rfl rfl) ?_
              | refine s_load Try.isAgg3 rfl rfl (hs.cell (k := 3) rfl rfl) ?_
              | refine s_load Try.isAgg3 rfl rfl ((St.reord [LN, [_], Lg9, Ll9, [_], oblks os] [1] [0, 2, 3, 4, 5] (by simpa [cat] using hs) rfl).cell (k := 0) rfl rfl) ?_
            refine D_qn ?_
            refine D_e rfl ?_
            refine s_callL (M := [_]) (L1 := LN) Try.call17 rfl rfl hs (fun h => copy_all p gs ms oI LN w hN h (by omega) (by rw [hgk]; exact hmv)) ?_
            clear hs; intro v w LN2 h _ hs
            obtain ⟨hin, rfl, hN2⟩ | ⟨m, b9, hin, hm, rfl, hN2⟩ := h
            · skip
              simp only [List.cons_append, List.nil_append] at hs
              refine D_en ?re ?_
              case re =>
                refine Reks_cons rfl rfl rfl rfl ?_ ?_
                · skip
                  refine s_move rfl rfl ?_
                  exact Rek_end rfl
                refine Reks_cons rfl rfl rfl rfl ?_ ?_
                · skip
                  refine s_fieldAddr rfl rfl (FA34_1 _ _) ?_
                  exact Rek_end rfl
                refine Reks_cons rfl rfl rfl rfl ?_ ?_
                · skip
                  first
                    | refine s_load Try.isAgg3 rfl rfl (hs.cell (k := 0) rfl rfl) ?_
                    | refine s_load Try.isAgg3 rfl rfl (hs.cell (k := 1) rfl rfl) ?_
                    | refine s_load Try.isAgg3 rfl rfl (hs.cell (k := 2) rfl rfl) ?_
                    | refine s_load Try.isAgg3 rfl rfl (hs.cell (k := 3) rfl rfl) ?_
                    | refine s_load Try.isAgg3 rfl rfl ((St.reord [LN, [_], Lg9, Ll9, [_], oblks os] [1] [0, 2, 3, 4, 5] (by simpa [cat] using hs) rfl).cell (k := 0) rfl rfl) ?_
                  exact Rek_end rfl
                exact Reks_nil
              refine D_e rfl ?_
              refine s_callL (M := _ :: LN2) (L1 := LR) Try.call18 rfl rfl hs (fun h => rcopy_no q gs rs oI LR w hR h (by rw [hP.1]; exact hin)) ?_
              clear hs; rintro v w LR2 ⟨rfl, hR2⟩ - hs
              simp only [List.cons_append, List.nil_append] at hs
              have hfin : (RInv ([(g0, Blk 34 (ocells os ++ sp))] ++ oblks os) k p q w0 w (i + 1)) := ⟨gs, ms, rs, LN2, LR2, hs.tail, hN2, hR2, hgk, hP, hmv, by omega⟩
              refine D_en ?re ?_
              case re =>
                exact Reks_nil
              refine D_q rfl rfl ?_
              refine s_eql rfl rfl rfl ?_
              refine D_qn ?_
              refine D_q rfl rfl ?_
              refine s_assign rfl rfl ?_
              refine D_qn ?_
              refine D_nil ?_
              refine n_blk ?_
              refine n_loop ?_
              exact ⟨(), ⟨rfl, rfl, rfl, rfl, rfl, trivial⟩, hfin⟩
            · skip
              simp only [List.cons_append, List.nil_append] at hs
              refine D_en ?re ?_
              case re =>
                refine Reks_cons rfl rfl rfl rfl ?_ ?_
                · skip
                  refine s_move rfl rfl ?_
                  exact Rek_end rfl
                refine Reks_cons rfl rfl rfl rfl ?_ ?_
                · skip
                  refine s_fieldAddr rfl rfl (FA34_1 _ _) ?_
                  exact Rek_end rfl
                refine Reks_cons rfl rfl rfl rfl ?_ ?_
                · skip
                  first
                    | refine s_load Try.isAgg3 rfl rfl (hs.cell (k := 0) rfl rfl) ?_
                    | refine s_load Try.isAgg3 rfl rfl (hs.cell (k := 1) rfl rfl) ?_
                    | refine s_load Try.isAgg3 rfl rfl (hs.cell (k := 2) rfl rfl) ?_
                    | refine s_load Try.isAgg3 rfl rfl (hs.cell (k := 3) rfl rfl) ?_
                    | refine s_load Try.isAgg3 rfl rfl ((St.reord [LN, [_], Lg9, Ll9, [_], oblks os] [1] [0, 2, 3, 4, 5] (by simpa [cat] using hs) rfl).cell (k := 0) rfl rfl) ?_
                  exact Rek_end rfl
                exact Reks_nil
              refine D_e rfl ?_
              obtain ⟨r, hr⟩ : ∃ r, rs[oI.toNat]? = some r := ⟨_, List.getElem?_eq_getElem (by have := hP.1; omega)⟩
              have hRI := hP.2 _ _ _ hm hr
              have hmm := hmv _ (List.mem_of_getElem? hm)
              refine s_callL (M := _ :: LN2) (L1 := LR) Try.call18 rfl rfl hs (fun h => rcopy_yes q gs rs oI r LR w hR h (by rw [hP.1]; exact hin) hr (by have := hP.1; omega)) ?_
              clear hs; intro v w LR2 h _ hs
              obtain ⟨h9, _⟩ | ⟨_, rfl, hR2⟩ := h
              case inl => exact absurd h9 (by have := hP.1; omega)
              simp only [List.cons_append, List.nil_append] at hs
              have hfin : (RInv ([(g0, Blk 34 (ocells os ++ sp))] ++ oblks os) k p q w0 w (i + 1)) := ⟨gs, _, _, LN2, LR2, hs.tail, hN2, hR2, hgk, hP.snoc hRI, hmv.snoc hmm, by simp; omega⟩
              refine D_en ?re ?_
              case re =>
                exact Reks_nil
              refine D_q rfl rfl ?_
              refine s_eql rfl rfl rfl ?_
              refine D_qn ?_
              refine D_q rfl rfl ?_
              refine s_assign rfl rfl ?_
              refine D_qn ?_
              refine D_nil ?_
              refine n_blk ?_
              refine n_loop ?_
              exact ⟨(), ⟨rfl, rfl, rfl, rfl, rfl, trivial⟩, hfin⟩
          · skip
            simp only [decide_eq_true_eq, decide_eq_false_iff_not, beq_iff_eq, beq_eq_false_iff_ne, ne_eq] at hc84
            refine W_seq ?_
            refine W_region ?_
            refine s_eql rfl rfl rfl ?_
            refine s_assign rfl rfl ?_
            refine WL_nil ?_
            refine n_then ?_
            refine W_cond rfl (fun hc95 => ?_) (fun hc95 => ?_)
            · skip
              simp only [decide_eq_true_eq, decide_eq_false_iff_not, beq_iff_eq, beq_eq_false_iff_ne, ne_eq] at hc95
              refine W_draw [(0, true, []), (1, true, []), (2, true, []), (4, true, []), (5, true, []), (6, true, []), (3, false, [4, 5, 6]), (7, false, []), (8, true, []), (9, true, [])] MX (by kernel_rfl) ?_
              intro w1 hw1 hw2 hw3 hw4; replace hs := hs.redrawn hw1 hw2 hw3 hw4; clear hw1 hw2 hw3 hw4
              obtain ⟨w, rfl⟩ : ∃ w : World, w = w1 := ⟨_, rfl⟩
              refine D_q rfl rfl ?_
              refine s_move rfl rfl ?_
              refine D_qn ?_
              refine D_q rfl rfl ?_
              refine s_fieldAddr rfl rfl (FA34_1 _ _) ?_
              refine D_qn ?_
              refine D_q rfl rfl ?_
              first
                | refine s_load Try.isAgg3 rfl rfl (hs.cell (k := 0) rfl rfl) ?_
                | refine s_load Try.isAgg3 rfl rfl (hs.cell (k := 1) rfl rfl) ?_
                | refine s_load Try.isAgg3 rfl rfl (hs.cell (k := 2) rfl rfl) ?_
                | refine s_load Try.isAgg3 rfl rfl (hs.cell (k := 3) rfl rfl) ?_
                | refine s_load Try.isAgg3 rfl rfl ((St.reord [LN, [_], Lg9, Ll9, [_], oblks os] [1] [0, 2, 3, 4, 5] (by simpa [cat] using hs) rfl).cell (k := 0) rfl rfl) ?_
              refine D_qn ?_
              refine D_q rfl rfl ?_
              refine s_move rfl rfl ?_
              refine D_qn ?_
              refine D_q rfl rfl ?_
              refine s_fieldAddr rfl rfl (FA34_1 _ _) ?_
              refine D_qn ?_
              refine D_q rfl rfl ?_
              first
                | refine s_load Try.isAgg3 rfl rfl (hs.cell (k := 0) rfl rfl) ?_
                | refine s_load Try.isAgg3 rfl rfl (hs.cell (k := 1) rfl rfl) ?_
                | refine s_load Try.isAgg3 rfl rfl (hs.cell (k := 2) rfl rfl) ?_
                | refine s_load Try.isAgg3 rfl rfl (hs.cell (k := 3) rfl rfl) ?_
                | refine s_load Try.isAgg3 rfl rfl ((St.reord [LN, [_], Lg9, Ll9, [_], oblks os] [1] [0, 2, 3, 4, 5] (by simpa [cat] using hs) rfl).cell (k := 0) rfl rfl) ?_
              refine D_qn ?_
              refine D_e rfl ?_
              refine s_callL (M := [_]) (L1 := LN) Try.call19 rfl rfl hs (fun h => drop_all p gs ms oI LN w hN h (by omega)) ?_
              clear hs; intro v w LN2 h _ hs
              obtain ⟨hin, rfl, hN2⟩ | ⟨hin, rfl, hN2⟩ := h
              · skip
                simp only [List.cons_append, List.nil_append] at hs
                refine D_en ?re ?_
                case re =>
                  refine Reks_cons rfl rfl rfl rfl ?_ ?_
                  · skip
                    refine s_move rfl rfl ?_
                    exact Rek_end rfl
                  refine Reks_cons rfl rfl rfl rfl ?_ ?_
                  · skip
                    refine s_fieldAddr rfl rfl (FA34_1 _ _) ?_
                    exact Rek_end rfl
                  refine Reks_cons rfl rfl rfl rfl ?_ ?_
                  · skip
                    first
                      | refine s_load Try.isAgg3 rfl rfl (hs.cell (k := 0) rfl rfl) ?_
                      | refine s_load Try.isAgg3 rfl rfl (hs.cell (k := 1) rfl rfl) ?_
                      | refine s_load Try.isAgg3 rfl rfl (hs.cell (k := 2) rfl rfl) ?_
                      | refine s_load Try.isAgg3 rfl rfl (hs.cell (k := 3) rfl rfl) ?_
                      | refine s_load Try.isAgg3 rfl rfl ((St.reord [LN, [_], Lg9, Ll9, [_], oblks os] [1] [0, 2, 3, 4, 5] (by simpa [cat] using hs) rfl).cell (k := 0) rfl rfl) ?_
                    exact Rek_end rfl
                  exact Reks_nil
                refine D_e rfl ?_
                refine s_callL (M := _ :: LN2) (L1 := LR) Try.call20 rfl rfl hs (fun h => rdrop_no q gs rs oI LR w hR h (by rw [hP.1]; exact hin)) ?_
                clear hs; rintro v w LR2 ⟨rfl, hR2⟩ - hs
                simp only [List.cons_append, List.nil_append] at hs
                have hfin : (RInv ([(g0, Blk 34 (ocells os ++ sp))] ++ oblks os) k p q w0 w (i + 1)) := ⟨gs, ms, rs, LN2, LR2, hs.tail, hN2, hR2, hgk, hP, hmv, by omega⟩
                refine D_en ?re ?_
                case re =>
                  exact Reks_nil
                refine D_q rfl rfl ?_
                refine s_eql rfl rfl rfl ?_
                refine D_qn ?_
                refine D_q rfl rfl ?_
                refine s_assign rfl rfl ?_
                refine D_qn ?_
                refine D_nil ?_
                refine n_blk ?_
                refine n_loop ?_
                exact ⟨(), ⟨rfl, rfl, rfl, rfl, rfl, trivial⟩, hfin⟩
              · skip
                simp only [List.cons_append, List.nil_append] at hs
                refine D_en ?re ?_
                case re =>
                  refine Reks_cons rfl rfl rfl rfl ?_ ?_
                  · skip
                    refine s_move rfl rfl ?_
                    exact Rek_end rfl
                  refine Reks_cons rfl rfl rfl rfl ?_ ?_
                  · skip
                    refine s_fieldAddr rfl rfl (FA34_1 _ _) ?_
                    exact Rek_end rfl
                  refine Reks_cons rfl rfl rfl rfl ?_ ?_
                  · skip
                    first
                      | refine s_load Try.isAgg3 rfl rfl (hs.cell (k := 0) rfl rfl) ?_
                      | refine s_load Try.isAgg3 rfl rfl (hs.cell (k := 1) rfl rfl) ?_
                      | refine s_load Try.isAgg3 rfl rfl (hs.cell (k := 2) rfl rfl) ?_
                      | refine s_load Try.isAgg3 rfl rfl (hs.cell (k := 3) rfl rfl) ?_
                      | refine s_load Try.isAgg3 rfl rfl ((St.reord [LN, [_], Lg9, Ll9, [_], oblks os] [1] [0, 2, 3, 4, 5] (by simpa [cat] using hs) rfl).cell (k := 0) rfl rfl) ?_
                    exact Rek_end rfl
                  exact Reks_nil
                refine D_e rfl ?_
                refine s_callL (M := _ :: LN2) (L1 := LR) Try.call20 rfl rfl hs (fun h => rdrop_yes q gs rs oI LR w hR h (by rw [hP.1]; exact hin) (by have := hP.1; omega)) ?_
                clear hs; rintro v w LR2 ⟨rfl, hR2⟩ - hs
                simp only [List.cons_append, List.nil_append] at hs
                have hfin : (RInv ([(g0, Blk 34 (ocells os ++ sp))] ++ oblks os) k p q w0 w (i + 1)) := ⟨gs, _, _, LN2, LR2, hs.tail, hN2, hR2, hgk, hP.erase _, hmv.erase _, by have := List.length_eraseIdx_le ms oI.toNat; omega⟩
                refine D_en ?re ?_
                case re =>
                  exact Reks_nil
                refine D_q rfl rfl ?_
                refine s_eql rfl rfl rfl ?_
                refine D_qn ?_
                refine D_q rfl rfl ?_
                refine s_assign rfl rfl ?_
                refine D_qn ?_
                refine D_nil ?_
                refine n_blk ?_
                refine n_loop ?_
                exact ⟨(), ⟨rfl, rfl, rfl, rfl, rfl, trivial⟩, hfin⟩
            · skip
              simp only [decide_eq_true_eq, decide_eq_false_iff_not, beq_iff_eq, beq_eq_false_iff_ne, ne_eq] at hc95
              refine W_draw [(0, true, []), (1, true, []), (2, true, []), (4, true, []), (5, true, []), (6, true, []), (3, false, [4, 5, 6]), (7, false, []), (8, true, []), (9, true, [])] MX (by kernel_rfl) ?_
              intro w1 hw1 hw2 hw3 hw4; replace hs := hs.redrawn hw1 hw2 hw3 hw4; clear hw1 hw2 hw3 hw4
              obtain ⟨w, rfl⟩ : ∃ w : World, w = w1 := ⟨_, rfl⟩
              refine D_q rfl rfl ?_
              refine s_move rfl rfl ?_
              refine D_qn ?_
              refine D_q rfl rfl ?_
              refine s_fieldAddr rfl rfl (FA34_3 _ _) ?_
              refine D_qn ?_
              refine D_q rfl rfl ?_
              first
                | refine s_load Try.isAgg22 rfl rfl (hs.cell (k := 0) rfl rfl) ?_
                | refine s_load Try.isAgg22 rfl rfl (hs.cell (k := 1) rfl rfl) ?_
                | refine s_load Try.isAgg22 rfl rfl (hs.cell (k := 2) rfl rfl) ?_
                | refine s_load Try.isAgg22 rfl rfl (hs.cell (k := 3) rfl rfl) ?_
                | refine s_load Try.isAgg22 rfl rfl ((St.reord [LN, [_], Lg9, Ll9, [_], oblks os] [1] [0, 2, 3, 4, 5] (by simpa [cat] using hs) rfl).cell (k := 0) rfl rfl) ?_
              refine D_qn ?_
              refine D_q rfl rfl ?_
              refine s_move rfl rfl ?_
              refine D_qn ?_
              refine D_q rfl rfl ?_
              refine s_fieldAddr rfl rfl (FA34_3 _ _) ?_
              refine D_qn ?_
              refine D_q rfl rfl ?_
              first
                | refine s_load Try.isAgg22 rfl rfl (hs.cell (k := 0) rfl rfl) ?_
                | refine s_load Try.isAgg22 rfl rfl (hs.cell (k := 1) rfl rfl) ?_
                | refine s_load Try.isAgg22 rfl rfl (hs.cell (k := 2) rfl rfl) ?_
                | refine s_load Try.isAgg22 rfl rfl (hs.cell (k := 3) rfl rfl) ?_
                | refine s_load Try.isAgg22 rfl rfl ((St.reord [LN, [_], Lg9, Ll9, [_], oblks os] [1] [0, 2, 3, 4, 5] (by simpa [cat] using hs) rfl).cell (k := 0) rfl rfl) ?_
              refine D_qn ?_
              refine D_e rfl ?_
              refine s_callL (M := [_]) (L1 := LN) Try.call21 rfl rfl hs (fun h => part_all p gs ogs ms _ LN w hN h (own_slIn hog (fun x hx => hs.own x (List.mem_cons_of_mem _ (List.mem_append_right _ (List.mem_append_right _ (hLgY x hx))))))) ?_
              clear hs; intro v w LN2 h _ hs
              obtain ⟨hin, rfl, hN2⟩ | ⟨hin, rfl, hN2⟩ := h
              · skip
                simp only [List.cons_append, List.nil_append] at hs
                refine D_en ?re ?_
                case re =>
                  refine Reks_cons rfl rfl rfl rfl ?_ ?_
                  · skip
                    refine s_move rfl rfl ?_
                    exact Rek_end rfl
                  refine Reks_cons rfl rfl rfl rfl ?_ ?_
                  · skip
                    refine s_fieldAddr rfl rfl (FA34_3 _ _) ?_
                    exact Rek_end rfl
                  refine Reks_cons rfl rfl rfl rfl ?_ ?_
                  · skip
                    first
                      | refine s_load Try.isAgg22 rfl rfl (hs.cell (k := 0) rfl rfl) ?_
                      | refine s_load Try.isAgg22 rfl rfl (hs.cell (k := 1) rfl rfl) ?_
                      | refine s_load Try.isAgg22 rfl rfl (hs.cell (k := 2) rfl rfl) ?_
                      | refine s_load Try.isAgg22 rfl rfl (hs.cell (k := 3) rfl rfl) ?_
                      | refine s_load Try.isAgg22 rfl rfl ((St.reord [LN, [_], Lg9, Ll9, [_], oblks os] [1] [0, 2, 3, 4, 5] (by simpa [cat] using hs) rfl).cell (k := 0) rfl rfl) ?_
                    exact Rek_end rfl
                  exact Reks_nil
                refine D_e rfl ?_
                refine s_callL (M := _ :: LN2) (L1 := LR) Try.call22 rfl rfl hs (fun h => rpart_no q gs rs ogs _ LR w hR h (own_slIn hog (fun x hx => hs.own x (List.mem_cons_of_mem _ (List.mem_append_right _ (List.mem_append_right _ (hLgY x hx)))))) hin) ?_
                clear hs; rintro v w LR2 ⟨rfl, hR2⟩ - hs
                simp only [List.cons_append, List.nil_append] at hs
                have hfin : (RInv ([(g0, Blk 34 (ocells os ++ sp))] ++ oblks os) k p q w0 w (i + 1)) := ⟨gs, ms, rs, LN2, LR2, hs.tail, hN2, hR2, hgk, hP, hmv, by omega⟩
                refine D_en ?re ?_
                case re =>
                  exact Reks_nil
                refine D_q rfl rfl ?_
                refine s_eql rfl rfl rfl ?_
                refine D_qn ?_
                refine D_q rfl rfl ?_
                refine s_assign rfl rfl ?_
                refine D_qn ?_
                refine D_nil ?_
                refine n_blk ?_
                refine n_loop ?_
                exact ⟨(), ⟨rfl, rfl, rfl, rfl, rfl, trivial⟩, hfin⟩
              · skip
                simp only [List.cons_append, List.nil_append] at hs
                refine D_en ?re ?_
                case re =>
                  refine Reks_cons rfl rfl rfl rfl ?_ ?_
                  · skip
                    refine s_move rfl rfl ?_
                    exact Rek_end rfl
                  refine Reks_cons rfl rfl rfl rfl ?_ ?_
                  · skip
                    refine s_fieldAddr rfl rfl (FA34_3 _ _) ?_
                    exact Rek_end rfl
                  refine Reks_cons rfl rfl rfl rfl ?_ ?_
                  · skip
                    first
                      | refine s_load Try.isAgg22 rfl rfl (hs.cell (k := 0) rfl rfl) ?_
                      | refine s_load Try.isAgg22 rfl rfl (hs.cell (k := 1) rfl rfl) ?_
                      | refine s_load Try.isAgg22 rfl rfl (hs.cell (k := 2) rfl rfl) ?_
                      | refine s_load Try.isAgg22 rfl rfl (hs.cell (k := 3) rfl rfl) ?_
                      | refine s_load Try.isAgg22 rfl rfl ((St.reord [LN, [_], Lg9, Ll9, [_], oblks os] [1] [0, 2, 3, 4, 5] (by simpa [cat] using hs) rfl).cell (k := 0) rfl rfl) ?_
                    exact Rek_end rfl
                  exact Reks_nil
                refine D_e rfl ?_
                refine s_callL (M := _ :: LN2) (L1 := LR) Try.call22 rfl rfl hs (fun h => rpart_yes q gs rs ogs _ LR w hR h (own_slIn hog (fun x hx => hs.own x (List.mem_cons_of_mem _ (List.mem_append_right _ (List.mem_append_right _ (hLgY x hx)))))) hin (by omega)) ?_
                clear hs; rintro v w LR2 ⟨rfl, hR2⟩ - hs
                simp only [List.cons_append, List.nil_append] at hs
                have hfin : (RInv ([(g0, Blk 34 (ocells os ++ sp))] ++ oblks os) k p q w0 w (i + 1)) := ⟨ogs, ms, rs, LN2, LR2, hs.tail, hN2, hR2, by rw [hin]; exact hgk, hP, hmv, by omega⟩
                refine D_en ?re ?_
                case re =>
                  exact Reks_nil
                refine D_q rfl rfl ?_
                refine s_eql rfl rfl rfl ?_
                refine D_qn ?_
                refine D_q rfl rfl ?_
                refine s_assign rfl rfl ?_
                refine D_qn ?_
                refine D_nil ?_
                refine n_blk ?_
                refine n_loop ?_
                exact ⟨(), ⟨rfl, rfl, rfl, rfl, rfl, trivial⟩, hfin⟩
    · skip
      clear hs hN hR hP hmv hml hgk
      rintro - w ⟨gs, ms, rs, LN, LR, hs, hN, hR, hgk, hP, hmv, hml⟩
      obtain ⟨gv9, Lg9, lv9, Ll9, rfl, hG9, hO9⟩ := hR
      obtain ⟨tl9, tc9, ta9, rfl, rfl⟩ := hO9.form
      refine W_seq ?_
      refine W_draw [(0, true, []), (1, true, []), (2, true, []), (3, true, []), (5, true, []), (6, true, []), (7, true, []), (8, true, []), (9, true, []), (4, false, [5, 6, 7, 8, 9]), (10, true, []), (11, true, [])] MX (by kernel_rfl) ?_
      intro w1 hw1 hw2 hw3 hw4; replace hs := hs.redrawn hw1 hw2 hw3 hw4; clear hw1 hw2 hw3 hw4
      obtain ⟨w, rfl⟩ : ∃ w : World, w = w1 := ⟨_, rfl⟩
      refine D_q rfl rfl ?_
      refine s_move rfl rfl ?_
      refine D_qn ?_
      refine D_q rfl rfl ?_
      refine s_not rfl rfl ?_
      refine D_qn ?_
      refine D_q rfl rfl ?_
      refine s_move rfl rfl ?_
      refine WL_know (s := 108) (c := false) rfl (rfl) ?_
      refine D_qn ?_
      refine D_q rfl rfl ?_
      refine WL_take rfl ?_
      refine s_move rfl rfl ?_
      refine D_qn ?_
      refine D_q rfl rfl ?_
      refine WL_take rfl ?_
      refine s_move rfl rfl ?_
      refine D_qn ?_
      refine D_q rfl rfl ?_
      refine WL_take rfl ?_
      refine s_nilCheck rfl rfl ?_
      refine D_qn ?_
      refine D_q rfl rfl ?_
      refine WL_take rfl ?_
      refine s_fieldAddr rfl rfl (FA45_1 _ _) ?_
      refine D_qn ?_
      refine D_q rfl rfl ?_
      refine WL_take rfl ?_
      first
        | refine s_load Try.isAgg43 rfl rfl (hs.cell (k := 0) rfl rfl) ?_
        | refine s_load Try.isAgg43 rfl rfl (hs.cell (k := 1) rfl rfl) ?_
        | refine s_load Try.isAgg43 rfl rfl (hs.cell (k := 2) rfl rfl) ?_
        | refine s_load Try.isAgg43 rfl rfl (hs.cell (k := 3) rfl rfl) ?_
        | refine s_load Try.isAgg43 rfl rfl ((St.reord [LN, [_], Lg9, Ll9, [_], oblks os] [1] [0, 2, 3, 4, 5] (by simpa [cat] using hs) rfl).cell (k := 0) rfl rfl) ?_
      refine D_qn ?_
      refine D_q rfl rfl ?_
      refine WL_take rfl ?_
      refine s_len rfl rfl (LN43 _ _ _ _) ?_
      refine D_qn ?_
      refine D_e rfl ?_
      refine WL_take rfl ?_
      refine s_call Try.call23 rfl rfl (len_ok p _ _ LN w hN (hs.lendM (M := []))) ?_
      rintro r w ⟨rfl, rfl⟩
      refine D_en ?re ?_
      case re =>
        refine Reks_cons rfl rfl rfl rfl ?_ ?_
        · skip
          refine WL_take rfl ?_
          refine s_move rfl rfl ?_
          exact Rek_end rfl
        refine Reks_cons rfl rfl rfl rfl ?_ ?_
        · skip
          refine WL_take rfl ?_
          refine s_nilCheck rfl rfl ?_
          exact Rek_end rfl
        refine Reks_cons rfl rfl rfl rfl ?_ ?_
        · skip
          refine WL_take rfl ?_
          refine s_fieldAddr rfl rfl (FA45_1 _ _) ?_
          exact Rek_end rfl
        refine Reks_cons rfl rfl rfl rfl ?_ ?_
        · skip
          refine WL_take rfl ?_
          first
            | refine s_load Try.isAgg43 rfl rfl (hs.cell (k := 0) rfl rfl) ?_
            | refine s_load Try.isAgg43 rfl rfl (hs.cell (k := 1) rfl rfl) ?_
            | refine s_load Try.isAgg43 rfl rfl (hs.cell (k := 2) rfl rfl) ?_
            | refine s_load Try.isAgg43 rfl rfl (hs.cell (k := 3) rfl rfl) ?_
            | refine s_load Try.isAgg43 rfl rfl ((St.reord [LN, [_], Lg9, Ll9, [_], oblks os] [1] [0, 2, 3, 4, 5] (by simpa [cat] using hs) rfl).cell (k := 0) rfl rfl) ?_
          exact Rek_end rfl
        refine Reks_cons rfl rfl rfl rfl ?_ ?_
        · skip
          refine WL_take rfl ?_
          refine s_len rfl rfl (LN43 _ _ _ _) ?_
          exact Rek_end rfl
        exact Reks_nil
      refine D_q rfl rfl ?_
      refine WL_take rfl ?_
      refine s_neq rfl rfl rfl ?_
      refine D_qn ?_
      refine D_q rfl rfl ?_
      refine s_pick_f rfl rfl rfl ?_
      refine D_qn ?_
      refine D_nil ?_
      refine n_then ?_
      refine W_cond_kf rfl ((by simp [hP.1])) ?_
      refine W_skip ?_
      refine n_blk ?_
      refine n_then ?_
      refine W_region ?_
      refine s_move rfl rfl ?_
      first | (refine s_add' rfl rfl rfl ?hx ?_; case hx => (constructor <;> omega)) | refine s_add rfl rfl rfl ?_
      refine s_assign rfl rfl ?_
      refine WL_nil ?_
      refine n_loop ?_
      exact ⟨i + 1, ⟨rfl, rfl, rfl, rfl, trivial⟩, ⟨⟨gs, ms, rs, LN, _, hs, hN, ⟨_, Lg9, _, Ll9, rfl, hG9, hO9⟩, hgk, hP, hmv, hml⟩, by omega⟩, by omega⟩
  · skip
    simp only [decide_eq_true_eq, decide_eq_false_iff_not, beq_iff_eq, beq_eq_false_iff_ne, ne_eq] at hc31
    refine W_exit ?_
    refine x_then ?_
    refine x_then ?_
    refine exit_hit ?_
    refine n_then ?_
    refine W_seq ?_
    refine W_region ?_
    refine s_call Try.call24 rfl rfl (lives_ok w) ?_
    rintro r w ⟨hst, rfl⟩
    replace hs := hs.fwd1 hst
    refine s_assign rfl rfl ?_
    refine WL_nil ?_
    refine n_then ?_
    refine W_ret ?_
    exact end1 rfl rfl ⟨hs.fwd, rfl⟩
end Go.Proofs.Ytgkdbiibbfipjaa
