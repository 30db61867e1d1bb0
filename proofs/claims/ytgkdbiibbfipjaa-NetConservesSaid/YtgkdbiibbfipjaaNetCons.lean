/- NetConserves: the walk. -/
import Derived.Test.YtgkdbiibbfipjaaNetQ
set_option linter.unusedVariables false
set_option linter.unusedSimpArgs false
namespace Go.Proofs.Ytgkdbiibbfipjaa
open Go.SL
/-- the message has been sent, and reads as it did -/
def Rd (Y : Hp) (r : RMsg) : Prop := ∃ bs : List Int, bs.length ≤ 2 ∧ r.n = bs.length ∧ ∀ w : World, (∀ x ∈ Y, w.heap[x.1]? = some x.2) → Sl w (.slice r.a r.n r.c) bs.length (u8s bs)
def CInv (Y : Hp) (k p : Nat) (w0 w : World) (i inn out : Nat) (rs : List RMsg) (sv : Value) (Ls : Hp) : Prop :=
  ∃ gs ms LN, St [] w0 w (LN ++ (Ls ++ Y)) ∧ NetAt p gs ms LN ∧ OwnS 32 3 sv rs.length (rcells rs) Ls ∧ gs.length = k ∧ MV k ms ∧ ms.length + out = inn ∧ inn ≤ i ∧ rs.length ≤ i ∧
    (∀ m ∈ ms, ∃ r ∈ rs, RIs Y r m) ∧ ∀ r ∈ rs, Rd Y r
set_option maxHeartbeats 4000000 in
theorem netConserves_ok (nodes : Int) (v : Value) (xs : List Int) (w0 : World) (hn : -9223372036854775808 ≤ nodes ∧ nodes ≤ 9223372036854775807) (hv : Sl w0 v xs.length (i64s xs)) (hx : ∀ z ∈ xs, -9223372036854775808 ≤ z ∧ z ≤ 9223372036854775807) :
    Ret Try.prog 5 [.int .i64 nodes, v].toArray w0 fun r w' => Fwd [] w0 w' ∧ r = .bool true := by
  refine Ret_start fun w hs => ?_
  refine Ret_of Try.func5 rfl Try.ntmps5 rfl ?_
  refine W_seq ?_
  refine W_region ?_
  refine s_assign rfl rfl ?_
  refine WL_nil ?_
  refine n_then ?_
  refine W_seq ?_
  refine W_region ?_
  refine s_move rfl rfl ?_
  refine s_call Try.call9 rfl rfl (made_ok nodes w hn) ?_
  rintro r w ⟨k, p, LN, hk1, hk2, rfl, hN, hst⟩
  replace hs : St [] w0 w (LN ++ []) := St.back0 hs hst
  clear hst
  refine s_move rfl rfl ?_
  refine s_extract rfl rfl rfl ?_
  refine s_extract rfl rfl rfl ?_
  refine s_assign rfl rfl ?_
  refine s_assign rfl rfl ?_
  refine WL_nil ?_
  refine n_then ?_
  refine W_seq ?_
  refine W_seq ?_
  refine W_region ?_
  refine s_move rfl rfl ?_
  refine s_eql_ptr_nil Try.underlying23 rfl rfl rfl ?_
  refine WL_nil ?_
  refine n_then ?_
  refine W_cond_kf rfl (rfl) ?_
  refine W_skip ?_
  refine n_then ?_
  refine W_seq ?_
  refine W_region ?_
  refine s_move rfl rfl ?_
  refine s_move rfl rfl ?_
  refine s_call Try.call11 rfl rfl (ops_ok v xs k w (hv.fwd0 hs.fwd) hx ⟨hk1, by omega⟩) ?_
  rintro r w ⟨os, Lo, hO, hok, hol, hst⟩
  replace hs := St.back0 hs hst
  clear hst
  obtain ⟨ol, oc, oa, rfl, rfl⟩ := hO.form
  have hI : CInv (Lo ++ oblks os) k p w0 w 0 0 0 [] (.slice none 0 0) [] := ⟨_, [], LN, by simpa [cat] using St.reord [Lo, oblks os, LN, []] [2, 3, 0, 1] [] (by simpa [cat] using hs) rfl, hN, OwnS.nil _ _, by simp, by intro m hm; simp at hm, rfl, by simp, by simp, by simp, by simp⟩
  clear hs hN
  refine s_assign rfl rfl ?_
  refine WL_nil ?_
  refine n_then ?_
  refine W_seq ?_
  refine W_region ?_
  refine s_assign rfl rfl ?_
  refine WL_nil ?_
  refine n_then ?_
  refine W_seq ?_
  refine W_region ?_
  refine s_assign rfl rfl ?_
  refine WL_nil ?_
  refine n_then ?_
  refine W_seq ?_
  refine W_region ?_
  refine s_assign rfl rfl ?_
  refine WL_nil ?_
  refine n_then ?_
  refine W_seq ?_
  refine W_seq ?_
  refine W_region ?_
  refine s_assign rfl rfl ?_
  refine WL_nil ?_
  refine n_then ?_
  refine W_block ?_
  refine W_loop (σ := Nat × Nat × Nat × List RMsg × Value × Hp) (fun s => [(5, .pointer (some ⟨p, 0, none⟩)), (7, .slice oa os.length oc), (8, .int .i64 (s.2.1 : Int)), (9, .int .i64 (s.2.2.1 : Int)), (10, s.2.2.2.2.1), (11, .int .i64 (s.1 : Int))])
    (fun s w => CInv (Lo ++ oblks os) k p w0 w s.1 s.2.1 s.2.2.1 s.2.2.2.1 s.2.2.2.2.1 s.2.2.2.2.2 ∧ s.1 ≤ os.length) (fun s => os.length - s.1) (0, 0, 0, [], .slice none 0 0, []) ⟨rfl, rfl, rfl, rfl, rfl, rfl, trivial⟩ ⟨hI, by simp⟩ ?_
  clear hI
  rintro ⟨i, inn, out, rs, sv, Ls⟩ w ⟨⟨gs, ms, LN, hs, hN, hS, hgk, hmv, hcount, hinn, hrl, hkn, hrd⟩, hil⟩
  simp only at hs hS hcount hinn hrl hkn hrd hil
  obtain ⟨sl, sc, sa, rfl, rfl⟩ := hS.form
  refine W_seq ?_
  refine W_seq ?_
  refine W_region ?_
  refine s_move rfl rfl ?_
  refine s_move rfl rfl ?_
  refine s_len rfl rfl (LN28 _ _ _ _) ?_
  refine s_lss rfl rfl rfl ?_
  refine WL_nil ?_
  refine n_then ?_
  refine W_cond rfl (fun hc30 => ?_) (fun hc30 => ?_)
  · skip
    simp only [decide_eq_true_eq, decide_eq_false_iff_not, beq_iff_eq, beq_eq_false_iff_ne, ne_eq] at hc30
    have hiq : i < os.length := by omega
    have hoi : os[i]? = some os[i] := List.getElem?_eq_getElem hiq
    have hok1 := hok _ (List.mem_of_getElem? hoi)
    have hom := List.mem_of_getElem? hoi
    obtain ⟨g0, cap, sp, hg0, hcap, hLo⟩ := hO.block (by omega)
    cases hg0
    subst hLo
    have cc : ∀ j, j < 6 → (ocells os ++ sp)[0 + i * 6 + j]? = os[i].cells[j]? := fun j hj => by rw [Nat.zero_add, List.getElem?_append_left (by rw [ocells_length]; omega)]; exact ocells_at hj hoi
    generalize os[i] = o at hoi hok1 hom cc
    obtain ⟨kd, oI, f, t, bv, gv, obs, ogs, oLb, oLg⟩ := o
    obtain ⟨hob, hog, hob2, hog2⟩ := hok1
    simp only at hob hog hob2 hog2
    obtain ⟨bl, bc, ba, rfl, rfl⟩ := hob.form
    obtain ⟨gl, gc, ga, rfl, rfl⟩ := hog.form
    have hLbY : ∀ x ∈ oLb, x ∈ [(g0, Blk 34 (ocells os ++ sp))] ++ oblks os := fun x hx => List.mem_append_right _ (oblks_of hom x (List.mem_append_left _ hx))
    have hLgY : ∀ x ∈ oLg, x ∈ [(g0, Blk 34 (ocells os ++ sp))] ++ oblks os := fun x hx => List.mem_append_right _ (oblks_of hom x (List.mem_append_right _ hx))
    have hs4 : St [] w0 w [_] := St.reord [LN, Ls, [_], oblks os] [2] [0, 1, 3] hs rfl
    refine W_skip ?_
    refine n_then ?_
    refine W_seq ?_
    refine W_block ?_
    refine W_seq ?_
    refine W_region ?_
    refine s_move rfl rfl ?_
    refine s_move rfl rfl ?_
    (refine s_indexAddr El28 rfl rfl rfl ?hx ?_; case hx => (constructor <;> first | omega | (simp; omega)))
    refine s_load_6 Try.isAgg34 Try.sizeOf34 rfl rfl (hs4.cell (k := 0) (fz := (0, 0)) rfl (cc 0 (by omega))) (hs4.cell (k := 0) (fz := (0, 0)) rfl (cc 1 (by omega))) (hs4.cell (k := 0) (fz := (0, 0)) rfl (cc 2 (by omega))) (hs4.cell (k := 0) (fz := (0, 0)) rfl (cc 3 (by omega))) (hs4.cell (k := 0) (fz := (0, 0)) rfl (cc 4 (by omega))) (hs4.cell (k := 0) (fz := (0, 0)) rfl (cc 5 (by omega))) ?_
    refine s_alloc rfl AL34 hs ?_; clear hs; intro b12 w hs
    first
      | refine s_storeW Try.sizeOf34 rfl rfl rfl rfl hs (kk := 0) rfl rfl ?_
      | refine s_storeW Try.sizeOf34 rfl rfl rfl rfl hs (kk := 1) rfl rfl ?_
      | refine s_storeW Try.sizeOf34 rfl rfl rfl rfl hs (kk := 2) rfl rfl ?_
      | refine s_storeW Try.sizeOf34 rfl rfl rfl rfl hs (kk := 3) rfl rfl ?_
      | refine s_storeAB Try.sizeOf34 rfl rfl rfl rfl hs (kk := 0) rfl rfl ?_
      | refine s_storeAB Try.sizeOf34 rfl rfl rfl rfl hs (kk := 1) rfl rfl ?_
      | refine s_storeAB Try.sizeOf34 rfl rfl rfl rfl hs (kk := 2) rfl rfl ?_
      | refine s_storeAB Try.sizeOf34 rfl rfl rfl rfl hs (kk := 3) rfl rfl ?_
    clear hs; intro w hs; try simp only [List.set_cons_zero, List.set_cons_succ, splice, List.take_succ_cons, List.take_zero, List.drop_succ_cons, List.drop_zero, List.nil_append, List.cons_append, List.length_cons, List.length_nil, Nat.reduceAdd, List.append_assoc] at hs
    refine WL_nil ?_
    refine n_then ?_
    refine W_cut (σ := Nat × Nat × List RMsg × Value × Hp) (fun s => [(5, .pointer (some ⟨p, 0, none⟩)), (7, .slice (some ⟨g0, 0, none⟩) os.length oc), (8, .int .i64 (s.1 : Int)), (9, .int .i64 (s.2.1 : Int)), (10, s.2.2.2.1), (11, .int .i64 (i : Int))])
      (fun s w => CInv ([(g0, Blk 34 (ocells os ++ sp))] ++ oblks os) k p w0 w (i + 1) s.1 s.2.1 s.2.2.1 s.2.2.2.1 s.2.2.2.2) ?_ ?_
    · skip
      refine W_seq ?_
      refine W_region ?_
      refine s_fieldAddr rfl rfl (FA34_0 _ _) ?_
      first
        | refine s_load Try.isAgg3 rfl rfl (hs.cell (k := 0) rfl rfl) ?_
        | refine s_load Try.isAgg3 rfl rfl (hs.cell (k := 1) rfl rfl) ?_
        | refine s_load Try.isAgg3 rfl rfl (hs.cell (k := 2) rfl rfl) ?_
        | refine s_load Try.isAgg3 rfl rfl (hs.cell (k := 3) rfl rfl) ?_
      refine WL_nil ?_
      refine n_then ?_
      refine W_block ?_
      refine W_seq ?_
      refine W_region ?_
      refine s_eql rfl rfl rfl ?_
      refine s_assign rfl rfl ?_
      refine WL_nil ?_
      refine n_then ?_
      refine W_cond rfl (fun hc43 => ?_) (fun hc43 => ?_)
      · skip
        simp only [decide_eq_true_eq, decide_eq_false_iff_not, beq_iff_eq, beq_eq_false_iff_ne, ne_eq] at hc43
        refine W_seq ?_
        refine W_region ?_
        refine s_move rfl rfl ?_
        refine s_fieldAddr rfl rfl (FA34_2 _ _) ?_
        first
          | refine s_loadW Try.isAgg32 Try.sizeOf32 rfl rfl hs (kk := 0) rfl rfl ?_
          | refine s_loadW Try.isAgg32 Try.sizeOf32 rfl rfl hs (kk := 1) rfl rfl ?_
          | refine s_loadW Try.isAgg32 Try.sizeOf32 rfl rfl hs (kk := 2) rfl rfl ?_
          | refine s_loadW Try.isAgg32 Try.sizeOf32 rfl rfl hs (kk := 3) rfl rfl ?_
          | refine s_load_3 Try.isAgg32 Try.sizeOf32 rfl rfl (by first | exact hs.cell (k := 0) rfl rfl | exact hs.cell (k := 1) rfl rfl | exact hs.cell (k := 2) rfl rfl | exact hs.cell (k := 3) rfl rfl) (by first | exact hs.cell (k := 0) rfl rfl | exact hs.cell (k := 1) rfl rfl | exact hs.cell (k := 2) rfl rfl | exact hs.cell (k := 3) rfl rfl) (by first | exact hs.cell (k := 0) rfl rfl | exact hs.cell (k := 1) rfl rfl | exact hs.cell (k := 2) rfl rfl | exact hs.cell (k := 3) rfl rfl) ?_
        have hslb : Sl w (.slice ba obs.length bc) obs.length (u8s obs) := own_slIn hob (fun x hx => hs.own x (List.mem_cons_of_mem _ (List.mem_append_right _ (List.mem_append_right _ (hLbY x hx)))))
        refine s_callL (M := [_]) (L1 := LN) Try.call12 rfl rfl hs (fun h => send_ok p gs ms f t _ obs LN w hN h hslb (by omega) (fun a m c he _ => St.apart hs.tail (by obtain ⟨o9, ho9⟩ := mem_ids.1 (own_in hob he); exact mem_ids_of (List.mem_append_right _ (hLbY _ ho9))))) ?_
        clear hs; rintro v w LN2 ⟨rfl, ms2, hN2, hne2, heq2⟩ - hs
        simp only [List.cons_append, List.nil_append] at hs
        refine s_eql rfl rfl rfl ?_
        refine WL_nil ?_
        refine n_then ?_
        refine W_cond rfl (fun hc49 => ?_) (fun hc49 => ?_)
        · skip
          simp only [decide_eq_true_eq, decide_eq_false_iff_not, beq_iff_eq, beq_eq_false_iff_ne, ne_eq] at hc49
          obtain ⟨b9, rfl⟩ := heq2 hc49
          have hval : ¬ (f < 0 ∨ (gs.length : Int) ≤ f ∨ t < 0 ∨ (gs.length : Int) ≤ t ∨ 65536 < (obs.length : Int)) := by
            intro h9; rw [sendE, if_pos h9] at hc49; omega
          refine W_seq ?_
          refine W_region ?_
          refine s_move rfl rfl ?_
          first | (refine s_add' rfl rfl rfl ?hx ?_; case hx => (constructor <;> first | omega | (simp only; omega))) | refine s_add rfl rfl rfl ?_
          refine s_assign rfl rfl ?_
          refine WL_nil ?_
          refine n_then ?_
          refine W_region ?_
          refine s_move rfl rfl ?_
          refine s_fieldAddr rfl rfl (FA34_2 _ _) ?_
          first
            | refine s_loadW Try.isAgg32 Try.sizeOf32 rfl rfl hs (kk := 0) rfl rfl ?_
            | refine s_loadW Try.isAgg32 Try.sizeOf32 rfl rfl hs (kk := 1) rfl rfl ?_
            | refine s_loadW Try.isAgg32 Try.sizeOf32 rfl rfl hs (kk := 2) rfl rfl ?_
            | refine s_loadW Try.isAgg32 Try.sizeOf32 rfl rfl hs (kk := 3) rfl rfl ?_
            | refine s_load_3 Try.isAgg32 Try.sizeOf32 rfl rfl (by first | exact hs.cell (k := 0) rfl rfl | exact hs.cell (k := 1) rfl rfl | exact hs.cell (k := 2) rfl rfl | exact hs.cell (k := 3) rfl rfl) (by first | exact hs.cell (k := 0) rfl rfl | exact hs.cell (k := 1) rfl rfl | exact hs.cell (k := 2) rfl rfl | exact hs.cell (k := 3) rfl rfl) (by first | exact hs.cell (k := 0) rfl rfl | exact hs.cell (k := 1) rfl rfl | exact hs.cell (k := 2) rfl rfl | exact hs.cell (k := 3) rfl rfl) ?_
          refine s_buildSlice rfl rfl (BS43_1 _ _ _) hs ?_; clear hs; intro b55 w hs
          refine s_appendM (M := _ :: _ :: LN2) (X := [(g0, Blk 34 (ocells os ++ sp))] ++ oblks os) El43 rfl rfl rfl hS hs (hs.sl (k := 0) (ds := (RMsg.mk f t ba obs.length bc).cells) rfl (Nat.le_refl _) (by intro j u hj; rw [Nat.zero_add]; exact hj)) rfl (rcells_one [RMsg.mk f t ba obs.length bc]) (by omega) ?_
          clear hs; intro sv' w Ls' hS' hs
          simp only [List.cons_append, List.nil_append] at hs
          have hRI : RIs ([(g0, Blk 34 (ocells os ++ sp))] ++ oblks os) ⟨f, t, ba, obs.length, bc⟩ ⟨f, t, b9, obs⟩ := ⟨rfl, rfl, rfl, fun w' hw' => own_slIn hob (fun x hx => hw' x (hLbY x hx))⟩
          have hfin : CInv ([(g0, Blk 34 (ocells os ++ sp))] ++ oblks os) k p w0 w (i + 1) (inn + 1) out (rs ++ [⟨f, t, ba, obs.length, bc⟩]) sv' Ls' := by
            refine ⟨gs, _, LN2, hs.tail.tail, hN2, ?_, hgk, hmv.snoc (by simp only; omega), by simp; omega, by omega, by simp; omega, ?_, ?_⟩
            · rw [List.length_append, rcells_append]; simpa [rcells] using hS'
            · intro m hm
              rcases List.mem_append.1 hm with h | h
              · obtain ⟨r, hr, hri⟩ := hkn m h; exact ⟨r, List.mem_append_left _ hr, hri⟩
              · simp at h; subst h; exact ⟨_, List.mem_append_right _ (by simp), hRI⟩
            · intro r hr
              rcases List.mem_append.1 hr with h | h
              · exact hrd r h
              · simp at h; subst h; exact ⟨obs, hob2, rfl, hRI.2.2.2⟩
          refine s_assign rfl rfl ?_
          refine WL_nil ?_
          refine n_blk ?_
          refine n_loop ?_
          refine ⟨(_, _, _, _, _), ?_, hfin⟩
          exact ⟨rfl, rfl, rfl, rfl, rfl, rfl, trivial⟩
        · skip
          simp only [decide_eq_true_eq, decide_eq_false_iff_not, beq_iff_eq, beq_eq_false_iff_ne, ne_eq] at hc49
          obtain rfl := hne2 hc49
          have hfin : CInv ([(g0, Blk 34 (ocells os ++ sp))] ++ oblks os) k p w0 w (i + 1) inn out rs (.slice sa rs.length sc) Ls := ⟨gs, _, LN2, hs.tail, hN2, hS, hgk, hmv, hcount, by omega, by omega, hkn, hrd⟩
          refine W_skip ?_
          refine n_blk ?_
          refine n_loop ?_
          refine ⟨(_, _, _, _, _), ?_, hfin⟩
          exact ⟨rfl, rfl, rfl, rfl, rfl, rfl, trivial⟩
      · skip
        simp only [decide_eq_true_eq, decide_eq_false_iff_not, beq_iff_eq, beq_eq_false_iff_ne, ne_eq] at hc43
        refine W_seq ?_
        refine W_region ?_
        refine s_eql rfl rfl rfl ?_
        refine s_assign rfl rfl ?_
        refine WL_nil ?_
        refine n_then ?_
        refine W_cond rfl (fun hc57 => ?_) (fun hc57 => ?_)
        · skip
          simp only [decide_eq_true_eq, decide_eq_false_iff_not, beq_iff_eq, beq_eq_false_iff_ne, ne_eq] at hc57
          refine W_seq ?_
          refine W_region ?_
          refine s_move rfl rfl ?_
          refine s_fieldAddr rfl rfl (FA34_1 _ _) ?_
          first
            | refine s_load Try.isAgg3 rfl rfl (hs.cell (k := 0) rfl rfl) ?_
            | refine s_load Try.isAgg3 rfl rfl (hs.cell (k := 1) rfl rfl) ?_
            | refine s_load Try.isAgg3 rfl rfl (hs.cell (k := 2) rfl rfl) ?_
            | refine s_load Try.isAgg3 rfl rfl (hs.cell (k := 3) rfl rfl) ?_
          refine s_callL (M := [_]) (L1 := LN) Try.call14 rfl rfl hs (fun h => take_all p gs ms oI LN w hN h (by omega) (by rw [hgk]; exact hmv)) ?_
          clear hs; intro v w LN2 h _ hs
          obtain ⟨hin, rfl, hN2⟩ | ⟨m, hin, hm, hg, rfl, hN2⟩ | ⟨m, hin, hm, hg, rfl, LN3, rfl, hN2⟩ := h
          · skip
            simp only [List.cons_append, List.nil_append, Msg.cells, Msg.blk] at hs ⊢
            refine s_move rfl rfl ?_
            refine s_extract rfl rfl rfl ?_
            refine s_extract rfl rfl rfl ?_
            refine s_alloc rfl AL32 hs ?_; clear hs; intro b13 w hs
            first
              | refine s_storeW Try.sizeOf32 rfl rfl rfl rfl hs (kk := 0) rfl rfl ?_
              | refine s_storeW Try.sizeOf32 rfl rfl rfl rfl hs (kk := 1) rfl rfl ?_
              | refine s_storeW Try.sizeOf32 rfl rfl rfl rfl hs (kk := 2) rfl rfl ?_
              | refine s_storeW Try.sizeOf32 rfl rfl rfl rfl hs (kk := 3) rfl rfl ?_
              | refine s_storeAB Try.sizeOf32 rfl rfl rfl rfl hs (kk := 0) rfl rfl ?_
              | refine s_storeAB Try.sizeOf32 rfl rfl rfl rfl hs (kk := 1) rfl rfl ?_
              | refine s_storeAB Try.sizeOf32 rfl rfl rfl rfl hs (kk := 2) rfl rfl ?_
              | refine s_storeAB Try.sizeOf32 rfl rfl rfl rfl hs (kk := 3) rfl rfl ?_
            clear hs; intro w hs; try simp only [List.set_cons_zero, List.set_cons_succ, splice, List.take_succ_cons, List.take_zero, List.drop_succ_cons, List.drop_zero, List.nil_append, List.cons_append, List.length_cons, List.length_nil, Nat.reduceAdd, List.append_assoc] at hs
            refine s_assign rfl rfl ?_
            refine WL_nil ?_
            refine n_then ?_
            refine W_seq ?_
            refine W_region ?_
            refine s_move rfl rfl ?_
            refine s_eql rfl rfl rfl ?_
            have hfin : CInv ([(g0, Blk 34 (ocells os ++ sp))] ++ oblks os) k p w0 w (i + 1) inn out rs (.slice sa rs.length sc) Ls := ⟨gs, _, LN2, hs.tail.tail, hN2, hS, hgk, hmv, hcount, by omega, by omega, hkn, hrd⟩
            refine WL_nil ?_
            refine n_then ?_
            refine W_cond_kf rfl (rfl) ?_
            refine W_skip ?_
            refine n_blk ?_
            refine n_loop ?_
            refine ⟨(_, _, _, _, _), ?_, hfin⟩
            exact ⟨rfl, rfl, rfl, rfl, rfl, rfl, trivial⟩
          · skip
            simp only [List.cons_append, List.nil_append, Msg.cells, Msg.blk] at hs ⊢
            refine s_move rfl rfl ?_
            refine s_extract rfl rfl rfl ?_
            refine s_extract rfl rfl rfl ?_
            refine s_alloc rfl AL32 hs ?_; clear hs; intro b13 w hs
            first
              | refine s_storeW Try.sizeOf32 rfl rfl rfl rfl hs (kk := 0) rfl rfl ?_
              | refine s_storeW Try.sizeOf32 rfl rfl rfl rfl hs (kk := 1) rfl rfl ?_
              | refine s_storeW Try.sizeOf32 rfl rfl rfl rfl hs (kk := 2) rfl rfl ?_
              | refine s_storeW Try.sizeOf32 rfl rfl rfl rfl hs (kk := 3) rfl rfl ?_
              | refine s_storeAB Try.sizeOf32 rfl rfl rfl rfl hs (kk := 0) rfl rfl ?_
              | refine s_storeAB Try.sizeOf32 rfl rfl rfl rfl hs (kk := 1) rfl rfl ?_
              | refine s_storeAB Try.sizeOf32 rfl rfl rfl rfl hs (kk := 2) rfl rfl ?_
              | refine s_storeAB Try.sizeOf32 rfl rfl rfl rfl hs (kk := 3) rfl rfl ?_
            clear hs; intro w hs; try simp only [List.set_cons_zero, List.set_cons_succ, splice, List.take_succ_cons, List.take_zero, List.drop_succ_cons, List.drop_zero, List.nil_append, List.cons_append, List.length_cons, List.length_nil, Nat.reduceAdd, List.append_assoc] at hs
            refine s_assign rfl rfl ?_
            refine WL_nil ?_
            refine n_then ?_
            refine W_seq ?_
            refine W_region ?_
            refine s_move rfl rfl ?_
            refine s_eql rfl rfl rfl ?_
            have hfin : CInv ([(g0, Blk 34 (ocells os ++ sp))] ++ oblks os) k p w0 w (i + 1) inn out rs (.slice sa rs.length sc) Ls := ⟨gs, _, LN2, hs.tail.tail, hN2, hS, hgk, hmv, hcount, by omega, by omega, hkn, hrd⟩
            refine WL_nil ?_
            refine n_then ?_
            refine W_cond_kf rfl (rfl) ?_
            refine W_skip ?_
            refine n_blk ?_
            refine n_loop ?_
            refine ⟨(_, _, _, _, _), ?_, hfin⟩
            exact ⟨rfl, rfl, rfl, rfl, rfl, rfl, trivial⟩
          · skip
            simp only [List.cons_append, List.nil_append, Msg.cells, Msg.blk] at hs ⊢
            refine s_move rfl rfl ?_
            refine s_extract rfl rfl rfl ?_
            refine s_extract rfl rfl rfl ?_
            refine s_alloc rfl AL32 hs ?_; clear hs; intro b13 w hs
            first
              | refine s_storeW Try.sizeOf32 rfl rfl rfl rfl hs (kk := 0) rfl rfl ?_
              | refine s_storeW Try.sizeOf32 rfl rfl rfl rfl hs (kk := 1) rfl rfl ?_
              | refine s_storeW Try.sizeOf32 rfl rfl rfl rfl hs (kk := 2) rfl rfl ?_
              | refine s_storeW Try.sizeOf32 rfl rfl rfl rfl hs (kk := 3) rfl rfl ?_
              | refine s_storeAB Try.sizeOf32 rfl rfl rfl rfl hs (kk := 0) rfl rfl ?_
              | refine s_storeAB Try.sizeOf32 rfl rfl rfl rfl hs (kk := 1) rfl rfl ?_
              | refine s_storeAB Try.sizeOf32 rfl rfl rfl rfl hs (kk := 2) rfl rfl ?_
              | refine s_storeAB Try.sizeOf32 rfl rfl rfl rfl hs (kk := 3) rfl rfl ?_
            clear hs; intro w hs; try simp only [List.set_cons_zero, List.set_cons_succ, splice, List.take_succ_cons, List.take_zero, List.drop_succ_cons, List.drop_zero, List.nil_append, List.cons_append, List.length_cons, List.length_nil, Nat.reduceAdd, List.append_assoc] at hs
            refine s_assign rfl rfl ?_
            refine WL_nil ?_
            refine n_then ?_
            refine W_seq ?_
            refine W_region ?_
            refine s_move rfl rfl ?_
            refine s_eql rfl rfl rfl ?_
            have hmm := hmv _ (List.mem_of_getElem? hm)
            obtain ⟨r0, hr0, hRI⟩ := hkn m (List.mem_of_getElem? hm)
            obtain ⟨jk, hjk⟩ := List.getElem?_of_mem hr0
            have hjl : jk < rs.length := (List.getElem?_eq_some_iff.1 hjk).1
            have hel := List.length_eraseIdx_of_lt (l := ms) (i := oI.toNat) (by omega)
            obtain ⟨gS, capS, spS, hvS, hcapS, hLS⟩ := hS.block (by omega)
            cases hvS
            subst hLS
            refine WL_nil ?_
            refine n_then ?_
            refine W_cond_kt rfl (rfl) ?_
            refine W_seq ?_
            refine W_region ?_
            refine s_move rfl rfl ?_
            first | (refine s_add' rfl rfl rfl ?hx ?_; case hx => (constructor <;> first | omega | (simp only; omega))) | refine s_add rfl rfl rfl ?_
            refine s_assign rfl rfl ?_
            refine WL_nil ?_
            refine n_then ?_
            refine W_seq ?_
            refine W_region ?_
            refine s_assign rfl rfl ?_
            refine WL_nil ?_
            refine n_then ?_
            refine W_seq ?_
            refine W_seq ?_
            refine W_region ?_
            refine s_assign rfl rfl ?_
            refine WL_nil ?_
            refine n_then ?_
            refine W_block ?_
            refine W_loop (σ := Nat × Bool) (fun s => [(5, .pointer (some ⟨p, 0, none⟩)), (7, .slice (some ⟨g0, 0, none⟩) os.length oc), (8, .int .i64 (inn : Int)), (9, .int .i64 ((out + 1 : Nat) : Int)), (10, .slice (some ⟨gS, 0, none⟩) rs.length sc), (11, .int .i64 (i : Int)), (13, .pointer (some ⟨b13, 0, none⟩)), (15, .bool s.2), (16, .int .i64 (s.1 : Int))])
              (fun s w => St [] w0 w ((b13, Blk 32 [.int .i64 m.f, .int .i64 m.t, .slice (some ⟨m.b, 0, none⟩) m.bs.length m.bs.length]) :: (b12, Blk 34 [.int .i64 kd, .int .i64 oI, .int .i64 f, .int .i64 t, .slice ba obs.length bc, .slice ga ogs.length gc]) :: (m.b, Blk 5 (u8s m.bs)) :: (LN3 ++ ([(gS, Blk 32 (rcells rs ++ spS))] ++ ([(g0, Blk 34 (ocells os ++ sp))] ++ oblks os)))) ∧ s.1 ≤ rs.length ∧ (jk < s.1 → s.2 = true)) (fun s => rs.length - s.1) (0, false) ⟨rfl, rfl, rfl, rfl, rfl, rfl, rfl, rfl, rfl, trivial⟩ ⟨hs, by simp, by simp⟩ ?_
            clear hs
            rintro ⟨j, known⟩ w ⟨hs, hjr, hkw⟩
            simp only at hjr hkw
            refine W_seq ?_
            refine W_seq ?_
            refine W_region ?_
            refine s_move rfl rfl ?_
            refine s_move rfl rfl ?_
            refine s_len rfl rfl (LN43 _ _ _ _) ?_
            refine s_lss rfl rfl rfl ?_
            refine WL_nil ?_
            refine n_then ?_
            refine W_cond rfl (fun hc73 => ?_) (fun hc73 => ?_)
            · skip
              simp only [decide_eq_true_eq, decide_eq_false_iff_not, beq_iff_eq, beq_eq_false_iff_ne, ne_eq] at hc73
              have hjr2 : j < rs.length := by omega
              have hrj : rs[j]? = some rs[j] := List.getElem?_eq_getElem hjr2
              obtain ⟨r, hr⟩ : ∃ r, rs[j]? = some r := ⟨_, hrj⟩
              have c0 : (rcells rs ++ spS)[0 + j * 3 + 0]? = some (.int .i64 r.f) := by rw [Nat.zero_add, List.getElem?_append_left (by rw [rcells_length]; omega)]; exact rcells_at (by omega) hr
              have c1 : (rcells rs ++ spS)[0 + j * 3 + 1]? = some (.int .i64 r.t) := by rw [Nat.zero_add, List.getElem?_append_left (by rw [rcells_length]; omega)]; exact rcells_at (by omega) hr
              have c2 : (rcells rs ++ spS)[0 + j * 3 + 2]? = some (.slice r.a r.n r.c) := by rw [Nat.zero_add, List.getElem?_append_left (by rw [rcells_length]; omega)]; exact rcells_at (by omega) hr
              obtain ⟨bs', hb2, hrn, hrsl, himp⟩ : ∃ bs' : List Int, bs'.length ≤ 2 ∧ r.n = bs'.length ∧ (∀ w : World, (∀ x ∈ [(g0, Blk 34 (ocells os ++ sp))] ++ oblks os, w.heap[x.1]? = some x.2) → Sl w (.slice r.a r.n r.c) bs'.length (u8s bs')) ∧ (j = jk → r.f = m.f ∧ r.t = m.t ∧ bs' = m.bs) := by
                by_cases hj9 : j = jk
                · subst hj9
                  rw [hr] at hjk; cases hjk
                  exact ⟨m.bs, hmm.2.2.2.2, hRI.2.2.1, hRI.2.2.2, fun _ => ⟨hRI.1, hRI.2.1, rfl⟩⟩
                · obtain ⟨bs', h1, h2, h3⟩ := hrd r (List.mem_of_getElem? hr)
                  exact ⟨bs', h1, h2, h3, fun h => absurd h hj9⟩
              refine W_skip ?_
              refine n_then ?_
              refine W_seq ?_
              refine W_block ?_
              refine W_draw [(0, true, []), (1, true, []), (2, true, []), (3, true, []), (4, true, []), (5, true, []), (6, true, []), (7, false, []), (8, true, []), (9, true, [])] MX (by kernel_rfl) ?_
              intro w1 hw1 hw2 hw3 hw4; replace hs := hs.redrawn hw1 hw2 hw3 hw4; clear hw1 hw2 hw3 hw4
              obtain ⟨w, rfl⟩ : ∃ w : World, w = w1 := ⟨_, rfl⟩
              refine D_q rfl rfl ?_
              refine s_move rfl rfl ?_
              refine D_qn ?_
              refine D_q rfl rfl ?_
              refine s_move rfl rfl ?_
              refine WL_case (s := 77) rfl (fun hg77 => ?_) (fun hg77 => ?_)
              · skip
                simp only [decide_eq_true_eq, decide_eq_false_iff_not, beq_iff_eq, beq_eq_false_iff_ne, ne_eq] at hg77
                refine D_qn ?_
                refine D_q rfl rfl ?_
                refine WL_skip rfl rfl rfl ?_
                refine D_qn ?_
                refine D_q rfl rfl ?_
                refine WL_skip rfl rfl rfl ?_
                refine D_qn ?_
                refine D_q rfl rfl ?_
                refine WL_skip rfl rfl rfl ?_
                refine D_qn ?_
                refine D_q rfl rfl ?_
                refine WL_skip rfl rfl rfl ?_
                refine D_qn ?_
                refine D_q rfl rfl ?_
                refine WL_skip rfl rfl rfl ?_
                refine D_qn ?_
                refine D_e rfl ?_
                refine WL_skip rfl rfl rfl ?_
                refine D_en ?re ?_
                case re =>
                  exact Reks_nil
                refine D_q rfl rfl ?_
                refine s_pick_t rfl rfl rfl ?_
                refine D_qn ?_
                refine D_q rfl rfl ?_
                refine s_assign rfl rfl ?_
                refine D_qn ?_
                refine D_nil ?_
                refine n_blk ?_
                refine n_then ?_
                refine W_region ?_
                refine s_move rfl rfl ?_
                first | (refine s_add' rfl rfl rfl ?hx ?_; case hx => (constructor <;> first | omega | (simp only; omega))) | refine s_add rfl rfl rfl ?_
                refine s_assign rfl rfl ?_
                refine WL_nil ?_
                refine n_loop ?_
                first
                  | exact ⟨(j + 1, true), ⟨rfl, rfl, rfl, rfl, rfl, rfl, rfl, rfl, rfl, trivial⟩, ⟨hs, hjr2, fun _ => rfl⟩, by show rs.length - (j + 1) < rs.length - j; omega⟩
                  | (refine ⟨(j + 1, decide (r.f = m.f ∧ r.t = m.t ∧ bs' = m.bs)), ⟨rfl, rfl, rfl, rfl, rfl, rfl, rfl, rfl, rfl, trivial⟩, ⟨hs, hjr2, fun h9 => ?_⟩, by show rs.length - (j + 1) < rs.length - j; omega⟩
                     simp only [decide_eq_true_eq]
                     by_cases hj9 : j = jk
                     · exact himp hj9
                     · have h8 := hkw (by simp only at h9; omega)
                       rw [hg77] at h8; cases h8)
              · skip
                simp only [decide_eq_true_eq, decide_eq_false_iff_not, beq_iff_eq, beq_eq_false_iff_ne, ne_eq] at hg77
                refine D_qn ?_
                refine D_q rfl rfl ?_
                refine WL_take rfl ?_
                refine s_move rfl rfl ?_
                refine D_qn ?_
                refine D_q rfl rfl ?_
                refine WL_take rfl ?_
                refine s_move rfl rfl ?_
                refine D_qn ?_
                refine D_q rfl rfl ?_
                refine WL_take rfl ?_
                (refine s_indexAddr El43 rfl rfl rfl ?hx ?_; case hx => (constructor <;> first | omega | (simp; omega)))
                refine D_qn ?_
                refine D_q rfl rfl ?_
                refine WL_take rfl ?_
                refine s_load_3 Try.isAgg32 Try.sizeOf32 rfl rfl ((St.reord [[_], [_], [_], LN3, [_], _] [4] [0, 1, 2, 3, 5] hs rfl).cell (k := 0) (fz := (0, 0)) rfl c0) ((St.reord [[_], [_], [_], LN3, [_], _] [4] [0, 1, 2, 3, 5] hs rfl).cell (k := 0) (fz := (0, 0)) rfl c1) ((St.reord [[_], [_], [_], LN3, [_], _] [4] [0, 1, 2, 3, 5] hs rfl).cell (k := 0) (fz := (0, 0)) rfl c2) ?_
                refine D_qn ?_
                refine D_q rfl rfl ?_
                refine WL_take rfl ?_
                first
                  | refine s_loadW Try.isAgg32 Try.sizeOf32 rfl rfl hs (kk := 0) rfl rfl ?_
                  | refine s_loadW Try.isAgg32 Try.sizeOf32 rfl rfl hs (kk := 1) rfl rfl ?_
                  | refine s_loadW Try.isAgg32 Try.sizeOf32 rfl rfl hs (kk := 2) rfl rfl ?_
                  | refine s_loadW Try.isAgg32 Try.sizeOf32 rfl rfl hs (kk := 3) rfl rfl ?_
                  | refine s_load_3 Try.isAgg32 Try.sizeOf32 rfl rfl (by first | exact hs.cell (k := 0) rfl rfl | exact hs.cell (k := 1) rfl rfl | exact hs.cell (k := 2) rfl rfl | exact hs.cell (k := 3) rfl rfl) (by first | exact hs.cell (k := 0) rfl rfl | exact hs.cell (k := 1) rfl rfl | exact hs.cell (k := 2) rfl rfl | exact hs.cell (k := 3) rfl rfl) (by first | exact hs.cell (k := 0) rfl rfl | exact hs.cell (k := 1) rfl rfl | exact hs.cell (k := 2) rfl rfl | exact hs.cell (k := 3) rfl rfl) ?_
                refine D_qn ?_
                refine D_e rfl ?_
                refine WL_take rfl ?_
                refine s_call Try.call16 rfl rfl (same_ok r.f r.t m.f m.t _ _ bs' m.bs w (hrsl w (fun x hx => hs.own x (List.mem_cons_of_mem _ (List.mem_cons_of_mem _ (List.mem_cons_of_mem _ (List.mem_append_right _ (List.mem_append_right _ hx))))))) (hs.sl (k := 2) (ds := u8s m.bs) rfl (Nat.le_refl _) (by intro j u hj; rw [Nat.zero_add]; exact hj)) (by omega)) ?_
                rintro r9 w ⟨hst, rfl⟩
                replace hs := hs.fwd1 hst
                clear hst
                refine D_en ?re ?_
                case re =>
                  exact Reks_nil
                refine D_q rfl rfl ?_
                refine s_pick_f rfl rfl rfl ?_
                refine D_qn ?_
                refine D_q rfl rfl ?_
                refine s_assign rfl rfl ?_
                refine D_qn ?_
                refine D_nil ?_
                refine n_blk ?_
                refine n_then ?_
                refine W_region ?_
                refine s_move rfl rfl ?_
                first | (refine s_add' rfl rfl rfl ?hx ?_; case hx => (constructor <;> first | omega | (simp only; omega))) | refine s_add rfl rfl rfl ?_
                refine s_assign rfl rfl ?_
                refine WL_nil ?_
                refine n_loop ?_
                first
                  | exact ⟨(j + 1, true), ⟨rfl, rfl, rfl, rfl, rfl, rfl, rfl, rfl, rfl, trivial⟩, ⟨hs, hjr2, fun _ => rfl⟩, by show rs.length - (j + 1) < rs.length - j; omega⟩
                  | (refine ⟨(j + 1, decide (r.f = m.f ∧ r.t = m.t ∧ bs' = m.bs)), ⟨rfl, rfl, rfl, rfl, rfl, rfl, rfl, rfl, rfl, trivial⟩, ⟨hs, hjr2, fun h9 => ?_⟩, by show rs.length - (j + 1) < rs.length - j; omega⟩
                     simp only [decide_eq_true_eq]
                     by_cases hj9 : j = jk
                     · exact himp hj9
                     · have h8 := hkw (by simp only at h9; omega)
                       rw [hg77] at h8; cases h8)
            · skip
              simp only [decide_eq_true_eq, decide_eq_false_iff_not, beq_iff_eq, beq_eq_false_iff_ne, ne_eq] at hc73
              refine W_exit ?_
              refine x_then ?_
              refine x_then ?_
              refine exit_hit ?_
              refine n_then ?_
              refine W_seq ?_
              refine W_region ?_
              refine s_move rfl rfl ?_
              refine s_not rfl rfl ?_
              have hfin : CInv ([(g0, Blk 34 (ocells os ++ sp))] ++ oblks os) k p w0 w (i + 1) inn (out + 1) rs (.slice (some ⟨gS, 0, none⟩) rs.length sc) [(gS, Blk 32 (rcells rs ++ spS))] := ⟨gs, _, LN3, hs.tail.tail.tail, hN2, hS, hgk, hmv.erase _, by rw [hel]; omega, by omega, by omega, fun x hx => hkn x (List.mem_of_mem_eraseIdx hx), hrd⟩
              refine WL_nil ?_
              refine n_then ?_
              refine W_cond_kf rfl ((by rw [hkw (by omega)]; rfl)) ?_
              refine W_skip ?_
              refine n_blk ?_
              refine n_loop ?_
              refine ⟨(_, _, _, _, _), ?_, hfin⟩
              exact ⟨rfl, rfl, rfl, rfl, rfl, rfl, trivial⟩
        · skip
          simp only [decide_eq_true_eq, decide_eq_false_iff_not, beq_iff_eq, beq_eq_false_iff_ne, ne_eq] at hc57
          refine W_seq ?_
          refine W_region ?_
          refine s_eql rfl rfl rfl ?_
          refine s_assign rfl rfl ?_
          refine WL_nil ?_
          refine n_then ?_
          refine W_cond rfl (fun hc87 => ?_) (fun hc87 => ?_)
          · skip
            simp only [decide_eq_true_eq, decide_eq_false_iff_not, beq_iff_eq, beq_eq_false_iff_ne, ne_eq] at hc87
            refine W_seq ?_
            refine W_region ?_
            refine s_move rfl rfl ?_
            refine s_fieldAddr rfl rfl (FA34_1 _ _) ?_
            first
              | refine s_load Try.isAgg3 rfl rfl (hs.cell (k := 0) rfl rfl) ?_
              | refine s_load Try.isAgg3 rfl rfl (hs.cell (k := 1) rfl rfl) ?_
              | refine s_load Try.isAgg3 rfl rfl (hs.cell (k := 2) rfl rfl) ?_
              | refine s_load Try.isAgg3 rfl rfl (hs.cell (k := 3) rfl rfl) ?_
            refine s_callL (M := [_]) (L1 := LN) Try.call17 rfl rfl hs (fun h => copy_all p gs ms oI LN w hN h (by omega) (by rw [hgk]; exact hmv)) ?_
            clear hs; intro v w LN2 h _ hs
            obtain ⟨hin, rfl, hN2⟩ | ⟨m, b9, hin, hm, rfl, hN2⟩ := h
            · skip
              simp only [List.cons_append, List.nil_append] at hs
              refine s_eql rfl rfl rfl ?_
              have hfin : CInv ([(g0, Blk 34 (ocells os ++ sp))] ++ oblks os) k p w0 w (i + 1) inn out rs (.slice sa rs.length sc) Ls := ⟨gs, _, LN2, hs.tail, hN2, hS, hgk, hmv, hcount, by omega, by omega, hkn, hrd⟩
              refine WL_nil ?_
              refine n_then ?_
              refine W_cond_kf rfl (rfl) ?_
              refine W_skip ?_
              refine n_blk ?_
              refine n_loop ?_
              refine ⟨(_, _, _, _, _), ?_, hfin⟩
              exact ⟨rfl, rfl, rfl, rfl, rfl, rfl, trivial⟩
            · skip
              simp only [List.cons_append, List.nil_append] at hs
              refine s_eql rfl rfl rfl ?_
              have hfin : CInv ([(g0, Blk 34 (ocells os ++ sp))] ++ oblks os) k p w0 w (i + 1) (inn + 1) out rs (.slice sa rs.length sc) Ls := by
                refine ⟨gs, _, LN2, hs.tail, hN2, hS, hgk, hmv.snoc (hmv m (List.mem_of_getElem? hm)), by simp; omega, by omega, by omega, ?_, hrd⟩
                intro x hx
                rcases List.mem_append.1 hx with h | h
                · exact hkn x h
                · simp at h; subst h; exact hkn m (List.mem_of_getElem? hm)
              refine WL_nil ?_
              refine n_then ?_
              refine W_cond_kt rfl (rfl) ?_
              refine W_region ?_
              refine s_move rfl rfl ?_
              first | (refine s_add' rfl rfl rfl ?hx ?_; case hx => (constructor <;> first | omega | (simp only; omega))) | refine s_add rfl rfl rfl ?_
              refine s_assign rfl rfl ?_
              refine WL_nil ?_
              refine n_blk ?_
              refine n_loop ?_
              refine ⟨(_, _, _, _, _), ?_, hfin⟩
              exact ⟨rfl, rfl, rfl, rfl, rfl, rfl, trivial⟩
          · skip
            simp only [decide_eq_true_eq, decide_eq_false_iff_not, beq_iff_eq, beq_eq_false_iff_ne, ne_eq] at hc87
            refine W_seq ?_
            refine W_region ?_
            refine s_eql rfl rfl rfl ?_
            refine s_assign rfl rfl ?_
            refine WL_nil ?_
            refine n_then ?_
            refine W_cond rfl (fun hc96 => ?_) (fun hc96 => ?_)
            · skip
              simp only [decide_eq_true_eq, decide_eq_false_iff_not, beq_iff_eq, beq_eq_false_iff_ne, ne_eq] at hc96
              refine W_seq ?_
              refine W_region ?_
              refine s_move rfl rfl ?_
              refine s_fieldAddr rfl rfl (FA34_1 _ _) ?_
              first
                | refine s_load Try.isAgg3 rfl rfl (hs.cell (k := 0) rfl rfl) ?_
                | refine s_load Try.isAgg3 rfl rfl (hs.cell (k := 1) rfl rfl) ?_
                | refine s_load Try.isAgg3 rfl rfl (hs.cell (k := 2) rfl rfl) ?_
                | refine s_load Try.isAgg3 rfl rfl (hs.cell (k := 3) rfl rfl) ?_
              refine s_callL (M := [_]) (L1 := LN) Try.call19 rfl rfl hs (fun h => drop_all p gs ms oI LN w hN h (by omega)) ?_
              clear hs; intro v w LN2 h _ hs
              obtain ⟨hin, rfl, hN2⟩ | ⟨hin, rfl, hN2⟩ := h
              · skip
                simp only [List.cons_append, List.nil_append] at hs
                refine s_eql rfl rfl rfl ?_
                have hfin : CInv ([(g0, Blk 34 (ocells os ++ sp))] ++ oblks os) k p w0 w (i + 1) inn out rs (.slice sa rs.length sc) Ls := ⟨gs, _, LN2, hs.tail, hN2, hS, hgk, hmv, hcount, by omega, by omega, hkn, hrd⟩
                refine WL_nil ?_
                refine n_then ?_
                refine W_cond_kf rfl (rfl) ?_
                refine W_skip ?_
                refine n_blk ?_
                refine n_loop ?_
                refine ⟨(_, _, _, _, _), ?_, hfin⟩
                exact ⟨rfl, rfl, rfl, rfl, rfl, rfl, trivial⟩
              · skip
                simp only [List.cons_append, List.nil_append] at hs
                refine s_eql rfl rfl rfl ?_
                have hel := List.length_eraseIdx_of_lt (l := ms) (i := oI.toNat) (by omega)
                have hfin : CInv ([(g0, Blk 34 (ocells os ++ sp))] ++ oblks os) k p w0 w (i + 1) inn (out + 1) rs (.slice sa rs.length sc) Ls := ⟨gs, _, LN2, hs.tail, hN2, hS, hgk, hmv.erase _, by rw [hel]; omega, by omega, by omega, fun x hx => hkn x (List.mem_of_mem_eraseIdx hx), hrd⟩
                refine WL_nil ?_
                refine n_then ?_
                refine W_cond_kt rfl (rfl) ?_
                refine W_region ?_
                refine s_move rfl rfl ?_
                first | (refine s_add' rfl rfl rfl ?hx ?_; case hx => (constructor <;> first | omega | (simp only; omega))) | refine s_add rfl rfl rfl ?_
                refine s_assign rfl rfl ?_
                refine WL_nil ?_
                refine n_blk ?_
                refine n_loop ?_
                refine ⟨(_, _, _, _, _), ?_, hfin⟩
                exact ⟨rfl, rfl, rfl, rfl, rfl, rfl, trivial⟩
            · skip
              simp only [decide_eq_true_eq, decide_eq_false_iff_not, beq_iff_eq, beq_eq_false_iff_ne, ne_eq] at hc96
              refine W_region ?_
              refine s_move rfl rfl ?_
              refine s_fieldAddr rfl rfl (FA34_3 _ _) ?_
              first
                | refine s_load Try.isAgg22 rfl rfl (hs.cell (k := 0) rfl rfl) ?_
                | refine s_load Try.isAgg22 rfl rfl (hs.cell (k := 1) rfl rfl) ?_
                | refine s_load Try.isAgg22 rfl rfl (hs.cell (k := 2) rfl rfl) ?_
                | refine s_load Try.isAgg22 rfl rfl (hs.cell (k := 3) rfl rfl) ?_
              refine s_callL (M := [_]) (L1 := LN) Try.call21 rfl rfl hs (fun h => part_all p gs ogs ms _ LN w hN h (own_slIn hog (fun x hx => hs.own x (List.mem_cons_of_mem _ (List.mem_append_right _ (List.mem_append_right _ (hLgY x hx))))))) ?_
              clear hs; intro v w LN2 h _ hs
              simp only [List.cons_append, List.nil_append] at hs
              have hfin : CInv ([(g0, Blk 34 (ocells os ++ sp))] ++ oblks os) k p w0 w (i + 1) inn out rs (.slice sa rs.length sc) Ls := by
                obtain ⟨hin, rfl, hN2⟩ | ⟨hin, rfl, hN2⟩ := h
                · exact ⟨gs, _, LN2, hs.tail, hN2, hS, hgk, hmv, hcount, by omega, by omega, hkn, hrd⟩
                · exact ⟨ogs, _, LN2, hs.tail, hN2, hS, by omega, hmv, hcount, by omega, by omega, hkn, hrd⟩
              refine WL_nil ?_
              refine n_blk ?_
              refine n_loop ?_
              refine ⟨(_, _, _, _, _), ?_, hfin⟩
              exact ⟨rfl, rfl, rfl, rfl, rfl, rfl, trivial⟩
    · skip
      clear hs hN hS hgk hmv hcount hinn hrl hkn hrd
      rintro ⟨inn, out, rs, sv, Ls⟩ w ⟨gs, ms, LN, hs, hN, hS, hgk, hmv, hcount, hinn, hrl, hkn, hrd⟩
      simp only at hs hS hcount hinn hrl hkn hrd
      refine W_seq ?_
      refine W_region ?_
      refine s_move rfl rfl ?_
      refine s_call Try.call23 rfl rfl (len_ok p _ _ LN w hN (hs.lendM (M := []))) ?_
      rintro r w ⟨rfl, rfl⟩
      refine s_move rfl rfl ?_
      refine s_move rfl rfl ?_
      first | (refine s_sub' rfl rfl rfl ?hx ?_; case hx => (constructor <;> first | omega | (simp only; omega))) | refine s_sub rfl rfl rfl ?_
      refine s_neq rfl rfl rfl ?_
      refine WL_nil ?_
      refine n_then ?_
      refine W_cond_kf rfl ((by simp; omega)) ?_
      refine W_skip ?_
      refine n_blk ?_
      refine n_then ?_
      refine W_region ?_
      refine s_move rfl rfl ?_
      first | (refine s_add' rfl rfl rfl ?hx ?_; case hx => (constructor <;> first | omega | (simp only; omega))) | refine s_add rfl rfl rfl ?_
      refine s_assign rfl rfl ?_
      refine WL_nil ?_
      refine n_loop ?_
      exact ⟨(i + 1, inn, out, rs, sv, Ls), ⟨rfl, rfl, rfl, rfl, rfl, rfl, trivial⟩, ⟨⟨gs, ms, LN, hs, hN, hS, hgk, hmv, hcount, hinn, hrl, hkn, hrd⟩, by show i + 1 ≤ os.length; omega⟩, by show os.length - (i + 1) < os.length - i; omega⟩
  · skip
    simp only [decide_eq_true_eq, decide_eq_false_iff_not, beq_iff_eq, beq_eq_false_iff_ne, ne_eq] at hc30
    refine W_exit ?_
    refine x_then ?_
    refine x_then ?_
    refine exit_hit ?_
    refine n_then ?_
    refine W_seq ?_
    refine W_region ?_
    refine s_call Try.call24 rfl rfl (lives_ok w) ?_
    rintro r w ⟨hst, rfl⟩
    replace hs := hs.fwd1 hst
    refine s_assign rfl rfl ?_
    refine WL_nil ?_
    refine n_then ?_
    refine W_ret ?_
    exact end1 rfl rfl ⟨hs.fwd, rfl⟩
end Go.Proofs.Ytgkdbiibbfipjaa
