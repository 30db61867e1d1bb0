/- A replica: Start, spread, answer, Committed. -/
import Derived.Test.YtkobigdfijeajaaRpB
set_option linter.unusedVariables false
set_option linter.unusedSimpArgs false
namespace Go.Proofs.Ytkobigdfijeajaa
open Go.SL
theorem own_made {e size n b : Nat} {cs : List Value} (hn : n ≤ maxLen) (h : cs.length = n * size) : OwnS e size (.slice (some ⟨b, 0, none⟩) n n) n cs [(b, Blk e cs)] := ⟨h, .inr ⟨b, n, [], rfl, Nat.le_refl _, hn, by simpa using h, by simp⟩⟩
theorem separate_ok (e : En) (v : Value) (w0 : World) (hv : Sl w0 v e.bs.length (u8s e.bs)) (hl : e.bs.length ≤ 4294967296) :
    Ret Try.prog 44 [.agg (Em.cells ⟨e, v⟩).toArray].toArray w0 fun r w' => ∃ v' Lr, r = .agg (Em.cells ⟨e, v'⟩).toArray ∧ OwnS 5 1 v' e.bs.length (u8s e.bs) Lr ∧ St [] w0 w' Lr := by
  obtain ⟨a, c, rfl, hac⟩ := hv.len_le
  refine Ret_start fun w hs => ?_
  simp only [Em.cells]
  refine Ret_of Try.func44 rfl Try.ntmps44 rfl ?_
  refine W_seq ?_
  refine W_region ?_
  first | refine s_box rfl rfl hs ?_
  clear hs; intro b1 w hs
  refine s_alloc rfl AL35 hs ?_; clear hs; intro b2 w hs
  refine WL_nil ?_
  refine n_then ?_
  refine W_seq ?_
  refine W_region ?_
  refine s_fieldAddr rfl rfl (FA35_2 _ _) ?_
  first
    | refine s_load Try.isAgg22 rfl rfl (hs.cell (k := 1) rfl rfl) ?_
  refine s_call Try.call43 rfl rfl (clone_ok _ e.bs w (hv.fwd0 hs.fwd) hl) ?_
  rintro r w ⟨Lr, hOr, hst⟩
  replace hs := hs.back0 hst
  clear hst
  obtain ⟨_, rc, ra, rfl, hrl⟩ := hOr.form
  subst hrl
  replace hs := hs.swap (A := Lr)
  simp only [List.cons_append, List.nil_append] at hs
  refine s_fieldAddr rfl rfl (FA35_2 _ _) ?_
  first
    | refine s_storeB Try.sizeOf22 rfl rfl rfl hs (kk := 1) rfl rfl ?_
  clear hs; intro w hs; try simp only [List.set_cons_zero, List.set_cons_succ, splice, List.take_succ_cons, List.take_zero, List.drop_succ_cons, List.drop_zero, List.nil_append, List.cons_append, List.length_cons, List.length_nil, Nat.reduceAdd, List.append_assoc] at hs
  refine WL_nil ?_
  refine n_then ?_
  refine W_seq ?_
  refine W_region ?_
  first
    | refine s_loadW Try.isAgg35 Try.sizeOf35 rfl rfl hs (kk := 1) rfl rfl ?_
  first
    | refine s_storeW Try.sizeOf35 rfl rfl rfl rfl hs (kk := 0) rfl rfl ?_
  clear hs; intro w hs; try simp only [List.set_cons_zero, List.set_cons_succ, splice, List.take_succ_cons, List.take_zero, List.drop_succ_cons, List.drop_zero, List.nil_append, List.cons_append, List.length_cons, List.length_nil, Nat.reduceAdd, List.append_assoc] at hs
  refine WL_nil ?_
  refine n_then ?_
  refine W_ret ?_
  exact end1 rfl (resOk_block Try.isAgg35 Try.sizeOf35 hs rfl (kk := 0) rfl rfl) ⟨_, Lr, rfl, hOr, hs.tail.tail⟩
theorem cloneE_ok (v : Value) (es : List Em) (LR : Hp) (w0 : World) (hv : Sl w0 v es.length (emcells es)) (hin : EmsIn es LR) (hR : ∀ q ∈ LR, w0.heap[q.1]? = some q.2) (hl : es.length ≤ 1000) :
    Ret Try.prog 46 [v].toArray w0 fun r w' => ∃ Lr, OwnS 35 6 r es.length (emcells es) Lr ∧ St [] w0 w' Lr := by
  obtain ⟨a, c, rfl, hc⟩ := hv.len_le
  have hone := hin.one w0 hR
  refine Ret_start fun w hs => ?_
  refine Ret_of Try.func46 rfl Try.ntmps46 rfl ?_
  refine W_seq ?_
  refine W_region ?_
  refine s_assign rfl rfl ?_
  refine WL_nil ?_
  refine n_then ?_
  refine W_seq ?_
  refine W_seq ?_
  refine W_region ?_
  refine s_move rfl rfl ?_
  refine s_eql_slice_nil Try.underlying43 rfl rfl rfl ?_
  refine WL_nil ?_
  refine n_then ?_
  refine W_cond rfl (fun hc4 => ?_) (fun hc4 => ?_)
  · skip
    refine W_seq ?_
    refine W_region ?_
    refine s_assign rfl rfl ?_
    refine WL_nil ?_
    refine n_then ?_
    refine W_ret ?_
    refine r_then ?_
    first
      | (refine end1 rfl rfl ⟨[], ?_, hs⟩
         have ha : a = none := by cases a <;> simp_all
         subst ha
         obtain ⟨a', c', h1, _, h2 | ⟨b, o, h2, _⟩⟩ := hv
         · have h9 := emcells_length es
           rw [h2] at h9
           have : es = [] := List.eq_nil_of_length_eq_zero (by simp only [List.length_nil] at h9; omega)
           subst this; exact OwnS.nil _ _
         · cases h1; cases h2)
  · skip
    refine W_skip ?_
    refine n_then ?_
    refine W_seq ?_
    refine W_region ?_
    refine s_buildSlice rfl rfl (BS43_0 ) hs ?_; clear hs; intro b5 w hs
    refine s_move rfl rfl ?_
    refine s_append El43 rfl rfl rfl (OwnS.bare _ _ _) hs (hv.fwd0 hs.fwd) (emcells_length es) hone (by omega) ?_
    clear hs; intro v' w Lv' hO hs
    simp only [Nat.zero_add, List.nil_append, List.append_nil] at hO
    refine s_assign rfl rfl ?_
    refine WL_nil ?_
    refine n_then ?_
    refine W_ret ?_
    first
      | exact end1 rfl rfl ⟨Lv', hO, hs.left⟩
theorem start_ok (id mem : Int) (w0 : World) :
    Ret Try.prog 8 [.int .i64 id, .int .i64 mem].toArray w0 fun r w' => (((mem < 1 ∨ 3 < mem ∨ id < 0 ∨ mem ≤ id) ∧ r = .tuple #[.pointer none, .int .i64 1] ∧ St [] w0 w' []) ∨ ((1 ≤ mem ∧ mem ≤ 3 ∧ 0 ≤ id ∧ id < mem) ∧ ∃ p L, r = .tuple #[.pointer (some ⟨p, 0, none⟩), .int .i64 0] ∧ RepAt p ⟨id.toNat, mem.toNat, 0, 0, 0, [], 0, fun _ => 0⟩ L ∧ St [] w0 w' L)) := by
  refine Ret_start fun w hs => ?_
  refine Ret_of Try.func8 rfl Try.ntmps8 rfl ?_
  refine W_seq ?_
  refine W_region ?_
  refine s_assign rfl rfl ?_
  refine s_assign rfl rfl ?_
  refine WL_nil ?_
  refine n_then ?_
  refine W_seq ?_
  refine W_seq ?_
  refine W_region ?_
  refine s_move rfl rfl ?_
  refine s_lss rfl rfl rfl ?_
  refine s_move rfl rfl ?_
  refine WL_case (s := 8) rfl (fun hg8 => ?_) (fun hg8 => ?_)
  · skip
    try simp only [decide_eq_true_eq, decide_eq_false_iff_not] at hg8
    refine WL_skip rfl rfl rfl ?_
    refine WL_skip rfl rfl rfl ?_
    refine s_pick_t rfl rfl rfl ?_
    refine s_move rfl rfl ?_
    refine WL_skip rfl rfl rfl ?_
    refine WL_skip rfl rfl rfl ?_
    refine s_pick_t rfl rfl rfl ?_
    refine s_move rfl rfl ?_
    refine WL_skip rfl rfl rfl ?_
    refine WL_skip rfl rfl rfl ?_
    refine WL_skip rfl rfl rfl ?_
    refine s_pick_t rfl rfl rfl ?_
    refine WL_nil ?_
    refine n_then ?_
    refine W_cond_t rfl ?_
    refine W_seq ?_
    refine W_region ?_
    refine s_assign rfl rfl ?_
    refine s_assign rfl rfl ?_
    refine WL_nil ?_
    refine n_then ?_
    refine W_ret ?_
    refine r_then ?_
    first
      | exact end2 rfl rfl rfl (.inl ⟨by omega, rfl, hs⟩)
  · skip
    try simp only [decide_eq_true_eq, decide_eq_false_iff_not] at hg8
    refine WL_take rfl ?_
    refine s_move rfl rfl ?_
    refine WL_take rfl ?_
    refine s_gtr rfl rfl rfl ?_
    refine s_pick_f rfl rfl rfl ?_
    refine s_move rfl rfl ?_
    refine WL_case (s := 12) rfl (fun hg12 => ?_) (fun hg12 => ?_)
    · skip
      try simp only [decide_eq_true_eq, decide_eq_false_iff_not] at hg12
      refine WL_skip rfl rfl rfl ?_
      refine WL_skip rfl rfl rfl ?_
      refine s_pick_t rfl rfl rfl ?_
      refine s_move rfl rfl ?_
      refine WL_skip rfl rfl rfl ?_
      refine WL_skip rfl rfl rfl ?_
      refine WL_skip rfl rfl rfl ?_
      refine s_pick_t rfl rfl rfl ?_
      refine WL_nil ?_
      refine n_then ?_
      refine W_cond_t rfl ?_
      refine W_seq ?_
      refine W_region ?_
      refine s_assign rfl rfl ?_
      refine s_assign rfl rfl ?_
      refine WL_nil ?_
      refine n_then ?_
      refine W_ret ?_
      refine r_then ?_
      first
        | exact end2 rfl rfl rfl (.inl ⟨by omega, rfl, hs⟩)
    · skip
      try simp only [decide_eq_true_eq, decide_eq_false_iff_not] at hg12
      refine WL_take rfl ?_
      refine s_move rfl rfl ?_
      refine WL_take rfl ?_
      refine s_lss rfl rfl rfl ?_
      refine s_pick_f rfl rfl rfl ?_
      refine s_move rfl rfl ?_
      refine WL_case (s := 16) rfl (fun hg16 => ?_) (fun hg16 => ?_)
      · skip
        try simp only [decide_eq_true_eq, decide_eq_false_iff_not] at hg16
        refine WL_skip rfl rfl rfl ?_
        refine WL_skip rfl rfl rfl ?_
        refine WL_skip rfl rfl rfl ?_
        refine s_pick_t rfl rfl rfl ?_
        refine WL_nil ?_
        refine n_then ?_
        refine W_cond_t rfl ?_
        refine W_seq ?_
        refine W_region ?_
        refine s_assign rfl rfl ?_
        refine s_assign rfl rfl ?_
        refine WL_nil ?_
        refine n_then ?_
        refine W_ret ?_
        refine r_then ?_
        first
          | exact end2 rfl rfl rfl (.inl ⟨by omega, rfl, hs⟩)
      · skip
        try simp only [decide_eq_true_eq, decide_eq_false_iff_not] at hg16
        refine WL_take rfl ?_
        refine s_move rfl rfl ?_
        refine WL_take rfl ?_
        refine s_move rfl rfl ?_
        refine WL_take rfl ?_
        refine s_geq rfl rfl rfl ?_
        refine s_pick_f rfl rfl rfl ?_
        refine WL_nil ?_
        refine n_then ?_
        refine W_cond rfl (fun hc20 => ?_) (fun hc20 => ?_)
        · skip
          try simp only [decide_eq_true_eq, decide_eq_false_iff_not] at hc20
          refine W_seq ?_
          refine W_region ?_
          refine s_assign rfl rfl ?_
          refine s_assign rfl rfl ?_
          refine WL_nil ?_
          refine n_then ?_
          refine W_ret ?_
          refine r_then ?_
          first
            | exact end2 rfl rfl rfl (.inl ⟨by omega, rfl, hs⟩)
        · skip
          try simp only [decide_eq_true_eq, decide_eq_false_iff_not] at hc20
          refine W_skip ?_
          refine n_then ?_
          refine W_seq ?_
          refine W_region ?_
          refine s_move rfl rfl ?_
          refine s_move rfl rfl ?_
          refine s_build rfl rfl (BD89_0_1 _ _) ?_
          first | refine s_box rfl rfl hs ?_
          clear hs; intro b24 w hs
          refine s_assign rfl rfl ?_
          refine s_assign rfl rfl ?_
          refine WL_nil ?_
          refine n_then ?_
          refine W_ret ?_
          first
            | (have hr : 1 ≤ mem ∧ mem ≤ 3 ∧ 0 ≤ id ∧ id < mem := by omega
               have e1 : ((id.toNat : Nat) : Int) = id := by omega
               have e2 : ((mem.toNat : Nat) : Int) = mem := by omega
               refine end2 rfl rfl rfl (.inr ⟨hr, _, _, rfl, ⟨.slice none 0 0, .map none, .map none, [], [], [], [], [], by simp only [List.nil_append, rpCells]; rw [e1, e2]; rfl, ⟨OwnS.nil _ _, nofun, rfl⟩, .inl ⟨rfl, rfl, by simp⟩, by simp, ⟨_, rfl⟩, ⟨?_, ?_, ?_, ?_, ?_, ?_, ?_, ?_, ?_⟩⟩, hs⟩)
               all_goals first | (simp only; omega) | simp)
theorem spread_ok (p : Nat) (R : Rp) (L : Hp) (w0 : World) (h : RepAt p R L) (hR : ∀ q ∈ L, w0.heap[q.1]? = some q.2) :
    Ret Try.prog 37 [.pointer (some ⟨p, 0, none⟩)].toArray w0 fun r w' => ∃ Lr, MsAt r (R.others R.spreadM) Lr ∧ St [] w0 w' Lr := by
  obtain ⟨lv, vv, av, es, LB, LP, LV, LA, rfl, ⟨hO, hE, hl⟩, -, -, -, hok⟩ := h
  have hp := hR _ List.mem_cons_self
  have hv : Sl w0 lv es.length (emcells es) := OwnS_slIn hO fun q hq => hR q (by simp [hq])
  have hP : ∀ q ∈ LP, w0.heap[q.1]? = some q.2 := fun q hq => hR q (by simp [hq])
  have hB := (Array.getElem?_eq_some_iff.1 hp).1
  have c2 := cell_blk (i := 2) hp rfl
  have c5 := cell_blk (i := 5) hp rfl
  have c6 := cell_blk (i := 6) hp rfl
  obtain ⟨a, c, rfl, hac⟩ := hv.len_le
  refine Ret_start fun w hs => ?_
  refine Ret_of Try.func37 rfl Try.ntmps37 rfl ?_
  refine W_seq ?_
  refine W_region ?_
  refine s_assign rfl rfl ?_
  refine WL_nil ?_
  refine n_then ?_
  refine W_seq ?_
  refine W_draw [(0, true, []), (1, true, []), (2, true, []), (3, true, []), (4, true, []), (5, true, []), (6, true, []), (7, true, []), (8, true, []), (9, true, []), (10, true, []), (11, true, []), (12, true, []), (13, true, []), (14, false, []), (15, true, [])] [[], [], [1], [1, 2], [1, 2, 3], [], [5], [5, 6], [5, 6, 7], [], [9], [9, 10], [9, 10, 11], [1, 2, 3, 4, 5, 6, 7, 8, 9, 10, 11, 12], [0, 1, 2, 3, 4, 5, 6, 7, 8, 9, 10, 11, 12, 13], [0, 1, 2, 3, 4, 5, 6, 7, 8, 9, 10, 11, 12, 13, 14]] MX (by kernel_rfl) ?_
  intro w1 hw1 hw2 hw3 hw4; replace hs := hs.redrawn hw1 hw2 hw3 hw4; clear hw1 hw2 hw3 hw4
  obtain ⟨w, rfl⟩ : ∃ w : World, w = w1 := ⟨_, rfl⟩
  refine D_q rfl rfl ?_
  refine s_move rfl rfl ?_
  refine D_qn ?_
  refine D_q rfl rfl ?_
  refine s_move rfl rfl ?_
  refine D_qn ?_
  refine D_q rfl rfl ?_
  refine s_nilCheck rfl rfl ?_
  refine D_qn ?_
  refine D_q rfl rfl ?_
  refine s_fieldAddr rfl rfl (FA89_2 _ _) ?_
  refine D_qn ?_
  refine D_q rfl rfl ?_
  refine s_load Try.isAgg3 rfl rfl ((hs.oldcell (a := ⟨p, 2, none⟩) hB (by simp)).trans c2) ?_
  refine D_qn ?_
  refine D_q rfl rfl ?_
  refine s_move rfl rfl ?_
  refine D_qn ?_
  refine D_q rfl rfl ?_
  refine s_nilCheck rfl rfl ?_
  refine D_qn ?_
  refine D_q rfl rfl ?_
  refine s_fieldAddr rfl rfl (FA89_6 _ _) ?_
  refine D_qn ?_
  refine D_q rfl rfl ?_
  refine s_load Try.isAgg3 rfl rfl ((hs.oldcell (a := ⟨p, 6, none⟩) hB (by simp)).trans c6) ?_
  refine D_qn ?_
  refine D_q rfl rfl ?_
  refine s_move rfl rfl ?_
  refine D_qn ?_
  refine D_q rfl rfl ?_
  refine s_nilCheck rfl rfl ?_
  refine D_qn ?_
  refine D_q rfl rfl ?_
  refine s_fieldAddr rfl rfl (FA89_5 _ _) ?_
  refine D_qn ?_
  refine D_q rfl rfl ?_
  refine s_load Try.isAgg43 rfl rfl ((hs.oldcell (a := ⟨p, 5, none⟩) hB (by simp)).trans c5) ?_
  refine D_qn ?_
  refine D_q rfl rfl ?_
  refine s_build rfl rfl (BD94_0_2_4_6 _ _ _ _ _ _) ?_
  refine D_qn ?_
  refine D_e rfl ?_
  refine s_call Try.call40 rfl rfl (others_ok p R _ R.spreadM _ es LP w ((hs.old hB (by simp)).trans hp) rfl rfl hok.m3 (hv.fwd0 hs.fwd) hE (hs.oldH hP (by simp)) hl hok.spread) ?_
  rintro r w ⟨Lr, hM, hst⟩
  replace hs := hs.back0 hst
  clear hst
  rw [List.append_nil] at hs
  refine D_en ?re ?_
  case re =>
    exact Reks_nil
  refine D_q rfl rfl ?_
  refine s_assign rfl rfl ?_
  refine D_qn ?_
  refine D_nil ?_
  refine n_then ?_
  refine W_ret ?_
  exact end1 rfl rfl ⟨Lr, hM, hs⟩
theorem answer_ok (p : Nat) (id to : Nat) (cs : List Value) (m : Mg) (lv : Value) (es : List Em) (LR : Hp) (w0 : World) (hp : w0.heap[p]? = some (Blk 89 cs)) (h0 : cs[0]? = some (.int .i64 (id : Int)))
    (hv : Sl w0 lv es.length (emcells es)) (hin : EmsIn es LR) (hR : ∀ q ∈ LR, w0.heap[q.1]? = some q.2) (hl : ens es = m.log) (hm : m.ok) :
    Ret Try.prog 73 [.pointer (some ⟨p, 0, none⟩), .int .i64 (to : Int), .agg (mesCells m 0 lv).toArray].toArray w0 fun r w' => ∃ Lr, MsAt r [⟨id, to, m⟩] Lr ∧ St [] w0 w' Lr := by
  have c0 := cell_blk hp h0
  have hB := (Array.getElem?_eq_some_iff.1 hp).1
  obtain ⟨a, c, rfl, hac⟩ := hv.len_le
  refine Ret_start fun w hs => ?_
  refine Ret_of Try.func73 rfl Try.ntmps73 rfl ?_
  refine W_seq ?_
  refine W_region ?_
  first | refine s_box rfl rfl hs ?_
  clear hs; intro b5 w hs
  refine s_assign rfl rfl ?_
  refine WL_nil ?_
  refine n_then ?_
  refine W_seq ?_
  refine W_draw [(0, true, []), (1, true, []), (2, true, []), (3, true, []), (4, true, []), (5, true, []), (6, false, [0, 1, 2, 3, 4]), (7, true, []), (8, false, []), (9, true, [])] [[], [0], [0, 1], [0, 1, 2], [], [], [5], [0, 1, 2, 3, 4, 5, 6], [0, 1, 2, 3, 4, 5, 6, 7], [0, 1, 2, 3, 4, 5, 6, 7, 8]] MX (by kernel_rfl) ?_
  intro w1 hw1 hw2 hw3 hw4; replace hs := hs.redrawn hw1 hw2 hw3 hw4; clear hw1 hw2 hw3 hw4
  obtain ⟨w, rfl⟩ : ∃ w : World, w = w1 := ⟨_, rfl⟩
  refine D_q rfl rfl ?_
  refine s_move rfl rfl ?_
  refine D_qn ?_
  refine D_q rfl rfl ?_
  refine s_nilCheck rfl rfl ?_
  refine D_qn ?_
  refine D_q rfl rfl ?_
  refine s_fieldAddr rfl rfl (FA89_0 _ _) ?_
  refine D_qn ?_
  refine D_q rfl rfl ?_
  refine s_load Try.isAgg3 rfl rfl ((hs.oldcell (a := ⟨p, 0, none⟩) hB (by simp)).trans c0) ?_
  refine D_qn ?_
  refine D_q rfl rfl ?_
  refine s_move rfl rfl ?_
  refine D_qn ?_
  refine D_q rfl rfl ?_
  first
    | refine s_loadW Try.isAgg94 Try.sizeOf94 rfl rfl hs (kk := 0) rfl rfl ?_
  refine D_qn ?_
  refine D_e rfl ?_
  refine s_call Try.call64 rfl rfl (mEncode_ok m 0 _ es LR w (hv.fwd0 hs.fwd) hin (hs.oldH hR (by simp)) hl hm) ?_
  rintro r w ⟨Lr, hOr, hst⟩
  replace hs := St.back0 hs hst
  clear hst
  obtain ⟨_, rc, ra, rfl, hrl⟩ := hOr.form
  subst hrl
  refine D_en ?re ?_
  case re =>
    refine Reks_cons rfl rfl rfl rfl ?_ ?_
    · skip
      refine s_move rfl rfl ?_
      exact Rek_end rfl
    refine Reks_cons rfl rfl rfl rfl ?_ ?_
    · skip
      refine s_nilCheck rfl rfl ?_
      exact Rek_end rfl
    refine Reks_cons rfl rfl rfl rfl ?_ ?_
    · skip
      refine s_fieldAddr rfl rfl (FA89_0 _ _) ?_
      exact Rek_end rfl
    refine Reks_cons rfl rfl rfl rfl ?_ ?_
    · skip
      refine s_load Try.isAgg3 rfl rfl ((hs.oldcell (a := ⟨p, 0, none⟩) hB (by simp)).trans c0) ?_
      exact Rek_end rfl
    refine Reks_cons rfl rfl rfl rfl ?_ ?_
    · skip
      refine s_move rfl rfl ?_
      exact Rek_end rfl
    exact Reks_nil
  refine D_q rfl rfl ?_
  refine s_build rfl rfl (BD56_0_1_2 _ _ _ _ _) ?_
  refine D_qn ?_
  refine D_e rfl ?_
  refine s_buildSlice rfl rfl (BS29_1 _ _ _) hs ?_; clear hs; intro b15 w hs
  refine D_en ?re ?_
  case re =>
    exact Reks_nil
  refine D_q rfl rfl ?_
  refine s_assign rfl rfl ?_
  refine D_qn ?_
  refine D_nil ?_
  refine n_then ?_
  refine W_ret ?_
  refine end1 rfl rfl ⟨[_] ++ Lr, ⟨[⟨⟨id, to, m⟩, .slice ra (mesB m).length rc⟩], [_], Lr, rfl, ?_, fun x hx => by obtain rfl := List.mem_singleton.1 hx; exact hOr.rdS, rfl⟩, hs.left (M := [_])⟩
  exact own_made (n := 1) (by decide) rfl
end Go.Proofs.Ytkobigdfijeajaa
