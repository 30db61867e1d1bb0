/- WireReads. -/
import Derived.Test.YtheeheahhnamjaaWirI
import Derived.Test.YtheeheahhnamjaaWirO
set_option linter.unusedVariables false
set_option linter.unusedSimpArgs false
namespace Go.Proofs.Ytheeheahhnamjaa
open Go.SL
set_option maxHeartbeats 2000000 in
theorem fRRead_ok (q : Nat) (s : RS) (k : Int) (Ls L0 : Hp) (w0 : World) (hR : RfAt q s Ls L0) (hs : St (ids L0) w0 w0 L0) (hsrc : ∀ p ∈ Ls, w0.heap[p.1]? = some p.2) (hq : q ∉ ids Ls) :
    Ret Try.prog 24 [.pointer (some ⟨q, 0, none⟩), .int .i64 k].toArray w0 fun r w' => ∃ L', St (ids L0) w0 w' L' ∧ ∃ (LR Lr : Hp) (x : VV), L' = LR ++ Lr ∧ r = .agg x.cells.toArray ∧ RfAt q (rdV k s).2 Ls LR ∧ x.p = (rdV k s).1 ∧ RdS x.bv x.p.bs.length (u8s x.p.bs) Ls ∧ RdS x.lv x.p.ls.length (i64s x.p.ls) Lr := by
  have nilB : ∀ L : Hp, RdS (.slice none 0 0) 0 ([] : List Value) L := fun L => ⟨fun _ _ => ⟨none, 0, rfl, Nat.le_refl _, .inl rfl⟩, fun a m c h => by cases h⟩
  refine Ret_startL hs fun w hs => ?_
  refine Ret_of Try.func24 rfl Try.ntmps24 rfl ?_
  refine W_seq ?_
  refine W_region ?_
  refine s_alloc rfl AL47 hs ?_; clear hs; intro b4 w hs
  refine WL_nil ?_
  refine n_then ?_
  refine W_seq ?_
  refine W_region ?_
  refine s_move rfl rfl ?_
  refine s_build rfl rfl (BD47_0 _) ?_
  refine s_alloc rfl AL47 hs ?_; clear hs; intro b5 w hs
  first
    | refine s_storeW Try.sizeOf47 rfl rfl rfl rfl hs (kk := 0) rfl rfl ?_
    | refine s_storeW Try.sizeOf47 rfl rfl rfl rfl hs (kk := 1) rfl rfl ?_
    | refine s_storeW Try.sizeOf47 rfl rfl rfl rfl hs (kk := 2) rfl rfl ?_
    | refine s_storeAB Try.sizeOf47 rfl rfl rfl rfl hs (kk := 0) rfl rfl ?_
    | refine s_storeAB Try.sizeOf47 rfl rfl rfl rfl hs (kk := 1) rfl rfl ?_
    | refine s_storeAB Try.sizeOf47 rfl rfl rfl rfl hs (kk := 2) rfl rfl ?_
  clear hs; intro w hs; try simp only [List.set_cons_zero, List.set_cons_succ, splice, List.take_succ_cons, List.take_zero, List.drop_succ_cons, List.drop_zero, List.nil_append, List.cons_append, List.length_cons, List.length_nil, Nat.reduceAdd, List.append_assoc] at hs
  refine WL_nil ?_
  refine n_then ?_
  refine W_seq ?_
  refine W_seq ?_
  refine W_region ?_
  refine s_move rfl rfl ?_
  refine WL_nil ?_
  refine n_then ?_
  refine W_block ?_
  refine W_seq ?_
  refine W_region ?_
  refine s_eql rfl rfl rfl ?_
  refine s_assign rfl rfl ?_
  refine WL_nil ?_
  refine n_then ?_
  refine W_cond rfl (fun hc13 => ?_) (fun hc13 => ?_)
  · skip
    try simp only [beq_iff_eq, beq_eq_false_iff_ne, ne_eq] at hc13
    refine W_region ?_
    refine s_move rfl rfl ?_
    refine s_callL (M := [_, _]) (L1 := L0) (X := []) Try.call49 rfl rfl (by simpa using hs) (fun h => fRUint_ok q s Ls L0 w hR h (src_kept hR.ids hsrc hq hs) hq) ?_
    clear hs; rintro v w L2 ⟨hR2', rfl⟩ - hs
    have hR2 := RfAt_of hR2'
    simp only [List.append_nil, List.cons_append, List.nil_append] at hs
    refine s_fieldAddr rfl rfl (FA47_1 _ _) ?_
    first
      | refine s_storeB Try.sizeOf22 rfl rfl rfl hs (kk := 0) rfl rfl ?_
      | refine s_storeB Try.sizeOf22 rfl rfl rfl hs (kk := 1) rfl rfl ?_
      | refine s_storeB Try.sizeOf22 rfl rfl rfl hs (kk := 2) rfl rfl ?_
    clear hs; intro w hs; try simp only [List.set_cons_zero, List.set_cons_succ, splice, List.take_succ_cons, List.take_zero, List.drop_succ_cons, List.drop_zero, List.nil_append, List.cons_append, List.length_cons, List.length_nil, Nat.reduceAdd, List.append_assoc] at hs
    refine WL_nil ?_
    refine n_blk ?_
    refine n_then ?_
    refine W_seq ?_
    refine W_region ?_
    first
      | refine s_loadW Try.isAgg47 Try.sizeOf47 rfl rfl hs (kk := 0) rfl rfl ?_
      | refine s_loadW Try.isAgg47 Try.sizeOf47 rfl rfl hs (kk := 1) rfl rfl ?_
      | refine s_loadW Try.isAgg47 Try.sizeOf47 rfl rfl hs (kk := 2) rfl rfl ?_
      | refine s_load_5 Try.isAgg47 Try.sizeOf47 rfl rfl (by first | exact hs.cell (k := 0) rfl rfl | exact hs.cell (k := 1) rfl rfl | exact hs.cell (k := 2) rfl rfl) (by first | exact hs.cell (k := 0) rfl rfl | exact hs.cell (k := 1) rfl rfl | exact hs.cell (k := 2) rfl rfl) (by first | exact hs.cell (k := 0) rfl rfl | exact hs.cell (k := 1) rfl rfl | exact hs.cell (k := 2) rfl rfl) (by first | exact hs.cell (k := 0) rfl rfl | exact hs.cell (k := 1) rfl rfl | exact hs.cell (k := 2) rfl rfl) (by first | exact hs.cell (k := 0) rfl rfl | exact hs.cell (k := 1) rfl rfl | exact hs.cell (k := 2) rfl rfl) ?_
    first
      | refine s_storeW Try.sizeOf47 rfl rfl rfl rfl hs (kk := 0) rfl rfl ?_
      | refine s_storeW Try.sizeOf47 rfl rfl rfl rfl hs (kk := 1) rfl rfl ?_
      | refine s_storeW Try.sizeOf47 rfl rfl rfl rfl hs (kk := 2) rfl rfl ?_
      | refine s_storeAB Try.sizeOf47 rfl rfl rfl rfl hs (kk := 0) rfl rfl ?_
      | refine s_storeAB Try.sizeOf47 rfl rfl rfl rfl hs (kk := 1) rfl rfl ?_
      | refine s_storeAB Try.sizeOf47 rfl rfl rfl rfl hs (kk := 2) rfl rfl ?_
    clear hs; intro w hs; try simp only [List.set_cons_zero, List.set_cons_succ, splice, List.take_succ_cons, List.take_zero, List.drop_succ_cons, List.drop_zero, List.nil_append, List.cons_append, List.length_cons, List.length_nil, Nat.reduceAdd, List.append_assoc] at hs
    refine WL_nil ?_
    refine n_then ?_
    refine W_ret ?_
    refine end1 rfl (resOk_block Try.isAgg47 Try.sizeOf47 hs rfl (kk := 1) rfl rfl) ?_
    first
      | (have hV : rdV k s = (⟨k, (rdU s).1, 0, [], []⟩, (rdU s).2) := by rw [rdV, if_pos ‹_›]
         rw [hV]
         exact ⟨_, hs.tail.tail, L2, [], ⟨⟨k, (rdU s).1, 0, [], []⟩, .slice none 0 0, [], .slice none 0 0, []⟩, by simp, rfl, hR2, rfl, nilB _, nilB _⟩)
      | (have hV : rdV k s = (⟨k, 0, (rdI s).1, [], []⟩, (rdI s).2) := by rw [rdV, if_neg (by omega), if_pos ‹_›]
         rw [hV]
         exact ⟨_, hs.tail.tail, L2, [], ⟨⟨k, 0, (rdI s).1, [], []⟩, .slice none 0 0, [], .slice none 0 0, []⟩, by simp, rfl, hR2, rfl, nilB _, nilB _⟩)
      | (have hV : rdV k s = (⟨k, 0, if (rdB s).1 then 1 else 0, [], []⟩, (rdB s).2) := by rw [rdV, if_neg (by omega), if_neg (by omega), if_pos ‹_›]
         rw [hV]
         refine ⟨_, hs.tail.tail, L2, [], ⟨⟨k, 0, if (rdB s).1 then 1 else 0, [], []⟩, .slice none 0 0, [], .slice none 0 0, []⟩, by simp, ?_, hR2, rfl, nilB _, nilB _⟩
         simp only [VV.cells, hc27]; rfl)
      | (have hV : rdV k s = (⟨k, 0, 0, (rdRaw s).1, []⟩, (rdRaw s).2) := by rw [rdV, if_neg (by omega), if_neg (by omega), if_neg (by omega), if_pos (by omega)]
         rw [hV]
         exact ⟨_, hs.tail.tail, L2, [], ⟨⟨k, 0, 0, (rdRaw s).1, []⟩, .slice va (rdRaw s).1.length vc, [], .slice none 0 0, []⟩, by simp, rfl, hR2, rfl, hrdS, nilB _⟩)
      | (have hV : rdV k s = (⟨k, 0, 0, [], (rdInts s).1⟩, (rdInts s).2) := by rw [rdV, if_neg (by omega), if_neg (by omega), if_neg (by omega), if_neg (by omega)]
         rw [hV]
         exact ⟨_, hs.tail.tail, LR, Lr, ⟨⟨k, 0, 0, [], (rdInts s).1⟩, .slice none 0 0, [], .slice va (rdInts s).1.length vc, []⟩, rfl, rfl, hR2, rfl, nilB _, hOr.rdS⟩)
  · skip
    try simp only [beq_iff_eq, beq_eq_false_iff_ne, ne_eq] at hc13
    refine W_seq ?_
    refine W_region ?_
    refine s_eql rfl rfl rfl ?_
    refine s_assign rfl rfl ?_
    refine WL_nil ?_
    refine n_then ?_
    refine W_cond rfl (fun hc18 => ?_) (fun hc18 => ?_)
    · skip
      try simp only [beq_iff_eq, beq_eq_false_iff_ne, ne_eq] at hc18
      refine W_region ?_
      refine s_move rfl rfl ?_
      refine s_callL (M := [_, _]) (L1 := L0) (X := []) Try.call50 rfl rfl (by simpa using hs) (fun h => fRInt_ok q s Ls L0 w hR h (src_kept hR.ids hsrc hq hs) hq) ?_
      clear hs; rintro v w L2 ⟨hR2, rfl⟩ - hs
      simp only [List.append_nil, List.cons_append, List.nil_append] at hs
      refine s_fieldAddr rfl rfl (FA47_2 _ _) ?_
      first
        | refine s_storeB Try.sizeOf3 rfl rfl rfl hs (kk := 0) rfl rfl ?_
        | refine s_storeB Try.sizeOf3 rfl rfl rfl hs (kk := 1) rfl rfl ?_
        | refine s_storeB Try.sizeOf3 rfl rfl rfl hs (kk := 2) rfl rfl ?_
      clear hs; intro w hs; try simp only [List.set_cons_zero, List.set_cons_succ, splice, List.take_succ_cons, List.take_zero, List.drop_succ_cons, List.drop_zero, List.nil_append, List.cons_append, List.length_cons, List.length_nil, Nat.reduceAdd, List.append_assoc] at hs
      refine WL_nil ?_
      refine n_blk ?_
      refine n_then ?_
      refine W_seq ?_
      refine W_region ?_
      first
        | refine s_loadW Try.isAgg47 Try.sizeOf47 rfl rfl hs (kk := 0) rfl rfl ?_
        | refine s_loadW Try.isAgg47 Try.sizeOf47 rfl rfl hs (kk := 1) rfl rfl ?_
        | refine s_loadW Try.isAgg47 Try.sizeOf47 rfl rfl hs (kk := 2) rfl rfl ?_
        | refine s_load_5 Try.isAgg47 Try.sizeOf47 rfl rfl (by first | exact hs.cell (k := 0) rfl rfl | exact hs.cell (k := 1) rfl rfl | exact hs.cell (k := 2) rfl rfl) (by first | exact hs.cell (k := 0) rfl rfl | exact hs.cell (k := 1) rfl rfl | exact hs.cell (k := 2) rfl rfl) (by first | exact hs.cell (k := 0) rfl rfl | exact hs.cell (k := 1) rfl rfl | exact hs.cell (k := 2) rfl rfl) (by first | exact hs.cell (k := 0) rfl rfl | exact hs.cell (k := 1) rfl rfl | exact hs.cell (k := 2) rfl rfl) (by first | exact hs.cell (k := 0) rfl rfl | exact hs.cell (k := 1) rfl rfl | exact hs.cell (k := 2) rfl rfl) ?_
      first
        | refine s_storeW Try.sizeOf47 rfl rfl rfl rfl hs (kk := 0) rfl rfl ?_
        | refine s_storeW Try.sizeOf47 rfl rfl rfl rfl hs (kk := 1) rfl rfl ?_
        | refine s_storeW Try.sizeOf47 rfl rfl rfl rfl hs (kk := 2) rfl rfl ?_
        | refine s_storeAB Try.sizeOf47 rfl rfl rfl rfl hs (kk := 0) rfl rfl ?_
        | refine s_storeAB Try.sizeOf47 rfl rfl rfl rfl hs (kk := 1) rfl rfl ?_
        | refine s_storeAB Try.sizeOf47 rfl rfl rfl rfl hs (kk := 2) rfl rfl ?_
      clear hs; intro w hs; try simp only [List.set_cons_zero, List.set_cons_succ, splice, List.take_succ_cons, List.take_zero, List.drop_succ_cons, List.drop_zero, List.nil_append, List.cons_append, List.length_cons, List.length_nil, Nat.reduceAdd, List.append_assoc] at hs
      refine WL_nil ?_
      refine n_then ?_
      refine W_ret ?_
      refine end1 rfl (resOk_block Try.isAgg47 Try.sizeOf47 hs rfl (kk := 1) rfl rfl) ?_
      first
        | (have hV : rdV k s = (⟨k, (rdU s).1, 0, [], []⟩, (rdU s).2) := by rw [rdV, if_pos ‹_›]
           rw [hV]
           exact ⟨_, hs.tail.tail, L2, [], ⟨⟨k, (rdU s).1, 0, [], []⟩, .slice none 0 0, [], .slice none 0 0, []⟩, by simp, rfl, hR2, rfl, nilB _, nilB _⟩)
        | (have hV : rdV k s = (⟨k, 0, (rdI s).1, [], []⟩, (rdI s).2) := by rw [rdV, if_neg (by omega), if_pos ‹_›]
           rw [hV]
           exact ⟨_, hs.tail.tail, L2, [], ⟨⟨k, 0, (rdI s).1, [], []⟩, .slice none 0 0, [], .slice none 0 0, []⟩, by simp, rfl, hR2, rfl, nilB _, nilB _⟩)
        | (have hV : rdV k s = (⟨k, 0, if (rdB s).1 then 1 else 0, [], []⟩, (rdB s).2) := by rw [rdV, if_neg (by omega), if_neg (by omega), if_pos ‹_›]
           rw [hV]
           refine ⟨_, hs.tail.tail, L2, [], ⟨⟨k, 0, if (rdB s).1 then 1 else 0, [], []⟩, .slice none 0 0, [], .slice none 0 0, []⟩, by simp, ?_, hR2, rfl, nilB _, nilB _⟩
           simp only [VV.cells, hc27]; rfl)
        | (have hV : rdV k s = (⟨k, 0, 0, (rdRaw s).1, []⟩, (rdRaw s).2) := by rw [rdV, if_neg (by omega), if_neg (by omega), if_neg (by omega), if_pos (by omega)]
           rw [hV]
           exact ⟨_, hs.tail.tail, L2, [], ⟨⟨k, 0, 0, (rdRaw s).1, []⟩, .slice va (rdRaw s).1.length vc, [], .slice none 0 0, []⟩, by simp, rfl, hR2, rfl, hrdS, nilB _⟩)
        | (have hV : rdV k s = (⟨k, 0, 0, [], (rdInts s).1⟩, (rdInts s).2) := by rw [rdV, if_neg (by omega), if_neg (by omega), if_neg (by omega), if_neg (by omega)]
           rw [hV]
           exact ⟨_, hs.tail.tail, LR, Lr, ⟨⟨k, 0, 0, [], (rdInts s).1⟩, .slice none 0 0, [], .slice va (rdInts s).1.length vc, []⟩, rfl, rfl, hR2, rfl, nilB _, hOr.rdS⟩)
    · skip
      try simp only [beq_iff_eq, beq_eq_false_iff_ne, ne_eq] at hc18
      refine W_seq ?_
      refine W_region ?_
      refine s_eql rfl rfl rfl ?_
      refine s_assign rfl rfl ?_
      refine WL_nil ?_
      refine n_then ?_
      refine W_cond rfl (fun hc23 => ?_) (fun hc23 => ?_)
      · skip
        try simp only [beq_iff_eq, beq_eq_false_iff_ne, ne_eq] at hc23
        refine W_seq ?_
        refine W_region ?_
        refine s_move rfl rfl ?_
        refine s_callL (M := [_, _]) (L1 := L0) (X := []) Try.call51 rfl rfl (by simpa using hs) (fun h => fRBool_ok q s Ls L0 w hR h (src_kept hR.ids hsrc hq hs) hq) ?_
        clear hs; rintro v w L2 ⟨hR2, rfl⟩ - hs
        simp only [List.append_nil, List.cons_append, List.nil_append] at hs
        refine s_assign rfl rfl ?_
        refine WL_nil ?_
        refine n_then ?_
        refine W_seq ?_
        refine W_region ?_
        refine s_move rfl rfl ?_
        refine WL_nil ?_
        refine n_then ?_
        refine W_cond rfl (fun hc27 => ?_) (fun hc27 => ?_)
        · skip
          try simp only [beq_iff_eq, beq_eq_false_iff_ne, ne_eq] at hc27
          refine W_region ?_
          refine s_fieldAddr rfl rfl (FA47_2 _ _) ?_
          first
            | refine s_storeB Try.sizeOf3 rfl rfl rfl hs (kk := 0) rfl rfl ?_
            | refine s_storeB Try.sizeOf3 rfl rfl rfl hs (kk := 1) rfl rfl ?_
            | refine s_storeB Try.sizeOf3 rfl rfl rfl hs (kk := 2) rfl rfl ?_
          clear hs; intro w hs; try simp only [List.set_cons_zero, List.set_cons_succ, splice, List.take_succ_cons, List.take_zero, List.drop_succ_cons, List.drop_zero, List.nil_append, List.cons_append, List.length_cons, List.length_nil, Nat.reduceAdd, List.append_assoc] at hs
          refine WL_nil ?_
          refine n_blk ?_
          refine n_then ?_
          refine W_seq ?_
          refine W_region ?_
          first
            | refine s_loadW Try.isAgg47 Try.sizeOf47 rfl rfl hs (kk := 0) rfl rfl ?_
            | refine s_loadW Try.isAgg47 Try.sizeOf47 rfl rfl hs (kk := 1) rfl rfl ?_
            | refine s_loadW Try.isAgg47 Try.sizeOf47 rfl rfl hs (kk := 2) rfl rfl ?_
            | refine s_load_5 Try.isAgg47 Try.sizeOf47 rfl rfl (by first | exact hs.cell (k := 0) rfl rfl | exact hs.cell (k := 1) rfl rfl | exact hs.cell (k := 2) rfl rfl) (by first | exact hs.cell (k := 0) rfl rfl | exact hs.cell (k := 1) rfl rfl | exact hs.cell (k := 2) rfl rfl) (by first | exact hs.cell (k := 0) rfl rfl | exact hs.cell (k := 1) rfl rfl | exact hs.cell (k := 2) rfl rfl) (by first | exact hs.cell (k := 0) rfl rfl | exact hs.cell (k := 1) rfl rfl | exact hs.cell (k := 2) rfl rfl) (by first | exact hs.cell (k := 0) rfl rfl | exact hs.cell (k := 1) rfl rfl | exact hs.cell (k := 2) rfl rfl) ?_
          first
            | refine s_storeW Try.sizeOf47 rfl rfl rfl rfl hs (kk := 0) rfl rfl ?_
            | refine s_storeW Try.sizeOf47 rfl rfl rfl rfl hs (kk := 1) rfl rfl ?_
            | refine s_storeW Try.sizeOf47 rfl rfl rfl rfl hs (kk := 2) rfl rfl ?_
            | refine s_storeAB Try.sizeOf47 rfl rfl rfl rfl hs (kk := 0) rfl rfl ?_
            | refine s_storeAB Try.sizeOf47 rfl rfl rfl rfl hs (kk := 1) rfl rfl ?_
            | refine s_storeAB Try.sizeOf47 rfl rfl rfl rfl hs (kk := 2) rfl rfl ?_
          clear hs; intro w hs; try simp only [List.set_cons_zero, List.set_cons_succ, splice, List.take_succ_cons, List.take_zero, List.drop_succ_cons, List.drop_zero, List.nil_append, List.cons_append, List.length_cons, List.length_nil, Nat.reduceAdd, List.append_assoc] at hs
          refine WL_nil ?_
          refine n_then ?_
          refine W_ret ?_
          refine end1 rfl (resOk_block Try.isAgg47 Try.sizeOf47 hs rfl (kk := 1) rfl rfl) ?_
          first
            | (have hV : rdV k s = (⟨k, (rdU s).1, 0, [], []⟩, (rdU s).2) := by rw [rdV, if_pos ‹_›]
               rw [hV]
               exact ⟨_, hs.tail.tail, L2, [], ⟨⟨k, (rdU s).1, 0, [], []⟩, .slice none 0 0, [], .slice none 0 0, []⟩, by simp, rfl, hR2, rfl, nilB _, nilB _⟩)
            | (have hV : rdV k s = (⟨k, 0, (rdI s).1, [], []⟩, (rdI s).2) := by rw [rdV, if_neg (by omega), if_pos ‹_›]
               rw [hV]
               exact ⟨_, hs.tail.tail, L2, [], ⟨⟨k, 0, (rdI s).1, [], []⟩, .slice none 0 0, [], .slice none 0 0, []⟩, by simp, rfl, hR2, rfl, nilB _, nilB _⟩)
            | (have hV : rdV k s = (⟨k, 0, if (rdB s).1 then 1 else 0, [], []⟩, (rdB s).2) := by rw [rdV, if_neg (by omega), if_neg (by omega), if_pos ‹_›]
               rw [hV]
               refine ⟨_, hs.tail.tail, L2, [], ⟨⟨k, 0, if (rdB s).1 then 1 else 0, [], []⟩, .slice none 0 0, [], .slice none 0 0, []⟩, by simp, ?_, hR2, rfl, nilB _, nilB _⟩
               simp only [VV.cells, hc27]; rfl)
            | (have hV : rdV k s = (⟨k, 0, 0, (rdRaw s).1, []⟩, (rdRaw s).2) := by rw [rdV, if_neg (by omega), if_neg (by omega), if_neg (by omega), if_pos (by omega)]
               rw [hV]
               exact ⟨_, hs.tail.tail, L2, [], ⟨⟨k, 0, 0, (rdRaw s).1, []⟩, .slice va (rdRaw s).1.length vc, [], .slice none 0 0, []⟩, by simp, rfl, hR2, rfl, hrdS, nilB _⟩)
            | (have hV : rdV k s = (⟨k, 0, 0, [], (rdInts s).1⟩, (rdInts s).2) := by rw [rdV, if_neg (by omega), if_neg (by omega), if_neg (by omega), if_neg (by omega)]
               rw [hV]
               exact ⟨_, hs.tail.tail, LR, Lr, ⟨⟨k, 0, 0, [], (rdInts s).1⟩, .slice none 0 0, [], .slice va (rdInts s).1.length vc, []⟩, rfl, rfl, hR2, rfl, nilB _, hOr.rdS⟩)
        · skip
          try simp only [beq_iff_eq, beq_eq_false_iff_ne, ne_eq] at hc27
          refine W_skip ?_
          refine n_blk ?_
          refine n_then ?_
          refine W_seq ?_
          refine W_region ?_
          first
            | refine s_loadW Try.isAgg47 Try.sizeOf47 rfl rfl hs (kk := 0) rfl rfl ?_
            | refine s_loadW Try.isAgg47 Try.sizeOf47 rfl rfl hs (kk := 1) rfl rfl ?_
            | refine s_loadW Try.isAgg47 Try.sizeOf47 rfl rfl hs (kk := 2) rfl rfl ?_
            | refine s_load_5 Try.isAgg47 Try.sizeOf47 rfl rfl (by first | exact hs.cell (k := 0) rfl rfl | exact hs.cell (k := 1) rfl rfl | exact hs.cell (k := 2) rfl rfl) (by first | exact hs.cell (k := 0) rfl rfl | exact hs.cell (k := 1) rfl rfl | exact hs.cell (k := 2) rfl rfl) (by first | exact hs.cell (k := 0) rfl rfl | exact hs.cell (k := 1) rfl rfl | exact hs.cell (k := 2) rfl rfl) (by first | exact hs.cell (k := 0) rfl rfl | exact hs.cell (k := 1) rfl rfl | exact hs.cell (k := 2) rfl rfl) (by first | exact hs.cell (k := 0) rfl rfl | exact hs.cell (k := 1) rfl rfl | exact hs.cell (k := 2) rfl rfl) ?_
          first
            | refine s_storeW Try.sizeOf47 rfl rfl rfl rfl hs (kk := 0) rfl rfl ?_
            | refine s_storeW Try.sizeOf47 rfl rfl rfl rfl hs (kk := 1) rfl rfl ?_
            | refine s_storeW Try.sizeOf47 rfl rfl rfl rfl hs (kk := 2) rfl rfl ?_
            | refine s_storeAB Try.sizeOf47 rfl rfl rfl rfl hs (kk := 0) rfl rfl ?_
            | refine s_storeAB Try.sizeOf47 rfl rfl rfl rfl hs (kk := 1) rfl rfl ?_
            | refine s_storeAB Try.sizeOf47 rfl rfl rfl rfl hs (kk := 2) rfl rfl ?_
          clear hs; intro w hs; try simp only [List.set_cons_zero, List.set_cons_succ, splice, List.take_succ_cons, List.take_zero, List.drop_succ_cons, List.drop_zero, List.nil_append, List.cons_append, List.length_cons, List.length_nil, Nat.reduceAdd, List.append_assoc] at hs
          refine WL_nil ?_
          refine n_then ?_
          refine W_ret ?_
          refine end1 rfl (resOk_block Try.isAgg47 Try.sizeOf47 hs rfl (kk := 1) rfl rfl) ?_
          first
            | (have hV : rdV k s = (⟨k, (rdU s).1, 0, [], []⟩, (rdU s).2) := by rw [rdV, if_pos ‹_›]
               rw [hV]
               exact ⟨_, hs.tail.tail, L2, [], ⟨⟨k, (rdU s).1, 0, [], []⟩, .slice none 0 0, [], .slice none 0 0, []⟩, by simp, rfl, hR2, rfl, nilB _, nilB _⟩)
            | (have hV : rdV k s = (⟨k, 0, (rdI s).1, [], []⟩, (rdI s).2) := by rw [rdV, if_neg (by omega), if_pos ‹_›]
               rw [hV]
               exact ⟨_, hs.tail.tail, L2, [], ⟨⟨k, 0, (rdI s).1, [], []⟩, .slice none 0 0, [], .slice none 0 0, []⟩, by simp, rfl, hR2, rfl, nilB _, nilB _⟩)
            | (have hV : rdV k s = (⟨k, 0, if (rdB s).1 then 1 else 0, [], []⟩, (rdB s).2) := by rw [rdV, if_neg (by omega), if_neg (by omega), if_pos ‹_›]
               rw [hV]
               refine ⟨_, hs.tail.tail, L2, [], ⟨⟨k, 0, if (rdB s).1 then 1 else 0, [], []⟩, .slice none 0 0, [], .slice none 0 0, []⟩, by simp, ?_, hR2, rfl, nilB _, nilB _⟩
               simp only [VV.cells, hc27]; rfl)
            | (have hV : rdV k s = (⟨k, 0, 0, (rdRaw s).1, []⟩, (rdRaw s).2) := by rw [rdV, if_neg (by omega), if_neg (by omega), if_neg (by omega), if_pos (by omega)]
               rw [hV]
               exact ⟨_, hs.tail.tail, L2, [], ⟨⟨k, 0, 0, (rdRaw s).1, []⟩, .slice va (rdRaw s).1.length vc, [], .slice none 0 0, []⟩, by simp, rfl, hR2, rfl, hrdS, nilB _⟩)
            | (have hV : rdV k s = (⟨k, 0, 0, [], (rdInts s).1⟩, (rdInts s).2) := by rw [rdV, if_neg (by omega), if_neg (by omega), if_neg (by omega), if_neg (by omega)]
               rw [hV]
               exact ⟨_, hs.tail.tail, LR, Lr, ⟨⟨k, 0, 0, [], (rdInts s).1⟩, .slice none 0 0, [], .slice va (rdInts s).1.length vc, []⟩, rfl, rfl, hR2, rfl, nilB _, hOr.rdS⟩)
      · skip
        try simp only [beq_iff_eq, beq_eq_false_iff_ne, ne_eq] at hc23
        refine W_seq ?_
        refine W_seq ?_
        refine W_region ?_
        refine s_eql rfl rfl rfl ?_
        refine s_assign rfl rfl ?_
        refine WL_nil ?_
        refine n_then ?_
        refine W_cond rfl (fun hc29 => ?_) (fun hc29 => ?_)
        · skip
          try simp only [beq_iff_eq, beq_eq_false_iff_ne, ne_eq] at hc29
          refine W_skip ?_
          refine n_then ?_
          refine W_cond rfl (fun hc29 => ?_) (fun hc29 => ?_)
          · skip
            try simp only [beq_iff_eq, beq_eq_false_iff_ne, ne_eq] at hc29
            refine W_region ?_
            refine s_move rfl rfl ?_
            refine s_callL (M := [_, _]) (L1 := L0) (X := []) Try.call52 rfl rfl (by simpa using hs) (fun h => fRRaw_ok q s Ls L0 w hR h (src_kept hR.ids hsrc hq hs) hq) ?_
            clear hs; rintro v w L2 ⟨hR2, va, vc, rfl, hrdS⟩ - hs
            simp only [List.append_nil, List.cons_append, List.nil_append] at hs
            refine s_fieldAddr rfl rfl (FA47_3 _ _) ?_
            first
              | refine s_storeB Try.sizeOf24 rfl rfl rfl hs (kk := 0) rfl rfl ?_
              | refine s_storeB Try.sizeOf24 rfl rfl rfl hs (kk := 1) rfl rfl ?_
              | refine s_storeB Try.sizeOf24 rfl rfl rfl hs (kk := 2) rfl rfl ?_
            clear hs; intro w hs; try simp only [List.set_cons_zero, List.set_cons_succ, splice, List.take_succ_cons, List.take_zero, List.drop_succ_cons, List.drop_zero, List.nil_append, List.cons_append, List.length_cons, List.length_nil, Nat.reduceAdd, List.append_assoc] at hs
            refine WL_nil ?_
            refine n_blk ?_
            refine n_then ?_
            refine W_seq ?_
            refine W_region ?_
            first
              | refine s_loadW Try.isAgg47 Try.sizeOf47 rfl rfl hs (kk := 0) rfl rfl ?_
              | refine s_loadW Try.isAgg47 Try.sizeOf47 rfl rfl hs (kk := 1) rfl rfl ?_
              | refine s_loadW Try.isAgg47 Try.sizeOf47 rfl rfl hs (kk := 2) rfl rfl ?_
              | refine s_load_5 Try.isAgg47 Try.sizeOf47 rfl rfl (by first | exact hs.cell (k := 0) rfl rfl | exact hs.cell (k := 1) rfl rfl | exact hs.cell (k := 2) rfl rfl) (by first | exact hs.cell (k := 0) rfl rfl | exact hs.cell (k := 1) rfl rfl | exact hs.cell (k := 2) rfl rfl) (by first | exact hs.cell (k := 0) rfl rfl | exact hs.cell (k := 1) rfl rfl | exact hs.cell (k := 2) rfl rfl) (by first | exact hs.cell (k := 0) rfl rfl | exact hs.cell (k := 1) rfl rfl | exact hs.cell (k := 2) rfl rfl) (by first | exact hs.cell (k := 0) rfl rfl | exact hs.cell (k := 1) rfl rfl | exact hs.cell (k := 2) rfl rfl) ?_
            first
              | refine s_storeW Try.sizeOf47 rfl rfl rfl rfl hs (kk := 0) rfl rfl ?_
              | refine s_storeW Try.sizeOf47 rfl rfl rfl rfl hs (kk := 1) rfl rfl ?_
              | refine s_storeW Try.sizeOf47 rfl rfl rfl rfl hs (kk := 2) rfl rfl ?_
              | refine s_storeAB Try.sizeOf47 rfl rfl rfl rfl hs (kk := 0) rfl rfl ?_
              | refine s_storeAB Try.sizeOf47 rfl rfl rfl rfl hs (kk := 1) rfl rfl ?_
              | refine s_storeAB Try.sizeOf47 rfl rfl rfl rfl hs (kk := 2) rfl rfl ?_
            clear hs; intro w hs; try simp only [List.set_cons_zero, List.set_cons_succ, splice, List.take_succ_cons, List.take_zero, List.drop_succ_cons, List.drop_zero, List.nil_append, List.cons_append, List.length_cons, List.length_nil, Nat.reduceAdd, List.append_assoc] at hs
            refine WL_nil ?_
            refine n_then ?_
            refine W_ret ?_
            refine end1 rfl (resOk_block Try.isAgg47 Try.sizeOf47 hs rfl (kk := 1) rfl rfl) ?_
            first
              | (have hV : rdV k s = (⟨k, (rdU s).1, 0, [], []⟩, (rdU s).2) := by rw [rdV, if_pos ‹_›]
                 rw [hV]
                 exact ⟨_, hs.tail.tail, L2, [], ⟨⟨k, (rdU s).1, 0, [], []⟩, .slice none 0 0, [], .slice none 0 0, []⟩, by simp, rfl, hR2, rfl, nilB _, nilB _⟩)
              | (have hV : rdV k s = (⟨k, 0, (rdI s).1, [], []⟩, (rdI s).2) := by rw [rdV, if_neg (by omega), if_pos ‹_›]
                 rw [hV]
                 exact ⟨_, hs.tail.tail, L2, [], ⟨⟨k, 0, (rdI s).1, [], []⟩, .slice none 0 0, [], .slice none 0 0, []⟩, by simp, rfl, hR2, rfl, nilB _, nilB _⟩)
              | (have hV : rdV k s = (⟨k, 0, if (rdB s).1 then 1 else 0, [], []⟩, (rdB s).2) := by rw [rdV, if_neg (by omega), if_neg (by omega), if_pos ‹_›]
                 rw [hV]
                 refine ⟨_, hs.tail.tail, L2, [], ⟨⟨k, 0, if (rdB s).1 then 1 else 0, [], []⟩, .slice none 0 0, [], .slice none 0 0, []⟩, by simp, ?_, hR2, rfl, nilB _, nilB _⟩
                 simp only [VV.cells, hc27]; rfl)
              | (have hV : rdV k s = (⟨k, 0, 0, (rdRaw s).1, []⟩, (rdRaw s).2) := by rw [rdV, if_neg (by omega), if_neg (by omega), if_neg (by omega), if_pos (by omega)]
                 rw [hV]
                 exact ⟨_, hs.tail.tail, L2, [], ⟨⟨k, 0, 0, (rdRaw s).1, []⟩, .slice va (rdRaw s).1.length vc, [], .slice none 0 0, []⟩, by simp, rfl, hR2, rfl, hrdS, nilB _⟩)
              | (have hV : rdV k s = (⟨k, 0, 0, [], (rdInts s).1⟩, (rdInts s).2) := by rw [rdV, if_neg (by omega), if_neg (by omega), if_neg (by omega), if_neg (by omega)]
                 rw [hV]
                 exact ⟨_, hs.tail.tail, LR, Lr, ⟨⟨k, 0, 0, [], (rdInts s).1⟩, .slice none 0 0, [], .slice va (rdInts s).1.length vc, []⟩, rfl, rfl, hR2, rfl, nilB _, hOr.rdS⟩)
          · skip
            try simp only [beq_iff_eq, beq_eq_false_iff_ne, ne_eq] at hc29
            refine W_region ?_
            refine s_move rfl rfl ?_
            refine s_callL (M := [_, _]) (L1 := L0) (X := []) Try.call53 rfl rfl (by simpa using hs) (fun h => fRInts_ok q s Ls L0 w hR h (src_kept hR.ids hsrc hq hs) hq) ?_
            clear hs; rintro v w L2 ⟨LR, Lr, rfl, hR2, hOr⟩ - hs
            simp only [List.append_nil, List.cons_append, List.nil_append] at hs
            obtain ⟨_, vc, va, rfl, rfl⟩ := hOr.form
            refine s_fieldAddr rfl rfl (FA47_4 _ _) ?_
            first
              | refine s_storeB Try.sizeOf33 rfl rfl rfl hs (kk := 0) rfl rfl ?_
              | refine s_storeB Try.sizeOf33 rfl rfl rfl hs (kk := 1) rfl rfl ?_
              | refine s_storeB Try.sizeOf33 rfl rfl rfl hs (kk := 2) rfl rfl ?_
            clear hs; intro w hs; try simp only [List.set_cons_zero, List.set_cons_succ, splice, List.take_succ_cons, List.take_zero, List.drop_succ_cons, List.drop_zero, List.nil_append, List.cons_append, List.length_cons, List.length_nil, Nat.reduceAdd, List.append_assoc] at hs
            refine WL_nil ?_
            refine n_blk ?_
            refine n_then ?_
            refine W_seq ?_
            refine W_region ?_
            first
              | refine s_loadW Try.isAgg47 Try.sizeOf47 rfl rfl hs (kk := 0) rfl rfl ?_
              | refine s_loadW Try.isAgg47 Try.sizeOf47 rfl rfl hs (kk := 1) rfl rfl ?_
              | refine s_loadW Try.isAgg47 Try.sizeOf47 rfl rfl hs (kk := 2) rfl rfl ?_
              | refine s_load_5 Try.isAgg47 Try.sizeOf47 rfl rfl (by first | exact hs.cell (k := 0) rfl rfl | exact hs.cell (k := 1) rfl rfl | exact hs.cell (k := 2) rfl rfl) (by first | exact hs.cell (k := 0) rfl rfl | exact hs.cell (k := 1) rfl rfl | exact hs.cell (k := 2) rfl rfl) (by first | exact hs.cell (k := 0) rfl rfl | exact hs.cell (k := 1) rfl rfl | exact hs.cell (k := 2) rfl rfl) (by first | exact hs.cell (k := 0) rfl rfl | exact hs.cell (k := 1) rfl rfl | exact hs.cell (k := 2) rfl rfl) (by first | exact hs.cell (k := 0) rfl rfl | exact hs.cell (k := 1) rfl rfl | exact hs.cell (k := 2) rfl rfl) ?_
            first
              | refine s_storeW Try.sizeOf47 rfl rfl rfl rfl hs (kk := 0) rfl rfl ?_
              | refine s_storeW Try.sizeOf47 rfl rfl rfl rfl hs (kk := 1) rfl rfl ?_
              | refine s_storeW Try.sizeOf47 rfl rfl rfl rfl hs (kk := 2) rfl rfl ?_
              | refine s_storeAB Try.sizeOf47 rfl rfl rfl rfl hs (kk := 0) rfl rfl ?_
              | refine s_storeAB Try.sizeOf47 rfl rfl rfl rfl hs (kk := 1) rfl rfl ?_
              | refine s_storeAB Try.sizeOf47 rfl rfl rfl rfl hs (kk := 2) rfl rfl ?_
            clear hs; intro w hs; try simp only [List.set_cons_zero, List.set_cons_succ, splice, List.take_succ_cons, List.take_zero, List.drop_succ_cons, List.drop_zero, List.nil_append, List.cons_append, List.length_cons, List.length_nil, Nat.reduceAdd, List.append_assoc] at hs
            refine WL_nil ?_
            refine n_then ?_
            refine W_ret ?_
            refine end1 rfl (resOk_block Try.isAgg47 Try.sizeOf47 hs rfl (kk := 1) rfl rfl) ?_
            first
              | (have hV : rdV k s = (⟨k, (rdU s).1, 0, [], []⟩, (rdU s).2) := by rw [rdV, if_pos ‹_›]
                 rw [hV]
                 exact ⟨_, hs.tail.tail, L2, [], ⟨⟨k, (rdU s).1, 0, [], []⟩, .slice none 0 0, [], .slice none 0 0, []⟩, by simp, rfl, hR2, rfl, nilB _, nilB _⟩)
              | (have hV : rdV k s = (⟨k, 0, (rdI s).1, [], []⟩, (rdI s).2) := by rw [rdV, if_neg (by omega), if_pos ‹_›]
                 rw [hV]
                 exact ⟨_, hs.tail.tail, L2, [], ⟨⟨k, 0, (rdI s).1, [], []⟩, .slice none 0 0, [], .slice none 0 0, []⟩, by simp, rfl, hR2, rfl, nilB _, nilB _⟩)
              | (have hV : rdV k s = (⟨k, 0, if (rdB s).1 then 1 else 0, [], []⟩, (rdB s).2) := by rw [rdV, if_neg (by omega), if_neg (by omega), if_pos ‹_›]
                 rw [hV]
                 refine ⟨_, hs.tail.tail, L2, [], ⟨⟨k, 0, if (rdB s).1 then 1 else 0, [], []⟩, .slice none 0 0, [], .slice none 0 0, []⟩, by simp, ?_, hR2, rfl, nilB _, nilB _⟩
                 simp only [VV.cells, hc27]; rfl)
              | (have hV : rdV k s = (⟨k, 0, 0, (rdRaw s).1, []⟩, (rdRaw s).2) := by rw [rdV, if_neg (by omega), if_neg (by omega), if_neg (by omega), if_pos (by omega)]
                 rw [hV]
                 exact ⟨_, hs.tail.tail, L2, [], ⟨⟨k, 0, 0, (rdRaw s).1, []⟩, .slice va (rdRaw s).1.length vc, [], .slice none 0 0, []⟩, by simp, rfl, hR2, rfl, hrdS, nilB _⟩)
              | (have hV : rdV k s = (⟨k, 0, 0, [], (rdInts s).1⟩, (rdInts s).2) := by rw [rdV, if_neg (by omega), if_neg (by omega), if_neg (by omega), if_neg (by omega)]
                 rw [hV]
                 exact ⟨_, hs.tail.tail, LR, Lr, ⟨⟨k, 0, 0, [], (rdInts s).1⟩, .slice none 0 0, [], .slice va (rdInts s).1.length vc, []⟩, rfl, rfl, hR2, rfl, nilB _, hOr.rdS⟩)
        · skip
          try simp only [beq_iff_eq, beq_eq_false_iff_ne, ne_eq] at hc29
          refine W_region ?_
          refine s_eql rfl rfl rfl ?_
          refine s_assign rfl rfl ?_
          refine WL_nil ?_
          refine n_then ?_
          refine W_cond rfl (fun hc29 => ?_) (fun hc29 => ?_)
          · skip
            try simp only [beq_iff_eq, beq_eq_false_iff_ne, ne_eq] at hc29
            refine W_region ?_
            refine s_move rfl rfl ?_
            refine s_callL (M := [_, _]) (L1 := L0) (X := []) Try.call52 rfl rfl (by simpa using hs) (fun h => fRRaw_ok q s Ls L0 w hR h (src_kept hR.ids hsrc hq hs) hq) ?_
            clear hs; rintro v w L2 ⟨hR2, va, vc, rfl, hrdS⟩ - hs
            simp only [List.append_nil, List.cons_append, List.nil_append] at hs
            refine s_fieldAddr rfl rfl (FA47_3 _ _) ?_
            first
              | refine s_storeB Try.sizeOf24 rfl rfl rfl hs (kk := 0) rfl rfl ?_
              | refine s_storeB Try.sizeOf24 rfl rfl rfl hs (kk := 1) rfl rfl ?_
              | refine s_storeB Try.sizeOf24 rfl rfl rfl hs (kk := 2) rfl rfl ?_
            clear hs; intro w hs; try simp only [List.set_cons_zero, List.set_cons_succ, splice, List.take_succ_cons, List.take_zero, List.drop_succ_cons, List.drop_zero, List.nil_append, List.cons_append, List.length_cons, List.length_nil, Nat.reduceAdd, List.append_assoc] at hs
            refine WL_nil ?_
            refine n_blk ?_
            refine n_then ?_
            refine W_seq ?_
            refine W_region ?_
            first
              | refine s_loadW Try.isAgg47 Try.sizeOf47 rfl rfl hs (kk := 0) rfl rfl ?_
              | refine s_loadW Try.isAgg47 Try.sizeOf47 rfl rfl hs (kk := 1) rfl rfl ?_
              | refine s_loadW Try.isAgg47 Try.sizeOf47 rfl rfl hs (kk := 2) rfl rfl ?_
              | refine s_load_5 Try.isAgg47 Try.sizeOf47 rfl rfl (by first | exact hs.cell (k := 0) rfl rfl | exact hs.cell (k := 1) rfl rfl | exact hs.cell (k := 2) rfl rfl) (by first | exact hs.cell (k := 0) rfl rfl | exact hs.cell (k := 1) rfl rfl | exact hs.cell (k := 2) rfl rfl) (by first | exact hs.cell (k := 0) rfl rfl | exact hs.cell (k := 1) rfl rfl | exact hs.cell (k := 2) rfl rfl) (by first | exact hs.cell (k := 0) rfl rfl | exact hs.cell (k := 1) rfl rfl | exact hs.cell (k := 2) rfl rfl) (by first | exact hs.cell (k := 0) rfl rfl | exact hs.cell (k := 1) rfl rfl | exact hs.cell (k := 2) rfl rfl) ?_
            first
              | refine s_storeW Try.sizeOf47 rfl rfl rfl rfl hs (kk := 0) rfl rfl ?_
              | refine s_storeW Try.sizeOf47 rfl rfl rfl rfl hs (kk := 1) rfl rfl ?_
              | refine s_storeW Try.sizeOf47 rfl rfl rfl rfl hs (kk := 2) rfl rfl ?_
              | refine s_storeAB Try.sizeOf47 rfl rfl rfl rfl hs (kk := 0) rfl rfl ?_
              | refine s_storeAB Try.sizeOf47 rfl rfl rfl rfl hs (kk := 1) rfl rfl ?_
              | refine s_storeAB Try.sizeOf47 rfl rfl rfl rfl hs (kk := 2) rfl rfl ?_
            clear hs; intro w hs; try simp only [List.set_cons_zero, List.set_cons_succ, splice, List.take_succ_cons, List.take_zero, List.drop_succ_cons, List.drop_zero, List.nil_append, List.cons_append, List.length_cons, List.length_nil, Nat.reduceAdd, List.append_assoc] at hs
            refine WL_nil ?_
            refine n_then ?_
            refine W_ret ?_
            refine end1 rfl (resOk_block Try.isAgg47 Try.sizeOf47 hs rfl (kk := 1) rfl rfl) ?_
            first
              | (have hV : rdV k s = (⟨k, (rdU s).1, 0, [], []⟩, (rdU s).2) := by rw [rdV, if_pos ‹_›]
                 rw [hV]
                 exact ⟨_, hs.tail.tail, L2, [], ⟨⟨k, (rdU s).1, 0, [], []⟩, .slice none 0 0, [], .slice none 0 0, []⟩, by simp, rfl, hR2, rfl, nilB _, nilB _⟩)
              | (have hV : rdV k s = (⟨k, 0, (rdI s).1, [], []⟩, (rdI s).2) := by rw [rdV, if_neg (by omega), if_pos ‹_›]
                 rw [hV]
                 exact ⟨_, hs.tail.tail, L2, [], ⟨⟨k, 0, (rdI s).1, [], []⟩, .slice none 0 0, [], .slice none 0 0, []⟩, by simp, rfl, hR2, rfl, nilB _, nilB _⟩)
              | (have hV : rdV k s = (⟨k, 0, if (rdB s).1 then 1 else 0, [], []⟩, (rdB s).2) := by rw [rdV, if_neg (by omega), if_neg (by omega), if_pos ‹_›]
                 rw [hV]
                 refine ⟨_, hs.tail.tail, L2, [], ⟨⟨k, 0, if (rdB s).1 then 1 else 0, [], []⟩, .slice none 0 0, [], .slice none 0 0, []⟩, by simp, ?_, hR2, rfl, nilB _, nilB _⟩
                 simp only [VV.cells, hc27]; rfl)
              | (have hV : rdV k s = (⟨k, 0, 0, (rdRaw s).1, []⟩, (rdRaw s).2) := by rw [rdV, if_neg (by omega), if_neg (by omega), if_neg (by omega), if_pos (by omega)]
                 rw [hV]
                 exact ⟨_, hs.tail.tail, L2, [], ⟨⟨k, 0, 0, (rdRaw s).1, []⟩, .slice va (rdRaw s).1.length vc, [], .slice none 0 0, []⟩, by simp, rfl, hR2, rfl, hrdS, nilB _⟩)
              | (have hV : rdV k s = (⟨k, 0, 0, [], (rdInts s).1⟩, (rdInts s).2) := by rw [rdV, if_neg (by omega), if_neg (by omega), if_neg (by omega), if_neg (by omega)]
                 rw [hV]
                 exact ⟨_, hs.tail.tail, LR, Lr, ⟨⟨k, 0, 0, [], (rdInts s).1⟩, .slice none 0 0, [], .slice va (rdInts s).1.length vc, []⟩, rfl, rfl, hR2, rfl, nilB _, hOr.rdS⟩)
          · skip
            try simp only [beq_iff_eq, beq_eq_false_iff_ne, ne_eq] at hc29
            refine W_region ?_
            refine s_move rfl rfl ?_
            refine s_callL (M := [_, _]) (L1 := L0) (X := []) Try.call53 rfl rfl (by simpa using hs) (fun h => fRInts_ok q s Ls L0 w hR h (src_kept hR.ids hsrc hq hs) hq) ?_
            clear hs; rintro v w L2 ⟨LR, Lr, rfl, hR2, hOr⟩ - hs
            simp only [List.append_nil, List.cons_append, List.nil_append] at hs
            obtain ⟨_, vc, va, rfl, rfl⟩ := hOr.form
            refine s_fieldAddr rfl rfl (FA47_4 _ _) ?_
            first
              | refine s_storeB Try.sizeOf33 rfl rfl rfl hs (kk := 0) rfl rfl ?_
              | refine s_storeB Try.sizeOf33 rfl rfl rfl hs (kk := 1) rfl rfl ?_
              | refine s_storeB Try.sizeOf33 rfl rfl rfl hs (kk := 2) rfl rfl ?_
            clear hs; intro w hs; try simp only [List.set_cons_zero, List.set_cons_succ, splice, List.take_succ_cons, List.take_zero, List.drop_succ_cons, List.drop_zero, List.nil_append, List.cons_append, List.length_cons, List.length_nil, Nat.reduceAdd, List.append_assoc] at hs
            refine WL_nil ?_
            refine n_blk ?_
            refine n_then ?_
            refine W_seq ?_
            refine W_region ?_
            first
              | refine s_loadW Try.isAgg47 Try.sizeOf47 rfl rfl hs (kk := 0) rfl rfl ?_
              | refine s_loadW Try.isAgg47 Try.sizeOf47 rfl rfl hs (kk := 1) rfl rfl ?_
              | refine s_loadW Try.isAgg47 Try.sizeOf47 rfl rfl hs (kk := 2) rfl rfl ?_
              | refine s_load_5 Try.isAgg47 Try.sizeOf47 rfl rfl (by first | exact hs.cell (k := 0) rfl rfl | exact hs.cell (k := 1) rfl rfl | exact hs.cell (k := 2) rfl rfl) (by first | exact hs.cell (k := 0) rfl rfl | exact hs.cell (k := 1) rfl rfl | exact hs.cell (k := 2) rfl rfl) (by first | exact hs.cell (k := 0) rfl rfl | exact hs.cell (k := 1) rfl rfl | exact hs.cell (k := 2) rfl rfl) (by first | exact hs.cell (k := 0) rfl rfl | exact hs.cell (k := 1) rfl rfl | exact hs.cell (k := 2) rfl rfl) (by first | exact hs.cell (k := 0) rfl rfl | exact hs.cell (k := 1) rfl rfl | exact hs.cell (k := 2) rfl rfl) ?_
            first
              | refine s_storeW Try.sizeOf47 rfl rfl rfl rfl hs (kk := 0) rfl rfl ?_
              | refine s_storeW Try.sizeOf47 rfl rfl rfl rfl hs (kk := 1) rfl rfl ?_
              | refine s_storeW Try.sizeOf47 rfl rfl rfl rfl hs (kk := 2) rfl rfl ?_
              | refine s_storeAB Try.sizeOf47 rfl rfl rfl rfl hs (kk := 0) rfl rfl ?_
              | refine s_storeAB Try.sizeOf47 rfl rfl rfl rfl hs (kk := 1) rfl rfl ?_
              | refine s_storeAB Try.sizeOf47 rfl rfl rfl rfl hs (kk := 2) rfl rfl ?_
            clear hs; intro w hs; try simp only [List.set_cons_zero, List.set_cons_succ, splice, List.take_succ_cons, List.take_zero, List.drop_succ_cons, List.drop_zero, List.nil_append, List.cons_append, List.length_cons, List.length_nil, Nat.reduceAdd, List.append_assoc] at hs
            refine WL_nil ?_
            refine n_then ?_
            refine W_ret ?_
            refine end1 rfl (resOk_block Try.isAgg47 Try.sizeOf47 hs rfl (kk := 1) rfl rfl) ?_
            first
              | (have hV : rdV k s = (⟨k, (rdU s).1, 0, [], []⟩, (rdU s).2) := by rw [rdV, if_pos ‹_›]
                 rw [hV]
                 exact ⟨_, hs.tail.tail, L2, [], ⟨⟨k, (rdU s).1, 0, [], []⟩, .slice none 0 0, [], .slice none 0 0, []⟩, by simp, rfl, hR2, rfl, nilB _, nilB _⟩)
              | (have hV : rdV k s = (⟨k, 0, (rdI s).1, [], []⟩, (rdI s).2) := by rw [rdV, if_neg (by omega), if_pos ‹_›]
                 rw [hV]
                 exact ⟨_, hs.tail.tail, L2, [], ⟨⟨k, 0, (rdI s).1, [], []⟩, .slice none 0 0, [], .slice none 0 0, []⟩, by simp, rfl, hR2, rfl, nilB _, nilB _⟩)
              | (have hV : rdV k s = (⟨k, 0, if (rdB s).1 then 1 else 0, [], []⟩, (rdB s).2) := by rw [rdV, if_neg (by omega), if_neg (by omega), if_pos ‹_›]
                 rw [hV]
                 refine ⟨_, hs.tail.tail, L2, [], ⟨⟨k, 0, if (rdB s).1 then 1 else 0, [], []⟩, .slice none 0 0, [], .slice none 0 0, []⟩, by simp, ?_, hR2, rfl, nilB _, nilB _⟩
                 simp only [VV.cells, hc27]; rfl)
              | (have hV : rdV k s = (⟨k, 0, 0, (rdRaw s).1, []⟩, (rdRaw s).2) := by rw [rdV, if_neg (by omega), if_neg (by omega), if_neg (by omega), if_pos (by omega)]
                 rw [hV]
                 exact ⟨_, hs.tail.tail, L2, [], ⟨⟨k, 0, 0, (rdRaw s).1, []⟩, .slice va (rdRaw s).1.length vc, [], .slice none 0 0, []⟩, by simp, rfl, hR2, rfl, hrdS, nilB _⟩)
              | (have hV : rdV k s = (⟨k, 0, 0, [], (rdInts s).1⟩, (rdInts s).2) := by rw [rdV, if_neg (by omega), if_neg (by omega), if_neg (by omega), if_neg (by omega)]
                 rw [hV]
                 exact ⟨_, hs.tail.tail, LR, Lr, ⟨⟨k, 0, 0, [], (rdInts s).1⟩, .slice none 0 0, [], .slice va (rdInts s).1.length vc, []⟩, rfl, rfl, hR2, rfl, nilB _, hOr.rdS⟩)
structure RR where
  i : Nat
  s : RS
  LP : Hp
  LQ : Hp
set_option maxHeartbeats 4000000 in
theorem wireReads_ok (rv v kv : Value) (raw xs ks : List Int) (at_ c8 : Int) (w0 : World) (hr : Sl w0 rv raw.length (u8s raw)) (hrB : ∀ z ∈ raw, isB z) (hv : Sl w0 v xs.length (i64s xs)) (hx : ∀ z ∈ xs, isI64 z) (hat : isI64 at_) (hc8 : isB c8) (hk : Sl w0 kv ks.length (i64s ks)) (hkI : ∀ z ∈ ks, isI64 z) :
    Ret Try.prog 4 [rv, v, .int .i64 at_, .int .u8 c8, kv].toArray w0 fun r w' => Fwd [] w0 w' ∧ r = .bool true := by
  obtain ⟨ka, kc, rfl, hkc⟩ := hk.len_le
  refine Ret_start fun w hs => ?_
  refine Ret_of Try.func4 rfl Try.ntmps4 rfl ?_
  refine W_seq ?_
  refine W_region ?_
  refine s_assign rfl rfl ?_
  refine WL_nil ?_
  refine n_then ?_
  refine W_seq ?_
  refine W_region ?_
  refine s_move rfl rfl ?_
  refine s_call Try.call19 rfl rfl (vals_ok v xs w (hv.fwd0 hs.fwd) hx) ?_
  rintro r w ⟨vs, Lv, hO, hst, hg, hl0⟩
  replace hs := St.back0 hs hst
  simp only [List.append_nil] at hs
  clear hst
  obtain ⟨_, avc, ava, rfl, rfl⟩ := hO.form
  have hlen := fun k => encVs_take vs (fun x hx => gen_len (hg x hx)) k
  have hlen2 : (encVs vs).length ≤ 480 := by have := hlen vs.length; rw [List.take_length] at this; omega
  have hB := encVs_isB (fun x hx => (hg x hx).1)
  refine s_call Try.call18 rfl rfl (fEncode_ok _ vs w (hO.sl hs) (fun x hx => (hg x hx).1) (fun q hq => hs.own q (List.mem_append_right _ hq)) (fun k => by have := hlen k; omega) (by omega)) ?_
  rintro r w ⟨Lr, hOr, hst⟩
  replace hs : St [] w0 w Lr := (St.back0 hs hst).left
  clear hst
  obtain ⟨_, rvc, rva, rfl, rfl⟩ := hOr.form
  generalize encVs vs = eb at hOr hlen2 hB
  refine s_assign rfl rfl ?_
  refine WL_nil ?_
  refine n_then ?_
  refine W_cut (σ := List Int × Hp) (fun s => [(0, rv), (4, .slice ka ks.length kc), (11, .slice rva s.1.length rvc)])
    (fun s w => St [] w0 w s.2 ∧ OwnS 5 1 (.slice rva s.1.length rvc) s.1.length (u8s s.1) s.2 ∧ (∀ b ∈ s.1, isB b) ∧ s.1.length ≤ 480) ?_ ?_
  · skip
    refine W_seq ?_
    refine W_region ?_
    refine s_move rfl rfl ?_
    refine s_len rfl rfl (LN24 _ _ _ _) ?_
    refine s_gtr rfl rfl rfl ?_
    refine WL_nil ?_
    refine n_then ?_
    refine W_cond rfl (fun hc23 => ?_) (fun hc23 => ?_)
    · skip
      try simp only [decide_eq_true_eq, decide_eq_false_iff_not, beq_iff_eq, beq_eq_false_iff_ne, ne_eq, bne_iff_ne, bne_eq_false_iff_eq] at hc23
      obtain ⟨g, cap, sp, hgv, hcap, rfl⟩ := hOr.block (by omega)
      cases hgv
      refine W_region ?_
      refine s_move rfl rfl ?_
      refine s_move rfl rfl ?_
      refine s_move rfl rfl ?_
      refine s_len rfl rfl (LN24 _ _ _ _) ?_
      refine s_call Try.call11 rfl rfl (around_ok at_ eb.length w (by omega) hat) ?_
      rintro r w ⟨rfl, rfl⟩
      have hkr := aroundV_range (m := at_) (q := eb.length) (by omega)
      obtain ⟨k, hkN⟩ : ∃ k : Nat, aroundV at_ eb.length = k := ⟨(aroundV at_ eb.length).toNat, by omega⟩
      rw [hkN] at hkr ⊢
      refine s_move rfl rfl ?_
      (refine s_indexAddr1 El24 rfl rfl rfl ?hx ?_; case hx => (constructor <;> first | omega | (simp; omega)))
      refine s_store Try.sizeOf5 rfl rfl rfl hs (kk := 0) rfl (by have := hOr.1; simp at this ⊢; omega) ?_
      clear hs; intro w hs
      simp only [List.set_cons_zero] at hs
      refine WL_nil ?_
      refine n_loop ?_
      first
        | (have hO9 := own_set8 (i := k) c8 hOr (by omega)
           have hl9 : (eb.set k c8).length = eb.length := List.length_set ..
           refine ⟨(eb.set k c8, [_]), ⟨rfl, rfl, by simp only [hl9]; rfl, trivial⟩, hs, by simp only [hl9]; exact hO9, ?_, by simp only [hl9]; omega⟩
           intro b hb
           rcases List.mem_or_eq_of_mem_set hb with h | h
           · exact hB b h
           · rw [h]; exact hc8)
        | exact ⟨(eb, Lr), ⟨rfl, rfl, rfl, trivial⟩, hs, hOr, hB, hlen2⟩
    · skip
      try simp only [decide_eq_true_eq, decide_eq_false_iff_not, beq_iff_eq, beq_eq_false_iff_ne, ne_eq, bne_iff_ne, bne_eq_false_iff_eq] at hc23
      refine W_skip ?_
      refine n_loop ?_
      first
        | (have hO9 := own_set8 (i := k) c8 hOr (by omega)
           have hl9 : (eb.set k c8).length = eb.length := List.length_set ..
           refine ⟨(eb.set k c8, [_]), ⟨rfl, rfl, by simp only [hl9]; rfl, trivial⟩, hs, by simp only [hl9]; exact hO9, ?_, by simp only [hl9]; omega⟩
           intro b hb
           rcases List.mem_or_eq_of_mem_set hb with h | h
           · exact hB b h
           · rw [h]; exact hc8)
        | exact ⟨(eb, Lr), ⟨rfl, rfl, rfl, trivial⟩, hs, hOr, hB, hlen2⟩
  · skip
    clear hs hOr hB hlen2
    clear eb
    rintro ⟨tb, Lt⟩ w ⟨hs, hOt, hB, hlen2⟩
    simp only at hs hOt hB hlen2 ⊢
    refine W_seq ?_
    refine W_region ?_
    refine s_move rfl rfl ?_
    refine s_call Try.call20 rfl rfl (few_ok rv raw 60 w (hr.fwd0 hs.fwd) (by omega)) ?_
    rintro r w ⟨Lf, hOf, hst⟩
    replace hs : St [] w0 w (Lf ++ Lt) := (St.back0 hs hst)
    clear hst
    have hbl : (raw.take 60).length = min raw.length 60 := by rw [List.length_take, Nat.min_comm]
    rw [← hbl] at hOf
    have hfB : ∀ z ∈ raw.take 60, isB z := fun z hz => hrB z (List.mem_of_mem_take hz)
    have hf60 : (raw.take 60).length ≤ 60 := by rw [hbl]; omega
    generalize raw.take 60 = fb at hOf hfB hf60
    obtain ⟨_, fvc, fva, rfl, rfl⟩ := hOf.form
    refine s_move rfl rfl ?_
    refine s_buildSlice rfl rfl (BS38_2 _ _ _ _ _ _) hs ?_; clear hs; intro b34 w hs
    refine s_assign rfl rfl ?_
    refine WL_nil ?_
    refine n_then ?_
    refine W_seq ?_
    refine W_seq ?_
    refine W_region ?_
    refine s_assign rfl rfl ?_
    refine WL_nil ?_
    refine n_then ?_
    refine W_block ?_
    refine W_loop (σ := Nat) (fun i => [(4, .slice ka ks.length kc), (12, .slice (some ⟨b34, 0, none⟩) 2 2), (13, .int .i64 (i : Int))]) (fun i w => St [] w0 w ((b34, Blk 24 [.slice fva fb.length fvc, .slice rva tb.length rvc]) :: (Lf ++ Lt)) ∧ i ≤ 2) (fun i => 2 - i) 0 ⟨rfl, rfl, rfl, trivial⟩ ⟨hs, by omega⟩ ?_
    clear hs
    rintro i w ⟨hs, hi2⟩
    refine W_seq ?_
    refine W_seq ?_
    refine W_region ?_
    refine s_move rfl rfl ?_
    refine s_lss rfl rfl rfl ?_
    refine WL_nil ?_
    refine n_then ?_
    refine W_cond rfl (fun hc36 => ?_) (fun hc36 => ?_)
    · skip
      try simp only [decide_eq_true_eq, decide_eq_false_iff_not, beq_iff_eq, beq_eq_false_iff_ne, ne_eq, bne_iff_ne, bne_eq_false_iff_eq] at hc36
      obtain ⟨ea, sb, ec, Ls, hcell, hrds, hsB, hsl, hLs⟩ : ∃ (ea : Option Addr) (sb : List Int) (ec : Nat) (Ls : Hp), ([.slice fva fb.length fvc, .slice rva tb.length rvc] : List Value)[0 + (i : Int).toNat]? = some (.slice ea sb.length ec) ∧ RdS (.slice ea sb.length ec) sb.length (u8s sb) Ls ∧ (∀ b ∈ sb, isB b) ∧ sb.length ≤ 480 ∧ ∀ p ∈ Ls, p ∈ Lf ++ Lt := by
        have : i = 0 ∨ i = 1 := by omega
        rcases this with rfl | rfl
        · exact ⟨fva, fb, fvc, Lf, rfl, hOf.rdS, hfB, by omega, fun p hp => List.mem_append_left _ hp⟩
        · exact ⟨rva, tb, rvc, Lt, rfl, hOt.rdS, hB, hlen2, fun p hp => List.mem_append_right _ hp⟩
      refine W_skip ?_
      refine n_then ?_
      refine W_seq ?_
      refine W_block ?_
      refine W_seq ?_
      refine W_region ?_
      refine s_move rfl rfl ?_
      refine s_move rfl rfl ?_
      (refine s_indexAddr1 El38 rfl rfl rfl ?hx ?_; case hx => (constructor <;> first | omega | (simp; omega)))
      first
        | refine s_load Try.isAgg24 rfl rfl (hs.cell (k := 0) rfl rfl) ?_
        | refine s_load Try.isAgg24 rfl rfl (hs.cell (k := 1) rfl rfl) ?_
        | refine s_load Try.isAgg24 rfl rfl (hs.cell (k := 2) rfl rfl) ?_
        | refine s_load Try.isAgg24 rfl rfl (hs.cell (k := 3) rfl rfl) ?_
        | refine s_load Try.isAgg24 rfl rfl ((hs.cell (k := 0) rfl hcell)) ?_
        | refine s_load Try.isAgg24 rfl rfl ((hs.cell (k := 1) rfl hcell)) ?_
      refine s_call Try.call21 rfl rfl (read_ok _ sb w (hrds.sl w (fun p hp => hs.own p (List.mem_cons_of_mem _ (hLs p hp)))) (by omega) hsB) ?_
      rintro r w ⟨p, LP, rfl, hP, hst⟩
      replace hs := (St.back0 hs hst).swap
      simp only [List.cons_append, List.append_assoc] at hs
      clear hst
      refine s_assign rfl rfl ?_
      refine WL_nil ?_
      refine n_then ?_
      refine W_seq ?_
      refine W_region ?_
      refine s_move rfl rfl ?_
      refine s_move rfl rfl ?_
      (refine s_indexAddr1 El38 rfl rfl rfl ?hx ?_; case hx => (constructor <;> first | omega | (simp; omega)))
      first
        | refine s_load Try.isAgg24 rfl rfl (hs.cell (k := 0) rfl rfl) ?_
        | refine s_load Try.isAgg24 rfl rfl (hs.cell (k := 1) rfl rfl) ?_
        | refine s_load Try.isAgg24 rfl rfl (hs.cell (k := 2) rfl rfl) ?_
        | refine s_load Try.isAgg24 rfl rfl (hs.cell (k := 3) rfl rfl) ?_
        | refine s_load Try.isAgg24 rfl rfl ((hs.cell (k := 0) rfl hcell)) ?_
        | refine s_load Try.isAgg24 rfl rfl ((hs.cell (k := 1) rfl hcell)) ?_
      refine s_build rfl rfl (BD44_0 _ _ _) ?_
      first | refine s_box rfl rfl hs ?_ | refine s_box1 rfl rfl rfl hs ?_
      clear hs; intro b49 w hs
      refine s_assign rfl rfl ?_
      refine WL_nil ?_
      refine n_then ?_
      refine W_seq ?_
      refine W_seq ?_
      refine W_region ?_
      refine s_move rfl rfl ?_
      refine s_eql_ptr_nil Try.underlying39 rfl rfl rfl ?_
      refine WL_nil ?_
      refine n_then ?_
      refine W_cond_kf rfl (rfl) ?_
      refine W_skip ?_
      refine n_then ?_
      refine W_seq ?_
      refine W_region ?_
      refine s_assign rfl rfl ?_
      refine WL_nil ?_
      refine n_then ?_
      refine W_block ?_
      have hqS : b49 ∉ ids Ls := by
        intro h1
        obtain ⟨o9, ho9⟩ := mem_ids.1 h1
        have h2 : b49 ∈ ids ((b34, Blk 24 [.slice fva fb.length fvc, .slice rva tb.length rvc]) :: (Lf ++ (Lt ++ LP))) := mem_ids_of (p := (b49, o9)) (by rcases List.mem_append.1 (hLs _ ho9) with h | h <;> simp [h])
        exact (List.nodup_cons.1 hs.nodup).1 h2
      have hQ : RfAt b49 ⟨sb, 0⟩ Ls [(b49, Blk 44 [.slice ea sb.length ec, .int .i64 0])] := ⟨ea, sb.length, ec, rfl, ⟨fun _ => rfl, fun _ => hrds, fun _ => hsB, fun _ => by simp only; omega⟩⟩
      replace hs : St [] w0 w ((b34, Blk 24 [.slice fva fb.length fvc, .slice rva tb.length rvc]) :: ((Lf ++ Lt) ++ (LP ++ [(b49, Blk 44 [.slice ea sb.length ec, .int .i64 0])]))) := by simpa [cat] using St.reord [[_], [_], Lf, Lt, LP] [1, 2, 3, 4, 0] [] (by simpa [cat] using hs) rfl
      generalize hLF : Lf ++ Lt = LF at hs hLs
      refine W_loop (σ := RR) (fun u => [(4, .slice ka ks.length kc), (12, .slice (some ⟨b34, 0, none⟩) 2 2), (13, .int .i64 (i : Int)), (14, .pointer (some ⟨p, 0, none⟩)), (15, .pointer (some ⟨b49, 0, none⟩)), (16, .int .i64 (u.i : Int))])
        (fun u w => St [] w0 w ((b34, Blk 24 [.slice fva fb.length fvc, .slice rva tb.length rvc]) :: (LF ++ (u.LP ++ u.LQ))) ∧ RdAt p u.s u.LP ∧ RfAt b49 u.s Ls u.LQ ∧ u.i ≤ 10) (fun u => 10 - u.i) ⟨0, _, LP, _⟩ ⟨rfl, rfl, rfl, rfl, rfl, rfl, trivial⟩ ⟨hs, hP, hQ, Nat.zero_le _⟩ ?_
      clear hs hP hQ
      rintro ⟨j, s1, LP, LQ⟩ w ⟨hs, hP, hQ, hj⟩
      simp only at hs hP hQ hj ⊢
      refine W_seq ?_
      refine W_seq ?_
      refine W_region ?_
      refine s_move rfl rfl ?_
      refine s_move rfl rfl ?_
      refine s_len rfl rfl (LN33 _ _ _ _) ?_
      refine s_lss rfl rfl rfl ?_
      refine s_move rfl rfl ?_
      refine WL_case (s := 56) rfl (fun hg56 => ?_) (fun hg56 => ?_)
      · skip
        try simp only [decide_eq_true_eq, decide_eq_false_iff_not, beq_iff_eq, beq_eq_false_iff_ne, ne_eq, bne_iff_ne, bne_eq_false_iff_eq] at hg56
        refine WL_take rfl ?_
        refine s_move rfl rfl ?_
        refine WL_take rfl ?_
        refine s_lss rfl rfl rfl ?_
        refine s_pick_t rfl rfl rfl ?_
        refine WL_nil ?_
        refine n_then ?_
        refine W_cond rfl (fun hc59 => ?_) (fun hc59 => ?_)
        · skip
          try simp only [decide_eq_true_eq, decide_eq_false_iff_not, beq_iff_eq, beq_eq_false_iff_ne, ne_eq, bne_iff_ne, bne_eq_false_iff_eq] at hc59
          refine W_skip ?_
          refine n_then ?_
          refine W_seq ?_
          refine W_block ?_
          refine W_seq ?_
          refine W_region ?_
          refine s_move rfl rfl ?_
          refine s_move rfl rfl ?_
          have hix : j < ks.length := by omega
          obtain ⟨b1, o1, hA1, hc1⟩ := hk.at (k := j) (i64s_at' hix)
          have hB1 : b1 < w0.heap.size := World.block_lt_of_cell? w0 _ hc1
          have hm : isI64 (ks.getD j 0) := hkI _ (by rw [List.getD_eq_getElem?_getD, List.getElem?_eq_getElem hix]; simp)
          generalize ks.getD j 0 = kq at hc1 hm
          (refine s_indexAddrO El33 rfl rfl rfl hA1 ?hx ?_; case hx => (constructor <;> omega))
          refine s_load Try.isAgg3 rfl rfl ((hs.oldcell (a := ⟨b1, o1 + j, none⟩) hB1 (by simp)).trans hc1) ?_
          refine s_call Try.call11 rfl rfl (around_ok kq 6 w (by omega) hm) ?_
          rintro r w ⟨rfl, rfl⟩
          generalize aroundV kq 6 = k6
          refine s_assign rfl rfl ?_
          refine WL_nil ?_
          refine n_then ?_
          refine W_seq ?_
          refine W_region ?_
          refine s_move rfl rfl ?_
          refine s_move rfl rfl ?_
          refine s_callL (M := _ :: LF) (L1 := LP) (X := LQ) Try.call23 rfl rfl hs (fun h => rread_ok p _ k6 LP w hP h) ?_
          clear hs hP; rintro v w L2 ⟨LP, y, rfl, rfl, hP, hyp, hyo⟩ - hs
          simp only [List.cons_append, List.append_assoc] at hs
          refine s_move rfl rfl ?_
          refine s_move rfl rfl ?_
          refine s_callL (M := _ :: (LF ++ (LP ++ y.L))) (L1 := LQ) (X := []) Try.call24 rfl rfl (by simpa using hs) (fun h => fRRead_ok b49 _ k6 Ls LQ w hQ h (fun p hp => hs.own p (by have := hLs p hp; simp [this])) hqS) ?_
          clear hs hQ; rintro v w L2 ⟨LQ, Lz, z, rfl, rfl, hQ, hzp, hzb, hzl⟩ - hs
          simp only [List.cons_append, List.append_assoc, List.append_nil] at hs
          have hyo' : ∀ q ∈ y.L, w.heap[q.1]? = some q.2 := fun q hq => hs.own q (by simp [hq])
          refine s_call Try.call22 rfl rfl (same_ok y z w (hyo.b.sl w (fun q hq => hyo' q (List.mem_append_left _ hq))) (hzb.sl w (fun q hq => hs.own q (by have := hLs q hq; simp [this]))) (hyo.l.sl w (fun q hq => hyo' q (List.mem_append_right _ hq))) (hzl.sl w (fun q hq => hs.own q (by simp [hq]))) hyo.p.hbl hyo.p.hll) ?_
          rintro r w ⟨hst, rfl⟩
          replace hs := hs.fwd1 hst
          clear hst
          replace hs : St [] w0 w ((b34, Blk 24 [.slice fva fb.length fvc, .slice rva tb.length rvc]) :: (LF ++ (LP ++ LQ))) := by simpa [cat] using St.reord [[_], LF, LP, y.L, LQ, Lz] [0, 1, 2, 4] [3, 5] (by simpa [cat] using hs) rfl
          refine s_not rfl rfl ?_
          refine s_move rfl rfl ?_
          refine WL_know (s := 75) (c := false) rfl ((by rw [hyp, hzp]; simp)) ?_
          refine WL_take rfl ?_
          refine s_move rfl rfl ?_
          refine WL_take rfl ?_
          refine s_callL (M := _ :: LF) (L1 := LP) (X := LQ) Try.call25 rfl rfl hs (fun h => rEnd_ok p _ _ w hP h) ?_
          clear hs; rintro v w LP2 ⟨rfl, rfl⟩ - hs
          simp only [List.cons_append] at hs
          refine WL_take rfl ?_
          refine s_move rfl rfl ?_
          refine WL_take rfl ?_
          refine s_callL (M := _ :: (LF ++ LP2)) (L1 := LQ) (X := []) Try.call26 rfl rfl (by simpa using hs) (fun h => fREnd_ok b49 _ Ls _ w hQ h) ?_
          clear hs; rintro v w LQ2 ⟨rfl, rfl⟩ - hs
          simp only [List.cons_append, List.append_assoc, List.append_nil] at hs
          refine WL_take rfl ?_
          refine s_neq rfl rfl rfl ?_
          refine s_pick_f rfl rfl rfl ?_
          refine WL_nil ?_
          refine n_then ?_
          refine W_cond_kf rfl ((by simp)) ?_
          refine W_skip ?_
          refine n_blk ?_
          refine n_then ?_
          refine W_region ?_
          refine s_move rfl rfl ?_
          first | (refine s_add' rfl rfl rfl ?hx ?_; case hx => (constructor <;> first | omega | (simp only; omega))) | refine s_add rfl rfl rfl ?_
          refine s_assign rfl rfl ?_
          refine WL_nil ?_
          refine n_loop ?_
          exact ⟨⟨j + 1, _, LP2, LQ2⟩, ⟨rfl, rfl, rfl, rfl, rfl, rfl, trivial⟩, ⟨hs, hP, hQ, by simp only; omega⟩, by simp only; omega⟩
        · skip
          try simp only [decide_eq_true_eq, decide_eq_false_iff_not, beq_iff_eq, beq_eq_false_iff_ne, ne_eq, bne_iff_ne, bne_eq_false_iff_eq] at hc59
          refine W_exit ?_
          refine x_then ?_
          refine x_then ?_
          refine exit_hit ?_
          refine n_blk ?_
          refine n_then ?_
          refine W_region ?_
          refine s_move rfl rfl ?_
          first | (refine s_add' rfl rfl rfl ?hx ?_; case hx => (constructor <;> first | omega | (simp only; omega))) | refine s_add rfl rfl rfl ?_
          refine s_assign rfl rfl ?_
          refine WL_nil ?_
          refine n_loop ?_
          subst hLF
          exact ⟨i + 1, ⟨rfl, rfl, rfl, trivial⟩, ⟨St.left (M := LP ++ LQ) (by simpa using hs), by omega⟩, by omega⟩
      · skip
        try simp only [decide_eq_true_eq, decide_eq_false_iff_not, beq_iff_eq, beq_eq_false_iff_ne, ne_eq, bne_iff_ne, bne_eq_false_iff_eq] at hg56
        refine WL_skip rfl rfl rfl ?_
        refine WL_skip rfl rfl rfl ?_
        refine s_pick_f rfl rfl rfl ?_
        refine WL_nil ?_
        refine n_then ?_
        refine W_cond_f rfl ?_
        refine W_exit ?_
        refine x_then ?_
        refine x_then ?_
        refine exit_hit ?_
        refine n_blk ?_
        refine n_then ?_
        refine W_region ?_
        refine s_move rfl rfl ?_
        first | (refine s_add' rfl rfl rfl ?hx ?_; case hx => (constructor <;> first | omega | (simp only; omega))) | refine s_add rfl rfl rfl ?_
        refine s_assign rfl rfl ?_
        refine WL_nil ?_
        refine n_loop ?_
        subst hLF
        exact ⟨i + 1, ⟨rfl, rfl, rfl, trivial⟩, ⟨St.left (M := LP ++ LQ) (by simpa using hs), by omega⟩, by omega⟩
    · skip
      try simp only [decide_eq_true_eq, decide_eq_false_iff_not, beq_iff_eq, beq_eq_false_iff_ne, ne_eq, bne_iff_ne, bne_eq_false_iff_eq] at hc36
      refine W_exit ?_
      refine x_then ?_
      refine x_then ?_
      refine exit_hit ?_
      refine n_then ?_
      refine W_seq ?_
      refine W_region ?_
      refine s_call Try.call17 rfl rfl (lives_ok w) ?_
      rintro r w ⟨hst, rfl⟩
      replace hs := hs.fwd1 hst
      refine s_assign rfl rfl ?_
      refine WL_nil ?_
      refine n_then ?_
      refine W_ret ?_
      exact end1 rfl rfl ⟨hs.fwd, rfl⟩
end Go.Proofs.Ytheeheahhnamjaa
