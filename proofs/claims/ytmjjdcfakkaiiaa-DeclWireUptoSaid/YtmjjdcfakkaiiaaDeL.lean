/- decl.Decode: the walk. -/
import Derived.Test.YtmjjdcfakkaiiaaDeK
set_option linter.unusedVariables false
set_option linter.unusedSimpArgs false
namespace Go.Proofs.Ytmjjdcfakkaiiaa
open Go.SL
structure DecOk (bs : List Int) (nm : ByteArray) (ls : List Lb) (ns : List Int) : Prop where
  nm : nm = strOf (rdRaw ⟨bs, 0⟩).1
  cnt : 0 ≤ (rdI (rdRaw ⟨bs, 0⟩).2).1 ∧ (rdI (rdRaw ⟨bs, 0⟩).2).1 ≤ 8
  ls : ls = (rdLs (rdI (rdRaw ⟨bs, 0⟩).2).1.toNat (rdI (rdRaw ⟨bs, 0⟩).2).2).1
  ns : ns = (rdNs 10 (rdLs (rdI (rdRaw ⟨bs, 0⟩).2).1.toNat (rdI (rdRaw ⟨bs, 0⟩).2).2).2).1
  fin : rdEnd (rdNs 10 (rdLs (rdI (rdRaw ⟨bs, 0⟩).2).1.toNat (rdI (rdRaw ⟨bs, 0⟩).2).2).2).2 = 0
/-- what Decode answers -/
def DecR (bs : List Int) (d : De) (ls : List Lb) (e : Int) : Prop :=
  ((∀ nm l n, ¬ DecOk bs nm l n) ∧ e = 2 ∧ d = dZero ∧ ls = []) ∨
  (DecOk bs d.name ls d.nums ∧ e = 0 ∧ DeclE d ls 0) ∨
  (∃ d' ls', DecOk bs d'.name ls' d'.nums ∧ DeclE d' ls' e ∧ e ≠ 0 ∧ d = dZero ∧ ls = [])
theorem ten {ns : List Int} (h : ns.length = 10) : ∃ a b c d e f g i j k, ns = [a, b, c, d, e, f, g, i, j, k] := by
  match ns, h with
  | [a, b, c, d, e, f, g, i, j, k], _ => exact ⟨a, b, c, d, e, f, g, i, j, k, rfl⟩
set_option maxHeartbeats 4000000 in
theorem decode_ok (v : Value) (bs : List Int) (w0 : World) (hv : Sl w0 v bs.length (u8s bs)) (hl : bs.length ≤ 4294967296) (hb : ∀ b ∈ bs, isB b) :
    Ret Try.prog 28 [v].toArray w0 fun r w' => ∃ d ls e Lr, r = .tuple #[.agg (De.vals d).toArray, .int .i64 e] ∧ St [] w0 w' Lr ∧ OwnS 51 2 d.lv ls.length (lbcells ls) Lr ∧ DecR bs d ls e := by
  refine Ret_start fun w hs => ?_
  refine Ret_of Try.func28 rfl Try.ntmps28 rfl ?_
  refine W_seq ?_
  refine W_region ?_
  refine s_alloc rfl AL27 hs ?_; clear hs; intro b2 w hs
  refine s_assign rfl rfl ?_
  refine WL_nil ?_
  refine n_then ?_
  refine W_seq ?_
  refine W_region ?_
  refine s_alloc rfl AL27 hs ?_; clear hs; intro b4 w hs
  refine WL_nil ?_
  refine n_then ?_
  refine W_seq ?_
  refine W_region ?_
  refine s_move rfl rfl ?_
  refine s_call Try.call22 rfl rfl (read_ok v bs w (hv.fwd0 hs.fwd) hl hb) ?_
  rintro r w ⟨p, LR, rfl, hR, hst⟩
  replace hs := (St.back0 hs hst).swap
  clear hst
  simp only [List.cons_append, List.nil_append] at hs
  refine s_alloc rfl AL44 hs ?_; clear hs; intro b5 w hs
  first
    | refine s_storeB Try.sizeOf44 rfl rfl rfl hs (kk := 0) rfl rfl ?_
    | refine s_storeB Try.sizeOf44 rfl rfl rfl hs (kk := 1) rfl rfl ?_
    | refine s_storeB Try.sizeOf44 rfl rfl rfl hs (kk := 2) rfl rfl ?_
    | refine s_storeB Try.sizeOf44 rfl rfl rfl hs (kk := 3) rfl rfl ?_
  clear hs; intro w hs; try simp only [List.set_cons_zero, List.set_cons_succ, splice, List.take_succ_cons, List.take_zero, List.drop_succ_cons, List.drop_zero, List.nil_append, List.cons_append, List.length_cons, List.length_nil, Nat.reduceAdd, List.append_assoc] at hs
  refine WL_nil ?_
  refine n_then ?_
  refine W_seq ?_
  refine W_region ?_
  replace hs : St [] w0 w ((b2, Blk 27 dZero.vals) :: (b4, Blk 27 [.string ByteArray.empty, .slice none 0 0, .int .i64 0, .int .i64 0, .int .i64 0, .int .i64 0, .int .i64 0, .int .i64 0, .int .i64 0, .int .i64 0, .int .i64 0, .int .i64 0]) :: PtrB 44 b5 p :: LR) := hs.perm ((List.Perm.swap _ _ _).trans (((List.Perm.swap _ _ _).cons _).trans (List.Perm.swap _ _ _)))
  refine s_makeFunc rfl rfl rfl ?_
  refine s_assign rfl rfl ?_
  refine WL_nil ?_
  refine n_then ?_
  refine W_seq ?_
  refine W_region ?_
  refine s_move rfl rfl ?_
  refine s_fieldAddr rfl rfl (FA27_0 _ _) ?_
  refine s_buildSlice rfl rfl (BS96_1 _) hs ?_; clear hs; intro b15 w hs
  refine s_callL (M := [_, _]) (L1 := _ :: _ :: LR) (X := []) Try.call43 rfl rfl (by simp only [List.append_nil, List.cons_append, List.nil_append]; exact hs) (fun h => decEach_ok _ [0] b4 27 b5 p _ _ LR w hR h (hs.sl (k := 0) (ds := [_]) rfl (Nat.le_refl _) (by intro j u hj; rw [Nat.zero_add j]; exact hj)) (fun a m c ha => by cases ha; exact St.notin (M := [_, _]) (L := _ :: _ :: LR) (X := []) (by simp only [List.append_nil, List.cons_append, List.nil_append]; exact hs) (by simp [ids])) (by simp) (by simp)) ?_
  clear hs hR; rintro v w L9 ⟨⟨LR, hR, rfl⟩, rfl⟩ - hs
  simp only [List.append_nil] at hs
  obtain ⟨nm, hnm⟩ : ∃ nm, nm = strOf (rdRaw ⟨bs, 0⟩).1 := ⟨_, rfl⟩
  obtain ⟨s1, hs1⟩ : ∃ s, s = (rdRaw ⟨bs, 0⟩).2 := ⟨_, rfl⟩
  replace hR : RdAt p s1 LR := by rw [hs1]; exact hR
  replace hs : St [] w0 w ((b2, Blk 27 dZero.vals) :: (b4, Blk 27 [.string nm, .slice none 0 0, .int .i64 0, .int .i64 0, .int .i64 0, .int .i64 0, .int .i64 0, .int .i64 0, .int .i64 0, .int .i64 0, .int .i64 0, .int .i64 0]) :: PtrB 44 b5 p :: LR) := by rw [hnm]; exact hs.tail
  refine WL_nil ?_
  refine n_then ?_
  refine W_seq ?_
  refine W_region ?_
  refine s_load Try.isAgg44 rfl rfl (hs.cell (k := 2) rfl rfl) ?_
  refine s_callL (M := [_, _, _]) (L1 := LR) (X := []) Try.call25 rfl rfl (by simp only [List.append_nil, List.cons_append, List.nil_append]; exact hs) (fun h => rInt_ok p s1 LR w hR h) ?_
  clear hs hR; rintro v w LR ⟨hR, rfl⟩ - hs
  simp only [List.append_nil, List.cons_append, List.nil_append] at hs
  obtain ⟨n, hn⟩ : ∃ n, n = (rdI s1).1 := ⟨_, rfl⟩
  obtain ⟨s2, hs2⟩ : ∃ s, s = (rdI s1).2 := ⟨_, rfl⟩
  rw [← hn]
  rw [← hs2] at hR
  refine s_assign rfl rfl ?_
  refine WL_nil ?_
  refine n_then ?_
  refine W_seq ?_
  refine W_seq ?_
  refine W_region ?_
  refine s_move rfl rfl ?_
  refine s_lss rfl rfl rfl ?_
  refine s_move rfl rfl ?_
  refine WL_case (s := 21) rfl (fun hg21 => ?_) (fun hg21 => ?_)
  · skip
    try simp only [decide_eq_true_eq, decide_eq_false_iff_not, beq_iff_eq, beq_eq_false_iff_ne, bne_iff_ne, bne_eq_false_iff_eq, ne_eq, gt_iff_lt] at hg21
    refine WL_skip rfl rfl rfl ?_
    refine WL_skip rfl rfl rfl ?_
    refine s_pick_t rfl rfl rfl ?_
    refine WL_nil ?_
    refine n_then ?_
    refine W_cond_t rfl ?_
    refine W_seq ?_
    refine W_region ?_
    refine s_build rfl rfl (BD27_ ) ?_
    first
      | refine s_storeW Try.sizeOf27 rfl rfl rfl rfl hs (kk := 0) rfl rfl ?_
      | refine s_storeW Try.sizeOf27 rfl rfl rfl rfl hs (kk := 1) rfl rfl ?_
      | refine s_storeW Try.sizeOf27 rfl rfl rfl rfl hs (kk := 2) rfl rfl ?_
      | refine s_storeW Try.sizeOf27 rfl rfl rfl rfl hs (kk := 3) rfl rfl ?_
      | refine s_storeAB Try.sizeOf27 rfl rfl rfl rfl hs (kk := 0) rfl rfl ?_
      | refine s_storeAB Try.sizeOf27 rfl rfl rfl rfl hs (kk := 1) rfl rfl ?_
      | refine s_storeAB Try.sizeOf27 rfl rfl rfl rfl hs (kk := 2) rfl rfl ?_
      | refine s_storeAB Try.sizeOf27 rfl rfl rfl rfl hs (kk := 3) rfl rfl ?_
    clear hs; intro w hs; try simp only [List.set_cons_zero, List.set_cons_succ, splice, List.take_succ_cons, List.take_zero, List.drop_succ_cons, List.drop_zero, List.nil_append, List.cons_append, List.length_cons, List.length_nil, Nat.reduceAdd, List.append_assoc] at hs
    refine s_assign rfl rfl ?_
    refine WL_nil ?_
    refine n_then ?_
    refine W_ret ?_
    refine r_then ?_
    first
      | exact end2 rfl (resOk_block Try.isAgg27 Try.sizeOf27 hs rfl (kk := 0) rfl rfl) rfl ⟨dZero, [], _, [], rfl, St.left (L := []) hs, OwnS.nil _ _, .inl ⟨fun _ _ _ h => by have := h.cnt; rw [← hs1, ← hn] at this; omega, rfl, rfl, rfl⟩⟩
      | exact end2 rfl (resOk_block Try.isAgg27 Try.sizeOf27 hs rfl (kk := 0) rfl rfl) rfl ⟨dZero, [], _, [], rfl, St.left (L := []) hs, OwnS.nil _ _, .inl ⟨hD2 ‹_›, rfl, rfl, rfl⟩⟩
      | exact end2 rfl (resOk_block Try.isAgg27 Try.sizeOf27 hs rfl (kk := 0) rfl rfl) rfl ⟨dZero, [], _, [], rfl, St.left (L := []) hs, OwnS.nil _ _, .inr (.inr ⟨d, ls, hD ‹_›, he, ‹_›, rfl, rfl⟩)⟩
      | exact end2 rfl (resOk_block Try.isAgg27 Try.sizeOf27 hs rfl (kk := 0) rfl rfl) rfl ⟨d, ls, _, Lv, rfl, St.right (M := LR) hs.tail.tail.tail, hOd, .inr (.inl ⟨hD ‹_›, rfl, by subst e; exact he⟩)⟩
  · skip
    try simp only [decide_eq_true_eq, decide_eq_false_iff_not, beq_iff_eq, beq_eq_false_iff_ne, bne_iff_ne, bne_eq_false_iff_eq, ne_eq, gt_iff_lt] at hg21
    refine WL_take rfl ?_
    refine s_move rfl rfl ?_
    refine WL_take rfl ?_
    refine s_gtr rfl rfl rfl ?_
    refine s_pick_f rfl rfl rfl ?_
    refine WL_nil ?_
    refine n_then ?_
    refine W_cond rfl (fun hc24 => ?_) (fun hc24 => ?_)
    · skip
      try simp only [decide_eq_true_eq, decide_eq_false_iff_not, beq_iff_eq, beq_eq_false_iff_ne, bne_iff_ne, bne_eq_false_iff_eq, ne_eq, gt_iff_lt] at hc24
      refine W_seq ?_
      refine W_region ?_
      refine s_build rfl rfl (BD27_ ) ?_
      first
        | refine s_storeW Try.sizeOf27 rfl rfl rfl rfl hs (kk := 0) rfl rfl ?_
        | refine s_storeW Try.sizeOf27 rfl rfl rfl rfl hs (kk := 1) rfl rfl ?_
        | refine s_storeW Try.sizeOf27 rfl rfl rfl rfl hs (kk := 2) rfl rfl ?_
        | refine s_storeW Try.sizeOf27 rfl rfl rfl rfl hs (kk := 3) rfl rfl ?_
        | refine s_storeAB Try.sizeOf27 rfl rfl rfl rfl hs (kk := 0) rfl rfl ?_
        | refine s_storeAB Try.sizeOf27 rfl rfl rfl rfl hs (kk := 1) rfl rfl ?_
        | refine s_storeAB Try.sizeOf27 rfl rfl rfl rfl hs (kk := 2) rfl rfl ?_
        | refine s_storeAB Try.sizeOf27 rfl rfl rfl rfl hs (kk := 3) rfl rfl ?_
      clear hs; intro w hs; try simp only [List.set_cons_zero, List.set_cons_succ, splice, List.take_succ_cons, List.take_zero, List.drop_succ_cons, List.drop_zero, List.nil_append, List.cons_append, List.length_cons, List.length_nil, Nat.reduceAdd, List.append_assoc] at hs
      refine s_assign rfl rfl ?_
      refine WL_nil ?_
      refine n_then ?_
      refine W_ret ?_
      refine r_then ?_
      first
        | exact end2 rfl (resOk_block Try.isAgg27 Try.sizeOf27 hs rfl (kk := 0) rfl rfl) rfl ⟨dZero, [], _, [], rfl, St.left (L := []) hs, OwnS.nil _ _, .inl ⟨fun _ _ _ h => by have := h.cnt; rw [← hs1, ← hn] at this; omega, rfl, rfl, rfl⟩⟩
        | exact end2 rfl (resOk_block Try.isAgg27 Try.sizeOf27 hs rfl (kk := 0) rfl rfl) rfl ⟨dZero, [], _, [], rfl, St.left (L := []) hs, OwnS.nil _ _, .inl ⟨hD2 ‹_›, rfl, rfl, rfl⟩⟩
        | exact end2 rfl (resOk_block Try.isAgg27 Try.sizeOf27 hs rfl (kk := 0) rfl rfl) rfl ⟨dZero, [], _, [], rfl, St.left (L := []) hs, OwnS.nil _ _, .inr (.inr ⟨d, ls, hD ‹_›, he, ‹_›, rfl, rfl⟩)⟩
        | exact end2 rfl (resOk_block Try.isAgg27 Try.sizeOf27 hs rfl (kk := 0) rfl rfl) rfl ⟨d, ls, _, Lv, rfl, St.right (M := LR) hs.tail.tail.tail, hOd, .inr (.inl ⟨hD ‹_›, rfl, by subst e; exact he⟩)⟩
    · skip
      try simp only [decide_eq_true_eq, decide_eq_false_iff_not, beq_iff_eq, beq_eq_false_iff_ne, bne_iff_ne, bne_eq_false_iff_eq, ne_eq, gt_iff_lt] at hc24
      refine W_skip ?_
      refine n_then ?_
      refine W_seq ?_
      refine W_seq ?_
      refine W_region ?_
      refine s_move rfl rfl ?_
      refine s_move rfl rfl ?_
      refine WL_nil ?_
      refine n_then ?_
      refine W_block ?_
      refine W_loop (σ := Nat × Value × Hp × Hp) (fun s => [(2, .pointer (some ⟨b2, 0, none⟩)), (3, .int .i64 0), (4, .pointer (some ⟨b4, 0, none⟩)), (5, .pointer (some ⟨b5, 0, none⟩)), (6, .func (.func 50) #[] #[.pointer (some ⟨b5, 0, none⟩)]), (26, .int .i64 n), (27, .int .i64 (s.1 : Int))]) (fun s w => St [] w0 w ((b2, Blk 27 dZero.vals) :: (b4, Blk 27 [.string nm, s.2.1, .int .i64 0, .int .i64 0, .int .i64 0, .int .i64 0, .int .i64 0, .int .i64 0, .int .i64 0, .int .i64 0, .int .i64 0, .int .i64 0]) :: PtrB 44 b5 p :: (s.2.2.1 ++ s.2.2.2)) ∧ RdAt p (rdLs s.1 s2).2 s.2.2.1 ∧ OwnS 51 2 s.2.1 s.1 (lbcells (rdLs s.1 s2).1) s.2.2.2 ∧ s.1 ≤ n.toNat) (fun s => n.toNat - s.1) (0, .slice none 0 0, LR, []) ⟨rfl, rfl, rfl, rfl, rfl, rfl, rfl, trivial⟩ ⟨by simpa using hs, hR, OwnS.nil _ _, Nat.zero_le _⟩ ?_
      clear hs hR
      rintro ⟨i, lv, LR, Lv⟩ w ⟨hs, hR, hO, hi⟩
      simp only at hs hR hO hi ⊢
      obtain ⟨ln, lc, la, rfl, rfl⟩ := hO.form
      refine W_seq ?_
      refine W_region ?_
      refine s_lss rfl rfl rfl ?_
      refine WL_nil ?_
      refine n_then ?_
      refine W_seq ?_
      refine W_cond rfl (fun hc28 => ?_) (fun hc28 => ?_)
      · skip
        try simp only [decide_eq_true_eq, decide_eq_false_iff_not, beq_iff_eq, beq_eq_false_iff_ne, bne_iff_ne, bne_eq_false_iff_eq, ne_eq, gt_iff_lt] at hc28
        refine W_skip ?_
        refine n_then ?_
        refine W_seq ?_
        refine W_block ?_
        refine W_seq ?_
        refine W_region ?_
        refine s_alloc rfl AL51 hs ?_; clear hs; intro b8 w hs
        refine WL_nil ?_
        refine n_then ?_
        refine W_seq ?_
        refine W_region ?_
        refine s_move rfl rfl ?_
        refine s_fieldAddr rfl rfl (FA51_0 _ _) ?_
        refine s_fieldAddr rfl rfl (FA51_1 _ _) ?_
        refine s_buildSlice rfl rfl (BS96_2 _ _) hs ?_; clear hs; intro b32 w hs
        replace hs : St [] w0 w (_ :: (b2, Blk 27 dZero.vals) :: (b4, Blk 27 [.string nm, .slice la ln lc, .int .i64 0, .int .i64 0, .int .i64 0, .int .i64 0, .int .i64 0, .int .i64 0, .int .i64 0, .int .i64 0, .int .i64 0, .int .i64 0]) :: (b8, Blk 51 [.string ByteArray.empty, .string ByteArray.empty]) :: PtrB 44 b5 p :: (LR ++ Lv)) := hs.perm (((List.Perm.swap _ _ _).trans ((List.Perm.swap _ _ _).cons _)).cons _)
        refine s_callL (M := [_, _, _]) (L1 := _ :: _ :: LR) (X := Lv) Try.call43 rfl rfl hs (fun h => decEach_ok _ [0, 1] b8 51 b5 p _ _ LR w hR h (hs.sl (k := 0) (ds := [_, _]) rfl (Nat.le_refl _) (by intro j u hj; rw [Nat.zero_add j]; exact hj)) (fun a m c ha => by cases ha; exact St.notin (M := [_, _, _]) (L := _ :: _ :: LR) (X := Lv) hs (by simp [ids])) (by simp) (by simp)) ?_
        clear hs hR; rintro v w L9 ⟨⟨LR, hR, rfl⟩, rfl⟩ - hs
        obtain ⟨x1, hx1⟩ : ∃ x, x = strOf (rdRaw (rdLs ln s2).2).1 := ⟨_, rfl⟩
        obtain ⟨x2, hx2⟩ : ∃ x, x = strOf (rdRaw (rdRaw (rdLs ln s2).2).2).1 := ⟨_, rfl⟩
        replace hs : St [] w0 w ((b2, Blk 27 dZero.vals) :: (b4, Blk 27 [.string nm, .slice la ln lc, .int .i64 0, .int .i64 0, .int .i64 0, .int .i64 0, .int .i64 0, .int .i64 0, .int .i64 0, .int .i64 0, .int .i64 0, .int .i64 0]) :: (b8, Blk 51 [.string x1, .string x2]) :: PtrB 44 b5 p :: (LR ++ Lv)) := by rw [hx1, hx2]; exact hs.tail
        refine WL_nil ?_
        refine n_then ?_
        refine W_region ?_
        refine s_fieldAddr rfl rfl (FA27_1 _ _) ?_
        first
          | refine s_load Try.isAgg23 rfl rfl (hs.cell (k := 0) rfl rfl) ?_
          | refine s_load Try.isAgg23 rfl rfl (hs.cell (k := 1) rfl rfl) ?_
          | refine s_load Try.isAgg23 rfl rfl (hs.cell (k := 2) rfl rfl) ?_
          | refine s_load Try.isAgg23 rfl rfl (hs.cell (k := 3) rfl rfl) ?_
        first
          | refine s_loadW Try.isAgg51 Try.sizeOf51 rfl rfl hs (kk := 0) rfl rfl ?_
          | refine s_loadW Try.isAgg51 Try.sizeOf51 rfl rfl hs (kk := 1) rfl rfl ?_
          | refine s_loadW Try.isAgg51 Try.sizeOf51 rfl rfl hs (kk := 2) rfl rfl ?_
          | refine s_loadW Try.isAgg51 Try.sizeOf51 rfl rfl hs (kk := 3) rfl rfl ?_
          | refine s_load_2 Try.isAgg51 Try.sizeOf51 rfl rfl (by first | exact hs.cell (k := 0) rfl rfl | exact hs.cell (k := 1) rfl rfl | exact hs.cell (k := 2) rfl rfl | exact hs.cell (k := 3) rfl rfl) (by first | exact hs.cell (k := 0) rfl rfl | exact hs.cell (k := 1) rfl rfl | exact hs.cell (k := 2) rfl rfl | exact hs.cell (k := 3) rfl rfl) ?_
        refine s_buildSlice rfl rfl (BS23_1 _ _) hs ?_; clear hs; intro b37 w hs
        refine s_appendM (M := _ :: _ :: _ :: _ :: _ :: LR) (X := []) El23 rfl rfl rfl hO (by simp only [List.append_nil, List.cons_append]; exact hs) (hs.sl (k := 0) (ds := [_, _]) rfl (Nat.le_refl _) (by intro j u hj; rw [Nat.zero_add j]; exact hj)) rfl (by simp [Value.oneCell']) (by omega) ?_
        clear hs; intro v7 w Lv7 hO7 hs
        simp only [List.append_nil, List.cons_append] at hs
        obtain ⟨l7, c7, a7, rfl, hl7⟩ := hO7.form
        refine s_fieldAddr rfl rfl (FA27_1 _ _) ?_
        first
          | refine s_storeB Try.sizeOf23 rfl rfl rfl hs (kk := 0) rfl rfl ?_
          | refine s_storeB Try.sizeOf23 rfl rfl rfl hs (kk := 1) rfl rfl ?_
          | refine s_storeB Try.sizeOf23 rfl rfl rfl hs (kk := 2) rfl rfl ?_
          | refine s_storeB Try.sizeOf23 rfl rfl rfl hs (kk := 3) rfl rfl ?_
        clear hs; intro w hs; try simp only [List.set_cons_zero, List.set_cons_succ, splice, List.take_succ_cons, List.take_zero, List.drop_succ_cons, List.drop_zero, List.nil_append, List.cons_append, List.length_cons, List.length_nil, Nat.reduceAdd, List.append_assoc] at hs
        refine WL_nil ?_
        refine n_blk ?_
        refine n_then ?_
        refine W_region ?_
        first | (refine s_add' rfl rfl rfl ?hx ?_; case hx => (constructor <;> first | omega | (simp only; omega))) | refine s_add rfl rfl rfl ?_
        refine s_move rfl rfl ?_
        refine WL_nil ?_
        refine n_loop ?_
        refine ⟨(ln + 1, .slice a7 l7 c7, LR, Lv7), ⟨rfl, rfl, rfl, rfl, rfl, rfl, rfl, trivial⟩, ⟨(hs.tail.perm (((List.Perm.swap _ _ _).cons _).trans (List.Perm.swap _ _ _))).tail, hR, ?_, by simp only; omega⟩, by simp only; omega⟩
        simp only [rdLs]
        rw [← hx1, ← hx2]
        simpa [lbC] using hO7
      · skip
        try simp only [decide_eq_true_eq, decide_eq_false_iff_not, beq_iff_eq, beq_eq_false_iff_ne, bne_iff_ne, bne_eq_false_iff_eq, ne_eq, gt_iff_lt] at hc28
        refine W_exit ?_
        refine x_then ?_
        refine x_then ?_
        refine exit_hit ?_
        refine n_then ?_
        refine W_seq ?_
        refine W_region ?_
        refine s_makeFunc rfl rfl rfl ?_
        have hie : ln = n.toNat := by omega
        have hcnt : 0 ≤ n ∧ n ≤ 8 := by omega
        replace hs : St [] w0 w ((b2, Blk 27 dZero.vals) :: (b4, Blk 27 (numCells nm (.slice la ln lc) 0 (rdLs ln s2).2)) :: PtrB 44 b5 p :: (LR ++ Lv)) := hs
        refine s_callL (M := [_]) (L1 := _ :: _ :: LR) (X := Lv) Try.call45 rfl rfl hs (fun h => decNums_ok nm (.slice la ln lc) b4 27 b5 p (rdLs ln s2).2 LR w hR h) ?_
        clear hs hR; rintro v w L9 ⟨⟨LR, hR, rfl⟩, rfl⟩ - hs
        obtain ⟨ls, hls⟩ : ∃ l, l = (rdLs ln s2).1 := ⟨_, rfl⟩
        obtain ⟨s3, hs3⟩ : ∃ s, s = (rdLs ln s2).2 := ⟨_, rfl⟩
        have hll : ls.length = ln := by rw [hls]; exact rdLs_len _ _
        rw [← hls] at hO
        rw [← hs3] at hR hs
        obtain ⟨n0, n1, n2, n3, n4, n5, n6, n7, n8, n9, hns⟩ := ten (rdNs_len 10 s3)
        obtain ⟨s4, hs4⟩ : ∃ s, s = (rdNs 10 s3).2 := ⟨_, rfl⟩
        rw [← hs4] at hR
        obtain ⟨d, hd⟩ : ∃ d : De, d = ⟨nm, .slice la ln lc, n0, n1, n2, n3, n4, n5, n6, n7, n8, n9⟩ := ⟨_, rfl⟩
        have hnc : numCells nm (.slice la ln lc) 10 s3 = d.vals := by rw [hd, numCells, hns]; rfl
        rw [hnc] at hs
        have hdl : d.lv = .slice la ln lc := by rw [hd]
        have hone := De.vals_one (d := d) ⟨_, _, _, hdl⟩
        have hdn : d.nums = (rdNs 10 s3).1 := by rw [hd, hns]; rfl
        have hdm : d.name = nm := by rw [hd]
        replace hs : St [] w0 w ((b2, Blk 27 dZero.vals) :: (b4, Blk 27 d.vals) :: PtrB 44 b5 p :: (LR ++ Lv)) := hs
        have hOd : OwnS 51 2 d.lv ls.length (lbcells ls) Lv := by rw [hdl, hll]; exact hO
        have hD : rdEnd s4 = 0 → DecOk bs d.name ls d.nums := fun he => by
          subst hs4 hs3 hls hie hs2 hn hs1
          exact ⟨by rw [hdm, hnm], hcnt, rfl, hdn, he⟩
        have hD2 : rdEnd s4 ≠ 0 → ∀ nm l n, ¬ DecOk bs nm l n := fun he _ _ _ h => by
          subst hs4 hs3 hls hie hs2 hn hs1
          exact he h.fin
        clear hd hnc hns
        refine WL_nil ?_
        refine n_then ?_
        refine W_seq ?_
        refine W_seq ?_
        refine W_region ?_
        refine s_load Try.isAgg44 rfl rfl (hs.cell (k := 2) rfl rfl) ?_
        refine s_callL (M := [_, _, _]) (L1 := LR) (X := Lv) Try.call27 rfl rfl hs (fun h => rEnd_ok p s4 LR w hR h) ?_
        clear hs; rintro v w L9 ⟨hL9, rfl⟩ - hs
        rw [hL9] at hs
        clear hL9 L9
        simp only [List.cons_append, List.nil_append] at hs
        generalize rdEnd s4 = ee at hD hD2
        refine s_neq rfl rfl rfl ?_
        refine WL_nil ?_
        refine n_then ?_
        refine W_cond rfl (fun hc45 => ?_) (fun hc45 => ?_)
        · skip
          try simp only [decide_eq_true_eq, decide_eq_false_iff_not, beq_iff_eq, beq_eq_false_iff_ne, bne_iff_ne, bne_eq_false_iff_eq, ne_eq, gt_iff_lt] at hc45
          refine W_seq ?_
          refine W_region ?_
          refine s_build rfl rfl (BD27_ ) ?_
          first
            | refine s_storeW Try.sizeOf27 rfl rfl rfl rfl hs (kk := 0) rfl rfl ?_
            | refine s_storeW Try.sizeOf27 rfl rfl rfl rfl hs (kk := 1) rfl rfl ?_
            | refine s_storeW Try.sizeOf27 rfl rfl rfl rfl hs (kk := 2) rfl rfl ?_
            | refine s_storeW Try.sizeOf27 rfl rfl rfl rfl hs (kk := 3) rfl rfl ?_
            | refine s_storeAB Try.sizeOf27 rfl rfl rfl rfl hs (kk := 0) rfl rfl ?_
            | refine s_storeAB Try.sizeOf27 rfl rfl rfl rfl hs (kk := 1) rfl rfl ?_
            | refine s_storeAB Try.sizeOf27 rfl rfl rfl rfl hs (kk := 2) rfl rfl ?_
            | refine s_storeAB Try.sizeOf27 rfl rfl rfl rfl hs (kk := 3) rfl rfl ?_
          clear hs; intro w hs; try simp only [List.set_cons_zero, List.set_cons_succ, splice, List.take_succ_cons, List.take_zero, List.drop_succ_cons, List.drop_zero, List.nil_append, List.cons_append, List.length_cons, List.length_nil, Nat.reduceAdd, List.append_assoc] at hs
          refine s_assign rfl rfl ?_
          refine WL_nil ?_
          refine n_then ?_
          refine W_ret ?_
          refine r_then ?_
          first
            | exact end2 rfl (resOk_block Try.isAgg27 Try.sizeOf27 hs rfl (kk := 0) rfl rfl) rfl ⟨dZero, [], _, [], rfl, St.left (L := []) hs, OwnS.nil _ _, .inl ⟨fun _ _ _ h => by have := h.cnt; rw [← hs1, ← hn] at this; omega, rfl, rfl, rfl⟩⟩
            | exact end2 rfl (resOk_block Try.isAgg27 Try.sizeOf27 hs rfl (kk := 0) rfl rfl) rfl ⟨dZero, [], _, [], rfl, St.left (L := []) hs, OwnS.nil _ _, .inl ⟨hD2 ‹_›, rfl, rfl, rfl⟩⟩
            | exact end2 rfl (resOk_block Try.isAgg27 Try.sizeOf27 hs rfl (kk := 0) rfl rfl) rfl ⟨dZero, [], _, [], rfl, St.left (L := []) hs, OwnS.nil _ _, .inr (.inr ⟨d, ls, hD ‹_›, he, ‹_›, rfl, rfl⟩)⟩
            | exact end2 rfl (resOk_block Try.isAgg27 Try.sizeOf27 hs rfl (kk := 0) rfl rfl) rfl ⟨d, ls, _, Lv, rfl, St.right (M := LR) hs.tail.tail.tail, hOd, .inr (.inl ⟨hD ‹_›, rfl, by subst e; exact he⟩)⟩
        · skip
          try simp only [decide_eq_true_eq, decide_eq_false_iff_not, beq_iff_eq, beq_eq_false_iff_ne, bne_iff_ne, bne_eq_false_iff_eq, ne_eq, gt_iff_lt] at hc45
          refine W_skip ?_
          refine n_then ?_
          refine W_seq ?_
          refine W_seq ?_
          refine W_region ?_
          first
            | refine s_loadW Try.isAgg27 Try.sizeOf27 rfl rfl hs (kk := 0) rfl rfl ?_
            | refine s_loadW Try.isAgg27 Try.sizeOf27 rfl rfl hs (kk := 1) rfl rfl ?_
            | refine s_loadW Try.isAgg27 Try.sizeOf27 rfl rfl hs (kk := 2) rfl rfl ?_
            | refine s_loadW Try.isAgg27 Try.sizeOf27 rfl rfl hs (kk := 3) rfl rfl ?_
            | refine s_load_12 Try.isAgg27 Try.sizeOf27 rfl rfl (by first | exact hs.cell (k := 0) rfl rfl | exact hs.cell (k := 1) rfl rfl | exact hs.cell (k := 2) rfl rfl | exact hs.cell (k := 3) rfl rfl) (by first | exact hs.cell (k := 0) rfl rfl | exact hs.cell (k := 1) rfl rfl | exact hs.cell (k := 2) rfl rfl | exact hs.cell (k := 3) rfl rfl) (by first | exact hs.cell (k := 0) rfl rfl | exact hs.cell (k := 1) rfl rfl | exact hs.cell (k := 2) rfl rfl | exact hs.cell (k := 3) rfl rfl) (by first | exact hs.cell (k := 0) rfl rfl | exact hs.cell (k := 1) rfl rfl | exact hs.cell (k := 2) rfl rfl | exact hs.cell (k := 3) rfl rfl) (by first | exact hs.cell (k := 0) rfl rfl | exact hs.cell (k := 1) rfl rfl | exact hs.cell (k := 2) rfl rfl | exact hs.cell (k := 3) rfl rfl) (by first | exact hs.cell (k := 0) rfl rfl | exact hs.cell (k := 1) rfl rfl | exact hs.cell (k := 2) rfl rfl | exact hs.cell (k := 3) rfl rfl) (by first | exact hs.cell (k := 0) rfl rfl | exact hs.cell (k := 1) rfl rfl | exact hs.cell (k := 2) rfl rfl | exact hs.cell (k := 3) rfl rfl) (by first | exact hs.cell (k := 0) rfl rfl | exact hs.cell (k := 1) rfl rfl | exact hs.cell (k := 2) rfl rfl | exact hs.cell (k := 3) rfl rfl) (by first | exact hs.cell (k := 0) rfl rfl | exact hs.cell (k := 1) rfl rfl | exact hs.cell (k := 2) rfl rfl | exact hs.cell (k := 3) rfl rfl) (by first | exact hs.cell (k := 0) rfl rfl | exact hs.cell (k := 1) rfl rfl | exact hs.cell (k := 2) rfl rfl | exact hs.cell (k := 3) rfl rfl) (by first | exact hs.cell (k := 0) rfl rfl | exact hs.cell (k := 1) rfl rfl | exact hs.cell (k := 2) rfl rfl | exact hs.cell (k := 3) rfl rfl) (by first | exact hs.cell (k := 0) rfl rfl | exact hs.cell (k := 1) rfl rfl | exact hs.cell (k := 2) rfl rfl | exact hs.cell (k := 3) rfl rfl) ?_
          refine s_call Try.call13 rfl rfl (declValid_ok d ls w (OwnS_slIn hOd fun x hx => hs.own x (by simp [hx]))) ?_
          rintro r w ⟨hst, e, rfl, he⟩
          replace hs := hs.fwd1 hst
          clear hst
          refine s_assign rfl rfl ?_
          refine WL_nil ?_
          refine n_then ?_
          refine W_seq ?_
          refine W_region ?_
          refine s_move rfl rfl ?_
          refine s_neq rfl rfl rfl ?_
          refine WL_nil ?_
          refine n_then ?_
          refine W_cond rfl (fun hc50 => ?_) (fun hc50 => ?_)
          · skip
            try simp only [decide_eq_true_eq, decide_eq_false_iff_not, beq_iff_eq, beq_eq_false_iff_ne, bne_iff_ne, bne_eq_false_iff_eq, ne_eq, gt_iff_lt] at hc50
            refine W_seq ?_
            refine W_region ?_
            refine s_build rfl rfl (BD27_ ) ?_
            refine s_move rfl rfl ?_
            first
              | refine s_storeW Try.sizeOf27 rfl rfl rfl rfl hs (kk := 0) rfl rfl ?_
              | refine s_storeW Try.sizeOf27 rfl rfl rfl rfl hs (kk := 1) rfl rfl ?_
              | refine s_storeW Try.sizeOf27 rfl rfl rfl rfl hs (kk := 2) rfl rfl ?_
              | refine s_storeW Try.sizeOf27 rfl rfl rfl rfl hs (kk := 3) rfl rfl ?_
              | refine s_storeAB Try.sizeOf27 rfl rfl rfl rfl hs (kk := 0) rfl rfl ?_
              | refine s_storeAB Try.sizeOf27 rfl rfl rfl rfl hs (kk := 1) rfl rfl ?_
              | refine s_storeAB Try.sizeOf27 rfl rfl rfl rfl hs (kk := 2) rfl rfl ?_
              | refine s_storeAB Try.sizeOf27 rfl rfl rfl rfl hs (kk := 3) rfl rfl ?_
            clear hs; intro w hs; try simp only [List.set_cons_zero, List.set_cons_succ, splice, List.take_succ_cons, List.take_zero, List.drop_succ_cons, List.drop_zero, List.nil_append, List.cons_append, List.length_cons, List.length_nil, Nat.reduceAdd, List.append_assoc] at hs
            refine s_assign rfl rfl ?_
            refine WL_nil ?_
            refine n_then ?_
            refine W_ret ?_
            refine r_then ?_
            first
              | exact end2 rfl (resOk_block Try.isAgg27 Try.sizeOf27 hs rfl (kk := 0) rfl rfl) rfl ⟨dZero, [], _, [], rfl, St.left (L := []) hs, OwnS.nil _ _, .inl ⟨fun _ _ _ h => by have := h.cnt; rw [← hs1, ← hn] at this; omega, rfl, rfl, rfl⟩⟩
              | exact end2 rfl (resOk_block Try.isAgg27 Try.sizeOf27 hs rfl (kk := 0) rfl rfl) rfl ⟨dZero, [], _, [], rfl, St.left (L := []) hs, OwnS.nil _ _, .inl ⟨hD2 ‹_›, rfl, rfl, rfl⟩⟩
              | exact end2 rfl (resOk_block Try.isAgg27 Try.sizeOf27 hs rfl (kk := 0) rfl rfl) rfl ⟨dZero, [], _, [], rfl, St.left (L := []) hs, OwnS.nil _ _, .inr (.inr ⟨d, ls, hD ‹_›, he, ‹_›, rfl, rfl⟩)⟩
              | exact end2 rfl (resOk_block Try.isAgg27 Try.sizeOf27 hs rfl (kk := 0) rfl rfl) rfl ⟨d, ls, _, Lv, rfl, St.right (M := LR) hs.tail.tail.tail, hOd, .inr (.inl ⟨hD ‹_›, rfl, by subst e; exact he⟩)⟩
          · skip
            try simp only [decide_eq_true_eq, decide_eq_false_iff_not, beq_iff_eq, beq_eq_false_iff_ne, bne_iff_ne, bne_eq_false_iff_eq, ne_eq, gt_iff_lt] at hc50
            refine W_skip ?_
            refine n_then ?_
            refine W_seq ?_
            refine W_region ?_
            first
              | refine s_loadW Try.isAgg27 Try.sizeOf27 rfl rfl hs (kk := 0) rfl rfl ?_
              | refine s_loadW Try.isAgg27 Try.sizeOf27 rfl rfl hs (kk := 1) rfl rfl ?_
              | refine s_loadW Try.isAgg27 Try.sizeOf27 rfl rfl hs (kk := 2) rfl rfl ?_
              | refine s_loadW Try.isAgg27 Try.sizeOf27 rfl rfl hs (kk := 3) rfl rfl ?_
              | refine s_load_12 Try.isAgg27 Try.sizeOf27 rfl rfl (by first | exact hs.cell (k := 0) rfl rfl | exact hs.cell (k := 1) rfl rfl | exact hs.cell (k := 2) rfl rfl | exact hs.cell (k := 3) rfl rfl) (by first | exact hs.cell (k := 0) rfl rfl | exact hs.cell (k := 1) rfl rfl | exact hs.cell (k := 2) rfl rfl | exact hs.cell (k := 3) rfl rfl) (by first | exact hs.cell (k := 0) rfl rfl | exact hs.cell (k := 1) rfl rfl | exact hs.cell (k := 2) rfl rfl | exact hs.cell (k := 3) rfl rfl) (by first | exact hs.cell (k := 0) rfl rfl | exact hs.cell (k := 1) rfl rfl | exact hs.cell (k := 2) rfl rfl | exact hs.cell (k := 3) rfl rfl) (by first | exact hs.cell (k := 0) rfl rfl | exact hs.cell (k := 1) rfl rfl | exact hs.cell (k := 2) rfl rfl | exact hs.cell (k := 3) rfl rfl) (by first | exact hs.cell (k := 0) rfl rfl | exact hs.cell (k := 1) rfl rfl | exact hs.cell (k := 2) rfl rfl | exact hs.cell (k := 3) rfl rfl) (by first | exact hs.cell (k := 0) rfl rfl | exact hs.cell (k := 1) rfl rfl | exact hs.cell (k := 2) rfl rfl | exact hs.cell (k := 3) rfl rfl) (by first | exact hs.cell (k := 0) rfl rfl | exact hs.cell (k := 1) rfl rfl | exact hs.cell (k := 2) rfl rfl | exact hs.cell (k := 3) rfl rfl) (by first | exact hs.cell (k := 0) rfl rfl | exact hs.cell (k := 1) rfl rfl | exact hs.cell (k := 2) rfl rfl | exact hs.cell (k := 3) rfl rfl) (by first | exact hs.cell (k := 0) rfl rfl | exact hs.cell (k := 1) rfl rfl | exact hs.cell (k := 2) rfl rfl | exact hs.cell (k := 3) rfl rfl) (by first | exact hs.cell (k := 0) rfl rfl | exact hs.cell (k := 1) rfl rfl | exact hs.cell (k := 2) rfl rfl | exact hs.cell (k := 3) rfl rfl) (by first | exact hs.cell (k := 0) rfl rfl | exact hs.cell (k := 1) rfl rfl | exact hs.cell (k := 2) rfl rfl | exact hs.cell (k := 3) rfl rfl) ?_
            refine s_storeW Try.sizeOf27 rfl rfl hone rfl hs (kk := 0) rfl rfl ?_
            clear hs; intro w hs; simp only [List.set_cons_zero] at hs
            refine s_assign rfl rfl ?_
            refine WL_nil ?_
            refine n_then ?_
            refine W_ret ?_
            first
              | exact end2 rfl (resOk_block Try.isAgg27 Try.sizeOf27 hs rfl (kk := 0) rfl rfl) rfl ⟨dZero, [], _, [], rfl, St.left (L := []) hs, OwnS.nil _ _, .inl ⟨fun _ _ _ h => by have := h.cnt; rw [← hs1, ← hn] at this; omega, rfl, rfl, rfl⟩⟩
              | exact end2 rfl (resOk_block Try.isAgg27 Try.sizeOf27 hs rfl (kk := 0) rfl rfl) rfl ⟨dZero, [], _, [], rfl, St.left (L := []) hs, OwnS.nil _ _, .inl ⟨hD2 ‹_›, rfl, rfl, rfl⟩⟩
              | exact end2 rfl (resOk_block Try.isAgg27 Try.sizeOf27 hs rfl (kk := 0) rfl rfl) rfl ⟨dZero, [], _, [], rfl, St.left (L := []) hs, OwnS.nil _ _, .inr (.inr ⟨d, ls, hD ‹_›, he, ‹_›, rfl, rfl⟩)⟩
              | exact end2 rfl (resOk_block Try.isAgg27 Try.sizeOf27 hs rfl (kk := 0) rfl rfl) rfl ⟨d, ls, _, Lv, rfl, St.right (M := LR) hs.tail.tail.tail, hOd, .inr (.inl ⟨hD ‹_›, rfl, by subst e; exact he⟩)⟩
end Go.Proofs.Ytmjjdcfakkaiiaa
