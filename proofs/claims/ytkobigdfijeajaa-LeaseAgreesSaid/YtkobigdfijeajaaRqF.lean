/- play: one event. -/
import Derived.Test.YtkobigdfijeajaaRqE
set_option linter.unusedVariables false
set_option linter.unusedSimpArgs false
namespace Go.Proofs.Ytkobigdfijeajaa
open Go.SL
theorem k_times {k : Nat} (hk : 1 ≤ k ∧ k ≤ 3) {y : Int} (hy : 0 ≤ y ∧ y < 5) : 0 ≤ (k : Int) * y ∧ (k : Int) * y ≤ 12 := by
  have : k = 1 ∨ k = 2 ∨ k = 3 := by omega
  rcases this with rfl | rfl | rfl <;> omega
theorem i64s_set (cs : List Int) (i : Nat) (z : Int) : (i64s cs).set i (.int .i64 z) = i64s (cs.set i z) := by simp [i64s, List.map_set]
theorem perm_r {A L X : Hp} (h : A.Perm (L ++ X)) (Y : Hp) : (A ++ Y).Perm (L ++ (X ++ Y)) := by have := h.append_right Y; simpa using this
structure PlG where
  i : Nat
  cs : List Int
set_option maxHeartbeats 4000000 in
set_option maxRecDepth 8000 in
theorem play_ok (k pn : Nat) (ps : List Nat) (R : Nat → Rp) (Ls : List Hp) (gs : List Int) (ms : List Msg) (LN LG L0 : Hp) (M : Ms → Prop) (P : En → Prop) (C : List En → Prop) (rv : Value) (num : Int) (w0 : World) (S : Sys k pn ps R Ls gs ms LN M P C) (hk : 1 ≤ k ∧ k ≤ 3) (hn : isI64 num) (hO : OwnS 25 1 rv k (ptrs ps) LG) (hL : L0 = LG ++ (LN ++ Ls.flatten)) (hs : St (ids L0) w0 w0 L0) :
    Ret Try.prog 33 [.pointer (some ⟨pn, 0, none⟩), rv, .int .i64 num].toArray w0 fun r w' => ∃ L', St (ids L0) w0 w' L' ∧ Played k pn ps R LG P C r L' := by
  unfold isI64 at hn
  obtain ⟨g, cap, sp, rfl, hcap, hLG⟩ := hO.block (by omega)
  have hcl : ∀ (i p : Nat), ps[i]? = some p → (ptrs ps ++ sp)[0 + (i : Int).toNat]? = some (.pointer (some ⟨p, 0, none⟩)) := fun i p h => by
    have hi := (List.getElem?_eq_some_iff.1 h).1
    rw [Nat.zero_add, Int.toNat_natCast, List.getElem?_append_left (by rw [ptrs, List.length_map]; exact hi), ptrs, List.getElem?_map, h]; rfl
  have hMk : ∀ x, M x → x.frm < k ∧ x.to < k := fun x hx => by obtain ⟨G, hG, -⟩ := S.inv; exact ⟨(hG.msg x hx).frm, (hG.msg x hx).to⟩
  revert hs
  generalize ids L0 = F
  rw [hL]
  intro hs
  replace hs : St F w0 w0 ((g, Blk 25 (ptrs ps ++ sp)) :: (LN ++ Ls.flatten)) := by rw [hLG] at hs; exact hs
  refine Ret_startL hs fun w hs => ?_
  refine Ret_of Try.func33 rfl Try.ntmps33 rfl ?_
  refine W_seq ?_
  refine W_region ?_
  refine s_assign rfl rfl ?_
  refine WL_nil ?_
  refine n_then ?_
  refine W_seq ?_
  refine W_region ?_
  refine s_move rfl rfl ?_
  refine s_len rfl rfl (LN60 _ _ _ _) ?_
  refine s_assign rfl rfl ?_
  refine WL_nil ?_
  refine n_then ?_
  refine W_seq ?_
  refine W_region ?_
  refine s_move rfl rfl ?_
  first | (refine s_quo' rfl rfl rfl ?hx ?_; case hx => (refine ⟨?_, ?_, ?_⟩ <;> omega)) | (refine s_quo rfl rfl rfl ?hx ?_; case hx => omega)
  refine s_call Try.call25 rfl rfl (around_ok _ 1073741824 w (by omega) (by rw [IntWalk.i64_in _ (quo_bd _ 10 (by omega) hn)]; exact quo_bd _ 10 (by omega) hn)) ?_
  rintro r w1 ⟨hw1, rfl⟩
  rw [hw1]; clear hw1 w1
  have hxr := aroundV_range (m := IntKind.i64.wrap (num.tdiv 10)) (q := 1073741824) (by omega)
  generalize aroundV (IntKind.i64.wrap (num.tdiv 10)) 1073741824 = xi at hxr
  obtain ⟨x, rfl⟩ : ∃ x : Nat, xi = (x : Int) := ⟨xi.toNat, by omega⟩
  obtain ⟨id, hid, hidk⟩ : ∃ id : Nat, (x : Int) % (k : Int) = (id : Int) ∧ id < k := ⟨x % k, by rw [Int.natCast_emod], Nat.mod_lt _ (by omega)⟩
  obtain ⟨p, L, X, hp, hRA, hpm, hps, hRid, hRm⟩ := S.rep hidk
  refine s_assign rfl rfl ?_
  refine WL_nil ?_
  refine n_then ?_
  refine W_seq ?_
  refine W_region ?_
  refine s_move rfl rfl ?_
  refine s_move rfl rfl ?_
  (refine s_rem' rfl rfl rfl ?hx ?_; case hx => (refine ⟨?_, ?_⟩ <;> omega))
  rw [hid]
  refine s_assign rfl rfl ?_
  refine WL_nil ?_
  refine n_then ?_
  refine W_seq ?_
  refine W_seq ?_
  refine W_region ?_
  refine s_move rfl rfl ?_
  refine s_call Try.call25 rfl rfl (around_ok num 10 w (by omega) hn) ?_
  rintro r w1 ⟨hw1, rfl⟩
  rw [hw1]; clear hw1 w1
  have hzr := aroundV_range (m := num) (q := 10) (by omega)
  generalize aroundV num 10 = z at hzr
  refine WL_nil ?_
  refine n_then ?_
  refine W_block ?_
  refine W_seq ?_
  refine W_region ?_
  refine s_eql rfl rfl rfl ?_
  refine s_assign rfl rfl ?_
  refine WL_nil ?_
  refine n_then ?_
  refine W_cond rfl (fun hc58 => ?_) (fun hc58 => ?_)
  · skip
    try simp only [decide_eq_true_eq, decide_eq_false_iff_not, gt_iff_lt, ge_iff_le, beq_iff_eq, beq_eq_false_iff_ne, ne_eq, bne_iff_ne, bne_eq_false_iff_eq, Bool.not_eq_true', Bool.not_eq_false', Bool.not_eq_true, Bool.not_eq_false, Decidable.not_not] at hc58
    refine W_seq ?_
    refine W_region ?_
    refine s_move rfl rfl ?_
    refine s_move rfl rfl ?_
    (refine s_indexAddr1 El60 rfl rfl rfl ?hx ?_; case hx => (constructor <;> first | omega | (simp; omega)))
    refine s_load Try.isAgg25 rfl rfl (hs.cell (k := 0) rfl (hcl _ _ hp)) ?_
    refine s_move rfl rfl ?_
    refine s_move rfl rfl ?_
    refine s_move rfl rfl ?_
    first | (refine s_quo' rfl rfl rfl ?hx ?_; case hx => (refine ⟨?_, ?_, ?_⟩ <;> omega)) | (refine s_quo rfl rfl rfl ?hx ?_; case hx => omega)
    first | (refine s_rem' rfl rfl rfl ?hx ?_; case hx => (refine ⟨?_, ?_⟩ <;> omega)) | (refine s_rem rfl rfl rfl ?hx ?_; case hx => omega)
    have hy : 0 ≤ (x : Int) / 3 % 5 ∧ (x : Int) / 3 % 5 < 5 := by omega
    generalize (x : Int) / 3 % 5 = y at hy
    have hky := k_times hk hy
    refine s_mul rfl rfl rfl ?_
    rw [IntWalk.i64_in _ (by omega)]
    generalize (k : Int) * y = ky at hky
    first | (refine s_add' rfl rfl rfl ?hx ?_; case hx => (constructor <;> first | omega | (simp only; omega))) | refine s_add rfl rfl rfl ?_
    replace hs : St F w0 w ((g, Blk 25 (ptrs ps ++ sp)) :: (LN ++ (L ++ X))) := hs.perm ((hpm.append_left LN).cons _)
    refine s_callL (M := (g, Blk 25 (ptrs ps ++ sp)) :: LN) (L1 := L) (X := X) Try.call9 rfl rfl hs (fun h => elect_ok p (R id) L _ w hRA (by unfold isI64; omega) h) ?_
    clear hs; rintro u w L9 ⟨mv, Lr, LQ, rfl, rfl, hRQ, hMs⟩ - hs
    have hlen := elect_len (R id) ((id : Int) + ky)
    have hSy := fun (LN' : Hp) (ms' : List Msg) => S.elect (LN' := LN') (ms' := ms') hidk hp ((id : Int) + ky) hRQ
    generalize (R id).elect ((id : Int) + ky) = E at hRQ hMs hlen hSy ⊢
    obtain ⟨r', l, er⟩ := E
    simp only at hRQ hMs hlen hSy ⊢
    refine s_move rfl rfl ?_
    refine s_extract rfl rfl rfl ?_
    refine s_extract rfl rfl rfl ?_
    refine s_assign rfl rfl ?_
    refine s_assign rfl rfl ?_
    refine WL_nil ?_
    refine n_then ?_
    refine W_region ?_
    refine s_move rfl rfl ?_
    refine s_move rfl rfl ?_
    replace hs : St F w0 w ([(g, Blk 25 (ptrs ps ++ sp))] ++ ((LN ++ Lr) ++ (LQ ++ X))) := by simpa [cat] using St.reord [[_], LN, LQ, Lr, X] [0, 1, 3, 2, 4] [] (by simpa [cat] using hs) rfl
    refine s_callL (M := [_]) (L1 := LN ++ Lr) (X := LQ ++ X) Try.call57 rfl rfl hs (fun h => post_ok pn gs ms LN mv l Lr _ (addM M l) w S.net (S.nin.mono fun _ h => .inl h) hMs (fun _ h => .inr h) (by omega) rfl h) ?_
    clear hs; rintro u w L9 ⟨ms', hN', hin'⟩ - hs
    obtain ⟨hS', hgr⟩ := hSy L9 ms' hN' hin'
    replace hs : St F w0 w (LG ++ (L9 ++ (Ls.set id LQ).flatten)) := by rw [hLG]; exact hs.perm (((hps LQ).symm.append_left L9).cons _)
    have hPl := Played.none (LG := LG) hS' hgr
    refine WL_nil ?_
    refine n_blk ?_
    refine n_then ?_
    refine W_seq ?_
    refine W_region ?_
    refine s_assign rfl rfl ?_
    refine WL_nil ?_
    refine n_then ?_
    refine W_ret ?_
    first
      | exact end1 rfl rfl ⟨_, hs, hPl⟩
      | (refine end1 rfl rfl ⟨LG ++ (L1 ++ Ls.flatten), ?_, Played.none (R := R) hS1 fun _ _ => Nat.le_refl _⟩
         rw [hLG]; simpa [cat] using St.reord [[_], [_], L1, LM, Ls.flatten] [1, 2, 4] [0, 3] (by simpa [cat] using hs) rfl)
      | (obtain ⟨hS', hgr⟩ := hSy [] (fun h => absurd h (by assumption))
         have hPl := Played.none (LG := LG) (hS'.weak fun _ h => by simpa using h) hgr
         refine end1 rfl rfl ⟨_, ?_, hPl⟩
         exact St.left (L := LG ++ (L9 ++ (Ls.set id LQ).flatten)) (M := Le) (by simpa using hs.tail))
      | (obtain ⟨hS', hgr⟩ := hSy [madeE (x : Int)] (fun _ => rfl)
         refine end1 rfl rfl ⟨LG ++ (L9 ++ ((Ls.set id LQ).flatten ++ ([_] ++ Le))), ?_, _, _, _, _, _, _, [madeE (x : Int)], [⟨madeE (x : Int), .slice ea (madeC (x : Int)).length ec⟩], [_], Le, rfl, ⟨⟨rfl, .inr ⟨_, 1, [], rfl, Nat.le_refl _, by decide, rfl, rfl⟩⟩, fun y hy => by obtain rfl := List.mem_singleton.1 hy; exact hOe.rdS, rfl⟩, by simp, hS', hgr⟩
         simpa [cat, emcells, Em.cells] using St.reord [[_], [_], LG, L9, (Ls.set id LQ).flatten, Le] [2, 3, 4, 0, 5] [1] (by simpa [cat, emcells, Em.cells] using hs) rfl)
  · skip
    try simp only [decide_eq_true_eq, decide_eq_false_iff_not, gt_iff_lt, ge_iff_le, beq_iff_eq, beq_eq_false_iff_ne, ne_eq, bne_iff_ne, bne_eq_false_iff_eq, Bool.not_eq_true', Bool.not_eq_false', Bool.not_eq_true, Bool.not_eq_false, Decidable.not_not] at hc58
    refine W_seq ?_
    refine W_seq ?_
    refine W_region ?_
    refine s_eql rfl rfl rfl ?_
    refine s_assign rfl rfl ?_
    refine WL_nil ?_
    refine n_then ?_
    refine W_cond rfl (fun hc78 => ?_) (fun hc78 => ?_)
    · skip
      try simp only [decide_eq_true_eq, decide_eq_false_iff_not, gt_iff_lt, ge_iff_le, beq_iff_eq, beq_eq_false_iff_ne, ne_eq, bne_iff_ne, bne_eq_false_iff_eq, Bool.not_eq_true', Bool.not_eq_false', Bool.not_eq_true, Bool.not_eq_false, Decidable.not_not] at hc78
      refine W_skip ?_
      refine n_then ?_
      refine W_cond rfl (fun hc78 => ?_) (fun hc78 => ?_)
      · skip
        try simp only [decide_eq_true_eq, decide_eq_false_iff_not, gt_iff_lt, ge_iff_le, beq_iff_eq, beq_eq_false_iff_ne, ne_eq, bne_iff_ne, bne_eq_false_iff_eq, Bool.not_eq_true', Bool.not_eq_false', Bool.not_eq_true, Bool.not_eq_false, Decidable.not_not] at hc78
        refine W_seq ?_
        refine W_region ?_
        refine s_move rfl rfl ?_
        refine s_call Try.call23 rfl rfl (made_ok (x : Int) w (by unfold isI64; omega)) ?_
        rintro r w ⟨ev, Le, rfl, hOe, hst⟩
        replace hs := (hs.back0 hst).swap (A := Le)
        clear hst
        obtain ⟨_, ec, ea, rfl, hel⟩ := hOe.form
        subst hel
        refine s_call Try.call22 rfl rfl (of_ok (madeG (x : Int)) (madeX (x : Int)) ea (madeC (x : Int)).length ec w) ?_
        rintro r w ⟨hst, rfl⟩
        replace hs := hs.fwd1 hst
        clear hst
        refine s_alloc rfl AL35 hs ?_; clear hs; intro b12 w hs
        first
          | refine s_storeW Try.sizeOf35 rfl rfl rfl rfl hs (kk := 0) rfl rfl ?_
          | refine s_storeW Try.sizeOf35 rfl rfl rfl rfl hs (kk := 1) rfl rfl ?_
          | refine s_storeW Try.sizeOf35 rfl rfl rfl rfl hs (kk := 2) rfl rfl ?_
          | refine s_storeW Try.sizeOf35 rfl rfl rfl rfl hs (kk := 3) rfl rfl ?_
          | refine s_storeW Try.sizeOf35 rfl rfl rfl rfl hs (kk := 4) rfl rfl ?_
          | refine s_storeW Try.sizeOf35 rfl rfl rfl rfl hs (kk := 5) rfl rfl ?_
          | refine s_storeAB Try.sizeOf35 rfl rfl rfl rfl hs (kk := 0) rfl rfl ?_
          | refine s_storeAB Try.sizeOf35 rfl rfl rfl rfl hs (kk := 1) rfl rfl ?_
          | refine s_storeAB Try.sizeOf35 rfl rfl rfl rfl hs (kk := 2) rfl rfl ?_
          | refine s_storeAB Try.sizeOf35 rfl rfl rfl rfl hs (kk := 3) rfl rfl ?_
          | refine s_storeAB Try.sizeOf35 rfl rfl rfl rfl hs (kk := 4) rfl rfl ?_
          | refine s_storeAB Try.sizeOf35 rfl rfl rfl rfl hs (kk := 5) rfl rfl ?_
        clear hs; intro w hs; try simp only [List.set_cons_zero, List.set_cons_succ, splice, List.take_succ_cons, List.take_zero, List.drop_succ_cons, List.drop_zero, List.nil_append, List.cons_append, List.length_cons, List.length_nil, Nat.reduceAdd, List.append_assoc] at hs
        refine WL_nil ?_
        refine n_then ?_
        refine W_seq ?_
        refine W_draw [(0, true, []), (1, true, []), (2, true, []), (3, true, []), (4, true, []), (5, false, []), (6, true, []), (7, true, []), (8, true, []), (9, true, []), (10, true, [])] [[], [], [0, 1], [0, 1, 2], [], [0, 1, 2, 3, 4], [0, 1, 2, 3, 4, 5], [0, 1, 2, 3, 4, 5, 6], [0, 1, 2, 3, 4, 5, 6], [0, 1, 2, 3, 4, 5, 6, 7], [0, 1, 2, 3, 4, 5, 6, 7, 8, 9]] MX (by kernel_rfl) ?_
        intro w1 hw1 hw2 hw3 hw4; replace hs := hs.redrawn hw1 hw2 hw3 hw4; clear hw1 hw2 hw3 hw4
        obtain ⟨w, rfl⟩ : ∃ w : World, w = w1 := ⟨_, rfl⟩
        refine D_q rfl rfl ?_
        refine s_move rfl rfl ?_
        refine D_qn ?_
        refine D_q rfl rfl ?_
        refine s_move rfl rfl ?_
        refine D_qn ?_
        refine D_q rfl rfl ?_
        (refine s_indexAddr1 El60 rfl rfl rfl ?hx ?_; case hx => (constructor <;> first | omega | (simp; omega)))
        refine D_qn ?_
        refine D_q rfl rfl ?_
        refine s_load Try.isAgg25 rfl rfl (hs.cell (k := 1) rfl (hcl _ _ hp)) ?_
        refine D_qn ?_
        refine D_q rfl rfl ?_
        first
          | refine s_loadW Try.isAgg35 Try.sizeOf35 rfl rfl hs (kk := 0) rfl rfl ?_
          | refine s_loadW Try.isAgg35 Try.sizeOf35 rfl rfl hs (kk := 1) rfl rfl ?_
          | refine s_loadW Try.isAgg35 Try.sizeOf35 rfl rfl hs (kk := 2) rfl rfl ?_
          | refine s_loadW Try.isAgg35 Try.sizeOf35 rfl rfl hs (kk := 3) rfl rfl ?_
          | refine s_loadW Try.isAgg35 Try.sizeOf35 rfl rfl hs (kk := 4) rfl rfl ?_
          | refine s_loadW Try.isAgg35 Try.sizeOf35 rfl rfl hs (kk := 5) rfl rfl ?_
          | refine s_load_6 Try.isAgg35 Try.sizeOf35 rfl rfl (by first | exact hs.cell (k := 0) rfl rfl | exact hs.cell (k := 1) rfl rfl | exact hs.cell (k := 2) rfl rfl | exact hs.cell (k := 3) rfl rfl | exact hs.cell (k := 4) rfl rfl | exact hs.cell (k := 5) rfl rfl) (by first | exact hs.cell (k := 0) rfl rfl | exact hs.cell (k := 1) rfl rfl | exact hs.cell (k := 2) rfl rfl | exact hs.cell (k := 3) rfl rfl | exact hs.cell (k := 4) rfl rfl | exact hs.cell (k := 5) rfl rfl) (by first | exact hs.cell (k := 0) rfl rfl | exact hs.cell (k := 1) rfl rfl | exact hs.cell (k := 2) rfl rfl | exact hs.cell (k := 3) rfl rfl | exact hs.cell (k := 4) rfl rfl | exact hs.cell (k := 5) rfl rfl) (by first | exact hs.cell (k := 0) rfl rfl | exact hs.cell (k := 1) rfl rfl | exact hs.cell (k := 2) rfl rfl | exact hs.cell (k := 3) rfl rfl | exact hs.cell (k := 4) rfl rfl | exact hs.cell (k := 5) rfl rfl) (by first | exact hs.cell (k := 0) rfl rfl | exact hs.cell (k := 1) rfl rfl | exact hs.cell (k := 2) rfl rfl | exact hs.cell (k := 3) rfl rfl | exact hs.cell (k := 4) rfl rfl | exact hs.cell (k := 5) rfl rfl) (by first | exact hs.cell (k := 0) rfl rfl | exact hs.cell (k := 1) rfl rfl | exact hs.cell (k := 2) rfl rfl | exact hs.cell (k := 3) rfl rfl | exact hs.cell (k := 4) rfl rfl | exact hs.cell (k := 5) rfl rfl) ?_
        refine D_qn ?_
        refine D_e rfl ?_
        replace hs : St F w0 w (((b12, Blk 35 (Em.cells ⟨madeE (x : Int), .slice ea (madeC (x : Int)).length ec⟩)) :: (g, Blk 25 (ptrs ps ++ sp)) :: LN) ++ (L ++ (X ++ Le))) := by
          exact hs.perm ((((perm_r hpm Le).append_left LN).cons _).cons _)
        refine s_callL (L1 := L) (X := X ++ Le) Try.call13 rfl rfl hs (fun h => propose_ok p (R id) L (madeE (x : Int)) (.slice ea (madeC (x : Int)).length ec) w hRA (OwnS_slIn hOe fun q hq => hs.own q (by simp [hq])) (fun a m c he hne => by cases he; exact (St.apartX hs) (by rw [ids_append]; exact List.mem_append_right _ (OwnS_in hOe hne))) (madeC_isB _) h) ?_
        clear hs; rintro u w L9 ⟨mv, Lr, LQ, rfl, rfl, hRQ, hMs⟩ - hs
        have hlen := propose_len (R id) (madeE (x : Int))
        have hSy := fun (LN' : Hp) (ms' : List Msg) (l : List En) => S.propose (LQ := LQ) (LN' := LN') (ms' := ms') hidk hp (madeE_ok (x : Int)).2 l
        generalize (R id).propose (madeE (x : Int)) = E at hRQ hMs hlen hSy ⊢
        obtain ⟨r', l, er⟩ := E
        simp only at hRQ hMs hlen hSy ⊢
        refine D_en ?re ?_
        case re =>
          exact Reks_nil
        refine D_q rfl rfl ?_
        refine s_move rfl rfl ?_
        refine D_qn ?_
        refine D_q rfl rfl ?_
        refine s_extract rfl rfl rfl ?_
        refine D_qn ?_
        refine D_q rfl rfl ?_
        refine s_extract rfl rfl rfl ?_
        refine D_qn ?_
        refine D_q rfl rfl ?_
        refine s_assign rfl rfl ?_
        refine D_qn ?_
        refine D_q rfl rfl ?_
        refine s_assign rfl rfl ?_
        refine D_qn ?_
        refine D_nil ?_
        refine n_then ?_
        refine W_seq ?_
        refine W_region ?_
        refine s_move rfl rfl ?_
        refine s_move rfl rfl ?_
        replace hs : St F w0 w ([(b12, Blk 35 (Em.cells ⟨madeE (x : Int), .slice ea (madeC (x : Int)).length ec⟩)), (g, Blk 25 (ptrs ps ++ sp))] ++ ((LN ++ Lr) ++ (LQ ++ (X ++ Le)))) := by simpa [cat] using St.reord [[_], [_], LN, LQ, Lr, X, Le] [0, 1, 2, 4, 3, 5, 6] [] (by simpa [cat] using hs) rfl
        refine s_callL (M := [_, _]) (L1 := LN ++ Lr) (X := LQ ++ (X ++ Le)) Try.call57 rfl rfl hs (fun h => post_ok pn gs ms LN mv l Lr _ (addM M l) w S.net (S.nin.mono fun _ h => .inl h) hMs (fun _ h => .inr h) (by omega) rfl h) ?_
        clear hs; rintro u w L9 ⟨ms', hN', hin'⟩ - hs
        replace hSy := fun l h => hSy L9 ms' l h hRQ hN' hin'
        replace hs : St F w0 w ((b12, Blk 35 (Em.cells ⟨madeE (x : Int), .slice ea (madeC (x : Int)).length ec⟩)) :: (LG ++ (L9 ++ ((Ls.set id LQ).flatten ++ Le)))) := by
          rw [hLG]
          have h9 := hs.perm (((((perm_r (hps LQ) Le).symm.append_left L9)).cons _).cons _)
          simpa using h9
        refine WL_nil ?_
        refine n_then ?_
        refine W_seq ?_
        refine W_region ?_
        refine s_move rfl rfl ?_
        refine s_eql rfl rfl rfl ?_
        refine WL_nil ?_
        refine n_then ?_
        refine W_cond rfl (fun hc97 => ?_) (fun hc97 => ?_)
        · skip
          try simp only [decide_eq_true_eq, decide_eq_false_iff_not, gt_iff_lt, ge_iff_le, beq_iff_eq, beq_eq_false_iff_ne, ne_eq, bne_iff_ne, bne_eq_false_iff_eq, Bool.not_eq_true', Bool.not_eq_false', Bool.not_eq_true, Bool.not_eq_false, Decidable.not_not] at hc97
          refine W_seq ?_
          refine W_region ?_
          first
            | refine s_loadW Try.isAgg35 Try.sizeOf35 rfl rfl hs (kk := 0) rfl rfl ?_
            | refine s_loadW Try.isAgg35 Try.sizeOf35 rfl rfl hs (kk := 1) rfl rfl ?_
            | refine s_loadW Try.isAgg35 Try.sizeOf35 rfl rfl hs (kk := 2) rfl rfl ?_
            | refine s_loadW Try.isAgg35 Try.sizeOf35 rfl rfl hs (kk := 3) rfl rfl ?_
            | refine s_loadW Try.isAgg35 Try.sizeOf35 rfl rfl hs (kk := 4) rfl rfl ?_
            | refine s_loadW Try.isAgg35 Try.sizeOf35 rfl rfl hs (kk := 5) rfl rfl ?_
            | refine s_load_6 Try.isAgg35 Try.sizeOf35 rfl rfl (by first | exact hs.cell (k := 0) rfl rfl | exact hs.cell (k := 1) rfl rfl | exact hs.cell (k := 2) rfl rfl | exact hs.cell (k := 3) rfl rfl | exact hs.cell (k := 4) rfl rfl | exact hs.cell (k := 5) rfl rfl) (by first | exact hs.cell (k := 0) rfl rfl | exact hs.cell (k := 1) rfl rfl | exact hs.cell (k := 2) rfl rfl | exact hs.cell (k := 3) rfl rfl | exact hs.cell (k := 4) rfl rfl | exact hs.cell (k := 5) rfl rfl) (by first | exact hs.cell (k := 0) rfl rfl | exact hs.cell (k := 1) rfl rfl | exact hs.cell (k := 2) rfl rfl | exact hs.cell (k := 3) rfl rfl | exact hs.cell (k := 4) rfl rfl | exact hs.cell (k := 5) rfl rfl) (by first | exact hs.cell (k := 0) rfl rfl | exact hs.cell (k := 1) rfl rfl | exact hs.cell (k := 2) rfl rfl | exact hs.cell (k := 3) rfl rfl | exact hs.cell (k := 4) rfl rfl | exact hs.cell (k := 5) rfl rfl) (by first | exact hs.cell (k := 0) rfl rfl | exact hs.cell (k := 1) rfl rfl | exact hs.cell (k := 2) rfl rfl | exact hs.cell (k := 3) rfl rfl | exact hs.cell (k := 4) rfl rfl | exact hs.cell (k := 5) rfl rfl) (by first | exact hs.cell (k := 0) rfl rfl | exact hs.cell (k := 1) rfl rfl | exact hs.cell (k := 2) rfl rfl | exact hs.cell (k := 3) rfl rfl | exact hs.cell (k := 4) rfl rfl | exact hs.cell (k := 5) rfl rfl) ?_
          refine s_buildSlice rfl rfl (BS43_1 _ _ _ _ _ _) hs ?_; clear hs; intro b99 w hs
          refine s_assign rfl rfl ?_
          refine WL_nil ?_
          refine n_then ?_
          refine W_ret ?_
          refine r_blk ?_
          refine r_then ?_
          first
            | exact end1 rfl rfl ⟨_, hs, hPl⟩
            | (refine end1 rfl rfl ⟨LG ++ (L1 ++ Ls.flatten), ?_, Played.none (R := R) hS1 fun _ _ => Nat.le_refl _⟩
               rw [hLG]; simpa [cat] using St.reord [[_], [_], L1, LM, Ls.flatten] [1, 2, 4] [0, 3] (by simpa [cat] using hs) rfl)
            | (obtain ⟨hS', hgr⟩ := hSy [] (fun h => absurd h (by assumption))
               have hPl := Played.none (LG := LG) (hS'.weak fun _ h => by simpa using h) hgr
               refine end1 rfl rfl ⟨_, ?_, hPl⟩
               exact St.left (L := LG ++ (L9 ++ (Ls.set id LQ).flatten)) (M := Le) (by simpa using hs.tail))
            | (obtain ⟨hS', hgr⟩ := hSy [madeE (x : Int)] (fun _ => rfl)
               refine end1 rfl rfl ⟨LG ++ (L9 ++ ((Ls.set id LQ).flatten ++ ([_] ++ Le))), ?_, _, _, _, _, _, _, [madeE (x : Int)], [⟨madeE (x : Int), .slice ea (madeC (x : Int)).length ec⟩], [_], Le, rfl, ⟨⟨rfl, .inr ⟨_, 1, [], rfl, Nat.le_refl _, by decide, rfl, rfl⟩⟩, fun y hy => by obtain rfl := List.mem_singleton.1 hy; exact hOe.rdS, rfl⟩, by simp, hS', hgr⟩
               simpa [cat, emcells, Em.cells] using St.reord [[_], [_], LG, L9, (Ls.set id LQ).flatten, Le] [2, 3, 4, 0, 5] [1] (by simpa [cat, emcells, Em.cells] using hs) rfl)
        · skip
          try simp only [decide_eq_true_eq, decide_eq_false_iff_not, gt_iff_lt, ge_iff_le, beq_iff_eq, beq_eq_false_iff_ne, ne_eq, bne_iff_ne, bne_eq_false_iff_eq, Bool.not_eq_true', Bool.not_eq_false', Bool.not_eq_true, Bool.not_eq_false, Decidable.not_not] at hc97
          refine W_skip ?_
          refine n_blk ?_
          refine n_then ?_
          refine W_seq ?_
          refine W_region ?_
          refine s_assign rfl rfl ?_
          refine WL_nil ?_
          refine n_then ?_
          refine W_ret ?_
          first
            | exact end1 rfl rfl ⟨_, hs, hPl⟩
            | (refine end1 rfl rfl ⟨LG ++ (L1 ++ Ls.flatten), ?_, Played.none (R := R) hS1 fun _ _ => Nat.le_refl _⟩
               rw [hLG]; simpa [cat] using St.reord [[_], [_], L1, LM, Ls.flatten] [1, 2, 4] [0, 3] (by simpa [cat] using hs) rfl)
            | (obtain ⟨hS', hgr⟩ := hSy [] (fun h => absurd h (by assumption))
               have hPl := Played.none (LG := LG) (hS'.weak fun _ h => by simpa using h) hgr
               refine end1 rfl rfl ⟨_, ?_, hPl⟩
               exact St.left (L := LG ++ (L9 ++ (Ls.set id LQ).flatten)) (M := Le) (by simpa using hs.tail))
            | (obtain ⟨hS', hgr⟩ := hSy [madeE (x : Int)] (fun _ => rfl)
               refine end1 rfl rfl ⟨LG ++ (L9 ++ ((Ls.set id LQ).flatten ++ ([_] ++ Le))), ?_, _, _, _, _, _, _, [madeE (x : Int)], [⟨madeE (x : Int), .slice ea (madeC (x : Int)).length ec⟩], [_], Le, rfl, ⟨⟨rfl, .inr ⟨_, 1, [], rfl, Nat.le_refl _, by decide, rfl, rfl⟩⟩, fun y hy => by obtain rfl := List.mem_singleton.1 hy; exact hOe.rdS, rfl⟩, by simp, hS', hgr⟩
               simpa [cat, emcells, Em.cells] using St.reord [[_], [_], LG, L9, (Ls.set id LQ).flatten, Le] [2, 3, 4, 0, 5] [1] (by simpa [cat, emcells, Em.cells] using hs) rfl)
      · skip
        try simp only [decide_eq_true_eq, decide_eq_false_iff_not, gt_iff_lt, ge_iff_le, beq_iff_eq, beq_eq_false_iff_ne, ne_eq, bne_iff_ne, bne_eq_false_iff_eq, Bool.not_eq_true', Bool.not_eq_false', Bool.not_eq_true, Bool.not_eq_false, Decidable.not_not] at hc78
        refine W_seq ?_
        refine W_region ?_
        refine s_eql rfl rfl rfl ?_
        refine s_assign rfl rfl ?_
        refine WL_nil ?_
        refine n_then ?_
        refine W_cond rfl (fun hc100 => ?_) (fun hc100 => ?_)
        · skip
          try simp only [decide_eq_true_eq, decide_eq_false_iff_not, gt_iff_lt, ge_iff_le, beq_iff_eq, beq_eq_false_iff_ne, ne_eq, bne_iff_ne, bne_eq_false_iff_eq, Bool.not_eq_true', Bool.not_eq_false', Bool.not_eq_true, Bool.not_eq_false, Decidable.not_not] at hc100
          refine W_region ?_
          refine s_move rfl rfl ?_
          refine s_move rfl rfl ?_
          first | (refine s_rem' rfl rfl rfl ?hx ?_; case hx => (refine ⟨?_, ?_⟩ <;> omega)) | (refine s_rem rfl rfl rfl ?hx ?_; case hx => omega)
          refine s_callL (M := [_]) (L1 := LN) (X := Ls.flatten) Try.call58 rfl rfl hs (fun h => copy_any pn gs ms _ LN M w S.net S.nin h) ?_
          clear hs; rintro u w L9 ⟨er, ms', rfl, hN', hin'⟩ - hs
          replace hs : St F w0 w (LG ++ (L9 ++ Ls.flatten)) := by rw [hLG]; exact hs
          have hPl := Played.none (LG := LG) (R := R) (S.calm hN' S.gl hin' fun _ h => h) fun _ _ => Nat.le_refl _
          refine WL_nil ?_
          refine n_blk ?_
          refine n_then ?_
          refine W_seq ?_
          refine W_region ?_
          refine s_assign rfl rfl ?_
          refine WL_nil ?_
          refine n_then ?_
          refine W_ret ?_
          first
            | exact end1 rfl rfl ⟨_, hs, hPl⟩
            | (refine end1 rfl rfl ⟨LG ++ (L1 ++ Ls.flatten), ?_, Played.none (R := R) hS1 fun _ _ => Nat.le_refl _⟩
               rw [hLG]; simpa [cat] using St.reord [[_], [_], L1, LM, Ls.flatten] [1, 2, 4] [0, 3] (by simpa [cat] using hs) rfl)
            | (obtain ⟨hS', hgr⟩ := hSy [] (fun h => absurd h (by assumption))
               have hPl := Played.none (LG := LG) (hS'.weak fun _ h => by simpa using h) hgr
               refine end1 rfl rfl ⟨_, ?_, hPl⟩
               exact St.left (L := LG ++ (L9 ++ (Ls.set id LQ).flatten)) (M := Le) (by simpa using hs.tail))
            | (obtain ⟨hS', hgr⟩ := hSy [madeE (x : Int)] (fun _ => rfl)
               refine end1 rfl rfl ⟨LG ++ (L9 ++ ((Ls.set id LQ).flatten ++ ([_] ++ Le))), ?_, _, _, _, _, _, _, [madeE (x : Int)], [⟨madeE (x : Int), .slice ea (madeC (x : Int)).length ec⟩], [_], Le, rfl, ⟨⟨rfl, .inr ⟨_, 1, [], rfl, Nat.le_refl _, by decide, rfl, rfl⟩⟩, fun y hy => by obtain rfl := List.mem_singleton.1 hy; exact hOe.rdS, rfl⟩, by simp, hS', hgr⟩
               simpa [cat, emcells, Em.cells] using St.reord [[_], [_], LG, L9, (Ls.set id LQ).flatten, Le] [2, 3, 4, 0, 5] [1] (by simpa [cat, emcells, Em.cells] using hs) rfl)
        · skip
          try simp only [decide_eq_true_eq, decide_eq_false_iff_not, gt_iff_lt, ge_iff_le, beq_iff_eq, beq_eq_false_iff_ne, ne_eq, bne_iff_ne, bne_eq_false_iff_eq, Bool.not_eq_true', Bool.not_eq_false', Bool.not_eq_true, Bool.not_eq_false, Decidable.not_not] at hc100
          refine W_seq ?_
          refine W_region ?_
          refine s_eql rfl rfl rfl ?_
          refine s_assign rfl rfl ?_
          refine WL_nil ?_
          refine n_then ?_
          refine W_cond rfl (fun hc106 => ?_) (fun hc106 => ?_)
          · skip
            try simp only [decide_eq_true_eq, decide_eq_false_iff_not, gt_iff_lt, ge_iff_le, beq_iff_eq, beq_eq_false_iff_ne, ne_eq, bne_iff_ne, bne_eq_false_iff_eq, Bool.not_eq_true', Bool.not_eq_false', Bool.not_eq_true, Bool.not_eq_false, Decidable.not_not] at hc106
            refine W_region ?_
            refine s_move rfl rfl ?_
            refine s_move rfl rfl ?_
            first | (refine s_rem' rfl rfl rfl ?hx ?_; case hx => (refine ⟨?_, ?_⟩ <;> omega)) | (refine s_rem rfl rfl rfl ?hx ?_; case hx => omega)
            refine s_callL (M := [_]) (L1 := LN) (X := Ls.flatten) Try.call59 rfl rfl hs (fun h => drop_any pn gs ms _ LN M w S.net S.nin h) ?_
            clear hs; rintro u w L9 ⟨er, ms', rfl, hN', hin'⟩ - hs
            replace hs : St F w0 w (LG ++ (L9 ++ Ls.flatten)) := by rw [hLG]; exact hs
            have hPl := Played.none (LG := LG) (R := R) (S.calm hN' S.gl hin' fun _ h => h) fun _ _ => Nat.le_refl _
            refine WL_nil ?_
            refine n_blk ?_
            refine n_then ?_
            refine W_seq ?_
            refine W_region ?_
            refine s_assign rfl rfl ?_
            refine WL_nil ?_
            refine n_then ?_
            refine W_ret ?_
            first
              | exact end1 rfl rfl ⟨_, hs, hPl⟩
              | (refine end1 rfl rfl ⟨LG ++ (L1 ++ Ls.flatten), ?_, Played.none (R := R) hS1 fun _ _ => Nat.le_refl _⟩
                 rw [hLG]; simpa [cat] using St.reord [[_], [_], L1, LM, Ls.flatten] [1, 2, 4] [0, 3] (by simpa [cat] using hs) rfl)
              | (obtain ⟨hS', hgr⟩ := hSy [] (fun h => absurd h (by assumption))
                 have hPl := Played.none (LG := LG) (hS'.weak fun _ h => by simpa using h) hgr
                 refine end1 rfl rfl ⟨_, ?_, hPl⟩
                 exact St.left (L := LG ++ (L9 ++ (Ls.set id LQ).flatten)) (M := Le) (by simpa using hs.tail))
              | (obtain ⟨hS', hgr⟩ := hSy [madeE (x : Int)] (fun _ => rfl)
                 refine end1 rfl rfl ⟨LG ++ (L9 ++ ((Ls.set id LQ).flatten ++ ([_] ++ Le))), ?_, _, _, _, _, _, _, [madeE (x : Int)], [⟨madeE (x : Int), .slice ea (madeC (x : Int)).length ec⟩], [_], Le, rfl, ⟨⟨rfl, .inr ⟨_, 1, [], rfl, Nat.le_refl _, by decide, rfl, rfl⟩⟩, fun y hy => by obtain rfl := List.mem_singleton.1 hy; exact hOe.rdS, rfl⟩, by simp, hS', hgr⟩
                 simpa [cat, emcells, Em.cells] using St.reord [[_], [_], LG, L9, (Ls.set id LQ).flatten, Le] [2, 3, 4, 0, 5] [1] (by simpa [cat, emcells, Em.cells] using hs) rfl)
          · skip
            try simp only [decide_eq_true_eq, decide_eq_false_iff_not, gt_iff_lt, ge_iff_le, beq_iff_eq, beq_eq_false_iff_ne, ne_eq, bne_iff_ne, bne_eq_false_iff_eq, Bool.not_eq_true', Bool.not_eq_false', Bool.not_eq_true, Bool.not_eq_false, Decidable.not_not] at hc106
            refine W_seq ?_
            refine W_region ?_
            refine s_eql rfl rfl rfl ?_
            refine s_assign rfl rfl ?_
            refine WL_nil ?_
            refine n_then ?_
            refine W_cond rfl (fun hc112 => ?_) (fun hc112 => ?_)
            · skip
              try simp only [decide_eq_true_eq, decide_eq_false_iff_not, gt_iff_lt, ge_iff_le, beq_iff_eq, beq_eq_false_iff_ne, ne_eq, bne_iff_ne, bne_eq_false_iff_eq, Bool.not_eq_true', Bool.not_eq_false', Bool.not_eq_true, Bool.not_eq_false, Decidable.not_not] at hc112
              refine W_seq ?_
              refine W_region ?_
              refine s_move rfl rfl ?_
              refine s_makeSlice El58 rfl rfl rfl ?hx hs ?_
              case hx => (refine ⟨?_, ?_, ?_, ?_⟩ <;> omega)
              clear hs; intro b115 w hs
              refine s_assign rfl rfl ?_
              refine WL_nil ?_
              refine n_then ?_
              refine W_seq ?_
              refine W_seq ?_
              refine W_region ?_
              refine s_assign rfl rfl ?_
              refine WL_nil ?_
              refine n_then ?_
              refine W_block ?_
              refine W_loop (σ := PlG) (fun s => [(0, .pointer (some ⟨pn, 0, none⟩)), (6, .slice none 0 0), (7, .int .i64 (k : Int)), (8, .int .i64 (x : Int)), (15, .slice (some ⟨b115, 0, none⟩) k k), (16, .int .i64 (s.i : Int))])
                (fun s w => St F w0 w ((b115, Blk 3 (i64s s.cs)) :: (g, Blk 25 (ptrs ps ++ sp)) :: (LN ++ Ls.flatten)) ∧ s.cs.length = k ∧ s.i ≤ k) (fun s => k - s.i) ⟨0, List.replicate k 0⟩ ⟨rfl, rfl, rfl, rfl, rfl, rfl, trivial⟩ ⟨by have h9 := hs; rw [made_one] at h9; simpa [i64s] using h9, by simp, Nat.zero_le _⟩ ?_
              clear hs
              rintro ⟨i, cs⟩ w ⟨hs, hcs, hi⟩
              simp only at hs hcs hi ⊢
              refine W_seq ?_
              refine W_seq ?_
              refine W_region ?_
              refine s_move rfl rfl ?_
              refine s_move rfl rfl ?_
              refine s_lss rfl rfl rfl ?_
              refine WL_nil ?_
              refine n_then ?_
              refine W_cond rfl (fun hc118 => ?_) (fun hc118 => ?_)
              · skip
                try simp only [decide_eq_true_eq, decide_eq_false_iff_not, gt_iff_lt, ge_iff_le, beq_iff_eq, beq_eq_false_iff_ne, ne_eq, bne_iff_ne, bne_eq_false_iff_eq, Bool.not_eq_true', Bool.not_eq_false', Bool.not_eq_true, Bool.not_eq_false, Decidable.not_not] at hc118
                refine W_skip ?_
                refine n_then ?_
                refine W_seq ?_
                refine W_block ?_
                refine W_region ?_
                refine s_move rfl rfl ?_
                refine s_move rfl rfl ?_
                refine s_move rfl rfl ?_
                refine s_move rfl rfl ?_
                refine s_convert rfl rfl (CV3_115 _) ?_
                have hu : IntKind.u64.wrap (i : Int) = (i : Int) := by simp [IntKind.wrap, IntKind.bits, IntKind.signed]; omega
                (refine s_shr rfl rfl rfl ?hx ?_; case hx => (first | omega | (rw [hu]; omega)))
                generalize ((x : Int)).fdiv _ = y
                (refine s_rem rfl rfl rfl ?hx ?_; case hx => omega)
                (refine s_indexAddr1 El58 rfl rfl rfl ?hx ?_; case hx => (constructor <;> first | omega | (simp; omega)))
                refine s_store Try.sizeOf3 rfl rfl rfl hs (kk := 0) rfl (by simp; omega) ?_
                clear hs; intro w hs
                simp only [List.set_cons_zero, Nat.zero_add, Int.toNat_natCast] at hs
                refine WL_nil ?_
                refine n_blk ?_
                refine n_then ?_
                refine W_region ?_
                refine s_move rfl rfl ?_
                first | (refine s_add' rfl rfl rfl ?hx ?_; case hx => (constructor <;> first | omega | (simp only; omega))) | refine s_add rfl rfl rfl ?_
                refine s_assign rfl rfl ?_
                refine WL_nil ?_
                refine n_loop ?_
                refine ⟨⟨i + 1, cs.set i _⟩, ⟨rfl, rfl, rfl, rfl, rfl, rfl, trivial⟩, ⟨by rw [← i64s_set]; simpa using hs, by simp [hcs], by simp only; omega⟩, by simp only; omega⟩
              · skip
                try simp only [decide_eq_true_eq, decide_eq_false_iff_not, gt_iff_lt, ge_iff_le, beq_iff_eq, beq_eq_false_iff_ne, ne_eq, bne_iff_ne, bne_eq_false_iff_eq, Bool.not_eq_true', Bool.not_eq_false', Bool.not_eq_true, Bool.not_eq_false, Decidable.not_not] at hc118
                refine W_exit ?_
                refine x_then ?_
                refine x_then ?_
                refine exit_hit ?_
                refine n_then ?_
                refine W_region ?_
                refine s_move rfl rfl ?_
                refine s_move rfl rfl ?_
                refine s_callL (M := [_, _]) (L1 := LN) (X := Ls.flatten) Try.call60 rfl rfl hs (fun h => partition_yes pn gs cs ms _ LN w S.net h (by rw [hcs]; exact hs.sl (k := 0) (ds := i64s cs) rfl (Nat.le_refl _) (by intro j u hj; rw [Nat.zero_add]; exact hj)) (by rw [hcs, S.gl])) ?_
                clear hs; rintro u w L9 ⟨rfl, hN'⟩ - hs
                replace hs : St F w0 w (LG ++ (L9 ++ Ls.flatten)) := by rw [hLG]; exact hs.tail
                have hPl := Played.none (LG := LG) (R := R) (S.calm hN' hcs S.nin fun _ h => h) fun _ _ => Nat.le_refl _
                refine WL_nil ?_
                refine n_blk ?_
                refine n_then ?_
                refine W_seq ?_
                refine W_region ?_
                refine s_assign rfl rfl ?_
                refine WL_nil ?_
                refine n_then ?_
                refine W_ret ?_
                first
                  | exact end1 rfl rfl ⟨_, hs, hPl⟩
                  | (refine end1 rfl rfl ⟨LG ++ (L1 ++ Ls.flatten), ?_, Played.none (R := R) hS1 fun _ _ => Nat.le_refl _⟩
                     rw [hLG]; simpa [cat] using St.reord [[_], [_], L1, LM, Ls.flatten] [1, 2, 4] [0, 3] (by simpa [cat] using hs) rfl)
                  | (obtain ⟨hS', hgr⟩ := hSy [] (fun h => absurd h (by assumption))
                     have hPl := Played.none (LG := LG) (hS'.weak fun _ h => by simpa using h) hgr
                     refine end1 rfl rfl ⟨_, ?_, hPl⟩
                     exact St.left (L := LG ++ (L9 ++ (Ls.set id LQ).flatten)) (M := Le) (by simpa using hs.tail))
                  | (obtain ⟨hS', hgr⟩ := hSy [madeE (x : Int)] (fun _ => rfl)
                     refine end1 rfl rfl ⟨LG ++ (L9 ++ ((Ls.set id LQ).flatten ++ ([_] ++ Le))), ?_, _, _, _, _, _, _, [madeE (x : Int)], [⟨madeE (x : Int), .slice ea (madeC (x : Int)).length ec⟩], [_], Le, rfl, ⟨⟨rfl, .inr ⟨_, 1, [], rfl, Nat.le_refl _, by decide, rfl, rfl⟩⟩, fun y hy => by obtain rfl := List.mem_singleton.1 hy; exact hOe.rdS, rfl⟩, by simp, hS', hgr⟩
                     simpa [cat, emcells, Em.cells] using St.reord [[_], [_], LG, L9, (Ls.set id LQ).flatten, Le] [2, 3, 4, 0, 5] [1] (by simpa [cat, emcells, Em.cells] using hs) rfl)
            · skip
              try simp only [decide_eq_true_eq, decide_eq_false_iff_not, gt_iff_lt, ge_iff_le, beq_iff_eq, beq_eq_false_iff_ne, ne_eq, bne_iff_ne, bne_eq_false_iff_eq, Bool.not_eq_true', Bool.not_eq_false', Bool.not_eq_true, Bool.not_eq_false, Decidable.not_not] at hc112
              refine W_seq ?_
              refine W_region ?_
              refine s_move rfl rfl ?_
              refine s_move rfl rfl ?_
              first | (refine s_rem' rfl rfl rfl ?hx ?_; case hx => (refine ⟨?_, ?_⟩ <;> omega)) | (refine s_rem rfl rfl rfl ?hx ?_; case hx => omega)
              refine s_callL (M := [_]) (L1 := LN) (X := Ls.flatten) Try.call61 rfl rfl hs (fun h => take_any pn k gs ms _ LN M w S.net S.nin S.gl hMk h) ?_
              clear hs; rintro u w L9 ⟨f, t, v, er, ms1, LM, L1, rfl, ⟨va, vn, vc, rfl⟩, rfl, hN1, hin1, hx⟩ - hs
              clear hp hRA hpm hps hRid hRm p L X
              have hS1 := S.calm hN1 S.gl hin1 fun _ h => h
              refine s_move rfl rfl ?_
              refine s_extract rfl rfl rfl ?_
              refine s_extract rfl rfl rfl ?_
              refine s_alloc rfl AL56 hs ?_; clear hs; intro b17 w hs
              first
                | refine s_storeW Try.sizeOf56 rfl rfl rfl rfl hs (kk := 0) rfl rfl ?_
                | refine s_storeW Try.sizeOf56 rfl rfl rfl rfl hs (kk := 1) rfl rfl ?_
                | refine s_storeW Try.sizeOf56 rfl rfl rfl rfl hs (kk := 2) rfl rfl ?_
                | refine s_storeW Try.sizeOf56 rfl rfl rfl rfl hs (kk := 3) rfl rfl ?_
                | refine s_storeW Try.sizeOf56 rfl rfl rfl rfl hs (kk := 4) rfl rfl ?_
                | refine s_storeW Try.sizeOf56 rfl rfl rfl rfl hs (kk := 5) rfl rfl ?_
                | refine s_storeAB Try.sizeOf56 rfl rfl rfl rfl hs (kk := 0) rfl rfl ?_
                | refine s_storeAB Try.sizeOf56 rfl rfl rfl rfl hs (kk := 1) rfl rfl ?_
                | refine s_storeAB Try.sizeOf56 rfl rfl rfl rfl hs (kk := 2) rfl rfl ?_
                | refine s_storeAB Try.sizeOf56 rfl rfl rfl rfl hs (kk := 3) rfl rfl ?_
                | refine s_storeAB Try.sizeOf56 rfl rfl rfl rfl hs (kk := 4) rfl rfl ?_
                | refine s_storeAB Try.sizeOf56 rfl rfl rfl rfl hs (kk := 5) rfl rfl ?_
              clear hs; intro w hs; try simp only [List.set_cons_zero, List.set_cons_succ, splice, List.take_succ_cons, List.take_zero, List.drop_succ_cons, List.drop_zero, List.nil_append, List.cons_append, List.length_cons, List.length_nil, Nat.reduceAdd, List.append_assoc] at hs
              refine s_assign rfl rfl ?_
              refine WL_nil ?_
              refine n_then ?_
              refine W_seq ?_
              refine W_region ?_
              refine s_move rfl rfl ?_
              refine s_eql rfl rfl rfl ?_
              refine s_move rfl rfl ?_
              refine WL_case (s := 38) rfl (fun hg38 => ?_) (fun hg38 => ?_)
              · skip
                try simp only [decide_eq_true_eq, decide_eq_false_iff_not, gt_iff_lt, ge_iff_le, beq_iff_eq, beq_eq_false_iff_ne, ne_eq, bne_iff_ne, bne_eq_false_iff_eq, Bool.not_eq_true', Bool.not_eq_false', Bool.not_eq_true, Bool.not_eq_false, Decidable.not_not] at hg38
                refine WL_take rfl ?_
                refine s_fieldAddr rfl rfl (FA56_1 _ _) ?_
                refine WL_take rfl ?_
                first
                  | refine s_load Try.isAgg3 rfl rfl (hs.cell (k := 0) rfl rfl) ?_
                  | refine s_load Try.isAgg3 rfl rfl (hs.cell (k := 1) rfl rfl) ?_
                  | refine s_load Try.isAgg3 rfl rfl (hs.cell (k := 2) rfl rfl) ?_
                  | refine s_load Try.isAgg3 rfl rfl (hs.cell (k := 3) rfl rfl) ?_
                  | refine s_load Try.isAgg3 rfl rfl (hs.cell (k := 4) rfl rfl) ?_
                  | refine s_load Try.isAgg3 rfl rfl (hs.cell (k := 5) rfl rfl) ?_
                refine WL_take rfl ?_
                refine s_geq rfl rfl rfl ?_
                refine s_pick_t rfl rfl rfl ?_
                refine s_move rfl rfl ?_
                refine WL_case (s := 43) rfl (fun hg43 => ?_) (fun hg43 => ?_)
                · skip
                  try simp only [decide_eq_true_eq, decide_eq_false_iff_not, gt_iff_lt, ge_iff_le, beq_iff_eq, beq_eq_false_iff_ne, ne_eq, bne_iff_ne, bne_eq_false_iff_eq, Bool.not_eq_true', Bool.not_eq_false', Bool.not_eq_true, Bool.not_eq_false, Decidable.not_not] at hg43
                  refine WL_take rfl ?_
                  refine s_fieldAddr rfl rfl (FA56_1 _ _) ?_
                  refine WL_take rfl ?_
                  first
                    | refine s_load Try.isAgg3 rfl rfl (hs.cell (k := 0) rfl rfl) ?_
                    | refine s_load Try.isAgg3 rfl rfl (hs.cell (k := 1) rfl rfl) ?_
                    | refine s_load Try.isAgg3 rfl rfl (hs.cell (k := 2) rfl rfl) ?_
                    | refine s_load Try.isAgg3 rfl rfl (hs.cell (k := 3) rfl rfl) ?_
                    | refine s_load Try.isAgg3 rfl rfl (hs.cell (k := 4) rfl rfl) ?_
                    | refine s_load Try.isAgg3 rfl rfl (hs.cell (k := 5) rfl rfl) ?_
                  refine WL_take rfl ?_
                  refine s_move rfl rfl ?_
                  refine WL_take rfl ?_
                  refine s_lss rfl rfl rfl ?_
                  refine s_pick_t rfl rfl rfl ?_
                  refine WL_nil ?_
                  refine n_then ?_
                  refine W_cond rfl (fun hc48 => ?_) (fun hc48 => ?_)
                  · skip
                    try simp only [decide_eq_true_eq, decide_eq_false_iff_not, gt_iff_lt, ge_iff_le, beq_iff_eq, beq_eq_false_iff_ne, ne_eq, bne_iff_ne, bne_eq_false_iff_eq, Bool.not_eq_true', Bool.not_eq_false', Bool.not_eq_true, Bool.not_eq_false, Decidable.not_not] at hc48
                    obtain ⟨y, hMy, rfl, rfl, hrd⟩ := hx (by assumption)
                    obtain ⟨hyf, hyt⟩ := hMk y hMy
                    have hyok : y.m.ok ∧ y.frm ≠ y.to := by obtain ⟨G, hG, -⟩ := S.inv; exact ⟨(hG.msg y hMy).ok, (hG.msg y hMy).ne⟩
                    obtain ⟨p, L, X, hp, hRA, hpm, hps, hRid, hRm⟩ := hS1.rep hyt
                    refine W_draw [(0, true, []), (1, true, []), (2, true, []), (3, true, []), (4, true, []), (5, true, []), (6, true, []), (7, false, [0]), (8, false, [])] [[], [], [], [2], [1, 2, 3], [1, 2, 3, 4], [], [1, 2, 3, 4, 5, 6], [0, 1, 2, 3, 4, 5, 6, 7]] MX (by kernel_rfl) ?_
                    intro w1 hw1 hw2 hw3 hw4; replace hs := hs.redrawn hw1 hw2 hw3 hw4; clear hw1 hw2 hw3 hw4
                    obtain ⟨w, rfl⟩ : ∃ w : World, w = w1 := ⟨_, rfl⟩
                    refine D_q rfl rfl ?_
                    refine s_move rfl rfl ?_
                    refine D_qn ?_
                    refine D_q rfl rfl ?_
                    refine s_move rfl rfl ?_
                    refine D_qn ?_
                    refine D_q rfl rfl ?_
                    refine s_fieldAddr rfl rfl (FA56_1 _ _) ?_
                    refine D_qn ?_
                    refine D_q rfl rfl ?_
                    first
                      | refine s_load Try.isAgg3 rfl rfl (hs.cell (k := 0) rfl rfl) ?_
                      | refine s_load Try.isAgg3 rfl rfl (hs.cell (k := 1) rfl rfl) ?_
                      | refine s_load Try.isAgg3 rfl rfl (hs.cell (k := 2) rfl rfl) ?_
                      | refine s_load Try.isAgg3 rfl rfl (hs.cell (k := 3) rfl rfl) ?_
                      | refine s_load Try.isAgg3 rfl rfl (hs.cell (k := 4) rfl rfl) ?_
                      | refine s_load Try.isAgg3 rfl rfl (hs.cell (k := 5) rfl rfl) ?_
                    refine D_qn ?_
                    refine D_q rfl rfl ?_
                    (refine s_indexAddr1 El60 rfl rfl rfl ?hx ?_; case hx => (constructor <;> first | omega | (simp; omega)))
                    refine D_qn ?_
                    refine D_q rfl rfl ?_
                    refine s_load Try.isAgg25 rfl rfl (hs.cell (k := 1) rfl (hcl _ _ hp)) ?_
                    refine D_qn ?_
                    refine D_q rfl rfl ?_
                    first
                      | refine s_loadW Try.isAgg56 Try.sizeOf56 rfl rfl hs (kk := 0) rfl rfl ?_
                      | refine s_loadW Try.isAgg56 Try.sizeOf56 rfl rfl hs (kk := 1) rfl rfl ?_
                      | refine s_loadW Try.isAgg56 Try.sizeOf56 rfl rfl hs (kk := 2) rfl rfl ?_
                      | refine s_loadW Try.isAgg56 Try.sizeOf56 rfl rfl hs (kk := 3) rfl rfl ?_
                      | refine s_loadW Try.isAgg56 Try.sizeOf56 rfl rfl hs (kk := 4) rfl rfl ?_
                      | refine s_loadW Try.isAgg56 Try.sizeOf56 rfl rfl hs (kk := 5) rfl rfl ?_
                      | refine s_load_3 Try.isAgg56 Try.sizeOf56 rfl rfl (by first | exact hs.cell (k := 0) rfl rfl | exact hs.cell (k := 1) rfl rfl | exact hs.cell (k := 2) rfl rfl | exact hs.cell (k := 3) rfl rfl | exact hs.cell (k := 4) rfl rfl | exact hs.cell (k := 5) rfl rfl) (by first | exact hs.cell (k := 0) rfl rfl | exact hs.cell (k := 1) rfl rfl | exact hs.cell (k := 2) rfl rfl | exact hs.cell (k := 3) rfl rfl | exact hs.cell (k := 4) rfl rfl | exact hs.cell (k := 5) rfl rfl) (by first | exact hs.cell (k := 0) rfl rfl | exact hs.cell (k := 1) rfl rfl | exact hs.cell (k := 2) rfl rfl | exact hs.cell (k := 3) rfl rfl | exact hs.cell (k := 4) rfl rfl | exact hs.cell (k := 5) rfl rfl) ?_
                    refine D_qn ?_
                    refine D_e rfl ?_
                    replace hs : St F w0 w (((b17, Blk 56 [.int .i64 (y.frm : Int), .int .i64 (y.to : Int), .slice va vn vc]) :: (g, Blk 25 (ptrs ps ++ sp)) :: L1) ++ (L ++ (X ++ LM))) := by
                      have h9 := (show St F w0 w (_ :: _ :: (L1 ++ (Ls.flatten ++ LM))) from by simpa [cat] using St.reord [[_], [_], L1, LM, Ls.flatten] [0, 1, 2, 4, 3] [] (by simpa [cat] using hs) rfl).perm ((((perm_r hpm LM).append_left L1).cons _).cons _)
                      simpa using h9
                    refine s_callL (L1 := L) (X := X ++ LM) Try.call24 rfl rfl hs (fun h => by
                      have h8 := receive_ok p (R y.to) L y.m y.frm (.slice va vn vc) w hRA (hrd.sl w fun q hq => hs.own q (by simp [hq])) (fun a m c he hne => (St.apartX hs) (by rw [ids_append]; exact List.mem_append_right _ (hrd.inL a m c he hne))) hyok.1 (by omega) (by omega) h
                      rw [hRid] at h8; exact h8) ?_
                    clear hs; rintro mv w L9 ⟨Lr, LQ, rfl, hRQ, hMs⟩ - hs
                    have hlen := recv_len (R y.to) y.m y.frm
                    have hSy := fun (LN' : Hp) (ms' : List Msg) => hS1.recv (LN' := LN') (ms' := ms') hMy hp hRQ
                    generalize (R y.to).recv y.m y.frm = E at hRQ hMs hlen hSy ⊢
                    obtain ⟨r', l⟩ := E
                    simp only at hRQ hMs hlen hSy ⊢
                    refine D_en ?re ?_
                    case re =>
                      refine Reks_cons rfl rfl rfl rfl ?_ ?_
                      · skip
                        refine s_move rfl rfl ?_
                        exact Rek_end rfl
                      exact Reks_nil
                    refine D_e rfl ?_
                    replace hs : St F w0 w ([(b17, Blk 56 [.int .i64 (y.frm : Int), .int .i64 (y.to : Int), .slice va vn vc]), (g, Blk 25 (ptrs ps ++ sp))] ++ ((L1 ++ Lr) ++ (LQ ++ (X ++ LM)))) := by simpa [cat] using St.reord [[_], [_], L1, LQ, Lr, X, LM] [0, 1, 2, 4, 3, 5, 6] [] (by simpa [cat] using hs) rfl
                    refine s_callL (M := [_, _]) (L1 := L1 ++ Lr) (X := LQ ++ (X ++ LM)) Try.call57 rfl rfl hs (fun h => post_ok pn gs ms1 L1 mv l Lr _ (addM M l) w hN1 (hin1.mono fun _ h => .inl h) hMs (fun _ h => .inr h) (by omega) rfl h) ?_
                    clear hs; rintro u w L9 ⟨ms', hN', hin'⟩ - hs
                    obtain ⟨hS', hgr⟩ := hSy L9 ms' hN' hin'
                    replace hs : St F w0 w (LG ++ (L9 ++ (Ls.set y.to LQ).flatten)) := by
                      rw [hLG]
                      have h9 := hs.perm (((((perm_r (hps LQ) LM).symm.append_left L9)).cons _).cons _)
                      have h8 := St.tail h9
                      exact St.left (L := (g, Blk 25 (ptrs ps ++ sp)) :: (L9 ++ (Ls.set y.to LQ).flatten)) (M := LM) (by simpa using h8)
                    have hPl := Played.none (LG := LG) hS' hgr
                    refine D_en ?re ?_
                    case re =>
                      exact Reks_nil
                    refine D_nil ?_
                    refine n_blk ?_
                    refine n_then ?_
                    refine W_seq ?_
                    refine W_region ?_
                    refine s_assign rfl rfl ?_
                    refine WL_nil ?_
                    refine n_then ?_
                    refine W_ret ?_
                    first
                      | exact end1 rfl rfl ⟨_, hs, hPl⟩
                      | (refine end1 rfl rfl ⟨LG ++ (L1 ++ Ls.flatten), ?_, Played.none (R := R) hS1 fun _ _ => Nat.le_refl _⟩
                         rw [hLG]; simpa [cat] using St.reord [[_], [_], L1, LM, Ls.flatten] [1, 2, 4] [0, 3] (by simpa [cat] using hs) rfl)
                      | (obtain ⟨hS', hgr⟩ := hSy [] (fun h => absurd h (by assumption))
                         have hPl := Played.none (LG := LG) (hS'.weak fun _ h => by simpa using h) hgr
                         refine end1 rfl rfl ⟨_, ?_, hPl⟩
                         exact St.left (L := LG ++ (L9 ++ (Ls.set id LQ).flatten)) (M := Le) (by simpa using hs.tail))
                      | (obtain ⟨hS', hgr⟩ := hSy [madeE (x : Int)] (fun _ => rfl)
                         refine end1 rfl rfl ⟨LG ++ (L9 ++ ((Ls.set id LQ).flatten ++ ([_] ++ Le))), ?_, _, _, _, _, _, _, [madeE (x : Int)], [⟨madeE (x : Int), .slice ea (madeC (x : Int)).length ec⟩], [_], Le, rfl, ⟨⟨rfl, .inr ⟨_, 1, [], rfl, Nat.le_refl _, by decide, rfl, rfl⟩⟩, fun y hy => by obtain rfl := List.mem_singleton.1 hy; exact hOe.rdS, rfl⟩, by simp, hS', hgr⟩
                         simpa [cat, emcells, Em.cells] using St.reord [[_], [_], LG, L9, (Ls.set id LQ).flatten, Le] [2, 3, 4, 0, 5] [1] (by simpa [cat, emcells, Em.cells] using hs) rfl)
                  · skip
                    try simp only [decide_eq_true_eq, decide_eq_false_iff_not, gt_iff_lt, ge_iff_le, beq_iff_eq, beq_eq_false_iff_ne, ne_eq, bne_iff_ne, bne_eq_false_iff_eq, Bool.not_eq_true', Bool.not_eq_false', Bool.not_eq_true, Bool.not_eq_false, Decidable.not_not] at hc48
                    replace hs : St F w0 w (LG ++ (L1 ++ Ls.flatten)) := by rw [hLG]; simpa [cat] using St.reord [[_], [_], L1, LM, Ls.flatten] [1, 2, 4] [0, 3] (by simpa [cat] using hs) rfl
                    have hPl := Played.none (LG := LG) (R := R) hS1 fun _ _ => Nat.le_refl _
                    refine W_skip ?_
                    refine n_blk ?_
                    refine n_then ?_
                    refine W_seq ?_
                    refine W_region ?_
                    refine s_assign rfl rfl ?_
                    refine WL_nil ?_
                    refine n_then ?_
                    refine W_ret ?_
                    first
                      | exact end1 rfl rfl ⟨_, hs, hPl⟩
                      | (refine end1 rfl rfl ⟨LG ++ (L1 ++ Ls.flatten), ?_, Played.none (R := R) hS1 fun _ _ => Nat.le_refl _⟩
                         rw [hLG]; simpa [cat] using St.reord [[_], [_], L1, LM, Ls.flatten] [1, 2, 4] [0, 3] (by simpa [cat] using hs) rfl)
                      | (obtain ⟨hS', hgr⟩ := hSy [] (fun h => absurd h (by assumption))
                         have hPl := Played.none (LG := LG) (hS'.weak fun _ h => by simpa using h) hgr
                         refine end1 rfl rfl ⟨_, ?_, hPl⟩
                         exact St.left (L := LG ++ (L9 ++ (Ls.set id LQ).flatten)) (M := Le) (by simpa using hs.tail))
                      | (obtain ⟨hS', hgr⟩ := hSy [madeE (x : Int)] (fun _ => rfl)
                         refine end1 rfl rfl ⟨LG ++ (L9 ++ ((Ls.set id LQ).flatten ++ ([_] ++ Le))), ?_, _, _, _, _, _, _, [madeE (x : Int)], [⟨madeE (x : Int), .slice ea (madeC (x : Int)).length ec⟩], [_], Le, rfl, ⟨⟨rfl, .inr ⟨_, 1, [], rfl, Nat.le_refl _, by decide, rfl, rfl⟩⟩, fun y hy => by obtain rfl := List.mem_singleton.1 hy; exact hOe.rdS, rfl⟩, by simp, hS', hgr⟩
                         simpa [cat, emcells, Em.cells] using St.reord [[_], [_], LG, L9, (Ls.set id LQ).flatten, Le] [2, 3, 4, 0, 5] [1] (by simpa [cat, emcells, Em.cells] using hs) rfl)
                · skip
                  try simp only [decide_eq_true_eq, decide_eq_false_iff_not, gt_iff_lt, ge_iff_le, beq_iff_eq, beq_eq_false_iff_ne, ne_eq, bne_iff_ne, bne_eq_false_iff_eq, Bool.not_eq_true', Bool.not_eq_false', Bool.not_eq_true, Bool.not_eq_false, Decidable.not_not] at hg43
                  refine WL_skip rfl rfl rfl ?_
                  refine WL_skip rfl rfl rfl ?_
                  refine WL_skip rfl rfl rfl ?_
                  refine WL_skip rfl rfl rfl ?_
                  refine s_pick_f rfl rfl rfl ?_
                  refine WL_nil ?_
                  refine n_then ?_
                  refine W_cond_f rfl ?_
                  refine W_skip ?_
                  refine n_blk ?_
                  refine n_then ?_
                  refine W_seq ?_
                  refine W_region ?_
                  refine s_assign rfl rfl ?_
                  refine WL_nil ?_
                  refine n_then ?_
                  refine W_ret ?_
                  first
                    | exact end1 rfl rfl ⟨_, hs, hPl⟩
                    | (refine end1 rfl rfl ⟨LG ++ (L1 ++ Ls.flatten), ?_, Played.none (R := R) hS1 fun _ _ => Nat.le_refl _⟩
                       rw [hLG]; simpa [cat] using St.reord [[_], [_], L1, LM, Ls.flatten] [1, 2, 4] [0, 3] (by simpa [cat] using hs) rfl)
                    | (obtain ⟨hS', hgr⟩ := hSy [] (fun h => absurd h (by assumption))
                       have hPl := Played.none (LG := LG) (hS'.weak fun _ h => by simpa using h) hgr
                       refine end1 rfl rfl ⟨_, ?_, hPl⟩
                       exact St.left (L := LG ++ (L9 ++ (Ls.set id LQ).flatten)) (M := Le) (by simpa using hs.tail))
                    | (obtain ⟨hS', hgr⟩ := hSy [madeE (x : Int)] (fun _ => rfl)
                       refine end1 rfl rfl ⟨LG ++ (L9 ++ ((Ls.set id LQ).flatten ++ ([_] ++ Le))), ?_, _, _, _, _, _, _, [madeE (x : Int)], [⟨madeE (x : Int), .slice ea (madeC (x : Int)).length ec⟩], [_], Le, rfl, ⟨⟨rfl, .inr ⟨_, 1, [], rfl, Nat.le_refl _, by decide, rfl, rfl⟩⟩, fun y hy => by obtain rfl := List.mem_singleton.1 hy; exact hOe.rdS, rfl⟩, by simp, hS', hgr⟩
                       simpa [cat, emcells, Em.cells] using St.reord [[_], [_], LG, L9, (Ls.set id LQ).flatten, Le] [2, 3, 4, 0, 5] [1] (by simpa [cat, emcells, Em.cells] using hs) rfl)
              · skip
                try simp only [decide_eq_true_eq, decide_eq_false_iff_not, gt_iff_lt, ge_iff_le, beq_iff_eq, beq_eq_false_iff_ne, ne_eq, bne_iff_ne, bne_eq_false_iff_eq, Bool.not_eq_true', Bool.not_eq_false', Bool.not_eq_true, Bool.not_eq_false, Decidable.not_not] at hg38
                refine WL_skip rfl rfl rfl ?_
                refine WL_skip rfl rfl rfl ?_
                refine WL_skip rfl rfl rfl ?_
                refine s_pick_f rfl rfl rfl ?_
                refine s_move rfl rfl ?_
                refine WL_skip rfl rfl rfl ?_
                refine WL_skip rfl rfl rfl ?_
                refine WL_skip rfl rfl rfl ?_
                refine WL_skip rfl rfl rfl ?_
                refine s_pick_f rfl rfl rfl ?_
                refine WL_nil ?_
                refine n_then ?_
                refine W_cond_f rfl ?_
                refine W_skip ?_
                refine n_blk ?_
                refine n_then ?_
                refine W_seq ?_
                refine W_region ?_
                refine s_assign rfl rfl ?_
                refine WL_nil ?_
                refine n_then ?_
                refine W_ret ?_
                first
                  | exact end1 rfl rfl ⟨_, hs, hPl⟩
                  | (refine end1 rfl rfl ⟨LG ++ (L1 ++ Ls.flatten), ?_, Played.none (R := R) hS1 fun _ _ => Nat.le_refl _⟩
                     rw [hLG]; simpa [cat] using St.reord [[_], [_], L1, LM, Ls.flatten] [1, 2, 4] [0, 3] (by simpa [cat] using hs) rfl)
                  | (obtain ⟨hS', hgr⟩ := hSy [] (fun h => absurd h (by assumption))
                     have hPl := Played.none (LG := LG) (hS'.weak fun _ h => by simpa using h) hgr
                     refine end1 rfl rfl ⟨_, ?_, hPl⟩
                     exact St.left (L := LG ++ (L9 ++ (Ls.set id LQ).flatten)) (M := Le) (by simpa using hs.tail))
                  | (obtain ⟨hS', hgr⟩ := hSy [madeE (x : Int)] (fun _ => rfl)
                     refine end1 rfl rfl ⟨LG ++ (L9 ++ ((Ls.set id LQ).flatten ++ ([_] ++ Le))), ?_, _, _, _, _, _, _, [madeE (x : Int)], [⟨madeE (x : Int), .slice ea (madeC (x : Int)).length ec⟩], [_], Le, rfl, ⟨⟨rfl, .inr ⟨_, 1, [], rfl, Nat.le_refl _, by decide, rfl, rfl⟩⟩, fun y hy => by obtain rfl := List.mem_singleton.1 hy; exact hOe.rdS, rfl⟩, by simp, hS', hgr⟩
                     simpa [cat, emcells, Em.cells] using St.reord [[_], [_], LG, L9, (Ls.set id LQ).flatten, Le] [2, 3, 4, 0, 5] [1] (by simpa [cat, emcells, Em.cells] using hs) rfl)
    · skip
      try simp only [decide_eq_true_eq, decide_eq_false_iff_not, gt_iff_lt, ge_iff_le, beq_iff_eq, beq_eq_false_iff_ne, ne_eq, bne_iff_ne, bne_eq_false_iff_eq, Bool.not_eq_true', Bool.not_eq_false', Bool.not_eq_true, Bool.not_eq_false, Decidable.not_not] at hc78
      refine W_region ?_
      refine s_eql rfl rfl rfl ?_
      refine s_assign rfl rfl ?_
      refine WL_nil ?_
      refine n_then ?_
      refine W_cond rfl (fun hc78 => ?_) (fun hc78 => ?_)
      · skip
        try simp only [decide_eq_true_eq, decide_eq_false_iff_not, gt_iff_lt, ge_iff_le, beq_iff_eq, beq_eq_false_iff_ne, ne_eq, bne_iff_ne, bne_eq_false_iff_eq, Bool.not_eq_true', Bool.not_eq_false', Bool.not_eq_true, Bool.not_eq_false, Decidable.not_not] at hc78
        refine W_seq ?_
        refine W_region ?_
        refine s_move rfl rfl ?_
        refine s_call Try.call23 rfl rfl (made_ok (x : Int) w (by unfold isI64; omega)) ?_
        rintro r w ⟨ev, Le, rfl, hOe, hst⟩
        replace hs := (hs.back0 hst).swap (A := Le)
        clear hst
        obtain ⟨_, ec, ea, rfl, hel⟩ := hOe.form
        subst hel
        refine s_call Try.call22 rfl rfl (of_ok (madeG (x : Int)) (madeX (x : Int)) ea (madeC (x : Int)).length ec w) ?_
        rintro r w ⟨hst, rfl⟩
        replace hs := hs.fwd1 hst
        clear hst
        refine s_alloc rfl AL35 hs ?_; clear hs; intro b12 w hs
        first
          | refine s_storeW Try.sizeOf35 rfl rfl rfl rfl hs (kk := 0) rfl rfl ?_
          | refine s_storeW Try.sizeOf35 rfl rfl rfl rfl hs (kk := 1) rfl rfl ?_
          | refine s_storeW Try.sizeOf35 rfl rfl rfl rfl hs (kk := 2) rfl rfl ?_
          | refine s_storeW Try.sizeOf35 rfl rfl rfl rfl hs (kk := 3) rfl rfl ?_
          | refine s_storeW Try.sizeOf35 rfl rfl rfl rfl hs (kk := 4) rfl rfl ?_
          | refine s_storeW Try.sizeOf35 rfl rfl rfl rfl hs (kk := 5) rfl rfl ?_
          | refine s_storeAB Try.sizeOf35 rfl rfl rfl rfl hs (kk := 0) rfl rfl ?_
          | refine s_storeAB Try.sizeOf35 rfl rfl rfl rfl hs (kk := 1) rfl rfl ?_
          | refine s_storeAB Try.sizeOf35 rfl rfl rfl rfl hs (kk := 2) rfl rfl ?_
          | refine s_storeAB Try.sizeOf35 rfl rfl rfl rfl hs (kk := 3) rfl rfl ?_
          | refine s_storeAB Try.sizeOf35 rfl rfl rfl rfl hs (kk := 4) rfl rfl ?_
          | refine s_storeAB Try.sizeOf35 rfl rfl rfl rfl hs (kk := 5) rfl rfl ?_
        clear hs; intro w hs; try simp only [List.set_cons_zero, List.set_cons_succ, splice, List.take_succ_cons, List.take_zero, List.drop_succ_cons, List.drop_zero, List.nil_append, List.cons_append, List.length_cons, List.length_nil, Nat.reduceAdd, List.append_assoc] at hs
        refine WL_nil ?_
        refine n_then ?_
        refine W_seq ?_
        refine W_draw [(0, true, []), (1, true, []), (2, true, []), (3, true, []), (4, true, []), (5, false, []), (6, true, []), (7, true, []), (8, true, []), (9, true, []), (10, true, [])] [[], [], [0, 1], [0, 1, 2], [], [0, 1, 2, 3, 4], [0, 1, 2, 3, 4, 5], [0, 1, 2, 3, 4, 5, 6], [0, 1, 2, 3, 4, 5, 6], [0, 1, 2, 3, 4, 5, 6, 7], [0, 1, 2, 3, 4, 5, 6, 7, 8, 9]] MX (by kernel_rfl) ?_
        intro w1 hw1 hw2 hw3 hw4; replace hs := hs.redrawn hw1 hw2 hw3 hw4; clear hw1 hw2 hw3 hw4
        obtain ⟨w, rfl⟩ : ∃ w : World, w = w1 := ⟨_, rfl⟩
        refine D_q rfl rfl ?_
        refine s_move rfl rfl ?_
        refine D_qn ?_
        refine D_q rfl rfl ?_
        refine s_move rfl rfl ?_
        refine D_qn ?_
        refine D_q rfl rfl ?_
        (refine s_indexAddr1 El60 rfl rfl rfl ?hx ?_; case hx => (constructor <;> first | omega | (simp; omega)))
        refine D_qn ?_
        refine D_q rfl rfl ?_
        refine s_load Try.isAgg25 rfl rfl (hs.cell (k := 1) rfl (hcl _ _ hp)) ?_
        refine D_qn ?_
        refine D_q rfl rfl ?_
        first
          | refine s_loadW Try.isAgg35 Try.sizeOf35 rfl rfl hs (kk := 0) rfl rfl ?_
          | refine s_loadW Try.isAgg35 Try.sizeOf35 rfl rfl hs (kk := 1) rfl rfl ?_
          | refine s_loadW Try.isAgg35 Try.sizeOf35 rfl rfl hs (kk := 2) rfl rfl ?_
          | refine s_loadW Try.isAgg35 Try.sizeOf35 rfl rfl hs (kk := 3) rfl rfl ?_
          | refine s_loadW Try.isAgg35 Try.sizeOf35 rfl rfl hs (kk := 4) rfl rfl ?_
          | refine s_loadW Try.isAgg35 Try.sizeOf35 rfl rfl hs (kk := 5) rfl rfl ?_
          | refine s_load_6 Try.isAgg35 Try.sizeOf35 rfl rfl (by first | exact hs.cell (k := 0) rfl rfl | exact hs.cell (k := 1) rfl rfl | exact hs.cell (k := 2) rfl rfl | exact hs.cell (k := 3) rfl rfl | exact hs.cell (k := 4) rfl rfl | exact hs.cell (k := 5) rfl rfl) (by first | exact hs.cell (k := 0) rfl rfl | exact hs.cell (k := 1) rfl rfl | exact hs.cell (k := 2) rfl rfl | exact hs.cell (k := 3) rfl rfl | exact hs.cell (k := 4) rfl rfl | exact hs.cell (k := 5) rfl rfl) (by first | exact hs.cell (k := 0) rfl rfl | exact hs.cell (k := 1) rfl rfl | exact hs.cell (k := 2) rfl rfl | exact hs.cell (k := 3) rfl rfl | exact hs.cell (k := 4) rfl rfl | exact hs.cell (k := 5) rfl rfl) (by first | exact hs.cell (k := 0) rfl rfl | exact hs.cell (k := 1) rfl rfl | exact hs.cell (k := 2) rfl rfl | exact hs.cell (k := 3) rfl rfl | exact hs.cell (k := 4) rfl rfl | exact hs.cell (k := 5) rfl rfl) (by first | exact hs.cell (k := 0) rfl rfl | exact hs.cell (k := 1) rfl rfl | exact hs.cell (k := 2) rfl rfl | exact hs.cell (k := 3) rfl rfl | exact hs.cell (k := 4) rfl rfl | exact hs.cell (k := 5) rfl rfl) (by first | exact hs.cell (k := 0) rfl rfl | exact hs.cell (k := 1) rfl rfl | exact hs.cell (k := 2) rfl rfl | exact hs.cell (k := 3) rfl rfl | exact hs.cell (k := 4) rfl rfl | exact hs.cell (k := 5) rfl rfl) ?_
        refine D_qn ?_
        refine D_e rfl ?_
        replace hs : St F w0 w (((b12, Blk 35 (Em.cells ⟨madeE (x : Int), .slice ea (madeC (x : Int)).length ec⟩)) :: (g, Blk 25 (ptrs ps ++ sp)) :: LN) ++ (L ++ (X ++ Le))) := by
          exact hs.perm ((((perm_r hpm Le).append_left LN).cons _).cons _)
        refine s_callL (L1 := L) (X := X ++ Le) Try.call13 rfl rfl hs (fun h => propose_ok p (R id) L (madeE (x : Int)) (.slice ea (madeC (x : Int)).length ec) w hRA (OwnS_slIn hOe fun q hq => hs.own q (by simp [hq])) (fun a m c he hne => by cases he; exact (St.apartX hs) (by rw [ids_append]; exact List.mem_append_right _ (OwnS_in hOe hne))) (madeC_isB _) h) ?_
        clear hs; rintro u w L9 ⟨mv, Lr, LQ, rfl, rfl, hRQ, hMs⟩ - hs
        have hlen := propose_len (R id) (madeE (x : Int))
        have hSy := fun (LN' : Hp) (ms' : List Msg) (l : List En) => S.propose (LQ := LQ) (LN' := LN') (ms' := ms') hidk hp (madeE_ok (x : Int)).2 l
        generalize (R id).propose (madeE (x : Int)) = E at hRQ hMs hlen hSy ⊢
        obtain ⟨r', l, er⟩ := E
        simp only at hRQ hMs hlen hSy ⊢
        refine D_en ?re ?_
        case re =>
          exact Reks_nil
        refine D_q rfl rfl ?_
        refine s_move rfl rfl ?_
        refine D_qn ?_
        refine D_q rfl rfl ?_
        refine s_extract rfl rfl rfl ?_
        refine D_qn ?_
        refine D_q rfl rfl ?_
        refine s_extract rfl rfl rfl ?_
        refine D_qn ?_
        refine D_q rfl rfl ?_
        refine s_assign rfl rfl ?_
        refine D_qn ?_
        refine D_q rfl rfl ?_
        refine s_assign rfl rfl ?_
        refine D_qn ?_
        refine D_nil ?_
        refine n_then ?_
        refine W_seq ?_
        refine W_region ?_
        refine s_move rfl rfl ?_
        refine s_move rfl rfl ?_
        replace hs : St F w0 w ([(b12, Blk 35 (Em.cells ⟨madeE (x : Int), .slice ea (madeC (x : Int)).length ec⟩)), (g, Blk 25 (ptrs ps ++ sp))] ++ ((LN ++ Lr) ++ (LQ ++ (X ++ Le)))) := by simpa [cat] using St.reord [[_], [_], LN, LQ, Lr, X, Le] [0, 1, 2, 4, 3, 5, 6] [] (by simpa [cat] using hs) rfl
        refine s_callL (M := [_, _]) (L1 := LN ++ Lr) (X := LQ ++ (X ++ Le)) Try.call57 rfl rfl hs (fun h => post_ok pn gs ms LN mv l Lr _ (addM M l) w S.net (S.nin.mono fun _ h => .inl h) hMs (fun _ h => .inr h) (by omega) rfl h) ?_
        clear hs; rintro u w L9 ⟨ms', hN', hin'⟩ - hs
        replace hSy := fun l h => hSy L9 ms' l h hRQ hN' hin'
        replace hs : St F w0 w ((b12, Blk 35 (Em.cells ⟨madeE (x : Int), .slice ea (madeC (x : Int)).length ec⟩)) :: (LG ++ (L9 ++ ((Ls.set id LQ).flatten ++ Le)))) := by
          rw [hLG]
          have h9 := hs.perm (((((perm_r (hps LQ) Le).symm.append_left L9)).cons _).cons _)
          simpa using h9
        refine WL_nil ?_
        refine n_then ?_
        refine W_seq ?_
        refine W_region ?_
        refine s_move rfl rfl ?_
        refine s_eql rfl rfl rfl ?_
        refine WL_nil ?_
        refine n_then ?_
        refine W_cond rfl (fun hc97 => ?_) (fun hc97 => ?_)
        · skip
          try simp only [decide_eq_true_eq, decide_eq_false_iff_not, gt_iff_lt, ge_iff_le, beq_iff_eq, beq_eq_false_iff_ne, ne_eq, bne_iff_ne, bne_eq_false_iff_eq, Bool.not_eq_true', Bool.not_eq_false', Bool.not_eq_true, Bool.not_eq_false, Decidable.not_not] at hc97
          refine W_seq ?_
          refine W_region ?_
          first
            | refine s_loadW Try.isAgg35 Try.sizeOf35 rfl rfl hs (kk := 0) rfl rfl ?_
            | refine s_loadW Try.isAgg35 Try.sizeOf35 rfl rfl hs (kk := 1) rfl rfl ?_
            | refine s_loadW Try.isAgg35 Try.sizeOf35 rfl rfl hs (kk := 2) rfl rfl ?_
            | refine s_loadW Try.isAgg35 Try.sizeOf35 rfl rfl hs (kk := 3) rfl rfl ?_
            | refine s_loadW Try.isAgg35 Try.sizeOf35 rfl rfl hs (kk := 4) rfl rfl ?_
            | refine s_loadW Try.isAgg35 Try.sizeOf35 rfl rfl hs (kk := 5) rfl rfl ?_
            | refine s_load_6 Try.isAgg35 Try.sizeOf35 rfl rfl (by first | exact hs.cell (k := 0) rfl rfl | exact hs.cell (k := 1) rfl rfl | exact hs.cell (k := 2) rfl rfl | exact hs.cell (k := 3) rfl rfl | exact hs.cell (k := 4) rfl rfl | exact hs.cell (k := 5) rfl rfl) (by first | exact hs.cell (k := 0) rfl rfl | exact hs.cell (k := 1) rfl rfl | exact hs.cell (k := 2) rfl rfl | exact hs.cell (k := 3) rfl rfl | exact hs.cell (k := 4) rfl rfl | exact hs.cell (k := 5) rfl rfl) (by first | exact hs.cell (k := 0) rfl rfl | exact hs.cell (k := 1) rfl rfl | exact hs.cell (k := 2) rfl rfl | exact hs.cell (k := 3) rfl rfl | exact hs.cell (k := 4) rfl rfl | exact hs.cell (k := 5) rfl rfl) (by first | exact hs.cell (k := 0) rfl rfl | exact hs.cell (k := 1) rfl rfl | exact hs.cell (k := 2) rfl rfl | exact hs.cell (k := 3) rfl rfl | exact hs.cell (k := 4) rfl rfl | exact hs.cell (k := 5) rfl rfl) (by first | exact hs.cell (k := 0) rfl rfl | exact hs.cell (k := 1) rfl rfl | exact hs.cell (k := 2) rfl rfl | exact hs.cell (k := 3) rfl rfl | exact hs.cell (k := 4) rfl rfl | exact hs.cell (k := 5) rfl rfl) (by first | exact hs.cell (k := 0) rfl rfl | exact hs.cell (k := 1) rfl rfl | exact hs.cell (k := 2) rfl rfl | exact hs.cell (k := 3) rfl rfl | exact hs.cell (k := 4) rfl rfl | exact hs.cell (k := 5) rfl rfl) ?_
          refine s_buildSlice rfl rfl (BS43_1 _ _ _ _ _ _) hs ?_; clear hs; intro b99 w hs
          refine s_assign rfl rfl ?_
          refine WL_nil ?_
          refine n_then ?_
          refine W_ret ?_
          refine r_blk ?_
          refine r_then ?_
          first
            | exact end1 rfl rfl ⟨_, hs, hPl⟩
            | (refine end1 rfl rfl ⟨LG ++ (L1 ++ Ls.flatten), ?_, Played.none (R := R) hS1 fun _ _ => Nat.le_refl _⟩
               rw [hLG]; simpa [cat] using St.reord [[_], [_], L1, LM, Ls.flatten] [1, 2, 4] [0, 3] (by simpa [cat] using hs) rfl)
            | (obtain ⟨hS', hgr⟩ := hSy [] (fun h => absurd h (by assumption))
               have hPl := Played.none (LG := LG) (hS'.weak fun _ h => by simpa using h) hgr
               refine end1 rfl rfl ⟨_, ?_, hPl⟩
               exact St.left (L := LG ++ (L9 ++ (Ls.set id LQ).flatten)) (M := Le) (by simpa using hs.tail))
            | (obtain ⟨hS', hgr⟩ := hSy [madeE (x : Int)] (fun _ => rfl)
               refine end1 rfl rfl ⟨LG ++ (L9 ++ ((Ls.set id LQ).flatten ++ ([_] ++ Le))), ?_, _, _, _, _, _, _, [madeE (x : Int)], [⟨madeE (x : Int), .slice ea (madeC (x : Int)).length ec⟩], [_], Le, rfl, ⟨⟨rfl, .inr ⟨_, 1, [], rfl, Nat.le_refl _, by decide, rfl, rfl⟩⟩, fun y hy => by obtain rfl := List.mem_singleton.1 hy; exact hOe.rdS, rfl⟩, by simp, hS', hgr⟩
               simpa [cat, emcells, Em.cells] using St.reord [[_], [_], LG, L9, (Ls.set id LQ).flatten, Le] [2, 3, 4, 0, 5] [1] (by simpa [cat, emcells, Em.cells] using hs) rfl)
        · skip
          try simp only [decide_eq_true_eq, decide_eq_false_iff_not, gt_iff_lt, ge_iff_le, beq_iff_eq, beq_eq_false_iff_ne, ne_eq, bne_iff_ne, bne_eq_false_iff_eq, Bool.not_eq_true', Bool.not_eq_false', Bool.not_eq_true, Bool.not_eq_false, Decidable.not_not] at hc97
          refine W_skip ?_
          refine n_blk ?_
          refine n_then ?_
          refine W_seq ?_
          refine W_region ?_
          refine s_assign rfl rfl ?_
          refine WL_nil ?_
          refine n_then ?_
          refine W_ret ?_
          first
            | exact end1 rfl rfl ⟨_, hs, hPl⟩
            | (refine end1 rfl rfl ⟨LG ++ (L1 ++ Ls.flatten), ?_, Played.none (R := R) hS1 fun _ _ => Nat.le_refl _⟩
               rw [hLG]; simpa [cat] using St.reord [[_], [_], L1, LM, Ls.flatten] [1, 2, 4] [0, 3] (by simpa [cat] using hs) rfl)
            | (obtain ⟨hS', hgr⟩ := hSy [] (fun h => absurd h (by assumption))
               have hPl := Played.none (LG := LG) (hS'.weak fun _ h => by simpa using h) hgr
               refine end1 rfl rfl ⟨_, ?_, hPl⟩
               exact St.left (L := LG ++ (L9 ++ (Ls.set id LQ).flatten)) (M := Le) (by simpa using hs.tail))
            | (obtain ⟨hS', hgr⟩ := hSy [madeE (x : Int)] (fun _ => rfl)
               refine end1 rfl rfl ⟨LG ++ (L9 ++ ((Ls.set id LQ).flatten ++ ([_] ++ Le))), ?_, _, _, _, _, _, _, [madeE (x : Int)], [⟨madeE (x : Int), .slice ea (madeC (x : Int)).length ec⟩], [_], Le, rfl, ⟨⟨rfl, .inr ⟨_, 1, [], rfl, Nat.le_refl _, by decide, rfl, rfl⟩⟩, fun y hy => by obtain rfl := List.mem_singleton.1 hy; exact hOe.rdS, rfl⟩, by simp, hS', hgr⟩
               simpa [cat, emcells, Em.cells] using St.reord [[_], [_], LG, L9, (Ls.set id LQ).flatten, Le] [2, 3, 4, 0, 5] [1] (by simpa [cat, emcells, Em.cells] using hs) rfl)
      · skip
        try simp only [decide_eq_true_eq, decide_eq_false_iff_not, gt_iff_lt, ge_iff_le, beq_iff_eq, beq_eq_false_iff_ne, ne_eq, bne_iff_ne, bne_eq_false_iff_eq, Bool.not_eq_true', Bool.not_eq_false', Bool.not_eq_true, Bool.not_eq_false, Decidable.not_not] at hc78
        refine W_seq ?_
        refine W_region ?_
        refine s_eql rfl rfl rfl ?_
        refine s_assign rfl rfl ?_
        refine WL_nil ?_
        refine n_then ?_
        refine W_cond rfl (fun hc100 => ?_) (fun hc100 => ?_)
        · skip
          try simp only [decide_eq_true_eq, decide_eq_false_iff_not, gt_iff_lt, ge_iff_le, beq_iff_eq, beq_eq_false_iff_ne, ne_eq, bne_iff_ne, bne_eq_false_iff_eq, Bool.not_eq_true', Bool.not_eq_false', Bool.not_eq_true, Bool.not_eq_false, Decidable.not_not] at hc100
          refine W_region ?_
          refine s_move rfl rfl ?_
          refine s_move rfl rfl ?_
          first | (refine s_rem' rfl rfl rfl ?hx ?_; case hx => (refine ⟨?_, ?_⟩ <;> omega)) | (refine s_rem rfl rfl rfl ?hx ?_; case hx => omega)
          refine s_callL (M := [_]) (L1 := LN) (X := Ls.flatten) Try.call58 rfl rfl hs (fun h => copy_any pn gs ms _ LN M w S.net S.nin h) ?_
          clear hs; rintro u w L9 ⟨er, ms', rfl, hN', hin'⟩ - hs
          replace hs : St F w0 w (LG ++ (L9 ++ Ls.flatten)) := by rw [hLG]; exact hs
          have hPl := Played.none (LG := LG) (R := R) (S.calm hN' S.gl hin' fun _ h => h) fun _ _ => Nat.le_refl _
          refine WL_nil ?_
          refine n_blk ?_
          refine n_then ?_
          refine W_seq ?_
          refine W_region ?_
          refine s_assign rfl rfl ?_
          refine WL_nil ?_
          refine n_then ?_
          refine W_ret ?_
          first
            | exact end1 rfl rfl ⟨_, hs, hPl⟩
            | (refine end1 rfl rfl ⟨LG ++ (L1 ++ Ls.flatten), ?_, Played.none (R := R) hS1 fun _ _ => Nat.le_refl _⟩
               rw [hLG]; simpa [cat] using St.reord [[_], [_], L1, LM, Ls.flatten] [1, 2, 4] [0, 3] (by simpa [cat] using hs) rfl)
            | (obtain ⟨hS', hgr⟩ := hSy [] (fun h => absurd h (by assumption))
               have hPl := Played.none (LG := LG) (hS'.weak fun _ h => by simpa using h) hgr
               refine end1 rfl rfl ⟨_, ?_, hPl⟩
               exact St.left (L := LG ++ (L9 ++ (Ls.set id LQ).flatten)) (M := Le) (by simpa using hs.tail))
            | (obtain ⟨hS', hgr⟩ := hSy [madeE (x : Int)] (fun _ => rfl)
               refine end1 rfl rfl ⟨LG ++ (L9 ++ ((Ls.set id LQ).flatten ++ ([_] ++ Le))), ?_, _, _, _, _, _, _, [madeE (x : Int)], [⟨madeE (x : Int), .slice ea (madeC (x : Int)).length ec⟩], [_], Le, rfl, ⟨⟨rfl, .inr ⟨_, 1, [], rfl, Nat.le_refl _, by decide, rfl, rfl⟩⟩, fun y hy => by obtain rfl := List.mem_singleton.1 hy; exact hOe.rdS, rfl⟩, by simp, hS', hgr⟩
               simpa [cat, emcells, Em.cells] using St.reord [[_], [_], LG, L9, (Ls.set id LQ).flatten, Le] [2, 3, 4, 0, 5] [1] (by simpa [cat, emcells, Em.cells] using hs) rfl)
        · skip
          try simp only [decide_eq_true_eq, decide_eq_false_iff_not, gt_iff_lt, ge_iff_le, beq_iff_eq, beq_eq_false_iff_ne, ne_eq, bne_iff_ne, bne_eq_false_iff_eq, Bool.not_eq_true', Bool.not_eq_false', Bool.not_eq_true, Bool.not_eq_false, Decidable.not_not] at hc100
          refine W_seq ?_
          refine W_region ?_
          refine s_eql rfl rfl rfl ?_
          refine s_assign rfl rfl ?_
          refine WL_nil ?_
          refine n_then ?_
          refine W_cond rfl (fun hc106 => ?_) (fun hc106 => ?_)
          · skip
            try simp only [decide_eq_true_eq, decide_eq_false_iff_not, gt_iff_lt, ge_iff_le, beq_iff_eq, beq_eq_false_iff_ne, ne_eq, bne_iff_ne, bne_eq_false_iff_eq, Bool.not_eq_true', Bool.not_eq_false', Bool.not_eq_true, Bool.not_eq_false, Decidable.not_not] at hc106
            refine W_region ?_
            refine s_move rfl rfl ?_
            refine s_move rfl rfl ?_
            first | (refine s_rem' rfl rfl rfl ?hx ?_; case hx => (refine ⟨?_, ?_⟩ <;> omega)) | (refine s_rem rfl rfl rfl ?hx ?_; case hx => omega)
            refine s_callL (M := [_]) (L1 := LN) (X := Ls.flatten) Try.call59 rfl rfl hs (fun h => drop_any pn gs ms _ LN M w S.net S.nin h) ?_
            clear hs; rintro u w L9 ⟨er, ms', rfl, hN', hin'⟩ - hs
            replace hs : St F w0 w (LG ++ (L9 ++ Ls.flatten)) := by rw [hLG]; exact hs
            have hPl := Played.none (LG := LG) (R := R) (S.calm hN' S.gl hin' fun _ h => h) fun _ _ => Nat.le_refl _
            refine WL_nil ?_
            refine n_blk ?_
            refine n_then ?_
            refine W_seq ?_
            refine W_region ?_
            refine s_assign rfl rfl ?_
            refine WL_nil ?_
            refine n_then ?_
            refine W_ret ?_
            first
              | exact end1 rfl rfl ⟨_, hs, hPl⟩
              | (refine end1 rfl rfl ⟨LG ++ (L1 ++ Ls.flatten), ?_, Played.none (R := R) hS1 fun _ _ => Nat.le_refl _⟩
                 rw [hLG]; simpa [cat] using St.reord [[_], [_], L1, LM, Ls.flatten] [1, 2, 4] [0, 3] (by simpa [cat] using hs) rfl)
              | (obtain ⟨hS', hgr⟩ := hSy [] (fun h => absurd h (by assumption))
                 have hPl := Played.none (LG := LG) (hS'.weak fun _ h => by simpa using h) hgr
                 refine end1 rfl rfl ⟨_, ?_, hPl⟩
                 exact St.left (L := LG ++ (L9 ++ (Ls.set id LQ).flatten)) (M := Le) (by simpa using hs.tail))
              | (obtain ⟨hS', hgr⟩ := hSy [madeE (x : Int)] (fun _ => rfl)
                 refine end1 rfl rfl ⟨LG ++ (L9 ++ ((Ls.set id LQ).flatten ++ ([_] ++ Le))), ?_, _, _, _, _, _, _, [madeE (x : Int)], [⟨madeE (x : Int), .slice ea (madeC (x : Int)).length ec⟩], [_], Le, rfl, ⟨⟨rfl, .inr ⟨_, 1, [], rfl, Nat.le_refl _, by decide, rfl, rfl⟩⟩, fun y hy => by obtain rfl := List.mem_singleton.1 hy; exact hOe.rdS, rfl⟩, by simp, hS', hgr⟩
                 simpa [cat, emcells, Em.cells] using St.reord [[_], [_], LG, L9, (Ls.set id LQ).flatten, Le] [2, 3, 4, 0, 5] [1] (by simpa [cat, emcells, Em.cells] using hs) rfl)
          · skip
            try simp only [decide_eq_true_eq, decide_eq_false_iff_not, gt_iff_lt, ge_iff_le, beq_iff_eq, beq_eq_false_iff_ne, ne_eq, bne_iff_ne, bne_eq_false_iff_eq, Bool.not_eq_true', Bool.not_eq_false', Bool.not_eq_true, Bool.not_eq_false, Decidable.not_not] at hc106
            refine W_seq ?_
            refine W_region ?_
            refine s_eql rfl rfl rfl ?_
            refine s_assign rfl rfl ?_
            refine WL_nil ?_
            refine n_then ?_
            refine W_cond rfl (fun hc112 => ?_) (fun hc112 => ?_)
            · skip
              try simp only [decide_eq_true_eq, decide_eq_false_iff_not, gt_iff_lt, ge_iff_le, beq_iff_eq, beq_eq_false_iff_ne, ne_eq, bne_iff_ne, bne_eq_false_iff_eq, Bool.not_eq_true', Bool.not_eq_false', Bool.not_eq_true, Bool.not_eq_false, Decidable.not_not] at hc112
              refine W_seq ?_
              refine W_region ?_
              refine s_move rfl rfl ?_
              refine s_makeSlice El58 rfl rfl rfl ?hx hs ?_
              case hx => (refine ⟨?_, ?_, ?_, ?_⟩ <;> omega)
              clear hs; intro b115 w hs
              refine s_assign rfl rfl ?_
              refine WL_nil ?_
              refine n_then ?_
              refine W_seq ?_
              refine W_seq ?_
              refine W_region ?_
              refine s_assign rfl rfl ?_
              refine WL_nil ?_
              refine n_then ?_
              refine W_block ?_
              refine W_loop (σ := PlG) (fun s => [(0, .pointer (some ⟨pn, 0, none⟩)), (6, .slice none 0 0), (7, .int .i64 (k : Int)), (8, .int .i64 (x : Int)), (15, .slice (some ⟨b115, 0, none⟩) k k), (16, .int .i64 (s.i : Int))])
                (fun s w => St F w0 w ((b115, Blk 3 (i64s s.cs)) :: (g, Blk 25 (ptrs ps ++ sp)) :: (LN ++ Ls.flatten)) ∧ s.cs.length = k ∧ s.i ≤ k) (fun s => k - s.i) ⟨0, List.replicate k 0⟩ ⟨rfl, rfl, rfl, rfl, rfl, rfl, trivial⟩ ⟨by have h9 := hs; rw [made_one] at h9; simpa [i64s] using h9, by simp, Nat.zero_le _⟩ ?_
              clear hs
              rintro ⟨i, cs⟩ w ⟨hs, hcs, hi⟩
              simp only at hs hcs hi ⊢
              refine W_seq ?_
              refine W_seq ?_
              refine W_region ?_
              refine s_move rfl rfl ?_
              refine s_move rfl rfl ?_
              refine s_lss rfl rfl rfl ?_
              refine WL_nil ?_
              refine n_then ?_
              refine W_cond rfl (fun hc118 => ?_) (fun hc118 => ?_)
              · skip
                try simp only [decide_eq_true_eq, decide_eq_false_iff_not, gt_iff_lt, ge_iff_le, beq_iff_eq, beq_eq_false_iff_ne, ne_eq, bne_iff_ne, bne_eq_false_iff_eq, Bool.not_eq_true', Bool.not_eq_false', Bool.not_eq_true, Bool.not_eq_false, Decidable.not_not] at hc118
                refine W_skip ?_
                refine n_then ?_
                refine W_seq ?_
                refine W_block ?_
                refine W_region ?_
                refine s_move rfl rfl ?_
                refine s_move rfl rfl ?_
                refine s_move rfl rfl ?_
                refine s_move rfl rfl ?_
                refine s_convert rfl rfl (CV3_115 _) ?_
                have hu : IntKind.u64.wrap (i : Int) = (i : Int) := by simp [IntKind.wrap, IntKind.bits, IntKind.signed]; omega
                (refine s_shr rfl rfl rfl ?hx ?_; case hx => (first | omega | (rw [hu]; omega)))
                generalize ((x : Int)).fdiv _ = y
                (refine s_rem rfl rfl rfl ?hx ?_; case hx => omega)
                (refine s_indexAddr1 El58 rfl rfl rfl ?hx ?_; case hx => (constructor <;> first | omega | (simp; omega)))
                refine s_store Try.sizeOf3 rfl rfl rfl hs (kk := 0) rfl (by simp; omega) ?_
                clear hs; intro w hs
                simp only [List.set_cons_zero, Nat.zero_add, Int.toNat_natCast] at hs
                refine WL_nil ?_
                refine n_blk ?_
                refine n_then ?_
                refine W_region ?_
                refine s_move rfl rfl ?_
                first | (refine s_add' rfl rfl rfl ?hx ?_; case hx => (constructor <;> first | omega | (simp only; omega))) | refine s_add rfl rfl rfl ?_
                refine s_assign rfl rfl ?_
                refine WL_nil ?_
                refine n_loop ?_
                refine ⟨⟨i + 1, cs.set i _⟩, ⟨rfl, rfl, rfl, rfl, rfl, rfl, trivial⟩, ⟨by rw [← i64s_set]; simpa using hs, by simp [hcs], by simp only; omega⟩, by simp only; omega⟩
              · skip
                try simp only [decide_eq_true_eq, decide_eq_false_iff_not, gt_iff_lt, ge_iff_le, beq_iff_eq, beq_eq_false_iff_ne, ne_eq, bne_iff_ne, bne_eq_false_iff_eq, Bool.not_eq_true', Bool.not_eq_false', Bool.not_eq_true, Bool.not_eq_false, Decidable.not_not] at hc118
                refine W_exit ?_
                refine x_then ?_
                refine x_then ?_
                refine exit_hit ?_
                refine n_then ?_
                refine W_region ?_
                refine s_move rfl rfl ?_
                refine s_move rfl rfl ?_
                refine s_callL (M := [_, _]) (L1 := LN) (X := Ls.flatten) Try.call60 rfl rfl hs (fun h => partition_yes pn gs cs ms _ LN w S.net h (by rw [hcs]; exact hs.sl (k := 0) (ds := i64s cs) rfl (Nat.le_refl _) (by intro j u hj; rw [Nat.zero_add]; exact hj)) (by rw [hcs, S.gl])) ?_
                clear hs; rintro u w L9 ⟨rfl, hN'⟩ - hs
                replace hs : St F w0 w (LG ++ (L9 ++ Ls.flatten)) := by rw [hLG]; exact hs.tail
                have hPl := Played.none (LG := LG) (R := R) (S.calm hN' hcs S.nin fun _ h => h) fun _ _ => Nat.le_refl _
                refine WL_nil ?_
                refine n_blk ?_
                refine n_then ?_
                refine W_seq ?_
                refine W_region ?_
                refine s_assign rfl rfl ?_
                refine WL_nil ?_
                refine n_then ?_
                refine W_ret ?_
                first
                  | exact end1 rfl rfl ⟨_, hs, hPl⟩
                  | (refine end1 rfl rfl ⟨LG ++ (L1 ++ Ls.flatten), ?_, Played.none (R := R) hS1 fun _ _ => Nat.le_refl _⟩
                     rw [hLG]; simpa [cat] using St.reord [[_], [_], L1, LM, Ls.flatten] [1, 2, 4] [0, 3] (by simpa [cat] using hs) rfl)
                  | (obtain ⟨hS', hgr⟩ := hSy [] (fun h => absurd h (by assumption))
                     have hPl := Played.none (LG := LG) (hS'.weak fun _ h => by simpa using h) hgr
                     refine end1 rfl rfl ⟨_, ?_, hPl⟩
                     exact St.left (L := LG ++ (L9 ++ (Ls.set id LQ).flatten)) (M := Le) (by simpa using hs.tail))
                  | (obtain ⟨hS', hgr⟩ := hSy [madeE (x : Int)] (fun _ => rfl)
                     refine end1 rfl rfl ⟨LG ++ (L9 ++ ((Ls.set id LQ).flatten ++ ([_] ++ Le))), ?_, _, _, _, _, _, _, [madeE (x : Int)], [⟨madeE (x : Int), .slice ea (madeC (x : Int)).length ec⟩], [_], Le, rfl, ⟨⟨rfl, .inr ⟨_, 1, [], rfl, Nat.le_refl _, by decide, rfl, rfl⟩⟩, fun y hy => by obtain rfl := List.mem_singleton.1 hy; exact hOe.rdS, rfl⟩, by simp, hS', hgr⟩
                     simpa [cat, emcells, Em.cells] using St.reord [[_], [_], LG, L9, (Ls.set id LQ).flatten, Le] [2, 3, 4, 0, 5] [1] (by simpa [cat, emcells, Em.cells] using hs) rfl)
            · skip
              try simp only [decide_eq_true_eq, decide_eq_false_iff_not, gt_iff_lt, ge_iff_le, beq_iff_eq, beq_eq_false_iff_ne, ne_eq, bne_iff_ne, bne_eq_false_iff_eq, Bool.not_eq_true', Bool.not_eq_false', Bool.not_eq_true, Bool.not_eq_false, Decidable.not_not] at hc112
              refine W_seq ?_
              refine W_region ?_
              refine s_move rfl rfl ?_
              refine s_move rfl rfl ?_
              first | (refine s_rem' rfl rfl rfl ?hx ?_; case hx => (refine ⟨?_, ?_⟩ <;> omega)) | (refine s_rem rfl rfl rfl ?hx ?_; case hx => omega)
              refine s_callL (M := [_]) (L1 := LN) (X := Ls.flatten) Try.call61 rfl rfl hs (fun h => take_any pn k gs ms _ LN M w S.net S.nin S.gl hMk h) ?_
              clear hs; rintro u w L9 ⟨f, t, v, er, ms1, LM, L1, rfl, ⟨va, vn, vc, rfl⟩, rfl, hN1, hin1, hx⟩ - hs
              clear hp hRA hpm hps hRid hRm p L X
              have hS1 := S.calm hN1 S.gl hin1 fun _ h => h
              refine s_move rfl rfl ?_
              refine s_extract rfl rfl rfl ?_
              refine s_extract rfl rfl rfl ?_
              refine s_alloc rfl AL56 hs ?_; clear hs; intro b17 w hs
              first
                | refine s_storeW Try.sizeOf56 rfl rfl rfl rfl hs (kk := 0) rfl rfl ?_
                | refine s_storeW Try.sizeOf56 rfl rfl rfl rfl hs (kk := 1) rfl rfl ?_
                | refine s_storeW Try.sizeOf56 rfl rfl rfl rfl hs (kk := 2) rfl rfl ?_
                | refine s_storeW Try.sizeOf56 rfl rfl rfl rfl hs (kk := 3) rfl rfl ?_
                | refine s_storeW Try.sizeOf56 rfl rfl rfl rfl hs (kk := 4) rfl rfl ?_
                | refine s_storeW Try.sizeOf56 rfl rfl rfl rfl hs (kk := 5) rfl rfl ?_
                | refine s_storeAB Try.sizeOf56 rfl rfl rfl rfl hs (kk := 0) rfl rfl ?_
                | refine s_storeAB Try.sizeOf56 rfl rfl rfl rfl hs (kk := 1) rfl rfl ?_
                | refine s_storeAB Try.sizeOf56 rfl rfl rfl rfl hs (kk := 2) rfl rfl ?_
                | refine s_storeAB Try.sizeOf56 rfl rfl rfl rfl hs (kk := 3) rfl rfl ?_
                | refine s_storeAB Try.sizeOf56 rfl rfl rfl rfl hs (kk := 4) rfl rfl ?_
                | refine s_storeAB Try.sizeOf56 rfl rfl rfl rfl hs (kk := 5) rfl rfl ?_
              clear hs; intro w hs; try simp only [List.set_cons_zero, List.set_cons_succ, splice, List.take_succ_cons, List.take_zero, List.drop_succ_cons, List.drop_zero, List.nil_append, List.cons_append, List.length_cons, List.length_nil, Nat.reduceAdd, List.append_assoc] at hs
              refine s_assign rfl rfl ?_
              refine WL_nil ?_
              refine n_then ?_
              refine W_seq ?_
              refine W_region ?_
              refine s_move rfl rfl ?_
              refine s_eql rfl rfl rfl ?_
              refine s_move rfl rfl ?_
              refine WL_case (s := 38) rfl (fun hg38 => ?_) (fun hg38 => ?_)
              · skip
                try simp only [decide_eq_true_eq, decide_eq_false_iff_not, gt_iff_lt, ge_iff_le, beq_iff_eq, beq_eq_false_iff_ne, ne_eq, bne_iff_ne, bne_eq_false_iff_eq, Bool.not_eq_true', Bool.not_eq_false', Bool.not_eq_true, Bool.not_eq_false, Decidable.not_not] at hg38
                refine WL_take rfl ?_
                refine s_fieldAddr rfl rfl (FA56_1 _ _) ?_
                refine WL_take rfl ?_
                first
                  | refine s_load Try.isAgg3 rfl rfl (hs.cell (k := 0) rfl rfl) ?_
                  | refine s_load Try.isAgg3 rfl rfl (hs.cell (k := 1) rfl rfl) ?_
                  | refine s_load Try.isAgg3 rfl rfl (hs.cell (k := 2) rfl rfl) ?_
                  | refine s_load Try.isAgg3 rfl rfl (hs.cell (k := 3) rfl rfl) ?_
                  | refine s_load Try.isAgg3 rfl rfl (hs.cell (k := 4) rfl rfl) ?_
                  | refine s_load Try.isAgg3 rfl rfl (hs.cell (k := 5) rfl rfl) ?_
                refine WL_take rfl ?_
                refine s_geq rfl rfl rfl ?_
                refine s_pick_t rfl rfl rfl ?_
                refine s_move rfl rfl ?_
                refine WL_case (s := 43) rfl (fun hg43 => ?_) (fun hg43 => ?_)
                · skip
                  try simp only [decide_eq_true_eq, decide_eq_false_iff_not, gt_iff_lt, ge_iff_le, beq_iff_eq, beq_eq_false_iff_ne, ne_eq, bne_iff_ne, bne_eq_false_iff_eq, Bool.not_eq_true', Bool.not_eq_false', Bool.not_eq_true, Bool.not_eq_false, Decidable.not_not] at hg43
                  refine WL_take rfl ?_
                  refine s_fieldAddr rfl rfl (FA56_1 _ _) ?_
                  refine WL_take rfl ?_
                  first
                    | refine s_load Try.isAgg3 rfl rfl (hs.cell (k := 0) rfl rfl) ?_
                    | refine s_load Try.isAgg3 rfl rfl (hs.cell (k := 1) rfl rfl) ?_
                    | refine s_load Try.isAgg3 rfl rfl (hs.cell (k := 2) rfl rfl) ?_
                    | refine s_load Try.isAgg3 rfl rfl (hs.cell (k := 3) rfl rfl) ?_
                    | refine s_load Try.isAgg3 rfl rfl (hs.cell (k := 4) rfl rfl) ?_
                    | refine s_load Try.isAgg3 rfl rfl (hs.cell (k := 5) rfl rfl) ?_
                  refine WL_take rfl ?_
                  refine s_move rfl rfl ?_
                  refine WL_take rfl ?_
                  refine s_lss rfl rfl rfl ?_
                  refine s_pick_t rfl rfl rfl ?_
                  refine WL_nil ?_
                  refine n_then ?_
                  refine W_cond rfl (fun hc48 => ?_) (fun hc48 => ?_)
                  · skip
                    try simp only [decide_eq_true_eq, decide_eq_false_iff_not, gt_iff_lt, ge_iff_le, beq_iff_eq, beq_eq_false_iff_ne, ne_eq, bne_iff_ne, bne_eq_false_iff_eq, Bool.not_eq_true', Bool.not_eq_false', Bool.not_eq_true, Bool.not_eq_false, Decidable.not_not] at hc48
                    obtain ⟨y, hMy, rfl, rfl, hrd⟩ := hx (by assumption)
                    obtain ⟨hyf, hyt⟩ := hMk y hMy
                    have hyok : y.m.ok ∧ y.frm ≠ y.to := by obtain ⟨G, hG, -⟩ := S.inv; exact ⟨(hG.msg y hMy).ok, (hG.msg y hMy).ne⟩
                    obtain ⟨p, L, X, hp, hRA, hpm, hps, hRid, hRm⟩ := hS1.rep hyt
                    refine W_draw [(0, true, []), (1, true, []), (2, true, []), (3, true, []), (4, true, []), (5, true, []), (6, true, []), (7, false, [0]), (8, false, [])] [[], [], [], [2], [1, 2, 3], [1, 2, 3, 4], [], [1, 2, 3, 4, 5, 6], [0, 1, 2, 3, 4, 5, 6, 7]] MX (by kernel_rfl) ?_
                    intro w1 hw1 hw2 hw3 hw4; replace hs := hs.redrawn hw1 hw2 hw3 hw4; clear hw1 hw2 hw3 hw4
                    obtain ⟨w, rfl⟩ : ∃ w : World, w = w1 := ⟨_, rfl⟩
                    refine D_q rfl rfl ?_
                    refine s_move rfl rfl ?_
                    refine D_qn ?_
                    refine D_q rfl rfl ?_
                    refine s_move rfl rfl ?_
                    refine D_qn ?_
                    refine D_q rfl rfl ?_
                    refine s_fieldAddr rfl rfl (FA56_1 _ _) ?_
                    refine D_qn ?_
                    refine D_q rfl rfl ?_
                    first
                      | refine s_load Try.isAgg3 rfl rfl (hs.cell (k := 0) rfl rfl) ?_
                      | refine s_load Try.isAgg3 rfl rfl (hs.cell (k := 1) rfl rfl) ?_
                      | refine s_load Try.isAgg3 rfl rfl (hs.cell (k := 2) rfl rfl) ?_
                      | refine s_load Try.isAgg3 rfl rfl (hs.cell (k := 3) rfl rfl) ?_
                      | refine s_load Try.isAgg3 rfl rfl (hs.cell (k := 4) rfl rfl) ?_
                      | refine s_load Try.isAgg3 rfl rfl (hs.cell (k := 5) rfl rfl) ?_
                    refine D_qn ?_
                    refine D_q rfl rfl ?_
                    (refine s_indexAddr1 El60 rfl rfl rfl ?hx ?_; case hx => (constructor <;> first | omega | (simp; omega)))
                    refine D_qn ?_
                    refine D_q rfl rfl ?_
                    refine s_load Try.isAgg25 rfl rfl (hs.cell (k := 1) rfl (hcl _ _ hp)) ?_
                    refine D_qn ?_
                    refine D_q rfl rfl ?_
                    first
                      | refine s_loadW Try.isAgg56 Try.sizeOf56 rfl rfl hs (kk := 0) rfl rfl ?_
                      | refine s_loadW Try.isAgg56 Try.sizeOf56 rfl rfl hs (kk := 1) rfl rfl ?_
                      | refine s_loadW Try.isAgg56 Try.sizeOf56 rfl rfl hs (kk := 2) rfl rfl ?_
                      | refine s_loadW Try.isAgg56 Try.sizeOf56 rfl rfl hs (kk := 3) rfl rfl ?_
                      | refine s_loadW Try.isAgg56 Try.sizeOf56 rfl rfl hs (kk := 4) rfl rfl ?_
                      | refine s_loadW Try.isAgg56 Try.sizeOf56 rfl rfl hs (kk := 5) rfl rfl ?_
                      | refine s_load_3 Try.isAgg56 Try.sizeOf56 rfl rfl (by first | exact hs.cell (k := 0) rfl rfl | exact hs.cell (k := 1) rfl rfl | exact hs.cell (k := 2) rfl rfl | exact hs.cell (k := 3) rfl rfl | exact hs.cell (k := 4) rfl rfl | exact hs.cell (k := 5) rfl rfl) (by first | exact hs.cell (k := 0) rfl rfl | exact hs.cell (k := 1) rfl rfl | exact hs.cell (k := 2) rfl rfl | exact hs.cell (k := 3) rfl rfl | exact hs.cell (k := 4) rfl rfl | exact hs.cell (k := 5) rfl rfl) (by first | exact hs.cell (k := 0) rfl rfl | exact hs.cell (k := 1) rfl rfl | exact hs.cell (k := 2) rfl rfl | exact hs.cell (k := 3) rfl rfl | exact hs.cell (k := 4) rfl rfl | exact hs.cell (k := 5) rfl rfl) ?_
                    refine D_qn ?_
                    refine D_e rfl ?_
                    replace hs : St F w0 w (((b17, Blk 56 [.int .i64 (y.frm : Int), .int .i64 (y.to : Int), .slice va vn vc]) :: (g, Blk 25 (ptrs ps ++ sp)) :: L1) ++ (L ++ (X ++ LM))) := by
                      have h9 := (show St F w0 w (_ :: _ :: (L1 ++ (Ls.flatten ++ LM))) from by simpa [cat] using St.reord [[_], [_], L1, LM, Ls.flatten] [0, 1, 2, 4, 3] [] (by simpa [cat] using hs) rfl).perm ((((perm_r hpm LM).append_left L1).cons _).cons _)
                      simpa using h9
                    refine s_callL (L1 := L) (X := X ++ LM) Try.call24 rfl rfl hs (fun h => by
                      have h8 := receive_ok p (R y.to) L y.m y.frm (.slice va vn vc) w hRA (hrd.sl w fun q hq => hs.own q (by simp [hq])) (fun a m c he hne => (St.apartX hs) (by rw [ids_append]; exact List.mem_append_right _ (hrd.inL a m c he hne))) hyok.1 (by omega) (by omega) h
                      rw [hRid] at h8; exact h8) ?_
                    clear hs; rintro mv w L9 ⟨Lr, LQ, rfl, hRQ, hMs⟩ - hs
                    have hlen := recv_len (R y.to) y.m y.frm
                    have hSy := fun (LN' : Hp) (ms' : List Msg) => hS1.recv (LN' := LN') (ms' := ms') hMy hp hRQ
                    generalize (R y.to).recv y.m y.frm = E at hRQ hMs hlen hSy ⊢
                    obtain ⟨r', l⟩ := E
                    simp only at hRQ hMs hlen hSy ⊢
                    refine D_en ?re ?_
                    case re =>
                      refine Reks_cons rfl rfl rfl rfl ?_ ?_
                      · skip
                        refine s_move rfl rfl ?_
                        exact Rek_end rfl
                      exact Reks_nil
                    refine D_e rfl ?_
                    replace hs : St F w0 w ([(b17, Blk 56 [.int .i64 (y.frm : Int), .int .i64 (y.to : Int), .slice va vn vc]), (g, Blk 25 (ptrs ps ++ sp))] ++ ((L1 ++ Lr) ++ (LQ ++ (X ++ LM)))) := by simpa [cat] using St.reord [[_], [_], L1, LQ, Lr, X, LM] [0, 1, 2, 4, 3, 5, 6] [] (by simpa [cat] using hs) rfl
                    refine s_callL (M := [_, _]) (L1 := L1 ++ Lr) (X := LQ ++ (X ++ LM)) Try.call57 rfl rfl hs (fun h => post_ok pn gs ms1 L1 mv l Lr _ (addM M l) w hN1 (hin1.mono fun _ h => .inl h) hMs (fun _ h => .inr h) (by omega) rfl h) ?_
                    clear hs; rintro u w L9 ⟨ms', hN', hin'⟩ - hs
                    obtain ⟨hS', hgr⟩ := hSy L9 ms' hN' hin'
                    replace hs : St F w0 w (LG ++ (L9 ++ (Ls.set y.to LQ).flatten)) := by
                      rw [hLG]
                      have h9 := hs.perm (((((perm_r (hps LQ) LM).symm.append_left L9)).cons _).cons _)
                      have h8 := St.tail h9
                      exact St.left (L := (g, Blk 25 (ptrs ps ++ sp)) :: (L9 ++ (Ls.set y.to LQ).flatten)) (M := LM) (by simpa using h8)
                    have hPl := Played.none (LG := LG) hS' hgr
                    refine D_en ?re ?_
                    case re =>
                      exact Reks_nil
                    refine D_nil ?_
                    refine n_blk ?_
                    refine n_then ?_
                    refine W_seq ?_
                    refine W_region ?_
                    refine s_assign rfl rfl ?_
                    refine WL_nil ?_
                    refine n_then ?_
                    refine W_ret ?_
                    first
                      | exact end1 rfl rfl ⟨_, hs, hPl⟩
                      | (refine end1 rfl rfl ⟨LG ++ (L1 ++ Ls.flatten), ?_, Played.none (R := R) hS1 fun _ _ => Nat.le_refl _⟩
                         rw [hLG]; simpa [cat] using St.reord [[_], [_], L1, LM, Ls.flatten] [1, 2, 4] [0, 3] (by simpa [cat] using hs) rfl)
                      | (obtain ⟨hS', hgr⟩ := hSy [] (fun h => absurd h (by assumption))
                         have hPl := Played.none (LG := LG) (hS'.weak fun _ h => by simpa using h) hgr
                         refine end1 rfl rfl ⟨_, ?_, hPl⟩
                         exact St.left (L := LG ++ (L9 ++ (Ls.set id LQ).flatten)) (M := Le) (by simpa using hs.tail))
                      | (obtain ⟨hS', hgr⟩ := hSy [madeE (x : Int)] (fun _ => rfl)
                         refine end1 rfl rfl ⟨LG ++ (L9 ++ ((Ls.set id LQ).flatten ++ ([_] ++ Le))), ?_, _, _, _, _, _, _, [madeE (x : Int)], [⟨madeE (x : Int), .slice ea (madeC (x : Int)).length ec⟩], [_], Le, rfl, ⟨⟨rfl, .inr ⟨_, 1, [], rfl, Nat.le_refl _, by decide, rfl, rfl⟩⟩, fun y hy => by obtain rfl := List.mem_singleton.1 hy; exact hOe.rdS, rfl⟩, by simp, hS', hgr⟩
                         simpa [cat, emcells, Em.cells] using St.reord [[_], [_], LG, L9, (Ls.set id LQ).flatten, Le] [2, 3, 4, 0, 5] [1] (by simpa [cat, emcells, Em.cells] using hs) rfl)
                  · skip
                    try simp only [decide_eq_true_eq, decide_eq_false_iff_not, gt_iff_lt, ge_iff_le, beq_iff_eq, beq_eq_false_iff_ne, ne_eq, bne_iff_ne, bne_eq_false_iff_eq, Bool.not_eq_true', Bool.not_eq_false', Bool.not_eq_true, Bool.not_eq_false, Decidable.not_not] at hc48
                    replace hs : St F w0 w (LG ++ (L1 ++ Ls.flatten)) := by rw [hLG]; simpa [cat] using St.reord [[_], [_], L1, LM, Ls.flatten] [1, 2, 4] [0, 3] (by simpa [cat] using hs) rfl
                    have hPl := Played.none (LG := LG) (R := R) hS1 fun _ _ => Nat.le_refl _
                    refine W_skip ?_
                    refine n_blk ?_
                    refine n_then ?_
                    refine W_seq ?_
                    refine W_region ?_
                    refine s_assign rfl rfl ?_
                    refine WL_nil ?_
                    refine n_then ?_
                    refine W_ret ?_
                    first
                      | exact end1 rfl rfl ⟨_, hs, hPl⟩
                      | (refine end1 rfl rfl ⟨LG ++ (L1 ++ Ls.flatten), ?_, Played.none (R := R) hS1 fun _ _ => Nat.le_refl _⟩
                         rw [hLG]; simpa [cat] using St.reord [[_], [_], L1, LM, Ls.flatten] [1, 2, 4] [0, 3] (by simpa [cat] using hs) rfl)
                      | (obtain ⟨hS', hgr⟩ := hSy [] (fun h => absurd h (by assumption))
                         have hPl := Played.none (LG := LG) (hS'.weak fun _ h => by simpa using h) hgr
                         refine end1 rfl rfl ⟨_, ?_, hPl⟩
                         exact St.left (L := LG ++ (L9 ++ (Ls.set id LQ).flatten)) (M := Le) (by simpa using hs.tail))
                      | (obtain ⟨hS', hgr⟩ := hSy [madeE (x : Int)] (fun _ => rfl)
                         refine end1 rfl rfl ⟨LG ++ (L9 ++ ((Ls.set id LQ).flatten ++ ([_] ++ Le))), ?_, _, _, _, _, _, _, [madeE (x : Int)], [⟨madeE (x : Int), .slice ea (madeC (x : Int)).length ec⟩], [_], Le, rfl, ⟨⟨rfl, .inr ⟨_, 1, [], rfl, Nat.le_refl _, by decide, rfl, rfl⟩⟩, fun y hy => by obtain rfl := List.mem_singleton.1 hy; exact hOe.rdS, rfl⟩, by simp, hS', hgr⟩
                         simpa [cat, emcells, Em.cells] using St.reord [[_], [_], LG, L9, (Ls.set id LQ).flatten, Le] [2, 3, 4, 0, 5] [1] (by simpa [cat, emcells, Em.cells] using hs) rfl)
                · skip
                  try simp only [decide_eq_true_eq, decide_eq_false_iff_not, gt_iff_lt, ge_iff_le, beq_iff_eq, beq_eq_false_iff_ne, ne_eq, bne_iff_ne, bne_eq_false_iff_eq, Bool.not_eq_true', Bool.not_eq_false', Bool.not_eq_true, Bool.not_eq_false, Decidable.not_not] at hg43
                  refine WL_skip rfl rfl rfl ?_
                  refine WL_skip rfl rfl rfl ?_
                  refine WL_skip rfl rfl rfl ?_
                  refine WL_skip rfl rfl rfl ?_
                  refine s_pick_f rfl rfl rfl ?_
                  refine WL_nil ?_
                  refine n_then ?_
                  refine W_cond_f rfl ?_
                  refine W_skip ?_
                  refine n_blk ?_
                  refine n_then ?_
                  refine W_seq ?_
                  refine W_region ?_
                  refine s_assign rfl rfl ?_
                  refine WL_nil ?_
                  refine n_then ?_
                  refine W_ret ?_
                  first
                    | exact end1 rfl rfl ⟨_, hs, hPl⟩
                    | (refine end1 rfl rfl ⟨LG ++ (L1 ++ Ls.flatten), ?_, Played.none (R := R) hS1 fun _ _ => Nat.le_refl _⟩
                       rw [hLG]; simpa [cat] using St.reord [[_], [_], L1, LM, Ls.flatten] [1, 2, 4] [0, 3] (by simpa [cat] using hs) rfl)
                    | (obtain ⟨hS', hgr⟩ := hSy [] (fun h => absurd h (by assumption))
                       have hPl := Played.none (LG := LG) (hS'.weak fun _ h => by simpa using h) hgr
                       refine end1 rfl rfl ⟨_, ?_, hPl⟩
                       exact St.left (L := LG ++ (L9 ++ (Ls.set id LQ).flatten)) (M := Le) (by simpa using hs.tail))
                    | (obtain ⟨hS', hgr⟩ := hSy [madeE (x : Int)] (fun _ => rfl)
                       refine end1 rfl rfl ⟨LG ++ (L9 ++ ((Ls.set id LQ).flatten ++ ([_] ++ Le))), ?_, _, _, _, _, _, _, [madeE (x : Int)], [⟨madeE (x : Int), .slice ea (madeC (x : Int)).length ec⟩], [_], Le, rfl, ⟨⟨rfl, .inr ⟨_, 1, [], rfl, Nat.le_refl _, by decide, rfl, rfl⟩⟩, fun y hy => by obtain rfl := List.mem_singleton.1 hy; exact hOe.rdS, rfl⟩, by simp, hS', hgr⟩
                       simpa [cat, emcells, Em.cells] using St.reord [[_], [_], LG, L9, (Ls.set id LQ).flatten, Le] [2, 3, 4, 0, 5] [1] (by simpa [cat, emcells, Em.cells] using hs) rfl)
              · skip
                try simp only [decide_eq_true_eq, decide_eq_false_iff_not, gt_iff_lt, ge_iff_le, beq_iff_eq, beq_eq_false_iff_ne, ne_eq, bne_iff_ne, bne_eq_false_iff_eq, Bool.not_eq_true', Bool.not_eq_false', Bool.not_eq_true, Bool.not_eq_false, Decidable.not_not] at hg38
                refine WL_skip rfl rfl rfl ?_
                refine WL_skip rfl rfl rfl ?_
                refine WL_skip rfl rfl rfl ?_
                refine s_pick_f rfl rfl rfl ?_
                refine s_move rfl rfl ?_
                refine WL_skip rfl rfl rfl ?_
                refine WL_skip rfl rfl rfl ?_
                refine WL_skip rfl rfl rfl ?_
                refine WL_skip rfl rfl rfl ?_
                refine s_pick_f rfl rfl rfl ?_
                refine WL_nil ?_
                refine n_then ?_
                refine W_cond_f rfl ?_
                refine W_skip ?_
                refine n_blk ?_
                refine n_then ?_
                refine W_seq ?_
                refine W_region ?_
                refine s_assign rfl rfl ?_
                refine WL_nil ?_
                refine n_then ?_
                refine W_ret ?_
                first
                  | exact end1 rfl rfl ⟨_, hs, hPl⟩
                  | (refine end1 rfl rfl ⟨LG ++ (L1 ++ Ls.flatten), ?_, Played.none (R := R) hS1 fun _ _ => Nat.le_refl _⟩
                     rw [hLG]; simpa [cat] using St.reord [[_], [_], L1, LM, Ls.flatten] [1, 2, 4] [0, 3] (by simpa [cat] using hs) rfl)
                  | (obtain ⟨hS', hgr⟩ := hSy [] (fun h => absurd h (by assumption))
                     have hPl := Played.none (LG := LG) (hS'.weak fun _ h => by simpa using h) hgr
                     refine end1 rfl rfl ⟨_, ?_, hPl⟩
                     exact St.left (L := LG ++ (L9 ++ (Ls.set id LQ).flatten)) (M := Le) (by simpa using hs.tail))
                  | (obtain ⟨hS', hgr⟩ := hSy [madeE (x : Int)] (fun _ => rfl)
                     refine end1 rfl rfl ⟨LG ++ (L9 ++ ((Ls.set id LQ).flatten ++ ([_] ++ Le))), ?_, _, _, _, _, _, _, [madeE (x : Int)], [⟨madeE (x : Int), .slice ea (madeC (x : Int)).length ec⟩], [_], Le, rfl, ⟨⟨rfl, .inr ⟨_, 1, [], rfl, Nat.le_refl _, by decide, rfl, rfl⟩⟩, fun y hy => by obtain rfl := List.mem_singleton.1 hy; exact hOe.rdS, rfl⟩, by simp, hS', hgr⟩
                     simpa [cat, emcells, Em.cells] using St.reord [[_], [_], LG, L9, (Ls.set id LQ).flatten, Le] [2, 3, 4, 0, 5] [1] (by simpa [cat, emcells, Em.cells] using hs) rfl)
end Go.Proofs.Ytkobigdfijeajaa
