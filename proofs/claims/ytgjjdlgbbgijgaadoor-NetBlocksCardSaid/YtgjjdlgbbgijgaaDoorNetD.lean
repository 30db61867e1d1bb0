/- Contracts of package net: Take, Partition. -/
import Derived.Test.YtgjjdlgbbgijgaaDoorNetC
set_option linter.unusedVariables false
set_option linter.unusedSimpArgs false
namespace Go.Proofs.YtgjjdlgbbgijgaaDoor
open Go.SL
theorem take_no (p : Nat) (gs : List Int) (ms : List Msg) (i : Int) (L0 : Hp) (w0 : World) (hN : NetAt p gs ms L0) (hs : St (ids L0) w0 w0 L0) (hin : ¬ (0 ≤ i ∧ i < ms.length)) :
    Ret Tryd.prog 13 [.pointer (some ⟨p, 0, none⟩), .int .i64 i].toArray w0 fun r w' => ∃ L', St (ids L0) w0 w' L' ∧ r = .tuple #[.agg #[.int .i64 0, .int .i64 0, .slice none 0 0], .int .i64 9] ∧ NetAt p gs ms L' := by
  obtain ⟨g, tv, Lt, hL, hO⟩ := hN
  obtain ⟨tl, tc, ta, rfl, rfl⟩ := hO.form
  replace hs : St (ids L0) w0 w0 ((p, Blk 59 [.slice (some ⟨g, 0, none⟩) gs.length gs.length, .slice ta ms.length tc]) :: (g, Blk 3 (i64s gs)) :: (Lt ++ mblks ms)) := by rw [hL] at hs ⊢; exact hs
  refine Ret_startL hs fun w hs => ?_
  refine Ret_of Tryd.func13 rfl Tryd.ntmps13 rfl ?_
  refine W_seq ?_
  refine W_region ?_
  refine s_alloc rfl AL43 hs ?_; clear hs; intro b4 w hs
  refine s_assign rfl rfl ?_
  refine WL_nil ?_
  refine n_then ?_
  refine W_seq ?_
  refine W_region ?_
  refine s_move rfl rfl ?_
  refine s_nilCheck rfl rfl ?_
  refine s_fieldAddr rfl rfl (FA59_1 _ _) ?_
  first
    | refine s_load Tryd.isAgg57 rfl rfl (hs.cell (k := 0) rfl rfl) ?_
    | refine s_load Tryd.isAgg57 rfl rfl (hs.cell (k := 1) rfl rfl) ?_
    | refine s_load Tryd.isAgg57 rfl rfl (hs.cell (k := 2) rfl rfl) ?_
    | refine s_load Tryd.isAgg57 rfl rfl (hs.cell (k := 3) rfl rfl) ?_
    | refine s_load Tryd.isAgg57 rfl rfl (hs.cell (k := 4) rfl rfl) ?_
    | refine s_load Tryd.isAgg57 rfl rfl (hs.cell (k := 5) rfl rfl) ?_
    | refine s_load Tryd.isAgg57 rfl rfl (hs.cell (k := 6) rfl rfl) ?_
    | refine s_load Tryd.isAgg57 rfl rfl (hs.cell (k := 7) rfl rfl) ?_
    | refine s_load Tryd.isAgg57 rfl rfl (hs.cell (k := 8) rfl rfl) ?_
    | refine s_load Tryd.isAgg57 rfl rfl (hs.cell (k := 9) rfl rfl) ?_
  refine s_move rfl rfl ?_
  refine s_call Tryd.call28 rfl rfl (element_ok _ ms i w (hO.slM (M := [_, _, _]) hs)) ?_
  rintro r w ⟨hst, h⟩
  obtain ⟨m, h1, hm, rfl⟩ | ⟨_, rfl⟩ := h
  case inl => exact absurd ⟨h1, (by have := (List.getElem?_eq_some_iff.1 hm).1; omega)⟩ hin
  replace hs := hs.fwd1 hst
  clear hst
  refine s_move rfl rfl ?_
  refine s_extract rfl rfl rfl ?_
  refine s_extract rfl rfl rfl ?_
  refine s_alloc rfl AL43 hs ?_; clear hs; intro b6 w hs
  first
    | refine s_storeW Tryd.sizeOf43 rfl rfl rfl rfl hs (kk := 0) rfl rfl ?_
    | refine s_storeW Tryd.sizeOf43 rfl rfl rfl rfl hs (kk := 1) rfl rfl ?_
    | refine s_storeW Tryd.sizeOf43 rfl rfl rfl rfl hs (kk := 2) rfl rfl ?_
    | refine s_storeW Tryd.sizeOf43 rfl rfl rfl rfl hs (kk := 3) rfl rfl ?_
    | refine s_storeW Tryd.sizeOf43 rfl rfl rfl rfl hs (kk := 4) rfl rfl ?_
    | refine s_storeW Tryd.sizeOf43 rfl rfl rfl rfl hs (kk := 5) rfl rfl ?_
    | refine s_storeW Tryd.sizeOf43 rfl rfl rfl rfl hs (kk := 6) rfl rfl ?_
    | refine s_storeW Tryd.sizeOf43 rfl rfl rfl rfl hs (kk := 7) rfl rfl ?_
    | refine s_storeW Tryd.sizeOf43 rfl rfl rfl rfl hs (kk := 8) rfl rfl ?_
    | refine s_storeW Tryd.sizeOf43 rfl rfl rfl rfl hs (kk := 9) rfl rfl ?_
    | refine s_storeAB Tryd.sizeOf43 rfl rfl rfl rfl hs (kk := 0) rfl rfl ?_
    | refine s_storeAB Tryd.sizeOf43 rfl rfl rfl rfl hs (kk := 1) rfl rfl ?_
    | refine s_storeAB Tryd.sizeOf43 rfl rfl rfl rfl hs (kk := 2) rfl rfl ?_
    | refine s_storeAB Tryd.sizeOf43 rfl rfl rfl rfl hs (kk := 3) rfl rfl ?_
    | refine s_storeAB Tryd.sizeOf43 rfl rfl rfl rfl hs (kk := 4) rfl rfl ?_
    | refine s_storeAB Tryd.sizeOf43 rfl rfl rfl rfl hs (kk := 5) rfl rfl ?_
    | refine s_storeAB Tryd.sizeOf43 rfl rfl rfl rfl hs (kk := 6) rfl rfl ?_
    | refine s_storeAB Tryd.sizeOf43 rfl rfl rfl rfl hs (kk := 7) rfl rfl ?_
    | refine s_storeAB Tryd.sizeOf43 rfl rfl rfl rfl hs (kk := 8) rfl rfl ?_
    | refine s_storeAB Tryd.sizeOf43 rfl rfl rfl rfl hs (kk := 9) rfl rfl ?_
  clear hs; intro w hs; try simp only [List.set_cons_zero, List.set_cons_succ, splice, List.take_succ_cons, List.take_zero, List.drop_succ_cons, List.drop_zero, List.nil_append, List.cons_append, List.length_cons, List.length_nil, Nat.reduceAdd, List.append_assoc] at hs
  refine s_assign rfl rfl ?_
  refine WL_nil ?_
  refine n_then ?_
  refine W_seq ?_
  refine W_seq ?_
  refine W_region ?_
  refine s_move rfl rfl ?_
  refine s_not rfl rfl ?_
  refine WL_nil ?_
  refine n_then ?_
  refine W_cond_kt rfl (rfl) ?_
  refine W_seq ?_
  refine W_region ?_
  refine s_build rfl rfl (BD43_ ) ?_
  first
    | refine s_storeW Tryd.sizeOf43 rfl rfl rfl rfl hs (kk := 0) rfl rfl ?_
    | refine s_storeW Tryd.sizeOf43 rfl rfl rfl rfl hs (kk := 1) rfl rfl ?_
    | refine s_storeW Tryd.sizeOf43 rfl rfl rfl rfl hs (kk := 2) rfl rfl ?_
    | refine s_storeW Tryd.sizeOf43 rfl rfl rfl rfl hs (kk := 3) rfl rfl ?_
    | refine s_storeW Tryd.sizeOf43 rfl rfl rfl rfl hs (kk := 4) rfl rfl ?_
    | refine s_storeW Tryd.sizeOf43 rfl rfl rfl rfl hs (kk := 5) rfl rfl ?_
    | refine s_storeW Tryd.sizeOf43 rfl rfl rfl rfl hs (kk := 6) rfl rfl ?_
    | refine s_storeW Tryd.sizeOf43 rfl rfl rfl rfl hs (kk := 7) rfl rfl ?_
    | refine s_storeW Tryd.sizeOf43 rfl rfl rfl rfl hs (kk := 8) rfl rfl ?_
    | refine s_storeW Tryd.sizeOf43 rfl rfl rfl rfl hs (kk := 9) rfl rfl ?_
    | refine s_storeAB Tryd.sizeOf43 rfl rfl rfl rfl hs (kk := 0) rfl rfl ?_
    | refine s_storeAB Tryd.sizeOf43 rfl rfl rfl rfl hs (kk := 1) rfl rfl ?_
    | refine s_storeAB Tryd.sizeOf43 rfl rfl rfl rfl hs (kk := 2) rfl rfl ?_
    | refine s_storeAB Tryd.sizeOf43 rfl rfl rfl rfl hs (kk := 3) rfl rfl ?_
    | refine s_storeAB Tryd.sizeOf43 rfl rfl rfl rfl hs (kk := 4) rfl rfl ?_
    | refine s_storeAB Tryd.sizeOf43 rfl rfl rfl rfl hs (kk := 5) rfl rfl ?_
    | refine s_storeAB Tryd.sizeOf43 rfl rfl rfl rfl hs (kk := 6) rfl rfl ?_
    | refine s_storeAB Tryd.sizeOf43 rfl rfl rfl rfl hs (kk := 7) rfl rfl ?_
    | refine s_storeAB Tryd.sizeOf43 rfl rfl rfl rfl hs (kk := 8) rfl rfl ?_
    | refine s_storeAB Tryd.sizeOf43 rfl rfl rfl rfl hs (kk := 9) rfl rfl ?_
  clear hs; intro w hs; try simp only [List.set_cons_zero, List.set_cons_succ, splice, List.take_succ_cons, List.take_zero, List.drop_succ_cons, List.drop_zero, List.nil_append, List.cons_append, List.length_cons, List.length_nil, Nat.reduceAdd, List.append_assoc] at hs
  refine s_assign rfl rfl ?_
  refine WL_nil ?_
  refine n_then ?_
  refine W_ret ?_
  refine r_then ?_
  refine end2 rfl (resOk_block Tryd.isAgg43 Tryd.sizeOf43 hs rfl (kk := 1) rfl rfl) rfl ?_
  exact ⟨_, hs.tail.tail, rfl, g, _, Lt, rfl, hO⟩
/-- the group of a node -/
def grp (gs : List Int) (i : Int) : Int := gs.getD i.toNat 0
theorem gs_at {gs : List Int} {i : Int} (h : 0 ≤ i ∧ i < gs.length) : (i64s gs)[0 + i.toNat]? = some (.int .i64 (grp gs i)) := by
  have : i.toNat < gs.length := by omega
  simp [grp, this]
theorem take_yes (p : Nat) (gs : List Int) (ms : List Msg) (i : Int) (L0 : Hp) (w0 : World) (hN : NetAt p gs ms L0) (hs : St (ids L0) w0 w0 L0) (hin : 0 ≤ i ∧ i < ms.length) (hml : ms.length ≤ 1000) (m : Msg) (hm : ms[i.toNat]? = some m)
    (hmv : 0 ≤ m.f ∧ m.f < gs.length ∧ 0 ≤ m.t ∧ m.t < gs.length) :
    Ret Tryd.prog 13 [.pointer (some ⟨p, 0, none⟩), .int .i64 i].toArray w0 fun r w' => ∃ L', St (ids L0) w0 w' L' ∧
      ((grp gs m.f ≠ grp gs m.t ∧ r = .tuple #[.agg #[.int .i64 0, .int .i64 0, .slice none 0 0], .int .i64 20] ∧ NetAt p gs ms L') ∨
       (grp gs m.f = grp gs m.t ∧ r = .tuple #[.agg m.cells.toArray, .int .i64 0] ∧ ∃ L1, L' = m.blk :: L1 ∧ NetAt p gs (ms.eraseIdx i.toNat) L1)) := by
  obtain ⟨g, tv, Lt, hL, hO⟩ := hN
  obtain ⟨tl, tc, ta, rfl, rfl⟩ := hO.form
  replace hs : St (ids L0) w0 w0 ((p, Blk 59 [.slice (some ⟨g, 0, none⟩) gs.length gs.length, .slice ta ms.length tc]) :: (g, Blk 3 (i64s gs)) :: (Lt ++ mblks ms)) := by rw [hL] at hs ⊢; exact hs
  refine Ret_startL hs fun w hs => ?_
  refine Ret_of Tryd.func13 rfl Tryd.ntmps13 rfl ?_
  refine W_seq ?_
  refine W_region ?_
  refine s_alloc rfl AL43 hs ?_; clear hs; intro b4 w hs
  refine s_assign rfl rfl ?_
  refine WL_nil ?_
  refine n_then ?_
  refine W_seq ?_
  refine W_region ?_
  refine s_move rfl rfl ?_
  refine s_nilCheck rfl rfl ?_
  refine s_fieldAddr rfl rfl (FA59_1 _ _) ?_
  first
    | refine s_load Tryd.isAgg57 rfl rfl (hs.cell (k := 0) rfl rfl) ?_
    | refine s_load Tryd.isAgg57 rfl rfl (hs.cell (k := 1) rfl rfl) ?_
    | refine s_load Tryd.isAgg57 rfl rfl (hs.cell (k := 2) rfl rfl) ?_
    | refine s_load Tryd.isAgg57 rfl rfl (hs.cell (k := 3) rfl rfl) ?_
    | refine s_load Tryd.isAgg57 rfl rfl (hs.cell (k := 4) rfl rfl) ?_
    | refine s_load Tryd.isAgg57 rfl rfl (hs.cell (k := 5) rfl rfl) ?_
    | refine s_load Tryd.isAgg57 rfl rfl (hs.cell (k := 6) rfl rfl) ?_
    | refine s_load Tryd.isAgg57 rfl rfl (hs.cell (k := 7) rfl rfl) ?_
    | refine s_load Tryd.isAgg57 rfl rfl (hs.cell (k := 8) rfl rfl) ?_
    | refine s_load Tryd.isAgg57 rfl rfl (hs.cell (k := 9) rfl rfl) ?_
    | refine s_load Tryd.isAgg57 rfl rfl (hs.cell (k := 3) (e := 3) (fz := (0, 0)) rfl (gs_at ⟨hmv.1, hmv.2.1⟩)) ?_
    | refine s_load Tryd.isAgg57 rfl rfl (hs.cell (k := 3) (e := 3) (fz := (0, 0)) rfl (gs_at ⟨hmv.2.2.1, hmv.2.2.2⟩)) ?_
  refine s_move rfl rfl ?_
  refine s_call Tryd.call28 rfl rfl (element_ok _ ms i w (hO.slM (M := [_, _, _]) hs)) ?_
  rintro r w ⟨hst, h⟩
  obtain ⟨m', _, hm', rfl⟩ | ⟨h, _⟩ := h
  case inr => exact absurd hin h
  obtain rfl : m' = m := Option.some.inj (hm'.symm.trans hm)
  replace hs := hs.fwd1 hst
  clear hst
  simp only [Msg.cells]
  refine s_move rfl rfl ?_
  refine s_extract rfl rfl rfl ?_
  refine s_extract rfl rfl rfl ?_
  refine s_alloc rfl AL43 hs ?_; clear hs; intro b6 w hs
  first
    | refine s_storeW Tryd.sizeOf43 rfl rfl rfl rfl hs (kk := 0) rfl rfl ?_
    | refine s_storeW Tryd.sizeOf43 rfl rfl rfl rfl hs (kk := 1) rfl rfl ?_
    | refine s_storeW Tryd.sizeOf43 rfl rfl rfl rfl hs (kk := 2) rfl rfl ?_
    | refine s_storeW Tryd.sizeOf43 rfl rfl rfl rfl hs (kk := 3) rfl rfl ?_
    | refine s_storeW Tryd.sizeOf43 rfl rfl rfl rfl hs (kk := 4) rfl rfl ?_
    | refine s_storeW Tryd.sizeOf43 rfl rfl rfl rfl hs (kk := 5) rfl rfl ?_
    | refine s_storeW Tryd.sizeOf43 rfl rfl rfl rfl hs (kk := 6) rfl rfl ?_
    | refine s_storeW Tryd.sizeOf43 rfl rfl rfl rfl hs (kk := 7) rfl rfl ?_
    | refine s_storeW Tryd.sizeOf43 rfl rfl rfl rfl hs (kk := 8) rfl rfl ?_
    | refine s_storeW Tryd.sizeOf43 rfl rfl rfl rfl hs (kk := 9) rfl rfl ?_
    | refine s_storeAB Tryd.sizeOf43 rfl rfl rfl rfl hs (kk := 0) rfl rfl ?_
    | refine s_storeAB Tryd.sizeOf43 rfl rfl rfl rfl hs (kk := 1) rfl rfl ?_
    | refine s_storeAB Tryd.sizeOf43 rfl rfl rfl rfl hs (kk := 2) rfl rfl ?_
    | refine s_storeAB Tryd.sizeOf43 rfl rfl rfl rfl hs (kk := 3) rfl rfl ?_
    | refine s_storeAB Tryd.sizeOf43 rfl rfl rfl rfl hs (kk := 4) rfl rfl ?_
    | refine s_storeAB Tryd.sizeOf43 rfl rfl rfl rfl hs (kk := 5) rfl rfl ?_
    | refine s_storeAB Tryd.sizeOf43 rfl rfl rfl rfl hs (kk := 6) rfl rfl ?_
    | refine s_storeAB Tryd.sizeOf43 rfl rfl rfl rfl hs (kk := 7) rfl rfl ?_
    | refine s_storeAB Tryd.sizeOf43 rfl rfl rfl rfl hs (kk := 8) rfl rfl ?_
    | refine s_storeAB Tryd.sizeOf43 rfl rfl rfl rfl hs (kk := 9) rfl rfl ?_
  clear hs; intro w hs; try simp only [List.set_cons_zero, List.set_cons_succ, splice, List.take_succ_cons, List.take_zero, List.drop_succ_cons, List.drop_zero, List.nil_append, List.cons_append, List.length_cons, List.length_nil, Nat.reduceAdd, List.append_assoc] at hs
  refine s_assign rfl rfl ?_
  refine WL_nil ?_
  refine n_then ?_
  refine W_seq ?_
  refine W_seq ?_
  refine W_region ?_
  refine s_move rfl rfl ?_
  refine s_not rfl rfl ?_
  refine WL_nil ?_
  refine n_then ?_
  refine W_cond_kf rfl (rfl) ?_
  refine W_skip ?_
  refine n_then ?_
  refine W_seq ?_
  refine W_seq ?_
  refine W_draw [(0, true, []), (1, true, []), (2, true, []), (3, true, []), (4, true, []), (5, true, []), (6, true, []), (7, true, []), (8, true, []), (9, true, []), (10, true, []), (11, true, []), (12, true, []), (13, true, []), (14, true, []), (15, true, []), (16, true, [])] [[], [0], [0, 1], [0, 1, 2], [], [4], [0, 1, 2, 3, 4, 5], [0, 1, 2, 3, 4, 5, 6], [], [8], [8, 9], [8, 9, 10], [], [12], [8, 9, 10, 11, 12, 13], [8, 9, 10, 11, 12, 13, 14], [0, 1, 2, 3, 4, 5, 6, 7, 8, 9, 10, 11, 12, 13, 14, 15]] MX (by kernel_rfl) ?_
  intro w1 hw1 hw2 hw3 hw4; replace hs := hs.redrawn hw1 hw2 hw3 hw4; clear hw1 hw2 hw3 hw4
  obtain ⟨w, rfl⟩ : ∃ w : World, w = w1 := ⟨_, rfl⟩
  refine D_q rfl rfl ?_
  refine s_move rfl rfl ?_
  refine D_qn ?_
  refine D_q rfl rfl ?_
  refine s_nilCheck rfl rfl ?_
  refine D_qn ?_
  refine D_q rfl rfl ?_
  refine s_fieldAddr rfl rfl (FA59_0 _ _) ?_
  refine D_qn ?_
  refine D_q rfl rfl ?_
  first
    | refine s_load Tryd.isAgg22 rfl rfl (hs.cell (k := 0) rfl rfl) ?_
    | refine s_load Tryd.isAgg22 rfl rfl (hs.cell (k := 1) rfl rfl) ?_
    | refine s_load Tryd.isAgg22 rfl rfl (hs.cell (k := 2) rfl rfl) ?_
    | refine s_load Tryd.isAgg22 rfl rfl (hs.cell (k := 3) rfl rfl) ?_
    | refine s_load Tryd.isAgg22 rfl rfl (hs.cell (k := 4) rfl rfl) ?_
    | refine s_load Tryd.isAgg22 rfl rfl (hs.cell (k := 5) rfl rfl) ?_
    | refine s_load Tryd.isAgg22 rfl rfl (hs.cell (k := 6) rfl rfl) ?_
    | refine s_load Tryd.isAgg22 rfl rfl (hs.cell (k := 7) rfl rfl) ?_
    | refine s_load Tryd.isAgg22 rfl rfl (hs.cell (k := 8) rfl rfl) ?_
    | refine s_load Tryd.isAgg22 rfl rfl (hs.cell (k := 9) rfl rfl) ?_
    | refine s_load Tryd.isAgg22 rfl rfl (hs.cell (k := 3) (e := 3) (fz := (0, 0)) rfl (gs_at ⟨hmv.1, hmv.2.1⟩)) ?_
    | refine s_load Tryd.isAgg22 rfl rfl (hs.cell (k := 3) (e := 3) (fz := (0, 0)) rfl (gs_at ⟨hmv.2.2.1, hmv.2.2.2⟩)) ?_
  refine D_qn ?_
  refine D_q rfl rfl ?_
  refine s_fieldAddr rfl rfl (FA43_0 _ _) ?_
  refine D_qn ?_
  refine D_q rfl rfl ?_
  first
    | refine s_load Tryd.isAgg3 rfl rfl (hs.cell (k := 0) rfl rfl) ?_
    | refine s_load Tryd.isAgg3 rfl rfl (hs.cell (k := 1) rfl rfl) ?_
    | refine s_load Tryd.isAgg3 rfl rfl (hs.cell (k := 2) rfl rfl) ?_
    | refine s_load Tryd.isAgg3 rfl rfl (hs.cell (k := 3) rfl rfl) ?_
    | refine s_load Tryd.isAgg3 rfl rfl (hs.cell (k := 4) rfl rfl) ?_
    | refine s_load Tryd.isAgg3 rfl rfl (hs.cell (k := 5) rfl rfl) ?_
    | refine s_load Tryd.isAgg3 rfl rfl (hs.cell (k := 6) rfl rfl) ?_
    | refine s_load Tryd.isAgg3 rfl rfl (hs.cell (k := 7) rfl rfl) ?_
    | refine s_load Tryd.isAgg3 rfl rfl (hs.cell (k := 8) rfl rfl) ?_
    | refine s_load Tryd.isAgg3 rfl rfl (hs.cell (k := 9) rfl rfl) ?_
    | refine s_load Tryd.isAgg3 rfl rfl (hs.cell (k := 3) (e := 3) (fz := (0, 0)) rfl (gs_at ⟨hmv.1, hmv.2.1⟩)) ?_
    | refine s_load Tryd.isAgg3 rfl rfl (hs.cell (k := 3) (e := 3) (fz := (0, 0)) rfl (gs_at ⟨hmv.2.2.1, hmv.2.2.2⟩)) ?_
  refine D_qn ?_
  refine D_q rfl rfl ?_
  (refine s_indexAddr1 El22 rfl rfl rfl ?hx ?_; case hx => (constructor <;> first | omega | (simp; omega)))
  refine D_qn ?_
  refine D_q rfl rfl ?_
  first
    | refine s_load Tryd.isAgg3 rfl rfl (hs.cell (k := 0) rfl rfl) ?_
    | refine s_load Tryd.isAgg3 rfl rfl (hs.cell (k := 1) rfl rfl) ?_
    | refine s_load Tryd.isAgg3 rfl rfl (hs.cell (k := 2) rfl rfl) ?_
    | refine s_load Tryd.isAgg3 rfl rfl (hs.cell (k := 3) rfl rfl) ?_
    | refine s_load Tryd.isAgg3 rfl rfl (hs.cell (k := 4) rfl rfl) ?_
    | refine s_load Tryd.isAgg3 rfl rfl (hs.cell (k := 5) rfl rfl) ?_
    | refine s_load Tryd.isAgg3 rfl rfl (hs.cell (k := 6) rfl rfl) ?_
    | refine s_load Tryd.isAgg3 rfl rfl (hs.cell (k := 7) rfl rfl) ?_
    | refine s_load Tryd.isAgg3 rfl rfl (hs.cell (k := 8) rfl rfl) ?_
    | refine s_load Tryd.isAgg3 rfl rfl (hs.cell (k := 9) rfl rfl) ?_
    | refine s_load Tryd.isAgg3 rfl rfl (hs.cell (k := 3) (e := 3) (fz := (0, 0)) rfl (gs_at ⟨hmv.1, hmv.2.1⟩)) ?_
    | refine s_load Tryd.isAgg3 rfl rfl (hs.cell (k := 3) (e := 3) (fz := (0, 0)) rfl (gs_at ⟨hmv.2.2.1, hmv.2.2.2⟩)) ?_
  refine D_qn ?_
  refine D_q rfl rfl ?_
  refine s_move rfl rfl ?_
  refine D_qn ?_
  refine D_q rfl rfl ?_
  refine s_nilCheck rfl rfl ?_
  refine D_qn ?_
  refine D_q rfl rfl ?_
  refine s_fieldAddr rfl rfl (FA59_0 _ _) ?_
  refine D_qn ?_
  refine D_q rfl rfl ?_
  first
    | refine s_load Tryd.isAgg22 rfl rfl (hs.cell (k := 0) rfl rfl) ?_
    | refine s_load Tryd.isAgg22 rfl rfl (hs.cell (k := 1) rfl rfl) ?_
    | refine s_load Tryd.isAgg22 rfl rfl (hs.cell (k := 2) rfl rfl) ?_
    | refine s_load Tryd.isAgg22 rfl rfl (hs.cell (k := 3) rfl rfl) ?_
    | refine s_load Tryd.isAgg22 rfl rfl (hs.cell (k := 4) rfl rfl) ?_
    | refine s_load Tryd.isAgg22 rfl rfl (hs.cell (k := 5) rfl rfl) ?_
    | refine s_load Tryd.isAgg22 rfl rfl (hs.cell (k := 6) rfl rfl) ?_
    | refine s_load Tryd.isAgg22 rfl rfl (hs.cell (k := 7) rfl rfl) ?_
    | refine s_load Tryd.isAgg22 rfl rfl (hs.cell (k := 8) rfl rfl) ?_
    | refine s_load Tryd.isAgg22 rfl rfl (hs.cell (k := 9) rfl rfl) ?_
    | refine s_load Tryd.isAgg22 rfl rfl (hs.cell (k := 3) (e := 3) (fz := (0, 0)) rfl (gs_at ⟨hmv.1, hmv.2.1⟩)) ?_
    | refine s_load Tryd.isAgg22 rfl rfl (hs.cell (k := 3) (e := 3) (fz := (0, 0)) rfl (gs_at ⟨hmv.2.2.1, hmv.2.2.2⟩)) ?_
  refine D_qn ?_
  refine D_q rfl rfl ?_
  refine s_fieldAddr rfl rfl (FA43_1 _ _) ?_
  refine D_qn ?_
  refine D_q rfl rfl ?_
  first
    | refine s_load Tryd.isAgg3 rfl rfl (hs.cell (k := 0) rfl rfl) ?_
    | refine s_load Tryd.isAgg3 rfl rfl (hs.cell (k := 1) rfl rfl) ?_
    | refine s_load Tryd.isAgg3 rfl rfl (hs.cell (k := 2) rfl rfl) ?_
    | refine s_load Tryd.isAgg3 rfl rfl (hs.cell (k := 3) rfl rfl) ?_
    | refine s_load Tryd.isAgg3 rfl rfl (hs.cell (k := 4) rfl rfl) ?_
    | refine s_load Tryd.isAgg3 rfl rfl (hs.cell (k := 5) rfl rfl) ?_
    | refine s_load Tryd.isAgg3 rfl rfl (hs.cell (k := 6) rfl rfl) ?_
    | refine s_load Tryd.isAgg3 rfl rfl (hs.cell (k := 7) rfl rfl) ?_
    | refine s_load Tryd.isAgg3 rfl rfl (hs.cell (k := 8) rfl rfl) ?_
    | refine s_load Tryd.isAgg3 rfl rfl (hs.cell (k := 9) rfl rfl) ?_
    | refine s_load Tryd.isAgg3 rfl rfl (hs.cell (k := 3) (e := 3) (fz := (0, 0)) rfl (gs_at ⟨hmv.1, hmv.2.1⟩)) ?_
    | refine s_load Tryd.isAgg3 rfl rfl (hs.cell (k := 3) (e := 3) (fz := (0, 0)) rfl (gs_at ⟨hmv.2.2.1, hmv.2.2.2⟩)) ?_
  refine D_qn ?_
  refine D_q rfl rfl ?_
  (refine s_indexAddr1 El22 rfl rfl rfl ?hx ?_; case hx => (constructor <;> first | omega | (simp; omega)))
  refine D_qn ?_
  refine D_q rfl rfl ?_
  first
    | refine s_load Tryd.isAgg3 rfl rfl (hs.cell (k := 0) rfl rfl) ?_
    | refine s_load Tryd.isAgg3 rfl rfl (hs.cell (k := 1) rfl rfl) ?_
    | refine s_load Tryd.isAgg3 rfl rfl (hs.cell (k := 2) rfl rfl) ?_
    | refine s_load Tryd.isAgg3 rfl rfl (hs.cell (k := 3) rfl rfl) ?_
    | refine s_load Tryd.isAgg3 rfl rfl (hs.cell (k := 4) rfl rfl) ?_
    | refine s_load Tryd.isAgg3 rfl rfl (hs.cell (k := 5) rfl rfl) ?_
    | refine s_load Tryd.isAgg3 rfl rfl (hs.cell (k := 6) rfl rfl) ?_
    | refine s_load Tryd.isAgg3 rfl rfl (hs.cell (k := 7) rfl rfl) ?_
    | refine s_load Tryd.isAgg3 rfl rfl (hs.cell (k := 8) rfl rfl) ?_
    | refine s_load Tryd.isAgg3 rfl rfl (hs.cell (k := 9) rfl rfl) ?_
    | refine s_load Tryd.isAgg3 rfl rfl (hs.cell (k := 3) (e := 3) (fz := (0, 0)) rfl (gs_at ⟨hmv.1, hmv.2.1⟩)) ?_
    | refine s_load Tryd.isAgg3 rfl rfl (hs.cell (k := 3) (e := 3) (fz := (0, 0)) rfl (gs_at ⟨hmv.2.2.1, hmv.2.2.2⟩)) ?_
  refine D_qn ?_
  refine D_q rfl rfl ?_
  refine s_neq rfl rfl rfl ?_
  refine D_qn ?_
  refine D_nil ?_
  refine n_then ?_
  refine W_cond rfl (fun hc36 => ?_) (fun hc36 => ?_)
  · skip
    simp only [decide_eq_true_eq, decide_eq_false_iff_not, bne_iff_ne, bne_eq_false_iff_eq, ne_eq] at hc36
    refine W_seq ?_
    refine W_region ?_
    refine s_build rfl rfl (BD43_ ) ?_
    first
      | refine s_storeW Tryd.sizeOf43 rfl rfl rfl rfl hs (kk := 0) rfl rfl ?_
      | refine s_storeW Tryd.sizeOf43 rfl rfl rfl rfl hs (kk := 1) rfl rfl ?_
      | refine s_storeW Tryd.sizeOf43 rfl rfl rfl rfl hs (kk := 2) rfl rfl ?_
      | refine s_storeW Tryd.sizeOf43 rfl rfl rfl rfl hs (kk := 3) rfl rfl ?_
      | refine s_storeW Tryd.sizeOf43 rfl rfl rfl rfl hs (kk := 4) rfl rfl ?_
      | refine s_storeW Tryd.sizeOf43 rfl rfl rfl rfl hs (kk := 5) rfl rfl ?_
      | refine s_storeW Tryd.sizeOf43 rfl rfl rfl rfl hs (kk := 6) rfl rfl ?_
      | refine s_storeW Tryd.sizeOf43 rfl rfl rfl rfl hs (kk := 7) rfl rfl ?_
      | refine s_storeW Tryd.sizeOf43 rfl rfl rfl rfl hs (kk := 8) rfl rfl ?_
      | refine s_storeW Tryd.sizeOf43 rfl rfl rfl rfl hs (kk := 9) rfl rfl ?_
      | refine s_storeAB Tryd.sizeOf43 rfl rfl rfl rfl hs (kk := 0) rfl rfl ?_
      | refine s_storeAB Tryd.sizeOf43 rfl rfl rfl rfl hs (kk := 1) rfl rfl ?_
      | refine s_storeAB Tryd.sizeOf43 rfl rfl rfl rfl hs (kk := 2) rfl rfl ?_
      | refine s_storeAB Tryd.sizeOf43 rfl rfl rfl rfl hs (kk := 3) rfl rfl ?_
      | refine s_storeAB Tryd.sizeOf43 rfl rfl rfl rfl hs (kk := 4) rfl rfl ?_
      | refine s_storeAB Tryd.sizeOf43 rfl rfl rfl rfl hs (kk := 5) rfl rfl ?_
      | refine s_storeAB Tryd.sizeOf43 rfl rfl rfl rfl hs (kk := 6) rfl rfl ?_
      | refine s_storeAB Tryd.sizeOf43 rfl rfl rfl rfl hs (kk := 7) rfl rfl ?_
      | refine s_storeAB Tryd.sizeOf43 rfl rfl rfl rfl hs (kk := 8) rfl rfl ?_
      | refine s_storeAB Tryd.sizeOf43 rfl rfl rfl rfl hs (kk := 9) rfl rfl ?_
    clear hs; intro w hs; try simp only [List.set_cons_zero, List.set_cons_succ, splice, List.take_succ_cons, List.take_zero, List.drop_succ_cons, List.drop_zero, List.nil_append, List.cons_append, List.length_cons, List.length_nil, Nat.reduceAdd, List.append_assoc] at hs
    refine s_assign rfl rfl ?_
    refine WL_nil ?_
    refine n_then ?_
    refine W_ret ?_
    refine r_then ?_
    refine end2 rfl (resOk_block Tryd.isAgg43 Tryd.sizeOf43 hs rfl (kk := 1) rfl rfl) rfl ?_
    first
      | exact ⟨_, hs.tail.tail, Or.inl ⟨by assumption, rfl, g, _, Lt, rfl, hO⟩⟩
      | (have hl : (ms.eraseIdx i.toNat).length = ms.length - 1 := by rw [List.length_eraseIdx, if_pos (by omega)]
         rw [mblks_split hm] at hs
         refine ⟨_, St.reord [[_], [_], [_], [_], Lt', mblks (ms.take i.toNat), [m'.blk], mblks (ms.drop (i.toNat + 1))] [6, 2, 3, 4, 5, 7] [0, 1] hs rfl, Or.inr ⟨by assumption, rfl, _, rfl, g, .slice ta' (ms.length - 1) tc', Lt', ?_, ?_⟩⟩
         · rw [mblks_erase]; rfl
         · rw [mcells_erase, hl]; exact hO')
  · skip
    simp only [decide_eq_true_eq, decide_eq_false_iff_not, bne_iff_ne, bne_eq_false_iff_eq, ne_eq] at hc36
    refine W_skip ?_
    refine n_then ?_
    refine W_seq ?_
    refine W_region ?_
    refine s_move rfl rfl ?_
    refine s_move rfl rfl ?_
    refine s_nilCheck rfl rfl ?_
    refine s_fieldAddr rfl rfl (FA59_1 _ _) ?_
    first
      | refine s_load Tryd.isAgg57 rfl rfl (hs.cell (k := 0) rfl rfl) ?_
      | refine s_load Tryd.isAgg57 rfl rfl (hs.cell (k := 1) rfl rfl) ?_
      | refine s_load Tryd.isAgg57 rfl rfl (hs.cell (k := 2) rfl rfl) ?_
      | refine s_load Tryd.isAgg57 rfl rfl (hs.cell (k := 3) rfl rfl) ?_
      | refine s_load Tryd.isAgg57 rfl rfl (hs.cell (k := 4) rfl rfl) ?_
      | refine s_load Tryd.isAgg57 rfl rfl (hs.cell (k := 5) rfl rfl) ?_
      | refine s_load Tryd.isAgg57 rfl rfl (hs.cell (k := 6) rfl rfl) ?_
      | refine s_load Tryd.isAgg57 rfl rfl (hs.cell (k := 7) rfl rfl) ?_
      | refine s_load Tryd.isAgg57 rfl rfl (hs.cell (k := 8) rfl rfl) ?_
      | refine s_load Tryd.isAgg57 rfl rfl (hs.cell (k := 9) rfl rfl) ?_
      | refine s_load Tryd.isAgg57 rfl rfl (hs.cell (k := 3) (e := 3) (fz := (0, 0)) rfl (gs_at ⟨hmv.1, hmv.2.1⟩)) ?_
      | refine s_load Tryd.isAgg57 rfl rfl (hs.cell (k := 3) (e := 3) (fz := (0, 0)) rfl (gs_at ⟨hmv.2.2.1, hmv.2.2.2⟩)) ?_
    refine s_move rfl rfl ?_
    refine s_move rfl rfl ?_
    first | (refine s_add' rfl rfl rfl ?hx ?_; case hx => (constructor <;> first | omega | (simp only; omega))) | refine s_add rfl rfl rfl ?_
    refine s_callL (M := [_, _, _, _]) (L1 := Lt) Tryd.call29 rfl rfl hs (fun h => delete_ok _ _ _ Lt i w hO h (mcells_one ms) hin (by omega)) ?_
    clear hs; intro v w Lt' hO' _ hs
    simp only [List.cons_append, List.nil_append] at hs
    obtain ⟨tl', tc', ta', rfl, rfl⟩ := hO'.form
    refine s_nilCheck rfl rfl ?_
    refine s_fieldAddr rfl rfl (FA59_1 _ _) ?_
    first
      | refine s_storeB Tryd.sizeOf57 rfl rfl rfl hs (kk := 0) rfl rfl ?_
      | refine s_storeB Tryd.sizeOf57 rfl rfl rfl hs (kk := 1) rfl rfl ?_
      | refine s_storeB Tryd.sizeOf57 rfl rfl rfl hs (kk := 2) rfl rfl ?_
      | refine s_storeB Tryd.sizeOf57 rfl rfl rfl hs (kk := 3) rfl rfl ?_
      | refine s_storeB Tryd.sizeOf57 rfl rfl rfl hs (kk := 4) rfl rfl ?_
      | refine s_storeB Tryd.sizeOf57 rfl rfl rfl hs (kk := 5) rfl rfl ?_
      | refine s_storeB Tryd.sizeOf57 rfl rfl rfl hs (kk := 6) rfl rfl ?_
      | refine s_storeB Tryd.sizeOf57 rfl rfl rfl hs (kk := 7) rfl rfl ?_
      | refine s_storeB Tryd.sizeOf57 rfl rfl rfl hs (kk := 8) rfl rfl ?_
      | refine s_storeB Tryd.sizeOf57 rfl rfl rfl hs (kk := 9) rfl rfl ?_
    clear hs; intro w hs; try simp only [List.set_cons_zero, List.set_cons_succ, splice, List.take_succ_cons, List.take_zero, List.drop_succ_cons, List.drop_zero, List.nil_append, List.cons_append, List.length_cons, List.length_nil, Nat.reduceAdd, List.append_assoc] at hs
    refine WL_nil ?_
    refine n_then ?_
    refine W_seq ?_
    refine W_region ?_
    first
      | refine s_loadW Tryd.isAgg43 Tryd.sizeOf43 rfl rfl hs (kk := 0) rfl rfl ?_
      | refine s_loadW Tryd.isAgg43 Tryd.sizeOf43 rfl rfl hs (kk := 1) rfl rfl ?_
      | refine s_loadW Tryd.isAgg43 Tryd.sizeOf43 rfl rfl hs (kk := 2) rfl rfl ?_
      | refine s_loadW Tryd.isAgg43 Tryd.sizeOf43 rfl rfl hs (kk := 3) rfl rfl ?_
      | refine s_loadW Tryd.isAgg43 Tryd.sizeOf43 rfl rfl hs (kk := 4) rfl rfl ?_
      | refine s_loadW Tryd.isAgg43 Tryd.sizeOf43 rfl rfl hs (kk := 5) rfl rfl ?_
      | refine s_loadW Tryd.isAgg43 Tryd.sizeOf43 rfl rfl hs (kk := 6) rfl rfl ?_
      | refine s_loadW Tryd.isAgg43 Tryd.sizeOf43 rfl rfl hs (kk := 7) rfl rfl ?_
      | refine s_loadW Tryd.isAgg43 Tryd.sizeOf43 rfl rfl hs (kk := 8) rfl rfl ?_
      | refine s_loadW Tryd.isAgg43 Tryd.sizeOf43 rfl rfl hs (kk := 9) rfl rfl ?_
      | refine s_load_3 Tryd.isAgg43 Tryd.sizeOf43 rfl rfl (by first | exact hs.cell (k := 0) rfl rfl | exact hs.cell (k := 1) rfl rfl | exact hs.cell (k := 2) rfl rfl | exact hs.cell (k := 3) rfl rfl | exact hs.cell (k := 4) rfl rfl | exact hs.cell (k := 5) rfl rfl | exact hs.cell (k := 6) rfl rfl | exact hs.cell (k := 7) rfl rfl | exact hs.cell (k := 8) rfl rfl | exact hs.cell (k := 9) rfl rfl) (by first | exact hs.cell (k := 0) rfl rfl | exact hs.cell (k := 1) rfl rfl | exact hs.cell (k := 2) rfl rfl | exact hs.cell (k := 3) rfl rfl | exact hs.cell (k := 4) rfl rfl | exact hs.cell (k := 5) rfl rfl | exact hs.cell (k := 6) rfl rfl | exact hs.cell (k := 7) rfl rfl | exact hs.cell (k := 8) rfl rfl | exact hs.cell (k := 9) rfl rfl) (by first | exact hs.cell (k := 0) rfl rfl | exact hs.cell (k := 1) rfl rfl | exact hs.cell (k := 2) rfl rfl | exact hs.cell (k := 3) rfl rfl | exact hs.cell (k := 4) rfl rfl | exact hs.cell (k := 5) rfl rfl | exact hs.cell (k := 6) rfl rfl | exact hs.cell (k := 7) rfl rfl | exact hs.cell (k := 8) rfl rfl | exact hs.cell (k := 9) rfl rfl) ?_
    first
      | refine s_storeW Tryd.sizeOf43 rfl rfl rfl rfl hs (kk := 0) rfl rfl ?_
      | refine s_storeW Tryd.sizeOf43 rfl rfl rfl rfl hs (kk := 1) rfl rfl ?_
      | refine s_storeW Tryd.sizeOf43 rfl rfl rfl rfl hs (kk := 2) rfl rfl ?_
      | refine s_storeW Tryd.sizeOf43 rfl rfl rfl rfl hs (kk := 3) rfl rfl ?_
      | refine s_storeW Tryd.sizeOf43 rfl rfl rfl rfl hs (kk := 4) rfl rfl ?_
      | refine s_storeW Tryd.sizeOf43 rfl rfl rfl rfl hs (kk := 5) rfl rfl ?_
      | refine s_storeW Tryd.sizeOf43 rfl rfl rfl rfl hs (kk := 6) rfl rfl ?_
      | refine s_storeW Tryd.sizeOf43 rfl rfl rfl rfl hs (kk := 7) rfl rfl ?_
      | refine s_storeW Tryd.sizeOf43 rfl rfl rfl rfl hs (kk := 8) rfl rfl ?_
      | refine s_storeW Tryd.sizeOf43 rfl rfl rfl rfl hs (kk := 9) rfl rfl ?_
      | refine s_storeAB Tryd.sizeOf43 rfl rfl rfl rfl hs (kk := 0) rfl rfl ?_
      | refine s_storeAB Tryd.sizeOf43 rfl rfl rfl rfl hs (kk := 1) rfl rfl ?_
      | refine s_storeAB Tryd.sizeOf43 rfl rfl rfl rfl hs (kk := 2) rfl rfl ?_
      | refine s_storeAB Tryd.sizeOf43 rfl rfl rfl rfl hs (kk := 3) rfl rfl ?_
      | refine s_storeAB Tryd.sizeOf43 rfl rfl rfl rfl hs (kk := 4) rfl rfl ?_
      | refine s_storeAB Tryd.sizeOf43 rfl rfl rfl rfl hs (kk := 5) rfl rfl ?_
      | refine s_storeAB Tryd.sizeOf43 rfl rfl rfl rfl hs (kk := 6) rfl rfl ?_
      | refine s_storeAB Tryd.sizeOf43 rfl rfl rfl rfl hs (kk := 7) rfl rfl ?_
      | refine s_storeAB Tryd.sizeOf43 rfl rfl rfl rfl hs (kk := 8) rfl rfl ?_
      | refine s_storeAB Tryd.sizeOf43 rfl rfl rfl rfl hs (kk := 9) rfl rfl ?_
    clear hs; intro w hs; try simp only [List.set_cons_zero, List.set_cons_succ, splice, List.take_succ_cons, List.take_zero, List.drop_succ_cons, List.drop_zero, List.nil_append, List.cons_append, List.length_cons, List.length_nil, Nat.reduceAdd, List.append_assoc] at hs
    refine s_assign rfl rfl ?_
    refine WL_nil ?_
    refine n_then ?_
    refine W_ret ?_
    refine end2 rfl (resOk_block Tryd.isAgg43 Tryd.sizeOf43 hs rfl (kk := 1) rfl rfl) rfl ?_
    first
      | exact ⟨_, hs.tail.tail, Or.inl ⟨by assumption, rfl, g, _, Lt, rfl, hO⟩⟩
      | (have hl : (ms.eraseIdx i.toNat).length = ms.length - 1 := by rw [List.length_eraseIdx, if_pos (by omega)]
         rw [mblks_split hm] at hs
         refine ⟨_, St.reord [[_], [_], [_], [_], Lt', mblks (ms.take i.toNat), [m'.blk], mblks (ms.drop (i.toNat + 1))] [6, 2, 3, 4, 5, 7] [0, 1] hs rfl, Or.inr ⟨by assumption, rfl, _, rfl, g, .slice ta' (ms.length - 1) tc', Lt', ?_, ?_⟩⟩
         · rw [mblks_erase]; rfl
         · rw [mcells_erase, hl]; exact hO')
theorem partition_no (p : Nat) (gs hs' : List Int) (ms : List Msg) (v : Value) (L0 : Hp) (w0 : World) (hN : NetAt p gs ms L0) (hs : St (ids L0) w0 w0 L0) (hv : Sl w0 v hs'.length (i64s hs')) (hne : hs'.length ≠ gs.length) :
    Ret Tryd.prog 36 [.pointer (some ⟨p, 0, none⟩), v].toArray w0 fun r w' => w' = w0 ∧ r = .int .i64 1 := by
  obtain ⟨a, c, rfl, hc⟩ := hv.len_le
  obtain ⟨g, tv, Lt, hL, hO⟩ := hN
  obtain ⟨tl, tc, ta, rfl, rfl⟩ := hO.form
  replace hs : St (ids L0) w0 w0 ((p, Blk 59 [.slice (some ⟨g, 0, none⟩) gs.length gs.length, .slice ta ms.length tc]) :: (g, Blk 3 (i64s gs)) :: (Lt ++ mblks ms)) := by rw [hL] at hs ⊢; exact hs
  refine Ret_of Tryd.func36 rfl Tryd.ntmps36 rfl ?_
  refine W_seq ?_
  refine W_region ?_
  refine s_assign rfl rfl ?_
  refine WL_nil ?_
  refine n_then ?_
  refine W_seq ?_
  refine W_seq ?_
  refine W_region ?_
  refine s_move rfl rfl ?_
  refine s_len rfl rfl (LN22 _ _ _ _) ?_
  refine s_move rfl rfl ?_
  refine s_nilCheck rfl rfl ?_
  refine s_fieldAddr rfl rfl (FA59_0 _ _) ?_
  first
    | refine s_load Tryd.isAgg22 rfl rfl (hs.cell (k := 0) rfl rfl) ?_
    | refine s_load Tryd.isAgg22 rfl rfl (hs.cell (k := 1) rfl rfl) ?_
    | refine s_load Tryd.isAgg22 rfl rfl (hs.cell (k := 2) rfl rfl) ?_
    | refine s_load Tryd.isAgg22 rfl rfl (hs.cell (k := 3) rfl rfl) ?_
    | refine s_load Tryd.isAgg22 rfl rfl (hs.cell (k := 4) rfl rfl) ?_
    | refine s_load Tryd.isAgg22 rfl rfl (hs.cell (k := 5) rfl rfl) ?_
    | refine s_load Tryd.isAgg22 rfl rfl (hs.cell (k := 6) rfl rfl) ?_
    | refine s_load Tryd.isAgg22 rfl rfl (hs.cell (k := 7) rfl rfl) ?_
    | refine s_load Tryd.isAgg22 rfl rfl (hs.cell (k := 8) rfl rfl) ?_
    | refine s_load Tryd.isAgg22 rfl rfl (hs.cell (k := 9) rfl rfl) ?_
  refine s_len rfl rfl (LN22 _ _ _ _) ?_
  refine s_neq rfl rfl rfl ?_
  refine WL_nil ?_
  refine n_then ?_
  refine W_cond_kt rfl (by simp; omega) ?_
  refine W_seq ?_
  refine W_region ?_
  refine s_assign rfl rfl ?_
  refine WL_nil ?_
  refine n_then ?_
  refine W_ret ?_
  refine r_then ?_
  exact end1 rfl rfl ⟨rfl, rfl⟩
theorem partition_yes (p : Nat) (gs hs' : List Int) (ms : List Msg) (v : Value) (L0 : Hp) (w0 : World) (hN : NetAt p gs ms L0) (hs : St (ids L0) w0 w0 L0) (hv : Sl w0 v hs'.length (i64s hs')) (hne : hs'.length = gs.length) :
    Ret Tryd.prog 36 [.pointer (some ⟨p, 0, none⟩), v].toArray w0 fun r w' => ∃ L', St (ids L0) w0 w' L' ∧ r = .int .i64 0 ∧ NetAt p hs' ms L' := by
  obtain ⟨a, c, rfl, hc⟩ := hv.len_le
  obtain ⟨g, tv, Lt, hL, hO⟩ := hN
  obtain ⟨tl, tc, ta, rfl, rfl⟩ := hO.form
  replace hs : St (ids L0) w0 w0 ((p, Blk 59 [.slice (some ⟨g, 0, none⟩) gs.length gs.length, .slice ta ms.length tc]) :: (g, Blk 3 (i64s gs)) :: (Lt ++ mblks ms)) := by rw [hL] at hs ⊢; exact hs
  refine Ret_of Tryd.func36 rfl Tryd.ntmps36 rfl ?_
  refine W_seq ?_
  refine W_region ?_
  refine s_assign rfl rfl ?_
  refine WL_nil ?_
  refine n_then ?_
  refine W_seq ?_
  refine W_seq ?_
  refine W_region ?_
  refine s_move rfl rfl ?_
  refine s_len rfl rfl (LN22 _ _ _ _) ?_
  refine s_move rfl rfl ?_
  refine s_nilCheck rfl rfl ?_
  refine s_fieldAddr rfl rfl (FA59_0 _ _) ?_
  first
    | refine s_load Tryd.isAgg22 rfl rfl (hs.cell (k := 0) rfl rfl) ?_
    | refine s_load Tryd.isAgg22 rfl rfl (hs.cell (k := 1) rfl rfl) ?_
    | refine s_load Tryd.isAgg22 rfl rfl (hs.cell (k := 2) rfl rfl) ?_
    | refine s_load Tryd.isAgg22 rfl rfl (hs.cell (k := 3) rfl rfl) ?_
    | refine s_load Tryd.isAgg22 rfl rfl (hs.cell (k := 4) rfl rfl) ?_
    | refine s_load Tryd.isAgg22 rfl rfl (hs.cell (k := 5) rfl rfl) ?_
    | refine s_load Tryd.isAgg22 rfl rfl (hs.cell (k := 6) rfl rfl) ?_
    | refine s_load Tryd.isAgg22 rfl rfl (hs.cell (k := 7) rfl rfl) ?_
    | refine s_load Tryd.isAgg22 rfl rfl (hs.cell (k := 8) rfl rfl) ?_
    | refine s_load Tryd.isAgg22 rfl rfl (hs.cell (k := 9) rfl rfl) ?_
  refine s_len rfl rfl (LN22 _ _ _ _) ?_
  refine s_neq rfl rfl rfl ?_
  refine WL_nil ?_
  refine n_then ?_
  refine W_cond_kf rfl (by simp; omega) ?_
  refine W_skip ?_
  refine n_then ?_
  refine W_seq ?_
  refine W_region ?_
  refine s_move rfl rfl ?_
  refine s_nilCheck rfl rfl ?_
  refine s_fieldAddr rfl rfl (FA59_0 _ _) ?_
  first
    | refine s_load Tryd.isAgg22 rfl rfl (hs.cell (k := 0) rfl rfl) ?_
    | refine s_load Tryd.isAgg22 rfl rfl (hs.cell (k := 1) rfl rfl) ?_
    | refine s_load Tryd.isAgg22 rfl rfl (hs.cell (k := 2) rfl rfl) ?_
    | refine s_load Tryd.isAgg22 rfl rfl (hs.cell (k := 3) rfl rfl) ?_
    | refine s_load Tryd.isAgg22 rfl rfl (hs.cell (k := 4) rfl rfl) ?_
    | refine s_load Tryd.isAgg22 rfl rfl (hs.cell (k := 5) rfl rfl) ?_
    | refine s_load Tryd.isAgg22 rfl rfl (hs.cell (k := 6) rfl rfl) ?_
    | refine s_load Tryd.isAgg22 rfl rfl (hs.cell (k := 7) rfl rfl) ?_
    | refine s_load Tryd.isAgg22 rfl rfl (hs.cell (k := 8) rfl rfl) ?_
    | refine s_load Tryd.isAgg22 rfl rfl (hs.cell (k := 9) rfl rfl) ?_
  refine s_move rfl rfl ?_
  refine s_copy El22 rfl rfl rfl hs (kk := 1) rfl hv (by simp) (i64s_one _) (by omega) (by simp; omega) ?_
  clear hs; intro w hs
  have hsp : splice (i64s gs) 0 (i64s hs') = i64s hs' := by simp [splice, hne]
  rw [hsp] at hs
  simp only [List.set_cons_zero, List.set_cons_succ] at hs
  refine WL_nil ?_
  refine n_then ?_
  refine W_seq ?_
  refine W_region ?_
  refine s_assign rfl rfl ?_
  refine WL_nil ?_
  refine n_then ?_
  refine W_ret ?_
  refine end1 rfl rfl ⟨_, hs, rfl, g, _, Lt, ?_, hO⟩
  rw [hne]
end Go.Proofs.YtgjjdlgbbgijgaaDoor
