/- LeaseArguments: a group of two or three. -/
import Derived.Test.YtkobigdfijeajaaRpR
set_option linter.unusedVariables false
set_option linter.unusedSimpArgs false
namespace Go.Proofs.Ytkobigdfijeajaa
open Go.SL
theorem elect_other {C : Rp} (hm : C.mem = 2 ∨ C.mem = 3) (hi : C.id < C.mem) (h : C.id = 0 ∨ (C.id = 1 ∧ 1 < C.term)) : C.elect (C.id : Int) = (C, [], if C.id = 0 then 1 else 20) := by
  rcases h with h | ⟨h, h2⟩
  · rw [Rp.elect, if_pos (by omega), if_pos h]
  · rw [Rp.elect, if_neg (by rcases hm with h3 | h3 <;> rw [h3, h] <;> omega), if_pos (by omega), if_neg (by omega)]
theorem first_other {R : Rp} {o : Nat} (hi : R.id < R.mem) (h2 : 2 ≤ R.mem ∧ R.mem ≤ 3) (ho : (R.id = 0 ∧ o = 1) ∨ (R.id ≠ 0 ∧ o = 0)) : ∃ tr : List Nat, R.tos R.mem = o :: tr ∧ tr.length + 2 = R.mem := by
  unfold Rp.tos
  generalize R.mem = m at *
  generalize R.id = i at *
  have hm : m = 2 ∨ m = 3 := by omega
  have hii : i = 0 ∨ i = 1 ∨ i = 2 := by omega
  rcases hm with rfl | rfl <;> rcases hii with rfl | rfl | rfl <;> rcases ho with ⟨h, rfl⟩ | ⟨h, rfl⟩ <;> first | (exfalso; omega) | exact ⟨_, rfl, rfl⟩
set_option maxHeartbeats 4000000 in
set_option maxRecDepth 8000 in
theorem argsD (id mem t frm to b : Int) (w0 : World) (hgood : 1 ≤ mem ∧ mem ≤ 3 ∧ 0 ≤ id ∧ id < mem) (ht : isI64 t) (hx : 1 ≤ t ∧ t ≤ 1073741824 ∧ t % mem = id) (htwo : 2 ≤ mem) (o : Nat) (ho : (id = 0 ∧ o = 1) ∨ (id ≠ 0 ∧ o = 0)) :
    Ret Try.prog 4 [.int .i64 id, .int .i64 mem, .int .i64 t, .int .i64 frm, .int .i64 to, .int .u8 b].toArray w0 fun r w' => Fwd [] w0 w' ∧ r = .bool true := by
  refine Ret_start fun w hs => ?_
  refine Ret_of Try.func4 rfl Try.ntmps4 rfl ?_
  refine W_seq ?_
  refine W_region ?_
  refine s_assign rfl rfl ?_
  refine WL_nil ?_
  refine n_then ?_
  refine W_seq ?_
  refine W_region ?_
  refine s_move rfl rfl ?_
  refine s_move rfl rfl ?_
  refine s_call Try.call8 rfl rfl (start_ok id mem w) ?_
  rintro r w (⟨hbad, -, -⟩ | ⟨hgood, p, L, rfl, hRA, hst⟩)
  · exfalso; omega
  replace hs := hs.back0 hst
  clear hst
  rw [List.append_nil] at hs
  obtain ⟨R, hRd⟩ : ∃ R, R = R00 id mem := ⟨_, rfl⟩
  replace hRA : RepAt p R L := by rw [hRd]; exact hRA
  have q0 : (R.id : Int) = id := by rw [hRd]; show ((id.toNat : Nat) : Int) = id; omega
  have q1 : (R.mem : Int) = mem := by rw [hRd]; show ((mem.toNat : Nat) : Int) = mem; omega
  have q2 : R.term = 0 := by rw [hRd]; rfl
  have q3 : R.role = 0 := by rw [hRd]; rfl
  have q4 : R.log = [] := by rw [hRd]; rfl
  have q5 : R.n = 0 := by rw [hRd]; rfl
  clear hRd
  refine s_move rfl rfl ?_
  refine s_extract rfl rfl rfl ?_
  refine s_extract rfl rfl rfl ?_
  refine s_assign rfl rfl ?_
  refine s_assign rfl rfl ?_
  refine WL_nil ?_
  refine n_then ?_
  refine W_seq ?_
  refine W_seq ?_
  refine W_region ?_
  refine s_move rfl rfl ?_
  refine s_lss rfl rfl rfl ?_
  refine s_move rfl rfl ?_
  refine WL_know (s := 39) (c := false) rfl ((decide_eq_false (by omega))) ?_
  refine WL_take rfl ?_
  refine s_move rfl rfl ?_
  refine WL_take rfl ?_
  refine s_gtr rfl rfl rfl ?_
  refine s_pick_f rfl rfl rfl ?_
  refine s_move rfl rfl ?_
  refine WL_know (s := 43) (c := false) rfl ((decide_eq_false (by omega))) ?_
  refine WL_take rfl ?_
  refine s_move rfl rfl ?_
  refine WL_take rfl ?_
  refine s_lss rfl rfl rfl ?_
  refine s_pick_f rfl rfl rfl ?_
  refine s_move rfl rfl ?_
  refine WL_know (s := 47) (c := false) rfl ((decide_eq_false (by omega))) ?_
  refine WL_take rfl ?_
  refine s_move rfl rfl ?_
  refine WL_take rfl ?_
  refine s_move rfl rfl ?_
  refine WL_take rfl ?_
  refine s_geq rfl rfl rfl ?_
  refine s_pick_f rfl rfl rfl ?_
  refine WL_nil ?_
  refine n_then ?_
  refine W_cond_kf rfl ((decide_eq_false (by omega))) ?_
  refine W_skip ?_
  refine n_then ?_
  refine W_seq ?_
  refine W_seq ?_
  refine W_region ?_
  refine s_move rfl rfl ?_
  refine s_eql_ptr_nil Try.underlying25 rfl rfl rfl ?_
  refine s_move rfl rfl ?_
  refine WL_know (s := 63) (c := false) rfl (rfl) ?_
  refine WL_take rfl ?_
  refine s_move rfl rfl ?_
  refine WL_take rfl ?_
  refine s_neq rfl rfl rfl ?_
  refine s_pick_f rfl rfl rfl ?_
  refine s_move rfl rfl ?_
  refine WL_know (s := 67) (c := false) rfl (rfl) ?_
  refine WL_take rfl ?_
  refine s_move rfl rfl ?_
  refine WL_take rfl ?_
  obtain ⟨cs, hp, k0, k1, k2, k4⟩ := rep_head hRA hs.own
  refine s_call Try.call20 rfl rfl (term_ok p cs R.term w hp k2) ?_
  rintro r w ⟨hst, rfl⟩
  replace hs := hs.back0 hst
  clear hst hp k0 k1 k2 k4 cs
  rw [List.nil_append] at hs
  refine WL_take rfl ?_
  refine s_neq rfl rfl rfl ?_
  refine s_pick_f rfl rfl rfl ?_
  refine s_move rfl rfl ?_
  refine WL_know (s := 72) (c := false) rfl ((by simp [q2])) ?_
  refine WL_take rfl ?_
  refine s_move rfl rfl ?_
  refine WL_take rfl ?_
  obtain ⟨cs, hp, k0, k1, k2, k4⟩ := rep_head hRA hs.own
  refine s_call Try.call21 rfl rfl (leader_ok p cs R.role w hp k4) ?_
  rintro r w ⟨hst, rfl⟩
  replace hs := hs.back0 hst
  clear hst hp k0 k1 k2 k4 cs
  rw [List.nil_append] at hs
  refine s_pick_f rfl rfl rfl ?_
  refine s_move rfl rfl ?_
  refine WL_know (s := 76) (c := false) rfl ((decide_eq_false (by omega))) ?_
  refine WL_take rfl ?_
  refine s_move rfl rfl ?_
  refine WL_take rfl ?_
  refine s_call Try.call16 rfl rfl (committed_ok p R L w hRA hs.own) ?_
  rintro r w ⟨ys, LB9, LP9, hlg, hst⟩
  obtain ⟨ca, cc, rfl, -⟩ := hlg.form
  replace hs := (hs.back0 hst).right
  clear hst hlg
  refine WL_take rfl ?_
  refine s_len rfl rfl (LN43 _ _ _ _) ?_
  refine WL_take rfl ?_
  refine s_neq rfl rfl rfl ?_
  refine s_pick_f rfl rfl rfl ?_
  refine WL_nil ?_
  refine n_then ?_
  refine W_cond_kf rfl ((by simp [q4])) ?_
  refine W_skip ?_
  refine n_then ?_
  refine W_seq ?_
  refine W_region ?_
  refine s_call Try.call23 rfl rfl (made_ok 5 w (by unfold isI64; omega)) ?_
  rintro r w ⟨ev, Le, rfl, hOe, hst⟩
  replace hs := (hs.back0 hst).swap (A := Le)
  clear hst
  obtain ⟨_, ec, ea, rfl, hel⟩ := hOe.form
  subst hel
  refine s_call Try.call22 rfl rfl (of_ok (madeG 5) (madeX 5) ea (madeC 5).length ec w) ?_
  rintro r w ⟨hst, rfl⟩
  replace hs := hs.fwd1 hst
  clear hst
  refine s_alloc rfl AL35 hs ?_; clear hs; intro b15 w hs
  first
    | refine s_storeW Try.sizeOf35 rfl rfl rfl rfl hs (kk := 0) rfl rfl ?_
    | refine s_storeW Try.sizeOf35 rfl rfl rfl rfl hs (kk := 1) rfl rfl ?_
    | refine s_storeW Try.sizeOf35 rfl rfl rfl rfl hs (kk := 2) rfl rfl ?_
    | refine s_storeW Try.sizeOf35 rfl rfl rfl rfl hs (kk := 3) rfl rfl ?_
    | refine s_storeAB Try.sizeOf35 rfl rfl rfl rfl hs (kk := 0) rfl rfl ?_
    | refine s_storeAB Try.sizeOf35 rfl rfl rfl rfl hs (kk := 1) rfl rfl ?_
    | refine s_storeAB Try.sizeOf35 rfl rfl rfl rfl hs (kk := 2) rfl rfl ?_
    | refine s_storeAB Try.sizeOf35 rfl rfl rfl rfl hs (kk := 3) rfl rfl ?_
  clear hs; intro w hs; try simp only [List.set_cons_zero, List.set_cons_succ, splice, List.take_succ_cons, List.take_zero, List.drop_succ_cons, List.drop_zero, List.nil_append, List.cons_append, List.length_cons, List.length_nil, Nat.reduceAdd, List.append_assoc] at hs
  refine WL_nil ?_
  refine n_then ?_
  refine W_seq ?_
  refine W_region ?_
  refine s_move rfl rfl ?_
  first
    | refine s_loadW Try.isAgg35 Try.sizeOf35 rfl rfl hs (kk := 0) rfl rfl ?_
    | refine s_loadW Try.isAgg35 Try.sizeOf35 rfl rfl hs (kk := 1) rfl rfl ?_
    | refine s_loadW Try.isAgg35 Try.sizeOf35 rfl rfl hs (kk := 2) rfl rfl ?_
    | refine s_loadW Try.isAgg35 Try.sizeOf35 rfl rfl hs (kk := 3) rfl rfl ?_
    | refine s_load_6 Try.isAgg35 Try.sizeOf35 rfl rfl (by first | exact hs.cell (k := 0) rfl rfl | exact hs.cell (k := 1) rfl rfl | exact hs.cell (k := 2) rfl rfl | exact hs.cell (k := 3) rfl rfl) (by first | exact hs.cell (k := 0) rfl rfl | exact hs.cell (k := 1) rfl rfl | exact hs.cell (k := 2) rfl rfl | exact hs.cell (k := 3) rfl rfl) (by first | exact hs.cell (k := 0) rfl rfl | exact hs.cell (k := 1) rfl rfl | exact hs.cell (k := 2) rfl rfl | exact hs.cell (k := 3) rfl rfl) (by first | exact hs.cell (k := 0) rfl rfl | exact hs.cell (k := 1) rfl rfl | exact hs.cell (k := 2) rfl rfl | exact hs.cell (k := 3) rfl rfl) (by first | exact hs.cell (k := 0) rfl rfl | exact hs.cell (k := 1) rfl rfl | exact hs.cell (k := 2) rfl rfl | exact hs.cell (k := 3) rfl rfl) (by first | exact hs.cell (k := 0) rfl rfl | exact hs.cell (k := 1) rfl rfl | exact hs.cell (k := 2) rfl rfl | exact hs.cell (k := 3) rfl rfl) ?_
  have hve : ∀ w', (∀ q ∈ Le, w'.heap[q.1]? = some q.2) → Sl w' (.slice ea (madeC 5).length ec) (madeC 5).length (u8s (madeC 5)) := fun w' h => OwnS_slIn hOe h
  refine s_callL (M := [_]) (L1 := L) (X := Le) Try.call13 rfl rfl hs (fun h => propose_ok p R L (madeE 5) (.slice ea (madeC 5).length ec) w hRA (hve w fun q hq => hs.own q (by simp [hq])) (fun a m c he hne => by cases he; exact hs.apartY (M := [_]) (OwnS_in hOe hne)) (madeC_isB 5) h) ?_
  clear hs; rintro u w L9 ⟨rv, Lr, LQ, rfl, rfl, hRQ, hMs⟩ - hs
  have hpr : R.propose (madeE 5) = (R, [], 20) := by rw [Rp.propose, if_pos (by omega)]
  rw [hpr] at hRQ hMs ⊢
  simp only at hRQ hMs ⊢
  replace hs : St [] w0 w ([(b15, Blk 35 [.bool (madeG 5), .string (madeX 5).rule, .int .i64 (madeX 5).holder, .int .i64 (madeX 5).token, .int .i64 (madeX 5).til, .slice ea (madeC 5).length ec])] ++ (LQ ++ Le)) := by simpa [cat] using St.reord [[_], LQ, Lr, Le] [0, 1, 3] [2] (by simpa [cat] using hs) rfl
  clear hMs hRA hpr
  refine s_move rfl rfl ?_
  refine s_extract rfl rfl rfl ?_
  refine s_extract rfl rfl rfl ?_
  refine s_assign rfl rfl ?_
  refine s_assign rfl rfl ?_
  refine WL_nil ?_
  refine n_then ?_
  refine W_seq ?_
  refine W_region ?_
  refine s_move rfl rfl ?_
  refine s_move rfl rfl ?_
  refine s_callL (M := [_]) (L1 := LQ) (X := Le) Try.call9 rfl rfl hs (fun h => elect_ok p R LQ t w hRQ ht h) ?_
  clear hs; rintro u w L9 ⟨rv1, Lm, LE, rfl, rfl, hRE, hME⟩ - hs
  obtain ⟨tn, rfl⟩ : ∃ tn : Nat, t = (tn : Int) := ⟨t.toNat, by omega⟩
  have hle : R.elect (tn : Int) = (R.cand tn, (R.cand tn).others (askM tn), 0) := by rw [Rp.elect, if_neg (by rw [q0, q1]; omega), if_neg (by omega), if_neg (by omega), if_neg (by omega), Int.toNat_natCast]
  obtain ⟨A, hA⟩ : ∃ A, A = R.cand tn := ⟨_, rfl⟩
  rw [hle, ← hA] at hRE hME ⊢
  simp only at hRE hME ⊢
  have a0 : A.id = R.id := by rw [hA]; rfl
  have a1 : A.mem = R.mem := by rw [hA]; rfl
  have a2 : A.term = tn := by rw [hA]; rfl
  have a3 : A.role = 1 := by rw [hA]; rfl
  obtain ⟨tr, htos, htl⟩ := first_other (R := A) (o := o) (by omega) (by omega) (by omega)
  have aoth : A.others (askM tn) = ⟨R.id, o, askM tn⟩ :: tr.map fun j => ⟨R.id, j, askM tn⟩ := by rw [Rp.others, htos, a0]; rfl
  rw [aoth] at hME
  clear hle hA aoth htos
  obtain ⟨mm, LMB, LMP, rfl, hOM, hMM, hmm⟩ := hME
  rcases mm with _ | ⟨x, mr⟩
  · cases hmm
  simp only [List.map_cons, List.cons.injEq] at hmm
  obtain ⟨hmx, hmr⟩ := hmm
  have hml : mr.length + 2 = A.mem := by have := congrArg List.length hmr; simp only [List.length_map] at this; omega
  clear hmr htl
  obtain ⟨g, mc, sp, rfl, hmc, rfl⟩ := hOM.block (by simp)
  obtain ⟨xs, xv⟩ := x
  simp only at hmx
  subst hmx
  have hxv := hMM ⟨⟨R.id, o, askM tn⟩, xv⟩ List.mem_cons_self
  simp only at hxv
  obtain ⟨_, vc, va, rfl, hvl⟩ := hxv.form w fun q hq => hs.own q (by simp [hq])
  subst hvl
  obtain ⟨RS, hRS⟩ : ∃ RS, RS = mmcells mr ++ sp := ⟨_, rfl⟩
  have hcells : mmcells (⟨⟨R.id, o, askM tn⟩, .slice va (mesB (askM tn)).length vc⟩ :: mr) ++ sp = [.int .i64 (R.id : Int), .int .i64 (o : Int), .slice va (mesB (askM tn)).length vc] ++ RS := by rw [hRS]; simp [mmcells, Mm.cells]
  rw [hcells] at hs
  clear hOM hcells hRS
  simp only [List.length_cons]
  replace hs : St [] w0 w ([(g, Blk 56 ([.int .i64 (R.id : Int), .int .i64 (o : Int), .slice va (mesB (askM tn)).length vc] ++ RS))] ++ (LE ++ LMP)) := by simpa [cat] using St.reord [[_], LE, [_], LMP, Le] [2, 1, 3] [0, 4] (by simpa [cat] using hs) rfl
  simp only [List.cons_append, List.nil_append] at hs
  refine s_move rfl rfl ?_
  refine s_extract rfl rfl rfl ?_
  refine s_extract rfl rfl rfl ?_
  refine s_assign rfl rfl ?_
  refine s_assign rfl rfl ?_
  refine WL_nil ?_
  refine n_then ?_
  refine W_seq ?_
  refine W_seq ?_
  refine W_region ?_
  refine s_move rfl rfl ?_
  refine s_neq rfl rfl rfl ?_
  refine WL_nil ?_
  refine n_then ?_
  refine W_cond_kf rfl (rfl) ?_
  refine W_skip ?_
  refine n_then ?_
  refine W_seq ?_
  refine W_seq ?_
  refine W_region ?_
  refine s_move rfl rfl ?_
  refine s_lss rfl rfl rfl ?_
  refine s_move rfl rfl ?_
  refine WL_know (s := 100) (c := false) rfl ((decide_eq_false (by omega))) ?_
  refine WL_take rfl ?_
  refine s_move rfl rfl ?_
  refine WL_take rfl ?_
  refine s_gtr rfl rfl rfl ?_
  refine s_pick_f rfl rfl rfl ?_
  refine s_move rfl rfl ?_
  refine WL_know (s := 104) (c := false) rfl ((decide_eq_false (by omega))) ?_
  refine WL_take rfl ?_
  refine s_move rfl rfl ?_
  refine WL_take rfl ?_
  refine s_move rfl rfl ?_
  refine WL_take rfl ?_
  first | (refine s_rem' rfl rfl rfl ?hx ?_; case hx => (refine ⟨?_, ?_⟩ <;> omega)) | (refine s_rem rfl rfl rfl ?hx ?_; case hx => omega)
  refine WL_take rfl ?_
  refine s_move rfl rfl ?_
  refine WL_take rfl ?_
  refine s_neq rfl rfl rfl ?_
  refine s_pick_f rfl rfl rfl ?_
  refine WL_nil ?_
  refine n_then ?_
  refine W_cond_kf rfl ((by simp; omega)) ?_
  refine W_skip ?_
  refine n_then ?_
  refine W_seq ?_
  refine W_seq ?_
  refine W_region ?_
  refine s_move rfl rfl ?_
  refine s_neq rfl rfl rfl ?_
  refine s_move rfl rfl ?_
  refine WL_know (s := 128) (c := false) rfl (rfl) ?_
  refine WL_take rfl ?_
  refine s_move rfl rfl ?_
  refine WL_take rfl ?_
  refine s_len rfl rfl (LN29 _ _ _ _) ?_
  refine WL_take rfl ?_
  refine s_move rfl rfl ?_
  refine WL_take rfl ?_
  first | (refine s_sub' rfl rfl rfl ?hx ?_; case hx => (constructor <;> first | omega | (simp only; omega))) | refine s_sub rfl rfl rfl ?_
  refine WL_take rfl ?_
  refine s_neq rfl rfl rfl ?_
  refine s_pick_f rfl rfl rfl ?_
  refine s_move rfl rfl ?_
  refine WL_know (s := 135) (c := false) rfl ((by simp; omega)) ?_
  refine WL_take rfl ?_
  refine s_move rfl rfl ?_
  refine WL_take rfl ?_
  obtain ⟨cs, hp, k0, k1, k2, k4⟩ := rep_head hRE fun q hq => hs.own q (by simp [hq])
  refine s_call Try.call20 rfl rfl (term_ok p cs A.term w hp k2) ?_
  rintro r w ⟨hst, rfl⟩
  replace hs := hs.back0 hst
  clear hst hp k0 k1 k2 k4 cs
  simp only [List.nil_append] at hs
  refine WL_take rfl ?_
  refine s_move rfl rfl ?_
  refine WL_take rfl ?_
  refine s_neq rfl rfl rfl ?_
  refine s_pick_f rfl rfl rfl ?_
  refine s_move rfl rfl ?_
  refine WL_know (s := 141) (c := false) rfl ((by simp; omega)) ?_
  refine WL_take rfl ?_
  refine s_move rfl rfl ?_
  refine WL_take rfl ?_
  obtain ⟨cs, hp, k0, k1, k2, k4⟩ := rep_head hRE fun q hq => hs.own q (by simp [hq])
  refine s_call Try.call21 rfl rfl (leader_ok p cs A.role w hp k4) ?_
  rintro r w ⟨hst, rfl⟩
  replace hs := hs.back0 hst
  clear hst hp k0 k1 k2 k4 cs
  simp only [List.nil_append] at hs
  refine WL_take rfl ?_
  refine s_move rfl rfl ?_
  refine WL_take rfl ?_
  refine s_eql rfl rfl rfl ?_
  refine WL_take rfl ?_
  refine s_neq_bool Try.underlying4 rfl rfl rfl ?_
  refine s_pick_f rfl rfl rfl ?_
  refine WL_nil ?_
  refine n_then ?_
  refine W_cond_kf rfl ((by simp [a3]; omega)) ?_
  refine W_skip ?_
  refine n_then ?_
  refine W_seq ?_
  refine W_seq ?_
  refine W_region ?_
  refine s_move rfl rfl ?_
  refine s_eql rfl rfl rfl ?_
  refine WL_nil ?_
  refine n_then ?_
  refine W_cond_kf rfl ((by simp; omega)) ?_
  refine W_skip ?_
  refine n_then ?_
  refine W_seq ?_
  refine W_region ?_
  refine s_move rfl rfl ?_
  (refine s_indexAddr El29 rfl rfl rfl ?hx ?_; case hx => (constructor <;> first | omega | (simp; omega)))
  refine s_fieldAddr rfl rfl (FA56_1 _ _) ?_
  first
    | refine s_load Try.isAgg3 rfl rfl (hs.cell (k := 0) rfl rfl) ?_
    | refine s_load Try.isAgg3 rfl rfl (hs.cell (k := 1) rfl rfl) ?_
    | refine s_load Try.isAgg3 rfl rfl (hs.cell (k := 2) rfl rfl) ?_
    | refine s_load Try.isAgg3 rfl rfl (hs.cell (k := 3) rfl rfl) ?_
  refine s_move rfl rfl ?_
  refine s_call Try.call8 rfl rfl (start_ok (o : Int) mem w) ?_
  rintro r w (⟨hbad, -, -⟩ | ⟨-, p2, L2, rfl, hRB, hst⟩)
  · exfalso; omega
  replace hs := hs.back0 hst
  clear hst
  obtain ⟨B, hBd⟩ : ∃ B, B = R00 (o : Int) mem := ⟨_, rfl⟩
  replace hRB : RepAt p2 B L2 := by rw [hBd]; exact hRB
  have b0 : B.id = o := by rw [hBd]; rfl
  have b1 : (B.mem : Int) = mem := by rw [hBd]; show ((mem.toNat : Nat) : Int) = mem; omega
  have b2 : B.term = 0 := by rw [hBd]; rfl
  have b3 : B.role = 0 := by rw [hBd]; rfl
  clear hBd hRE
  subst b0
  replace hs : St [] w0 w ([(g, Blk 56 ([.int .i64 (R.id : Int), .int .i64 (B.id : Int), .slice va (mesB (askM tn)).length vc] ++ RS))] ++ (L2 ++ LMP)) := by simpa [cat] using St.reord [L2, [_], LE, LMP] [1, 0, 3] [2] (by simpa [cat] using hs) rfl
  simp only [List.cons_append, List.nil_append] at hs
  refine s_move rfl rfl ?_
  refine s_extract rfl rfl rfl ?_
  refine s_extract rfl rfl rfl ?_
  refine s_assign rfl rfl ?_
  refine s_assign rfl rfl ?_
  refine WL_nil ?_
  refine n_then ?_
  refine W_seq ?_
  refine W_seq ?_
  refine W_region ?_
  refine s_move rfl rfl ?_
  refine s_eql_ptr_nil Try.underlying25 rfl rfl rfl ?_
  refine s_move rfl rfl ?_
  refine WL_know (s := 199) (c := false) rfl (rfl) ?_
  refine WL_take rfl ?_
  refine s_move rfl rfl ?_
  refine WL_take rfl ?_
  refine s_neq rfl rfl rfl ?_
  refine s_pick_f rfl rfl rfl ?_
  refine s_move rfl rfl ?_
  refine WL_know (s := 203) (c := false) rfl (rfl) ?_
  refine WL_take rfl ?_
  refine s_move rfl rfl ?_
  refine WL_take rfl ?_
  (refine s_indexAddr El29 rfl rfl rfl ?hx ?_; case hx => (constructor <;> first | omega | (simp; omega)))
  refine WL_take rfl ?_
  refine s_fieldAddr rfl rfl (FA56_0 _ _) ?_
  refine WL_take rfl ?_
  first
    | refine s_load Try.isAgg3 rfl rfl (hs.cell (k := 0) rfl rfl) ?_
    | refine s_load Try.isAgg3 rfl rfl (hs.cell (k := 1) rfl rfl) ?_
    | refine s_load Try.isAgg3 rfl rfl (hs.cell (k := 2) rfl rfl) ?_
    | refine s_load Try.isAgg3 rfl rfl (hs.cell (k := 3) rfl rfl) ?_
  refine WL_take rfl ?_
  refine s_move rfl rfl ?_
  refine WL_take rfl ?_
  refine s_neq rfl rfl rfl ?_
  refine s_pick_f rfl rfl rfl ?_
  refine WL_nil ?_
  refine n_then ?_
  refine W_cond_kf rfl ((by simp [q0])) ?_
  refine W_skip ?_
  refine n_then ?_
  refine W_seq ?_
  refine W_region ?_
  refine s_move rfl rfl ?_
  (refine s_indexAddr El29 rfl rfl rfl ?hx ?_; case hx => (constructor <;> first | omega | (simp; omega)))
  first
    | refine s_loadW Try.isAgg56 Try.sizeOf56 rfl rfl hs (kk := 0) rfl rfl ?_
    | refine s_loadW Try.isAgg56 Try.sizeOf56 rfl rfl hs (kk := 1) rfl rfl ?_
    | refine s_loadW Try.isAgg56 Try.sizeOf56 rfl rfl hs (kk := 2) rfl rfl ?_
    | refine s_loadW Try.isAgg56 Try.sizeOf56 rfl rfl hs (kk := 3) rfl rfl ?_
    | refine s_load_3 Try.isAgg56 Try.sizeOf56 rfl rfl (by first | exact hs.cell (k := 0) rfl rfl | exact hs.cell (k := 1) rfl rfl | exact hs.cell (k := 2) rfl rfl | exact hs.cell (k := 3) rfl rfl) (by first | exact hs.cell (k := 0) rfl rfl | exact hs.cell (k := 1) rfl rfl | exact hs.cell (k := 2) rfl rfl | exact hs.cell (k := 3) rfl rfl) (by first | exact hs.cell (k := 0) rfl rfl | exact hs.cell (k := 1) rfl rfl | exact hs.cell (k := 2) rfl rfl | exact hs.cell (k := 3) rfl rfl) ?_
  refine s_alloc rfl AL56 hs ?_; clear hs; intro b26 w hs
  first
    | refine s_storeW Try.sizeOf56 rfl rfl rfl rfl hs (kk := 0) rfl rfl ?_
    | refine s_storeW Try.sizeOf56 rfl rfl rfl rfl hs (kk := 1) rfl rfl ?_
    | refine s_storeW Try.sizeOf56 rfl rfl rfl rfl hs (kk := 2) rfl rfl ?_
    | refine s_storeW Try.sizeOf56 rfl rfl rfl rfl hs (kk := 3) rfl rfl ?_
    | refine s_storeAB Try.sizeOf56 rfl rfl rfl rfl hs (kk := 0) rfl rfl ?_
    | refine s_storeAB Try.sizeOf56 rfl rfl rfl rfl hs (kk := 1) rfl rfl ?_
    | refine s_storeAB Try.sizeOf56 rfl rfl rfl rfl hs (kk := 2) rfl rfl ?_
    | refine s_storeAB Try.sizeOf56 rfl rfl rfl rfl hs (kk := 3) rfl rfl ?_
  clear hs; intro w hs; try simp only [List.set_cons_zero, List.set_cons_succ, splice, List.take_succ_cons, List.take_zero, List.drop_succ_cons, List.drop_zero, List.nil_append, List.cons_append, List.length_cons, List.length_nil, Nat.reduceAdd, List.append_assoc] at hs
  refine WL_nil ?_
  refine n_then ?_
  refine W_seq ?_
  refine W_region ?_
  refine s_move rfl rfl ?_
  refine s_fieldAddr rfl rfl (FA56_0 _ _) ?_
  first
    | refine s_storeB Try.sizeOf3 rfl rfl rfl hs (kk := 0) rfl rfl ?_
    | refine s_storeB Try.sizeOf3 rfl rfl rfl hs (kk := 1) rfl rfl ?_
    | refine s_storeB Try.sizeOf3 rfl rfl rfl hs (kk := 2) rfl rfl ?_
    | refine s_storeB Try.sizeOf3 rfl rfl rfl hs (kk := 3) rfl rfl ?_
  clear hs; intro w hs; try simp only [List.set_cons_zero, List.set_cons_succ, splice, List.take_succ_cons, List.take_zero, List.drop_succ_cons, List.drop_zero, List.nil_append, List.cons_append, List.length_cons, List.length_nil, Nat.reduceAdd, List.append_assoc] at hs
  refine WL_nil ?_
  refine n_then ?_
  refine W_seq ?_
  refine W_region ?_
  refine s_move rfl rfl ?_
  refine s_fieldAddr rfl rfl (FA56_1 _ _) ?_
  first
    | refine s_storeB Try.sizeOf3 rfl rfl rfl hs (kk := 0) rfl rfl ?_
    | refine s_storeB Try.sizeOf3 rfl rfl rfl hs (kk := 1) rfl rfl ?_
    | refine s_storeB Try.sizeOf3 rfl rfl rfl hs (kk := 2) rfl rfl ?_
    | refine s_storeB Try.sizeOf3 rfl rfl rfl hs (kk := 3) rfl rfl ?_
  clear hs; intro w hs; try simp only [List.set_cons_zero, List.set_cons_succ, splice, List.take_succ_cons, List.take_zero, List.drop_succ_cons, List.drop_zero, List.nil_append, List.cons_append, List.length_cons, List.length_nil, Nat.reduceAdd, List.append_assoc] at hs
  refine WL_nil ?_
  refine n_then ?_
  refine W_seq ?_
  refine W_seq ?_
  refine W_region ?_
  refine s_move rfl rfl ?_
  refine s_move rfl rfl ?_
  (refine s_indexAddr El29 rfl rfl rfl ?hx ?_; case hx => (constructor <;> first | omega | (simp; omega)))
  refine s_fieldAddr rfl rfl (FA56_1 _ _) ?_
  first
    | refine s_load Try.isAgg3 rfl rfl (hs.cell (k := 0) rfl rfl) ?_
    | refine s_load Try.isAgg3 rfl rfl (hs.cell (k := 1) rfl rfl) ?_
    | refine s_load Try.isAgg3 rfl rfl (hs.cell (k := 2) rfl rfl) ?_
    | refine s_load Try.isAgg3 rfl rfl (hs.cell (k := 3) rfl rfl) ?_
  refine s_neq rfl rfl rfl ?_
  refine s_move rfl rfl ?_
  refine WL_case (s := 224) rfl (fun hg224 => ?_) (fun hg224 => ?_)
  · skip
    try simp only [decide_eq_true_eq, decide_eq_false_iff_not, gt_iff_lt, ge_iff_le, beq_iff_eq, beq_eq_false_iff_ne, ne_eq, bne_iff_ne, bne_eq_false_iff_eq, Bool.not_eq_true', Bool.not_eq_false', Bool.not_eq_true, Bool.not_eq_false, Decidable.not_not] at hg224
    refine WL_skip rfl rfl rfl ?_
    refine WL_skip rfl rfl rfl ?_
    refine s_pick_t rfl rfl rfl ?_
    refine s_move rfl rfl ?_
    refine WL_skip rfl rfl rfl ?_
    refine WL_skip rfl rfl rfl ?_
    refine WL_skip rfl rfl rfl ?_
    refine s_pick_t rfl rfl rfl ?_
    refine s_move rfl rfl ?_
    refine WL_skip rfl rfl rfl ?_
    refine WL_skip rfl rfl rfl ?_
    refine WL_skip rfl rfl rfl ?_
    refine s_pick_t rfl rfl rfl ?_
    refine s_move rfl rfl ?_
    refine WL_take rfl ?_
    refine s_move rfl rfl ?_
    refine WL_take rfl ?_
    first
      | refine s_loadW Try.isAgg56 Try.sizeOf56 rfl rfl hs (kk := 0) rfl rfl ?_
      | refine s_loadW Try.isAgg56 Try.sizeOf56 rfl rfl hs (kk := 1) rfl rfl ?_
      | refine s_loadW Try.isAgg56 Try.sizeOf56 rfl rfl hs (kk := 2) rfl rfl ?_
      | refine s_loadW Try.isAgg56 Try.sizeOf56 rfl rfl hs (kk := 3) rfl rfl ?_
      | refine s_load_3 Try.isAgg56 Try.sizeOf56 rfl rfl (by first | exact hs.cell (k := 0) rfl rfl | exact hs.cell (k := 1) rfl rfl | exact hs.cell (k := 2) rfl rfl | exact hs.cell (k := 3) rfl rfl) (by first | exact hs.cell (k := 0) rfl rfl | exact hs.cell (k := 1) rfl rfl | exact hs.cell (k := 2) rfl rfl | exact hs.cell (k := 3) rfl rfl) (by first | exact hs.cell (k := 0) rfl rfl | exact hs.cell (k := 1) rfl rfl | exact hs.cell (k := 2) rfl rfl | exact hs.cell (k := 3) rfl rfl) ?_
    refine WL_take rfl ?_
    obtain ⟨cs, hp, k0, k1, k2, k4⟩ := rep_head hRB fun q hq => hs.own q (by simp [hq])
    refine s_call Try.call24 rfl rfl (receive_bad p2 B cs frm to _ w hp k0 k1 ⟨_, _, _, rfl⟩ (by omega)) ?_
    rintro r w ⟨hst, rfl⟩
    replace hs := hs.back0 hst
    clear hst hp k0 k1 k2 k4 cs
    simp only [List.nil_append] at hs
    refine WL_take rfl ?_
    refine s_len rfl rfl (LN29 _ _ _ _) ?_
    refine WL_take rfl ?_
    refine s_neq rfl rfl rfl ?_
    refine WL_take rfl ?_
    refine s_move rfl rfl ?_
    refine WL_know (s := 244) (c := false) rfl (rfl) ?_
    refine WL_take rfl ?_
    refine s_move rfl rfl ?_
    refine WL_take rfl ?_
    obtain ⟨cs, hp, k0, k1, k2, k4⟩ := rep_head hRB fun q hq => hs.own q (by simp [hq])
    refine s_call Try.call20 rfl rfl (term_ok p2 cs B.term w hp k2) ?_
    rintro r w ⟨hst, rfl⟩
    replace hs := hs.back0 hst
    clear hst hp k0 k1 k2 k4 cs
    simp only [List.nil_append] at hs
    refine WL_take rfl ?_
    refine s_neq rfl rfl rfl ?_
    refine WL_take rfl ?_
    refine s_pick_f rfl rfl rfl ?_
    refine s_pick_t rfl rfl rfl ?_
    refine WL_nil ?_
    refine n_then ?_
    refine W_cond_kf rfl ((by first | rfl | simp [b2])) ?_
    refine W_skip ?_
    refine n_then ?_
    refine W_seq ?_
    refine W_region ?_
    refine s_move rfl rfl ?_
    (refine s_indexAddr El29 rfl rfl rfl ?hx ?_; case hx => (constructor <;> first | omega | (simp; omega)))
    first
      | refine s_loadW Try.isAgg56 Try.sizeOf56 rfl rfl hs (kk := 0) rfl rfl ?_
      | refine s_loadW Try.isAgg56 Try.sizeOf56 rfl rfl hs (kk := 1) rfl rfl ?_
      | refine s_loadW Try.isAgg56 Try.sizeOf56 rfl rfl hs (kk := 2) rfl rfl ?_
      | refine s_loadW Try.isAgg56 Try.sizeOf56 rfl rfl hs (kk := 3) rfl rfl ?_
      | refine s_load_3 Try.isAgg56 Try.sizeOf56 rfl rfl (by first | exact hs.cell (k := 0) rfl rfl | exact hs.cell (k := 1) rfl rfl | exact hs.cell (k := 2) rfl rfl | exact hs.cell (k := 3) rfl rfl) (by first | exact hs.cell (k := 0) rfl rfl | exact hs.cell (k := 1) rfl rfl | exact hs.cell (k := 2) rfl rfl | exact hs.cell (k := 3) rfl rfl) (by first | exact hs.cell (k := 0) rfl rfl | exact hs.cell (k := 1) rfl rfl | exact hs.cell (k := 2) rfl rfl | exact hs.cell (k := 3) rfl rfl) ?_
    refine s_alloc rfl AL56 hs ?_; clear hs; intro b27 w hs
    first
      | refine s_storeW Try.sizeOf56 rfl rfl rfl rfl hs (kk := 0) rfl rfl ?_
      | refine s_storeW Try.sizeOf56 rfl rfl rfl rfl hs (kk := 1) rfl rfl ?_
      | refine s_storeW Try.sizeOf56 rfl rfl rfl rfl hs (kk := 2) rfl rfl ?_
      | refine s_storeW Try.sizeOf56 rfl rfl rfl rfl hs (kk := 3) rfl rfl ?_
      | refine s_storeAB Try.sizeOf56 rfl rfl rfl rfl hs (kk := 0) rfl rfl ?_
      | refine s_storeAB Try.sizeOf56 rfl rfl rfl rfl hs (kk := 1) rfl rfl ?_
      | refine s_storeAB Try.sizeOf56 rfl rfl rfl rfl hs (kk := 2) rfl rfl ?_
      | refine s_storeAB Try.sizeOf56 rfl rfl rfl rfl hs (kk := 3) rfl rfl ?_
    clear hs; intro w hs; try simp only [List.set_cons_zero, List.set_cons_succ, splice, List.take_succ_cons, List.take_zero, List.drop_succ_cons, List.drop_zero, List.nil_append, List.cons_append, List.length_cons, List.length_nil, Nat.reduceAdd, List.append_assoc] at hs
    refine WL_nil ?_
    refine n_then ?_
    refine W_seq ?_
    refine W_region ?_
    refine s_fieldAddr rfl rfl (FA56_2 _ _) ?_
    first
      | refine s_storeB Try.sizeOf22 rfl rfl rfl hs (kk := 0) rfl rfl ?_
      | refine s_storeB Try.sizeOf22 rfl rfl rfl hs (kk := 1) rfl rfl ?_
      | refine s_storeB Try.sizeOf22 rfl rfl rfl hs (kk := 2) rfl rfl ?_
      | refine s_storeB Try.sizeOf22 rfl rfl rfl hs (kk := 3) rfl rfl ?_
    clear hs; intro w hs; try simp only [List.set_cons_zero, List.set_cons_succ, splice, List.take_succ_cons, List.take_zero, List.drop_succ_cons, List.drop_zero, List.nil_append, List.cons_append, List.length_cons, List.length_nil, Nat.reduceAdd, List.append_assoc] at hs
    refine WL_nil ?_
    refine n_then ?_
    refine W_seq ?_
    refine W_seq ?_
    refine W_region ?_
    refine s_move rfl rfl ?_
    first
      | refine s_loadW Try.isAgg56 Try.sizeOf56 rfl rfl hs (kk := 0) rfl rfl ?_
      | refine s_loadW Try.isAgg56 Try.sizeOf56 rfl rfl hs (kk := 1) rfl rfl ?_
      | refine s_loadW Try.isAgg56 Try.sizeOf56 rfl rfl hs (kk := 2) rfl rfl ?_
      | refine s_loadW Try.isAgg56 Try.sizeOf56 rfl rfl hs (kk := 3) rfl rfl ?_
      | refine s_load_3 Try.isAgg56 Try.sizeOf56 rfl rfl (by first | exact hs.cell (k := 0) rfl rfl | exact hs.cell (k := 1) rfl rfl | exact hs.cell (k := 2) rfl rfl | exact hs.cell (k := 3) rfl rfl) (by first | exact hs.cell (k := 0) rfl rfl | exact hs.cell (k := 1) rfl rfl | exact hs.cell (k := 2) rfl rfl | exact hs.cell (k := 3) rfl rfl) (by first | exact hs.cell (k := 0) rfl rfl | exact hs.cell (k := 1) rfl rfl | exact hs.cell (k := 2) rfl rfl | exact hs.cell (k := 3) rfl rfl) ?_
    obtain ⟨cs, hp, k0, k1, k2, k4⟩ := rep_head hRB fun q hq => hs.own q (by simp [hq])
    refine s_call Try.call24 rfl rfl (receive_none p2 B cs R.id (.slice none 0 0) w hp k0 k1 ⟨none, 0, rfl, Nat.le_refl _, .inl rfl⟩ (by omega) (by omega)) ?_
    rintro r w ⟨hst, rfl⟩
    replace hs := hs.fwd1 hst
    clear hst hp k0 k1 k2 k4 cs
    refine s_len rfl rfl (LN29 _ _ _ _) ?_
    refine s_neq rfl rfl rfl ?_
    refine s_move rfl rfl ?_
    refine WL_know (s := 259) (c := false) rfl (rfl) ?_
    refine WL_take rfl ?_
    refine s_move rfl rfl ?_
    refine WL_take rfl ?_
    obtain ⟨cs, hp, k0, k1, k2, k4⟩ := rep_head hRB fun q hq => hs.own q (by simp [hq])
    refine s_call Try.call20 rfl rfl (term_ok p2 cs B.term w hp k2) ?_
    rintro r w ⟨hst, rfl⟩
    replace hs := hs.back0 hst
    clear hst hp k0 k1 k2 k4 cs
    simp only [List.nil_append] at hs
    refine WL_take rfl ?_
    refine s_neq rfl rfl rfl ?_
    refine s_pick_f rfl rfl rfl ?_
    refine WL_nil ?_
    refine n_then ?_
    refine W_cond_kf rfl ((by simp [b2])) ?_
    refine W_skip ?_
    refine n_then ?_
    refine W_seq ?_
    refine W_region ?_
    refine s_move rfl rfl ?_
    refine s_move rfl rfl ?_
    (refine s_indexAddr El29 rfl rfl rfl ?hx ?_; case hx => (constructor <;> first | omega | (simp; omega)))
    first
      | refine s_loadW Try.isAgg56 Try.sizeOf56 rfl rfl hs (kk := 0) rfl rfl ?_
      | refine s_loadW Try.isAgg56 Try.sizeOf56 rfl rfl hs (kk := 1) rfl rfl ?_
      | refine s_loadW Try.isAgg56 Try.sizeOf56 rfl rfl hs (kk := 2) rfl rfl ?_
      | refine s_loadW Try.isAgg56 Try.sizeOf56 rfl rfl hs (kk := 3) rfl rfl ?_
      | refine s_load_3 Try.isAgg56 Try.sizeOf56 rfl rfl (by first | exact hs.cell (k := 0) rfl rfl | exact hs.cell (k := 1) rfl rfl | exact hs.cell (k := 2) rfl rfl | exact hs.cell (k := 3) rfl rfl) (by first | exact hs.cell (k := 0) rfl rfl | exact hs.cell (k := 1) rfl rfl | exact hs.cell (k := 2) rfl rfl | exact hs.cell (k := 3) rfl rfl) (by first | exact hs.cell (k := 0) rfl rfl | exact hs.cell (k := 1) rfl rfl | exact hs.cell (k := 2) rfl rfl | exact hs.cell (k := 3) rfl rfl) ?_
    replace hs : St [] w0 w ([(g, Blk 56 ([.int .i64 (R.id : Int), .int .i64 (B.id : Int), .slice va (mesB (askM tn)).length vc] ++ RS))] ++ (L2 ++ LMP)) := by simpa using hs.tail.tail
    refine s_callL (M := [_]) (L1 := L2) (X := LMP) Try.call24 rfl rfl hs (fun h => receive_ok p2 B L2 (askM tn) R.id (.slice va (mesB (askM tn)).length vc) w hRB (hxv.sl w fun q hq => hs.own q (by simp [hq])) (fun a m c he hne => hs.apartY (M := [_]) (hxv.inL a m c he hne)) (askM_ok (by omega)) (by omega) (by omega) h) ?_
    clear hs; rintro u w L9 ⟨Lr, LQ, rfl, hRC, hMC⟩ - hs
    have hrv : B.recv (askM tn) R.id = (B.follow tn, [⟨B.id, R.id, (B.follow tn).voteM⟩]) := by rw [Rp.recv, if_pos (show (askM tn).kind = 0 from rfl), Rp.ask, if_neg (by rw [b2]; simp)]; rfl
    rw [hrv] at hRC hMC
    simp only at hRC hMC
    obtain ⟨C, hC⟩ : ∃ C, C = B.follow tn := ⟨_, rfl⟩
    have hCe : C.id = B.id ∧ C.mem = B.mem ∧ C.term = tn := by rw [hC, Rp.follow, if_pos (by omega)]; exact ⟨rfl, rfl, rfl⟩
    rw [← hC] at hRC hMC
    clear hrv hC hRB
    obtain ⟨d0, d1, d2⟩ := hCe
    obtain ⟨mm, LMB, LMP2, rfl, hOM, hMM2, hmm⟩ := hMC
    rcases mm with _ | ⟨x, mr2⟩
    · cases hmm
    simp only [List.map_cons, List.cons.injEq, List.map_eq_nil_iff] at hmm
    obtain ⟨hmx, rfl⟩ := hmm
    obtain ⟨g2, mc2, sp2, rfl, hmc2, rfl⟩ := hOM.block (by simp)
    obtain ⟨xs, xv⟩ := x
    simp only at hmx
    subst hmx
    replace hs : St [] w0 w ([(g, Blk 56 ([.int .i64 (R.id : Int), .int .i64 (B.id : Int), .slice va (mesB (askM tn)).length vc] ++ RS))] ++ (LQ ++ [(g2, Blk 56 ([.int .i64 (B.id : Int), .int .i64 (R.id : Int), xv] ++ sp2))])) := by simpa [cat, mmcells, Mm.cells] using St.reord [[_], LQ, [_], LMP2, LMP] [0, 1, 2] [3, 4] (by simpa [cat, mmcells, Mm.cells] using hs) rfl
    clear hOM
    simp only [List.length_cons, List.length_nil, Nat.zero_add]
    refine s_assign rfl rfl ?_
    refine WL_nil ?_
    refine n_then ?_
    refine W_seq ?_
    refine W_region ?_
    refine s_move rfl rfl ?_
    refine s_move rfl rfl ?_
    (refine s_indexAddr El29 rfl rfl rfl ?hx ?_; case hx => (constructor <;> first | omega | (simp; omega)))
    refine s_fieldAddr rfl rfl (FA56_1 _ _) ?_
    first
      | refine s_load Try.isAgg3 rfl rfl (hs.cell (k := 0) rfl rfl) ?_
      | refine s_load Try.isAgg3 rfl rfl (hs.cell (k := 1) rfl rfl) ?_
      | refine s_load Try.isAgg3 rfl rfl (hs.cell (k := 2) rfl rfl) ?_
      | refine s_load Try.isAgg3 rfl rfl (hs.cell (k := 3) rfl rfl) ?_
    have hel2 : C.elect (B.id : Int) = (C, [], if B.id = 0 then 1 else 20) := by
      have hmm : C.mem = 2 ∨ C.mem = 3 := by omega
      rw [← d0]
      refine elect_other hmm (by omega) ?_
      rcases ho with ⟨h1, h2⟩ | ⟨h1, h2⟩
      · refine .inr ⟨by omega, ?_⟩
        obtain ⟨_, _, h3⟩ := hx
        rcases hmm with h4 | h4
        · have h5 : mem = 2 := by omega
          rw [h5] at h3; omega
        · have h5 : mem = 3 := by omega
          rw [h5] at h3; omega
      · exact .inl (by omega)
    refine s_callL (M := [_]) (L1 := LQ) (X := [_]) Try.call9 rfl rfl hs (fun h => elect_ok p2 C LQ (B.id : Int) w hRC (by unfold isI64; omega) h) ?_
    clear hs; rintro u w L9 ⟨rv1, Lm2, LE2, rfl, rfl, hRE2, -⟩ - hs
    rw [hel2] at hRE2 ⊢
    simp only at hRE2 ⊢
    obtain ⟨er, her⟩ : ∃ er : Int, er = if B.id = 0 then 1 else 20 := ⟨_, rfl⟩
    rw [← her]
    replace her : (B.id = 0 ∧ er = 1) ∨ (B.id = 1 ∧ er = 20) := by
      rw [her]
      by_cases h : B.id = 0
      · exact .inl ⟨h, if_pos h⟩
      · exact .inr ⟨by omega, if_neg h⟩
    replace hs : St [] w0 w ([(g, Blk 56 ([.int .i64 (R.id : Int), .int .i64 (B.id : Int), .slice va (mesB (askM tn)).length vc] ++ RS))] ++ ([(g2, Blk 56 ([.int .i64 (B.id : Int), .int .i64 (R.id : Int), xv] ++ sp2))] ++ LE2)) := by simpa [cat] using St.reord [[_], LE2, Lm2, [_]] [0, 3, 1] [2] (by simpa [cat] using hs) rfl
    simp only [List.cons_append, List.nil_append] at hs
    obtain ⟨cs, hp, k0, k1, k2, k4⟩ := rep_head hRE2 fun q hq => hs.own q (by simp [hq])
    refine s_move rfl rfl ?_
    refine s_extract rfl rfl rfl ?_
    refine s_extract rfl rfl rfl ?_
    refine s_assign rfl rfl ?_
    refine s_assign rfl rfl ?_
    refine WL_nil ?_
    refine n_then ?_
    refine W_seq ?_
    refine W_draw [(0, true, []), (1, true, []), (2, true, []), (3, true, []), (4, true, []), (5, true, []), (6, true, []), (7, true, []), (8, true, []), (9, true, []), (10, true, []), (11, true, []), (12, true, []), (13, true, []), (14, true, []), (15, true, []), (16, true, []), (17, true, []), (18, true, []), (19, true, []), (20, true, []), (21, true, []), (22, true, []), (23, true, []), (25, true, []), (24, false, [25]), (26, true, []), (27, true, []), (28, true, []), (29, true, []), (30, true, []), (31, true, []), (32, true, []), (33, true, []), (34, true, []), (35, true, []), (36, true, []), (37, true, []), (38, true, []), (39, true, []), (40, true, []), (41, true, []), (42, true, []), (43, true, []), (44, false, []), (45, true, []), (46, true, [])] [[], [0], [0, 1], [0, 1, 2], [0, 1, 2, 3], [0, 1, 2, 3, 4], [0, 1, 2, 3, 4, 5], [0, 1, 2, 3, 4, 5, 6], [0, 1, 2, 3], [0, 1, 2, 3, 8], [0, 1, 2, 3, 8, 9], [0, 1, 2, 3, 8, 9, 10], [0, 1, 2, 3, 4, 5, 6, 7, 8, 9, 10, 11], [0, 1, 2, 3, 4, 5, 6, 7, 8, 9, 10, 11, 12], [0, 1, 2, 3, 4, 5, 6, 7, 8, 9, 10, 11, 12, 13], [0, 1, 2, 3, 4, 5, 6, 7, 8, 9, 10, 11, 12, 13, 14], [0, 1, 2, 3, 4, 5, 6, 7, 8, 9, 10, 11, 12, 13, 14, 15], [0, 1, 2, 3, 4, 5, 6, 7, 8, 9, 10, 11, 12, 13, 14, 15, 16], [0, 1, 2, 3, 4, 5, 6, 7, 8, 9, 10, 11, 12, 13, 14, 15, 16, 17], [0, 1, 2, 3, 4, 5, 6, 7, 8, 9, 10, 11, 12, 13, 14], [0, 1, 2, 3, 4, 5, 6, 7, 8, 9, 10, 11, 12, 13, 14, 15, 16, 17, 18, 19], [0, 1, 2, 3, 4, 5, 6, 7, 8, 9, 10, 11, 12, 13, 14, 15, 16, 17, 18, 19, 20], [0, 1, 2, 3, 4, 5, 6, 7, 8, 9, 10, 11, 12, 13, 14, 15, 16, 17, 18, 19, 20, 21], [0, 1, 2, 3, 4, 5, 6, 7, 8, 9, 10, 11, 12, 13, 14, 15, 16, 17, 18, 19, 20, 21, 22], [0, 1, 2, 3, 4, 5, 6, 7, 8, 9, 10, 11, 12, 13, 14, 15, 16, 17, 18, 19, 20, 21, 22, 23], [0, 1, 2, 3, 4, 5, 6, 7, 8, 9, 10, 11, 12, 13, 14, 15, 16, 17, 18, 19, 20, 21, 22], [0, 1, 2, 3, 4, 5, 6, 7, 8, 9, 10, 11, 12, 13, 14, 15, 16, 17, 18, 19, 20, 21, 22, 23, 24, 25], [0, 1, 2, 3, 4, 5, 6, 7, 8, 9, 10, 11, 12, 13, 14, 15, 16, 17, 18, 19, 20, 21, 22, 23, 24, 25, 26], [0, 1, 2, 3, 4, 5, 6, 7, 8, 9, 10, 11, 12, 13, 14, 15, 16, 17, 18, 19, 20, 21, 22, 23, 24, 25, 26, 27], [0, 1, 2, 3, 4, 5, 6, 7, 8, 9, 10, 11, 12, 13, 14, 15, 16, 17, 18, 19, 20, 21, 22, 23, 24, 25, 26, 27, 28], [0, 1, 2, 3, 4, 5, 6, 7, 8, 9, 10, 11, 12, 13, 14, 15, 16, 17, 18, 19, 20, 21, 22, 23, 24, 25, 26, 27, 28, 29], [0, 1, 2, 3, 4, 5, 6, 7, 8, 9, 10, 11, 12, 13, 14, 15, 16, 17, 18, 19, 20, 21, 22, 23, 24, 25, 26, 27, 28, 29, 30], [0, 1, 2, 3, 4, 5, 6, 7, 8, 9, 10, 11, 12, 13, 14, 15, 16, 17, 18, 19, 20, 21, 22, 23, 24, 25, 26, 27, 28, 29, 30, 31], [0, 1, 2, 3, 4, 5, 6, 7, 8, 9, 10, 11, 12, 13, 14, 15, 16, 17, 18, 19, 20, 21, 22, 23, 24, 25, 26, 27, 28, 29, 30, 31, 32], [0, 1, 2, 3, 4, 5, 6, 7, 8, 9, 10, 11, 12, 13, 14, 15, 16, 17, 18, 19, 20, 21, 22, 23, 24, 25, 26, 27, 28, 29, 30, 31, 32, 33], [0, 1, 2, 3, 4, 5, 6, 7, 8, 9, 10, 11, 12, 13, 14, 15, 16, 17, 18, 19, 20, 21, 22, 23, 24, 25, 26, 27, 28, 29, 30, 31, 32, 33, 34], [0, 1, 2, 3, 4, 5, 6, 7, 8, 9, 10, 11, 12, 13, 14, 15, 16, 17, 18, 19, 20, 21, 22, 23, 24, 25, 26, 27, 28, 29, 30, 31, 32, 33, 34, 35], [0, 1, 2, 3, 4, 5, 6, 7, 8, 9, 10, 11, 12, 13, 14, 15, 16, 17, 18, 19, 20, 21, 22, 23, 24, 25, 26, 27, 28, 29, 30, 31, 32, 33, 34, 35, 36], [0, 1, 2, 3, 4, 5, 6, 7, 8, 9, 10, 11, 12, 13, 14, 15, 16, 17, 18, 19, 20, 21, 22, 23, 24, 25, 26, 27, 28, 29, 30, 31, 32, 33, 34, 35, 36, 37], [0, 1, 2, 3, 4, 5, 6, 7, 8, 9, 10, 11, 12, 13, 14, 15, 16, 17, 18, 19, 20, 21, 22, 23, 24, 25, 26, 27, 28, 29, 30, 31, 32, 33, 34, 35, 36, 37, 38], [0, 1, 2, 3, 4, 5, 6, 7, 8, 9, 10, 11, 12, 13, 14, 15, 16, 17, 18, 19, 20, 21, 22, 23, 24, 25, 26, 27, 28, 29, 30, 31, 32, 33, 34, 35, 36, 37, 38, 39], [0, 1, 2, 3, 4, 5, 6, 7, 8, 9, 10, 11, 12, 13, 14, 15, 16, 17, 18, 19, 20, 21, 22, 23, 24, 25, 26, 27, 28, 29, 30, 31, 32, 33, 34, 35, 36, 37, 38, 39, 40], [0, 1, 2, 3, 4, 5, 6, 7, 8, 9, 10, 11, 12, 13, 14, 15, 16, 17, 18, 19, 20, 21, 22, 23, 24, 25, 26, 27, 28, 29, 30, 31, 32, 33, 34, 35, 36, 37, 38, 39, 40, 41], [0, 1, 2, 3, 4, 5, 6, 7, 8, 9, 10, 11, 12, 13, 14, 15, 16, 17, 18, 19, 20, 21, 22, 23, 24, 25, 26, 27, 28, 29, 30, 31, 32, 33, 34, 35, 36, 37, 38, 39, 40, 41, 42], [0, 1, 2, 3, 4, 5, 6, 7, 8, 9, 10, 11, 12, 13, 14, 15, 16, 17, 18, 19, 20, 21, 22, 23, 24, 25, 26, 27, 28, 29, 30, 31, 32, 33, 34, 35, 36, 37, 38, 39, 40, 41, 42, 43], [0, 1, 2, 3, 4, 5, 6, 7, 8, 9, 10, 11, 12, 13, 14, 15, 16, 17, 18, 19, 20, 21, 22, 23, 24, 25, 26, 27, 28, 29, 30, 31, 32, 33, 34, 35, 36, 37, 38, 39, 40, 41, 42, 43, 44], [0, 1, 2, 3, 4, 5, 6, 7, 8, 9, 10, 11, 12, 13, 14, 15, 16, 17, 18, 19, 20, 21, 22, 23, 24, 25, 26, 27, 28, 29, 30, 31, 32, 33, 34, 35, 36, 37, 38, 39, 40, 41, 42, 43, 44, 45]] MX (by kernel_rfl) ?_
    intro w1 hw1 hw2 hw3 hw4; replace hs := hs.redrawn hw1 hw2 hw3 hw4; clear hw1 hw2 hw3 hw4
    obtain ⟨w, rfl⟩ : ∃ w : World, w = w1 := ⟨_, rfl⟩
    refine D_q rfl rfl ?_
    refine s_move rfl rfl ?_
    refine D_qn ?_
    refine D_q rfl rfl ?_
    refine s_len rfl rfl (LN29 _ _ _ _) ?_
    refine D_qn ?_
    refine D_q rfl rfl ?_
    refine s_eql rfl rfl rfl ?_
    refine D_qn ?_
    refine D_q rfl rfl ?_
    refine s_move rfl rfl ?_
    refine WL_know (s := 281) (c := true) rfl (rfl) ?_
    refine D_qn ?_
    refine D_q rfl rfl ?_
    refine WL_take rfl ?_
    refine s_move rfl rfl ?_
    refine D_qn ?_
    refine D_q rfl rfl ?_
    refine WL_take rfl ?_
    (refine s_indexAddr El29 rfl rfl rfl ?hx ?_; case hx => (constructor <;> first | omega | (simp; omega)))
    refine D_qn ?_
    refine D_q rfl rfl ?_
    refine WL_take rfl ?_
    refine s_fieldAddr rfl rfl (FA56_0 _ _) ?_
    refine D_qn ?_
    refine D_q rfl rfl ?_
    refine WL_take rfl ?_
    first
      | refine s_load Try.isAgg3 rfl rfl (hs.cell (k := 0) rfl rfl) ?_
      | refine s_load Try.isAgg3 rfl rfl (hs.cell (k := 1) rfl rfl) ?_
      | refine s_load Try.isAgg3 rfl rfl (hs.cell (k := 2) rfl rfl) ?_
      | refine s_load Try.isAgg3 rfl rfl (hs.cell (k := 3) rfl rfl) ?_
    refine D_qn ?_
    refine D_q rfl rfl ?_
    refine WL_take rfl ?_
    refine s_move rfl rfl ?_
    refine D_qn ?_
    refine D_q rfl rfl ?_
    refine WL_take rfl ?_
    (refine s_indexAddr El29 rfl rfl rfl ?hx ?_; case hx => (constructor <;> first | omega | (simp; omega)))
    refine D_qn ?_
    refine D_q rfl rfl ?_
    refine WL_take rfl ?_
    refine s_fieldAddr rfl rfl (FA56_1 _ _) ?_
    refine D_qn ?_
    refine D_q rfl rfl ?_
    refine WL_take rfl ?_
    first
      | refine s_load Try.isAgg3 rfl rfl (hs.cell (k := 0) rfl rfl) ?_
      | refine s_load Try.isAgg3 rfl rfl (hs.cell (k := 1) rfl rfl) ?_
      | refine s_load Try.isAgg3 rfl rfl (hs.cell (k := 2) rfl rfl) ?_
      | refine s_load Try.isAgg3 rfl rfl (hs.cell (k := 3) rfl rfl) ?_
    refine D_qn ?_
    refine D_q rfl rfl ?_
    refine WL_take rfl ?_
    refine s_eql rfl rfl rfl ?_
    refine D_qn ?_
    refine D_q rfl rfl ?_
    refine s_pick_t rfl rfl rfl ?_
    refine D_qn ?_
    refine D_q rfl rfl ?_
    refine s_move rfl rfl ?_
    refine WL_know (s := 292) (c := true) rfl ((by simp)) ?_
    refine D_qn ?_
    refine D_q rfl rfl ?_
    refine WL_take rfl ?_
    refine s_move rfl rfl ?_
    refine D_qn ?_
    refine D_q rfl rfl ?_
    refine WL_take rfl ?_
    (refine s_indexAddr El29 rfl rfl rfl ?hx ?_; case hx => (constructor <;> first | omega | (simp; omega)))
    refine D_qn ?_
    refine D_q rfl rfl ?_
    refine WL_take rfl ?_
    refine s_fieldAddr rfl rfl (FA56_1 _ _) ?_
    refine D_qn ?_
    refine D_q rfl rfl ?_
    refine WL_take rfl ?_
    first
      | refine s_load Try.isAgg3 rfl rfl (hs.cell (k := 0) rfl rfl) ?_
      | refine s_load Try.isAgg3 rfl rfl (hs.cell (k := 1) rfl rfl) ?_
      | refine s_load Try.isAgg3 rfl rfl (hs.cell (k := 2) rfl rfl) ?_
      | refine s_load Try.isAgg3 rfl rfl (hs.cell (k := 3) rfl rfl) ?_
    refine D_qn ?_
    refine D_q rfl rfl ?_
    refine WL_take rfl ?_
    refine s_move rfl rfl ?_
    refine D_qn ?_
    refine D_q rfl rfl ?_
    refine WL_take rfl ?_
    refine s_eql rfl rfl rfl ?_
    refine D_qn ?_
    refine D_q rfl rfl ?_
    refine s_pick_t rfl rfl rfl ?_
    refine D_qn ?_
    refine D_q rfl rfl ?_
    refine s_move rfl rfl ?_
    refine WL_know (s := 300) (c := true) rfl ((by simp [q0])) ?_
    refine D_qn ?_
    refine D_q rfl rfl ?_
    refine WL_take rfl ?_
    refine s_move rfl rfl ?_
    refine D_qn ?_
    refine D_q rfl rfl ?_
    refine WL_take rfl ?_
    refine s_move rfl rfl ?_
    refine D_qn ?_
    refine D_e rfl ?_
    refine WL_take rfl ?_
    obtain ⟨cs, hp, k0, k1, k2, k4⟩ := rep_head hRE2 fun q hq => hs.own q (by simp [hq])
    refine s_call Try.call20 rfl rfl (term_ok p2 cs C.term w hp k2) ?_
    rintro r w ⟨hst, rfl⟩
    replace hs := hs.back0 hst
    clear hst hp k0 k1 k2 k4 cs
    simp only [List.nil_append] at hs
    refine D_en ?re ?_
    case re =>
      refine Reks_cons rfl rfl rfl rfl ?_ ?_
      · skip
        refine WL_take rfl ?_
        refine s_move rfl rfl ?_
        exact Rek_end rfl
      exact Reks_nil
    refine D_q rfl rfl ?_
    refine WL_take rfl ?_
    refine s_eql rfl rfl rfl ?_
    refine D_qn ?_
    refine D_q rfl rfl ?_
    refine s_pick_t rfl rfl rfl ?_
    refine D_qn ?_
    refine D_q rfl rfl ?_
    refine s_move rfl rfl ?_
    refine WL_know (s := 306) (c := true) rfl ((by simp [d2])) ?_
    refine D_qn ?_
    refine D_q rfl rfl ?_
    refine WL_take rfl ?_
    refine s_move rfl rfl ?_
    refine D_qn ?_
    refine D_q rfl rfl ?_
    refine WL_take rfl ?_
    refine s_eql rfl rfl rfl ?_
    refine D_qn ?_
    refine D_q rfl rfl ?_
    refine WL_take rfl ?_
    refine s_move rfl rfl ?_
    refine WL_case (s := 309) rfl (fun hg309 => ?_) (fun hg309 => ?_)
    · skip
      try simp only [decide_eq_true_eq, decide_eq_false_iff_not, gt_iff_lt, ge_iff_le, beq_iff_eq, beq_eq_false_iff_ne, ne_eq, bne_iff_ne, bne_eq_false_iff_eq, Bool.not_eq_true', Bool.not_eq_false', Bool.not_eq_true, Bool.not_eq_false, Decidable.not_not] at hg309
      refine D_qn ?_
      refine D_q rfl rfl ?_
      refine WL_skip rfl rfl rfl ?_
      refine D_qn ?_
      refine D_q rfl rfl ?_
      refine WL_skip rfl rfl rfl ?_
      refine D_qn ?_
      refine D_q rfl rfl ?_
      refine WL_skip rfl rfl rfl ?_
      refine D_qn ?_
      refine D_q rfl rfl ?_
      refine WL_skip rfl rfl rfl ?_
      refine D_qn ?_
      refine D_q rfl rfl ?_
      refine WL_skip rfl rfl rfl ?_
      refine D_qn ?_
      refine D_q rfl rfl ?_
      refine WL_skip rfl rfl rfl ?_
      refine D_qn ?_
      refine D_q rfl rfl ?_
      refine WL_skipU rfl rfl ?_
      refine D_qn ?_
      refine D_q rfl rfl ?_
      refine WL_skipU rfl rfl ?_
      refine D_qn ?_
      refine D_q rfl rfl ?_
      refine WL_skip rfl rfl rfl ?_
      refine D_qn ?_
      refine D_q rfl rfl ?_
      refine WL_take rfl ?_
      refine s_pick_t rfl rfl rfl ?_
      refine D_qn ?_
      refine D_q rfl rfl ?_
      refine s_pick_t rfl rfl rfl ?_
      refine D_qn ?_
      refine D_q rfl rfl ?_
      refine s_move rfl rfl ?_
      refine D_qn ?_
      refine D_e rfl ?_
      refine WL_take rfl ?_
      refine s_call Try.call19 rfl rfl (lives_ok w) ?_
      rintro r w ⟨hst, rfl⟩
      replace hs := hs.fwd1 hst
      refine D_en ?re ?_
      case re =>
        exact Reks_nil
      refine D_q rfl rfl ?_
      refine s_pick_t rfl rfl rfl ?_
      refine D_qn ?_
      refine D_q rfl rfl ?_
      refine s_assign rfl rfl ?_
      refine D_qn ?_
      refine D_nil ?_
      refine n_then ?_
      refine W_ret ?_
      first | exact end1 rfl rfl ⟨hs.fwd, rfl⟩ | (exfalso; omega)
    · skip
      try simp only [decide_eq_true_eq, decide_eq_false_iff_not, gt_iff_lt, ge_iff_le, beq_iff_eq, beq_eq_false_iff_ne, ne_eq, bne_iff_ne, bne_eq_false_iff_eq, Bool.not_eq_true', Bool.not_eq_false', Bool.not_eq_true, Bool.not_eq_false, Decidable.not_not] at hg309
      refine D_qn ?_
      refine D_q rfl rfl ?_
      refine WL_take rfl ?_
      refine s_move rfl rfl ?_
      refine D_qn ?_
      refine D_q rfl rfl ?_
      refine WL_take rfl ?_
      (refine s_indexAddr El29 rfl rfl rfl ?hx ?_; case hx => (constructor <;> first | omega | (simp; omega)))
      refine D_qn ?_
      refine D_q rfl rfl ?_
      refine WL_take rfl ?_
      refine s_fieldAddr rfl rfl (FA56_1 _ _) ?_
      refine D_qn ?_
      refine D_q rfl rfl ?_
      refine WL_take rfl ?_
      first
        | refine s_load Try.isAgg3 rfl rfl (hs.cell (k := 0) rfl rfl) ?_
        | refine s_load Try.isAgg3 rfl rfl (hs.cell (k := 1) rfl rfl) ?_
        | refine s_load Try.isAgg3 rfl rfl (hs.cell (k := 2) rfl rfl) ?_
        | refine s_load Try.isAgg3 rfl rfl (hs.cell (k := 3) rfl rfl) ?_
      refine D_qn ?_
      refine D_q rfl rfl ?_
      refine WL_take rfl ?_
      refine s_eql rfl rfl rfl ?_
      refine D_qn ?_
      refine D_q rfl rfl ?_
      refine WL_take rfl ?_
      refine s_move rfl rfl ?_
      refine WL_case (s := 315) rfl (fun hg315 => ?_) (fun hg315 => ?_)
      · skip
        try simp only [decide_eq_true_eq, decide_eq_false_iff_not, gt_iff_lt, ge_iff_le, beq_iff_eq, beq_eq_false_iff_ne, ne_eq, bne_iff_ne, bne_eq_false_iff_eq, Bool.not_eq_true', Bool.not_eq_false', Bool.not_eq_true, Bool.not_eq_false, Decidable.not_not] at hg315
        refine D_qn ?_
        refine D_q rfl rfl ?_
        refine WL_take rfl ?_
        refine s_move rfl rfl ?_
        refine D_qn ?_
        refine D_q rfl rfl ?_
        refine WL_take rfl ?_
        refine s_eql rfl rfl rfl ?_
        refine D_qn ?_
        refine D_q rfl rfl ?_
        refine WL_take rfl ?_
        refine s_pick_t rfl rfl rfl ?_
        refine D_qn ?_
        refine D_q rfl rfl ?_
        refine WL_take rfl ?_
        refine s_pick_f rfl rfl rfl ?_
        refine D_qn ?_
        refine D_q rfl rfl ?_
        refine s_pick_t rfl rfl rfl ?_
        refine D_qn ?_
        refine D_q rfl rfl ?_
        refine s_move rfl rfl ?_
        refine WL_know (s := 321) (c := true) rfl ((by first | rfl | (exfalso; omega) | (simp; omega))) ?_
        refine D_qn ?_
        refine D_e rfl ?_
        refine WL_take rfl ?_
        refine s_call Try.call19 rfl rfl (lives_ok w) ?_
        rintro r w ⟨hst, rfl⟩
        replace hs := hs.fwd1 hst
        refine D_en ?re ?_
        case re =>
          exact Reks_nil
        refine D_q rfl rfl ?_
        refine s_pick_t rfl rfl rfl ?_
        refine D_qn ?_
        refine D_q rfl rfl ?_
        refine s_assign rfl rfl ?_
        refine D_qn ?_
        refine D_nil ?_
        refine n_then ?_
        refine W_ret ?_
        first | exact end1 rfl rfl ⟨hs.fwd, rfl⟩ | (exfalso; omega)
      · skip
        try simp only [decide_eq_true_eq, decide_eq_false_iff_not, gt_iff_lt, ge_iff_le, beq_iff_eq, beq_eq_false_iff_ne, ne_eq, bne_iff_ne, bne_eq_false_iff_eq, Bool.not_eq_true', Bool.not_eq_false', Bool.not_eq_true, Bool.not_eq_false, Decidable.not_not] at hg315
        refine D_qn ?_
        refine D_q rfl rfl ?_
        refine WL_skip rfl rfl rfl ?_
        refine D_qn ?_
        refine D_q rfl rfl ?_
        refine WL_skip rfl rfl rfl ?_
        refine D_qn ?_
        refine D_q rfl rfl ?_
        refine WL_take rfl ?_
        refine s_pick_f rfl rfl rfl ?_
        refine D_qn ?_
        refine D_q rfl rfl ?_
        refine WL_take rfl ?_
        refine s_pick_f rfl rfl rfl ?_
        refine D_qn ?_
        refine D_q rfl rfl ?_
        refine s_pick_t rfl rfl rfl ?_
        refine D_qn ?_
        refine D_q rfl rfl ?_
        refine s_move rfl rfl ?_
        refine D_qn ?_
        refine D_e rfl ?_
        refine WL_skip rfl rfl rfl ?_
        refine D_en ?re ?_
        case re =>
          exact Reks_nil
        refine D_q rfl rfl ?_
        refine s_pick_f rfl rfl rfl ?_
        refine D_qn ?_
        refine D_q rfl rfl ?_
        refine s_assign rfl rfl ?_
        refine D_qn ?_
        refine D_nil ?_
        refine n_then ?_
        refine W_ret ?_
        first | exact end1 rfl rfl ⟨hs.fwd, rfl⟩ | (exfalso; omega)
  · skip
    try simp only [decide_eq_true_eq, decide_eq_false_iff_not, gt_iff_lt, ge_iff_le, beq_iff_eq, beq_eq_false_iff_ne, ne_eq, bne_iff_ne, bne_eq_false_iff_eq, Bool.not_eq_true', Bool.not_eq_false', Bool.not_eq_true, Bool.not_eq_false, Decidable.not_not] at hg224
    refine WL_take rfl ?_
    refine s_move rfl rfl ?_
    refine WL_take rfl ?_
    refine s_lss rfl rfl rfl ?_
    refine s_pick_f rfl rfl rfl ?_
    refine s_move rfl rfl ?_
    refine WL_case (s := 228) rfl (fun hg228 => ?_) (fun hg228 => ?_)
    · skip
      try simp only [decide_eq_true_eq, decide_eq_false_iff_not, gt_iff_lt, ge_iff_le, beq_iff_eq, beq_eq_false_iff_ne, ne_eq, bne_iff_ne, bne_eq_false_iff_eq, Bool.not_eq_true', Bool.not_eq_false', Bool.not_eq_true, Bool.not_eq_false, Decidable.not_not] at hg228
      refine WL_skip rfl rfl rfl ?_
      refine WL_skip rfl rfl rfl ?_
      refine WL_skip rfl rfl rfl ?_
      refine s_pick_t rfl rfl rfl ?_
      refine s_move rfl rfl ?_
      refine WL_skip rfl rfl rfl ?_
      refine WL_skip rfl rfl rfl ?_
      refine WL_skip rfl rfl rfl ?_
      refine s_pick_t rfl rfl rfl ?_
      refine s_move rfl rfl ?_
      refine WL_take rfl ?_
      refine s_move rfl rfl ?_
      refine WL_take rfl ?_
      first
        | refine s_loadW Try.isAgg56 Try.sizeOf56 rfl rfl hs (kk := 0) rfl rfl ?_
        | refine s_loadW Try.isAgg56 Try.sizeOf56 rfl rfl hs (kk := 1) rfl rfl ?_
        | refine s_loadW Try.isAgg56 Try.sizeOf56 rfl rfl hs (kk := 2) rfl rfl ?_
        | refine s_loadW Try.isAgg56 Try.sizeOf56 rfl rfl hs (kk := 3) rfl rfl ?_
        | refine s_load_3 Try.isAgg56 Try.sizeOf56 rfl rfl (by first | exact hs.cell (k := 0) rfl rfl | exact hs.cell (k := 1) rfl rfl | exact hs.cell (k := 2) rfl rfl | exact hs.cell (k := 3) rfl rfl) (by first | exact hs.cell (k := 0) rfl rfl | exact hs.cell (k := 1) rfl rfl | exact hs.cell (k := 2) rfl rfl | exact hs.cell (k := 3) rfl rfl) (by first | exact hs.cell (k := 0) rfl rfl | exact hs.cell (k := 1) rfl rfl | exact hs.cell (k := 2) rfl rfl | exact hs.cell (k := 3) rfl rfl) ?_
      refine WL_take rfl ?_
      obtain ⟨cs, hp, k0, k1, k2, k4⟩ := rep_head hRB fun q hq => hs.own q (by simp [hq])
      refine s_call Try.call24 rfl rfl (receive_bad p2 B cs frm to _ w hp k0 k1 ⟨_, _, _, rfl⟩ (by omega)) ?_
      rintro r w ⟨hst, rfl⟩
      replace hs := hs.back0 hst
      clear hst hp k0 k1 k2 k4 cs
      simp only [List.nil_append] at hs
      refine WL_take rfl ?_
      refine s_len rfl rfl (LN29 _ _ _ _) ?_
      refine WL_take rfl ?_
      refine s_neq rfl rfl rfl ?_
      refine WL_take rfl ?_
      refine s_move rfl rfl ?_
      refine WL_know (s := 244) (c := false) rfl (rfl) ?_
      refine WL_take rfl ?_
      refine s_move rfl rfl ?_
      refine WL_take rfl ?_
      obtain ⟨cs, hp, k0, k1, k2, k4⟩ := rep_head hRB fun q hq => hs.own q (by simp [hq])
      refine s_call Try.call20 rfl rfl (term_ok p2 cs B.term w hp k2) ?_
      rintro r w ⟨hst, rfl⟩
      replace hs := hs.back0 hst
      clear hst hp k0 k1 k2 k4 cs
      simp only [List.nil_append] at hs
      refine WL_take rfl ?_
      refine s_neq rfl rfl rfl ?_
      refine WL_take rfl ?_
      refine s_pick_f rfl rfl rfl ?_
      refine s_pick_t rfl rfl rfl ?_
      refine WL_nil ?_
      refine n_then ?_
      refine W_cond_kf rfl ((by first | rfl | simp [b2])) ?_
      refine W_skip ?_
      refine n_then ?_
      refine W_seq ?_
      refine W_region ?_
      refine s_move rfl rfl ?_
      (refine s_indexAddr El29 rfl rfl rfl ?hx ?_; case hx => (constructor <;> first | omega | (simp; omega)))
      first
        | refine s_loadW Try.isAgg56 Try.sizeOf56 rfl rfl hs (kk := 0) rfl rfl ?_
        | refine s_loadW Try.isAgg56 Try.sizeOf56 rfl rfl hs (kk := 1) rfl rfl ?_
        | refine s_loadW Try.isAgg56 Try.sizeOf56 rfl rfl hs (kk := 2) rfl rfl ?_
        | refine s_loadW Try.isAgg56 Try.sizeOf56 rfl rfl hs (kk := 3) rfl rfl ?_
        | refine s_load_3 Try.isAgg56 Try.sizeOf56 rfl rfl (by first | exact hs.cell (k := 0) rfl rfl | exact hs.cell (k := 1) rfl rfl | exact hs.cell (k := 2) rfl rfl | exact hs.cell (k := 3) rfl rfl) (by first | exact hs.cell (k := 0) rfl rfl | exact hs.cell (k := 1) rfl rfl | exact hs.cell (k := 2) rfl rfl | exact hs.cell (k := 3) rfl rfl) (by first | exact hs.cell (k := 0) rfl rfl | exact hs.cell (k := 1) rfl rfl | exact hs.cell (k := 2) rfl rfl | exact hs.cell (k := 3) rfl rfl) ?_
      refine s_alloc rfl AL56 hs ?_; clear hs; intro b27 w hs
      first
        | refine s_storeW Try.sizeOf56 rfl rfl rfl rfl hs (kk := 0) rfl rfl ?_
        | refine s_storeW Try.sizeOf56 rfl rfl rfl rfl hs (kk := 1) rfl rfl ?_
        | refine s_storeW Try.sizeOf56 rfl rfl rfl rfl hs (kk := 2) rfl rfl ?_
        | refine s_storeW Try.sizeOf56 rfl rfl rfl rfl hs (kk := 3) rfl rfl ?_
        | refine s_storeAB Try.sizeOf56 rfl rfl rfl rfl hs (kk := 0) rfl rfl ?_
        | refine s_storeAB Try.sizeOf56 rfl rfl rfl rfl hs (kk := 1) rfl rfl ?_
        | refine s_storeAB Try.sizeOf56 rfl rfl rfl rfl hs (kk := 2) rfl rfl ?_
        | refine s_storeAB Try.sizeOf56 rfl rfl rfl rfl hs (kk := 3) rfl rfl ?_
      clear hs; intro w hs; try simp only [List.set_cons_zero, List.set_cons_succ, splice, List.take_succ_cons, List.take_zero, List.drop_succ_cons, List.drop_zero, List.nil_append, List.cons_append, List.length_cons, List.length_nil, Nat.reduceAdd, List.append_assoc] at hs
      refine WL_nil ?_
      refine n_then ?_
      refine W_seq ?_
      refine W_region ?_
      refine s_fieldAddr rfl rfl (FA56_2 _ _) ?_
      first
        | refine s_storeB Try.sizeOf22 rfl rfl rfl hs (kk := 0) rfl rfl ?_
        | refine s_storeB Try.sizeOf22 rfl rfl rfl hs (kk := 1) rfl rfl ?_
        | refine s_storeB Try.sizeOf22 rfl rfl rfl hs (kk := 2) rfl rfl ?_
        | refine s_storeB Try.sizeOf22 rfl rfl rfl hs (kk := 3) rfl rfl ?_
      clear hs; intro w hs; try simp only [List.set_cons_zero, List.set_cons_succ, splice, List.take_succ_cons, List.take_zero, List.drop_succ_cons, List.drop_zero, List.nil_append, List.cons_append, List.length_cons, List.length_nil, Nat.reduceAdd, List.append_assoc] at hs
      refine WL_nil ?_
      refine n_then ?_
      refine W_seq ?_
      refine W_seq ?_
      refine W_region ?_
      refine s_move rfl rfl ?_
      first
        | refine s_loadW Try.isAgg56 Try.sizeOf56 rfl rfl hs (kk := 0) rfl rfl ?_
        | refine s_loadW Try.isAgg56 Try.sizeOf56 rfl rfl hs (kk := 1) rfl rfl ?_
        | refine s_loadW Try.isAgg56 Try.sizeOf56 rfl rfl hs (kk := 2) rfl rfl ?_
        | refine s_loadW Try.isAgg56 Try.sizeOf56 rfl rfl hs (kk := 3) rfl rfl ?_
        | refine s_load_3 Try.isAgg56 Try.sizeOf56 rfl rfl (by first | exact hs.cell (k := 0) rfl rfl | exact hs.cell (k := 1) rfl rfl | exact hs.cell (k := 2) rfl rfl | exact hs.cell (k := 3) rfl rfl) (by first | exact hs.cell (k := 0) rfl rfl | exact hs.cell (k := 1) rfl rfl | exact hs.cell (k := 2) rfl rfl | exact hs.cell (k := 3) rfl rfl) (by first | exact hs.cell (k := 0) rfl rfl | exact hs.cell (k := 1) rfl rfl | exact hs.cell (k := 2) rfl rfl | exact hs.cell (k := 3) rfl rfl) ?_
      obtain ⟨cs, hp, k0, k1, k2, k4⟩ := rep_head hRB fun q hq => hs.own q (by simp [hq])
      refine s_call Try.call24 rfl rfl (receive_none p2 B cs R.id (.slice none 0 0) w hp k0 k1 ⟨none, 0, rfl, Nat.le_refl _, .inl rfl⟩ (by omega) (by omega)) ?_
      rintro r w ⟨hst, rfl⟩
      replace hs := hs.fwd1 hst
      clear hst hp k0 k1 k2 k4 cs
      refine s_len rfl rfl (LN29 _ _ _ _) ?_
      refine s_neq rfl rfl rfl ?_
      refine s_move rfl rfl ?_
      refine WL_know (s := 259) (c := false) rfl (rfl) ?_
      refine WL_take rfl ?_
      refine s_move rfl rfl ?_
      refine WL_take rfl ?_
      obtain ⟨cs, hp, k0, k1, k2, k4⟩ := rep_head hRB fun q hq => hs.own q (by simp [hq])
      refine s_call Try.call20 rfl rfl (term_ok p2 cs B.term w hp k2) ?_
      rintro r w ⟨hst, rfl⟩
      replace hs := hs.back0 hst
      clear hst hp k0 k1 k2 k4 cs
      simp only [List.nil_append] at hs
      refine WL_take rfl ?_
      refine s_neq rfl rfl rfl ?_
      refine s_pick_f rfl rfl rfl ?_
      refine WL_nil ?_
      refine n_then ?_
      refine W_cond_kf rfl ((by simp [b2])) ?_
      refine W_skip ?_
      refine n_then ?_
      refine W_seq ?_
      refine W_region ?_
      refine s_move rfl rfl ?_
      refine s_move rfl rfl ?_
      (refine s_indexAddr El29 rfl rfl rfl ?hx ?_; case hx => (constructor <;> first | omega | (simp; omega)))
      first
        | refine s_loadW Try.isAgg56 Try.sizeOf56 rfl rfl hs (kk := 0) rfl rfl ?_
        | refine s_loadW Try.isAgg56 Try.sizeOf56 rfl rfl hs (kk := 1) rfl rfl ?_
        | refine s_loadW Try.isAgg56 Try.sizeOf56 rfl rfl hs (kk := 2) rfl rfl ?_
        | refine s_loadW Try.isAgg56 Try.sizeOf56 rfl rfl hs (kk := 3) rfl rfl ?_
        | refine s_load_3 Try.isAgg56 Try.sizeOf56 rfl rfl (by first | exact hs.cell (k := 0) rfl rfl | exact hs.cell (k := 1) rfl rfl | exact hs.cell (k := 2) rfl rfl | exact hs.cell (k := 3) rfl rfl) (by first | exact hs.cell (k := 0) rfl rfl | exact hs.cell (k := 1) rfl rfl | exact hs.cell (k := 2) rfl rfl | exact hs.cell (k := 3) rfl rfl) (by first | exact hs.cell (k := 0) rfl rfl | exact hs.cell (k := 1) rfl rfl | exact hs.cell (k := 2) rfl rfl | exact hs.cell (k := 3) rfl rfl) ?_
      replace hs : St [] w0 w ([(g, Blk 56 ([.int .i64 (R.id : Int), .int .i64 (B.id : Int), .slice va (mesB (askM tn)).length vc] ++ RS))] ++ (L2 ++ LMP)) := by simpa using hs.tail.tail
      refine s_callL (M := [_]) (L1 := L2) (X := LMP) Try.call24 rfl rfl hs (fun h => receive_ok p2 B L2 (askM tn) R.id (.slice va (mesB (askM tn)).length vc) w hRB (hxv.sl w fun q hq => hs.own q (by simp [hq])) (fun a m c he hne => hs.apartY (M := [_]) (hxv.inL a m c he hne)) (askM_ok (by omega)) (by omega) (by omega) h) ?_
      clear hs; rintro u w L9 ⟨Lr, LQ, rfl, hRC, hMC⟩ - hs
      have hrv : B.recv (askM tn) R.id = (B.follow tn, [⟨B.id, R.id, (B.follow tn).voteM⟩]) := by rw [Rp.recv, if_pos (show (askM tn).kind = 0 from rfl), Rp.ask, if_neg (by rw [b2]; simp)]; rfl
      rw [hrv] at hRC hMC
      simp only at hRC hMC
      obtain ⟨C, hC⟩ : ∃ C, C = B.follow tn := ⟨_, rfl⟩
      have hCe : C.id = B.id ∧ C.mem = B.mem ∧ C.term = tn := by rw [hC, Rp.follow, if_pos (by omega)]; exact ⟨rfl, rfl, rfl⟩
      rw [← hC] at hRC hMC
      clear hrv hC hRB
      obtain ⟨d0, d1, d2⟩ := hCe
      obtain ⟨mm, LMB, LMP2, rfl, hOM, hMM2, hmm⟩ := hMC
      rcases mm with _ | ⟨x, mr2⟩
      · cases hmm
      simp only [List.map_cons, List.cons.injEq, List.map_eq_nil_iff] at hmm
      obtain ⟨hmx, rfl⟩ := hmm
      obtain ⟨g2, mc2, sp2, rfl, hmc2, rfl⟩ := hOM.block (by simp)
      obtain ⟨xs, xv⟩ := x
      simp only at hmx
      subst hmx
      replace hs : St [] w0 w ([(g, Blk 56 ([.int .i64 (R.id : Int), .int .i64 (B.id : Int), .slice va (mesB (askM tn)).length vc] ++ RS))] ++ (LQ ++ [(g2, Blk 56 ([.int .i64 (B.id : Int), .int .i64 (R.id : Int), xv] ++ sp2))])) := by simpa [cat, mmcells, Mm.cells] using St.reord [[_], LQ, [_], LMP2, LMP] [0, 1, 2] [3, 4] (by simpa [cat, mmcells, Mm.cells] using hs) rfl
      clear hOM
      simp only [List.length_cons, List.length_nil, Nat.zero_add]
      refine s_assign rfl rfl ?_
      refine WL_nil ?_
      refine n_then ?_
      refine W_seq ?_
      refine W_region ?_
      refine s_move rfl rfl ?_
      refine s_move rfl rfl ?_
      (refine s_indexAddr El29 rfl rfl rfl ?hx ?_; case hx => (constructor <;> first | omega | (simp; omega)))
      refine s_fieldAddr rfl rfl (FA56_1 _ _) ?_
      first
        | refine s_load Try.isAgg3 rfl rfl (hs.cell (k := 0) rfl rfl) ?_
        | refine s_load Try.isAgg3 rfl rfl (hs.cell (k := 1) rfl rfl) ?_
        | refine s_load Try.isAgg3 rfl rfl (hs.cell (k := 2) rfl rfl) ?_
        | refine s_load Try.isAgg3 rfl rfl (hs.cell (k := 3) rfl rfl) ?_
      have hel2 : C.elect (B.id : Int) = (C, [], if B.id = 0 then 1 else 20) := by
        have hmm : C.mem = 2 ∨ C.mem = 3 := by omega
        rw [← d0]
        refine elect_other hmm (by omega) ?_
        rcases ho with ⟨h1, h2⟩ | ⟨h1, h2⟩
        · refine .inr ⟨by omega, ?_⟩
          obtain ⟨_, _, h3⟩ := hx
          rcases hmm with h4 | h4
          · have h5 : mem = 2 := by omega
            rw [h5] at h3; omega
          · have h5 : mem = 3 := by omega
            rw [h5] at h3; omega
        · exact .inl (by omega)
      refine s_callL (M := [_]) (L1 := LQ) (X := [_]) Try.call9 rfl rfl hs (fun h => elect_ok p2 C LQ (B.id : Int) w hRC (by unfold isI64; omega) h) ?_
      clear hs; rintro u w L9 ⟨rv1, Lm2, LE2, rfl, rfl, hRE2, -⟩ - hs
      rw [hel2] at hRE2 ⊢
      simp only at hRE2 ⊢
      obtain ⟨er, her⟩ : ∃ er : Int, er = if B.id = 0 then 1 else 20 := ⟨_, rfl⟩
      rw [← her]
      replace her : (B.id = 0 ∧ er = 1) ∨ (B.id = 1 ∧ er = 20) := by
        rw [her]
        by_cases h : B.id = 0
        · exact .inl ⟨h, if_pos h⟩
        · exact .inr ⟨by omega, if_neg h⟩
      replace hs : St [] w0 w ([(g, Blk 56 ([.int .i64 (R.id : Int), .int .i64 (B.id : Int), .slice va (mesB (askM tn)).length vc] ++ RS))] ++ ([(g2, Blk 56 ([.int .i64 (B.id : Int), .int .i64 (R.id : Int), xv] ++ sp2))] ++ LE2)) := by simpa [cat] using St.reord [[_], LE2, Lm2, [_]] [0, 3, 1] [2] (by simpa [cat] using hs) rfl
      simp only [List.cons_append, List.nil_append] at hs
      obtain ⟨cs, hp, k0, k1, k2, k4⟩ := rep_head hRE2 fun q hq => hs.own q (by simp [hq])
      refine s_move rfl rfl ?_
      refine s_extract rfl rfl rfl ?_
      refine s_extract rfl rfl rfl ?_
      refine s_assign rfl rfl ?_
      refine s_assign rfl rfl ?_
      refine WL_nil ?_
      refine n_then ?_
      refine W_seq ?_
      refine W_draw [(0, true, []), (1, true, []), (2, true, []), (3, true, []), (4, true, []), (5, true, []), (6, true, []), (7, true, []), (8, true, []), (9, true, []), (10, true, []), (11, true, []), (12, true, []), (13, true, []), (14, true, []), (15, true, []), (16, true, []), (17, true, []), (18, true, []), (19, true, []), (20, true, []), (21, true, []), (22, true, []), (23, true, []), (25, true, []), (24, false, [25]), (26, true, []), (27, true, []), (28, true, []), (29, true, []), (30, true, []), (31, true, []), (32, true, []), (33, true, []), (34, true, []), (35, true, []), (36, true, []), (37, true, []), (38, true, []), (39, true, []), (40, true, []), (41, true, []), (42, true, []), (43, true, []), (44, false, []), (45, true, []), (46, true, [])] [[], [0], [0, 1], [0, 1, 2], [0, 1, 2, 3], [0, 1, 2, 3, 4], [0, 1, 2, 3, 4, 5], [0, 1, 2, 3, 4, 5, 6], [0, 1, 2, 3], [0, 1, 2, 3, 8], [0, 1, 2, 3, 8, 9], [0, 1, 2, 3, 8, 9, 10], [0, 1, 2, 3, 4, 5, 6, 7, 8, 9, 10, 11], [0, 1, 2, 3, 4, 5, 6, 7, 8, 9, 10, 11, 12], [0, 1, 2, 3, 4, 5, 6, 7, 8, 9, 10, 11, 12, 13], [0, 1, 2, 3, 4, 5, 6, 7, 8, 9, 10, 11, 12, 13, 14], [0, 1, 2, 3, 4, 5, 6, 7, 8, 9, 10, 11, 12, 13, 14, 15], [0, 1, 2, 3, 4, 5, 6, 7, 8, 9, 10, 11, 12, 13, 14, 15, 16], [0, 1, 2, 3, 4, 5, 6, 7, 8, 9, 10, 11, 12, 13, 14, 15, 16, 17], [0, 1, 2, 3, 4, 5, 6, 7, 8, 9, 10, 11, 12, 13, 14], [0, 1, 2, 3, 4, 5, 6, 7, 8, 9, 10, 11, 12, 13, 14, 15, 16, 17, 18, 19], [0, 1, 2, 3, 4, 5, 6, 7, 8, 9, 10, 11, 12, 13, 14, 15, 16, 17, 18, 19, 20], [0, 1, 2, 3, 4, 5, 6, 7, 8, 9, 10, 11, 12, 13, 14, 15, 16, 17, 18, 19, 20, 21], [0, 1, 2, 3, 4, 5, 6, 7, 8, 9, 10, 11, 12, 13, 14, 15, 16, 17, 18, 19, 20, 21, 22], [0, 1, 2, 3, 4, 5, 6, 7, 8, 9, 10, 11, 12, 13, 14, 15, 16, 17, 18, 19, 20, 21, 22, 23], [0, 1, 2, 3, 4, 5, 6, 7, 8, 9, 10, 11, 12, 13, 14, 15, 16, 17, 18, 19, 20, 21, 22], [0, 1, 2, 3, 4, 5, 6, 7, 8, 9, 10, 11, 12, 13, 14, 15, 16, 17, 18, 19, 20, 21, 22, 23, 24, 25], [0, 1, 2, 3, 4, 5, 6, 7, 8, 9, 10, 11, 12, 13, 14, 15, 16, 17, 18, 19, 20, 21, 22, 23, 24, 25, 26], [0, 1, 2, 3, 4, 5, 6, 7, 8, 9, 10, 11, 12, 13, 14, 15, 16, 17, 18, 19, 20, 21, 22, 23, 24, 25, 26, 27], [0, 1, 2, 3, 4, 5, 6, 7, 8, 9, 10, 11, 12, 13, 14, 15, 16, 17, 18, 19, 20, 21, 22, 23, 24, 25, 26, 27, 28], [0, 1, 2, 3, 4, 5, 6, 7, 8, 9, 10, 11, 12, 13, 14, 15, 16, 17, 18, 19, 20, 21, 22, 23, 24, 25, 26, 27, 28, 29], [0, 1, 2, 3, 4, 5, 6, 7, 8, 9, 10, 11, 12, 13, 14, 15, 16, 17, 18, 19, 20, 21, 22, 23, 24, 25, 26, 27, 28, 29, 30], [0, 1, 2, 3, 4, 5, 6, 7, 8, 9, 10, 11, 12, 13, 14, 15, 16, 17, 18, 19, 20, 21, 22, 23, 24, 25, 26, 27, 28, 29, 30, 31], [0, 1, 2, 3, 4, 5, 6, 7, 8, 9, 10, 11, 12, 13, 14, 15, 16, 17, 18, 19, 20, 21, 22, 23, 24, 25, 26, 27, 28, 29, 30, 31, 32], [0, 1, 2, 3, 4, 5, 6, 7, 8, 9, 10, 11, 12, 13, 14, 15, 16, 17, 18, 19, 20, 21, 22, 23, 24, 25, 26, 27, 28, 29, 30, 31, 32, 33], [0, 1, 2, 3, 4, 5, 6, 7, 8, 9, 10, 11, 12, 13, 14, 15, 16, 17, 18, 19, 20, 21, 22, 23, 24, 25, 26, 27, 28, 29, 30, 31, 32, 33, 34], [0, 1, 2, 3, 4, 5, 6, 7, 8, 9, 10, 11, 12, 13, 14, 15, 16, 17, 18, 19, 20, 21, 22, 23, 24, 25, 26, 27, 28, 29, 30, 31, 32, 33, 34, 35], [0, 1, 2, 3, 4, 5, 6, 7, 8, 9, 10, 11, 12, 13, 14, 15, 16, 17, 18, 19, 20, 21, 22, 23, 24, 25, 26, 27, 28, 29, 30, 31, 32, 33, 34, 35, 36], [0, 1, 2, 3, 4, 5, 6, 7, 8, 9, 10, 11, 12, 13, 14, 15, 16, 17, 18, 19, 20, 21, 22, 23, 24, 25, 26, 27, 28, 29, 30, 31, 32, 33, 34, 35, 36, 37], [0, 1, 2, 3, 4, 5, 6, 7, 8, 9, 10, 11, 12, 13, 14, 15, 16, 17, 18, 19, 20, 21, 22, 23, 24, 25, 26, 27, 28, 29, 30, 31, 32, 33, 34, 35, 36, 37, 38], [0, 1, 2, 3, 4, 5, 6, 7, 8, 9, 10, 11, 12, 13, 14, 15, 16, 17, 18, 19, 20, 21, 22, 23, 24, 25, 26, 27, 28, 29, 30, 31, 32, 33, 34, 35, 36, 37, 38, 39], [0, 1, 2, 3, 4, 5, 6, 7, 8, 9, 10, 11, 12, 13, 14, 15, 16, 17, 18, 19, 20, 21, 22, 23, 24, 25, 26, 27, 28, 29, 30, 31, 32, 33, 34, 35, 36, 37, 38, 39, 40], [0, 1, 2, 3, 4, 5, 6, 7, 8, 9, 10, 11, 12, 13, 14, 15, 16, 17, 18, 19, 20, 21, 22, 23, 24, 25, 26, 27, 28, 29, 30, 31, 32, 33, 34, 35, 36, 37, 38, 39, 40, 41], [0, 1, 2, 3, 4, 5, 6, 7, 8, 9, 10, 11, 12, 13, 14, 15, 16, 17, 18, 19, 20, 21, 22, 23, 24, 25, 26, 27, 28, 29, 30, 31, 32, 33, 34, 35, 36, 37, 38, 39, 40, 41, 42], [0, 1, 2, 3, 4, 5, 6, 7, 8, 9, 10, 11, 12, 13, 14, 15, 16, 17, 18, 19, 20, 21, 22, 23, 24, 25, 26, 27, 28, 29, 30, 31, 32, 33, 34, 35, 36, 37, 38, 39, 40, 41, 42, 43], [0, 1, 2, 3, 4, 5, 6, 7, 8, 9, 10, 11, 12, 13, 14, 15, 16, 17, 18, 19, 20, 21, 22, 23, 24, 25, 26, 27, 28, 29, 30, 31, 32, 33, 34, 35, 36, 37, 38, 39, 40, 41, 42, 43, 44], [0, 1, 2, 3, 4, 5, 6, 7, 8, 9, 10, 11, 12, 13, 14, 15, 16, 17, 18, 19, 20, 21, 22, 23, 24, 25, 26, 27, 28, 29, 30, 31, 32, 33, 34, 35, 36, 37, 38, 39, 40, 41, 42, 43, 44, 45]] MX (by kernel_rfl) ?_
      intro w1 hw1 hw2 hw3 hw4; replace hs := hs.redrawn hw1 hw2 hw3 hw4; clear hw1 hw2 hw3 hw4
      obtain ⟨w, rfl⟩ : ∃ w : World, w = w1 := ⟨_, rfl⟩
      refine D_q rfl rfl ?_
      refine s_move rfl rfl ?_
      refine D_qn ?_
      refine D_q rfl rfl ?_
      refine s_len rfl rfl (LN29 _ _ _ _) ?_
      refine D_qn ?_
      refine D_q rfl rfl ?_
      refine s_eql rfl rfl rfl ?_
      refine D_qn ?_
      refine D_q rfl rfl ?_
      refine s_move rfl rfl ?_
      refine WL_know (s := 281) (c := true) rfl (rfl) ?_
      refine D_qn ?_
      refine D_q rfl rfl ?_
      refine WL_take rfl ?_
      refine s_move rfl rfl ?_
      refine D_qn ?_
      refine D_q rfl rfl ?_
      refine WL_take rfl ?_
      (refine s_indexAddr El29 rfl rfl rfl ?hx ?_; case hx => (constructor <;> first | omega | (simp; omega)))
      refine D_qn ?_
      refine D_q rfl rfl ?_
      refine WL_take rfl ?_
      refine s_fieldAddr rfl rfl (FA56_0 _ _) ?_
      refine D_qn ?_
      refine D_q rfl rfl ?_
      refine WL_take rfl ?_
      first
        | refine s_load Try.isAgg3 rfl rfl (hs.cell (k := 0) rfl rfl) ?_
        | refine s_load Try.isAgg3 rfl rfl (hs.cell (k := 1) rfl rfl) ?_
        | refine s_load Try.isAgg3 rfl rfl (hs.cell (k := 2) rfl rfl) ?_
        | refine s_load Try.isAgg3 rfl rfl (hs.cell (k := 3) rfl rfl) ?_
      refine D_qn ?_
      refine D_q rfl rfl ?_
      refine WL_take rfl ?_
      refine s_move rfl rfl ?_
      refine D_qn ?_
      refine D_q rfl rfl ?_
      refine WL_take rfl ?_
      (refine s_indexAddr El29 rfl rfl rfl ?hx ?_; case hx => (constructor <;> first | omega | (simp; omega)))
      refine D_qn ?_
      refine D_q rfl rfl ?_
      refine WL_take rfl ?_
      refine s_fieldAddr rfl rfl (FA56_1 _ _) ?_
      refine D_qn ?_
      refine D_q rfl rfl ?_
      refine WL_take rfl ?_
      first
        | refine s_load Try.isAgg3 rfl rfl (hs.cell (k := 0) rfl rfl) ?_
        | refine s_load Try.isAgg3 rfl rfl (hs.cell (k := 1) rfl rfl) ?_
        | refine s_load Try.isAgg3 rfl rfl (hs.cell (k := 2) rfl rfl) ?_
        | refine s_load Try.isAgg3 rfl rfl (hs.cell (k := 3) rfl rfl) ?_
      refine D_qn ?_
      refine D_q rfl rfl ?_
      refine WL_take rfl ?_
      refine s_eql rfl rfl rfl ?_
      refine D_qn ?_
      refine D_q rfl rfl ?_
      refine s_pick_t rfl rfl rfl ?_
      refine D_qn ?_
      refine D_q rfl rfl ?_
      refine s_move rfl rfl ?_
      refine WL_know (s := 292) (c := true) rfl ((by simp)) ?_
      refine D_qn ?_
      refine D_q rfl rfl ?_
      refine WL_take rfl ?_
      refine s_move rfl rfl ?_
      refine D_qn ?_
      refine D_q rfl rfl ?_
      refine WL_take rfl ?_
      (refine s_indexAddr El29 rfl rfl rfl ?hx ?_; case hx => (constructor <;> first | omega | (simp; omega)))
      refine D_qn ?_
      refine D_q rfl rfl ?_
      refine WL_take rfl ?_
      refine s_fieldAddr rfl rfl (FA56_1 _ _) ?_
      refine D_qn ?_
      refine D_q rfl rfl ?_
      refine WL_take rfl ?_
      first
        | refine s_load Try.isAgg3 rfl rfl (hs.cell (k := 0) rfl rfl) ?_
        | refine s_load Try.isAgg3 rfl rfl (hs.cell (k := 1) rfl rfl) ?_
        | refine s_load Try.isAgg3 rfl rfl (hs.cell (k := 2) rfl rfl) ?_
        | refine s_load Try.isAgg3 rfl rfl (hs.cell (k := 3) rfl rfl) ?_
      refine D_qn ?_
      refine D_q rfl rfl ?_
      refine WL_take rfl ?_
      refine s_move rfl rfl ?_
      refine D_qn ?_
      refine D_q rfl rfl ?_
      refine WL_take rfl ?_
      refine s_eql rfl rfl rfl ?_
      refine D_qn ?_
      refine D_q rfl rfl ?_
      refine s_pick_t rfl rfl rfl ?_
      refine D_qn ?_
      refine D_q rfl rfl ?_
      refine s_move rfl rfl ?_
      refine WL_know (s := 300) (c := true) rfl ((by simp [q0])) ?_
      refine D_qn ?_
      refine D_q rfl rfl ?_
      refine WL_take rfl ?_
      refine s_move rfl rfl ?_
      refine D_qn ?_
      refine D_q rfl rfl ?_
      refine WL_take rfl ?_
      refine s_move rfl rfl ?_
      refine D_qn ?_
      refine D_e rfl ?_
      refine WL_take rfl ?_
      obtain ⟨cs, hp, k0, k1, k2, k4⟩ := rep_head hRE2 fun q hq => hs.own q (by simp [hq])
      refine s_call Try.call20 rfl rfl (term_ok p2 cs C.term w hp k2) ?_
      rintro r w ⟨hst, rfl⟩
      replace hs := hs.back0 hst
      clear hst hp k0 k1 k2 k4 cs
      simp only [List.nil_append] at hs
      refine D_en ?re ?_
      case re =>
        refine Reks_cons rfl rfl rfl rfl ?_ ?_
        · skip
          refine WL_take rfl ?_
          refine s_move rfl rfl ?_
          exact Rek_end rfl
        exact Reks_nil
      refine D_q rfl rfl ?_
      refine WL_take rfl ?_
      refine s_eql rfl rfl rfl ?_
      refine D_qn ?_
      refine D_q rfl rfl ?_
      refine s_pick_t rfl rfl rfl ?_
      refine D_qn ?_
      refine D_q rfl rfl ?_
      refine s_move rfl rfl ?_
      refine WL_know (s := 306) (c := true) rfl ((by simp [d2])) ?_
      refine D_qn ?_
      refine D_q rfl rfl ?_
      refine WL_take rfl ?_
      refine s_move rfl rfl ?_
      refine D_qn ?_
      refine D_q rfl rfl ?_
      refine WL_take rfl ?_
      refine s_eql rfl rfl rfl ?_
      refine D_qn ?_
      refine D_q rfl rfl ?_
      refine WL_take rfl ?_
      refine s_move rfl rfl ?_
      refine WL_case (s := 309) rfl (fun hg309 => ?_) (fun hg309 => ?_)
      · skip
        try simp only [decide_eq_true_eq, decide_eq_false_iff_not, gt_iff_lt, ge_iff_le, beq_iff_eq, beq_eq_false_iff_ne, ne_eq, bne_iff_ne, bne_eq_false_iff_eq, Bool.not_eq_true', Bool.not_eq_false', Bool.not_eq_true, Bool.not_eq_false, Decidable.not_not] at hg309
        refine D_qn ?_
        refine D_q rfl rfl ?_
        refine WL_skip rfl rfl rfl ?_
        refine D_qn ?_
        refine D_q rfl rfl ?_
        refine WL_skip rfl rfl rfl ?_
        refine D_qn ?_
        refine D_q rfl rfl ?_
        refine WL_skip rfl rfl rfl ?_
        refine D_qn ?_
        refine D_q rfl rfl ?_
        refine WL_skip rfl rfl rfl ?_
        refine D_qn ?_
        refine D_q rfl rfl ?_
        refine WL_skip rfl rfl rfl ?_
        refine D_qn ?_
        refine D_q rfl rfl ?_
        refine WL_skip rfl rfl rfl ?_
        refine D_qn ?_
        refine D_q rfl rfl ?_
        refine WL_skipU rfl rfl ?_
        refine D_qn ?_
        refine D_q rfl rfl ?_
        refine WL_skipU rfl rfl ?_
        refine D_qn ?_
        refine D_q rfl rfl ?_
        refine WL_skip rfl rfl rfl ?_
        refine D_qn ?_
        refine D_q rfl rfl ?_
        refine WL_take rfl ?_
        refine s_pick_t rfl rfl rfl ?_
        refine D_qn ?_
        refine D_q rfl rfl ?_
        refine s_pick_t rfl rfl rfl ?_
        refine D_qn ?_
        refine D_q rfl rfl ?_
        refine s_move rfl rfl ?_
        refine D_qn ?_
        refine D_e rfl ?_
        refine WL_take rfl ?_
        refine s_call Try.call19 rfl rfl (lives_ok w) ?_
        rintro r w ⟨hst, rfl⟩
        replace hs := hs.fwd1 hst
        refine D_en ?re ?_
        case re =>
          exact Reks_nil
        refine D_q rfl rfl ?_
        refine s_pick_t rfl rfl rfl ?_
        refine D_qn ?_
        refine D_q rfl rfl ?_
        refine s_assign rfl rfl ?_
        refine D_qn ?_
        refine D_nil ?_
        refine n_then ?_
        refine W_ret ?_
        first | exact end1 rfl rfl ⟨hs.fwd, rfl⟩ | (exfalso; omega)
      · skip
        try simp only [decide_eq_true_eq, decide_eq_false_iff_not, gt_iff_lt, ge_iff_le, beq_iff_eq, beq_eq_false_iff_ne, ne_eq, bne_iff_ne, bne_eq_false_iff_eq, Bool.not_eq_true', Bool.not_eq_false', Bool.not_eq_true, Bool.not_eq_false, Decidable.not_not] at hg309
        refine D_qn ?_
        refine D_q rfl rfl ?_
        refine WL_take rfl ?_
        refine s_move rfl rfl ?_
        refine D_qn ?_
        refine D_q rfl rfl ?_
        refine WL_take rfl ?_
        (refine s_indexAddr El29 rfl rfl rfl ?hx ?_; case hx => (constructor <;> first | omega | (simp; omega)))
        refine D_qn ?_
        refine D_q rfl rfl ?_
        refine WL_take rfl ?_
        refine s_fieldAddr rfl rfl (FA56_1 _ _) ?_
        refine D_qn ?_
        refine D_q rfl rfl ?_
        refine WL_take rfl ?_
        first
          | refine s_load Try.isAgg3 rfl rfl (hs.cell (k := 0) rfl rfl) ?_
          | refine s_load Try.isAgg3 rfl rfl (hs.cell (k := 1) rfl rfl) ?_
          | refine s_load Try.isAgg3 rfl rfl (hs.cell (k := 2) rfl rfl) ?_
          | refine s_load Try.isAgg3 rfl rfl (hs.cell (k := 3) rfl rfl) ?_
        refine D_qn ?_
        refine D_q rfl rfl ?_
        refine WL_take rfl ?_
        refine s_eql rfl rfl rfl ?_
        refine D_qn ?_
        refine D_q rfl rfl ?_
        refine WL_take rfl ?_
        refine s_move rfl rfl ?_
        refine WL_case (s := 315) rfl (fun hg315 => ?_) (fun hg315 => ?_)
        · skip
          try simp only [decide_eq_true_eq, decide_eq_false_iff_not, gt_iff_lt, ge_iff_le, beq_iff_eq, beq_eq_false_iff_ne, ne_eq, bne_iff_ne, bne_eq_false_iff_eq, Bool.not_eq_true', Bool.not_eq_false', Bool.not_eq_true, Bool.not_eq_false, Decidable.not_not] at hg315
          refine D_qn ?_
          refine D_q rfl rfl ?_
          refine WL_take rfl ?_
          refine s_move rfl rfl ?_
          refine D_qn ?_
          refine D_q rfl rfl ?_
          refine WL_take rfl ?_
          refine s_eql rfl rfl rfl ?_
          refine D_qn ?_
          refine D_q rfl rfl ?_
          refine WL_take rfl ?_
          refine s_pick_t rfl rfl rfl ?_
          refine D_qn ?_
          refine D_q rfl rfl ?_
          refine WL_take rfl ?_
          refine s_pick_f rfl rfl rfl ?_
          refine D_qn ?_
          refine D_q rfl rfl ?_
          refine s_pick_t rfl rfl rfl ?_
          refine D_qn ?_
          refine D_q rfl rfl ?_
          refine s_move rfl rfl ?_
          refine WL_know (s := 321) (c := true) rfl ((by first | rfl | (exfalso; omega) | (simp; omega))) ?_
          refine D_qn ?_
          refine D_e rfl ?_
          refine WL_take rfl ?_
          refine s_call Try.call19 rfl rfl (lives_ok w) ?_
          rintro r w ⟨hst, rfl⟩
          replace hs := hs.fwd1 hst
          refine D_en ?re ?_
          case re =>
            exact Reks_nil
          refine D_q rfl rfl ?_
          refine s_pick_t rfl rfl rfl ?_
          refine D_qn ?_
          refine D_q rfl rfl ?_
          refine s_assign rfl rfl ?_
          refine D_qn ?_
          refine D_nil ?_
          refine n_then ?_
          refine W_ret ?_
          first | exact end1 rfl rfl ⟨hs.fwd, rfl⟩ | (exfalso; omega)
        · skip
          try simp only [decide_eq_true_eq, decide_eq_false_iff_not, gt_iff_lt, ge_iff_le, beq_iff_eq, beq_eq_false_iff_ne, ne_eq, bne_iff_ne, bne_eq_false_iff_eq, Bool.not_eq_true', Bool.not_eq_false', Bool.not_eq_true, Bool.not_eq_false, Decidable.not_not] at hg315
          refine D_qn ?_
          refine D_q rfl rfl ?_
          refine WL_skip rfl rfl rfl ?_
          refine D_qn ?_
          refine D_q rfl rfl ?_
          refine WL_skip rfl rfl rfl ?_
          refine D_qn ?_
          refine D_q rfl rfl ?_
          refine WL_take rfl ?_
          refine s_pick_f rfl rfl rfl ?_
          refine D_qn ?_
          refine D_q rfl rfl ?_
          refine WL_take rfl ?_
          refine s_pick_f rfl rfl rfl ?_
          refine D_qn ?_
          refine D_q rfl rfl ?_
          refine s_pick_t rfl rfl rfl ?_
          refine D_qn ?_
          refine D_q rfl rfl ?_
          refine s_move rfl rfl ?_
          refine D_qn ?_
          refine D_e rfl ?_
          refine WL_skip rfl rfl rfl ?_
          refine D_en ?re ?_
          case re =>
            exact Reks_nil
          refine D_q rfl rfl ?_
          refine s_pick_f rfl rfl rfl ?_
          refine D_qn ?_
          refine D_q rfl rfl ?_
          refine s_assign rfl rfl ?_
          refine D_qn ?_
          refine D_nil ?_
          refine n_then ?_
          refine W_ret ?_
          first | exact end1 rfl rfl ⟨hs.fwd, rfl⟩ | (exfalso; omega)
    · skip
      try simp only [decide_eq_true_eq, decide_eq_false_iff_not, gt_iff_lt, ge_iff_le, beq_iff_eq, beq_eq_false_iff_ne, ne_eq, bne_iff_ne, bne_eq_false_iff_eq, Bool.not_eq_true', Bool.not_eq_false', Bool.not_eq_true, Bool.not_eq_false, Decidable.not_not] at hg228
      refine WL_take rfl ?_
      refine s_move rfl rfl ?_
      refine WL_take rfl ?_
      refine s_move rfl rfl ?_
      refine WL_take rfl ?_
      refine s_geq rfl rfl rfl ?_
      refine s_pick_f rfl rfl rfl ?_
      refine s_move rfl rfl ?_
      refine WL_case (s := 233) rfl (fun hg233 => ?_) (fun hg233 => ?_)
      · skip
        try simp only [decide_eq_true_eq, decide_eq_false_iff_not, gt_iff_lt, ge_iff_le, beq_iff_eq, beq_eq_false_iff_ne, ne_eq, bne_iff_ne, bne_eq_false_iff_eq, Bool.not_eq_true', Bool.not_eq_false', Bool.not_eq_true, Bool.not_eq_false, Decidable.not_not] at hg233
        refine WL_skip rfl rfl rfl ?_
        refine WL_skip rfl rfl rfl ?_
        refine WL_skip rfl rfl rfl ?_
        refine s_pick_t rfl rfl rfl ?_
        refine s_move rfl rfl ?_
        refine WL_take rfl ?_
        refine s_move rfl rfl ?_
        refine WL_take rfl ?_
        first
          | refine s_loadW Try.isAgg56 Try.sizeOf56 rfl rfl hs (kk := 0) rfl rfl ?_
          | refine s_loadW Try.isAgg56 Try.sizeOf56 rfl rfl hs (kk := 1) rfl rfl ?_
          | refine s_loadW Try.isAgg56 Try.sizeOf56 rfl rfl hs (kk := 2) rfl rfl ?_
          | refine s_loadW Try.isAgg56 Try.sizeOf56 rfl rfl hs (kk := 3) rfl rfl ?_
          | refine s_load_3 Try.isAgg56 Try.sizeOf56 rfl rfl (by first | exact hs.cell (k := 0) rfl rfl | exact hs.cell (k := 1) rfl rfl | exact hs.cell (k := 2) rfl rfl | exact hs.cell (k := 3) rfl rfl) (by first | exact hs.cell (k := 0) rfl rfl | exact hs.cell (k := 1) rfl rfl | exact hs.cell (k := 2) rfl rfl | exact hs.cell (k := 3) rfl rfl) (by first | exact hs.cell (k := 0) rfl rfl | exact hs.cell (k := 1) rfl rfl | exact hs.cell (k := 2) rfl rfl | exact hs.cell (k := 3) rfl rfl) ?_
        refine WL_take rfl ?_
        obtain ⟨cs, hp, k0, k1, k2, k4⟩ := rep_head hRB fun q hq => hs.own q (by simp [hq])
        refine s_call Try.call24 rfl rfl (receive_bad p2 B cs frm to _ w hp k0 k1 ⟨_, _, _, rfl⟩ (by omega)) ?_
        rintro r w ⟨hst, rfl⟩
        replace hs := hs.back0 hst
        clear hst hp k0 k1 k2 k4 cs
        simp only [List.nil_append] at hs
        refine WL_take rfl ?_
        refine s_len rfl rfl (LN29 _ _ _ _) ?_
        refine WL_take rfl ?_
        refine s_neq rfl rfl rfl ?_
        refine WL_take rfl ?_
        refine s_move rfl rfl ?_
        refine WL_know (s := 244) (c := false) rfl (rfl) ?_
        refine WL_take rfl ?_
        refine s_move rfl rfl ?_
        refine WL_take rfl ?_
        obtain ⟨cs, hp, k0, k1, k2, k4⟩ := rep_head hRB fun q hq => hs.own q (by simp [hq])
        refine s_call Try.call20 rfl rfl (term_ok p2 cs B.term w hp k2) ?_
        rintro r w ⟨hst, rfl⟩
        replace hs := hs.back0 hst
        clear hst hp k0 k1 k2 k4 cs
        simp only [List.nil_append] at hs
        refine WL_take rfl ?_
        refine s_neq rfl rfl rfl ?_
        refine WL_take rfl ?_
        refine s_pick_f rfl rfl rfl ?_
        refine s_pick_t rfl rfl rfl ?_
        refine WL_nil ?_
        refine n_then ?_
        refine W_cond_kf rfl ((by first | rfl | simp [b2])) ?_
        refine W_skip ?_
        refine n_then ?_
        refine W_seq ?_
        refine W_region ?_
        refine s_move rfl rfl ?_
        (refine s_indexAddr El29 rfl rfl rfl ?hx ?_; case hx => (constructor <;> first | omega | (simp; omega)))
        first
          | refine s_loadW Try.isAgg56 Try.sizeOf56 rfl rfl hs (kk := 0) rfl rfl ?_
          | refine s_loadW Try.isAgg56 Try.sizeOf56 rfl rfl hs (kk := 1) rfl rfl ?_
          | refine s_loadW Try.isAgg56 Try.sizeOf56 rfl rfl hs (kk := 2) rfl rfl ?_
          | refine s_loadW Try.isAgg56 Try.sizeOf56 rfl rfl hs (kk := 3) rfl rfl ?_
          | refine s_load_3 Try.isAgg56 Try.sizeOf56 rfl rfl (by first | exact hs.cell (k := 0) rfl rfl | exact hs.cell (k := 1) rfl rfl | exact hs.cell (k := 2) rfl rfl | exact hs.cell (k := 3) rfl rfl) (by first | exact hs.cell (k := 0) rfl rfl | exact hs.cell (k := 1) rfl rfl | exact hs.cell (k := 2) rfl rfl | exact hs.cell (k := 3) rfl rfl) (by first | exact hs.cell (k := 0) rfl rfl | exact hs.cell (k := 1) rfl rfl | exact hs.cell (k := 2) rfl rfl | exact hs.cell (k := 3) rfl rfl) ?_
        refine s_alloc rfl AL56 hs ?_; clear hs; intro b27 w hs
        first
          | refine s_storeW Try.sizeOf56 rfl rfl rfl rfl hs (kk := 0) rfl rfl ?_
          | refine s_storeW Try.sizeOf56 rfl rfl rfl rfl hs (kk := 1) rfl rfl ?_
          | refine s_storeW Try.sizeOf56 rfl rfl rfl rfl hs (kk := 2) rfl rfl ?_
          | refine s_storeW Try.sizeOf56 rfl rfl rfl rfl hs (kk := 3) rfl rfl ?_
          | refine s_storeAB Try.sizeOf56 rfl rfl rfl rfl hs (kk := 0) rfl rfl ?_
          | refine s_storeAB Try.sizeOf56 rfl rfl rfl rfl hs (kk := 1) rfl rfl ?_
          | refine s_storeAB Try.sizeOf56 rfl rfl rfl rfl hs (kk := 2) rfl rfl ?_
          | refine s_storeAB Try.sizeOf56 rfl rfl rfl rfl hs (kk := 3) rfl rfl ?_
        clear hs; intro w hs; try simp only [List.set_cons_zero, List.set_cons_succ, splice, List.take_succ_cons, List.take_zero, List.drop_succ_cons, List.drop_zero, List.nil_append, List.cons_append, List.length_cons, List.length_nil, Nat.reduceAdd, List.append_assoc] at hs
        refine WL_nil ?_
        refine n_then ?_
        refine W_seq ?_
        refine W_region ?_
        refine s_fieldAddr rfl rfl (FA56_2 _ _) ?_
        first
          | refine s_storeB Try.sizeOf22 rfl rfl rfl hs (kk := 0) rfl rfl ?_
          | refine s_storeB Try.sizeOf22 rfl rfl rfl hs (kk := 1) rfl rfl ?_
          | refine s_storeB Try.sizeOf22 rfl rfl rfl hs (kk := 2) rfl rfl ?_
          | refine s_storeB Try.sizeOf22 rfl rfl rfl hs (kk := 3) rfl rfl ?_
        clear hs; intro w hs; try simp only [List.set_cons_zero, List.set_cons_succ, splice, List.take_succ_cons, List.take_zero, List.drop_succ_cons, List.drop_zero, List.nil_append, List.cons_append, List.length_cons, List.length_nil, Nat.reduceAdd, List.append_assoc] at hs
        refine WL_nil ?_
        refine n_then ?_
        refine W_seq ?_
        refine W_seq ?_
        refine W_region ?_
        refine s_move rfl rfl ?_
        first
          | refine s_loadW Try.isAgg56 Try.sizeOf56 rfl rfl hs (kk := 0) rfl rfl ?_
          | refine s_loadW Try.isAgg56 Try.sizeOf56 rfl rfl hs (kk := 1) rfl rfl ?_
          | refine s_loadW Try.isAgg56 Try.sizeOf56 rfl rfl hs (kk := 2) rfl rfl ?_
          | refine s_loadW Try.isAgg56 Try.sizeOf56 rfl rfl hs (kk := 3) rfl rfl ?_
          | refine s_load_3 Try.isAgg56 Try.sizeOf56 rfl rfl (by first | exact hs.cell (k := 0) rfl rfl | exact hs.cell (k := 1) rfl rfl | exact hs.cell (k := 2) rfl rfl | exact hs.cell (k := 3) rfl rfl) (by first | exact hs.cell (k := 0) rfl rfl | exact hs.cell (k := 1) rfl rfl | exact hs.cell (k := 2) rfl rfl | exact hs.cell (k := 3) rfl rfl) (by first | exact hs.cell (k := 0) rfl rfl | exact hs.cell (k := 1) rfl rfl | exact hs.cell (k := 2) rfl rfl | exact hs.cell (k := 3) rfl rfl) ?_
        obtain ⟨cs, hp, k0, k1, k2, k4⟩ := rep_head hRB fun q hq => hs.own q (by simp [hq])
        refine s_call Try.call24 rfl rfl (receive_none p2 B cs R.id (.slice none 0 0) w hp k0 k1 ⟨none, 0, rfl, Nat.le_refl _, .inl rfl⟩ (by omega) (by omega)) ?_
        rintro r w ⟨hst, rfl⟩
        replace hs := hs.fwd1 hst
        clear hst hp k0 k1 k2 k4 cs
        refine s_len rfl rfl (LN29 _ _ _ _) ?_
        refine s_neq rfl rfl rfl ?_
        refine s_move rfl rfl ?_
        refine WL_know (s := 259) (c := false) rfl (rfl) ?_
        refine WL_take rfl ?_
        refine s_move rfl rfl ?_
        refine WL_take rfl ?_
        obtain ⟨cs, hp, k0, k1, k2, k4⟩ := rep_head hRB fun q hq => hs.own q (by simp [hq])
        refine s_call Try.call20 rfl rfl (term_ok p2 cs B.term w hp k2) ?_
        rintro r w ⟨hst, rfl⟩
        replace hs := hs.back0 hst
        clear hst hp k0 k1 k2 k4 cs
        simp only [List.nil_append] at hs
        refine WL_take rfl ?_
        refine s_neq rfl rfl rfl ?_
        refine s_pick_f rfl rfl rfl ?_
        refine WL_nil ?_
        refine n_then ?_
        refine W_cond_kf rfl ((by simp [b2])) ?_
        refine W_skip ?_
        refine n_then ?_
        refine W_seq ?_
        refine W_region ?_
        refine s_move rfl rfl ?_
        refine s_move rfl rfl ?_
        (refine s_indexAddr El29 rfl rfl rfl ?hx ?_; case hx => (constructor <;> first | omega | (simp; omega)))
        first
          | refine s_loadW Try.isAgg56 Try.sizeOf56 rfl rfl hs (kk := 0) rfl rfl ?_
          | refine s_loadW Try.isAgg56 Try.sizeOf56 rfl rfl hs (kk := 1) rfl rfl ?_
          | refine s_loadW Try.isAgg56 Try.sizeOf56 rfl rfl hs (kk := 2) rfl rfl ?_
          | refine s_loadW Try.isAgg56 Try.sizeOf56 rfl rfl hs (kk := 3) rfl rfl ?_
          | refine s_load_3 Try.isAgg56 Try.sizeOf56 rfl rfl (by first | exact hs.cell (k := 0) rfl rfl | exact hs.cell (k := 1) rfl rfl | exact hs.cell (k := 2) rfl rfl | exact hs.cell (k := 3) rfl rfl) (by first | exact hs.cell (k := 0) rfl rfl | exact hs.cell (k := 1) rfl rfl | exact hs.cell (k := 2) rfl rfl | exact hs.cell (k := 3) rfl rfl) (by first | exact hs.cell (k := 0) rfl rfl | exact hs.cell (k := 1) rfl rfl | exact hs.cell (k := 2) rfl rfl | exact hs.cell (k := 3) rfl rfl) ?_
        replace hs : St [] w0 w ([(g, Blk 56 ([.int .i64 (R.id : Int), .int .i64 (B.id : Int), .slice va (mesB (askM tn)).length vc] ++ RS))] ++ (L2 ++ LMP)) := by simpa using hs.tail.tail
        refine s_callL (M := [_]) (L1 := L2) (X := LMP) Try.call24 rfl rfl hs (fun h => receive_ok p2 B L2 (askM tn) R.id (.slice va (mesB (askM tn)).length vc) w hRB (hxv.sl w fun q hq => hs.own q (by simp [hq])) (fun a m c he hne => hs.apartY (M := [_]) (hxv.inL a m c he hne)) (askM_ok (by omega)) (by omega) (by omega) h) ?_
        clear hs; rintro u w L9 ⟨Lr, LQ, rfl, hRC, hMC⟩ - hs
        have hrv : B.recv (askM tn) R.id = (B.follow tn, [⟨B.id, R.id, (B.follow tn).voteM⟩]) := by rw [Rp.recv, if_pos (show (askM tn).kind = 0 from rfl), Rp.ask, if_neg (by rw [b2]; simp)]; rfl
        rw [hrv] at hRC hMC
        simp only at hRC hMC
        obtain ⟨C, hC⟩ : ∃ C, C = B.follow tn := ⟨_, rfl⟩
        have hCe : C.id = B.id ∧ C.mem = B.mem ∧ C.term = tn := by rw [hC, Rp.follow, if_pos (by omega)]; exact ⟨rfl, rfl, rfl⟩
        rw [← hC] at hRC hMC
        clear hrv hC hRB
        obtain ⟨d0, d1, d2⟩ := hCe
        obtain ⟨mm, LMB, LMP2, rfl, hOM, hMM2, hmm⟩ := hMC
        rcases mm with _ | ⟨x, mr2⟩
        · cases hmm
        simp only [List.map_cons, List.cons.injEq, List.map_eq_nil_iff] at hmm
        obtain ⟨hmx, rfl⟩ := hmm
        obtain ⟨g2, mc2, sp2, rfl, hmc2, rfl⟩ := hOM.block (by simp)
        obtain ⟨xs, xv⟩ := x
        simp only at hmx
        subst hmx
        replace hs : St [] w0 w ([(g, Blk 56 ([.int .i64 (R.id : Int), .int .i64 (B.id : Int), .slice va (mesB (askM tn)).length vc] ++ RS))] ++ (LQ ++ [(g2, Blk 56 ([.int .i64 (B.id : Int), .int .i64 (R.id : Int), xv] ++ sp2))])) := by simpa [cat, mmcells, Mm.cells] using St.reord [[_], LQ, [_], LMP2, LMP] [0, 1, 2] [3, 4] (by simpa [cat, mmcells, Mm.cells] using hs) rfl
        clear hOM
        simp only [List.length_cons, List.length_nil, Nat.zero_add]
        refine s_assign rfl rfl ?_
        refine WL_nil ?_
        refine n_then ?_
        refine W_seq ?_
        refine W_region ?_
        refine s_move rfl rfl ?_
        refine s_move rfl rfl ?_
        (refine s_indexAddr El29 rfl rfl rfl ?hx ?_; case hx => (constructor <;> first | omega | (simp; omega)))
        refine s_fieldAddr rfl rfl (FA56_1 _ _) ?_
        first
          | refine s_load Try.isAgg3 rfl rfl (hs.cell (k := 0) rfl rfl) ?_
          | refine s_load Try.isAgg3 rfl rfl (hs.cell (k := 1) rfl rfl) ?_
          | refine s_load Try.isAgg3 rfl rfl (hs.cell (k := 2) rfl rfl) ?_
          | refine s_load Try.isAgg3 rfl rfl (hs.cell (k := 3) rfl rfl) ?_
        have hel2 : C.elect (B.id : Int) = (C, [], if B.id = 0 then 1 else 20) := by
          have hmm : C.mem = 2 ∨ C.mem = 3 := by omega
          rw [← d0]
          refine elect_other hmm (by omega) ?_
          rcases ho with ⟨h1, h2⟩ | ⟨h1, h2⟩
          · refine .inr ⟨by omega, ?_⟩
            obtain ⟨_, _, h3⟩ := hx
            rcases hmm with h4 | h4
            · have h5 : mem = 2 := by omega
              rw [h5] at h3; omega
            · have h5 : mem = 3 := by omega
              rw [h5] at h3; omega
          · exact .inl (by omega)
        refine s_callL (M := [_]) (L1 := LQ) (X := [_]) Try.call9 rfl rfl hs (fun h => elect_ok p2 C LQ (B.id : Int) w hRC (by unfold isI64; omega) h) ?_
        clear hs; rintro u w L9 ⟨rv1, Lm2, LE2, rfl, rfl, hRE2, -⟩ - hs
        rw [hel2] at hRE2 ⊢
        simp only at hRE2 ⊢
        obtain ⟨er, her⟩ : ∃ er : Int, er = if B.id = 0 then 1 else 20 := ⟨_, rfl⟩
        rw [← her]
        replace her : (B.id = 0 ∧ er = 1) ∨ (B.id = 1 ∧ er = 20) := by
          rw [her]
          by_cases h : B.id = 0
          · exact .inl ⟨h, if_pos h⟩
          · exact .inr ⟨by omega, if_neg h⟩
        replace hs : St [] w0 w ([(g, Blk 56 ([.int .i64 (R.id : Int), .int .i64 (B.id : Int), .slice va (mesB (askM tn)).length vc] ++ RS))] ++ ([(g2, Blk 56 ([.int .i64 (B.id : Int), .int .i64 (R.id : Int), xv] ++ sp2))] ++ LE2)) := by simpa [cat] using St.reord [[_], LE2, Lm2, [_]] [0, 3, 1] [2] (by simpa [cat] using hs) rfl
        simp only [List.cons_append, List.nil_append] at hs
        obtain ⟨cs, hp, k0, k1, k2, k4⟩ := rep_head hRE2 fun q hq => hs.own q (by simp [hq])
        refine s_move rfl rfl ?_
        refine s_extract rfl rfl rfl ?_
        refine s_extract rfl rfl rfl ?_
        refine s_assign rfl rfl ?_
        refine s_assign rfl rfl ?_
        refine WL_nil ?_
        refine n_then ?_
        refine W_seq ?_
        refine W_draw [(0, true, []), (1, true, []), (2, true, []), (3, true, []), (4, true, []), (5, true, []), (6, true, []), (7, true, []), (8, true, []), (9, true, []), (10, true, []), (11, true, []), (12, true, []), (13, true, []), (14, true, []), (15, true, []), (16, true, []), (17, true, []), (18, true, []), (19, true, []), (20, true, []), (21, true, []), (22, true, []), (23, true, []), (25, true, []), (24, false, [25]), (26, true, []), (27, true, []), (28, true, []), (29, true, []), (30, true, []), (31, true, []), (32, true, []), (33, true, []), (34, true, []), (35, true, []), (36, true, []), (37, true, []), (38, true, []), (39, true, []), (40, true, []), (41, true, []), (42, true, []), (43, true, []), (44, false, []), (45, true, []), (46, true, [])] [[], [0], [0, 1], [0, 1, 2], [0, 1, 2, 3], [0, 1, 2, 3, 4], [0, 1, 2, 3, 4, 5], [0, 1, 2, 3, 4, 5, 6], [0, 1, 2, 3], [0, 1, 2, 3, 8], [0, 1, 2, 3, 8, 9], [0, 1, 2, 3, 8, 9, 10], [0, 1, 2, 3, 4, 5, 6, 7, 8, 9, 10, 11], [0, 1, 2, 3, 4, 5, 6, 7, 8, 9, 10, 11, 12], [0, 1, 2, 3, 4, 5, 6, 7, 8, 9, 10, 11, 12, 13], [0, 1, 2, 3, 4, 5, 6, 7, 8, 9, 10, 11, 12, 13, 14], [0, 1, 2, 3, 4, 5, 6, 7, 8, 9, 10, 11, 12, 13, 14, 15], [0, 1, 2, 3, 4, 5, 6, 7, 8, 9, 10, 11, 12, 13, 14, 15, 16], [0, 1, 2, 3, 4, 5, 6, 7, 8, 9, 10, 11, 12, 13, 14, 15, 16, 17], [0, 1, 2, 3, 4, 5, 6, 7, 8, 9, 10, 11, 12, 13, 14], [0, 1, 2, 3, 4, 5, 6, 7, 8, 9, 10, 11, 12, 13, 14, 15, 16, 17, 18, 19], [0, 1, 2, 3, 4, 5, 6, 7, 8, 9, 10, 11, 12, 13, 14, 15, 16, 17, 18, 19, 20], [0, 1, 2, 3, 4, 5, 6, 7, 8, 9, 10, 11, 12, 13, 14, 15, 16, 17, 18, 19, 20, 21], [0, 1, 2, 3, 4, 5, 6, 7, 8, 9, 10, 11, 12, 13, 14, 15, 16, 17, 18, 19, 20, 21, 22], [0, 1, 2, 3, 4, 5, 6, 7, 8, 9, 10, 11, 12, 13, 14, 15, 16, 17, 18, 19, 20, 21, 22, 23], [0, 1, 2, 3, 4, 5, 6, 7, 8, 9, 10, 11, 12, 13, 14, 15, 16, 17, 18, 19, 20, 21, 22], [0, 1, 2, 3, 4, 5, 6, 7, 8, 9, 10, 11, 12, 13, 14, 15, 16, 17, 18, 19, 20, 21, 22, 23, 24, 25], [0, 1, 2, 3, 4, 5, 6, 7, 8, 9, 10, 11, 12, 13, 14, 15, 16, 17, 18, 19, 20, 21, 22, 23, 24, 25, 26], [0, 1, 2, 3, 4, 5, 6, 7, 8, 9, 10, 11, 12, 13, 14, 15, 16, 17, 18, 19, 20, 21, 22, 23, 24, 25, 26, 27], [0, 1, 2, 3, 4, 5, 6, 7, 8, 9, 10, 11, 12, 13, 14, 15, 16, 17, 18, 19, 20, 21, 22, 23, 24, 25, 26, 27, 28], [0, 1, 2, 3, 4, 5, 6, 7, 8, 9, 10, 11, 12, 13, 14, 15, 16, 17, 18, 19, 20, 21, 22, 23, 24, 25, 26, 27, 28, 29], [0, 1, 2, 3, 4, 5, 6, 7, 8, 9, 10, 11, 12, 13, 14, 15, 16, 17, 18, 19, 20, 21, 22, 23, 24, 25, 26, 27, 28, 29, 30], [0, 1, 2, 3, 4, 5, 6, 7, 8, 9, 10, 11, 12, 13, 14, 15, 16, 17, 18, 19, 20, 21, 22, 23, 24, 25, 26, 27, 28, 29, 30, 31], [0, 1, 2, 3, 4, 5, 6, 7, 8, 9, 10, 11, 12, 13, 14, 15, 16, 17, 18, 19, 20, 21, 22, 23, 24, 25, 26, 27, 28, 29, 30, 31, 32], [0, 1, 2, 3, 4, 5, 6, 7, 8, 9, 10, 11, 12, 13, 14, 15, 16, 17, 18, 19, 20, 21, 22, 23, 24, 25, 26, 27, 28, 29, 30, 31, 32, 33], [0, 1, 2, 3, 4, 5, 6, 7, 8, 9, 10, 11, 12, 13, 14, 15, 16, 17, 18, 19, 20, 21, 22, 23, 24, 25, 26, 27, 28, 29, 30, 31, 32, 33, 34], [0, 1, 2, 3, 4, 5, 6, 7, 8, 9, 10, 11, 12, 13, 14, 15, 16, 17, 18, 19, 20, 21, 22, 23, 24, 25, 26, 27, 28, 29, 30, 31, 32, 33, 34, 35], [0, 1, 2, 3, 4, 5, 6, 7, 8, 9, 10, 11, 12, 13, 14, 15, 16, 17, 18, 19, 20, 21, 22, 23, 24, 25, 26, 27, 28, 29, 30, 31, 32, 33, 34, 35, 36], [0, 1, 2, 3, 4, 5, 6, 7, 8, 9, 10, 11, 12, 13, 14, 15, 16, 17, 18, 19, 20, 21, 22, 23, 24, 25, 26, 27, 28, 29, 30, 31, 32, 33, 34, 35, 36, 37], [0, 1, 2, 3, 4, 5, 6, 7, 8, 9, 10, 11, 12, 13, 14, 15, 16, 17, 18, 19, 20, 21, 22, 23, 24, 25, 26, 27, 28, 29, 30, 31, 32, 33, 34, 35, 36, 37, 38], [0, 1, 2, 3, 4, 5, 6, 7, 8, 9, 10, 11, 12, 13, 14, 15, 16, 17, 18, 19, 20, 21, 22, 23, 24, 25, 26, 27, 28, 29, 30, 31, 32, 33, 34, 35, 36, 37, 38, 39], [0, 1, 2, 3, 4, 5, 6, 7, 8, 9, 10, 11, 12, 13, 14, 15, 16, 17, 18, 19, 20, 21, 22, 23, 24, 25, 26, 27, 28, 29, 30, 31, 32, 33, 34, 35, 36, 37, 38, 39, 40], [0, 1, 2, 3, 4, 5, 6, 7, 8, 9, 10, 11, 12, 13, 14, 15, 16, 17, 18, 19, 20, 21, 22, 23, 24, 25, 26, 27, 28, 29, 30, 31, 32, 33, 34, 35, 36, 37, 38, 39, 40, 41], [0, 1, 2, 3, 4, 5, 6, 7, 8, 9, 10, 11, 12, 13, 14, 15, 16, 17, 18, 19, 20, 21, 22, 23, 24, 25, 26, 27, 28, 29, 30, 31, 32, 33, 34, 35, 36, 37, 38, 39, 40, 41, 42], [0, 1, 2, 3, 4, 5, 6, 7, 8, 9, 10, 11, 12, 13, 14, 15, 16, 17, 18, 19, 20, 21, 22, 23, 24, 25, 26, 27, 28, 29, 30, 31, 32, 33, 34, 35, 36, 37, 38, 39, 40, 41, 42, 43], [0, 1, 2, 3, 4, 5, 6, 7, 8, 9, 10, 11, 12, 13, 14, 15, 16, 17, 18, 19, 20, 21, 22, 23, 24, 25, 26, 27, 28, 29, 30, 31, 32, 33, 34, 35, 36, 37, 38, 39, 40, 41, 42, 43, 44], [0, 1, 2, 3, 4, 5, 6, 7, 8, 9, 10, 11, 12, 13, 14, 15, 16, 17, 18, 19, 20, 21, 22, 23, 24, 25, 26, 27, 28, 29, 30, 31, 32, 33, 34, 35, 36, 37, 38, 39, 40, 41, 42, 43, 44, 45]] MX (by kernel_rfl) ?_
        intro w1 hw1 hw2 hw3 hw4; replace hs := hs.redrawn hw1 hw2 hw3 hw4; clear hw1 hw2 hw3 hw4
        obtain ⟨w, rfl⟩ : ∃ w : World, w = w1 := ⟨_, rfl⟩
        refine D_q rfl rfl ?_
        refine s_move rfl rfl ?_
        refine D_qn ?_
        refine D_q rfl rfl ?_
        refine s_len rfl rfl (LN29 _ _ _ _) ?_
        refine D_qn ?_
        refine D_q rfl rfl ?_
        refine s_eql rfl rfl rfl ?_
        refine D_qn ?_
        refine D_q rfl rfl ?_
        refine s_move rfl rfl ?_
        refine WL_know (s := 281) (c := true) rfl (rfl) ?_
        refine D_qn ?_
        refine D_q rfl rfl ?_
        refine WL_take rfl ?_
        refine s_move rfl rfl ?_
        refine D_qn ?_
        refine D_q rfl rfl ?_
        refine WL_take rfl ?_
        (refine s_indexAddr El29 rfl rfl rfl ?hx ?_; case hx => (constructor <;> first | omega | (simp; omega)))
        refine D_qn ?_
        refine D_q rfl rfl ?_
        refine WL_take rfl ?_
        refine s_fieldAddr rfl rfl (FA56_0 _ _) ?_
        refine D_qn ?_
        refine D_q rfl rfl ?_
        refine WL_take rfl ?_
        first
          | refine s_load Try.isAgg3 rfl rfl (hs.cell (k := 0) rfl rfl) ?_
          | refine s_load Try.isAgg3 rfl rfl (hs.cell (k := 1) rfl rfl) ?_
          | refine s_load Try.isAgg3 rfl rfl (hs.cell (k := 2) rfl rfl) ?_
          | refine s_load Try.isAgg3 rfl rfl (hs.cell (k := 3) rfl rfl) ?_
        refine D_qn ?_
        refine D_q rfl rfl ?_
        refine WL_take rfl ?_
        refine s_move rfl rfl ?_
        refine D_qn ?_
        refine D_q rfl rfl ?_
        refine WL_take rfl ?_
        (refine s_indexAddr El29 rfl rfl rfl ?hx ?_; case hx => (constructor <;> first | omega | (simp; omega)))
        refine D_qn ?_
        refine D_q rfl rfl ?_
        refine WL_take rfl ?_
        refine s_fieldAddr rfl rfl (FA56_1 _ _) ?_
        refine D_qn ?_
        refine D_q rfl rfl ?_
        refine WL_take rfl ?_
        first
          | refine s_load Try.isAgg3 rfl rfl (hs.cell (k := 0) rfl rfl) ?_
          | refine s_load Try.isAgg3 rfl rfl (hs.cell (k := 1) rfl rfl) ?_
          | refine s_load Try.isAgg3 rfl rfl (hs.cell (k := 2) rfl rfl) ?_
          | refine s_load Try.isAgg3 rfl rfl (hs.cell (k := 3) rfl rfl) ?_
        refine D_qn ?_
        refine D_q rfl rfl ?_
        refine WL_take rfl ?_
        refine s_eql rfl rfl rfl ?_
        refine D_qn ?_
        refine D_q rfl rfl ?_
        refine s_pick_t rfl rfl rfl ?_
        refine D_qn ?_
        refine D_q rfl rfl ?_
        refine s_move rfl rfl ?_
        refine WL_know (s := 292) (c := true) rfl ((by simp)) ?_
        refine D_qn ?_
        refine D_q rfl rfl ?_
        refine WL_take rfl ?_
        refine s_move rfl rfl ?_
        refine D_qn ?_
        refine D_q rfl rfl ?_
        refine WL_take rfl ?_
        (refine s_indexAddr El29 rfl rfl rfl ?hx ?_; case hx => (constructor <;> first | omega | (simp; omega)))
        refine D_qn ?_
        refine D_q rfl rfl ?_
        refine WL_take rfl ?_
        refine s_fieldAddr rfl rfl (FA56_1 _ _) ?_
        refine D_qn ?_
        refine D_q rfl rfl ?_
        refine WL_take rfl ?_
        first
          | refine s_load Try.isAgg3 rfl rfl (hs.cell (k := 0) rfl rfl) ?_
          | refine s_load Try.isAgg3 rfl rfl (hs.cell (k := 1) rfl rfl) ?_
          | refine s_load Try.isAgg3 rfl rfl (hs.cell (k := 2) rfl rfl) ?_
          | refine s_load Try.isAgg3 rfl rfl (hs.cell (k := 3) rfl rfl) ?_
        refine D_qn ?_
        refine D_q rfl rfl ?_
        refine WL_take rfl ?_
        refine s_move rfl rfl ?_
        refine D_qn ?_
        refine D_q rfl rfl ?_
        refine WL_take rfl ?_
        refine s_eql rfl rfl rfl ?_
        refine D_qn ?_
        refine D_q rfl rfl ?_
        refine s_pick_t rfl rfl rfl ?_
        refine D_qn ?_
        refine D_q rfl rfl ?_
        refine s_move rfl rfl ?_
        refine WL_know (s := 300) (c := true) rfl ((by simp [q0])) ?_
        refine D_qn ?_
        refine D_q rfl rfl ?_
        refine WL_take rfl ?_
        refine s_move rfl rfl ?_
        refine D_qn ?_
        refine D_q rfl rfl ?_
        refine WL_take rfl ?_
        refine s_move rfl rfl ?_
        refine D_qn ?_
        refine D_e rfl ?_
        refine WL_take rfl ?_
        obtain ⟨cs, hp, k0, k1, k2, k4⟩ := rep_head hRE2 fun q hq => hs.own q (by simp [hq])
        refine s_call Try.call20 rfl rfl (term_ok p2 cs C.term w hp k2) ?_
        rintro r w ⟨hst, rfl⟩
        replace hs := hs.back0 hst
        clear hst hp k0 k1 k2 k4 cs
        simp only [List.nil_append] at hs
        refine D_en ?re ?_
        case re =>
          refine Reks_cons rfl rfl rfl rfl ?_ ?_
          · skip
            refine WL_take rfl ?_
            refine s_move rfl rfl ?_
            exact Rek_end rfl
          exact Reks_nil
        refine D_q rfl rfl ?_
        refine WL_take rfl ?_
        refine s_eql rfl rfl rfl ?_
        refine D_qn ?_
        refine D_q rfl rfl ?_
        refine s_pick_t rfl rfl rfl ?_
        refine D_qn ?_
        refine D_q rfl rfl ?_
        refine s_move rfl rfl ?_
        refine WL_know (s := 306) (c := true) rfl ((by simp [d2])) ?_
        refine D_qn ?_
        refine D_q rfl rfl ?_
        refine WL_take rfl ?_
        refine s_move rfl rfl ?_
        refine D_qn ?_
        refine D_q rfl rfl ?_
        refine WL_take rfl ?_
        refine s_eql rfl rfl rfl ?_
        refine D_qn ?_
        refine D_q rfl rfl ?_
        refine WL_take rfl ?_
        refine s_move rfl rfl ?_
        refine WL_case (s := 309) rfl (fun hg309 => ?_) (fun hg309 => ?_)
        · skip
          try simp only [decide_eq_true_eq, decide_eq_false_iff_not, gt_iff_lt, ge_iff_le, beq_iff_eq, beq_eq_false_iff_ne, ne_eq, bne_iff_ne, bne_eq_false_iff_eq, Bool.not_eq_true', Bool.not_eq_false', Bool.not_eq_true, Bool.not_eq_false, Decidable.not_not] at hg309
          refine D_qn ?_
          refine D_q rfl rfl ?_
          refine WL_skip rfl rfl rfl ?_
          refine D_qn ?_
          refine D_q rfl rfl ?_
          refine WL_skip rfl rfl rfl ?_
          refine D_qn ?_
          refine D_q rfl rfl ?_
          refine WL_skip rfl rfl rfl ?_
          refine D_qn ?_
          refine D_q rfl rfl ?_
          refine WL_skip rfl rfl rfl ?_
          refine D_qn ?_
          refine D_q rfl rfl ?_
          refine WL_skip rfl rfl rfl ?_
          refine D_qn ?_
          refine D_q rfl rfl ?_
          refine WL_skip rfl rfl rfl ?_
          refine D_qn ?_
          refine D_q rfl rfl ?_
          refine WL_skipU rfl rfl ?_
          refine D_qn ?_
          refine D_q rfl rfl ?_
          refine WL_skipU rfl rfl ?_
          refine D_qn ?_
          refine D_q rfl rfl ?_
          refine WL_skip rfl rfl rfl ?_
          refine D_qn ?_
          refine D_q rfl rfl ?_
          refine WL_take rfl ?_
          refine s_pick_t rfl rfl rfl ?_
          refine D_qn ?_
          refine D_q rfl rfl ?_
          refine s_pick_t rfl rfl rfl ?_
          refine D_qn ?_
          refine D_q rfl rfl ?_
          refine s_move rfl rfl ?_
          refine D_qn ?_
          refine D_e rfl ?_
          refine WL_take rfl ?_
          refine s_call Try.call19 rfl rfl (lives_ok w) ?_
          rintro r w ⟨hst, rfl⟩
          replace hs := hs.fwd1 hst
          refine D_en ?re ?_
          case re =>
            exact Reks_nil
          refine D_q rfl rfl ?_
          refine s_pick_t rfl rfl rfl ?_
          refine D_qn ?_
          refine D_q rfl rfl ?_
          refine s_assign rfl rfl ?_
          refine D_qn ?_
          refine D_nil ?_
          refine n_then ?_
          refine W_ret ?_
          first | exact end1 rfl rfl ⟨hs.fwd, rfl⟩ | (exfalso; omega)
        · skip
          try simp only [decide_eq_true_eq, decide_eq_false_iff_not, gt_iff_lt, ge_iff_le, beq_iff_eq, beq_eq_false_iff_ne, ne_eq, bne_iff_ne, bne_eq_false_iff_eq, Bool.not_eq_true', Bool.not_eq_false', Bool.not_eq_true, Bool.not_eq_false, Decidable.not_not] at hg309
          refine D_qn ?_
          refine D_q rfl rfl ?_
          refine WL_take rfl ?_
          refine s_move rfl rfl ?_
          refine D_qn ?_
          refine D_q rfl rfl ?_
          refine WL_take rfl ?_
          (refine s_indexAddr El29 rfl rfl rfl ?hx ?_; case hx => (constructor <;> first | omega | (simp; omega)))
          refine D_qn ?_
          refine D_q rfl rfl ?_
          refine WL_take rfl ?_
          refine s_fieldAddr rfl rfl (FA56_1 _ _) ?_
          refine D_qn ?_
          refine D_q rfl rfl ?_
          refine WL_take rfl ?_
          first
            | refine s_load Try.isAgg3 rfl rfl (hs.cell (k := 0) rfl rfl) ?_
            | refine s_load Try.isAgg3 rfl rfl (hs.cell (k := 1) rfl rfl) ?_
            | refine s_load Try.isAgg3 rfl rfl (hs.cell (k := 2) rfl rfl) ?_
            | refine s_load Try.isAgg3 rfl rfl (hs.cell (k := 3) rfl rfl) ?_
          refine D_qn ?_
          refine D_q rfl rfl ?_
          refine WL_take rfl ?_
          refine s_eql rfl rfl rfl ?_
          refine D_qn ?_
          refine D_q rfl rfl ?_
          refine WL_take rfl ?_
          refine s_move rfl rfl ?_
          refine WL_case (s := 315) rfl (fun hg315 => ?_) (fun hg315 => ?_)
          · skip
            try simp only [decide_eq_true_eq, decide_eq_false_iff_not, gt_iff_lt, ge_iff_le, beq_iff_eq, beq_eq_false_iff_ne, ne_eq, bne_iff_ne, bne_eq_false_iff_eq, Bool.not_eq_true', Bool.not_eq_false', Bool.not_eq_true, Bool.not_eq_false, Decidable.not_not] at hg315
            refine D_qn ?_
            refine D_q rfl rfl ?_
            refine WL_take rfl ?_
            refine s_move rfl rfl ?_
            refine D_qn ?_
            refine D_q rfl rfl ?_
            refine WL_take rfl ?_
            refine s_eql rfl rfl rfl ?_
            refine D_qn ?_
            refine D_q rfl rfl ?_
            refine WL_take rfl ?_
            refine s_pick_t rfl rfl rfl ?_
            refine D_qn ?_
            refine D_q rfl rfl ?_
            refine WL_take rfl ?_
            refine s_pick_f rfl rfl rfl ?_
            refine D_qn ?_
            refine D_q rfl rfl ?_
            refine s_pick_t rfl rfl rfl ?_
            refine D_qn ?_
            refine D_q rfl rfl ?_
            refine s_move rfl rfl ?_
            refine WL_know (s := 321) (c := true) rfl ((by first | rfl | (exfalso; omega) | (simp; omega))) ?_
            refine D_qn ?_
            refine D_e rfl ?_
            refine WL_take rfl ?_
            refine s_call Try.call19 rfl rfl (lives_ok w) ?_
            rintro r w ⟨hst, rfl⟩
            replace hs := hs.fwd1 hst
            refine D_en ?re ?_
            case re =>
              exact Reks_nil
            refine D_q rfl rfl ?_
            refine s_pick_t rfl rfl rfl ?_
            refine D_qn ?_
            refine D_q rfl rfl ?_
            refine s_assign rfl rfl ?_
            refine D_qn ?_
            refine D_nil ?_
            refine n_then ?_
            refine W_ret ?_
            first | exact end1 rfl rfl ⟨hs.fwd, rfl⟩ | (exfalso; omega)
          · skip
            try simp only [decide_eq_true_eq, decide_eq_false_iff_not, gt_iff_lt, ge_iff_le, beq_iff_eq, beq_eq_false_iff_ne, ne_eq, bne_iff_ne, bne_eq_false_iff_eq, Bool.not_eq_true', Bool.not_eq_false', Bool.not_eq_true, Bool.not_eq_false, Decidable.not_not] at hg315
            refine D_qn ?_
            refine D_q rfl rfl ?_
            refine WL_skip rfl rfl rfl ?_
            refine D_qn ?_
            refine D_q rfl rfl ?_
            refine WL_skip rfl rfl rfl ?_
            refine D_qn ?_
            refine D_q rfl rfl ?_
            refine WL_take rfl ?_
            refine s_pick_f rfl rfl rfl ?_
            refine D_qn ?_
            refine D_q rfl rfl ?_
            refine WL_take rfl ?_
            refine s_pick_f rfl rfl rfl ?_
            refine D_qn ?_
            refine D_q rfl rfl ?_
            refine s_pick_t rfl rfl rfl ?_
            refine D_qn ?_
            refine D_q rfl rfl ?_
            refine s_move rfl rfl ?_
            refine D_qn ?_
            refine D_e rfl ?_
            refine WL_skip rfl rfl rfl ?_
            refine D_en ?re ?_
            case re =>
              exact Reks_nil
            refine D_q rfl rfl ?_
            refine s_pick_f rfl rfl rfl ?_
            refine D_qn ?_
            refine D_q rfl rfl ?_
            refine s_assign rfl rfl ?_
            refine D_qn ?_
            refine D_nil ?_
            refine n_then ?_
            refine W_ret ?_
            first | exact end1 rfl rfl ⟨hs.fwd, rfl⟩ | (exfalso; omega)
      · skip
        try simp only [decide_eq_true_eq, decide_eq_false_iff_not, gt_iff_lt, ge_iff_le, beq_iff_eq, beq_eq_false_iff_ne, ne_eq, bne_iff_ne, bne_eq_false_iff_eq, Bool.not_eq_true', Bool.not_eq_false', Bool.not_eq_true, Bool.not_eq_false, Decidable.not_not] at hg233
        refine WL_take rfl ?_
        refine s_move rfl rfl ?_
        refine WL_take rfl ?_
        refine s_move rfl rfl ?_
        refine WL_take rfl ?_
        refine s_eql rfl rfl rfl ?_
        refine s_pick_f rfl rfl rfl ?_
        refine s_move rfl rfl ?_
        refine WL_case (s := 238) rfl (fun hg238 => ?_) (fun hg238 => ?_)
        · skip
          try simp only [decide_eq_true_eq, decide_eq_false_iff_not, gt_iff_lt, ge_iff_le, beq_iff_eq, beq_eq_false_iff_ne, ne_eq, bne_iff_ne, bne_eq_false_iff_eq, Bool.not_eq_true', Bool.not_eq_false', Bool.not_eq_true, Bool.not_eq_false, Decidable.not_not] at hg238
          refine WL_take rfl ?_
          refine s_move rfl rfl ?_
          refine WL_take rfl ?_
          first
            | refine s_loadW Try.isAgg56 Try.sizeOf56 rfl rfl hs (kk := 0) rfl rfl ?_
            | refine s_loadW Try.isAgg56 Try.sizeOf56 rfl rfl hs (kk := 1) rfl rfl ?_
            | refine s_loadW Try.isAgg56 Try.sizeOf56 rfl rfl hs (kk := 2) rfl rfl ?_
            | refine s_loadW Try.isAgg56 Try.sizeOf56 rfl rfl hs (kk := 3) rfl rfl ?_
            | refine s_load_3 Try.isAgg56 Try.sizeOf56 rfl rfl (by first | exact hs.cell (k := 0) rfl rfl | exact hs.cell (k := 1) rfl rfl | exact hs.cell (k := 2) rfl rfl | exact hs.cell (k := 3) rfl rfl) (by first | exact hs.cell (k := 0) rfl rfl | exact hs.cell (k := 1) rfl rfl | exact hs.cell (k := 2) rfl rfl | exact hs.cell (k := 3) rfl rfl) (by first | exact hs.cell (k := 0) rfl rfl | exact hs.cell (k := 1) rfl rfl | exact hs.cell (k := 2) rfl rfl | exact hs.cell (k := 3) rfl rfl) ?_
          refine WL_take rfl ?_
          obtain ⟨cs, hp, k0, k1, k2, k4⟩ := rep_head hRB fun q hq => hs.own q (by simp [hq])
          refine s_call Try.call24 rfl rfl (receive_bad p2 B cs frm to _ w hp k0 k1 ⟨_, _, _, rfl⟩ (by omega)) ?_
          rintro r w ⟨hst, rfl⟩
          replace hs := hs.back0 hst
          clear hst hp k0 k1 k2 k4 cs
          simp only [List.nil_append] at hs
          refine WL_take rfl ?_
          refine s_len rfl rfl (LN29 _ _ _ _) ?_
          refine WL_take rfl ?_
          refine s_neq rfl rfl rfl ?_
          refine WL_take rfl ?_
          refine s_move rfl rfl ?_
          refine WL_know (s := 244) (c := false) rfl (rfl) ?_
          refine WL_take rfl ?_
          refine s_move rfl rfl ?_
          refine WL_take rfl ?_
          obtain ⟨cs, hp, k0, k1, k2, k4⟩ := rep_head hRB fun q hq => hs.own q (by simp [hq])
          refine s_call Try.call20 rfl rfl (term_ok p2 cs B.term w hp k2) ?_
          rintro r w ⟨hst, rfl⟩
          replace hs := hs.back0 hst
          clear hst hp k0 k1 k2 k4 cs
          simp only [List.nil_append] at hs
          refine WL_take rfl ?_
          refine s_neq rfl rfl rfl ?_
          refine WL_take rfl ?_
          refine s_pick_f rfl rfl rfl ?_
          refine s_pick_t rfl rfl rfl ?_
          refine WL_nil ?_
          refine n_then ?_
          refine W_cond_kf rfl ((by first | rfl | simp [b2])) ?_
          refine W_skip ?_
          refine n_then ?_
          refine W_seq ?_
          refine W_region ?_
          refine s_move rfl rfl ?_
          (refine s_indexAddr El29 rfl rfl rfl ?hx ?_; case hx => (constructor <;> first | omega | (simp; omega)))
          first
            | refine s_loadW Try.isAgg56 Try.sizeOf56 rfl rfl hs (kk := 0) rfl rfl ?_
            | refine s_loadW Try.isAgg56 Try.sizeOf56 rfl rfl hs (kk := 1) rfl rfl ?_
            | refine s_loadW Try.isAgg56 Try.sizeOf56 rfl rfl hs (kk := 2) rfl rfl ?_
            | refine s_loadW Try.isAgg56 Try.sizeOf56 rfl rfl hs (kk := 3) rfl rfl ?_
            | refine s_load_3 Try.isAgg56 Try.sizeOf56 rfl rfl (by first | exact hs.cell (k := 0) rfl rfl | exact hs.cell (k := 1) rfl rfl | exact hs.cell (k := 2) rfl rfl | exact hs.cell (k := 3) rfl rfl) (by first | exact hs.cell (k := 0) rfl rfl | exact hs.cell (k := 1) rfl rfl | exact hs.cell (k := 2) rfl rfl | exact hs.cell (k := 3) rfl rfl) (by first | exact hs.cell (k := 0) rfl rfl | exact hs.cell (k := 1) rfl rfl | exact hs.cell (k := 2) rfl rfl | exact hs.cell (k := 3) rfl rfl) ?_
          refine s_alloc rfl AL56 hs ?_; clear hs; intro b27 w hs
          first
            | refine s_storeW Try.sizeOf56 rfl rfl rfl rfl hs (kk := 0) rfl rfl ?_
            | refine s_storeW Try.sizeOf56 rfl rfl rfl rfl hs (kk := 1) rfl rfl ?_
            | refine s_storeW Try.sizeOf56 rfl rfl rfl rfl hs (kk := 2) rfl rfl ?_
            | refine s_storeW Try.sizeOf56 rfl rfl rfl rfl hs (kk := 3) rfl rfl ?_
            | refine s_storeAB Try.sizeOf56 rfl rfl rfl rfl hs (kk := 0) rfl rfl ?_
            | refine s_storeAB Try.sizeOf56 rfl rfl rfl rfl hs (kk := 1) rfl rfl ?_
            | refine s_storeAB Try.sizeOf56 rfl rfl rfl rfl hs (kk := 2) rfl rfl ?_
            | refine s_storeAB Try.sizeOf56 rfl rfl rfl rfl hs (kk := 3) rfl rfl ?_
          clear hs; intro w hs; try simp only [List.set_cons_zero, List.set_cons_succ, splice, List.take_succ_cons, List.take_zero, List.drop_succ_cons, List.drop_zero, List.nil_append, List.cons_append, List.length_cons, List.length_nil, Nat.reduceAdd, List.append_assoc] at hs
          refine WL_nil ?_
          refine n_then ?_
          refine W_seq ?_
          refine W_region ?_
          refine s_fieldAddr rfl rfl (FA56_2 _ _) ?_
          first
            | refine s_storeB Try.sizeOf22 rfl rfl rfl hs (kk := 0) rfl rfl ?_
            | refine s_storeB Try.sizeOf22 rfl rfl rfl hs (kk := 1) rfl rfl ?_
            | refine s_storeB Try.sizeOf22 rfl rfl rfl hs (kk := 2) rfl rfl ?_
            | refine s_storeB Try.sizeOf22 rfl rfl rfl hs (kk := 3) rfl rfl ?_
          clear hs; intro w hs; try simp only [List.set_cons_zero, List.set_cons_succ, splice, List.take_succ_cons, List.take_zero, List.drop_succ_cons, List.drop_zero, List.nil_append, List.cons_append, List.length_cons, List.length_nil, Nat.reduceAdd, List.append_assoc] at hs
          refine WL_nil ?_
          refine n_then ?_
          refine W_seq ?_
          refine W_seq ?_
          refine W_region ?_
          refine s_move rfl rfl ?_
          first
            | refine s_loadW Try.isAgg56 Try.sizeOf56 rfl rfl hs (kk := 0) rfl rfl ?_
            | refine s_loadW Try.isAgg56 Try.sizeOf56 rfl rfl hs (kk := 1) rfl rfl ?_
            | refine s_loadW Try.isAgg56 Try.sizeOf56 rfl rfl hs (kk := 2) rfl rfl ?_
            | refine s_loadW Try.isAgg56 Try.sizeOf56 rfl rfl hs (kk := 3) rfl rfl ?_
            | refine s_load_3 Try.isAgg56 Try.sizeOf56 rfl rfl (by first | exact hs.cell (k := 0) rfl rfl | exact hs.cell (k := 1) rfl rfl | exact hs.cell (k := 2) rfl rfl | exact hs.cell (k := 3) rfl rfl) (by first | exact hs.cell (k := 0) rfl rfl | exact hs.cell (k := 1) rfl rfl | exact hs.cell (k := 2) rfl rfl | exact hs.cell (k := 3) rfl rfl) (by first | exact hs.cell (k := 0) rfl rfl | exact hs.cell (k := 1) rfl rfl | exact hs.cell (k := 2) rfl rfl | exact hs.cell (k := 3) rfl rfl) ?_
          obtain ⟨cs, hp, k0, k1, k2, k4⟩ := rep_head hRB fun q hq => hs.own q (by simp [hq])
          refine s_call Try.call24 rfl rfl (receive_none p2 B cs R.id (.slice none 0 0) w hp k0 k1 ⟨none, 0, rfl, Nat.le_refl _, .inl rfl⟩ (by omega) (by omega)) ?_
          rintro r w ⟨hst, rfl⟩
          replace hs := hs.fwd1 hst
          clear hst hp k0 k1 k2 k4 cs
          refine s_len rfl rfl (LN29 _ _ _ _) ?_
          refine s_neq rfl rfl rfl ?_
          refine s_move rfl rfl ?_
          refine WL_know (s := 259) (c := false) rfl (rfl) ?_
          refine WL_take rfl ?_
          refine s_move rfl rfl ?_
          refine WL_take rfl ?_
          obtain ⟨cs, hp, k0, k1, k2, k4⟩ := rep_head hRB fun q hq => hs.own q (by simp [hq])
          refine s_call Try.call20 rfl rfl (term_ok p2 cs B.term w hp k2) ?_
          rintro r w ⟨hst, rfl⟩
          replace hs := hs.back0 hst
          clear hst hp k0 k1 k2 k4 cs
          simp only [List.nil_append] at hs
          refine WL_take rfl ?_
          refine s_neq rfl rfl rfl ?_
          refine s_pick_f rfl rfl rfl ?_
          refine WL_nil ?_
          refine n_then ?_
          refine W_cond_kf rfl ((by simp [b2])) ?_
          refine W_skip ?_
          refine n_then ?_
          refine W_seq ?_
          refine W_region ?_
          refine s_move rfl rfl ?_
          refine s_move rfl rfl ?_
          (refine s_indexAddr El29 rfl rfl rfl ?hx ?_; case hx => (constructor <;> first | omega | (simp; omega)))
          first
            | refine s_loadW Try.isAgg56 Try.sizeOf56 rfl rfl hs (kk := 0) rfl rfl ?_
            | refine s_loadW Try.isAgg56 Try.sizeOf56 rfl rfl hs (kk := 1) rfl rfl ?_
            | refine s_loadW Try.isAgg56 Try.sizeOf56 rfl rfl hs (kk := 2) rfl rfl ?_
            | refine s_loadW Try.isAgg56 Try.sizeOf56 rfl rfl hs (kk := 3) rfl rfl ?_
            | refine s_load_3 Try.isAgg56 Try.sizeOf56 rfl rfl (by first | exact hs.cell (k := 0) rfl rfl | exact hs.cell (k := 1) rfl rfl | exact hs.cell (k := 2) rfl rfl | exact hs.cell (k := 3) rfl rfl) (by first | exact hs.cell (k := 0) rfl rfl | exact hs.cell (k := 1) rfl rfl | exact hs.cell (k := 2) rfl rfl | exact hs.cell (k := 3) rfl rfl) (by first | exact hs.cell (k := 0) rfl rfl | exact hs.cell (k := 1) rfl rfl | exact hs.cell (k := 2) rfl rfl | exact hs.cell (k := 3) rfl rfl) ?_
          replace hs : St [] w0 w ([(g, Blk 56 ([.int .i64 (R.id : Int), .int .i64 (B.id : Int), .slice va (mesB (askM tn)).length vc] ++ RS))] ++ (L2 ++ LMP)) := by simpa using hs.tail.tail
          refine s_callL (M := [_]) (L1 := L2) (X := LMP) Try.call24 rfl rfl hs (fun h => receive_ok p2 B L2 (askM tn) R.id (.slice va (mesB (askM tn)).length vc) w hRB (hxv.sl w fun q hq => hs.own q (by simp [hq])) (fun a m c he hne => hs.apartY (M := [_]) (hxv.inL a m c he hne)) (askM_ok (by omega)) (by omega) (by omega) h) ?_
          clear hs; rintro u w L9 ⟨Lr, LQ, rfl, hRC, hMC⟩ - hs
          have hrv : B.recv (askM tn) R.id = (B.follow tn, [⟨B.id, R.id, (B.follow tn).voteM⟩]) := by rw [Rp.recv, if_pos (show (askM tn).kind = 0 from rfl), Rp.ask, if_neg (by rw [b2]; simp)]; rfl
          rw [hrv] at hRC hMC
          simp only at hRC hMC
          obtain ⟨C, hC⟩ : ∃ C, C = B.follow tn := ⟨_, rfl⟩
          have hCe : C.id = B.id ∧ C.mem = B.mem ∧ C.term = tn := by rw [hC, Rp.follow, if_pos (by omega)]; exact ⟨rfl, rfl, rfl⟩
          rw [← hC] at hRC hMC
          clear hrv hC hRB
          obtain ⟨d0, d1, d2⟩ := hCe
          obtain ⟨mm, LMB, LMP2, rfl, hOM, hMM2, hmm⟩ := hMC
          rcases mm with _ | ⟨x, mr2⟩
          · cases hmm
          simp only [List.map_cons, List.cons.injEq, List.map_eq_nil_iff] at hmm
          obtain ⟨hmx, rfl⟩ := hmm
          obtain ⟨g2, mc2, sp2, rfl, hmc2, rfl⟩ := hOM.block (by simp)
          obtain ⟨xs, xv⟩ := x
          simp only at hmx
          subst hmx
          replace hs : St [] w0 w ([(g, Blk 56 ([.int .i64 (R.id : Int), .int .i64 (B.id : Int), .slice va (mesB (askM tn)).length vc] ++ RS))] ++ (LQ ++ [(g2, Blk 56 ([.int .i64 (B.id : Int), .int .i64 (R.id : Int), xv] ++ sp2))])) := by simpa [cat, mmcells, Mm.cells] using St.reord [[_], LQ, [_], LMP2, LMP] [0, 1, 2] [3, 4] (by simpa [cat, mmcells, Mm.cells] using hs) rfl
          clear hOM
          simp only [List.length_cons, List.length_nil, Nat.zero_add]
          refine s_assign rfl rfl ?_
          refine WL_nil ?_
          refine n_then ?_
          refine W_seq ?_
          refine W_region ?_
          refine s_move rfl rfl ?_
          refine s_move rfl rfl ?_
          (refine s_indexAddr El29 rfl rfl rfl ?hx ?_; case hx => (constructor <;> first | omega | (simp; omega)))
          refine s_fieldAddr rfl rfl (FA56_1 _ _) ?_
          first
            | refine s_load Try.isAgg3 rfl rfl (hs.cell (k := 0) rfl rfl) ?_
            | refine s_load Try.isAgg3 rfl rfl (hs.cell (k := 1) rfl rfl) ?_
            | refine s_load Try.isAgg3 rfl rfl (hs.cell (k := 2) rfl rfl) ?_
            | refine s_load Try.isAgg3 rfl rfl (hs.cell (k := 3) rfl rfl) ?_
          have hel2 : C.elect (B.id : Int) = (C, [], if B.id = 0 then 1 else 20) := by
            have hmm : C.mem = 2 ∨ C.mem = 3 := by omega
            rw [← d0]
            refine elect_other hmm (by omega) ?_
            rcases ho with ⟨h1, h2⟩ | ⟨h1, h2⟩
            · refine .inr ⟨by omega, ?_⟩
              obtain ⟨_, _, h3⟩ := hx
              rcases hmm with h4 | h4
              · have h5 : mem = 2 := by omega
                rw [h5] at h3; omega
              · have h5 : mem = 3 := by omega
                rw [h5] at h3; omega
            · exact .inl (by omega)
          refine s_callL (M := [_]) (L1 := LQ) (X := [_]) Try.call9 rfl rfl hs (fun h => elect_ok p2 C LQ (B.id : Int) w hRC (by unfold isI64; omega) h) ?_
          clear hs; rintro u w L9 ⟨rv1, Lm2, LE2, rfl, rfl, hRE2, -⟩ - hs
          rw [hel2] at hRE2 ⊢
          simp only at hRE2 ⊢
          obtain ⟨er, her⟩ : ∃ er : Int, er = if B.id = 0 then 1 else 20 := ⟨_, rfl⟩
          rw [← her]
          replace her : (B.id = 0 ∧ er = 1) ∨ (B.id = 1 ∧ er = 20) := by
            rw [her]
            by_cases h : B.id = 0
            · exact .inl ⟨h, if_pos h⟩
            · exact .inr ⟨by omega, if_neg h⟩
          replace hs : St [] w0 w ([(g, Blk 56 ([.int .i64 (R.id : Int), .int .i64 (B.id : Int), .slice va (mesB (askM tn)).length vc] ++ RS))] ++ ([(g2, Blk 56 ([.int .i64 (B.id : Int), .int .i64 (R.id : Int), xv] ++ sp2))] ++ LE2)) := by simpa [cat] using St.reord [[_], LE2, Lm2, [_]] [0, 3, 1] [2] (by simpa [cat] using hs) rfl
          simp only [List.cons_append, List.nil_append] at hs
          obtain ⟨cs, hp, k0, k1, k2, k4⟩ := rep_head hRE2 fun q hq => hs.own q (by simp [hq])
          refine s_move rfl rfl ?_
          refine s_extract rfl rfl rfl ?_
          refine s_extract rfl rfl rfl ?_
          refine s_assign rfl rfl ?_
          refine s_assign rfl rfl ?_
          refine WL_nil ?_
          refine n_then ?_
          refine W_seq ?_
          refine W_draw [(0, true, []), (1, true, []), (2, true, []), (3, true, []), (4, true, []), (5, true, []), (6, true, []), (7, true, []), (8, true, []), (9, true, []), (10, true, []), (11, true, []), (12, true, []), (13, true, []), (14, true, []), (15, true, []), (16, true, []), (17, true, []), (18, true, []), (19, true, []), (20, true, []), (21, true, []), (22, true, []), (23, true, []), (25, true, []), (24, false, [25]), (26, true, []), (27, true, []), (28, true, []), (29, true, []), (30, true, []), (31, true, []), (32, true, []), (33, true, []), (34, true, []), (35, true, []), (36, true, []), (37, true, []), (38, true, []), (39, true, []), (40, true, []), (41, true, []), (42, true, []), (43, true, []), (44, false, []), (45, true, []), (46, true, [])] [[], [0], [0, 1], [0, 1, 2], [0, 1, 2, 3], [0, 1, 2, 3, 4], [0, 1, 2, 3, 4, 5], [0, 1, 2, 3, 4, 5, 6], [0, 1, 2, 3], [0, 1, 2, 3, 8], [0, 1, 2, 3, 8, 9], [0, 1, 2, 3, 8, 9, 10], [0, 1, 2, 3, 4, 5, 6, 7, 8, 9, 10, 11], [0, 1, 2, 3, 4, 5, 6, 7, 8, 9, 10, 11, 12], [0, 1, 2, 3, 4, 5, 6, 7, 8, 9, 10, 11, 12, 13], [0, 1, 2, 3, 4, 5, 6, 7, 8, 9, 10, 11, 12, 13, 14], [0, 1, 2, 3, 4, 5, 6, 7, 8, 9, 10, 11, 12, 13, 14, 15], [0, 1, 2, 3, 4, 5, 6, 7, 8, 9, 10, 11, 12, 13, 14, 15, 16], [0, 1, 2, 3, 4, 5, 6, 7, 8, 9, 10, 11, 12, 13, 14, 15, 16, 17], [0, 1, 2, 3, 4, 5, 6, 7, 8, 9, 10, 11, 12, 13, 14], [0, 1, 2, 3, 4, 5, 6, 7, 8, 9, 10, 11, 12, 13, 14, 15, 16, 17, 18, 19], [0, 1, 2, 3, 4, 5, 6, 7, 8, 9, 10, 11, 12, 13, 14, 15, 16, 17, 18, 19, 20], [0, 1, 2, 3, 4, 5, 6, 7, 8, 9, 10, 11, 12, 13, 14, 15, 16, 17, 18, 19, 20, 21], [0, 1, 2, 3, 4, 5, 6, 7, 8, 9, 10, 11, 12, 13, 14, 15, 16, 17, 18, 19, 20, 21, 22], [0, 1, 2, 3, 4, 5, 6, 7, 8, 9, 10, 11, 12, 13, 14, 15, 16, 17, 18, 19, 20, 21, 22, 23], [0, 1, 2, 3, 4, 5, 6, 7, 8, 9, 10, 11, 12, 13, 14, 15, 16, 17, 18, 19, 20, 21, 22], [0, 1, 2, 3, 4, 5, 6, 7, 8, 9, 10, 11, 12, 13, 14, 15, 16, 17, 18, 19, 20, 21, 22, 23, 24, 25], [0, 1, 2, 3, 4, 5, 6, 7, 8, 9, 10, 11, 12, 13, 14, 15, 16, 17, 18, 19, 20, 21, 22, 23, 24, 25, 26], [0, 1, 2, 3, 4, 5, 6, 7, 8, 9, 10, 11, 12, 13, 14, 15, 16, 17, 18, 19, 20, 21, 22, 23, 24, 25, 26, 27], [0, 1, 2, 3, 4, 5, 6, 7, 8, 9, 10, 11, 12, 13, 14, 15, 16, 17, 18, 19, 20, 21, 22, 23, 24, 25, 26, 27, 28], [0, 1, 2, 3, 4, 5, 6, 7, 8, 9, 10, 11, 12, 13, 14, 15, 16, 17, 18, 19, 20, 21, 22, 23, 24, 25, 26, 27, 28, 29], [0, 1, 2, 3, 4, 5, 6, 7, 8, 9, 10, 11, 12, 13, 14, 15, 16, 17, 18, 19, 20, 21, 22, 23, 24, 25, 26, 27, 28, 29, 30], [0, 1, 2, 3, 4, 5, 6, 7, 8, 9, 10, 11, 12, 13, 14, 15, 16, 17, 18, 19, 20, 21, 22, 23, 24, 25, 26, 27, 28, 29, 30, 31], [0, 1, 2, 3, 4, 5, 6, 7, 8, 9, 10, 11, 12, 13, 14, 15, 16, 17, 18, 19, 20, 21, 22, 23, 24, 25, 26, 27, 28, 29, 30, 31, 32], [0, 1, 2, 3, 4, 5, 6, 7, 8, 9, 10, 11, 12, 13, 14, 15, 16, 17, 18, 19, 20, 21, 22, 23, 24, 25, 26, 27, 28, 29, 30, 31, 32, 33], [0, 1, 2, 3, 4, 5, 6, 7, 8, 9, 10, 11, 12, 13, 14, 15, 16, 17, 18, 19, 20, 21, 22, 23, 24, 25, 26, 27, 28, 29, 30, 31, 32, 33, 34], [0, 1, 2, 3, 4, 5, 6, 7, 8, 9, 10, 11, 12, 13, 14, 15, 16, 17, 18, 19, 20, 21, 22, 23, 24, 25, 26, 27, 28, 29, 30, 31, 32, 33, 34, 35], [0, 1, 2, 3, 4, 5, 6, 7, 8, 9, 10, 11, 12, 13, 14, 15, 16, 17, 18, 19, 20, 21, 22, 23, 24, 25, 26, 27, 28, 29, 30, 31, 32, 33, 34, 35, 36], [0, 1, 2, 3, 4, 5, 6, 7, 8, 9, 10, 11, 12, 13, 14, 15, 16, 17, 18, 19, 20, 21, 22, 23, 24, 25, 26, 27, 28, 29, 30, 31, 32, 33, 34, 35, 36, 37], [0, 1, 2, 3, 4, 5, 6, 7, 8, 9, 10, 11, 12, 13, 14, 15, 16, 17, 18, 19, 20, 21, 22, 23, 24, 25, 26, 27, 28, 29, 30, 31, 32, 33, 34, 35, 36, 37, 38], [0, 1, 2, 3, 4, 5, 6, 7, 8, 9, 10, 11, 12, 13, 14, 15, 16, 17, 18, 19, 20, 21, 22, 23, 24, 25, 26, 27, 28, 29, 30, 31, 32, 33, 34, 35, 36, 37, 38, 39], [0, 1, 2, 3, 4, 5, 6, 7, 8, 9, 10, 11, 12, 13, 14, 15, 16, 17, 18, 19, 20, 21, 22, 23, 24, 25, 26, 27, 28, 29, 30, 31, 32, 33, 34, 35, 36, 37, 38, 39, 40], [0, 1, 2, 3, 4, 5, 6, 7, 8, 9, 10, 11, 12, 13, 14, 15, 16, 17, 18, 19, 20, 21, 22, 23, 24, 25, 26, 27, 28, 29, 30, 31, 32, 33, 34, 35, 36, 37, 38, 39, 40, 41], [0, 1, 2, 3, 4, 5, 6, 7, 8, 9, 10, 11, 12, 13, 14, 15, 16, 17, 18, 19, 20, 21, 22, 23, 24, 25, 26, 27, 28, 29, 30, 31, 32, 33, 34, 35, 36, 37, 38, 39, 40, 41, 42], [0, 1, 2, 3, 4, 5, 6, 7, 8, 9, 10, 11, 12, 13, 14, 15, 16, 17, 18, 19, 20, 21, 22, 23, 24, 25, 26, 27, 28, 29, 30, 31, 32, 33, 34, 35, 36, 37, 38, 39, 40, 41, 42, 43], [0, 1, 2, 3, 4, 5, 6, 7, 8, 9, 10, 11, 12, 13, 14, 15, 16, 17, 18, 19, 20, 21, 22, 23, 24, 25, 26, 27, 28, 29, 30, 31, 32, 33, 34, 35, 36, 37, 38, 39, 40, 41, 42, 43, 44], [0, 1, 2, 3, 4, 5, 6, 7, 8, 9, 10, 11, 12, 13, 14, 15, 16, 17, 18, 19, 20, 21, 22, 23, 24, 25, 26, 27, 28, 29, 30, 31, 32, 33, 34, 35, 36, 37, 38, 39, 40, 41, 42, 43, 44, 45]] MX (by kernel_rfl) ?_
          intro w1 hw1 hw2 hw3 hw4; replace hs := hs.redrawn hw1 hw2 hw3 hw4; clear hw1 hw2 hw3 hw4
          obtain ⟨w, rfl⟩ : ∃ w : World, w = w1 := ⟨_, rfl⟩
          refine D_q rfl rfl ?_
          refine s_move rfl rfl ?_
          refine D_qn ?_
          refine D_q rfl rfl ?_
          refine s_len rfl rfl (LN29 _ _ _ _) ?_
          refine D_qn ?_
          refine D_q rfl rfl ?_
          refine s_eql rfl rfl rfl ?_
          refine D_qn ?_
          refine D_q rfl rfl ?_
          refine s_move rfl rfl ?_
          refine WL_know (s := 281) (c := true) rfl (rfl) ?_
          refine D_qn ?_
          refine D_q rfl rfl ?_
          refine WL_take rfl ?_
          refine s_move rfl rfl ?_
          refine D_qn ?_
          refine D_q rfl rfl ?_
          refine WL_take rfl ?_
          (refine s_indexAddr El29 rfl rfl rfl ?hx ?_; case hx => (constructor <;> first | omega | (simp; omega)))
          refine D_qn ?_
          refine D_q rfl rfl ?_
          refine WL_take rfl ?_
          refine s_fieldAddr rfl rfl (FA56_0 _ _) ?_
          refine D_qn ?_
          refine D_q rfl rfl ?_
          refine WL_take rfl ?_
          first
            | refine s_load Try.isAgg3 rfl rfl (hs.cell (k := 0) rfl rfl) ?_
            | refine s_load Try.isAgg3 rfl rfl (hs.cell (k := 1) rfl rfl) ?_
            | refine s_load Try.isAgg3 rfl rfl (hs.cell (k := 2) rfl rfl) ?_
            | refine s_load Try.isAgg3 rfl rfl (hs.cell (k := 3) rfl rfl) ?_
          refine D_qn ?_
          refine D_q rfl rfl ?_
          refine WL_take rfl ?_
          refine s_move rfl rfl ?_
          refine D_qn ?_
          refine D_q rfl rfl ?_
          refine WL_take rfl ?_
          (refine s_indexAddr El29 rfl rfl rfl ?hx ?_; case hx => (constructor <;> first | omega | (simp; omega)))
          refine D_qn ?_
          refine D_q rfl rfl ?_
          refine WL_take rfl ?_
          refine s_fieldAddr rfl rfl (FA56_1 _ _) ?_
          refine D_qn ?_
          refine D_q rfl rfl ?_
          refine WL_take rfl ?_
          first
            | refine s_load Try.isAgg3 rfl rfl (hs.cell (k := 0) rfl rfl) ?_
            | refine s_load Try.isAgg3 rfl rfl (hs.cell (k := 1) rfl rfl) ?_
            | refine s_load Try.isAgg3 rfl rfl (hs.cell (k := 2) rfl rfl) ?_
            | refine s_load Try.isAgg3 rfl rfl (hs.cell (k := 3) rfl rfl) ?_
          refine D_qn ?_
          refine D_q rfl rfl ?_
          refine WL_take rfl ?_
          refine s_eql rfl rfl rfl ?_
          refine D_qn ?_
          refine D_q rfl rfl ?_
          refine s_pick_t rfl rfl rfl ?_
          refine D_qn ?_
          refine D_q rfl rfl ?_
          refine s_move rfl rfl ?_
          refine WL_know (s := 292) (c := true) rfl ((by simp)) ?_
          refine D_qn ?_
          refine D_q rfl rfl ?_
          refine WL_take rfl ?_
          refine s_move rfl rfl ?_
          refine D_qn ?_
          refine D_q rfl rfl ?_
          refine WL_take rfl ?_
          (refine s_indexAddr El29 rfl rfl rfl ?hx ?_; case hx => (constructor <;> first | omega | (simp; omega)))
          refine D_qn ?_
          refine D_q rfl rfl ?_
          refine WL_take rfl ?_
          refine s_fieldAddr rfl rfl (FA56_1 _ _) ?_
          refine D_qn ?_
          refine D_q rfl rfl ?_
          refine WL_take rfl ?_
          first
            | refine s_load Try.isAgg3 rfl rfl (hs.cell (k := 0) rfl rfl) ?_
            | refine s_load Try.isAgg3 rfl rfl (hs.cell (k := 1) rfl rfl) ?_
            | refine s_load Try.isAgg3 rfl rfl (hs.cell (k := 2) rfl rfl) ?_
            | refine s_load Try.isAgg3 rfl rfl (hs.cell (k := 3) rfl rfl) ?_
          refine D_qn ?_
          refine D_q rfl rfl ?_
          refine WL_take rfl ?_
          refine s_move rfl rfl ?_
          refine D_qn ?_
          refine D_q rfl rfl ?_
          refine WL_take rfl ?_
          refine s_eql rfl rfl rfl ?_
          refine D_qn ?_
          refine D_q rfl rfl ?_
          refine s_pick_t rfl rfl rfl ?_
          refine D_qn ?_
          refine D_q rfl rfl ?_
          refine s_move rfl rfl ?_
          refine WL_know (s := 300) (c := true) rfl ((by simp [q0])) ?_
          refine D_qn ?_
          refine D_q rfl rfl ?_
          refine WL_take rfl ?_
          refine s_move rfl rfl ?_
          refine D_qn ?_
          refine D_q rfl rfl ?_
          refine WL_take rfl ?_
          refine s_move rfl rfl ?_
          refine D_qn ?_
          refine D_e rfl ?_
          refine WL_take rfl ?_
          obtain ⟨cs, hp, k0, k1, k2, k4⟩ := rep_head hRE2 fun q hq => hs.own q (by simp [hq])
          refine s_call Try.call20 rfl rfl (term_ok p2 cs C.term w hp k2) ?_
          rintro r w ⟨hst, rfl⟩
          replace hs := hs.back0 hst
          clear hst hp k0 k1 k2 k4 cs
          simp only [List.nil_append] at hs
          refine D_en ?re ?_
          case re =>
            refine Reks_cons rfl rfl rfl rfl ?_ ?_
            · skip
              refine WL_take rfl ?_
              refine s_move rfl rfl ?_
              exact Rek_end rfl
            exact Reks_nil
          refine D_q rfl rfl ?_
          refine WL_take rfl ?_
          refine s_eql rfl rfl rfl ?_
          refine D_qn ?_
          refine D_q rfl rfl ?_
          refine s_pick_t rfl rfl rfl ?_
          refine D_qn ?_
          refine D_q rfl rfl ?_
          refine s_move rfl rfl ?_
          refine WL_know (s := 306) (c := true) rfl ((by simp [d2])) ?_
          refine D_qn ?_
          refine D_q rfl rfl ?_
          refine WL_take rfl ?_
          refine s_move rfl rfl ?_
          refine D_qn ?_
          refine D_q rfl rfl ?_
          refine WL_take rfl ?_
          refine s_eql rfl rfl rfl ?_
          refine D_qn ?_
          refine D_q rfl rfl ?_
          refine WL_take rfl ?_
          refine s_move rfl rfl ?_
          refine WL_case (s := 309) rfl (fun hg309 => ?_) (fun hg309 => ?_)
          · skip
            try simp only [decide_eq_true_eq, decide_eq_false_iff_not, gt_iff_lt, ge_iff_le, beq_iff_eq, beq_eq_false_iff_ne, ne_eq, bne_iff_ne, bne_eq_false_iff_eq, Bool.not_eq_true', Bool.not_eq_false', Bool.not_eq_true, Bool.not_eq_false, Decidable.not_not] at hg309
            refine D_qn ?_
            refine D_q rfl rfl ?_
            refine WL_skip rfl rfl rfl ?_
            refine D_qn ?_
            refine D_q rfl rfl ?_
            refine WL_skip rfl rfl rfl ?_
            refine D_qn ?_
            refine D_q rfl rfl ?_
            refine WL_skip rfl rfl rfl ?_
            refine D_qn ?_
            refine D_q rfl rfl ?_
            refine WL_skip rfl rfl rfl ?_
            refine D_qn ?_
            refine D_q rfl rfl ?_
            refine WL_skip rfl rfl rfl ?_
            refine D_qn ?_
            refine D_q rfl rfl ?_
            refine WL_skip rfl rfl rfl ?_
            refine D_qn ?_
            refine D_q rfl rfl ?_
            refine WL_skipU rfl rfl ?_
            refine D_qn ?_
            refine D_q rfl rfl ?_
            refine WL_skipU rfl rfl ?_
            refine D_qn ?_
            refine D_q rfl rfl ?_
            refine WL_skip rfl rfl rfl ?_
            refine D_qn ?_
            refine D_q rfl rfl ?_
            refine WL_take rfl ?_
            refine s_pick_t rfl rfl rfl ?_
            refine D_qn ?_
            refine D_q rfl rfl ?_
            refine s_pick_t rfl rfl rfl ?_
            refine D_qn ?_
            refine D_q rfl rfl ?_
            refine s_move rfl rfl ?_
            refine D_qn ?_
            refine D_e rfl ?_
            refine WL_take rfl ?_
            refine s_call Try.call19 rfl rfl (lives_ok w) ?_
            rintro r w ⟨hst, rfl⟩
            replace hs := hs.fwd1 hst
            refine D_en ?re ?_
            case re =>
              exact Reks_nil
            refine D_q rfl rfl ?_
            refine s_pick_t rfl rfl rfl ?_
            refine D_qn ?_
            refine D_q rfl rfl ?_
            refine s_assign rfl rfl ?_
            refine D_qn ?_
            refine D_nil ?_
            refine n_then ?_
            refine W_ret ?_
            first | exact end1 rfl rfl ⟨hs.fwd, rfl⟩ | (exfalso; omega)
          · skip
            try simp only [decide_eq_true_eq, decide_eq_false_iff_not, gt_iff_lt, ge_iff_le, beq_iff_eq, beq_eq_false_iff_ne, ne_eq, bne_iff_ne, bne_eq_false_iff_eq, Bool.not_eq_true', Bool.not_eq_false', Bool.not_eq_true, Bool.not_eq_false, Decidable.not_not] at hg309
            refine D_qn ?_
            refine D_q rfl rfl ?_
            refine WL_take rfl ?_
            refine s_move rfl rfl ?_
            refine D_qn ?_
            refine D_q rfl rfl ?_
            refine WL_take rfl ?_
            (refine s_indexAddr El29 rfl rfl rfl ?hx ?_; case hx => (constructor <;> first | omega | (simp; omega)))
            refine D_qn ?_
            refine D_q rfl rfl ?_
            refine WL_take rfl ?_
            refine s_fieldAddr rfl rfl (FA56_1 _ _) ?_
            refine D_qn ?_
            refine D_q rfl rfl ?_
            refine WL_take rfl ?_
            first
              | refine s_load Try.isAgg3 rfl rfl (hs.cell (k := 0) rfl rfl) ?_
              | refine s_load Try.isAgg3 rfl rfl (hs.cell (k := 1) rfl rfl) ?_
              | refine s_load Try.isAgg3 rfl rfl (hs.cell (k := 2) rfl rfl) ?_
              | refine s_load Try.isAgg3 rfl rfl (hs.cell (k := 3) rfl rfl) ?_
            refine D_qn ?_
            refine D_q rfl rfl ?_
            refine WL_take rfl ?_
            refine s_eql rfl rfl rfl ?_
            refine D_qn ?_
            refine D_q rfl rfl ?_
            refine WL_take rfl ?_
            refine s_move rfl rfl ?_
            refine WL_case (s := 315) rfl (fun hg315 => ?_) (fun hg315 => ?_)
            · skip
              try simp only [decide_eq_true_eq, decide_eq_false_iff_not, gt_iff_lt, ge_iff_le, beq_iff_eq, beq_eq_false_iff_ne, ne_eq, bne_iff_ne, bne_eq_false_iff_eq, Bool.not_eq_true', Bool.not_eq_false', Bool.not_eq_true, Bool.not_eq_false, Decidable.not_not] at hg315
              refine D_qn ?_
              refine D_q rfl rfl ?_
              refine WL_take rfl ?_
              refine s_move rfl rfl ?_
              refine D_qn ?_
              refine D_q rfl rfl ?_
              refine WL_take rfl ?_
              refine s_eql rfl rfl rfl ?_
              refine D_qn ?_
              refine D_q rfl rfl ?_
              refine WL_take rfl ?_
              refine s_pick_t rfl rfl rfl ?_
              refine D_qn ?_
              refine D_q rfl rfl ?_
              refine WL_take rfl ?_
              refine s_pick_f rfl rfl rfl ?_
              refine D_qn ?_
              refine D_q rfl rfl ?_
              refine s_pick_t rfl rfl rfl ?_
              refine D_qn ?_
              refine D_q rfl rfl ?_
              refine s_move rfl rfl ?_
              refine WL_know (s := 321) (c := true) rfl ((by first | rfl | (exfalso; omega) | (simp; omega))) ?_
              refine D_qn ?_
              refine D_e rfl ?_
              refine WL_take rfl ?_
              refine s_call Try.call19 rfl rfl (lives_ok w) ?_
              rintro r w ⟨hst, rfl⟩
              replace hs := hs.fwd1 hst
              refine D_en ?re ?_
              case re =>
                exact Reks_nil
              refine D_q rfl rfl ?_
              refine s_pick_t rfl rfl rfl ?_
              refine D_qn ?_
              refine D_q rfl rfl ?_
              refine s_assign rfl rfl ?_
              refine D_qn ?_
              refine D_nil ?_
              refine n_then ?_
              refine W_ret ?_
              first | exact end1 rfl rfl ⟨hs.fwd, rfl⟩ | (exfalso; omega)
            · skip
              try simp only [decide_eq_true_eq, decide_eq_false_iff_not, gt_iff_lt, ge_iff_le, beq_iff_eq, beq_eq_false_iff_ne, ne_eq, bne_iff_ne, bne_eq_false_iff_eq, Bool.not_eq_true', Bool.not_eq_false', Bool.not_eq_true, Bool.not_eq_false, Decidable.not_not] at hg315
              refine D_qn ?_
              refine D_q rfl rfl ?_
              refine WL_skip rfl rfl rfl ?_
              refine D_qn ?_
              refine D_q rfl rfl ?_
              refine WL_skip rfl rfl rfl ?_
              refine D_qn ?_
              refine D_q rfl rfl ?_
              refine WL_take rfl ?_
              refine s_pick_f rfl rfl rfl ?_
              refine D_qn ?_
              refine D_q rfl rfl ?_
              refine WL_take rfl ?_
              refine s_pick_f rfl rfl rfl ?_
              refine D_qn ?_
              refine D_q rfl rfl ?_
              refine s_pick_t rfl rfl rfl ?_
              refine D_qn ?_
              refine D_q rfl rfl ?_
              refine s_move rfl rfl ?_
              refine D_qn ?_
              refine D_e rfl ?_
              refine WL_skip rfl rfl rfl ?_
              refine D_en ?re ?_
              case re =>
                exact Reks_nil
              refine D_q rfl rfl ?_
              refine s_pick_f rfl rfl rfl ?_
              refine D_qn ?_
              refine D_q rfl rfl ?_
              refine s_assign rfl rfl ?_
              refine D_qn ?_
              refine D_nil ?_
              refine n_then ?_
              refine W_ret ?_
              first | exact end1 rfl rfl ⟨hs.fwd, rfl⟩ | (exfalso; omega)
        · skip
          try simp only [decide_eq_true_eq, decide_eq_false_iff_not, gt_iff_lt, ge_iff_le, beq_iff_eq, beq_eq_false_iff_ne, ne_eq, bne_iff_ne, bne_eq_false_iff_eq, Bool.not_eq_true', Bool.not_eq_false', Bool.not_eq_true, Bool.not_eq_false, Decidable.not_not] at hg238
          refine WL_skip rfl rfl rfl ?_
          refine WL_skip rfl rfl rfl ?_
          refine WL_skip rfl rfl rfl ?_
          refine WL_skip rfl rfl rfl ?_
          refine WL_skip rfl rfl rfl ?_
          refine WL_skip rfl rfl rfl ?_
          refine WL_skipU rfl rfl ?_
          refine WL_skipU rfl rfl ?_
          refine WL_skipU rfl rfl ?_
          refine WL_skip rfl rfl rfl ?_
          refine s_pick_f rfl rfl rfl ?_
          refine WL_nil ?_
          refine n_then ?_
          refine W_cond_f rfl ?_
          refine W_skip ?_
          refine n_then ?_
          refine W_seq ?_
          refine W_region ?_
          refine s_move rfl rfl ?_
          (refine s_indexAddr El29 rfl rfl rfl ?hx ?_; case hx => (constructor <;> first | omega | (simp; omega)))
          first
            | refine s_loadW Try.isAgg56 Try.sizeOf56 rfl rfl hs (kk := 0) rfl rfl ?_
            | refine s_loadW Try.isAgg56 Try.sizeOf56 rfl rfl hs (kk := 1) rfl rfl ?_
            | refine s_loadW Try.isAgg56 Try.sizeOf56 rfl rfl hs (kk := 2) rfl rfl ?_
            | refine s_loadW Try.isAgg56 Try.sizeOf56 rfl rfl hs (kk := 3) rfl rfl ?_
            | refine s_load_3 Try.isAgg56 Try.sizeOf56 rfl rfl (by first | exact hs.cell (k := 0) rfl rfl | exact hs.cell (k := 1) rfl rfl | exact hs.cell (k := 2) rfl rfl | exact hs.cell (k := 3) rfl rfl) (by first | exact hs.cell (k := 0) rfl rfl | exact hs.cell (k := 1) rfl rfl | exact hs.cell (k := 2) rfl rfl | exact hs.cell (k := 3) rfl rfl) (by first | exact hs.cell (k := 0) rfl rfl | exact hs.cell (k := 1) rfl rfl | exact hs.cell (k := 2) rfl rfl | exact hs.cell (k := 3) rfl rfl) ?_
          refine s_alloc rfl AL56 hs ?_; clear hs; intro b27 w hs
          first
            | refine s_storeW Try.sizeOf56 rfl rfl rfl rfl hs (kk := 0) rfl rfl ?_
            | refine s_storeW Try.sizeOf56 rfl rfl rfl rfl hs (kk := 1) rfl rfl ?_
            | refine s_storeW Try.sizeOf56 rfl rfl rfl rfl hs (kk := 2) rfl rfl ?_
            | refine s_storeW Try.sizeOf56 rfl rfl rfl rfl hs (kk := 3) rfl rfl ?_
            | refine s_storeAB Try.sizeOf56 rfl rfl rfl rfl hs (kk := 0) rfl rfl ?_
            | refine s_storeAB Try.sizeOf56 rfl rfl rfl rfl hs (kk := 1) rfl rfl ?_
            | refine s_storeAB Try.sizeOf56 rfl rfl rfl rfl hs (kk := 2) rfl rfl ?_
            | refine s_storeAB Try.sizeOf56 rfl rfl rfl rfl hs (kk := 3) rfl rfl ?_
          clear hs; intro w hs; try simp only [List.set_cons_zero, List.set_cons_succ, splice, List.take_succ_cons, List.take_zero, List.drop_succ_cons, List.drop_zero, List.nil_append, List.cons_append, List.length_cons, List.length_nil, Nat.reduceAdd, List.append_assoc] at hs
          refine WL_nil ?_
          refine n_then ?_
          refine W_seq ?_
          refine W_region ?_
          refine s_fieldAddr rfl rfl (FA56_2 _ _) ?_
          first
            | refine s_storeB Try.sizeOf22 rfl rfl rfl hs (kk := 0) rfl rfl ?_
            | refine s_storeB Try.sizeOf22 rfl rfl rfl hs (kk := 1) rfl rfl ?_
            | refine s_storeB Try.sizeOf22 rfl rfl rfl hs (kk := 2) rfl rfl ?_
            | refine s_storeB Try.sizeOf22 rfl rfl rfl hs (kk := 3) rfl rfl ?_
          clear hs; intro w hs; try simp only [List.set_cons_zero, List.set_cons_succ, splice, List.take_succ_cons, List.take_zero, List.drop_succ_cons, List.drop_zero, List.nil_append, List.cons_append, List.length_cons, List.length_nil, Nat.reduceAdd, List.append_assoc] at hs
          refine WL_nil ?_
          refine n_then ?_
          refine W_seq ?_
          refine W_seq ?_
          refine W_region ?_
          refine s_move rfl rfl ?_
          first
            | refine s_loadW Try.isAgg56 Try.sizeOf56 rfl rfl hs (kk := 0) rfl rfl ?_
            | refine s_loadW Try.isAgg56 Try.sizeOf56 rfl rfl hs (kk := 1) rfl rfl ?_
            | refine s_loadW Try.isAgg56 Try.sizeOf56 rfl rfl hs (kk := 2) rfl rfl ?_
            | refine s_loadW Try.isAgg56 Try.sizeOf56 rfl rfl hs (kk := 3) rfl rfl ?_
            | refine s_load_3 Try.isAgg56 Try.sizeOf56 rfl rfl (by first | exact hs.cell (k := 0) rfl rfl | exact hs.cell (k := 1) rfl rfl | exact hs.cell (k := 2) rfl rfl | exact hs.cell (k := 3) rfl rfl) (by first | exact hs.cell (k := 0) rfl rfl | exact hs.cell (k := 1) rfl rfl | exact hs.cell (k := 2) rfl rfl | exact hs.cell (k := 3) rfl rfl) (by first | exact hs.cell (k := 0) rfl rfl | exact hs.cell (k := 1) rfl rfl | exact hs.cell (k := 2) rfl rfl | exact hs.cell (k := 3) rfl rfl) ?_
          obtain ⟨cs, hp, k0, k1, k2, k4⟩ := rep_head hRB fun q hq => hs.own q (by simp [hq])
          refine s_call Try.call24 rfl rfl (receive_none p2 B cs R.id (.slice none 0 0) w hp k0 k1 ⟨none, 0, rfl, Nat.le_refl _, .inl rfl⟩ (by omega) (by omega)) ?_
          rintro r w ⟨hst, rfl⟩
          replace hs := hs.fwd1 hst
          clear hst hp k0 k1 k2 k4 cs
          refine s_len rfl rfl (LN29 _ _ _ _) ?_
          refine s_neq rfl rfl rfl ?_
          refine s_move rfl rfl ?_
          refine WL_know (s := 259) (c := false) rfl (rfl) ?_
          refine WL_take rfl ?_
          refine s_move rfl rfl ?_
          refine WL_take rfl ?_
          obtain ⟨cs, hp, k0, k1, k2, k4⟩ := rep_head hRB fun q hq => hs.own q (by simp [hq])
          refine s_call Try.call20 rfl rfl (term_ok p2 cs B.term w hp k2) ?_
          rintro r w ⟨hst, rfl⟩
          replace hs := hs.back0 hst
          clear hst hp k0 k1 k2 k4 cs
          simp only [List.nil_append] at hs
          refine WL_take rfl ?_
          refine s_neq rfl rfl rfl ?_
          refine s_pick_f rfl rfl rfl ?_
          refine WL_nil ?_
          refine n_then ?_
          refine W_cond_kf rfl ((by simp [b2])) ?_
          refine W_skip ?_
          refine n_then ?_
          refine W_seq ?_
          refine W_region ?_
          refine s_move rfl rfl ?_
          refine s_move rfl rfl ?_
          (refine s_indexAddr El29 rfl rfl rfl ?hx ?_; case hx => (constructor <;> first | omega | (simp; omega)))
          first
            | refine s_loadW Try.isAgg56 Try.sizeOf56 rfl rfl hs (kk := 0) rfl rfl ?_
            | refine s_loadW Try.isAgg56 Try.sizeOf56 rfl rfl hs (kk := 1) rfl rfl ?_
            | refine s_loadW Try.isAgg56 Try.sizeOf56 rfl rfl hs (kk := 2) rfl rfl ?_
            | refine s_loadW Try.isAgg56 Try.sizeOf56 rfl rfl hs (kk := 3) rfl rfl ?_
            | refine s_load_3 Try.isAgg56 Try.sizeOf56 rfl rfl (by first | exact hs.cell (k := 0) rfl rfl | exact hs.cell (k := 1) rfl rfl | exact hs.cell (k := 2) rfl rfl | exact hs.cell (k := 3) rfl rfl) (by first | exact hs.cell (k := 0) rfl rfl | exact hs.cell (k := 1) rfl rfl | exact hs.cell (k := 2) rfl rfl | exact hs.cell (k := 3) rfl rfl) (by first | exact hs.cell (k := 0) rfl rfl | exact hs.cell (k := 1) rfl rfl | exact hs.cell (k := 2) rfl rfl | exact hs.cell (k := 3) rfl rfl) ?_
          replace hs : St [] w0 w ([(g, Blk 56 ([.int .i64 (R.id : Int), .int .i64 (B.id : Int), .slice va (mesB (askM tn)).length vc] ++ RS))] ++ (L2 ++ LMP)) := by simpa using hs.tail.tail
          refine s_callL (M := [_]) (L1 := L2) (X := LMP) Try.call24 rfl rfl hs (fun h => receive_ok p2 B L2 (askM tn) R.id (.slice va (mesB (askM tn)).length vc) w hRB (hxv.sl w fun q hq => hs.own q (by simp [hq])) (fun a m c he hne => hs.apartY (M := [_]) (hxv.inL a m c he hne)) (askM_ok (by omega)) (by omega) (by omega) h) ?_
          clear hs; rintro u w L9 ⟨Lr, LQ, rfl, hRC, hMC⟩ - hs
          have hrv : B.recv (askM tn) R.id = (B.follow tn, [⟨B.id, R.id, (B.follow tn).voteM⟩]) := by rw [Rp.recv, if_pos (show (askM tn).kind = 0 from rfl), Rp.ask, if_neg (by rw [b2]; simp)]; rfl
          rw [hrv] at hRC hMC
          simp only at hRC hMC
          obtain ⟨C, hC⟩ : ∃ C, C = B.follow tn := ⟨_, rfl⟩
          have hCe : C.id = B.id ∧ C.mem = B.mem ∧ C.term = tn := by rw [hC, Rp.follow, if_pos (by omega)]; exact ⟨rfl, rfl, rfl⟩
          rw [← hC] at hRC hMC
          clear hrv hC hRB
          obtain ⟨d0, d1, d2⟩ := hCe
          obtain ⟨mm, LMB, LMP2, rfl, hOM, hMM2, hmm⟩ := hMC
          rcases mm with _ | ⟨x, mr2⟩
          · cases hmm
          simp only [List.map_cons, List.cons.injEq, List.map_eq_nil_iff] at hmm
          obtain ⟨hmx, rfl⟩ := hmm
          obtain ⟨g2, mc2, sp2, rfl, hmc2, rfl⟩ := hOM.block (by simp)
          obtain ⟨xs, xv⟩ := x
          simp only at hmx
          subst hmx
          replace hs : St [] w0 w ([(g, Blk 56 ([.int .i64 (R.id : Int), .int .i64 (B.id : Int), .slice va (mesB (askM tn)).length vc] ++ RS))] ++ (LQ ++ [(g2, Blk 56 ([.int .i64 (B.id : Int), .int .i64 (R.id : Int), xv] ++ sp2))])) := by simpa [cat, mmcells, Mm.cells] using St.reord [[_], LQ, [_], LMP2, LMP] [0, 1, 2] [3, 4] (by simpa [cat, mmcells, Mm.cells] using hs) rfl
          clear hOM
          simp only [List.length_cons, List.length_nil, Nat.zero_add]
          refine s_assign rfl rfl ?_
          refine WL_nil ?_
          refine n_then ?_
          refine W_seq ?_
          refine W_region ?_
          refine s_move rfl rfl ?_
          refine s_move rfl rfl ?_
          (refine s_indexAddr El29 rfl rfl rfl ?hx ?_; case hx => (constructor <;> first | omega | (simp; omega)))
          refine s_fieldAddr rfl rfl (FA56_1 _ _) ?_
          first
            | refine s_load Try.isAgg3 rfl rfl (hs.cell (k := 0) rfl rfl) ?_
            | refine s_load Try.isAgg3 rfl rfl (hs.cell (k := 1) rfl rfl) ?_
            | refine s_load Try.isAgg3 rfl rfl (hs.cell (k := 2) rfl rfl) ?_
            | refine s_load Try.isAgg3 rfl rfl (hs.cell (k := 3) rfl rfl) ?_
          have hel2 : C.elect (B.id : Int) = (C, [], if B.id = 0 then 1 else 20) := by
            have hmm : C.mem = 2 ∨ C.mem = 3 := by omega
            rw [← d0]
            refine elect_other hmm (by omega) ?_
            rcases ho with ⟨h1, h2⟩ | ⟨h1, h2⟩
            · refine .inr ⟨by omega, ?_⟩
              obtain ⟨_, _, h3⟩ := hx
              rcases hmm with h4 | h4
              · have h5 : mem = 2 := by omega
                rw [h5] at h3; omega
              · have h5 : mem = 3 := by omega
                rw [h5] at h3; omega
            · exact .inl (by omega)
          refine s_callL (M := [_]) (L1 := LQ) (X := [_]) Try.call9 rfl rfl hs (fun h => elect_ok p2 C LQ (B.id : Int) w hRC (by unfold isI64; omega) h) ?_
          clear hs; rintro u w L9 ⟨rv1, Lm2, LE2, rfl, rfl, hRE2, -⟩ - hs
          rw [hel2] at hRE2 ⊢
          simp only at hRE2 ⊢
          obtain ⟨er, her⟩ : ∃ er : Int, er = if B.id = 0 then 1 else 20 := ⟨_, rfl⟩
          rw [← her]
          replace her : (B.id = 0 ∧ er = 1) ∨ (B.id = 1 ∧ er = 20) := by
            rw [her]
            by_cases h : B.id = 0
            · exact .inl ⟨h, if_pos h⟩
            · exact .inr ⟨by omega, if_neg h⟩
          replace hs : St [] w0 w ([(g, Blk 56 ([.int .i64 (R.id : Int), .int .i64 (B.id : Int), .slice va (mesB (askM tn)).length vc] ++ RS))] ++ ([(g2, Blk 56 ([.int .i64 (B.id : Int), .int .i64 (R.id : Int), xv] ++ sp2))] ++ LE2)) := by simpa [cat] using St.reord [[_], LE2, Lm2, [_]] [0, 3, 1] [2] (by simpa [cat] using hs) rfl
          simp only [List.cons_append, List.nil_append] at hs
          obtain ⟨cs, hp, k0, k1, k2, k4⟩ := rep_head hRE2 fun q hq => hs.own q (by simp [hq])
          refine s_move rfl rfl ?_
          refine s_extract rfl rfl rfl ?_
          refine s_extract rfl rfl rfl ?_
          refine s_assign rfl rfl ?_
          refine s_assign rfl rfl ?_
          refine WL_nil ?_
          refine n_then ?_
          refine W_seq ?_
          refine W_draw [(0, true, []), (1, true, []), (2, true, []), (3, true, []), (4, true, []), (5, true, []), (6, true, []), (7, true, []), (8, true, []), (9, true, []), (10, true, []), (11, true, []), (12, true, []), (13, true, []), (14, true, []), (15, true, []), (16, true, []), (17, true, []), (18, true, []), (19, true, []), (20, true, []), (21, true, []), (22, true, []), (23, true, []), (25, true, []), (24, false, [25]), (26, true, []), (27, true, []), (28, true, []), (29, true, []), (30, true, []), (31, true, []), (32, true, []), (33, true, []), (34, true, []), (35, true, []), (36, true, []), (37, true, []), (38, true, []), (39, true, []), (40, true, []), (41, true, []), (42, true, []), (43, true, []), (44, false, []), (45, true, []), (46, true, [])] [[], [0], [0, 1], [0, 1, 2], [0, 1, 2, 3], [0, 1, 2, 3, 4], [0, 1, 2, 3, 4, 5], [0, 1, 2, 3, 4, 5, 6], [0, 1, 2, 3], [0, 1, 2, 3, 8], [0, 1, 2, 3, 8, 9], [0, 1, 2, 3, 8, 9, 10], [0, 1, 2, 3, 4, 5, 6, 7, 8, 9, 10, 11], [0, 1, 2, 3, 4, 5, 6, 7, 8, 9, 10, 11, 12], [0, 1, 2, 3, 4, 5, 6, 7, 8, 9, 10, 11, 12, 13], [0, 1, 2, 3, 4, 5, 6, 7, 8, 9, 10, 11, 12, 13, 14], [0, 1, 2, 3, 4, 5, 6, 7, 8, 9, 10, 11, 12, 13, 14, 15], [0, 1, 2, 3, 4, 5, 6, 7, 8, 9, 10, 11, 12, 13, 14, 15, 16], [0, 1, 2, 3, 4, 5, 6, 7, 8, 9, 10, 11, 12, 13, 14, 15, 16, 17], [0, 1, 2, 3, 4, 5, 6, 7, 8, 9, 10, 11, 12, 13, 14], [0, 1, 2, 3, 4, 5, 6, 7, 8, 9, 10, 11, 12, 13, 14, 15, 16, 17, 18, 19], [0, 1, 2, 3, 4, 5, 6, 7, 8, 9, 10, 11, 12, 13, 14, 15, 16, 17, 18, 19, 20], [0, 1, 2, 3, 4, 5, 6, 7, 8, 9, 10, 11, 12, 13, 14, 15, 16, 17, 18, 19, 20, 21], [0, 1, 2, 3, 4, 5, 6, 7, 8, 9, 10, 11, 12, 13, 14, 15, 16, 17, 18, 19, 20, 21, 22], [0, 1, 2, 3, 4, 5, 6, 7, 8, 9, 10, 11, 12, 13, 14, 15, 16, 17, 18, 19, 20, 21, 22, 23], [0, 1, 2, 3, 4, 5, 6, 7, 8, 9, 10, 11, 12, 13, 14, 15, 16, 17, 18, 19, 20, 21, 22], [0, 1, 2, 3, 4, 5, 6, 7, 8, 9, 10, 11, 12, 13, 14, 15, 16, 17, 18, 19, 20, 21, 22, 23, 24, 25], [0, 1, 2, 3, 4, 5, 6, 7, 8, 9, 10, 11, 12, 13, 14, 15, 16, 17, 18, 19, 20, 21, 22, 23, 24, 25, 26], [0, 1, 2, 3, 4, 5, 6, 7, 8, 9, 10, 11, 12, 13, 14, 15, 16, 17, 18, 19, 20, 21, 22, 23, 24, 25, 26, 27], [0, 1, 2, 3, 4, 5, 6, 7, 8, 9, 10, 11, 12, 13, 14, 15, 16, 17, 18, 19, 20, 21, 22, 23, 24, 25, 26, 27, 28], [0, 1, 2, 3, 4, 5, 6, 7, 8, 9, 10, 11, 12, 13, 14, 15, 16, 17, 18, 19, 20, 21, 22, 23, 24, 25, 26, 27, 28, 29], [0, 1, 2, 3, 4, 5, 6, 7, 8, 9, 10, 11, 12, 13, 14, 15, 16, 17, 18, 19, 20, 21, 22, 23, 24, 25, 26, 27, 28, 29, 30], [0, 1, 2, 3, 4, 5, 6, 7, 8, 9, 10, 11, 12, 13, 14, 15, 16, 17, 18, 19, 20, 21, 22, 23, 24, 25, 26, 27, 28, 29, 30, 31], [0, 1, 2, 3, 4, 5, 6, 7, 8, 9, 10, 11, 12, 13, 14, 15, 16, 17, 18, 19, 20, 21, 22, 23, 24, 25, 26, 27, 28, 29, 30, 31, 32], [0, 1, 2, 3, 4, 5, 6, 7, 8, 9, 10, 11, 12, 13, 14, 15, 16, 17, 18, 19, 20, 21, 22, 23, 24, 25, 26, 27, 28, 29, 30, 31, 32, 33], [0, 1, 2, 3, 4, 5, 6, 7, 8, 9, 10, 11, 12, 13, 14, 15, 16, 17, 18, 19, 20, 21, 22, 23, 24, 25, 26, 27, 28, 29, 30, 31, 32, 33, 34], [0, 1, 2, 3, 4, 5, 6, 7, 8, 9, 10, 11, 12, 13, 14, 15, 16, 17, 18, 19, 20, 21, 22, 23, 24, 25, 26, 27, 28, 29, 30, 31, 32, 33, 34, 35], [0, 1, 2, 3, 4, 5, 6, 7, 8, 9, 10, 11, 12, 13, 14, 15, 16, 17, 18, 19, 20, 21, 22, 23, 24, 25, 26, 27, 28, 29, 30, 31, 32, 33, 34, 35, 36], [0, 1, 2, 3, 4, 5, 6, 7, 8, 9, 10, 11, 12, 13, 14, 15, 16, 17, 18, 19, 20, 21, 22, 23, 24, 25, 26, 27, 28, 29, 30, 31, 32, 33, 34, 35, 36, 37], [0, 1, 2, 3, 4, 5, 6, 7, 8, 9, 10, 11, 12, 13, 14, 15, 16, 17, 18, 19, 20, 21, 22, 23, 24, 25, 26, 27, 28, 29, 30, 31, 32, 33, 34, 35, 36, 37, 38], [0, 1, 2, 3, 4, 5, 6, 7, 8, 9, 10, 11, 12, 13, 14, 15, 16, 17, 18, 19, 20, 21, 22, 23, 24, 25, 26, 27, 28, 29, 30, 31, 32, 33, 34, 35, 36, 37, 38, 39], [0, 1, 2, 3, 4, 5, 6, 7, 8, 9, 10, 11, 12, 13, 14, 15, 16, 17, 18, 19, 20, 21, 22, 23, 24, 25, 26, 27, 28, 29, 30, 31, 32, 33, 34, 35, 36, 37, 38, 39, 40], [0, 1, 2, 3, 4, 5, 6, 7, 8, 9, 10, 11, 12, 13, 14, 15, 16, 17, 18, 19, 20, 21, 22, 23, 24, 25, 26, 27, 28, 29, 30, 31, 32, 33, 34, 35, 36, 37, 38, 39, 40, 41], [0, 1, 2, 3, 4, 5, 6, 7, 8, 9, 10, 11, 12, 13, 14, 15, 16, 17, 18, 19, 20, 21, 22, 23, 24, 25, 26, 27, 28, 29, 30, 31, 32, 33, 34, 35, 36, 37, 38, 39, 40, 41, 42], [0, 1, 2, 3, 4, 5, 6, 7, 8, 9, 10, 11, 12, 13, 14, 15, 16, 17, 18, 19, 20, 21, 22, 23, 24, 25, 26, 27, 28, 29, 30, 31, 32, 33, 34, 35, 36, 37, 38, 39, 40, 41, 42, 43], [0, 1, 2, 3, 4, 5, 6, 7, 8, 9, 10, 11, 12, 13, 14, 15, 16, 17, 18, 19, 20, 21, 22, 23, 24, 25, 26, 27, 28, 29, 30, 31, 32, 33, 34, 35, 36, 37, 38, 39, 40, 41, 42, 43, 44], [0, 1, 2, 3, 4, 5, 6, 7, 8, 9, 10, 11, 12, 13, 14, 15, 16, 17, 18, 19, 20, 21, 22, 23, 24, 25, 26, 27, 28, 29, 30, 31, 32, 33, 34, 35, 36, 37, 38, 39, 40, 41, 42, 43, 44, 45]] MX (by kernel_rfl) ?_
          intro w1 hw1 hw2 hw3 hw4; replace hs := hs.redrawn hw1 hw2 hw3 hw4; clear hw1 hw2 hw3 hw4
          obtain ⟨w, rfl⟩ : ∃ w : World, w = w1 := ⟨_, rfl⟩
          refine D_q rfl rfl ?_
          refine s_move rfl rfl ?_
          refine D_qn ?_
          refine D_q rfl rfl ?_
          refine s_len rfl rfl (LN29 _ _ _ _) ?_
          refine D_qn ?_
          refine D_q rfl rfl ?_
          refine s_eql rfl rfl rfl ?_
          refine D_qn ?_
          refine D_q rfl rfl ?_
          refine s_move rfl rfl ?_
          refine WL_know (s := 281) (c := true) rfl (rfl) ?_
          refine D_qn ?_
          refine D_q rfl rfl ?_
          refine WL_take rfl ?_
          refine s_move rfl rfl ?_
          refine D_qn ?_
          refine D_q rfl rfl ?_
          refine WL_take rfl ?_
          (refine s_indexAddr El29 rfl rfl rfl ?hx ?_; case hx => (constructor <;> first | omega | (simp; omega)))
          refine D_qn ?_
          refine D_q rfl rfl ?_
          refine WL_take rfl ?_
          refine s_fieldAddr rfl rfl (FA56_0 _ _) ?_
          refine D_qn ?_
          refine D_q rfl rfl ?_
          refine WL_take rfl ?_
          first
            | refine s_load Try.isAgg3 rfl rfl (hs.cell (k := 0) rfl rfl) ?_
            | refine s_load Try.isAgg3 rfl rfl (hs.cell (k := 1) rfl rfl) ?_
            | refine s_load Try.isAgg3 rfl rfl (hs.cell (k := 2) rfl rfl) ?_
            | refine s_load Try.isAgg3 rfl rfl (hs.cell (k := 3) rfl rfl) ?_
          refine D_qn ?_
          refine D_q rfl rfl ?_
          refine WL_take rfl ?_
          refine s_move rfl rfl ?_
          refine D_qn ?_
          refine D_q rfl rfl ?_
          refine WL_take rfl ?_
          (refine s_indexAddr El29 rfl rfl rfl ?hx ?_; case hx => (constructor <;> first | omega | (simp; omega)))
          refine D_qn ?_
          refine D_q rfl rfl ?_
          refine WL_take rfl ?_
          refine s_fieldAddr rfl rfl (FA56_1 _ _) ?_
          refine D_qn ?_
          refine D_q rfl rfl ?_
          refine WL_take rfl ?_
          first
            | refine s_load Try.isAgg3 rfl rfl (hs.cell (k := 0) rfl rfl) ?_
            | refine s_load Try.isAgg3 rfl rfl (hs.cell (k := 1) rfl rfl) ?_
            | refine s_load Try.isAgg3 rfl rfl (hs.cell (k := 2) rfl rfl) ?_
            | refine s_load Try.isAgg3 rfl rfl (hs.cell (k := 3) rfl rfl) ?_
          refine D_qn ?_
          refine D_q rfl rfl ?_
          refine WL_take rfl ?_
          refine s_eql rfl rfl rfl ?_
          refine D_qn ?_
          refine D_q rfl rfl ?_
          refine s_pick_t rfl rfl rfl ?_
          refine D_qn ?_
          refine D_q rfl rfl ?_
          refine s_move rfl rfl ?_
          refine WL_know (s := 292) (c := true) rfl ((by simp)) ?_
          refine D_qn ?_
          refine D_q rfl rfl ?_
          refine WL_take rfl ?_
          refine s_move rfl rfl ?_
          refine D_qn ?_
          refine D_q rfl rfl ?_
          refine WL_take rfl ?_
          (refine s_indexAddr El29 rfl rfl rfl ?hx ?_; case hx => (constructor <;> first | omega | (simp; omega)))
          refine D_qn ?_
          refine D_q rfl rfl ?_
          refine WL_take rfl ?_
          refine s_fieldAddr rfl rfl (FA56_1 _ _) ?_
          refine D_qn ?_
          refine D_q rfl rfl ?_
          refine WL_take rfl ?_
          first
            | refine s_load Try.isAgg3 rfl rfl (hs.cell (k := 0) rfl rfl) ?_
            | refine s_load Try.isAgg3 rfl rfl (hs.cell (k := 1) rfl rfl) ?_
            | refine s_load Try.isAgg3 rfl rfl (hs.cell (k := 2) rfl rfl) ?_
            | refine s_load Try.isAgg3 rfl rfl (hs.cell (k := 3) rfl rfl) ?_
          refine D_qn ?_
          refine D_q rfl rfl ?_
          refine WL_take rfl ?_
          refine s_move rfl rfl ?_
          refine D_qn ?_
          refine D_q rfl rfl ?_
          refine WL_take rfl ?_
          refine s_eql rfl rfl rfl ?_
          refine D_qn ?_
          refine D_q rfl rfl ?_
          refine s_pick_t rfl rfl rfl ?_
          refine D_qn ?_
          refine D_q rfl rfl ?_
          refine s_move rfl rfl ?_
          refine WL_know (s := 300) (c := true) rfl ((by simp [q0])) ?_
          refine D_qn ?_
          refine D_q rfl rfl ?_
          refine WL_take rfl ?_
          refine s_move rfl rfl ?_
          refine D_qn ?_
          refine D_q rfl rfl ?_
          refine WL_take rfl ?_
          refine s_move rfl rfl ?_
          refine D_qn ?_
          refine D_e rfl ?_
          refine WL_take rfl ?_
          obtain ⟨cs, hp, k0, k1, k2, k4⟩ := rep_head hRE2 fun q hq => hs.own q (by simp [hq])
          refine s_call Try.call20 rfl rfl (term_ok p2 cs C.term w hp k2) ?_
          rintro r w ⟨hst, rfl⟩
          replace hs := hs.back0 hst
          clear hst hp k0 k1 k2 k4 cs
          simp only [List.nil_append] at hs
          refine D_en ?re ?_
          case re =>
            refine Reks_cons rfl rfl rfl rfl ?_ ?_
            · skip
              refine WL_take rfl ?_
              refine s_move rfl rfl ?_
              exact Rek_end rfl
            exact Reks_nil
          refine D_q rfl rfl ?_
          refine WL_take rfl ?_
          refine s_eql rfl rfl rfl ?_
          refine D_qn ?_
          refine D_q rfl rfl ?_
          refine s_pick_t rfl rfl rfl ?_
          refine D_qn ?_
          refine D_q rfl rfl ?_
          refine s_move rfl rfl ?_
          refine WL_know (s := 306) (c := true) rfl ((by simp [d2])) ?_
          refine D_qn ?_
          refine D_q rfl rfl ?_
          refine WL_take rfl ?_
          refine s_move rfl rfl ?_
          refine D_qn ?_
          refine D_q rfl rfl ?_
          refine WL_take rfl ?_
          refine s_eql rfl rfl rfl ?_
          refine D_qn ?_
          refine D_q rfl rfl ?_
          refine WL_take rfl ?_
          refine s_move rfl rfl ?_
          refine WL_case (s := 309) rfl (fun hg309 => ?_) (fun hg309 => ?_)
          · skip
            try simp only [decide_eq_true_eq, decide_eq_false_iff_not, gt_iff_lt, ge_iff_le, beq_iff_eq, beq_eq_false_iff_ne, ne_eq, bne_iff_ne, bne_eq_false_iff_eq, Bool.not_eq_true', Bool.not_eq_false', Bool.not_eq_true, Bool.not_eq_false, Decidable.not_not] at hg309
            refine D_qn ?_
            refine D_q rfl rfl ?_
            refine WL_skip rfl rfl rfl ?_
            refine D_qn ?_
            refine D_q rfl rfl ?_
            refine WL_skip rfl rfl rfl ?_
            refine D_qn ?_
            refine D_q rfl rfl ?_
            refine WL_skip rfl rfl rfl ?_
            refine D_qn ?_
            refine D_q rfl rfl ?_
            refine WL_skip rfl rfl rfl ?_
            refine D_qn ?_
            refine D_q rfl rfl ?_
            refine WL_skip rfl rfl rfl ?_
            refine D_qn ?_
            refine D_q rfl rfl ?_
            refine WL_skip rfl rfl rfl ?_
            refine D_qn ?_
            refine D_q rfl rfl ?_
            refine WL_skipU rfl rfl ?_
            refine D_qn ?_
            refine D_q rfl rfl ?_
            refine WL_skipU rfl rfl ?_
            refine D_qn ?_
            refine D_q rfl rfl ?_
            refine WL_skip rfl rfl rfl ?_
            refine D_qn ?_
            refine D_q rfl rfl ?_
            refine WL_take rfl ?_
            refine s_pick_t rfl rfl rfl ?_
            refine D_qn ?_
            refine D_q rfl rfl ?_
            refine s_pick_t rfl rfl rfl ?_
            refine D_qn ?_
            refine D_q rfl rfl ?_
            refine s_move rfl rfl ?_
            refine D_qn ?_
            refine D_e rfl ?_
            refine WL_take rfl ?_
            refine s_call Try.call19 rfl rfl (lives_ok w) ?_
            rintro r w ⟨hst, rfl⟩
            replace hs := hs.fwd1 hst
            refine D_en ?re ?_
            case re =>
              exact Reks_nil
            refine D_q rfl rfl ?_
            refine s_pick_t rfl rfl rfl ?_
            refine D_qn ?_
            refine D_q rfl rfl ?_
            refine s_assign rfl rfl ?_
            refine D_qn ?_
            refine D_nil ?_
            refine n_then ?_
            refine W_ret ?_
            first | exact end1 rfl rfl ⟨hs.fwd, rfl⟩ | (exfalso; omega)
          · skip
            try simp only [decide_eq_true_eq, decide_eq_false_iff_not, gt_iff_lt, ge_iff_le, beq_iff_eq, beq_eq_false_iff_ne, ne_eq, bne_iff_ne, bne_eq_false_iff_eq, Bool.not_eq_true', Bool.not_eq_false', Bool.not_eq_true, Bool.not_eq_false, Decidable.not_not] at hg309
            refine D_qn ?_
            refine D_q rfl rfl ?_
            refine WL_take rfl ?_
            refine s_move rfl rfl ?_
            refine D_qn ?_
            refine D_q rfl rfl ?_
            refine WL_take rfl ?_
            (refine s_indexAddr El29 rfl rfl rfl ?hx ?_; case hx => (constructor <;> first | omega | (simp; omega)))
            refine D_qn ?_
            refine D_q rfl rfl ?_
            refine WL_take rfl ?_
            refine s_fieldAddr rfl rfl (FA56_1 _ _) ?_
            refine D_qn ?_
            refine D_q rfl rfl ?_
            refine WL_take rfl ?_
            first
              | refine s_load Try.isAgg3 rfl rfl (hs.cell (k := 0) rfl rfl) ?_
              | refine s_load Try.isAgg3 rfl rfl (hs.cell (k := 1) rfl rfl) ?_
              | refine s_load Try.isAgg3 rfl rfl (hs.cell (k := 2) rfl rfl) ?_
              | refine s_load Try.isAgg3 rfl rfl (hs.cell (k := 3) rfl rfl) ?_
            refine D_qn ?_
            refine D_q rfl rfl ?_
            refine WL_take rfl ?_
            refine s_eql rfl rfl rfl ?_
            refine D_qn ?_
            refine D_q rfl rfl ?_
            refine WL_take rfl ?_
            refine s_move rfl rfl ?_
            refine WL_case (s := 315) rfl (fun hg315 => ?_) (fun hg315 => ?_)
            · skip
              try simp only [decide_eq_true_eq, decide_eq_false_iff_not, gt_iff_lt, ge_iff_le, beq_iff_eq, beq_eq_false_iff_ne, ne_eq, bne_iff_ne, bne_eq_false_iff_eq, Bool.not_eq_true', Bool.not_eq_false', Bool.not_eq_true, Bool.not_eq_false, Decidable.not_not] at hg315
              refine D_qn ?_
              refine D_q rfl rfl ?_
              refine WL_take rfl ?_
              refine s_move rfl rfl ?_
              refine D_qn ?_
              refine D_q rfl rfl ?_
              refine WL_take rfl ?_
              refine s_eql rfl rfl rfl ?_
              refine D_qn ?_
              refine D_q rfl rfl ?_
              refine WL_take rfl ?_
              refine s_pick_t rfl rfl rfl ?_
              refine D_qn ?_
              refine D_q rfl rfl ?_
              refine WL_take rfl ?_
              refine s_pick_f rfl rfl rfl ?_
              refine D_qn ?_
              refine D_q rfl rfl ?_
              refine s_pick_t rfl rfl rfl ?_
              refine D_qn ?_
              refine D_q rfl rfl ?_
              refine s_move rfl rfl ?_
              refine WL_know (s := 321) (c := true) rfl ((by first | rfl | (exfalso; omega) | (simp; omega))) ?_
              refine D_qn ?_
              refine D_e rfl ?_
              refine WL_take rfl ?_
              refine s_call Try.call19 rfl rfl (lives_ok w) ?_
              rintro r w ⟨hst, rfl⟩
              replace hs := hs.fwd1 hst
              refine D_en ?re ?_
              case re =>
                exact Reks_nil
              refine D_q rfl rfl ?_
              refine s_pick_t rfl rfl rfl ?_
              refine D_qn ?_
              refine D_q rfl rfl ?_
              refine s_assign rfl rfl ?_
              refine D_qn ?_
              refine D_nil ?_
              refine n_then ?_
              refine W_ret ?_
              first | exact end1 rfl rfl ⟨hs.fwd, rfl⟩ | (exfalso; omega)
            · skip
              try simp only [decide_eq_true_eq, decide_eq_false_iff_not, gt_iff_lt, ge_iff_le, beq_iff_eq, beq_eq_false_iff_ne, ne_eq, bne_iff_ne, bne_eq_false_iff_eq, Bool.not_eq_true', Bool.not_eq_false', Bool.not_eq_true, Bool.not_eq_false, Decidable.not_not] at hg315
              refine D_qn ?_
              refine D_q rfl rfl ?_
              refine WL_skip rfl rfl rfl ?_
              refine D_qn ?_
              refine D_q rfl rfl ?_
              refine WL_skip rfl rfl rfl ?_
              refine D_qn ?_
              refine D_q rfl rfl ?_
              refine WL_take rfl ?_
              refine s_pick_f rfl rfl rfl ?_
              refine D_qn ?_
              refine D_q rfl rfl ?_
              refine WL_take rfl ?_
              refine s_pick_f rfl rfl rfl ?_
              refine D_qn ?_
              refine D_q rfl rfl ?_
              refine s_pick_t rfl rfl rfl ?_
              refine D_qn ?_
              refine D_q rfl rfl ?_
              refine s_move rfl rfl ?_
              refine D_qn ?_
              refine D_e rfl ?_
              refine WL_skip rfl rfl rfl ?_
              refine D_en ?re ?_
              case re =>
                exact Reks_nil
              refine D_q rfl rfl ?_
              refine s_pick_f rfl rfl rfl ?_
              refine D_qn ?_
              refine D_q rfl rfl ?_
              refine s_assign rfl rfl ?_
              refine D_qn ?_
              refine D_nil ?_
              refine n_then ?_
              refine W_ret ?_
              first | exact end1 rfl rfl ⟨hs.fwd, rfl⟩ | (exfalso; omega)
theorem leaseArguments_ok (id mem t frm to b : Int) (w0 : World) (ht : isI64 t) :
    Ret Try.prog 4 [.int .i64 id, .int .i64 mem, .int .i64 t, .int .i64 frm, .int .i64 to, .int .u8 b].toArray w0 fun r w' => Fwd [] w0 w' ∧ r = .bool true := by
  by_cases h1 : mem < 1 ∨ 3 < mem ∨ id < 0 ∨ mem ≤ id
  · exact argsA id mem t frm to b w0 h1
  · have hg : 1 ≤ mem ∧ mem ≤ 3 ∧ 0 ≤ id ∧ id < mem := by omega
    by_cases h2 : t < 1 ∨ 1073741824 < t ∨ t % mem ≠ id
    · exact argsB id mem t frm to b w0 hg ht h2
    · have h3 : 1 ≤ t ∧ t ≤ 1073741824 ∧ t % mem = id := ⟨by omega, by omega, Decidable.byContradiction fun h => h2 (.inr (.inr h))⟩
      by_cases h4 : mem = 1
      · exact argsC id mem t frm to b w0 hg ht h3 h4
      · by_cases h5 : id = 0
        · exact argsD id mem t frm to b w0 hg ht h3 (by omega) 1 (.inl ⟨h5, rfl⟩)
        · exact argsD id mem t frm to b w0 hg ht h3 (by omega) 0 (.inr ⟨h5, rfl⟩)
end Go.Proofs.Ytkobigdfijeajaa
