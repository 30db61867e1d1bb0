/- LeaseArguments: a group of one. -/
import Derived.Test.YtkobigdfijeajaaRpQ
set_option linter.unusedVariables false
set_option linter.unusedSimpArgs false
namespace Go.Proofs.Ytkobigdfijeajaa
open Go.SL
set_option maxHeartbeats 4000000 in
set_option maxRecDepth 8000 in
theorem argsC (id mem t frm to b : Int) (w0 : World) (hgood : 1 ≤ mem ∧ mem ≤ 3 ∧ 0 ≤ id ∧ id < mem) (ht : isI64 t) (hx : 1 ≤ t ∧ t ≤ 1073741824 ∧ t % mem = id) (hone : mem = 1) :
    Ret Try.prog 4 [.int .i64 id, .int .i64 mem, .int .i64 t, .int .i64 frm, .int .i64 to, .int .u8 b].toArray w0 fun r w' => Fwd [] w0 w' ∧ r = .bool true := by
  refine Ret_start fun w hs => ?_
  refine Ret_of Try.func4 rfl Try.ntmps4 rfl ?_
  refine W_seq ?_
  refine W_region ?_
  refine s_assign rfl rfl ?_
  refine WL_nil ?_
  refine n_then ?_
  refine W_seq ?_
  refine W_region ?_
  refine s_move rfl rfl ?_
  refine s_move rfl rfl ?_
  refine s_call Try.call8 rfl rfl (start_ok id mem w) ?_
  rintro r w (⟨hbad, -, -⟩ | ⟨hgood, p, L, rfl, hRA, hst⟩)
  · exfalso; omega
  replace hs := hs.back0 hst
  clear hst
  rw [List.append_nil] at hs
  obtain ⟨R, hRd⟩ : ∃ R, R = R00 id mem := ⟨_, rfl⟩
  replace hRA : RepAt p R L := by rw [hRd]; exact hRA
  have q0 : (R.id : Int) = id := by rw [hRd]; show ((id.toNat : Nat) : Int) = id; omega
  have q1 : (R.mem : Int) = mem := by rw [hRd]; show ((mem.toNat : Nat) : Int) = mem; omega
  have q2 : R.term = 0 := by rw [hRd]; rfl
  have q3 : R.role = 0 := by rw [hRd]; rfl
  have q4 : R.log = [] := by rw [hRd]; rfl
  have q5 : R.n = 0 := by rw [hRd]; rfl
  clear hRd
  refine s_move rfl rfl ?_
  refine s_extract rfl rfl rfl ?_
  refine s_extract rfl rfl rfl ?_
  refine s_assign rfl rfl ?_
  refine s_assign rfl rfl ?_
  refine WL_nil ?_
  refine n_then ?_
  refine W_seq ?_
  refine W_seq ?_
  refine W_region ?_
  refine s_move rfl rfl ?_
  refine s_lss rfl rfl rfl ?_
  refine s_move rfl rfl ?_
  refine WL_know (s := 39) (c := false) rfl ((decide_eq_false (by omega))) ?_
  refine WL_take rfl ?_
  refine s_move rfl rfl ?_
  refine WL_take rfl ?_
  refine s_gtr rfl rfl rfl ?_
  refine s_pick_f rfl rfl rfl ?_
  refine s_move rfl rfl ?_
  refine WL_know (s := 43) (c := false) rfl ((decide_eq_false (by omega))) ?_
  refine WL_take rfl ?_
  refine s_move rfl rfl ?_
  refine WL_take rfl ?_
  refine s_lss rfl rfl rfl ?_
  refine s_pick_f rfl rfl rfl ?_
  refine s_move rfl rfl ?_
  refine WL_know (s := 47) (c := false) rfl ((decide_eq_false (by omega))) ?_
  refine WL_take rfl ?_
  refine s_move rfl rfl ?_
  refine WL_take rfl ?_
  refine s_move rfl rfl ?_
  refine WL_take rfl ?_
  refine s_geq rfl rfl rfl ?_
  refine s_pick_f rfl rfl rfl ?_
  refine WL_nil ?_
  refine n_then ?_
  refine W_cond_kf rfl ((decide_eq_false (by omega))) ?_
  refine W_skip ?_
  refine n_then ?_
  refine W_seq ?_
  refine W_seq ?_
  refine W_region ?_
  refine s_move rfl rfl ?_
  refine s_eql_ptr_nil Try.underlying25 rfl rfl rfl ?_
  refine s_move rfl rfl ?_
  refine WL_know (s := 63) (c := false) rfl (rfl) ?_
  refine WL_take rfl ?_
  refine s_move rfl rfl ?_
  refine WL_take rfl ?_
  refine s_neq rfl rfl rfl ?_
  refine s_pick_f rfl rfl rfl ?_
  refine s_move rfl rfl ?_
  refine WL_know (s := 67) (c := false) rfl (rfl) ?_
  refine WL_take rfl ?_
  refine s_move rfl rfl ?_
  refine WL_take rfl ?_
  obtain ⟨cs, hp, k0, k1, k2, k4⟩ := rep_head hRA hs.own
  refine s_call Try.call20 rfl rfl (term_ok p cs R.term w hp k2) ?_
  rintro r w ⟨hst, rfl⟩
  replace hs := hs.back0 hst
  clear hst hp k0 k1 k2 k4 cs
  rw [List.nil_append] at hs
  refine WL_take rfl ?_
  refine s_neq rfl rfl rfl ?_
  refine s_pick_f rfl rfl rfl ?_
  refine s_move rfl rfl ?_
  refine WL_know (s := 72) (c := false) rfl ((by simp [q2])) ?_
  refine WL_take rfl ?_
  refine s_move rfl rfl ?_
  refine WL_take rfl ?_
  obtain ⟨cs, hp, k0, k1, k2, k4⟩ := rep_head hRA hs.own
  refine s_call Try.call21 rfl rfl (leader_ok p cs R.role w hp k4) ?_
  rintro r w ⟨hst, rfl⟩
  replace hs := hs.back0 hst
  clear hst hp k0 k1 k2 k4 cs
  rw [List.nil_append] at hs
  refine s_pick_f rfl rfl rfl ?_
  refine s_move rfl rfl ?_
  refine WL_know (s := 76) (c := false) rfl ((decide_eq_false (by omega))) ?_
  refine WL_take rfl ?_
  refine s_move rfl rfl ?_
  refine WL_take rfl ?_
  refine s_call Try.call16 rfl rfl (committed_ok p R L w hRA hs.own) ?_
  rintro r w ⟨ys, LB9, LP9, hlg, hst⟩
  obtain ⟨ca, cc, rfl, -⟩ := hlg.form
  replace hs := (hs.back0 hst).right
  clear hst hlg
  refine WL_take rfl ?_
  refine s_len rfl rfl (LN43 _ _ _ _) ?_
  refine WL_take rfl ?_
  refine s_neq rfl rfl rfl ?_
  refine s_pick_f rfl rfl rfl ?_
  refine WL_nil ?_
  refine n_then ?_
  refine W_cond_kf rfl ((by simp [q4])) ?_
  refine W_skip ?_
  refine n_then ?_
  refine W_seq ?_
  refine W_region ?_
  refine s_call Try.call23 rfl rfl (made_ok 5 w (by unfold isI64; omega)) ?_
  rintro r w ⟨ev, Le, rfl, hOe, hst⟩
  replace hs := (hs.back0 hst).swap (A := Le)
  clear hst
  obtain ⟨_, ec, ea, rfl, hel⟩ := hOe.form
  subst hel
  refine s_call Try.call22 rfl rfl (of_ok (madeG 5) (madeX 5) ea (madeC 5).length ec w) ?_
  rintro r w ⟨hst, rfl⟩
  replace hs := hs.fwd1 hst
  clear hst
  refine s_alloc rfl AL35 hs ?_; clear hs; intro b15 w hs
  first
    | refine s_storeW Try.sizeOf35 rfl rfl rfl rfl hs (kk := 0) rfl rfl ?_
    | refine s_storeW Try.sizeOf35 rfl rfl rfl rfl hs (kk := 1) rfl rfl ?_
    | refine s_storeW Try.sizeOf35 rfl rfl rfl rfl hs (kk := 2) rfl rfl ?_
    | refine s_storeW Try.sizeOf35 rfl rfl rfl rfl hs (kk := 3) rfl rfl ?_
    | refine s_storeAB Try.sizeOf35 rfl rfl rfl rfl hs (kk := 0) rfl rfl ?_
    | refine s_storeAB Try.sizeOf35 rfl rfl rfl rfl hs (kk := 1) rfl rfl ?_
    | refine s_storeAB Try.sizeOf35 rfl rfl rfl rfl hs (kk := 2) rfl rfl ?_
    | refine s_storeAB Try.sizeOf35 rfl rfl rfl rfl hs (kk := 3) rfl rfl ?_
  clear hs; intro w hs; try simp only [List.set_cons_zero, List.set_cons_succ, splice, List.take_succ_cons, List.take_zero, List.drop_succ_cons, List.drop_zero, List.nil_append, List.cons_append, List.length_cons, List.length_nil, Nat.reduceAdd, List.append_assoc] at hs
  refine WL_nil ?_
  refine n_then ?_
  refine W_seq ?_
  refine W_region ?_
  refine s_move rfl rfl ?_
  first
    | refine s_loadW Try.isAgg35 Try.sizeOf35 rfl rfl hs (kk := 0) rfl rfl ?_
    | refine s_loadW Try.isAgg35 Try.sizeOf35 rfl rfl hs (kk := 1) rfl rfl ?_
    | refine s_loadW Try.isAgg35 Try.sizeOf35 rfl rfl hs (kk := 2) rfl rfl ?_
    | refine s_loadW Try.isAgg35 Try.sizeOf35 rfl rfl hs (kk := 3) rfl rfl ?_
    | refine s_load_6 Try.isAgg35 Try.sizeOf35 rfl rfl (by first | exact hs.cell (k := 0) rfl rfl | exact hs.cell (k := 1) rfl rfl | exact hs.cell (k := 2) rfl rfl | exact hs.cell (k := 3) rfl rfl) (by first | exact hs.cell (k := 0) rfl rfl | exact hs.cell (k := 1) rfl rfl | exact hs.cell (k := 2) rfl rfl | exact hs.cell (k := 3) rfl rfl) (by first | exact hs.cell (k := 0) rfl rfl | exact hs.cell (k := 1) rfl rfl | exact hs.cell (k := 2) rfl rfl | exact hs.cell (k := 3) rfl rfl) (by first | exact hs.cell (k := 0) rfl rfl | exact hs.cell (k := 1) rfl rfl | exact hs.cell (k := 2) rfl rfl | exact hs.cell (k := 3) rfl rfl) (by first | exact hs.cell (k := 0) rfl rfl | exact hs.cell (k := 1) rfl rfl | exact hs.cell (k := 2) rfl rfl | exact hs.cell (k := 3) rfl rfl) (by first | exact hs.cell (k := 0) rfl rfl | exact hs.cell (k := 1) rfl rfl | exact hs.cell (k := 2) rfl rfl | exact hs.cell (k := 3) rfl rfl) ?_
  have hve : ∀ w', (∀ q ∈ Le, w'.heap[q.1]? = some q.2) → Sl w' (.slice ea (madeC 5).length ec) (madeC 5).length (u8s (madeC 5)) := fun w' h => OwnS_slIn hOe h
  refine s_callL (M := [_]) (L1 := L) (X := Le) Try.call13 rfl rfl hs (fun h => propose_ok p R L (madeE 5) (.slice ea (madeC 5).length ec) w hRA (hve w fun q hq => hs.own q (by simp [hq])) (fun a m c he hne => by cases he; exact hs.apartY (M := [_]) (OwnS_in hOe hne)) (madeC_isB 5) h) ?_
  clear hs; rintro u w L9 ⟨rv, Lr, LQ, rfl, rfl, hRQ, hMs⟩ - hs
  have hpr : R.propose (madeE 5) = (R, [], 20) := by rw [Rp.propose, if_pos (by omega)]
  rw [hpr] at hRQ hMs ⊢
  simp only at hRQ hMs ⊢
  replace hs : St [] w0 w ([(b15, Blk 35 [.bool (madeG 5), .string (madeX 5).rule, .int .i64 (madeX 5).holder, .int .i64 (madeX 5).token, .int .i64 (madeX 5).til, .slice ea (madeC 5).length ec])] ++ (LQ ++ Le)) := by simpa [cat] using St.reord [[_], LQ, Lr, Le] [0, 1, 3] [2] (by simpa [cat] using hs) rfl
  clear hMs hRA hpr
  refine s_move rfl rfl ?_
  refine s_extract rfl rfl rfl ?_
  refine s_extract rfl rfl rfl ?_
  refine s_assign rfl rfl ?_
  refine s_assign rfl rfl ?_
  refine WL_nil ?_
  refine n_then ?_
  refine W_seq ?_
  refine W_region ?_
  refine s_move rfl rfl ?_
  refine s_move rfl rfl ?_
  refine s_callL (M := [_]) (L1 := LQ) (X := Le) Try.call9 rfl rfl hs (fun h => elect_ok p R LQ t w hRQ ht h) ?_
  clear hs; rintro u w L9 ⟨rv1, Lm, LE, rfl, rfl, hRE, hME⟩ - hs
  obtain ⟨tn, rfl⟩ : ∃ tn : Nat, t = (tn : Int) := ⟨t.toNat, by omega⟩
  have hle : R.elect (tn : Int) = ((R.cand tn).crown, (R.cand tn).crown.others (R.cand tn).crown.spreadM, 0) := by rw [Rp.elect, if_neg (by rw [q0, q1]; omega), if_neg (by omega), if_neg (by omega), if_pos (by omega), Int.toNat_natCast]
  obtain ⟨A, hA⟩ : ∃ A, A = (R.cand tn).crown := ⟨_, rfl⟩
  rw [hle, ← hA] at hRE hME ⊢
  simp only at hRE hME ⊢
  have a0 : A.id = R.id := by rw [hA]; rfl
  have a1 : A.mem = R.mem := by rw [hA]; rfl
  have a2 : A.term = tn := by rw [hA]; rfl
  have a3 : A.role = 2 := by rw [hA]; rfl
  have a4 : A.log = [] := by rw [hA]; exact q4
  have aoth : ∀ x, A.others x = [] := fun x => by
    have h1 : A.mem = 1 := by omega
    have h2 : A.id = 0 := by omega
    rw [Rp.others, h1, Rp.tos, h2]; rfl
  rw [aoth] at hME
  clear hle hA
  obtain ⟨ma, mc, rfl⟩ := hME.form
  simp only [List.length_nil]
  replace hs : St [] w0 w ([(b15, Blk 35 [.bool (madeG 5), .string (madeX 5).rule, .int .i64 (madeX 5).holder, .int .i64 (madeX 5).token, .int .i64 (madeX 5).til, .slice ea (madeC 5).length ec])] ++ (LE ++ Le)) := by simpa [cat] using St.reord [[_], LE, Lm, Le] [0, 1, 3] [2] (by simpa [cat] using hs) rfl
  refine s_move rfl rfl ?_
  refine s_extract rfl rfl rfl ?_
  refine s_extract rfl rfl rfl ?_
  refine s_assign rfl rfl ?_
  refine s_assign rfl rfl ?_
  refine WL_nil ?_
  refine n_then ?_
  refine W_seq ?_
  refine W_seq ?_
  refine W_region ?_
  refine s_move rfl rfl ?_
  refine s_neq rfl rfl rfl ?_
  refine WL_nil ?_
  refine n_then ?_
  refine W_cond_kf rfl (rfl) ?_
  refine W_skip ?_
  refine n_then ?_
  refine W_seq ?_
  refine W_seq ?_
  refine W_region ?_
  refine s_move rfl rfl ?_
  refine s_lss rfl rfl rfl ?_
  refine s_move rfl rfl ?_
  refine WL_know (s := 100) (c := false) rfl ((decide_eq_false (by omega))) ?_
  refine WL_take rfl ?_
  refine s_move rfl rfl ?_
  refine WL_take rfl ?_
  refine s_gtr rfl rfl rfl ?_
  refine s_pick_f rfl rfl rfl ?_
  refine s_move rfl rfl ?_
  refine WL_know (s := 104) (c := false) rfl ((decide_eq_false (by omega))) ?_
  refine WL_take rfl ?_
  refine s_move rfl rfl ?_
  refine WL_take rfl ?_
  refine s_move rfl rfl ?_
  refine WL_take rfl ?_
  first | (refine s_rem' rfl rfl rfl ?hx ?_; case hx => (refine ⟨?_, ?_⟩ <;> omega)) | (refine s_rem rfl rfl rfl ?hx ?_; case hx => omega)
  refine WL_take rfl ?_
  refine s_move rfl rfl ?_
  refine WL_take rfl ?_
  refine s_neq rfl rfl rfl ?_
  refine s_pick_f rfl rfl rfl ?_
  refine WL_nil ?_
  refine n_then ?_
  refine W_cond_kf rfl ((by simp; omega)) ?_
  refine W_skip ?_
  refine n_then ?_
  refine W_seq ?_
  refine W_seq ?_
  refine W_region ?_
  refine s_move rfl rfl ?_
  refine s_neq rfl rfl rfl ?_
  refine s_move rfl rfl ?_
  refine WL_know (s := 128) (c := false) rfl (rfl) ?_
  refine WL_take rfl ?_
  refine s_move rfl rfl ?_
  refine WL_take rfl ?_
  refine s_len rfl rfl (LN29 _ _ _ _) ?_
  refine WL_take rfl ?_
  refine s_move rfl rfl ?_
  refine WL_take rfl ?_
  first | (refine s_sub' rfl rfl rfl ?hx ?_; case hx => (constructor <;> first | omega | (simp only; omega))) | refine s_sub rfl rfl rfl ?_
  refine WL_take rfl ?_
  refine s_neq rfl rfl rfl ?_
  refine s_pick_f rfl rfl rfl ?_
  refine s_move rfl rfl ?_
  refine WL_know (s := 135) (c := false) rfl ((by simp; omega)) ?_
  refine WL_take rfl ?_
  refine s_move rfl rfl ?_
  refine WL_take rfl ?_
  obtain ⟨cs, hp, k0, k1, k2, k4⟩ := rep_head hRE fun q hq => hs.own q (by simp [hq])
  refine s_call Try.call20 rfl rfl (term_ok p cs A.term w hp k2) ?_
  rintro r w ⟨hst, rfl⟩
  replace hs := hs.back0 hst
  clear hst hp k0 k1 k2 k4 cs
  simp only [List.nil_append] at hs
  refine WL_take rfl ?_
  refine s_move rfl rfl ?_
  refine WL_take rfl ?_
  refine s_neq rfl rfl rfl ?_
  refine s_pick_f rfl rfl rfl ?_
  refine s_move rfl rfl ?_
  refine WL_know (s := 141) (c := false) rfl ((by simp; omega)) ?_
  refine WL_take rfl ?_
  refine s_move rfl rfl ?_
  refine WL_take rfl ?_
  obtain ⟨cs, hp, k0, k1, k2, k4⟩ := rep_head hRE fun q hq => hs.own q (by simp [hq])
  refine s_call Try.call21 rfl rfl (leader_ok p cs A.role w hp k4) ?_
  rintro r w ⟨hst, rfl⟩
  replace hs := hs.back0 hst
  clear hst hp k0 k1 k2 k4 cs
  simp only [List.nil_append] at hs
  refine WL_take rfl ?_
  refine s_move rfl rfl ?_
  refine WL_take rfl ?_
  refine s_eql rfl rfl rfl ?_
  refine WL_take rfl ?_
  refine s_neq_bool Try.underlying4 rfl rfl rfl ?_
  refine s_pick_f rfl rfl rfl ?_
  refine WL_nil ?_
  refine n_then ?_
  refine W_cond_kf rfl ((by simp [a3, hone])) ?_
  refine W_skip ?_
  refine n_then ?_
  refine W_seq ?_
  refine W_seq ?_
  refine W_region ?_
  refine s_move rfl rfl ?_
  refine s_eql rfl rfl rfl ?_
  refine WL_nil ?_
  refine n_then ?_
  refine W_cond_kt rfl ((by simp; omega)) ?_
  refine W_seq ?_
  refine W_region ?_
  refine s_move rfl rfl ?_
  first
    | refine s_loadW Try.isAgg35 Try.sizeOf35 rfl rfl hs (kk := 0) rfl rfl ?_
    | refine s_loadW Try.isAgg35 Try.sizeOf35 rfl rfl hs (kk := 1) rfl rfl ?_
    | refine s_loadW Try.isAgg35 Try.sizeOf35 rfl rfl hs (kk := 2) rfl rfl ?_
    | refine s_loadW Try.isAgg35 Try.sizeOf35 rfl rfl hs (kk := 3) rfl rfl ?_
    | refine s_load_6 Try.isAgg35 Try.sizeOf35 rfl rfl (by first | exact hs.cell (k := 0) rfl rfl | exact hs.cell (k := 1) rfl rfl | exact hs.cell (k := 2) rfl rfl | exact hs.cell (k := 3) rfl rfl) (by first | exact hs.cell (k := 0) rfl rfl | exact hs.cell (k := 1) rfl rfl | exact hs.cell (k := 2) rfl rfl | exact hs.cell (k := 3) rfl rfl) (by first | exact hs.cell (k := 0) rfl rfl | exact hs.cell (k := 1) rfl rfl | exact hs.cell (k := 2) rfl rfl | exact hs.cell (k := 3) rfl rfl) (by first | exact hs.cell (k := 0) rfl rfl | exact hs.cell (k := 1) rfl rfl | exact hs.cell (k := 2) rfl rfl | exact hs.cell (k := 3) rfl rfl) (by first | exact hs.cell (k := 0) rfl rfl | exact hs.cell (k := 1) rfl rfl | exact hs.cell (k := 2) rfl rfl | exact hs.cell (k := 3) rfl rfl) (by first | exact hs.cell (k := 0) rfl rfl | exact hs.cell (k := 1) rfl rfl | exact hs.cell (k := 2) rfl rfl | exact hs.cell (k := 3) rfl rfl) ?_
  refine s_callL (M := [_]) (L1 := LE) (X := Le) Try.call13 rfl rfl hs (fun h => propose_ok p A LE (madeE 5) (.slice ea (madeC 5).length ec) w hRE (hve w fun q hq => hs.own q (by simp [hq])) (fun a m c he hne => by cases he; exact hs.apartY (M := [_]) (OwnS_in hOe hne)) (madeC_isB 5) h) ?_
  clear hs; rintro u w L9 ⟨rv2, Lr2, LQ2, rfl, rfl, hR2, hM2⟩ - hs
  have hpr : A.propose (madeE 5) = (A.push (madeE 5), (A.push (madeE 5)).others (A.push (madeE 5)).spreadM, 0) := by rw [Rp.propose, if_neg (by omega), if_neg (by have := (madeE_ok 5).1; simpa using this), if_neg (by rw [a4]; simp)]
  have b0 : (A.push (madeE 5)).id = A.id := rfl
  have b1 : (A.push (madeE 5)).mem = A.mem := rfl
  have b3 : (A.push (madeE 5)).role = A.role := rfl
  have b4 : (A.push (madeE 5)).log.length = 1 := by simp only [Rp.push, a4]; rfl
  have b5 : (A.push (madeE 5)).n = 1 := by simp only [Rp.push]; rw [if_pos (by omega), a4]; rfl
  rw [hpr] at hR2 ⊢
  simp only at hR2 ⊢
  generalize A.push (madeE 5) = B at hR2 b0 b1 b3 b4 b5
  replace hs : St [] w0 w ([] ++ (LQ2 ++ [])) := by simpa [cat] using St.reord [[_], LQ2, Lr2, Le] [1] [0, 2, 3] (by simpa [cat] using hs) rfl
  clear hM2
  refine s_move rfl rfl ?_
  refine s_extract rfl rfl rfl ?_
  refine s_extract rfl rfl rfl ?_
  refine s_assign rfl rfl ?_
  refine s_assign rfl rfl ?_
  refine WL_nil ?_
  refine n_then ?_
  refine W_seq ?_
  refine W_region ?_
  refine s_move rfl rfl ?_
  refine s_build rfl rfl (BD35_ ) ?_
  refine s_callL (M := []) (L1 := LQ2) (X := []) Try.call13 rfl rfl hs (fun h => propose_ok p B LQ2 ⟨false, ⟨ByteArray.empty, 0, 0, 0⟩, []⟩ (.slice none 0 0) w hR2 ⟨none, 0, rfl, Nat.le_refl _, .inl rfl⟩ (fun a m c he => by cases he) (by simp) h) ?_
  clear hs; rintro u w L9 ⟨rv3, Lr3, LQ3, rfl, rfl, hR3, hM3⟩ - hs
  have hpr3 : B.propose ⟨false, ⟨ByteArray.empty, 0, 0, 0⟩, []⟩ = (B, [], 1) := by rw [Rp.propose, if_neg (by omega), if_pos (by decide +kernel)]
  rw [hpr3] at hR3 ⊢
  simp only at hR3 ⊢
  replace hs : St [] w0 w LQ3 := by simpa [cat] using St.reord [LQ3, Lr3] [0] [1] (by simpa [cat] using hs) rfl
  clear hM3
  refine s_move rfl rfl ?_
  refine s_extract rfl rfl rfl ?_
  refine s_extract rfl rfl rfl ?_
  refine s_assign rfl rfl ?_
  refine s_assign rfl rfl ?_
  refine WL_nil ?_
  refine n_then ?_
  refine W_seq ?_
  refine W_region ?_
  refine s_move rfl rfl ?_
  refine s_eql rfl rfl rfl ?_
  refine s_move rfl rfl ?_
  refine WL_know (s := 164) (c := true) rfl (rfl) ?_
  refine WL_take rfl ?_
  refine s_move rfl rfl ?_
  refine WL_take rfl ?_
  refine s_eql rfl rfl rfl ?_
  refine s_pick_t rfl rfl rfl ?_
  refine s_move rfl rfl ?_
  refine WL_know (s := 168) (c := true) rfl (rfl) ?_
  refine WL_take rfl ?_
  refine s_move rfl rfl ?_
  refine WL_take rfl ?_
  refine s_call Try.call16 rfl rfl (committed_ok p B LQ3 w hR3 hs.own) ?_
  rintro r w ⟨ys, LB9, LP9, hlg, hst⟩
  obtain ⟨ca, cc, rfl, -⟩ := hlg.form
  replace hs := (hs.back0 hst).right
  clear hst hlg
  rw [List.length_take, b5, b4]
  refine WL_take rfl ?_
  refine s_len rfl rfl (LN43 _ _ _ _) ?_
  refine WL_take rfl ?_
  refine s_eql rfl rfl rfl ?_
  refine s_pick_t rfl rfl rfl ?_
  refine s_move rfl rfl ?_
  refine WL_know (s := 174) (c := true) rfl (rfl) ?_
  refine WL_take rfl ?_
  refine s_move rfl rfl ?_
  refine WL_take rfl ?_
  refine s_move rfl rfl ?_
  refine WL_take rfl ?_
  refine s_move rfl rfl ?_
  refine WL_take rfl ?_
  refine s_move rfl rfl ?_
  refine WL_take rfl ?_
  refine s_buildSlice rfl rfl (BS22_1 _) hs ?_; clear hs; intro b179 w hs
  refine WL_take rfl ?_
  refine s_build rfl rfl (BD56_0_1_2 _ _ _ _ _) ?_
  refine WL_take rfl ?_
  obtain ⟨cs, hp, k0, k1, k2, k4⟩ := rep_head hR3 fun q hq => hs.own q (by simp [hq])
  refine s_call Try.call24 rfl rfl (receive_bad p B cs frm to _ w hp k0 k1 ⟨_, _, _, rfl⟩ (by omega)) ?_
  rintro r w ⟨hst, rfl⟩
  replace hs := hs.back0 hst
  clear hst
  refine WL_take rfl ?_
  refine s_len rfl rfl (LN29 _ _ _ _) ?_
  refine WL_take rfl ?_
  refine s_eql rfl rfl rfl ?_
  refine s_pick_t rfl rfl rfl ?_
  refine s_move rfl rfl ?_
  refine WL_know (s := 185) (c := true) rfl (rfl) ?_
  refine WL_take rfl ?_
  refine s_call Try.call19 rfl rfl (lives_ok w) ?_
  rintro r w ⟨hst, rfl⟩
  replace hs := hs.fwd1 hst
  refine s_pick_t rfl rfl rfl ?_
  refine s_assign rfl rfl ?_
  refine WL_nil ?_
  refine n_then ?_
  refine W_ret ?_
  refine r_then ?_
  exact end1 rfl rfl ⟨hs.fwd, rfl⟩
end Go.Proofs.Ytkobigdfijeajaa
