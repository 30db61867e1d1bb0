/- LeaseOwn. -/
import Derived.Test.YtkobigdfijeajaaRpU
set_option linter.unusedVariables false
set_option linter.unusedSimpArgs false
namespace Go.Proofs.Ytkobigdfijeajaa
open Go.SL
def rS : ByteArray := ⟨#[114]⟩
def xL : Lz := ⟨rS, 0, 1, 9⟩
def of0 : ByteArray → Option Lz := fun _ => none
def of1 : ByteArray → Option Lz := applyF of0 true xL 0 0
theorem of1_r : of1 rS = some xL := by decide +kernel
theorem xL_valid {n : Nat} (h : n ≤ 65536) : validP false xL n := ⟨by decide +kernel, by decide, by decide, by decide, h, .inl rfl⟩
theorem applyF_cmd (f : ByteArray → Option Lz) (x : Lz) (n : Nat) (t : Int) : applyF f false x n t = f := by
  unfold applyF
  first | rfl | simp
theorem one_cmd {ds : List Cmd} {c1 : Cmd} {O : List Int} (h : ds.map Cmd.bs = (([] : List Cmd) ++ [c1]).map Cmd.bs) (hO : c1.bs = O) : ∃ d, ds = [d] ∧ d.bs = O := by
  rcases ds with _ | ⟨d, _ | ⟨e, r⟩⟩
  · simp at h
  · exact ⟨d, rfl, by simp at h; rw [h, hO]⟩
  · simp at h
theorem one_em {ys : List Em} {e : En} (h : ens ys = [e]) : ∃ y, ys = [y] ∧ y.e = e := by
  rcases ys with _ | ⟨d, _ | ⟨e, r⟩⟩
  · simp [ens] at h
  · exact ⟨d, rfl, by simpa [ens] using h⟩
  · simp [ens] at h
set_option maxHeartbeats 4000000 in
set_option maxRecDepth 8000 in
theorem leaseOwn_ok (vb : Value) (bs : List Int) (w0 : World) (hvb : Sl w0 vb bs.length (u8s bs)) (hbB : ∀ z ∈ bs, isB z) :
    Ret Try.prog 3 [vb].toArray w0 fun r w' => Fwd [] w0 w' ∧ r = .bool true := by
  obtain ⟨va, vc, rfl, hvc⟩ := hvb.len_le
  refine Ret_start fun w hs => ?_
  refine Ret_of Try.func3 rfl Try.ntmps3 rfl ?_
  refine W_seq ?_
  refine W_region ?_
  refine s_assign rfl rfl ?_
  refine WL_nil ?_
  refine n_then ?_
  refine W_seq ?_
  refine W_region ?_
  refine s_call Try.call7 rfl rfl (new_ok w) ?_
  rintro r w ⟨p, LT, rfl, hT, hst⟩
  replace hs := hs.back0 hst
  rw [List.append_nil] at hs
  clear hst
  refine s_assign rfl rfl ?_
  refine WL_nil ?_
  refine n_then ?_
  refine W_seq ?_
  refine W_region ?_
  refine s_call Try.call8 rfl rfl (start_ok 0 1 w) ?_
  rintro r w (⟨hbad, -, -⟩ | ⟨-, q, LR, rfl, hRA, hst⟩)
  · exfalso; omega
  replace hs := hs.back0 hst
  clear hst
  obtain ⟨R, hRd⟩ : ∃ R, R = R00 0 1 := ⟨_, rfl⟩
  replace hRA : RepAt q R LR := by rw [hRd]; exact hRA
  refine s_move rfl rfl ?_
  refine s_extract rfl rfl rfl ?_
  refine s_extract rfl rfl rfl ?_
  refine s_assign rfl rfl ?_
  refine s_assign rfl rfl ?_
  refine WL_nil ?_
  refine n_then ?_
  refine W_seq ?_
  refine W_seq ?_
  refine W_region ?_
  refine s_move rfl rfl ?_
  refine s_eql_ptr_nil Try.underlying23 rfl rfl rfl ?_
  refine s_move rfl rfl ?_
  refine WL_know (s := 28) (c := false) rfl (rfl) ?_
  refine WL_take rfl ?_
  refine s_move rfl rfl ?_
  refine WL_take rfl ?_
  refine s_eql_ptr_nil Try.underlying25 rfl rfl rfl ?_
  refine s_pick_f rfl rfl rfl ?_
  refine s_move rfl rfl ?_
  refine WL_know (s := 32) (c := false) rfl (rfl) ?_
  refine WL_take rfl ?_
  refine s_move rfl rfl ?_
  refine WL_take rfl ?_
  refine s_neq rfl rfl rfl ?_
  refine s_pick_f rfl rfl rfl ?_
  refine WL_nil ?_
  refine n_then ?_
  refine W_cond_kf rfl (rfl) ?_
  refine W_skip ?_
  refine n_then ?_
  refine W_seq ?_
  refine W_region ?_
  refine s_move rfl rfl ?_
  refine s_callL (M := []) (L1 := LR) (X := LT) Try.call9 rfl rfl hs (fun h => elect_ok q R LR 1 w hRA (by unfold isI64; omega) h) ?_
  clear hs; rintro u w L9 ⟨rv, Lr, LQ, rfl, rfl, hRQ, hMs⟩ - hs
  have hel : (R.elect 1).1 = (R.cand 1).crown := by
    have e0 : R.id = 0 := by rw [hRd]; rfl
    have e1 : R.mem = 1 := by rw [hRd]; rfl
    have e2 : R.term = 0 := by rw [hRd]; rfl
    have e3 : R.role = 0 := by rw [hRd]; rfl
    rw [Rp.elect, if_neg (by rw [e0, e1]; decide), if_neg (by rw [e2]; decide), if_neg (by rw [e3]; simp), if_pos (by omega)]; rfl
  rw [hel] at hRQ
  have e1 : (R.cand 1).crown.mem = 1 := by rw [hRd]; rfl
  have e3 : (R.cand 1).crown.role = 2 := rfl
  have e4 : (R.cand 1).crown.log = [] := by rw [hRd]; rfl
  generalize (R.cand 1).crown = R1 at hRQ e1 e3 e4
  clear hMs hel hRd hRA
  replace hs : St [] w0 w ([] ++ (LT ++ LQ)) := by simpa [cat] using St.reord [LQ, Lr, LT] [2, 0] [1] (by simpa [cat] using hs) rfl
  refine WL_nil ?_
  refine n_then ?_
  refine W_seq ?_
  refine W_region ?_
  refine s_move rfl rfl ?_
  refine s_callL (M := []) (L1 := LT) (X := LQ) Try.call10 rfl rfl hs (fun h => grant_ok p of0 [] rS 0 0 9 LT w hT h (by intro y hy; cases hy)) ?_
  clear hs; rintro v w LT2 ⟨hL2, g, x, rfl, hx1, hx2⟩ - hs
  rw [hL2] at hs; clear hL2 LT2
  obtain ⟨rfl, rfl, hxv⟩ := hx1 (by decide +kernel)
  rw [show grantE of0 rS 0 0 9 = 0 by decide +kernel, show grantX of0 rS 0 0 9 = xL by decide +kernel] at *
  clear hx1 hx2
  simp only [List.nil_append] at hs
  refine s_move rfl rfl ?_
  refine s_extract rfl rfl rfl ?_
  refine s_extract rfl rfl rfl ?_
  refine s_alloc rfl AL35 hs ?_; clear hs; intro b6 w hs
  first
    | refine s_storeW Try.sizeOf35 rfl rfl rfl rfl hs (kk := 0) rfl rfl ?_
    | refine s_storeW Try.sizeOf35 rfl rfl rfl rfl hs (kk := 1) rfl rfl ?_
    | refine s_storeW Try.sizeOf35 rfl rfl rfl rfl hs (kk := 2) rfl rfl ?_
    | refine s_storeW Try.sizeOf35 rfl rfl rfl rfl hs (kk := 3) rfl rfl ?_
    | refine s_storeW Try.sizeOf35 rfl rfl rfl rfl hs (kk := 4) rfl rfl ?_
    | refine s_storeW Try.sizeOf35 rfl rfl rfl rfl hs (kk := 5) rfl rfl ?_
    | refine s_storeW Try.sizeOf35 rfl rfl rfl rfl hs (kk := 6) rfl rfl ?_
    | refine s_storeW Try.sizeOf35 rfl rfl rfl rfl hs (kk := 7) rfl rfl ?_
    | refine s_storeAB Try.sizeOf35 rfl rfl rfl rfl hs (kk := 0) rfl rfl ?_
    | refine s_storeAB Try.sizeOf35 rfl rfl rfl rfl hs (kk := 1) rfl rfl ?_
    | refine s_storeAB Try.sizeOf35 rfl rfl rfl rfl hs (kk := 2) rfl rfl ?_
    | refine s_storeAB Try.sizeOf35 rfl rfl rfl rfl hs (kk := 3) rfl rfl ?_
    | refine s_storeAB Try.sizeOf35 rfl rfl rfl rfl hs (kk := 4) rfl rfl ?_
    | refine s_storeAB Try.sizeOf35 rfl rfl rfl rfl hs (kk := 5) rfl rfl ?_
    | refine s_storeAB Try.sizeOf35 rfl rfl rfl rfl hs (kk := 6) rfl rfl ?_
    | refine s_storeAB Try.sizeOf35 rfl rfl rfl rfl hs (kk := 7) rfl rfl ?_
  clear hs; intro w hs; try simp only [List.set_cons_zero, List.set_cons_succ, splice, List.take_succ_cons, List.take_zero, List.drop_succ_cons, List.drop_zero, List.nil_append, List.cons_append, List.length_cons, List.length_nil, Nat.reduceAdd, List.append_assoc] at hs
  refine s_assign rfl rfl ?_
  refine WL_nil ?_
  refine n_then ?_
  refine W_seq ?_
  refine W_region ?_
  refine s_move rfl rfl ?_
  first
    | refine s_loadW Try.isAgg35 Try.sizeOf35 rfl rfl hs (kk := 0) rfl rfl ?_
    | refine s_loadW Try.isAgg35 Try.sizeOf35 rfl rfl hs (kk := 1) rfl rfl ?_
    | refine s_loadW Try.isAgg35 Try.sizeOf35 rfl rfl hs (kk := 2) rfl rfl ?_
    | refine s_loadW Try.isAgg35 Try.sizeOf35 rfl rfl hs (kk := 3) rfl rfl ?_
    | refine s_loadW Try.isAgg35 Try.sizeOf35 rfl rfl hs (kk := 4) rfl rfl ?_
    | refine s_loadW Try.isAgg35 Try.sizeOf35 rfl rfl hs (kk := 5) rfl rfl ?_
    | refine s_loadW Try.isAgg35 Try.sizeOf35 rfl rfl hs (kk := 6) rfl rfl ?_
    | refine s_loadW Try.isAgg35 Try.sizeOf35 rfl rfl hs (kk := 7) rfl rfl ?_
    | refine s_load_6 Try.isAgg35 Try.sizeOf35 rfl rfl (by first | exact hs.cell (k := 0) rfl rfl | exact hs.cell (k := 1) rfl rfl | exact hs.cell (k := 2) rfl rfl | exact hs.cell (k := 3) rfl rfl | exact hs.cell (k := 4) rfl rfl | exact hs.cell (k := 5) rfl rfl | exact hs.cell (k := 6) rfl rfl | exact hs.cell (k := 7) rfl rfl) (by first | exact hs.cell (k := 0) rfl rfl | exact hs.cell (k := 1) rfl rfl | exact hs.cell (k := 2) rfl rfl | exact hs.cell (k := 3) rfl rfl | exact hs.cell (k := 4) rfl rfl | exact hs.cell (k := 5) rfl rfl | exact hs.cell (k := 6) rfl rfl | exact hs.cell (k := 7) rfl rfl) (by first | exact hs.cell (k := 0) rfl rfl | exact hs.cell (k := 1) rfl rfl | exact hs.cell (k := 2) rfl rfl | exact hs.cell (k := 3) rfl rfl | exact hs.cell (k := 4) rfl rfl | exact hs.cell (k := 5) rfl rfl | exact hs.cell (k := 6) rfl rfl | exact hs.cell (k := 7) rfl rfl) (by first | exact hs.cell (k := 0) rfl rfl | exact hs.cell (k := 1) rfl rfl | exact hs.cell (k := 2) rfl rfl | exact hs.cell (k := 3) rfl rfl | exact hs.cell (k := 4) rfl rfl | exact hs.cell (k := 5) rfl rfl | exact hs.cell (k := 6) rfl rfl | exact hs.cell (k := 7) rfl rfl) (by first | exact hs.cell (k := 0) rfl rfl | exact hs.cell (k := 1) rfl rfl | exact hs.cell (k := 2) rfl rfl | exact hs.cell (k := 3) rfl rfl | exact hs.cell (k := 4) rfl rfl | exact hs.cell (k := 5) rfl rfl | exact hs.cell (k := 6) rfl rfl | exact hs.cell (k := 7) rfl rfl) (by first | exact hs.cell (k := 0) rfl rfl | exact hs.cell (k := 1) rfl rfl | exact hs.cell (k := 2) rfl rfl | exact hs.cell (k := 3) rfl rfl | exact hs.cell (k := 4) rfl rfl | exact hs.cell (k := 5) rfl rfl | exact hs.cell (k := 6) rfl rfl | exact hs.cell (k := 7) rfl rfl) ?_
  refine s_callL (M := [_]) (L1 := LT) (X := LQ) Try.call11 rfl rfl hs (fun h => apply_ok p of0 [] true xL (.slice none 0 0) [] 0 LT w hT h ⟨none, 0, rfl, Nat.le_refl _, .inl rfl⟩ (by simp) (by intro a m c he; cases he)) ?_
  clear hs; rintro v w LT ⟨rfl, cs', hT, hc1, hc2⟩ - hs
  obtain rfl := hc1 (by simp)
  clear hc1 hc2
  replace hT : TabAt p of1 [] LT := hT
  refine WL_nil ?_
  refine n_then ?_
  refine W_seq ?_
  refine W_region ?_
  refine s_move rfl rfl ?_
  refine s_call Try.call12 rfl rfl (few_ok _ bs 20 w (hvb.fwd0 hs.fwd) (by omega)) ?_
  rintro r w ⟨LO, hOw, hst⟩
  replace hs := hs.back0 hst
  clear hst
  obtain ⟨_, oc, oa, rfl, hol⟩ := hOw.form
  subst hol
  refine s_buildSlice rfl rfl (BS22_1 _) hs ?_; clear hs; intro b48 w hs
  refine s_appendM (M := [_]) (X := [(b6, Blk 35 [.bool true, .string xL.rule, .int .i64 xL.holder, .int .i64 xL.token, .int .i64 xL.til, .slice none 0 0])] ++ (LT ++ LQ)) El22 rfl rfl rfl hOw hs (hs.sl (k := 0) (ds := [_]) rfl (Nat.le_refl _) (by intro j u hj; rw [Nat.zero_add]; exact hj)) rfl (by simp [Value.oneCell']) (by omega) ?_
  clear hs hOw; intro v' w LO hOw hs
  obtain ⟨O, hO⟩ : ∃ O, O = bs.take 20 ++ [3] := ⟨_, rfl⟩
  have hOl : O.length = min bs.length 20 + 1 := by rw [hO]; simp [Nat.min_comm]
  have hOB : ∀ z ∈ O, isB z := by
    intro z hz
    rw [hO] at hz
    rcases List.mem_append.1 hz with hz | hz
    · exact hbB z (List.mem_of_mem_take hz)
    · obtain rfl := List.mem_singleton.1 hz; unfold isB; omega
  replace hOw : OwnS 5 1 v' O.length (u8s O) LO := by rw [hOl, hO, u8s, List.map_append]; exact hOw
  clear hO
  obtain ⟨gO, cO, spO, rfl, hcO, rfl⟩ := hOw.block (by omega)
  replace hs : St [] w0 w ([(b6, Blk 35 [.bool true, .string xL.rule, .int .i64 xL.holder, .int .i64 xL.token, .int .i64 xL.til, .slice none 0 0])] ++ (LT ++ (LQ ++ [(gO, Blk 5 (u8s O ++ spO))]))) := by simpa [cat] using St.reord [[_], [_], [_], LT, LQ] [2, 3, 4, 1] [0] (by simpa [cat] using hs) rfl
  refine s_assign rfl rfl ?_
  refine WL_nil ?_
  refine n_then ?_
  refine W_seq ?_
  refine W_region ?_
  refine s_buildSlice rfl rfl (BS22_0 ) hs ?_; clear hs; intro b50 w hs
  refine s_move rfl rfl ?_
  refine s_append El22 rfl rfl rfl (OwnS.bare _ _ _) hs (OwnS_slIn hOw fun q hq => hs.own q (by simp at hq; simp [hq])) (by simp) (u8s_one _) (by omega) ?_
  clear hs; intro v' w LS hSw hs
  rw [List.nil_append, Nat.zero_add] at hSw
  obtain ⟨gS, cS, spS, rfl, hcS, rfl⟩ := hSw.block (by omega)
  replace hs : St [] w0 w ((b6, Blk 35 [.bool true, .string xL.rule, .int .i64 xL.holder, .int .i64 xL.token, .int .i64 xL.til, .slice none 0 0]) :: (gS, Blk 5 (u8s O ++ spS)) :: (gO, Blk 5 (u8s O ++ spO)) :: (LT ++ LQ)) := by simpa [cat] using St.reord [[_], [_], [_], LT, LQ, [_]] [2, 0, 5, 3, 4] [1] (by simpa [cat] using hs) rfl
  refine s_assign rfl rfl ?_
  refine WL_nil ?_
  refine n_then ?_
  refine W_seq ?_
  refine W_region ?_
  refine s_fieldAddr rfl rfl (FA35_1 _ _) ?_
  first
    | refine s_loadW Try.isAgg33 Try.sizeOf33 rfl rfl hs (kk := 0) rfl rfl ?_
    | refine s_loadW Try.isAgg33 Try.sizeOf33 rfl rfl hs (kk := 1) rfl rfl ?_
    | refine s_loadW Try.isAgg33 Try.sizeOf33 rfl rfl hs (kk := 2) rfl rfl ?_
    | refine s_loadW Try.isAgg33 Try.sizeOf33 rfl rfl hs (kk := 3) rfl rfl ?_
    | refine s_loadW Try.isAgg33 Try.sizeOf33 rfl rfl hs (kk := 4) rfl rfl ?_
    | refine s_loadW Try.isAgg33 Try.sizeOf33 rfl rfl hs (kk := 5) rfl rfl ?_
    | refine s_loadW Try.isAgg33 Try.sizeOf33 rfl rfl hs (kk := 6) rfl rfl ?_
    | refine s_loadW Try.isAgg33 Try.sizeOf33 rfl rfl hs (kk := 7) rfl rfl ?_
    | refine s_load_4 Try.isAgg33 Try.sizeOf33 rfl rfl (by first | exact hs.cell (k := 0) rfl rfl | exact hs.cell (k := 1) rfl rfl | exact hs.cell (k := 2) rfl rfl | exact hs.cell (k := 3) rfl rfl | exact hs.cell (k := 4) rfl rfl | exact hs.cell (k := 5) rfl rfl | exact hs.cell (k := 6) rfl rfl | exact hs.cell (k := 7) rfl rfl) (by first | exact hs.cell (k := 0) rfl rfl | exact hs.cell (k := 1) rfl rfl | exact hs.cell (k := 2) rfl rfl | exact hs.cell (k := 3) rfl rfl | exact hs.cell (k := 4) rfl rfl | exact hs.cell (k := 5) rfl rfl | exact hs.cell (k := 6) rfl rfl | exact hs.cell (k := 7) rfl rfl) (by first | exact hs.cell (k := 0) rfl rfl | exact hs.cell (k := 1) rfl rfl | exact hs.cell (k := 2) rfl rfl | exact hs.cell (k := 3) rfl rfl | exact hs.cell (k := 4) rfl rfl | exact hs.cell (k := 5) rfl rfl | exact hs.cell (k := 6) rfl rfl | exact hs.cell (k := 7) rfl rfl) (by first | exact hs.cell (k := 0) rfl rfl | exact hs.cell (k := 1) rfl rfl | exact hs.cell (k := 2) rfl rfl | exact hs.cell (k := 3) rfl rfl | exact hs.cell (k := 4) rfl rfl | exact hs.cell (k := 5) rfl rfl | exact hs.cell (k := 6) rfl rfl | exact hs.cell (k := 7) rfl rfl) ?_
  refine s_move rfl rfl ?_
  refine s_build rfl rfl (BD35_1_2 _ _ _ _ _ _ _) ?_
  refine s_alloc rfl AL35 hs ?_; clear hs; intro b10 w hs
  first
    | refine s_storeW Try.sizeOf35 rfl rfl rfl rfl hs (kk := 0) rfl rfl ?_
    | refine s_storeW Try.sizeOf35 rfl rfl rfl rfl hs (kk := 1) rfl rfl ?_
    | refine s_storeW Try.sizeOf35 rfl rfl rfl rfl hs (kk := 2) rfl rfl ?_
    | refine s_storeW Try.sizeOf35 rfl rfl rfl rfl hs (kk := 3) rfl rfl ?_
    | refine s_storeW Try.sizeOf35 rfl rfl rfl rfl hs (kk := 4) rfl rfl ?_
    | refine s_storeW Try.sizeOf35 rfl rfl rfl rfl hs (kk := 5) rfl rfl ?_
    | refine s_storeW Try.sizeOf35 rfl rfl rfl rfl hs (kk := 6) rfl rfl ?_
    | refine s_storeW Try.sizeOf35 rfl rfl rfl rfl hs (kk := 7) rfl rfl ?_
    | refine s_storeAB Try.sizeOf35 rfl rfl rfl rfl hs (kk := 0) rfl rfl ?_
    | refine s_storeAB Try.sizeOf35 rfl rfl rfl rfl hs (kk := 1) rfl rfl ?_
    | refine s_storeAB Try.sizeOf35 rfl rfl rfl rfl hs (kk := 2) rfl rfl ?_
    | refine s_storeAB Try.sizeOf35 rfl rfl rfl rfl hs (kk := 3) rfl rfl ?_
    | refine s_storeAB Try.sizeOf35 rfl rfl rfl rfl hs (kk := 4) rfl rfl ?_
    | refine s_storeAB Try.sizeOf35 rfl rfl rfl rfl hs (kk := 5) rfl rfl ?_
    | refine s_storeAB Try.sizeOf35 rfl rfl rfl rfl hs (kk := 6) rfl rfl ?_
    | refine s_storeAB Try.sizeOf35 rfl rfl rfl rfl hs (kk := 7) rfl rfl ?_
  clear hs; intro w hs; try simp only [List.set_cons_zero, List.set_cons_succ, splice, List.take_succ_cons, List.take_zero, List.drop_succ_cons, List.drop_zero, List.nil_append, List.cons_append, List.length_cons, List.length_nil, Nat.reduceAdd, List.append_assoc] at hs
  refine WL_nil ?_
  refine n_then ?_
  refine W_seq ?_
  refine W_region ?_
  refine s_move rfl rfl ?_
  first
    | refine s_loadW Try.isAgg35 Try.sizeOf35 rfl rfl hs (kk := 0) rfl rfl ?_
    | refine s_loadW Try.isAgg35 Try.sizeOf35 rfl rfl hs (kk := 1) rfl rfl ?_
    | refine s_loadW Try.isAgg35 Try.sizeOf35 rfl rfl hs (kk := 2) rfl rfl ?_
    | refine s_loadW Try.isAgg35 Try.sizeOf35 rfl rfl hs (kk := 3) rfl rfl ?_
    | refine s_loadW Try.isAgg35 Try.sizeOf35 rfl rfl hs (kk := 4) rfl rfl ?_
    | refine s_loadW Try.isAgg35 Try.sizeOf35 rfl rfl hs (kk := 5) rfl rfl ?_
    | refine s_loadW Try.isAgg35 Try.sizeOf35 rfl rfl hs (kk := 6) rfl rfl ?_
    | refine s_loadW Try.isAgg35 Try.sizeOf35 rfl rfl hs (kk := 7) rfl rfl ?_
    | refine s_load_6 Try.isAgg35 Try.sizeOf35 rfl rfl (by first | exact hs.cell (k := 0) rfl rfl | exact hs.cell (k := 1) rfl rfl | exact hs.cell (k := 2) rfl rfl | exact hs.cell (k := 3) rfl rfl | exact hs.cell (k := 4) rfl rfl | exact hs.cell (k := 5) rfl rfl | exact hs.cell (k := 6) rfl rfl | exact hs.cell (k := 7) rfl rfl) (by first | exact hs.cell (k := 0) rfl rfl | exact hs.cell (k := 1) rfl rfl | exact hs.cell (k := 2) rfl rfl | exact hs.cell (k := 3) rfl rfl | exact hs.cell (k := 4) rfl rfl | exact hs.cell (k := 5) rfl rfl | exact hs.cell (k := 6) rfl rfl | exact hs.cell (k := 7) rfl rfl) (by first | exact hs.cell (k := 0) rfl rfl | exact hs.cell (k := 1) rfl rfl | exact hs.cell (k := 2) rfl rfl | exact hs.cell (k := 3) rfl rfl | exact hs.cell (k := 4) rfl rfl | exact hs.cell (k := 5) rfl rfl | exact hs.cell (k := 6) rfl rfl | exact hs.cell (k := 7) rfl rfl) (by first | exact hs.cell (k := 0) rfl rfl | exact hs.cell (k := 1) rfl rfl | exact hs.cell (k := 2) rfl rfl | exact hs.cell (k := 3) rfl rfl | exact hs.cell (k := 4) rfl rfl | exact hs.cell (k := 5) rfl rfl | exact hs.cell (k := 6) rfl rfl | exact hs.cell (k := 7) rfl rfl) (by first | exact hs.cell (k := 0) rfl rfl | exact hs.cell (k := 1) rfl rfl | exact hs.cell (k := 2) rfl rfl | exact hs.cell (k := 3) rfl rfl | exact hs.cell (k := 4) rfl rfl | exact hs.cell (k := 5) rfl rfl | exact hs.cell (k := 6) rfl rfl | exact hs.cell (k := 7) rfl rfl) (by first | exact hs.cell (k := 0) rfl rfl | exact hs.cell (k := 1) rfl rfl | exact hs.cell (k := 2) rfl rfl | exact hs.cell (k := 3) rfl rfl | exact hs.cell (k := 4) rfl rfl | exact hs.cell (k := 5) rfl rfl | exact hs.cell (k := 6) rfl rfl | exact hs.cell (k := 7) rfl rfl) ?_
  replace hs : St [] w0 w ([(b10, Blk 35 [.bool false, .string xL.rule, .int .i64 xL.holder, .int .i64 xL.token, .int .i64 xL.til, .slice (some ⟨gS, 0, none⟩) O.length cS]), (b6, Blk 35 [.bool true, .string xL.rule, .int .i64 xL.holder, .int .i64 xL.token, .int .i64 xL.til, .slice none 0 0]), (gS, Blk 5 (u8s O ++ spS)), (gO, Blk 5 (u8s O ++ spO))] ++ (LT ++ LQ)) := hs
  have hSS : ∀ w', w'.heap[gS]? = some (Blk 5 (u8s O ++ spS)) → Sl w' (.slice (some ⟨gS, 0, none⟩) O.length cS) O.length (u8s O) := fun w' h => OwnS_slIn hSw fun q hq => by obtain rfl := List.mem_singleton.1 hq; exact h
  refine s_callL (M := [_, _, _, _]) (L1 := LT) (X := LQ) Try.call11 rfl rfl hs (fun h => apply_ok p of1 [] false xL (.slice (some ⟨gS, 0, none⟩) O.length cS) O 1 LT w hT h (hSS w (hs.at (k := 2) rfl)) (by simp) (by intro a m c he _; cases he; exact hs.notin (M := [_, _, _, _]) (by simp [ids]))) ?_
  clear hs; rintro v w LT ⟨rfl, cs', hT, hc1, hc2⟩ - hs
  have hap1 : applyE of1 false xL O.length 1 = 0 := applyE_c0 (xL_valid (by omega)) (by omega) rfl of1_r ⟨rfl, by decide⟩
  obtain ⟨c1, hcb1, rfl⟩ := hc2 ⟨hap1, rfl⟩
  rw [applyF_cmd] at hT
  rw [hap1]
  clear hc1 hc2
  refine s_assign rfl rfl ?_
  refine WL_nil ?_
  refine n_then ?_
  refine W_seq ?_
  refine W_region ?_
  refine s_move rfl rfl ?_
  first
    | refine s_loadW Try.isAgg35 Try.sizeOf35 rfl rfl hs (kk := 0) rfl rfl ?_
    | refine s_loadW Try.isAgg35 Try.sizeOf35 rfl rfl hs (kk := 1) rfl rfl ?_
    | refine s_loadW Try.isAgg35 Try.sizeOf35 rfl rfl hs (kk := 2) rfl rfl ?_
    | refine s_loadW Try.isAgg35 Try.sizeOf35 rfl rfl hs (kk := 3) rfl rfl ?_
    | refine s_loadW Try.isAgg35 Try.sizeOf35 rfl rfl hs (kk := 4) rfl rfl ?_
    | refine s_loadW Try.isAgg35 Try.sizeOf35 rfl rfl hs (kk := 5) rfl rfl ?_
    | refine s_loadW Try.isAgg35 Try.sizeOf35 rfl rfl hs (kk := 6) rfl rfl ?_
    | refine s_loadW Try.isAgg35 Try.sizeOf35 rfl rfl hs (kk := 7) rfl rfl ?_
    | refine s_load_6 Try.isAgg35 Try.sizeOf35 rfl rfl (by first | exact hs.cell (k := 0) rfl rfl | exact hs.cell (k := 1) rfl rfl | exact hs.cell (k := 2) rfl rfl | exact hs.cell (k := 3) rfl rfl | exact hs.cell (k := 4) rfl rfl | exact hs.cell (k := 5) rfl rfl | exact hs.cell (k := 6) rfl rfl | exact hs.cell (k := 7) rfl rfl) (by first | exact hs.cell (k := 0) rfl rfl | exact hs.cell (k := 1) rfl rfl | exact hs.cell (k := 2) rfl rfl | exact hs.cell (k := 3) rfl rfl | exact hs.cell (k := 4) rfl rfl | exact hs.cell (k := 5) rfl rfl | exact hs.cell (k := 6) rfl rfl | exact hs.cell (k := 7) rfl rfl) (by first | exact hs.cell (k := 0) rfl rfl | exact hs.cell (k := 1) rfl rfl | exact hs.cell (k := 2) rfl rfl | exact hs.cell (k := 3) rfl rfl | exact hs.cell (k := 4) rfl rfl | exact hs.cell (k := 5) rfl rfl | exact hs.cell (k := 6) rfl rfl | exact hs.cell (k := 7) rfl rfl) (by first | exact hs.cell (k := 0) rfl rfl | exact hs.cell (k := 1) rfl rfl | exact hs.cell (k := 2) rfl rfl | exact hs.cell (k := 3) rfl rfl | exact hs.cell (k := 4) rfl rfl | exact hs.cell (k := 5) rfl rfl | exact hs.cell (k := 6) rfl rfl | exact hs.cell (k := 7) rfl rfl) (by first | exact hs.cell (k := 0) rfl rfl | exact hs.cell (k := 1) rfl rfl | exact hs.cell (k := 2) rfl rfl | exact hs.cell (k := 3) rfl rfl | exact hs.cell (k := 4) rfl rfl | exact hs.cell (k := 5) rfl rfl | exact hs.cell (k := 6) rfl rfl | exact hs.cell (k := 7) rfl rfl) (by first | exact hs.cell (k := 0) rfl rfl | exact hs.cell (k := 1) rfl rfl | exact hs.cell (k := 2) rfl rfl | exact hs.cell (k := 3) rfl rfl | exact hs.cell (k := 4) rfl rfl | exact hs.cell (k := 5) rfl rfl | exact hs.cell (k := 6) rfl rfl | exact hs.cell (k := 7) rfl rfl) ?_
  replace hs : St [] w0 w ([(b10, Blk 35 [.bool false, .string xL.rule, .int .i64 xL.holder, .int .i64 xL.token, .int .i64 xL.til, .slice (some ⟨gS, 0, none⟩) O.length cS]), (b6, Blk 35 [.bool true, .string xL.rule, .int .i64 xL.holder, .int .i64 xL.token, .int .i64 xL.til, .slice none 0 0]), (gS, Blk 5 (u8s O ++ spS)), (gO, Blk 5 (u8s O ++ spO))] ++ (LQ ++ LT)) := by simpa [cat] using St.reord [[_, _, _, _], LT, LQ] [0, 2, 1] [] (by simpa [cat] using hs) rfl
  refine s_callL (M := [_, _, _, _]) (L1 := LQ) (X := LT) Try.call13 rfl rfl hs (fun h => propose_ok q R1 LQ ⟨false, xL, O⟩ (.slice (some ⟨gS, 0, none⟩) O.length cS) w hRQ (hSS w (hs.at (k := 2) rfl)) (by intro a m c he _; cases he; exact hs.notin (M := [_, _, _, _]) (by simp [ids])) hOB h) ?_
  clear hs; rintro v w L9 ⟨rv2, Lr2, LQ2, rfl, rfl, hR2, hM2⟩ - hs
  have hpr : R1.propose ⟨false, xL, O⟩ = (R1.push ⟨false, xL, O⟩, (R1.push ⟨false, xL, O⟩).others (R1.push ⟨false, xL, O⟩).spreadM, 0) := by rw [Rp.propose, if_neg (by omega), if_neg (not_not_intro (xL_valid (by show O.length ≤ _; omega))), if_neg (by rw [e4]; simp)]
  rw [hpr] at hR2 ⊢
  simp only at hR2 ⊢
  have f4 : (R1.push ⟨false, xL, O⟩).log = [⟨false, xL, O⟩] := by simp only [Rp.push, e4]; rfl
  have f5 : (R1.push ⟨false, xL, O⟩).n = 1 := by simp only [Rp.push]; rw [if_pos (by omega), e4]; rfl
  generalize R1.push ⟨false, xL, O⟩ = R2 at hR2 f4 f5
  clear hM2 hpr
  replace hs : St [] w0 w ((b10, Blk 35 [.bool false, .string xL.rule, .int .i64 xL.holder, .int .i64 xL.token, .int .i64 xL.til, .slice (some ⟨gS, 0, none⟩) O.length cS]) :: (b6, Blk 35 [.bool true, .string xL.rule, .int .i64 xL.holder, .int .i64 xL.token, .int .i64 xL.til, .slice none 0 0]) :: (gS, Blk 5 (u8s O ++ spS)) :: (gO, Blk 5 (u8s O ++ spO)) :: (LQ2 ++ LT)) := by simpa [cat] using St.reord [[_, _, _, _], LQ2, Lr2, LT] [0, 1, 3] [2] (by simpa [cat] using hs) rfl
  obtain ⟨o0, Or, rfl⟩ : ∃ o0 Or, O = o0 :: Or := by cases O with
    | nil => simp at hOl
    | cons a r => exact ⟨a, r, rfl⟩
  have ho0 := hOB o0 List.mem_cons_self
  unfold isB at ho0
  simp only [u8s, List.map_cons, List.cons_append] at hs
  refine s_move rfl rfl ?_
  refine s_extract rfl rfl rfl ?_
  refine s_extract rfl rfl rfl ?_
  refine s_assign rfl rfl ?_
  refine s_assign rfl rfl ?_
  refine WL_nil ?_
  refine n_then ?_
  refine W_seq ?_
  refine W_region ?_
  refine s_move rfl rfl ?_
  refine s_move rfl rfl ?_
  (refine s_indexAddr1 El22 rfl rfl rfl ?hx ?_; case hx => (constructor <;> first | omega | (simp; omega)))
  first
    | refine s_load Try.isAgg5 rfl rfl (hs.cell (k := 0) rfl rfl) ?_
    | refine s_load Try.isAgg5 rfl rfl (hs.cell (k := 1) rfl rfl) ?_
    | refine s_load Try.isAgg5 rfl rfl (hs.cell (k := 2) rfl rfl) ?_
    | refine s_load Try.isAgg5 rfl rfl (hs.cell (k := 3) rfl rfl) ?_
    | refine s_load Try.isAgg5 rfl rfl (hs.cell (k := 4) rfl rfl) ?_
    | refine s_load Try.isAgg5 rfl rfl (hs.cell (k := 5) rfl rfl) ?_
    | refine s_load Try.isAgg5 rfl rfl (hs.cell (k := 6) rfl rfl) ?_
    | refine s_load Try.isAgg5 rfl rfl (hs.cell (k := 7) rfl rfl) ?_
  refine s_add rfl rfl rfl ?_
  (refine s_indexAddr1 El22 rfl rfl rfl ?hx ?_; case hx => (constructor <;> first | omega | (simp; omega)))
  first
    | refine s_storeB Try.sizeOf5 rfl rfl rfl hs (kk := 0) rfl rfl ?_
    | refine s_storeB Try.sizeOf5 rfl rfl rfl hs (kk := 1) rfl rfl ?_
    | refine s_storeB Try.sizeOf5 rfl rfl rfl hs (kk := 2) rfl rfl ?_
    | refine s_storeB Try.sizeOf5 rfl rfl rfl hs (kk := 3) rfl rfl ?_
    | refine s_storeB Try.sizeOf5 rfl rfl rfl hs (kk := 4) rfl rfl ?_
    | refine s_storeB Try.sizeOf5 rfl rfl rfl hs (kk := 5) rfl rfl ?_
    | refine s_storeB Try.sizeOf5 rfl rfl rfl hs (kk := 6) rfl rfl ?_
    | refine s_storeB Try.sizeOf5 rfl rfl rfl hs (kk := 7) rfl rfl ?_
  clear hs; intro w hs; try simp only [List.set_cons_zero, List.set_cons_succ, splice, List.take_succ_cons, List.take_zero, List.drop_succ_cons, List.drop_zero, List.nil_append, List.cons_append, List.length_cons, List.length_nil, Nat.reduceAdd, List.append_assoc] at hs
  refine WL_nil ?_
  refine n_then ?_
  refine W_seq ?_
  refine W_region ?_
  refine s_move rfl rfl ?_
  replace hs : St [] w0 w ([(b6, Blk 35 [.bool true, .string xL.rule, .int .i64 xL.holder, .int .i64 xL.token, .int .i64 xL.til, .slice none 0 0]), (gO, Blk 5 (.int .u8 o0 :: (List.map (Value.int .u8) Or ++ spO)))] ++ (LT ++ LQ2)) := by simpa [cat] using St.reord [[_], [_], [_], [_], LQ2, LT] [1, 3, 5, 4] [0, 2] (by simpa [cat] using hs) rfl
  refine s_callL (M := [_, _]) (L1 := LT) (X := LQ2) Try.call14 rfl rfl hs (fun h => copy_ok p of1 ([] ++ [c1]) LT w hT h (by simp)) ?_
  clear hs; rintro v w L9 ⟨p2, LC, cs2, rfl, rfl, hC, hbs2⟩ - hs
  replace hs : St [] w0 w ([(b6, Blk 35 [.bool true, .string xL.rule, .int .i64 xL.holder, .int .i64 xL.token, .int .i64 xL.til, .slice none 0 0]), (gO, Blk 5 (.int .u8 o0 :: (List.map (Value.int .u8) Or ++ spO)))] ++ (LC ++ (LT ++ LQ2))) := by simpa [cat] using St.reord [[_, _], LT, LC, LQ2] [0, 2, 1, 3] [] (by simpa [cat] using hs) rfl
  have hcl2 : cs2.length = 1 := by have := congrArg List.length hbs2; simpa using this
  clear hSw hSS
  refine s_assign rfl rfl ?_
  refine WL_nil ?_
  refine n_then ?_
  refine W_seq ?_
  refine W_seq ?_
  refine W_region ?_
  refine s_move rfl rfl ?_
  refine s_eql_ptr_nil Try.underlying23 rfl rfl rfl ?_
  refine s_move rfl rfl ?_
  refine WL_know (s := 76) (c := false) rfl (rfl) ?_
  refine WL_take rfl ?_
  refine s_move rfl rfl ?_
  refine WL_take rfl ?_
  refine s_neq rfl rfl rfl ?_
  refine s_pick_f rfl rfl rfl ?_
  refine s_move rfl rfl ?_
  refine WL_know (s := 80) (c := false) rfl (rfl) ?_
  refine WL_take rfl ?_
  refine s_move rfl rfl ?_
  refine WL_take rfl ?_
  refine s_neq rfl rfl rfl ?_
  refine s_pick_f rfl rfl rfl ?_
  refine WL_nil ?_
  refine n_then ?_
  refine W_cond_kf rfl (rfl) ?_
  refine W_skip ?_
  refine n_then ?_
  refine W_seq ?_
  refine W_region ?_
  refine s_move rfl rfl ?_
  refine s_fieldAddr rfl rfl (FA35_1 _ _) ?_
  first
    | refine s_loadW Try.isAgg33 Try.sizeOf33 rfl rfl hs (kk := 0) rfl rfl ?_
    | refine s_loadW Try.isAgg33 Try.sizeOf33 rfl rfl hs (kk := 1) rfl rfl ?_
    | refine s_loadW Try.isAgg33 Try.sizeOf33 rfl rfl hs (kk := 2) rfl rfl ?_
    | refine s_loadW Try.isAgg33 Try.sizeOf33 rfl rfl hs (kk := 3) rfl rfl ?_
    | refine s_loadW Try.isAgg33 Try.sizeOf33 rfl rfl hs (kk := 4) rfl rfl ?_
    | refine s_loadW Try.isAgg33 Try.sizeOf33 rfl rfl hs (kk := 5) rfl rfl ?_
    | refine s_loadW Try.isAgg33 Try.sizeOf33 rfl rfl hs (kk := 6) rfl rfl ?_
    | refine s_loadW Try.isAgg33 Try.sizeOf33 rfl rfl hs (kk := 7) rfl rfl ?_
    | refine s_load_4 Try.isAgg33 Try.sizeOf33 rfl rfl (by first | exact hs.cell (k := 0) rfl rfl | exact hs.cell (k := 1) rfl rfl | exact hs.cell (k := 2) rfl rfl | exact hs.cell (k := 3) rfl rfl | exact hs.cell (k := 4) rfl rfl | exact hs.cell (k := 5) rfl rfl | exact hs.cell (k := 6) rfl rfl | exact hs.cell (k := 7) rfl rfl) (by first | exact hs.cell (k := 0) rfl rfl | exact hs.cell (k := 1) rfl rfl | exact hs.cell (k := 2) rfl rfl | exact hs.cell (k := 3) rfl rfl | exact hs.cell (k := 4) rfl rfl | exact hs.cell (k := 5) rfl rfl | exact hs.cell (k := 6) rfl rfl | exact hs.cell (k := 7) rfl rfl) (by first | exact hs.cell (k := 0) rfl rfl | exact hs.cell (k := 1) rfl rfl | exact hs.cell (k := 2) rfl rfl | exact hs.cell (k := 3) rfl rfl | exact hs.cell (k := 4) rfl rfl | exact hs.cell (k := 5) rfl rfl | exact hs.cell (k := 6) rfl rfl | exact hs.cell (k := 7) rfl rfl) (by first | exact hs.cell (k := 0) rfl rfl | exact hs.cell (k := 1) rfl rfl | exact hs.cell (k := 2) rfl rfl | exact hs.cell (k := 3) rfl rfl | exact hs.cell (k := 4) rfl rfl | exact hs.cell (k := 5) rfl rfl | exact hs.cell (k := 6) rfl rfl | exact hs.cell (k := 7) rfl rfl) ?_
  refine s_build rfl rfl (BD35_1 _ _ _ _) ?_
  refine s_callL (M := [_, _]) (L1 := LC) (X := LT ++ LQ2) Try.call11 rfl rfl hs (fun h => apply_ok p2 of1 cs2 false xL (.slice none 0 0) [] 2 LC w hC h ⟨none, 0, rfl, Nat.le_refl _, .inl rfl⟩ (by omega) (by intro a m c he; cases he)) ?_
  clear hs; rintro v w LC ⟨rfl, cs3, hC, hc1, hc2⟩ - hs
  have hap2 : applyE of1 false xL ([] : List Int).length 2 = 0 := applyE_c0 (xL_valid (by simp)) (by omega) rfl of1_r ⟨rfl, by decide⟩
  obtain ⟨c3, -, rfl⟩ := hc2 ⟨hap2, rfl⟩
  rw [applyF_cmd] at hC
  clear hc1 hc2 hap2
  refine WL_nil ?_
  refine n_then ?_
  refine W_seq ?_
  refine W_region ?_
  refine s_move rfl rfl ?_
  refine s_callL (M := [_, _]) (L1 := LC) (X := LT ++ LQ2) Try.call10 rfl rfl hs (fun h => grant_ok p2 of1 _ rS 0 3 9 LC w hC h (by intro y hy; rw [of1_r] at hy; cases hy; decide)) ?_
  clear hs; rintro v w L9 ⟨hL9, g, x, rfl, hx1, hx2⟩ - hs
  rw [hL9] at hs; clear hL9 L9
  obtain ⟨rfl, -, -⟩ := hx1 (by decide +kernel)
  clear hx1 hx2
  simp only [List.cons_append, List.nil_append] at hs
  refine s_move rfl rfl ?_
  refine s_extract rfl rfl rfl ?_
  refine s_extract rfl rfl rfl ?_
  refine s_alloc rfl AL35 hs ?_; clear hs; intro b15 w hs
  first
    | refine s_storeW Try.sizeOf35 rfl rfl rfl rfl hs (kk := 0) rfl rfl ?_
    | refine s_storeW Try.sizeOf35 rfl rfl rfl rfl hs (kk := 1) rfl rfl ?_
    | refine s_storeW Try.sizeOf35 rfl rfl rfl rfl hs (kk := 2) rfl rfl ?_
    | refine s_storeW Try.sizeOf35 rfl rfl rfl rfl hs (kk := 3) rfl rfl ?_
    | refine s_storeW Try.sizeOf35 rfl rfl rfl rfl hs (kk := 4) rfl rfl ?_
    | refine s_storeW Try.sizeOf35 rfl rfl rfl rfl hs (kk := 5) rfl rfl ?_
    | refine s_storeW Try.sizeOf35 rfl rfl rfl rfl hs (kk := 6) rfl rfl ?_
    | refine s_storeW Try.sizeOf35 rfl rfl rfl rfl hs (kk := 7) rfl rfl ?_
    | refine s_storeAB Try.sizeOf35 rfl rfl rfl rfl hs (kk := 0) rfl rfl ?_
    | refine s_storeAB Try.sizeOf35 rfl rfl rfl rfl hs (kk := 1) rfl rfl ?_
    | refine s_storeAB Try.sizeOf35 rfl rfl rfl rfl hs (kk := 2) rfl rfl ?_
    | refine s_storeAB Try.sizeOf35 rfl rfl rfl rfl hs (kk := 3) rfl rfl ?_
    | refine s_storeAB Try.sizeOf35 rfl rfl rfl rfl hs (kk := 4) rfl rfl ?_
    | refine s_storeAB Try.sizeOf35 rfl rfl rfl rfl hs (kk := 5) rfl rfl ?_
    | refine s_storeAB Try.sizeOf35 rfl rfl rfl rfl hs (kk := 6) rfl rfl ?_
    | refine s_storeAB Try.sizeOf35 rfl rfl rfl rfl hs (kk := 7) rfl rfl ?_
  clear hs; intro w hs; try simp only [List.set_cons_zero, List.set_cons_succ, splice, List.take_succ_cons, List.take_zero, List.drop_succ_cons, List.drop_zero, List.nil_append, List.cons_append, List.length_cons, List.length_nil, Nat.reduceAdd, List.append_assoc] at hs
  refine s_assign rfl rfl ?_
  refine WL_nil ?_
  refine n_then ?_
  refine W_seq ?_
  refine W_region ?_
  refine s_move rfl rfl ?_
  first
    | refine s_loadW Try.isAgg35 Try.sizeOf35 rfl rfl hs (kk := 0) rfl rfl ?_
    | refine s_loadW Try.isAgg35 Try.sizeOf35 rfl rfl hs (kk := 1) rfl rfl ?_
    | refine s_loadW Try.isAgg35 Try.sizeOf35 rfl rfl hs (kk := 2) rfl rfl ?_
    | refine s_loadW Try.isAgg35 Try.sizeOf35 rfl rfl hs (kk := 3) rfl rfl ?_
    | refine s_loadW Try.isAgg35 Try.sizeOf35 rfl rfl hs (kk := 4) rfl rfl ?_
    | refine s_loadW Try.isAgg35 Try.sizeOf35 rfl rfl hs (kk := 5) rfl rfl ?_
    | refine s_loadW Try.isAgg35 Try.sizeOf35 rfl rfl hs (kk := 6) rfl rfl ?_
    | refine s_loadW Try.isAgg35 Try.sizeOf35 rfl rfl hs (kk := 7) rfl rfl ?_
    | refine s_load_6 Try.isAgg35 Try.sizeOf35 rfl rfl (by first | exact hs.cell (k := 0) rfl rfl | exact hs.cell (k := 1) rfl rfl | exact hs.cell (k := 2) rfl rfl | exact hs.cell (k := 3) rfl rfl | exact hs.cell (k := 4) rfl rfl | exact hs.cell (k := 5) rfl rfl | exact hs.cell (k := 6) rfl rfl | exact hs.cell (k := 7) rfl rfl) (by first | exact hs.cell (k := 0) rfl rfl | exact hs.cell (k := 1) rfl rfl | exact hs.cell (k := 2) rfl rfl | exact hs.cell (k := 3) rfl rfl | exact hs.cell (k := 4) rfl rfl | exact hs.cell (k := 5) rfl rfl | exact hs.cell (k := 6) rfl rfl | exact hs.cell (k := 7) rfl rfl) (by first | exact hs.cell (k := 0) rfl rfl | exact hs.cell (k := 1) rfl rfl | exact hs.cell (k := 2) rfl rfl | exact hs.cell (k := 3) rfl rfl | exact hs.cell (k := 4) rfl rfl | exact hs.cell (k := 5) rfl rfl | exact hs.cell (k := 6) rfl rfl | exact hs.cell (k := 7) rfl rfl) (by first | exact hs.cell (k := 0) rfl rfl | exact hs.cell (k := 1) rfl rfl | exact hs.cell (k := 2) rfl rfl | exact hs.cell (k := 3) rfl rfl | exact hs.cell (k := 4) rfl rfl | exact hs.cell (k := 5) rfl rfl | exact hs.cell (k := 6) rfl rfl | exact hs.cell (k := 7) rfl rfl) (by first | exact hs.cell (k := 0) rfl rfl | exact hs.cell (k := 1) rfl rfl | exact hs.cell (k := 2) rfl rfl | exact hs.cell (k := 3) rfl rfl | exact hs.cell (k := 4) rfl rfl | exact hs.cell (k := 5) rfl rfl | exact hs.cell (k := 6) rfl rfl | exact hs.cell (k := 7) rfl rfl) (by first | exact hs.cell (k := 0) rfl rfl | exact hs.cell (k := 1) rfl rfl | exact hs.cell (k := 2) rfl rfl | exact hs.cell (k := 3) rfl rfl | exact hs.cell (k := 4) rfl rfl | exact hs.cell (k := 5) rfl rfl | exact hs.cell (k := 6) rfl rfl | exact hs.cell (k := 7) rfl rfl) ?_
  replace hs : St [] w0 w ([(b6, Blk 35 [.bool true, .string xL.rule, .int .i64 xL.holder, .int .i64 xL.token, .int .i64 xL.til, .slice none 0 0]), (gO, Blk 5 (.int .u8 o0 :: (List.map (Value.int .u8) Or ++ spO)))] ++ (LC ++ (LT ++ LQ2))) := hs.tail
  refine s_callL (M := [_, _]) (L1 := LC) (X := LT ++ LQ2) Try.call11 rfl rfl hs (fun h => apply_ok p2 of1 _ true x (.slice none 0 0) [] 3 LC w hC h ⟨none, 0, rfl, Nat.le_refl _, .inl rfl⟩ (by simp; omega) (by intro a m c he; cases he)) ?_
  clear hs; rintro v w LC ⟨rfl, cs4, hC, hc1, -⟩ - hs
  obtain rfl := hc1 (by simp)
  clear hc1
  replace hs : St [] w0 w ([(b6, Blk 35 [.bool true, .string xL.rule, .int .i64 xL.holder, .int .i64 xL.token, .int .i64 xL.til, .slice none 0 0]), (gO, Blk 5 (.int .u8 o0 :: (List.map (Value.int .u8) Or ++ spO)))] ++ (LT ++ (LC ++ LQ2))) := by simpa [cat] using St.reord [[_, _], LC, LT, LQ2] [0, 2, 1, 3] [] (by simpa [cat] using hs) rfl
  refine WL_nil ?_
  refine n_then ?_
  refine W_seq ?_
  refine W_region ?_
  refine s_move rfl rfl ?_
  refine s_callL (M := [_, _]) (L1 := LT) (X := LC ++ LQ2) Try.call15 rfl rfl hs (fun h => commands_ok p of1 _ LT w hT h (by simp)) ?_
  clear hs; rintro v w L9 ⟨ds, LP0, rfl, hOp, hds, hdk⟩ - hs
  obtain ⟨d1, rfl, hd1⟩ := one_cmd hds hcb1
  have hd1o := (hdk d1 (by simp)).1
  rw [hd1] at hd1o
  obtain ⟨gp, pc, psp, rfl, -, rfl⟩ := hOp.block (by simp)
  obtain ⟨g1, c1c, sp1, hd1v, -, hd1L⟩ := hd1o.block (by simp)
  simp only [cvals, List.map_cons, List.map_nil, hd1v, cblks, List.flatMap_cons, List.flatMap_nil, hd1L, u8s] at hs
  replace hs : St [] w0 w ([(b6, Blk 35 [.bool true, .string xL.rule, .int .i64 xL.holder, .int .i64 xL.token, .int .i64 xL.til, .slice none 0 0]), (gO, Blk 5 (.int .u8 o0 :: (List.map (Value.int .u8) Or ++ spO))), (gp, Blk 22 (.slice (some ⟨g1, 0, none⟩) (o0 :: Or).length c1c :: psp)), (g1, Blk 5 (.int .u8 o0 :: (List.map (Value.int .u8) Or ++ sp1)))] ++ (LT ++ (LC ++ LQ2))) := by simpa [cat] using St.reord [[_, _], LT, [_, _], LC, LQ2] [0, 2, 1, 3, 4] [] (by simpa [cat] using hs) rfl
  simp only [List.length_append, List.length_nil, List.length_cons, Nat.zero_add]
  clear hds hdk hOp
  refine s_assign rfl rfl ?_
  refine WL_nil ?_
  refine n_then ?_
  refine W_seq ?_
  refine W_region ?_
  refine s_move rfl rfl ?_
  refine s_call Try.call16 rfl rfl (committedO_ok q R2 LQ2 w hR2 fun q hq => hs.own q (by simp [hq])) ?_
  rintro r w ⟨ys, LQB, LQP, hlg, hown, hst⟩
  replace hs := hs.back0 hst
  clear hst
  rw [f5, f4, List.take_succ_cons, List.take_zero] at hlg
  obtain ⟨y1, rfl, hy1⟩ := one_em hlg.2.2
  obtain ⟨Ly, hyo, hysub⟩ := hown y1 (by simp)
  rw [hy1] at hyo
  simp only at hyo
  have hlO := hlg.1
  obtain ⟨gq, qc, qsp, rfl, -, rfl⟩ := hlO.block (by simp)
  obtain ⟨g2, c2c, sp2, hy1v, -, rfl⟩ := hyo.block (by simp)
  obtain ⟨QA, QB, rfl⟩ := List.append_of_mem (hysub _ List.mem_cons_self)
  obtain ⟨y1e, y1v⟩ := y1
  simp only at hy1 hy1v
  subst hy1 hy1v
  simp only [emcells, List.flatMap_cons, List.flatMap_nil, Em.cells, u8s, List.map_cons, List.append_nil] at hs
  replace hs : St [] w0 w ([(b6, Blk 35 [.bool true, .string xL.rule, .int .i64 xL.holder, .int .i64 xL.token, .int .i64 xL.til, .slice none 0 0]), (gO, Blk 5 (.int .u8 o0 :: (List.map (Value.int .u8) Or ++ spO))), (gp, Blk 22 (.slice (some ⟨g1, 0, none⟩) (o0 :: Or).length c1c :: psp)), (g1, Blk 5 (.int .u8 o0 :: (List.map (Value.int .u8) Or ++ sp1))), (gq, Blk 35 ([.bool false, .string xL.rule, .int .i64 xL.holder, .int .i64 xL.token, .int .i64 xL.til, .slice (some ⟨g2, 0, none⟩) (o0 :: Or).length c2c] ++ qsp)), (g2, Blk 5 (.int .u8 o0 :: (List.map (Value.int .u8) Or ++ sp2)))] ++ (LT ++ (LC ++ LQ2))) := by
    simpa [cat] using St.reord [[_], QA, [_], QB, [_, _, _, _], LT, LC, LQ2] [4, 0, 2, 5, 6, 7] [1, 3] (by simpa [cat] using hs) rfl
  simp only [List.length_cons, List.length_nil, Nat.zero_add]
  clear hlg hown hysub hlO
  have hSO : Sl w (.slice (some ⟨gO, 0, none⟩) (Or.length + 1) cO) (o0 :: Or).length (u8s (o0 :: Or)) := OwnS_slIn hOw fun q hq => by obtain rfl := List.mem_singleton.1 hq; exact hs.own _ (by simp [u8s])
  have hS1 : Sl w (.slice (some ⟨g1, 0, none⟩) (o0 :: Or).length c1c) (o0 :: Or).length (u8s (o0 :: Or)) := by rw [hd1v] at hd1o; exact OwnS_slIn hd1o fun q hq => hs.own q (by rw [hd1L] at hq; obtain rfl := List.mem_singleton.1 hq; simp [u8s])
  have hS2 : Sl w (.slice (some ⟨g2, 0, none⟩) (o0 :: Or).length c2c) (o0 :: Or).length (u8s (o0 :: Or)) := OwnS_slIn hyo fun q hq => by obtain rfl := List.mem_singleton.1 hq; exact hs.own _ (by simp [u8s])
  simp only [List.cons_append, List.nil_append] at hs
  refine s_assign rfl rfl ?_
  refine WL_nil ?_
  refine n_then ?_
  refine W_seq ?_
  refine W_seq ?_
  refine W_region ?_
  refine s_move rfl rfl ?_
  refine s_len rfl rfl (LN41 _ _ _ _) ?_
  refine s_neq rfl rfl rfl ?_
  refine s_move rfl rfl ?_
  refine WL_know (s := 104) (c := false) rfl ((by simp)) ?_
  refine WL_take rfl ?_
  refine s_move rfl rfl ?_
  refine WL_take rfl ?_
  refine s_len rfl rfl (LN43 _ _ _ _) ?_
  refine WL_take rfl ?_
  refine s_neq rfl rfl rfl ?_
  refine s_pick_f rfl rfl rfl ?_
  refine s_move rfl rfl ?_
  refine WL_know (s := 109) (c := false) rfl ((by simp)) ?_
  refine WL_take rfl ?_
  refine s_move rfl rfl ?_
  refine WL_take rfl ?_
  (refine s_indexAddr1 El41 rfl rfl rfl ?hx ?_; case hx => (constructor <;> first | omega | (simp; omega)))
  refine WL_take rfl ?_
  first
    | refine s_load Try.isAgg22 rfl rfl (hs.cell (k := 0) rfl rfl) ?_
    | refine s_load Try.isAgg22 rfl rfl (hs.cell (k := 1) rfl rfl) ?_
    | refine s_load Try.isAgg22 rfl rfl (hs.cell (k := 2) rfl rfl) ?_
    | refine s_load Try.isAgg22 rfl rfl (hs.cell (k := 3) rfl rfl) ?_
    | refine s_load Try.isAgg22 rfl rfl (hs.cell (k := 4) rfl rfl) ?_
    | refine s_load Try.isAgg22 rfl rfl (hs.cell (k := 5) rfl rfl) ?_
    | refine s_load Try.isAgg22 rfl rfl (hs.cell (k := 6) rfl rfl) ?_
    | refine s_load Try.isAgg22 rfl rfl (hs.cell (k := 7) rfl rfl) ?_
  refine WL_take rfl ?_
  refine s_move rfl rfl ?_
  refine WL_take rfl ?_
  refine s_call Try.call17 rfl rfl (sameBytes_ok _ _ (o0 :: Or) (o0 :: Or) w hS1 hSO (by omega)) ?_
  rintro r w ⟨hst, rfl⟩
  replace hs := hs.fwd1 hst
  replace hSO := hSO.fwd0 hst
  replace hS2 := hS2.fwd0 hst
  clear hst
  refine WL_take rfl ?_
  refine s_not rfl rfl ?_
  refine s_pick_f rfl rfl rfl ?_
  refine s_move rfl rfl ?_
  refine WL_know (s := 117) (c := false) rfl ((by simp)) ?_
  refine WL_take rfl ?_
  refine s_move rfl rfl ?_
  refine WL_take rfl ?_
  (refine s_indexAddr El43 rfl rfl rfl ?hx ?_; case hx => (constructor <;> first | omega | (simp; omega)))
  refine WL_take rfl ?_
  refine s_fieldAddr rfl rfl (FA35_2 _ _) ?_
  refine WL_take rfl ?_
  first
    | refine s_load Try.isAgg22 rfl rfl (hs.cell (k := 0) rfl rfl) ?_
    | refine s_load Try.isAgg22 rfl rfl (hs.cell (k := 1) rfl rfl) ?_
    | refine s_load Try.isAgg22 rfl rfl (hs.cell (k := 2) rfl rfl) ?_
    | refine s_load Try.isAgg22 rfl rfl (hs.cell (k := 3) rfl rfl) ?_
    | refine s_load Try.isAgg22 rfl rfl (hs.cell (k := 4) rfl rfl) ?_
    | refine s_load Try.isAgg22 rfl rfl (hs.cell (k := 5) rfl rfl) ?_
    | refine s_load Try.isAgg22 rfl rfl (hs.cell (k := 6) rfl rfl) ?_
    | refine s_load Try.isAgg22 rfl rfl (hs.cell (k := 7) rfl rfl) ?_
  refine WL_take rfl ?_
  refine s_move rfl rfl ?_
  refine WL_take rfl ?_
  refine s_call Try.call17 rfl rfl (sameBytes_ok _ _ (o0 :: Or) (o0 :: Or) w hS2 hSO (by omega)) ?_
  rintro r w ⟨hst, rfl⟩
  replace hs := hs.fwd1 hst
  clear hst hS1 hS2 hSO
  refine WL_take rfl ?_
  refine s_not rfl rfl ?_
  refine s_pick_f rfl rfl rfl ?_
  refine s_move rfl rfl ?_
  refine WL_know (s := 126) (c := false) rfl ((by simp)) ?_
  refine WL_take rfl ?_
  refine s_move rfl rfl ?_
  refine WL_take rfl ?_
  replace hs : St [] w0 w ([(b6, Blk 35 [.bool true, .string xL.rule, .int .i64 xL.holder, .int .i64 xL.token, .int .i64 xL.til, .slice none 0 0]), (gO, Blk 5 (.int .u8 o0 :: (List.map (Value.int .u8) Or ++ spO))), (gp, Blk 22 (.slice (some ⟨g1, 0, none⟩) (o0 :: Or).length c1c :: psp)), (g1, Blk 5 (.int .u8 o0 :: (List.map (Value.int .u8) Or ++ sp1))), (gq, Blk 35 ([.bool false, .string xL.rule, .int .i64 xL.holder, .int .i64 xL.token, .int .i64 xL.til, .slice (some ⟨g2, 0, none⟩) (o0 :: Or).length c2c] ++ qsp)), (g2, Blk 5 (.int .u8 o0 :: (List.map (Value.int .u8) Or ++ sp2)))] ++ (LC ++ (LT ++ LQ2))) := by simpa [cat] using St.reord [[_, _, _, _, _, _], LT, LC, LQ2] [0, 2, 1, 3] [] (by simpa [cat] using hs) rfl
  refine s_callL (M := [_, _, _, _, _, _]) (L1 := LC) (X := LT ++ LQ2) Try.call15 rfl rfl hs (fun h => commands_ok p2 _ _ LC w hC h (by simp; omega)) ?_
  clear hs; rintro v w L9 ⟨es2, LP2, rfl, hOp2, -, -⟩ - hs
  obtain ⟨_, zc, za, rfl, hzl⟩ := hOp2.form
  subst hzl
  replace hs : St [] w0 w ([(b6, Blk 35 [.bool true, .string xL.rule, .int .i64 xL.holder, .int .i64 xL.token, .int .i64 xL.til, .slice none 0 0]), (gO, Blk 5 (.int .u8 o0 :: (List.map (Value.int .u8) Or ++ spO))), (gp, Blk 22 (.slice (some ⟨g1, 0, none⟩) (o0 :: Or).length c1c :: psp)), (g1, Blk 5 (.int .u8 o0 :: (List.map (Value.int .u8) Or ++ sp1))), (gq, Blk 35 ([.bool false, .string xL.rule, .int .i64 xL.holder, .int .i64 xL.token, .int .i64 xL.til, .slice (some ⟨g2, 0, none⟩) (o0 :: Or).length c2c] ++ qsp)), (g2, Blk 5 (.int .u8 o0 :: (List.map (Value.int .u8) Or ++ sp2)))] ++ (LT ++ LQ2)) := by simpa [cat] using St.reord [[_, _, _, _, _, _], LC, LP2 ++ cblks es2, LT, LQ2] [0, 3, 4] [1, 2] (by simpa [cat] using hs) rfl
  simp only [List.cons_append, List.nil_append] at hs
  clear hOp2 hC
  refine WL_take rfl ?_
  refine s_len rfl rfl (LN41 _ _ _ _) ?_
  refine WL_take rfl ?_
  refine s_neq rfl rfl rfl ?_
  refine s_pick_f rfl rfl rfl ?_
  refine WL_nil ?_
  refine n_then ?_
  refine W_cond_kf rfl ((by simp [hcl2])) ?_
  refine W_skip ?_
  refine n_then ?_
  refine W_seq ?_
  refine W_draw [(0, true, []), (1, true, []), (2, true, []), (3, true, []), (4, true, []), (5, true, []), (6, true, []), (7, true, []), (8, false, [])] [[], [0], [0, 1], [], [3], [3, 4], [3, 4, 5], [0, 1, 2, 3, 4, 5, 6], [0, 1, 2, 3, 4, 5, 6, 7]] MX (by kernel_rfl) ?_
  intro w1 hw1 hw2 hw3 hw4; replace hs := hs.redrawn hw1 hw2 hw3 hw4; clear hw1 hw2 hw3 hw4
  obtain ⟨w, rfl⟩ : ∃ w : World, w = w1 := ⟨_, rfl⟩
  refine D_q rfl rfl ?_
  refine s_move rfl rfl ?_
  refine D_qn ?_
  refine D_q rfl rfl ?_
  (refine s_indexAddr1 El41 rfl rfl rfl ?hx ?_; case hx => (constructor <;> first | omega | (simp; omega)))
  refine D_qn ?_
  refine D_q rfl rfl ?_
  first
    | refine s_load Try.isAgg22 rfl rfl (hs.cell (k := 0) rfl rfl) ?_
    | refine s_load Try.isAgg22 rfl rfl (hs.cell (k := 1) rfl rfl) ?_
    | refine s_load Try.isAgg22 rfl rfl (hs.cell (k := 2) rfl rfl) ?_
    | refine s_load Try.isAgg22 rfl rfl (hs.cell (k := 3) rfl rfl) ?_
    | refine s_load Try.isAgg22 rfl rfl (hs.cell (k := 4) rfl rfl) ?_
    | refine s_load Try.isAgg22 rfl rfl (hs.cell (k := 5) rfl rfl) ?_
    | refine s_load Try.isAgg22 rfl rfl (hs.cell (k := 6) rfl rfl) ?_
    | refine s_load Try.isAgg22 rfl rfl (hs.cell (k := 7) rfl rfl) ?_
  refine D_qn ?_
  refine D_q rfl rfl ?_
  refine s_move rfl rfl ?_
  refine D_qn ?_
  refine D_q rfl rfl ?_
  (refine s_indexAddr1 El22 rfl rfl rfl ?hx ?_; case hx => (constructor <;> first | omega | (simp; omega)))
  refine D_qn ?_
  refine D_q rfl rfl ?_
  first
    | refine s_load Try.isAgg5 rfl rfl (hs.cell (k := 0) rfl rfl) ?_
    | refine s_load Try.isAgg5 rfl rfl (hs.cell (k := 1) rfl rfl) ?_
    | refine s_load Try.isAgg5 rfl rfl (hs.cell (k := 2) rfl rfl) ?_
    | refine s_load Try.isAgg5 rfl rfl (hs.cell (k := 3) rfl rfl) ?_
    | refine s_load Try.isAgg5 rfl rfl (hs.cell (k := 4) rfl rfl) ?_
    | refine s_load Try.isAgg5 rfl rfl (hs.cell (k := 5) rfl rfl) ?_
    | refine s_load Try.isAgg5 rfl rfl (hs.cell (k := 6) rfl rfl) ?_
    | refine s_load Try.isAgg5 rfl rfl (hs.cell (k := 7) rfl rfl) ?_
  refine D_qn ?_
  refine D_q rfl rfl ?_
  refine s_add rfl rfl rfl ?_
  refine D_qn ?_
  refine D_q rfl rfl ?_
  (refine s_indexAddr1 El22 rfl rfl rfl ?hx ?_; case hx => (constructor <;> first | omega | (simp; omega)))
  refine D_qn ?_
  refine D_e rfl ?_
  first
    | refine s_storeB Try.sizeOf5 rfl rfl rfl hs (kk := 0) rfl rfl ?_
    | refine s_storeB Try.sizeOf5 rfl rfl rfl hs (kk := 1) rfl rfl ?_
    | refine s_storeB Try.sizeOf5 rfl rfl rfl hs (kk := 2) rfl rfl ?_
    | refine s_storeB Try.sizeOf5 rfl rfl rfl hs (kk := 3) rfl rfl ?_
    | refine s_storeB Try.sizeOf5 rfl rfl rfl hs (kk := 4) rfl rfl ?_
    | refine s_storeB Try.sizeOf5 rfl rfl rfl hs (kk := 5) rfl rfl ?_
    | refine s_storeB Try.sizeOf5 rfl rfl rfl hs (kk := 6) rfl rfl ?_
    | refine s_storeB Try.sizeOf5 rfl rfl rfl hs (kk := 7) rfl rfl ?_
  clear hs; intro w hs; try simp only [List.set_cons_zero, List.set_cons_succ, splice, List.take_succ_cons, List.take_zero, List.drop_succ_cons, List.drop_zero, List.nil_append, List.cons_append, List.length_cons, List.length_nil, Nat.reduceAdd, List.append_assoc] at hs
  refine D_en ?re ?_
  case re =>
    exact Reks_nil
  refine D_nil ?_
  refine n_then ?_
  refine W_seq ?_
  refine W_draw [(0, true, []), (1, true, []), (2, true, []), (3, true, []), (4, true, []), (5, true, []), (6, true, []), (7, true, []), (8, true, []), (9, false, [])] [[], [0], [0, 1], [0, 1, 2], [], [4], [4, 5], [4, 5, 6], [0, 1, 2, 3, 4, 5, 6, 7], [0, 1, 2, 3, 4, 5, 6, 7, 8]] MX (by kernel_rfl) ?_
  intro w1 hw1 hw2 hw3 hw4; replace hs := hs.redrawn hw1 hw2 hw3 hw4; clear hw1 hw2 hw3 hw4
  obtain ⟨w, rfl⟩ : ∃ w : World, w = w1 := ⟨_, rfl⟩
  refine D_q rfl rfl ?_
  refine s_move rfl rfl ?_
  refine D_qn ?_
  refine D_q rfl rfl ?_
  (refine s_indexAddr El43 rfl rfl rfl ?hx ?_; case hx => (constructor <;> first | omega | (simp; omega)))
  refine D_qn ?_
  refine D_q rfl rfl ?_
  refine s_fieldAddr rfl rfl (FA35_2 _ _) ?_
  refine D_qn ?_
  refine D_q rfl rfl ?_
  first
    | refine s_load Try.isAgg22 rfl rfl (hs.cell (k := 0) rfl rfl) ?_
    | refine s_load Try.isAgg22 rfl rfl (hs.cell (k := 1) rfl rfl) ?_
    | refine s_load Try.isAgg22 rfl rfl (hs.cell (k := 2) rfl rfl) ?_
    | refine s_load Try.isAgg22 rfl rfl (hs.cell (k := 3) rfl rfl) ?_
    | refine s_load Try.isAgg22 rfl rfl (hs.cell (k := 4) rfl rfl) ?_
    | refine s_load Try.isAgg22 rfl rfl (hs.cell (k := 5) rfl rfl) ?_
    | refine s_load Try.isAgg22 rfl rfl (hs.cell (k := 6) rfl rfl) ?_
    | refine s_load Try.isAgg22 rfl rfl (hs.cell (k := 7) rfl rfl) ?_
  refine D_qn ?_
  refine D_q rfl rfl ?_
  refine s_move rfl rfl ?_
  refine D_qn ?_
  refine D_q rfl rfl ?_
  (refine s_indexAddr1 El22 rfl rfl rfl ?hx ?_; case hx => (constructor <;> first | omega | (simp; omega)))
  refine D_qn ?_
  refine D_q rfl rfl ?_
  first
    | refine s_load Try.isAgg5 rfl rfl (hs.cell (k := 0) rfl rfl) ?_
    | refine s_load Try.isAgg5 rfl rfl (hs.cell (k := 1) rfl rfl) ?_
    | refine s_load Try.isAgg5 rfl rfl (hs.cell (k := 2) rfl rfl) ?_
    | refine s_load Try.isAgg5 rfl rfl (hs.cell (k := 3) rfl rfl) ?_
    | refine s_load Try.isAgg5 rfl rfl (hs.cell (k := 4) rfl rfl) ?_
    | refine s_load Try.isAgg5 rfl rfl (hs.cell (k := 5) rfl rfl) ?_
    | refine s_load Try.isAgg5 rfl rfl (hs.cell (k := 6) rfl rfl) ?_
    | refine s_load Try.isAgg5 rfl rfl (hs.cell (k := 7) rfl rfl) ?_
  refine D_qn ?_
  refine D_q rfl rfl ?_
  refine s_add rfl rfl rfl ?_
  refine D_qn ?_
  refine D_q rfl rfl ?_
  (refine s_indexAddr1 El22 rfl rfl rfl ?hx ?_; case hx => (constructor <;> first | omega | (simp; omega)))
  refine D_qn ?_
  refine D_e rfl ?_
  first
    | refine s_storeB Try.sizeOf5 rfl rfl rfl hs (kk := 0) rfl rfl ?_
    | refine s_storeB Try.sizeOf5 rfl rfl rfl hs (kk := 1) rfl rfl ?_
    | refine s_storeB Try.sizeOf5 rfl rfl rfl hs (kk := 2) rfl rfl ?_
    | refine s_storeB Try.sizeOf5 rfl rfl rfl hs (kk := 3) rfl rfl ?_
    | refine s_storeB Try.sizeOf5 rfl rfl rfl hs (kk := 4) rfl rfl ?_
    | refine s_storeB Try.sizeOf5 rfl rfl rfl hs (kk := 5) rfl rfl ?_
    | refine s_storeB Try.sizeOf5 rfl rfl rfl hs (kk := 6) rfl rfl ?_
    | refine s_storeB Try.sizeOf5 rfl rfl rfl hs (kk := 7) rfl rfl ?_
  clear hs; intro w hs; try simp only [List.set_cons_zero, List.set_cons_succ, splice, List.take_succ_cons, List.take_zero, List.drop_succ_cons, List.drop_zero, List.nil_append, List.cons_append, List.length_cons, List.length_nil, Nat.reduceAdd, List.append_assoc] at hs
  refine D_en ?re ?_
  case re =>
    exact Reks_nil
  refine D_nil ?_
  refine n_then ?_
  refine W_seq ?_
  refine W_region ?_
  refine s_move rfl rfl ?_
  replace hs : St [] w0 w ([(b6, Blk 35 [.bool true, .string xL.rule, .int .i64 xL.holder, .int .i64 xL.token, .int .i64 xL.til, .slice none 0 0]), (gO, Blk 5 (.int .u8 o0 :: (List.map (Value.int .u8) Or ++ spO)))] ++ (LT ++ LQ2)) := by simpa [cat] using St.reord [[_, _], [_, _, _, _], LT, LQ2] [0, 2, 3] [1] (by simpa [cat] using hs) rfl
  clear hd1o hyo
  refine s_callL (M := [_, _]) (L1 := LT) (X := LQ2) Try.call15 rfl rfl hs (fun h => commands_ok p of1 _ LT w hT h (by simp)) ?_
  clear hs; rintro v w L9 ⟨ds, LP0, rfl, hOp, hds, hdk⟩ - hs
  obtain ⟨d1, rfl, hd1⟩ := one_cmd hds hcb1
  have hd1o := (hdk d1 (by simp)).1
  rw [hd1] at hd1o
  obtain ⟨gp, pc, psp, rfl, -, rfl⟩ := hOp.block (by simp)
  obtain ⟨g1, c1c, sp1, hd1v, -, hd1L⟩ := hd1o.block (by simp)
  simp only [cvals, List.map_cons, List.map_nil, hd1v, cblks, List.flatMap_cons, List.flatMap_nil, hd1L, u8s] at hs
  replace hs : St [] w0 w ([(b6, Blk 35 [.bool true, .string xL.rule, .int .i64 xL.holder, .int .i64 xL.token, .int .i64 xL.til, .slice none 0 0]), (gO, Blk 5 (.int .u8 o0 :: (List.map (Value.int .u8) Or ++ spO))), (gp, Blk 22 (.slice (some ⟨g1, 0, none⟩) (o0 :: Or).length c1c :: psp)), (g1, Blk 5 (.int .u8 o0 :: (List.map (Value.int .u8) Or ++ sp1)))] ++ (LT ++ LQ2)) := by simpa [cat] using St.reord [[_, _], LT, [_, _], LQ2] [0, 2, 1, 3] [] (by simpa [cat] using hs) rfl
  simp only [List.length_append, List.length_nil, List.length_cons, Nat.zero_add]
  clear hds hdk hOp
  refine s_assign rfl rfl ?_
  refine WL_nil ?_
  refine n_then ?_
  refine W_seq ?_
  refine W_region ?_
  refine s_move rfl rfl ?_
  refine s_call Try.call16 rfl rfl (committed_ok q R2 LQ2 w hR2 fun q hq => hs.own q (by simp [hq])) ?_
  rintro r w ⟨ys, LQB, LQP, hlg, hst⟩
  replace hs := hs.back0 hst
  clear hst
  rw [f5, f4, List.take_succ_cons, List.take_zero] at hlg
  obtain ⟨y1, rfl, hy1⟩ := one_em hlg.2.2
  have hyr := hlg.2.1 y1 (by simp)
  rw [hy1] at hyr
  simp only at hyr
  have hlO := hlg.1
  obtain ⟨gq, qc, qsp, rfl, -, rfl⟩ := hlO.block (by simp)
  obtain ⟨_, y1c, y1a, hy1v, hyl⟩ := hyr.form w fun q hq => hs.own q (by simp [hq])
  subst hyl
  obtain ⟨y1e, y1v⟩ := y1
  simp only at hy1 hy1v hyr
  subst hy1 hy1v
  simp only [emcells, List.flatMap_cons, List.flatMap_nil, Em.cells, List.append_nil] at hs
  replace hs : St [] w0 w ([(b6, Blk 35 [.bool true, .string xL.rule, .int .i64 xL.holder, .int .i64 xL.token, .int .i64 xL.til, .slice none 0 0]), (gO, Blk 5 (.int .u8 o0 :: (List.map (Value.int .u8) Or ++ spO))), (gp, Blk 22 (.slice (some ⟨g1, 0, none⟩) (o0 :: Or).length c1c :: psp)), (g1, Blk 5 (.int .u8 o0 :: (List.map (Value.int .u8) Or ++ sp1))), (gq, Blk 35 ([.bool false, .string xL.rule, .int .i64 xL.holder, .int .i64 xL.token, .int .i64 xL.til, .slice y1a (o0 :: Or).length y1c] ++ qsp))] ++ (LT ++ LQP)) := by
    simpa [cat] using St.reord [[_], LQP, [_, _, _, _], LT, LQ2] [2, 0, 3, 1] [4] (by simpa [cat] using hs) rfl
  simp only [List.length_cons, List.length_nil, Nat.zero_add]
  clear hlg hlO
  have hSO : Sl w (.slice (some ⟨gO, 0, none⟩) (Or.length + 1) cO) (o0 :: Or).length (u8s (o0 :: Or)) := OwnS_slIn hOw fun q hq => by obtain rfl := List.mem_singleton.1 hq; exact hs.own _ (by simp [u8s])
  have hS1 : Sl w (.slice (some ⟨g1, 0, none⟩) (o0 :: Or).length c1c) (o0 :: Or).length (u8s (o0 :: Or)) := by rw [hd1v] at hd1o; exact OwnS_slIn hd1o fun q hq => hs.own q (by rw [hd1L] at hq; obtain rfl := List.mem_singleton.1 hq; simp [u8s])
  have hS2 : Sl w (.slice y1a (o0 :: Or).length y1c) (o0 :: Or).length (u8s (o0 :: Or)) := hyr.sl w fun q hq => hs.own q (by simp [hq])
  refine s_assign rfl rfl ?_
  refine WL_nil ?_
  refine n_then ?_
  refine W_seq ?_
  refine W_region ?_
  refine s_move rfl rfl ?_
  refine s_callL (M := [_, _, _, _, _]) (L1 := LT) (X := LQP) Try.call18 rfl rfl hs (fun h => holder_ok p of1 _ rS 3 LT w hT h) ?_
  clear hs; rintro v w' L9 ⟨hL9, y, kn, rfl, hk1, hk2⟩ hfw hs
  rw [hL9] at hs; clear hL9 L9
  obtain rfl : kn = true := by
    cases kn
    · have := (hk2 rfl).1; exact absurd this (by decide +kernel)
    · rfl
  obtain ⟨hy, -⟩ := hk1 rfl
  rw [of1_r] at hy
  cases hy
  clear hk1 hk2
  clear hSO hS1 hS2
  clear hfw
  simp only [List.cons_append, List.nil_append] at hs
  refine s_move rfl rfl ?_
  refine s_extract rfl rfl rfl ?_
  refine s_extract rfl rfl rfl ?_
  refine s_alloc rfl AL33 hs ?_; clear hs; intro b19 w hs
  first
    | refine s_storeW Try.sizeOf33 rfl rfl rfl rfl hs (kk := 0) rfl rfl ?_
    | refine s_storeW Try.sizeOf33 rfl rfl rfl rfl hs (kk := 1) rfl rfl ?_
    | refine s_storeW Try.sizeOf33 rfl rfl rfl rfl hs (kk := 2) rfl rfl ?_
    | refine s_storeW Try.sizeOf33 rfl rfl rfl rfl hs (kk := 3) rfl rfl ?_
    | refine s_storeW Try.sizeOf33 rfl rfl rfl rfl hs (kk := 4) rfl rfl ?_
    | refine s_storeW Try.sizeOf33 rfl rfl rfl rfl hs (kk := 5) rfl rfl ?_
    | refine s_storeW Try.sizeOf33 rfl rfl rfl rfl hs (kk := 6) rfl rfl ?_
    | refine s_storeW Try.sizeOf33 rfl rfl rfl rfl hs (kk := 7) rfl rfl ?_
    | refine s_storeAB Try.sizeOf33 rfl rfl rfl rfl hs (kk := 0) rfl rfl ?_
    | refine s_storeAB Try.sizeOf33 rfl rfl rfl rfl hs (kk := 1) rfl rfl ?_
    | refine s_storeAB Try.sizeOf33 rfl rfl rfl rfl hs (kk := 2) rfl rfl ?_
    | refine s_storeAB Try.sizeOf33 rfl rfl rfl rfl hs (kk := 3) rfl rfl ?_
    | refine s_storeAB Try.sizeOf33 rfl rfl rfl rfl hs (kk := 4) rfl rfl ?_
    | refine s_storeAB Try.sizeOf33 rfl rfl rfl rfl hs (kk := 5) rfl rfl ?_
    | refine s_storeAB Try.sizeOf33 rfl rfl rfl rfl hs (kk := 6) rfl rfl ?_
    | refine s_storeAB Try.sizeOf33 rfl rfl rfl rfl hs (kk := 7) rfl rfl ?_
  clear hs; intro w hs; try simp only [List.set_cons_zero, List.set_cons_succ, splice, List.take_succ_cons, List.take_zero, List.drop_succ_cons, List.drop_zero, List.nil_append, List.cons_append, List.length_cons, List.length_nil, Nat.reduceAdd, List.append_assoc] at hs
  refine s_assign rfl rfl ?_
  refine WL_nil ?_
  refine n_then ?_
  refine W_seq ?_
  refine W_region ?_
  refine s_move rfl rfl ?_
  (refine s_indexAddr1 El41 rfl rfl rfl ?hx ?_; case hx => (constructor <;> first | omega | (simp; omega)))
  first
    | refine s_load Try.isAgg22 rfl rfl (hs.cell (k := 0) rfl rfl) ?_
    | refine s_load Try.isAgg22 rfl rfl (hs.cell (k := 1) rfl rfl) ?_
    | refine s_load Try.isAgg22 rfl rfl (hs.cell (k := 2) rfl rfl) ?_
    | refine s_load Try.isAgg22 rfl rfl (hs.cell (k := 3) rfl rfl) ?_
    | refine s_load Try.isAgg22 rfl rfl (hs.cell (k := 4) rfl rfl) ?_
    | refine s_load Try.isAgg22 rfl rfl (hs.cell (k := 5) rfl rfl) ?_
    | refine s_load Try.isAgg22 rfl rfl (hs.cell (k := 6) rfl rfl) ?_
    | refine s_load Try.isAgg22 rfl rfl (hs.cell (k := 7) rfl rfl) ?_
  refine s_move rfl rfl ?_
  have hSO : Sl w (.slice (some ⟨gO, 0, none⟩) (Or.length + 1) cO) (o0 :: Or).length (u8s (o0 :: Or)) := OwnS_slIn hOw fun q hq => by obtain rfl := List.mem_singleton.1 hq; exact hs.own _ (by simp [u8s])
  have hS1 : Sl w (.slice (some ⟨g1, 0, none⟩) (o0 :: Or).length c1c) (o0 :: Or).length (u8s (o0 :: Or)) := by rw [hd1v] at hd1o; exact OwnS_slIn hd1o fun q hq => hs.own q (by rw [hd1L] at hq; obtain rfl := List.mem_singleton.1 hq; simp [u8s])
  have hS2 : Sl w (.slice y1a (o0 :: Or).length y1c) (o0 :: Or).length (u8s (o0 :: Or)) := hyr.sl w fun q hq => hs.own q (by simp [hq])
  refine s_call Try.call17 rfl rfl (sameBytes_ok _ _ (o0 :: Or) (o0 :: Or) w hS1 hSO (by omega)) ?_
  rintro r w ⟨hst, rfl⟩
  replace hs := hs.fwd1 hst
  replace hSO := hSO.fwd0 hst
  replace hS2 := hS2.fwd0 hst
  clear hst
  refine s_move rfl rfl ?_
  refine WL_know (s := 163) (c := true) rfl ((by simp)) ?_
  refine WL_take rfl ?_
  refine s_move rfl rfl ?_
  refine WL_take rfl ?_
  (refine s_indexAddr El43 rfl rfl rfl ?hx ?_; case hx => (constructor <;> first | omega | (simp; omega)))
  refine WL_take rfl ?_
  refine s_fieldAddr rfl rfl (FA35_2 _ _) ?_
  refine WL_take rfl ?_
  first
    | refine s_load Try.isAgg22 rfl rfl (hs.cell (k := 0) rfl rfl) ?_
    | refine s_load Try.isAgg22 rfl rfl (hs.cell (k := 1) rfl rfl) ?_
    | refine s_load Try.isAgg22 rfl rfl (hs.cell (k := 2) rfl rfl) ?_
    | refine s_load Try.isAgg22 rfl rfl (hs.cell (k := 3) rfl rfl) ?_
    | refine s_load Try.isAgg22 rfl rfl (hs.cell (k := 4) rfl rfl) ?_
    | refine s_load Try.isAgg22 rfl rfl (hs.cell (k := 5) rfl rfl) ?_
    | refine s_load Try.isAgg22 rfl rfl (hs.cell (k := 6) rfl rfl) ?_
    | refine s_load Try.isAgg22 rfl rfl (hs.cell (k := 7) rfl rfl) ?_
  refine WL_take rfl ?_
  refine s_move rfl rfl ?_
  refine WL_take rfl ?_
  refine s_call Try.call17 rfl rfl (sameBytes_ok _ _ (o0 :: Or) (o0 :: Or) w hS2 hSO (by omega)) ?_
  rintro r w ⟨hst, rfl⟩
  replace hs := hs.fwd1 hst
  clear hst hS1 hS2 hSO
  refine s_pick_t rfl rfl rfl ?_
  refine s_move rfl rfl ?_
  refine WL_know (s := 171) (c := true) rfl ((by simp)) ?_
  refine WL_take rfl ?_
  refine s_move rfl rfl ?_
  refine s_pick_t rfl rfl rfl ?_
  refine s_move rfl rfl ?_
  refine WL_know (s := 174) (c := true) rfl (rfl) ?_
  refine WL_take rfl ?_
  first
    | refine s_loadW Try.isAgg33 Try.sizeOf33 rfl rfl hs (kk := 0) rfl rfl ?_
    | refine s_loadW Try.isAgg33 Try.sizeOf33 rfl rfl hs (kk := 1) rfl rfl ?_
    | refine s_loadW Try.isAgg33 Try.sizeOf33 rfl rfl hs (kk := 2) rfl rfl ?_
    | refine s_loadW Try.isAgg33 Try.sizeOf33 rfl rfl hs (kk := 3) rfl rfl ?_
    | refine s_loadW Try.isAgg33 Try.sizeOf33 rfl rfl hs (kk := 4) rfl rfl ?_
    | refine s_loadW Try.isAgg33 Try.sizeOf33 rfl rfl hs (kk := 5) rfl rfl ?_
    | refine s_loadW Try.isAgg33 Try.sizeOf33 rfl rfl hs (kk := 6) rfl rfl ?_
    | refine s_loadW Try.isAgg33 Try.sizeOf33 rfl rfl hs (kk := 7) rfl rfl ?_
    | refine s_load_4 Try.isAgg33 Try.sizeOf33 rfl rfl (by first | exact hs.cell (k := 0) rfl rfl | exact hs.cell (k := 1) rfl rfl | exact hs.cell (k := 2) rfl rfl | exact hs.cell (k := 3) rfl rfl | exact hs.cell (k := 4) rfl rfl | exact hs.cell (k := 5) rfl rfl | exact hs.cell (k := 6) rfl rfl | exact hs.cell (k := 7) rfl rfl) (by first | exact hs.cell (k := 0) rfl rfl | exact hs.cell (k := 1) rfl rfl | exact hs.cell (k := 2) rfl rfl | exact hs.cell (k := 3) rfl rfl | exact hs.cell (k := 4) rfl rfl | exact hs.cell (k := 5) rfl rfl | exact hs.cell (k := 6) rfl rfl | exact hs.cell (k := 7) rfl rfl) (by first | exact hs.cell (k := 0) rfl rfl | exact hs.cell (k := 1) rfl rfl | exact hs.cell (k := 2) rfl rfl | exact hs.cell (k := 3) rfl rfl | exact hs.cell (k := 4) rfl rfl | exact hs.cell (k := 5) rfl rfl | exact hs.cell (k := 6) rfl rfl | exact hs.cell (k := 7) rfl rfl) (by first | exact hs.cell (k := 0) rfl rfl | exact hs.cell (k := 1) rfl rfl | exact hs.cell (k := 2) rfl rfl | exact hs.cell (k := 3) rfl rfl | exact hs.cell (k := 4) rfl rfl | exact hs.cell (k := 5) rfl rfl | exact hs.cell (k := 6) rfl rfl | exact hs.cell (k := 7) rfl rfl) ?_
  refine WL_take rfl ?_
  refine s_fieldAddr rfl rfl (FA35_1 _ _) ?_
  refine WL_take rfl ?_
  first
    | refine s_loadW Try.isAgg33 Try.sizeOf33 rfl rfl hs (kk := 0) rfl rfl ?_
    | refine s_loadW Try.isAgg33 Try.sizeOf33 rfl rfl hs (kk := 1) rfl rfl ?_
    | refine s_loadW Try.isAgg33 Try.sizeOf33 rfl rfl hs (kk := 2) rfl rfl ?_
    | refine s_loadW Try.isAgg33 Try.sizeOf33 rfl rfl hs (kk := 3) rfl rfl ?_
    | refine s_loadW Try.isAgg33 Try.sizeOf33 rfl rfl hs (kk := 4) rfl rfl ?_
    | refine s_loadW Try.isAgg33 Try.sizeOf33 rfl rfl hs (kk := 5) rfl rfl ?_
    | refine s_loadW Try.isAgg33 Try.sizeOf33 rfl rfl hs (kk := 6) rfl rfl ?_
    | refine s_loadW Try.isAgg33 Try.sizeOf33 rfl rfl hs (kk := 7) rfl rfl ?_
    | refine s_load_4 Try.isAgg33 Try.sizeOf33 rfl rfl (by first | exact hs.cell (k := 0) rfl rfl | exact hs.cell (k := 1) rfl rfl | exact hs.cell (k := 2) rfl rfl | exact hs.cell (k := 3) rfl rfl | exact hs.cell (k := 4) rfl rfl | exact hs.cell (k := 5) rfl rfl | exact hs.cell (k := 6) rfl rfl | exact hs.cell (k := 7) rfl rfl) (by first | exact hs.cell (k := 0) rfl rfl | exact hs.cell (k := 1) rfl rfl | exact hs.cell (k := 2) rfl rfl | exact hs.cell (k := 3) rfl rfl | exact hs.cell (k := 4) rfl rfl | exact hs.cell (k := 5) rfl rfl | exact hs.cell (k := 6) rfl rfl | exact hs.cell (k := 7) rfl rfl) (by first | exact hs.cell (k := 0) rfl rfl | exact hs.cell (k := 1) rfl rfl | exact hs.cell (k := 2) rfl rfl | exact hs.cell (k := 3) rfl rfl | exact hs.cell (k := 4) rfl rfl | exact hs.cell (k := 5) rfl rfl | exact hs.cell (k := 6) rfl rfl | exact hs.cell (k := 7) rfl rfl) (by first | exact hs.cell (k := 0) rfl rfl | exact hs.cell (k := 1) rfl rfl | exact hs.cell (k := 2) rfl rfl | exact hs.cell (k := 3) rfl rfl | exact hs.cell (k := 4) rfl rfl | exact hs.cell (k := 5) rfl rfl | exact hs.cell (k := 6) rfl rfl | exact hs.cell (k := 7) rfl rfl) ?_
  refine WL_take rfl ?_
  refine s_eql_agg EG33 rfl rfl rfl (SE33 _ _ _ _ _ _ _ _) ?_
  refine s_pick_t rfl rfl rfl ?_
  refine s_move rfl rfl ?_
  refine WL_know (s := 180) (c := true) rfl ((by simp)) ?_
  refine WL_take rfl ?_
  refine s_call Try.call19 rfl rfl (lives_ok _) ?_
  rintro r w ⟨hst, rfl⟩
  replace hs := hs.fwd1 hst
  refine s_pick_t rfl rfl rfl ?_
  refine s_assign rfl rfl ?_
  refine WL_nil ?_
  refine n_then ?_
  refine W_ret ?_
  exact end1 rfl rfl ⟨hs.fwd, rfl⟩
end Go.Proofs.Ytkobigdfijeajaa
