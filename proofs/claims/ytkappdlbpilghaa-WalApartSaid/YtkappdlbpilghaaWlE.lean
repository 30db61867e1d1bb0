/- WalApart. -/
import Derived.Test.YtkappdlbpilghaaWlB
import Derived.Test.YtkappdlbpilghaaPre
set_option linter.unusedVariables false
set_option linter.unusedSimpArgs false
namespace Go.Proofs.Ytkappdlbpilghaa
open Go.SL
/-- a disk of 5000 bytes with the files 3 and 4 -/
def twoDk (a b : List Int) (da db : Nat) : Dk := ⟨5000, false, false, 0, fun q => if q = 3 then a else if q = 4 then b else [], fun q => if q = 3 then da else if q = 4 then db else 0⟩
theorem two_c (a b : List Int) (da db : Nat) : (twoDk a b da db).c 3 = a ∧ (twoDk a b da db).c 4 = b ∧ (twoDk a b da db).d 3 = da ∧ (twoDk a b da db).d 4 = db := ⟨rfl, rfl, rfl, rfl⟩
theorem two_set3 (a b a' : List Int) (da db d' : Nat) : (twoDk a b da db).set 3 a' d' = twoDk a' b d' db := by
  simp only [Dk.set, twoDk]; congr 1
  · funext q; split <;> rfl
  · funext q; split <;> rfl
theorem two_set4 (a b b' : List Int) (da db d' : Nat) : (twoDk a b da db).set 4 b' d' = twoDk a b' da d' := by
  simp only [Dk.set, twoDk]; congr 1
  · funext q
    by_cases h : q = 4
    · subst h; simp
    · simp [h]
  · funext q
    by_cases h : q = 4
    · subst h; simp
    · simp [h]
theorem two_new : newDk 5000 = twoDk [] [] 0 0 := by simp [newDk, twoDk]
theorem two_total (a b : List Int) (da db : Nat) : total (twoDk a b da db).c = a.length + b.length := by
  have h1 := total_set (D := twoDk [] [] 0 0) (f := 3) (bs := a) (d := da) (by omega)
  have h2 := total_set (D := twoDk a [] da 0) (f := 4) (bs := b) (d := db) (by omega)
  rw [two_set3] at h1
  rw [two_set4] at h2
  have h0 : total (twoDk [] [] 0 0).c = 0 := by rw [← two_new]; exact total_nil
  have h3 : ((twoDk [] [] 0 0).c 3).length = 0 := rfl
  have h4 : ((twoDk a [] da 0).c 4).length = 0 := rfl
  omega
theorem two_app3 {a b xs : List Int} {da db : Nat} (h : a.length + b.length + xs.length ≤ 5000) : (twoDk a b da db).app 3 xs = (twoDk (a ++ xs) b da db, 0) := by
  have ht := two_total a b da db
  rw [Dk.app, if_neg (by omega), if_neg (by simp [twoDk]), if_neg (by rw [ht]; show ¬ (5000 : Int) - _ < _; omega), step_free rfl, (two_c a b da db).1, (two_c a b da db).2.2.1, two_set3]
  rfl
theorem two_app4 {a b xs : List Int} {da db : Nat} (h : a.length + b.length + xs.length ≤ 5000) : (twoDk a b da db).app 4 xs = (twoDk a (b ++ xs) da db, 0) := by
  have ht := two_total a b da db
  rw [Dk.app, if_neg (by omega), if_neg (by simp [twoDk]), if_neg (by rw [ht]; show ¬ (5000 : Int) - _ < _; omega), step_free rfl, (two_c a b da db).2.1, (two_c a b da db).2.2.2, two_set4]
  rfl
theorem two_solid (a b : List Int) (da db : Nat) : (twoDk a b da db).solid = twoDk a b a.length b.length := by
  simp only [Dk.solid, twoDk]; congr 1
  funext q
  by_cases h : q = 3
  · simp [h]
  · by_cases h2 : q = 4
    · simp [h2]
    · simp [h, h2]
theorem two_sync (a b : List Int) (da db : Nat) : (twoDk a b da db).sync = (twoDk a b a.length b.length, 0) := by
  rw [Dk.sync, if_neg (by simp [twoDk]), step_free rfl, if_neg (by simp), two_solid]
theorem two_opened3 {a b : List Int} {da db n : Nat} (hn : n ≤ a.length) : (twoDk a b da db).opened 3 n = twoDk (a.take n) b n b.length := by
  have hl : (a.take n).length = n := by rw [List.length_take]; omega
  unfold Dk.opened
  rw [(two_c a b da db).1, (two_c a b da db).2.2.1]
  split
  · rw [two_set3, two_solid, hl]
  · rw [two_solid, List.take_of_length_le (by omega), show n = a.length by omega]
theorem two_opened4 {a b : List Int} {da db n : Nat} (hn : n ≤ b.length) : (twoDk a b da db).opened 4 n = twoDk a (b.take n) a.length n := by
  have hl : (b.take n).length = n := by rw [List.length_take]; omega
  unfold Dk.opened
  rw [(two_c a b da db).2.1, (two_c a b da db).2.2.2]
  split
  · rw [two_set4, two_solid, hl]
  · rw [two_solid, List.take_of_length_le (by omega), show n = b.length by omega]
theorem logApp_two3 {mx : Nat → Nat → Nat} {a b : List Int} {n : Nat} {x : List Int} (hx : x.length ≤ 65536) (hr : a.length + b.length + (frameV mx n x).length ≤ 5000) :
    logApp mx (twoDk a b a.length b.length) 3 n false x = (twoDk (a ++ frameV mx n x) b (a ++ frameV mx n x).length b.length, n + 1, false, 0) := by
  rw [logApp, if_neg (by omega), if_neg (by simp), two_app3 hr]
  simp [two_sync]
theorem logApp_two4 {mx : Nat → Nat → Nat} {a b : List Int} {n : Nat} {x : List Int} (hx : x.length ≤ 65536) (hr : a.length + b.length + (frameV mx n x).length ≤ 5000) :
    logApp mx (twoDk a b a.length b.length) 4 n false x = (twoDk a (b ++ frameV mx n x) a.length (b ++ frameV mx n x).length, n + 1, false, 0) := by
  rw [logApp, if_neg (by omega), if_neg (by simp), two_app4 hr]
  simp [two_sync]
theorem frame_len4 {mx : Nat → Nat → Nat} {n : Int} {x : List Int} : 4 ≤ (frameV mx n x).length := by
  have h1 : 0 < (uvar (coreV n x).length).length := List.length_pos_iff.2 (uvar_ne _)
  have h2 : 0 < (uvar (hashV mx (bytesOf sWal) (coreV n x))).length := List.length_pos_iff.2 (uvar_ne _)
  have h3 : 2 ≤ (coreV n x).length := by
    have h4 : 0 < (uvar x.length).length := List.length_pos_iff.2 (uvar_ne _)
    have h5 : 0 < (uvar (zz n)).length := List.length_pos_iff.2 (uvar_ne _)
    rw [coreV]; simp only [List.length_append]; omega
  rw [frameV]; simp only [List.length_append]; omega
theorem scan_short {mx : Nat → Nat → Nat} {bs : List Int} (h : bs.length ≤ 3) : IsScan mx 0 bs [] := by
  refine ⟨bs, by simp [framesV], fun y r he => ?_⟩
  have h1 := congrArg List.length he
  have h2 := frame_len4 (mx := mx) (n := ((0 + ([] : List (List Int)).length : Nat) : Int)) (x := y)
  rw [List.length_append] at h1; omega
structure WpS where
  i : Nat
  L : Hp
structure WpT where
  i : Nat
  E : Dk
  L : Hp
set_option maxHeartbeats 4000000 in
theorem walApart_ok (vl vm vb : Value) (ls ms bs : List Int) (w0 : World) (hl : Sl w0 vl ls.length (i64s ls)) (hli : ∀ z ∈ ls, isI64 z) (hm : Sl w0 vm ms.length (i64s ms)) (hmi : ∀ z ∈ ms, isI64 z) (hb : Sl w0 vb bs.length (u8s bs)) (hbb : ∀ z ∈ bs, isB z) :
    Ret Try.prog 4 [vl, vm, vb].toArray w0 fun r w' => Fwd [] w0 w' ∧ r = .bool true := by
  obtain ⟨mx, hmx⟩ := isMix
  obtain ⟨b3, hb3⟩ : ∃ o7, o7 = bs.take 3 := ⟨_, rfl⟩
  have hbl : b3.length = min bs.length 3 := by rw [hb3]; simp [Nat.min_comm]
  have hbl2 : min bs.length 3 ≤ 3 := Nat.min_le_right _ _
  have hbB : ∀ z ∈ b3, isB z := fun z hz => hbb z (List.mem_of_mem_take (by rw [← hb3]; exact hz))
  have hneg : isI64 (-1) := by unfold isI64; omega
  refine Ret_start fun w hs => ?_
  refine Ret_of Try.func4 rfl Try.ntmps4 rfl ?_
  refine W_seq ?_
  refine W_region ?_
  refine s_assign rfl rfl ?_
  refine WL_nil ?_
  refine n_then ?_
  refine W_seq ?_
  refine W_region ?_
  refine s_call Try.call8 rfl rfl (fresh_ok 5000 w (by omega)) ?_
  rintro v w ⟨p, Ld, rfl, hD, hst⟩
  replace hs := (St.back0 hs hst).left
  clear hst
  rw [two_new] at hD
  refine s_assign rfl rfl ?_
  refine WL_nil ?_
  refine n_then ?_
  refine W_seq ?_
  refine W_seq ?_
  refine W_region ?_
  refine s_move rfl rfl ?_
  refine s_eql_ptr_nil Try.underlying24 rfl rfl rfl ?_
  refine WL_nil ?_
  refine n_then ?_
  refine W_cond_kf rfl (rfl) ?_
  refine W_skip ?_
  refine n_then ?_
  refine W_seq ?_
  refine W_region ?_
  refine s_move rfl rfl ?_
  refine s_move rfl rfl ?_
  refine s_call Try.call19 rfl rfl (few_ok vb bs 3 w (hb.fwd0 hs.fwd) (by omega)) ?_
  rintro r w ⟨Lb, hOb, hst⟩
  replace hs := St.back0 hs hst
  clear hst
  rw [← hb3, ← hbl] at hOb
  obtain ⟨_, cb, ab, rfl, hbvl⟩ := hOb.form
  subst hbvl
  refine s_callL (M := Lb) (L1 := Ld) (X := []) Try.call18 rfl rfl (by simpa using hs) (fun h => dAppend_ok p _ 4 _ b3 Ld w hD (OwnS_slIn hOb fun p hp => hs.own p (by simp [hp])) (fun a m c he hne => by cases he; exact St_frontNot hs (OwnS_in hOb hne)) hbB h) ?_
  rw [two_app4 (by simp; omega), List.nil_append]
  clear hs hD; rintro u w Ld ⟨hD, rfl⟩ - hs
  simp only [List.append_nil] at hs hD
  replace hs := hs.right
  refine WL_nil ?_
  refine n_then ?_
  refine W_seq ?_
  refine W_region ?_
  refine s_move rfl rfl ?_
  refine s_callL (M := []) (L1 := Ld) (X := []) Try.call9 rfl rfl (by simpa using hs) (fun h => wOpenF_ok hmx p _ 3 [] Ld w hD (by omega) rfl rfl (by rw [(two_c _ _ _ _).1]; simp) (by rw [(two_c _ _ _ _).1]; exact scan_whole mx []) h) ?_
  rw [two_opened3 (by simp [framesV])]
  clear hs hD; rintro u w L9 ⟨qa, ra, ua, Lua, Lxa, Ld, hra, rfl, rfl, hD, hOa, -⟩ - hs
  simp only [List.append_nil, List.nil_append] at hs
  replace hD : DiskAt p (twoDk [] b3 0 b3.length) Ld := hD
  replace hs : St [] w0 w ([_] ++ Ld) := St.reord [[_], Lua, Lxa, Ld] [0, 3] [1, 2] hs rfl
  obtain ⟨_, ca, aa, rfl, hva⟩ := hOa.form
  subst hva
  have hral : ra.length = 0 := by rw [← Recs.x_length, hra]; rfl
  refine s_move rfl rfl ?_
  refine s_extract rfl rfl rfl ?_
  refine s_extract rfl rfl rfl ?_
  refine s_extract rfl rfl rfl ?_
  refine s_assign rfl rfl ?_
  refine s_assign rfl rfl ?_
  refine s_assign rfl rfl ?_
  refine WL_nil ?_
  refine n_then ?_
  refine W_seq ?_
  refine W_region ?_
  refine s_move rfl rfl ?_
  refine s_callL (M := [_]) (L1 := Ld) (X := []) Try.call9 rfl rfl (by simpa using hs) (fun h => wOpenF_ok hmx p _ 4 [] Ld w hD (by omega) rfl rfl (by rw [(two_c _ _ _ _).2.1]; omega) (by rw [(two_c _ _ _ _).2.1]; exact scan_short (by omega)) h) ?_
  rw [two_opened4 (by simp [framesV])]
  clear hs hD; rintro u w L9 ⟨qb, rb, ub, Lub, Lxb, Ld, hrb, rfl, rfl, hD, hOb2, -⟩ - hs
  replace hD : DiskAt p (twoDk [] [] 0 0) Ld := by simpa [framesV] using hD
  replace hs : St [] w0 w ([_] ++ ([_] ++ Ld)) := St.reord [[_], [_], Lub, Lxb, Ld] [0, 1, 4] [2, 3] (by simpa [cat] using hs) rfl
  obtain ⟨_, cb2, ab2, rfl, hvb2⟩ := hOb2.form
  subst hvb2
  have hrbl : rb.length = 0 := by rw [← Recs.x_length, hrb]; rfl
  refine s_move rfl rfl ?_
  refine s_extract rfl rfl rfl ?_
  refine s_extract rfl rfl rfl ?_
  refine s_extract rfl rfl rfl ?_
  refine s_assign rfl rfl ?_
  refine s_assign rfl rfl ?_
  refine s_assign rfl rfl ?_
  refine WL_nil ?_
  refine n_then ?_
  refine W_seq ?_
  refine W_seq ?_
  refine W_region ?_
  refine s_move rfl rfl ?_
  refine s_eql_ptr_nil Try.underlying26 rfl rfl rfl ?_
  refine s_move rfl rfl ?_
  refine WL_know (s := 45) (c := false) rfl (rfl) ?_
  refine WL_take rfl ?_
  refine s_move rfl rfl ?_
  refine WL_take rfl ?_
  refine s_eql_ptr_nil Try.underlying26 rfl rfl rfl ?_
  refine s_pick_f rfl rfl rfl ?_
  refine s_move rfl rfl ?_
  refine WL_know (s := 49) (c := false) rfl (rfl) ?_
  refine WL_take rfl ?_
  refine s_move rfl rfl ?_
  refine WL_take rfl ?_
  refine s_neq rfl rfl rfl ?_
  refine s_pick_f rfl rfl rfl ?_
  refine s_move rfl rfl ?_
  refine WL_know (s := 53) (c := false) rfl (rfl) ?_
  refine WL_take rfl ?_
  refine s_move rfl rfl ?_
  refine WL_take rfl ?_
  refine s_neq rfl rfl rfl ?_
  refine s_pick_f rfl rfl rfl ?_
  refine s_move rfl rfl ?_
  refine WL_know (s := 57) (c := false) rfl (rfl) ?_
  refine WL_take rfl ?_
  refine s_move rfl rfl ?_
  refine WL_take rfl ?_
  refine s_len rfl rfl (LN27 _ _ _ _) ?_
  refine WL_take rfl ?_
  refine s_neq rfl rfl rfl ?_
  refine s_pick_f rfl rfl rfl ?_
  refine s_move rfl rfl ?_
  refine WL_know (s := 62) (c := false) rfl ((by rw [hral]; rfl)) ?_
  refine WL_take rfl ?_
  refine s_move rfl rfl ?_
  refine WL_take rfl ?_
  refine s_len rfl rfl (LN27 _ _ _ _) ?_
  refine WL_take rfl ?_
  refine s_neq rfl rfl rfl ?_
  refine s_pick_f rfl rfl rfl ?_
  refine WL_nil ?_
  refine n_then ?_
  refine W_cond_kf rfl ((by rw [hrbl]; rfl)) ?_
  refine W_skip ?_
  refine n_then ?_
  refine W_seq ?_
  refine W_region ?_
  refine s_move rfl rfl ?_
  refine s_call Try.call10 rfl rfl (records_ok vl ls w (hl.fwd0 hs.fwd) hli) ?_
  rintro r w ⟨rs, Lv, LX, hO, hst, hin, hsm, hrl⟩
  replace hs := (St.back0 hs hst).swap
  clear hst
  obtain ⟨_, cv, av, rfl, hvl⟩ := hO.form
  subst hvl
  obtain ⟨hsm1, hsm2⟩ := hsm
  rw [Recs.x_length] at hsm1
  have hfle : ∀ k, (framesV mx 0 (rs.x.take k)).length ≤ 6 * 50 := fun k => by
    have h1 := framesV_le hmx (xs := rs.x.take k) (k := 10) (by omega) (fun x hx => (hsm2 x (List.mem_of_mem_take hx)).1) 0 (by rw [List.length_take, Recs.x_length]; omega)
    have h2 : (rs.x.take k).length ≤ 6 := by rw [List.length_take, Recs.x_length]; omega
    have h3 : (rs.x.take k).length * 50 ≤ 6 * 50 := Nat.mul_le_mul_right _ h2
    omega
  refine s_assign rfl rfl ?_
  refine WL_nil ?_
  refine n_then ?_
  refine W_seq ?_
  refine W_region ?_
  refine s_move rfl rfl ?_
  refine s_call Try.call10 rfl rfl (records_ok vm ms w (hm.fwd0 hs.fwd) hmi) ?_
  rintro r w ⟨qs, Lv2, LX2, hO2, hst, hin2, hsm, hql⟩
  replace hs := (St.back0 hs hst).swap
  clear hst
  obtain ⟨_, cv2, av2, rfl, hvl2⟩ := hO2.form
  subst hvl2
  obtain ⟨hsq1, hsq2⟩ := hsm
  rw [Recs.x_length] at hsq1
  have hqle : ∀ k, (framesV mx 0 (qs.x.take k)).length ≤ 6 * 50 := fun k => by
    have h1 := framesV_le hmx (xs := qs.x.take k) (k := 10) (by omega) (fun x hx => (hsq2 x (List.mem_of_mem_take hx)).1) 0 (by rw [List.length_take, Recs.x_length]; omega)
    have h2 : (qs.x.take k).length ≤ 6 := by rw [List.length_take, Recs.x_length]; omega
    have h3 : (qs.x.take k).length * 50 ≤ 6 * 50 := Nat.mul_le_mul_right _ h2
    omega
  simp only [List.append_assoc] at hs
  obtain ⟨LR, hLR⟩ : ∃ LR, LR = Lv ++ (LX ++ (Lv2 ++ LX2)) := ⟨_, rfl⟩
  rw [← hLR] at hs
  have hmv : ∀ p ∈ Lv, p ∈ LR := fun p hp => by rw [hLR]; simp [hp]
  have hmx1 : ∀ p ∈ LX, p ∈ LR := fun p hp => by rw [hLR]; simp [hp]
  have hmv2 : ∀ p ∈ Lv2, p ∈ LR := fun p hp => by rw [hLR]; simp [hp]
  have hmx2 : ∀ p ∈ LX2, p ∈ LR := fun p hp => by rw [hLR]; simp [hp]
  clear hLR
  refine s_assign rfl rfl ?_
  refine WL_nil ?_
  refine n_then ?_
  refine W_seq ?_
  refine W_seq ?_
  refine W_region ?_
  refine s_assign rfl rfl ?_
  refine WL_nil ?_
  refine n_then ?_
  refine W_block ?_
  refine W_loop (σ := WpS) (fun s => [(7, .pointer (some ⟨p, 0, none⟩)), (8, .pointer (some ⟨qa, 0, none⟩)), (11, .pointer (some ⟨qb, 0, none⟩)), (14, .slice av rs.length cv), (15, .slice av2 qs.length cv2), (16, .int .i64 (s.i : Int))]) (fun s w => St [] w0 w ([(qa, Blk 56 (logCells p 3 (rs.x.take s.i).length false))] ++ ([(qb, Blk 56 (logCells p 4 (qs.x.take s.i).length false))] ++ (s.L ++ LR))) ∧ DiskAt p (twoDk (framesV mx 0 (rs.x.take s.i)) (framesV mx 0 (qs.x.take s.i)) (framesV mx 0 (rs.x.take s.i)).length (framesV mx 0 (qs.x.take s.i)).length) s.L ∧ s.i ≤ 6) (fun s => 6 - s.i) ⟨0, Ld⟩ ⟨rfl, rfl, rfl, rfl, rfl, rfl, trivial⟩ ⟨hs, by simpa [framesV] using hD, by simp⟩ ?_
  clear hs hD
  rintro ⟨i, Ld⟩ w ⟨hs, hD, hi⟩
  simp only at hs hD hi ⊢
  refine W_seq ?_
  refine W_seq ?_
  refine W_region ?_
  refine s_move rfl rfl ?_
  refine s_lss rfl rfl rfl ?_
  refine WL_nil ?_
  refine n_then ?_
  refine W_cond rfl (fun hc72 => ?_) (fun hc72 => ?_)
  · skip
    try simp only [decide_eq_true_eq, decide_eq_false_iff_not, gt_iff_lt] at hc72
    have hi6 : i < 6 := by omega
    have hf1 := hfle i
    have hf2 := hqle i
    have hf3 := hfle (i + 1)
    refine W_skip ?_
    refine n_then ?_
    refine W_seq ?_
    refine W_block ?_
    refine W_seq ?_
    refine W_region ?_
    refine s_move rfl rfl ?_
    refine s_move rfl rfl ?_
    refine s_len rfl rfl (LN27 _ _ _ _) ?_
    refine s_lss rfl rfl rfl ?_
    refine s_move rfl rfl ?_
    refine WL_case (s := 79) rfl (fun hg79 => ?_) (fun hg79 => ?_)
    · skip
      try simp only [decide_eq_true_eq, decide_eq_false_iff_not, gt_iff_lt] at hg79
      have hil : i < rs.length := by omega
      obtain ⟨u1, x1, hxi, hm1, hv1, hx1⟩ := Recs.at hil
      have hx1b := hsm2 x1 (List.mem_of_getElem? hx1)
      have htl : (rs.x.take i).length = i := by rw [List.length_take, Recs.x_length]; omega
      have htl1 : (rs.x.take i).length + 1 = (rs.x.take (i + 1)).length := by rw [List.length_take, List.length_take, Recs.x_length]; omega
      have hfr := frame_small hmx (n := i) (x := x1) (k := 10) (by omega) hx1b.1 (by omega)
      have hft := framesV_take (mx := mx) hx1
      refine WL_take rfl ?_
      refine s_move rfl rfl ?_
      refine WL_take rfl ?_
      refine s_move rfl rfl ?_
      refine WL_take rfl ?_
      refine s_move rfl rfl ?_
      refine WL_take rfl ?_
      obtain ⟨b1, o1, hA1, hc1⟩ := (OwnS_slIn hO (w := w) fun p hp => hs.own p (by simp [hmv p hp])).at hv1
      (refine s_indexAddrO El27 rfl rfl rfl hA1 ?hx ?_; case hx => (constructor <;> omega))
      refine WL_take rfl ?_
      refine s_load Try.isAgg33 rfl rfl (by rw [Int.toNat_natCast]; exact hc1) ?_
      refine WL_take rfl ?_
      have hS1 := (hin _ hm1).sl w fun p hp => hs.own p (by simp [hmx1 p hp])
      replace hs : St [] w0 w ([(qb, Blk 56 (logCells p 4 (qs.x.take i).length false))] ++ (((qa, Blk 56 (logCells p 3 (rs.x.take i).length false)) :: Ld) ++ LR)) := St.reord [[_], [_], Ld, LR] [1, 0, 2, 3] [] hs rfl
      have hap1 := RdS.apart (hin _ hm1) (L0 := (qa, Blk 56 (logCells p 3 (rs.x.take i).length false)) :: Ld) (fun b hb => St.apartX (M := [_]) (X := LR) hs (by obtain ⟨o, ho⟩ := mem_ids.1 hb; exact mem_ids.2 ⟨o, hmx1 _ ho⟩))
      simp only at hS1 hap1
      refine s_callL (M := [_]) (L1 := _ :: Ld) (X := LR) Try.call13 rfl rfl hs (fun h => wAppend_ok hmx qa p _ 3 (rs.x.take i).length false _ x1 Ld w hD hS1 hx1b.2 (by omega) hap1 (by omega) h) ?_
      rw [logApp_two3 (by omega) (by rw [htl]; omega), htl1]
      rw [htl, ← hft]
      clear hs hD; rintro u w L9 ⟨Ld, rfl, hD, rfl⟩ - hs
      simp only at hD
      replace hs : St [] w0 w ([(qa, Blk 56 (logCells p 3 (rs.x.take (i + 1)).length false))] ++ ([(qb, Blk 56 (logCells p 4 (qs.x.take i).length false))] ++ (Ld ++ LR))) := St.reord [[_], [_], Ld, LR] [1, 0, 2, 3] [] hs rfl
      refine WL_take rfl ?_
      refine s_neq rfl rfl rfl ?_
      refine s_pick_t rfl rfl rfl ?_
      refine s_move rfl rfl ?_
      refine WL_know (s := 88) (c := false) rfl (rfl) ?_
      refine WL_take rfl ?_
      refine s_move rfl rfl ?_
      refine WL_take rfl ?_
      refine s_move rfl rfl ?_
      refine WL_take rfl ?_
      refine s_len rfl rfl (LN27 _ _ _ _) ?_
      refine WL_take rfl ?_
      refine s_lss rfl rfl rfl ?_
      refine WL_take rfl ?_
      refine s_move rfl rfl ?_
      refine WL_case (s := 93) rfl (fun hg93 => ?_) (fun hg93 => ?_)
      · skip
        try simp only [decide_eq_true_eq, decide_eq_false_iff_not, gt_iff_lt] at hg93
        have hil2 : i < qs.length := by omega
        obtain ⟨u2, x2, hxi2, hm2, hv2, hx2⟩ := Recs.at hil2
        have hx2b := hsq2 x2 (List.mem_of_getElem? hx2)
        have htq : (qs.x.take i).length = i := by rw [List.length_take, Recs.x_length]; omega
        have htq1 : (qs.x.take i).length + 1 = (qs.x.take (i + 1)).length := by rw [List.length_take, List.length_take, Recs.x_length]; omega
        have hfr2 := frame_small hmx (n := i) (x := x2) (k := 10) (by omega) hx2b.1 (by omega)
        have hft2 := framesV_take (mx := mx) hx2
        refine WL_take rfl ?_
        refine s_move rfl rfl ?_
        refine WL_take rfl ?_
        refine s_move rfl rfl ?_
        refine WL_take rfl ?_
        refine s_move rfl rfl ?_
        refine WL_take rfl ?_
        obtain ⟨b2, o2, hA2, hc2⟩ := (OwnS_slIn hO2 (w := w) fun p hp => hs.own p (by simp [hmv2 p hp])).at hv2
        (refine s_indexAddrO El27 rfl rfl rfl hA2 ?hx ?_; case hx => (constructor <;> omega))
        refine WL_take rfl ?_
        refine s_load Try.isAgg33 rfl rfl (by rw [Int.toNat_natCast]; exact hc2) ?_
        refine WL_take rfl ?_
        have hS2 := (hin2 _ hm2).sl w fun p hp => hs.own p (by simp [hmx2 p hp])
        replace hs : St [] w0 w ([(qa, Blk 56 (logCells p 3 (rs.x.take (i + 1)).length false))] ++ (((qb, Blk 56 (logCells p 4 (qs.x.take i).length false)) :: Ld) ++ LR)) := hs
        have hap2 := RdS.apart (hin2 _ hm2) (L0 := (qb, Blk 56 (logCells p 4 (qs.x.take i).length false)) :: Ld) (fun b hb => St.apartX (M := [_]) (X := LR) hs (by obtain ⟨o, ho⟩ := mem_ids.1 hb; exact mem_ids.2 ⟨o, hmx2 _ ho⟩))
        simp only at hS2 hap2
        refine s_callL (M := [_]) (L1 := _ :: Ld) (X := LR) Try.call13 rfl rfl hs (fun h => wAppend_ok hmx qb p _ 4 (qs.x.take i).length false _ x2 Ld w hD hS2 hx2b.2 (by omega) hap2 (by omega) h) ?_
        rw [logApp_two4 (by omega) (by rw [htq]; omega), htq1]
        rw [htq, ← hft2]
        clear hs hD; rintro u w L9 ⟨Ld, rfl, hD, rfl⟩ - hs
        simp only at hD
        replace hs : St [] w0 w ([(qa, Blk 56 (logCells p 3 (rs.x.take (i + 1)).length false))] ++ ([(qb, Blk 56 (logCells p 4 (qs.x.take (i + 1)).length false))] ++ (Ld ++ LR))) := hs
        refine WL_take rfl ?_
        refine s_neq rfl rfl rfl ?_
        refine WL_take rfl ?_
        refine s_pick_t rfl rfl rfl ?_
        refine s_pick_f rfl rfl rfl ?_
        refine WL_nil ?_
        refine n_then ?_
        refine W_cond_kf rfl (rfl) ?_
        refine W_skip ?_
        refine n_blk ?_
        refine n_then ?_
        refine W_region ?_
        refine s_move rfl rfl ?_
        first | (refine s_add' rfl rfl rfl ?hx ?_; case hx => (constructor <;> first | omega | (simp only; omega))) | refine s_add rfl rfl rfl ?_
        refine s_assign rfl rfl ?_
        refine WL_nil ?_
        refine n_loop ?_
        exact ⟨⟨i + 1, Ld⟩, ⟨rfl, rfl, rfl, rfl, rfl, rfl, trivial⟩, ⟨hs, hD, by simp only; omega⟩, by simp only; omega⟩
      · skip
        try simp only [decide_eq_true_eq, decide_eq_false_iff_not, gt_iff_lt] at hg93
        have htk2 : qs.x.take (i + 1) = qs.x.take i := by rw [List.take_of_length_le (by rw [Recs.x_length]; omega), List.take_of_length_le (by rw [Recs.x_length]; omega)]
        rw [← htk2] at hs hD
        refine WL_skip rfl rfl rfl ?_
        refine WL_skip rfl rfl rfl ?_
        refine WL_skip rfl rfl rfl ?_
        refine WL_skip rfl rfl rfl ?_
        refine WL_skip rfl rfl rfl ?_
        refine WL_skip rfl rfl rfl ?_
        refine WL_skip rfl rfl rfl ?_
        refine WL_take rfl ?_
        refine s_pick_f rfl rfl rfl ?_
        refine s_pick_f rfl rfl rfl ?_
        refine WL_nil ?_
        refine n_then ?_
        refine W_cond_f rfl ?_
        refine W_skip ?_
        refine n_blk ?_
        refine n_then ?_
        refine W_region ?_
        refine s_move rfl rfl ?_
        first | (refine s_add' rfl rfl rfl ?hx ?_; case hx => (constructor <;> first | omega | (simp only; omega))) | refine s_add rfl rfl rfl ?_
        refine s_assign rfl rfl ?_
        refine WL_nil ?_
        refine n_loop ?_
        exact ⟨⟨i + 1, Ld⟩, ⟨rfl, rfl, rfl, rfl, rfl, rfl, trivial⟩, ⟨hs, hD, by simp only; omega⟩, by simp only; omega⟩
    · skip
      try simp only [decide_eq_true_eq, decide_eq_false_iff_not, gt_iff_lt] at hg79
      have htk1 : rs.x.take (i + 1) = rs.x.take i := by rw [List.take_of_length_le (by rw [Recs.x_length]; omega), List.take_of_length_le (by rw [Recs.x_length]; omega)]
      rw [← htk1] at hs hD
      refine WL_skip rfl rfl rfl ?_
      refine WL_skip rfl rfl rfl ?_
      refine WL_skip rfl rfl rfl ?_
      refine WL_skip rfl rfl rfl ?_
      refine WL_skip rfl rfl rfl ?_
      refine WL_skip rfl rfl rfl ?_
      refine WL_skip rfl rfl rfl ?_
      refine s_pick_f rfl rfl rfl ?_
      refine s_move rfl rfl ?_
      refine WL_take rfl ?_
      refine s_move rfl rfl ?_
      refine WL_take rfl ?_
      refine s_move rfl rfl ?_
      refine WL_take rfl ?_
      refine s_len rfl rfl (LN27 _ _ _ _) ?_
      refine WL_take rfl ?_
      refine s_lss rfl rfl rfl ?_
      refine WL_take rfl ?_
      refine s_move rfl rfl ?_
      refine WL_case (s := 93) rfl (fun hg93 => ?_) (fun hg93 => ?_)
      · skip
        try simp only [decide_eq_true_eq, decide_eq_false_iff_not, gt_iff_lt] at hg93
        have hil2 : i < qs.length := by omega
        obtain ⟨u2, x2, hxi2, hm2, hv2, hx2⟩ := Recs.at hil2
        have hx2b := hsq2 x2 (List.mem_of_getElem? hx2)
        have htq : (qs.x.take i).length = i := by rw [List.length_take, Recs.x_length]; omega
        have htq1 : (qs.x.take i).length + 1 = (qs.x.take (i + 1)).length := by rw [List.length_take, List.length_take, Recs.x_length]; omega
        have hfr2 := frame_small hmx (n := i) (x := x2) (k := 10) (by omega) hx2b.1 (by omega)
        have hft2 := framesV_take (mx := mx) hx2
        refine WL_take rfl ?_
        refine s_move rfl rfl ?_
        refine WL_take rfl ?_
        refine s_move rfl rfl ?_
        refine WL_take rfl ?_
        refine s_move rfl rfl ?_
        refine WL_take rfl ?_
        obtain ⟨b2, o2, hA2, hc2⟩ := (OwnS_slIn hO2 (w := w) fun p hp => hs.own p (by simp [hmv2 p hp])).at hv2
        (refine s_indexAddrO El27 rfl rfl rfl hA2 ?hx ?_; case hx => (constructor <;> omega))
        refine WL_take rfl ?_
        refine s_load Try.isAgg33 rfl rfl (by rw [Int.toNat_natCast]; exact hc2) ?_
        refine WL_take rfl ?_
        have hS2 := (hin2 _ hm2).sl w fun p hp => hs.own p (by simp [hmx2 p hp])
        replace hs : St [] w0 w ([(qa, Blk 56 (logCells p 3 (rs.x.take (i + 1)).length false))] ++ (((qb, Blk 56 (logCells p 4 (qs.x.take i).length false)) :: Ld) ++ LR)) := hs
        have hap2 := RdS.apart (hin2 _ hm2) (L0 := (qb, Blk 56 (logCells p 4 (qs.x.take i).length false)) :: Ld) (fun b hb => St.apartX (M := [_]) (X := LR) hs (by obtain ⟨o, ho⟩ := mem_ids.1 hb; exact mem_ids.2 ⟨o, hmx2 _ ho⟩))
        simp only at hS2 hap2
        refine s_callL (M := [_]) (L1 := _ :: Ld) (X := LR) Try.call13 rfl rfl hs (fun h => wAppend_ok hmx qb p _ 4 (qs.x.take i).length false _ x2 Ld w hD hS2 hx2b.2 (by omega) hap2 (by omega) h) ?_
        rw [logApp_two4 (by omega) (by rw [htq]; omega), htq1]
        rw [htq, ← hft2]
        clear hs hD; rintro u w L9 ⟨Ld, rfl, hD, rfl⟩ - hs
        simp only at hD
        replace hs : St [] w0 w ([(qa, Blk 56 (logCells p 3 (rs.x.take (i + 1)).length false))] ++ ([(qb, Blk 56 (logCells p 4 (qs.x.take (i + 1)).length false))] ++ (Ld ++ LR))) := hs
        refine WL_take rfl ?_
        refine s_neq rfl rfl rfl ?_
        refine WL_take rfl ?_
        refine s_pick_t rfl rfl rfl ?_
        refine s_pick_f rfl rfl rfl ?_
        refine WL_nil ?_
        refine n_then ?_
        refine W_cond_kf rfl (rfl) ?_
        refine W_skip ?_
        refine n_blk ?_
        refine n_then ?_
        refine W_region ?_
        refine s_move rfl rfl ?_
        first | (refine s_add' rfl rfl rfl ?hx ?_; case hx => (constructor <;> first | omega | (simp only; omega))) | refine s_add rfl rfl rfl ?_
        refine s_assign rfl rfl ?_
        refine WL_nil ?_
        refine n_loop ?_
        exact ⟨⟨i + 1, Ld⟩, ⟨rfl, rfl, rfl, rfl, rfl, rfl, trivial⟩, ⟨hs, hD, by simp only; omega⟩, by simp only; omega⟩
      · skip
        try simp only [decide_eq_true_eq, decide_eq_false_iff_not, gt_iff_lt] at hg93
        have htk2 : qs.x.take (i + 1) = qs.x.take i := by rw [List.take_of_length_le (by rw [Recs.x_length]; omega), List.take_of_length_le (by rw [Recs.x_length]; omega)]
        rw [← htk2] at hs hD
        refine WL_skip rfl rfl rfl ?_
        refine WL_skip rfl rfl rfl ?_
        refine WL_skip rfl rfl rfl ?_
        refine WL_skip rfl rfl rfl ?_
        refine WL_skip rfl rfl rfl ?_
        refine WL_skip rfl rfl rfl ?_
        refine WL_skip rfl rfl rfl ?_
        refine WL_take rfl ?_
        refine s_pick_f rfl rfl rfl ?_
        refine s_pick_f rfl rfl rfl ?_
        refine WL_nil ?_
        refine n_then ?_
        refine W_cond_f rfl ?_
        refine W_skip ?_
        refine n_blk ?_
        refine n_then ?_
        refine W_region ?_
        refine s_move rfl rfl ?_
        first | (refine s_add' rfl rfl rfl ?hx ?_; case hx => (constructor <;> first | omega | (simp only; omega))) | refine s_add rfl rfl rfl ?_
        refine s_assign rfl rfl ?_
        refine WL_nil ?_
        refine n_loop ?_
        exact ⟨⟨i + 1, Ld⟩, ⟨rfl, rfl, rfl, rfl, rfl, rfl, trivial⟩, ⟨hs, hD, by simp only; omega⟩, by simp only; omega⟩
  · skip
    try simp only [decide_eq_true_eq, decide_eq_false_iff_not, gt_iff_lt] at hc72
    have hi6 : i = 6 := by omega
    subst hi6
    have hA6 := hfle 6
    have hB6 := hqle 6
    rw [List.take_of_length_le (by rw [Recs.x_length]; omega)] at hs hD hA6
    rw [List.take_of_length_le (by rw [Recs.x_length]; omega)] at hs hD hB6
    replace hs : St [] w0 w (Ld ++ LR) := hs.right.right
    refine W_exit ?_
    refine x_then ?_
    refine x_then ?_
    refine exit_hit ?_
    refine n_then ?_
    refine W_seq ?_
    refine W_region ?_
    refine s_move rfl rfl ?_
    refine s_callL (M := []) (L1 := Ld) (X := LR) Try.call20 rfl rfl hs (fun h => dCrash_ok p _ _ [] (-1) Ld w hD ⟨none, 0, rfl, Nat.le_refl _, .inl rfl⟩ (fun a m c he _ => by cases he) hneg h) ?_
    have hcs := crash_solid (D := twoDk (framesV mx 0 rs.x) (framesV mx 0 qs.x) (framesV mx 0 rs.x).length (framesV mx 0 qs.x).length) [] (-1) (fun f => by
      by_cases h3 : f = 3
      · subst h3; rfl
      · by_cases h4 : f = 4
        · subst h4; rfl
        · simp [twoDk, h3, h4])
    have hc3 := hcs 3
    have hc4 := hcs 4
    rw [(two_c _ _ _ _).1] at hc3
    rw [(two_c _ _ _ _).2.1] at hc4
    obtain ⟨E0, hE0⟩ : ∃ E0, E0 = (twoDk (framesV mx 0 rs.x) (framesV mx 0 qs.x) (framesV mx 0 rs.x).length (framesV mx 0 qs.x).length).crash [] (-1) := ⟨_, rfl⟩
    have hEo : E0.off = false ∧ E0.armed = false := by rw [hE0]; exact ⟨rfl, rfl⟩
    rw [← hE0] at hc3 hc4 ⊢
    clear hs hD hE0 hcs; rintro u w Ld hD - hs
    simp only [List.nil_append] at hs
    refine WL_nil ?_
    refine n_then ?_
    refine W_seq ?_
    refine W_seq ?_
    refine W_region ?_
    refine s_assign rfl rfl ?_
    refine WL_nil ?_
    refine n_then ?_
    refine W_block ?_
    refine W_loop (σ := WpT) (fun s => [(7, .pointer (some ⟨p, 0, none⟩)), (14, .slice av rs.length cv), (15, .slice av2 qs.length cv2), (17, .int .i64 (s.i : Int))]) (fun s w => St [] w0 w (s.L ++ LR) ∧ DiskAt p s.E s.L ∧ (s.E.off = false ∧ s.E.armed = false) ∧ s.E.c 3 = framesV mx 0 rs.x ∧ s.E.c 4 = framesV mx 0 qs.x ∧ s.i ≤ 2) (fun s => 2 - s.i) ⟨0, E0, Ld⟩ ⟨rfl, rfl, rfl, rfl, trivial⟩ ⟨hs, hD, hEo, hc3, hc4, by simp⟩ ?_
    clear hs hD hEo hc3 hc4
    rintro ⟨i, E, Ld⟩ w ⟨hs, hD, hEo, hc3, hc4, hi⟩
    simp only at hs hD hEo hc3 hc4 hi ⊢
    have hop3 : E.opened 3 (framesV mx 0 rs.x).length = E.solid := by unfold Dk.opened; rw [hc3, if_neg (by omega)]
    have hop4 : E.solid.opened 4 (framesV mx 0 qs.x).length = E.solid.solid := by unfold Dk.opened; rw [show E.solid.c 4 = _ from hc4, if_neg (by omega)]
    refine W_seq ?_
    refine W_seq ?_
    refine W_region ?_
    refine s_move rfl rfl ?_
    refine s_lss rfl rfl rfl ?_
    refine WL_nil ?_
    refine n_then ?_
    refine W_cond rfl (fun hc106 => ?_) (fun hc106 => ?_)
    · skip
      try simp only [decide_eq_true_eq, decide_eq_false_iff_not, gt_iff_lt] at hc106
      refine W_skip ?_
      refine n_then ?_
      refine W_seq ?_
      refine W_block ?_
      refine W_seq ?_
      refine W_region ?_
      refine s_move rfl rfl ?_
      refine s_callL (M := []) (L1 := Ld) (X := LR) Try.call9 rfl rfl hs (fun h => wOpenF_ok hmx p _ 3 rs.x Ld w hD (by omega) hEo.1 hEo.2 (by rw [hc3]; omega) (by rw [hc3]; exact scan_whole mx _) h) ?_
      rw [hop3]
      clear hs hD; rintro u w L9 ⟨q3, r3, u3, Lu3, Lx3, Ld, hr3, rfl, rfl, hD, hO3, hin3⟩ - hs
      replace hs : St [] w0 w (Lu3 ++ (Lx3 ++ (Ld ++ LR))) := St.reord [[_], Lu3, Lx3, Ld, LR] [1, 2, 3, 4] [0] (by simpa [cat] using hs) rfl
      obtain ⟨_, c3, a3, rfl, hv3⟩ := hO3.form
      subst hv3
      have hr3l : r3.length = rs.length := by rw [← Recs.x_length, hr3, Recs.x_length]
      refine s_move rfl rfl ?_
      refine s_extract rfl rfl rfl ?_
      refine s_extract rfl rfl rfl ?_
      refine s_extract rfl rfl rfl ?_
      refine s_assign rfl rfl ?_
      refine s_assign rfl rfl ?_
      refine s_assign rfl rfl ?_
      refine WL_nil ?_
      refine n_then ?_
      refine W_seq ?_
      refine W_region ?_
      refine s_move rfl rfl ?_
      refine s_callL (M := Lu3 ++ Lx3) (L1 := Ld) (X := LR) Try.call9 rfl rfl (by simpa using hs) (fun h => wOpenF_ok hmx p _ 4 qs.x Ld w hD (by omega) hEo.1 hEo.2 (by rw [show E.solid.c 4 = _ from hc4]; omega) (by rw [show E.solid.c 4 = _ from hc4]; exact scan_whole mx _) h) ?_
      rw [hop4]
      clear hs hD; rintro u w L9 ⟨q4, r4, u4, Lu4, Lx4, Ld, hr4, rfl, rfl, hD, hO4, hin4⟩ - hs
      replace hs : St [] w0 w (Lu3 ++ (Lx3 ++ (Lu4 ++ (Lx4 ++ (Ld ++ LR))))) := St.reord [Lu3, Lx3, [_], Lu4, Lx4, Ld, LR] [0, 1, 3, 4, 5, 6] [2] (by simpa [cat] using hs) rfl
      obtain ⟨_, c4, a4, rfl, hv4⟩ := hO4.form
      subst hv4
      have hr4l : r4.length = qs.length := by rw [← Recs.x_length, hr4, Recs.x_length]
      refine s_move rfl rfl ?_
      refine s_extract rfl rfl rfl ?_
      refine s_extract rfl rfl rfl ?_
      refine s_extract rfl rfl rfl ?_
      refine s_assign rfl rfl ?_
      refine s_assign rfl rfl ?_
      refine s_assign rfl rfl ?_
      refine WL_nil ?_
      refine n_then ?_
      refine W_seq ?_
      refine W_region ?_
      refine s_move rfl rfl ?_
      refine s_neq rfl rfl rfl ?_
      refine s_move rfl rfl ?_
      refine WL_know (s := 123) (c := false) rfl (rfl) ?_
      refine WL_take rfl ?_
      refine s_move rfl rfl ?_
      refine WL_take rfl ?_
      refine s_neq rfl rfl rfl ?_
      refine s_pick_f rfl rfl rfl ?_
      refine s_move rfl rfl ?_
      refine WL_know (s := 127) (c := false) rfl (rfl) ?_
      refine WL_take rfl ?_
      refine s_move rfl rfl ?_
      refine WL_take rfl ?_
      refine s_move rfl rfl ?_
      refine WL_take rfl ?_
      refine s_call Try.call16 rfl rfl (sameLists_ok _ _ r3 rs w (OwnS_slIn hO3 fun p hp => hs.own p (by simp [hp])) (OwnS_slIn hO fun p hp => hs.own p (by simp [hmv p hp])) (fun x hx => (hin3 x hx).sl w fun p hp => hs.own p (by simp [hp])) (fun x hx => (hin x hx).sl w fun p hp => hs.own p (by simp [hmx1 p hp])) (by omega) (fun x hx => by
        have h1 : x.2 ∈ rs.x := by rw [← hr3]; exact List.mem_map_of_mem hx
        have := (hsm2 _ h1).1
        omega)) ?_
      rintro r w ⟨hst, rfl⟩
      replace hs := hs.fwd1 hst
      clear hst
      rw [hr3]
      refine WL_take rfl ?_
      refine s_not rfl rfl ?_
      refine s_pick_f rfl rfl rfl ?_
      refine s_move rfl rfl ?_
      refine WL_know (s := 133) (c := false) rfl ((by simp)) ?_
      refine WL_take rfl ?_
      refine s_move rfl rfl ?_
      refine WL_take rfl ?_
      refine s_move rfl rfl ?_
      refine WL_take rfl ?_
      refine s_call Try.call16 rfl rfl (sameLists_ok _ _ r4 qs w (OwnS_slIn hO4 fun p hp => hs.own p (by simp [hp])) (OwnS_slIn hO2 fun p hp => hs.own p (by simp [hmv2 p hp])) (fun x hx => (hin4 x hx).sl w fun p hp => hs.own p (by simp [hp])) (fun x hx => (hin2 x hx).sl w fun p hp => hs.own p (by simp [hmx2 p hp])) (by omega) (fun x hx => by
        have h1 : x.2 ∈ qs.x := by rw [← hr4]; exact List.mem_map_of_mem hx
        have := (hsq2 _ h1).1
        omega)) ?_
      rintro r w ⟨hst, rfl⟩
      replace hs := hs.fwd1 hst
      clear hst
      rw [hr4]
      refine WL_take rfl ?_
      refine s_not rfl rfl ?_
      refine s_pick_f rfl rfl rfl ?_
      refine WL_nil ?_
      refine n_then ?_
      refine W_cond_kf rfl ((by simp)) ?_
      refine W_skip ?_
      refine n_blk ?_
      refine n_then ?_
      refine W_region ?_
      refine s_move rfl rfl ?_
      first | (refine s_add' rfl rfl rfl ?hx ?_; case hx => (constructor <;> first | omega | (simp only; omega))) | refine s_add rfl rfl rfl ?_
      refine s_assign rfl rfl ?_
      refine WL_nil ?_
      refine n_loop ?_
      exact ⟨⟨i + 1, E.solid.solid, Ld⟩, ⟨rfl, rfl, rfl, rfl, trivial⟩, ⟨hs.right.right.right.right, hD, hEo, hc3, hc4, by simp only; omega⟩, by simp only; omega⟩
    · skip
      try simp only [decide_eq_true_eq, decide_eq_false_iff_not, gt_iff_lt] at hc106
      refine W_exit ?_
      refine x_then ?_
      refine x_then ?_
      refine exit_hit ?_
      refine n_then ?_
      refine W_seq ?_
      refine W_region ?_
      refine s_call Try.call17 rfl rfl (lives_ok w) ?_
      rintro r w ⟨hst, rfl⟩
      replace hs := hs.fwd1 hst
      clear hst
      refine s_assign rfl rfl ?_
      refine WL_nil ?_
      refine n_then ?_
      refine W_ret ?_
      exact end1 rfl rfl ⟨hs.fwd, rfl⟩
end Go.Proofs.Ytkappdlbpilghaa
