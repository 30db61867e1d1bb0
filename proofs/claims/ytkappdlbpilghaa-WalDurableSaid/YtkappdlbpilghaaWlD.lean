/- WalDurable. -/
import Derived.Test.YtkappdlbpilghaaWlC
set_option linter.unusedVariables false
set_option linter.unusedSimpArgs false
namespace Go.Proofs.Ytkappdlbpilghaa
open Go.SL
/-- a proper part of a frame has no frame of that number in front -/
theorem noFrame_part {mx : Nat → Nat → Nat} (hmx : IsMix mx) {n : Nat} {x p q : List Int} (hn : n ≤ 1048576) (hx : x.length ≤ 65536) (h : frameV mx (n : Int) x = p ++ q) (hq : q ≠ []) : noFrame mx n p := by
  intro y r hp
  have hl := frame_small hmx (n := n) (x := x) (k := 65536) hn hx (by omega)
  have h1 : frameV mx (n : Int) x ++ [] = frameV mx (n : Int) y ++ (r ++ q) := by rw [List.append_nil, h, hp, List.append_assoc]
  have hy := frame_len (mx := mx) (n := (n : Int)) (x := y)
  have h2 := congrArg List.length h
  have h3 := congrArg List.length hp
  rw [List.length_append] at h2 h3
  obtain ⟨_, h4⟩ := frame_inj hmx (by unfold isI64; omega) (by omega) (by omega) h1
  exact hq (List.append_eq_nil_iff.1 h4.symm).2
theorem logApp_plan {mx : Nat → Nat → Nat} {left : Int} {F : List Int} {n : Nat} {x : List Int} (hx : x.length ≤ 65536) (hr : F.length + (frameV mx n x).length ≤ 5000) (hl : 0 ≤ left) :
    logApp mx (oneDk 5000 false true left 0 F F.length) 0 n false x = if 2 ≤ left then (oneDk 5000 false true (left - 2) 0 (F ++ frameV mx n x) (F ++ frameV mx n x).length, n + 1, false, 0) else (oneDk 5000 true false 0 0 (F ++ frameV mx n x) F.length, n, true, 18) := by
  have h1 : (oneDk 5000 false true left 0 F F.length).app 0 (frameV mx n x) = if 0 < left then (oneDk 5000 false true (left - 1) 0 (F ++ frameV mx n x) F.length, 0) else (oneDk 5000 true false left 0 (F ++ frameV mx n x) F.length, 18) := by
    rw [one_app (by omega) (by omega) (fun _ => hl), if_neg (by simp)]
  rw [logApp, if_neg (by omega), if_neg (by simp), h1]
  by_cases h0 : 0 < left
  · rw [if_pos h0]
    have h2 : (oneDk 5000 false true (left - 1) 0 (F ++ frameV mx n x) F.length).sync = if 0 < left - 1 then (oneDk 5000 false true (left - 1 - 1) 0 (F ++ frameV mx n x) (F ++ frameV mx n x).length, 0) else (oneDk 5000 true false (left - 1) 0 (F ++ frameV mx n x) F.length, 18) := by
      rw [one_sync, if_neg (by simp)]
    simp only [h2]
    by_cases h3 : 2 ≤ left
    · rw [if_pos (show 0 < left - 1 by omega), if_pos h3, show left - 1 - 1 = left - 2 by omega]; simp
    · rw [if_neg (show ¬ 0 < left - 1 by omega), if_neg h3, show left - 1 = 0 by omega]; simp
  · have h4 : ¬ 2 ≤ left := by omega
    rw [if_neg h0, if_neg h4, show left = 0 by omega]; simp
/-- the disk behind j appends, or behind a failing one -/
def durD (mx : Nat → Nat → Nat) (m : Nat) (xs : List (List Int)) (j : Nat) (bad : Bool) : Dk :=
  if bad then oneDk 5000 true false 0 0 (framesV mx 0 (xs.take (j + 1))) (framesV mx 0 (xs.take j)).length else oneDk 5000 false true ((m : Int) - 2 * j) 0 (framesV mx 0 (xs.take j)) (framesV mx 0 (xs.take j)).length
theorem framesV_mono {mx : Nat → Nat → Nat} {xs : List (List Int)} {j : Nat} : framesV mx 0 (xs.take (j + 1)) = framesV mx 0 (xs.take j) ++ (match xs[j]? with | some x => frameV mx (j : Int) x | none => []) := by
  cases h : xs[j]? with
  | some x => exact framesV_take h
  | none =>
    have : xs.length ≤ j := List.getElem?_eq_none_iff.1 h
    rw [List.take_of_length_le (by omega), List.take_of_length_le this, List.append_nil]
/-- what a crash without an inverted bit leaves -/
theorem dur_crash {mx : Nat → Nat → Nat} (hmx : IsMix mx) {m : Nat} {xs : List (List Int)} {j : Nat} {bad : Bool} (keep : Int) (hxs : xs.length ≤ 6) (hx : ∀ x ∈ xs, x.length ≤ 10) (hj : j + (if bad then 1 else 0) ≤ xs.length) :
    ∃ (lf : Int) (CB : List Int) (g : Nat), (durD mx m xs j bad).crash [keep] (-1) = oneDk 5000 false false lf 0 CB CB.length ∧ IsScan mx 0 CB (xs.take g) ∧ CB.length ≤ (framesV mx 0 (xs.take (j + 1))).length ∧ j ≤ g ∧ g ≤ j + (if bad then 1 else 0) := by
  cases bad with
  | false =>
    refine ⟨(m : Int) - 2 * j, framesV mx 0 (xs.take j), j, ?_, scan_whole mx _, by rw [framesV_mono, List.length_append]; omega, Nat.le_refl _, Nat.le_refl _⟩
    have hc : crashB [keep] (-1) (framesV mx 0 (xs.take j)) (framesV mx 0 (xs.take j)).length = framesV mx 0 (xs.take j) := by
      unfold crashB
      have h0 : keptV [keep] 0 ((framesV mx 0 (xs.take j)).length - (framesV mx 0 (xs.take j)).length) = 0 := by have := keptV_le [keep] 0 ((framesV mx 0 (xs.take j)).length - (framesV mx 0 (xs.take j)).length); omega
      rw [h0, if_neg (by omega), List.take_of_length_le (by omega)]
    simp only [durD, Bool.false_eq_true, if_false]
    rw [one_crash (by omega) (Nat.le_refl _), hc]
  | true =>
    simp only [if_true] at hj
    obtain ⟨x, hxj⟩ : ∃ x, xs[j]? = some x := ⟨_, List.getElem?_eq_getElem (by omega)⟩
    have hxl := hx x (List.mem_of_getElem? hxj)
    have hft := framesV_take (mx := mx) hxj
    obtain ⟨F, hF⟩ : ∃ F, F = framesV mx 0 (xs.take j) := ⟨_, rfl⟩
    obtain ⟨fr, hfr⟩ : ∃ fr, fr = frameV mx (j : Int) x := ⟨_, rfl⟩
    obtain ⟨k, hk⟩ : ∃ k, k = keptV [keep] 0 ((F ++ fr).length - F.length) := ⟨_, rfl⟩
    have hkl : k ≤ fr.length := by have := keptV_le [keep] 0 ((F ++ fr).length - F.length); rw [← hk, List.length_append] at this; omega
    have hc : crashB [keep] (-1) (F ++ fr) F.length = F ++ fr.take k := by
      unfold crashB
      rw [← hk, if_neg (by omega), List.take_append, List.take_of_length_le (by omega), show F.length + k - F.length = k by omega]
    have hcr : (durD mx m xs j true).crash [keep] (-1) = oneDk 5000 false false 0 0 (F ++ fr.take k) (F ++ fr.take k).length := by
      simp only [durD, if_true]
      rw [hft, ← hF, ← hfr, one_crash (by omega) (by rw [List.length_append]; omega), hc]
    have hlen : (F ++ fr.take k).length ≤ (framesV mx 0 (xs.take (j + 1))).length := by rw [hft, ← hF, ← hfr]; simp only [List.length_append, List.length_take]; omega
    by_cases hkk : k = fr.length
    · refine ⟨0, F ++ fr.take k, j + 1, hcr, ?_, hlen, by omega, by simp⟩
      rw [List.take_of_length_le (by omega), hF, hfr, ← hft]; exact scan_whole mx _
    · refine ⟨0, F ++ fr.take k, j, hcr, ⟨fr.take k, by rw [hF], ?_⟩, hlen, Nat.le_refl _, by simp⟩
      rw [List.length_take, Nat.zero_add, Nat.min_eq_left (by omega)]
      refine noFrame_part hmx (x := x) (q := fr.drop k) (by omega) (by omega) (by rw [List.take_append_drop, hfr]) ?_
      intro h
      have := congrArg List.length h
      rw [List.length_drop, List.length_nil] at this; omega
structure WdS where
  i : Nat
  j : Nat
  bad : Bool
  L : Hp
set_option maxHeartbeats 4000000 in
theorem walDurable_ok (vl vb : Value) (ls bs : List Int) (when keep : Int) (w0 : World) (hl : Sl w0 vl ls.length (i64s ls)) (hli : ∀ z ∈ ls, isI64 z) (hb : Sl w0 vb bs.length (u8s bs)) (hbb : ∀ z ∈ bs, isB z) (hwhen : isI64 when) (hkeep : isI64 keep) :
    Ret Try.prog 5 [vl, .int .i64 when, .int .i64 keep, vb].toArray w0 fun r w' => Fwd [] w0 w' ∧ r = .bool true := by
  obtain ⟨mx, hmx⟩ := isMix
  obtain ⟨b50, hb50⟩ : ∃ o7, o7 = bs.take 50 := ⟨_, rfl⟩
  have hbl : b50.length = min bs.length 50 := by rw [hb50]; simp [Nat.min_comm]
  have hbl2 : min bs.length 50 ≤ 50 := Nat.min_le_right _ _
  have hbB : ∀ z ∈ b50, isB z := fun z hz => hbb z (List.mem_of_mem_take (by rw [← hb50]; exact hz))
  have hwr := aroundV_range (m := when) (q := 13) (by omega)
  obtain ⟨m, hm⟩ : ∃ m : Nat, (m : Int) = aroundV when 13 := ⟨(aroundV when 13).toNat, by omega⟩
  have hneg : isI64 (-1) := by unfold isI64; omega
  refine Ret_start fun w hs => ?_
  refine Ret_of Try.func5 rfl Try.ntmps5 rfl ?_
  refine W_seq ?_
  refine W_region ?_
  refine s_assign rfl rfl ?_
  refine WL_nil ?_
  refine n_then ?_
  refine W_seq ?_
  refine W_region ?_
  refine s_call Try.call8 rfl rfl (fresh_ok 5000 w (by omega)) ?_
  rintro v w ⟨p, Ld, rfl, hD, hst⟩
  replace hs := (St.back0 hs hst).left
  clear hst
  rw [one_new 5000 0] at hD
  refine s_assign rfl rfl ?_
  refine WL_nil ?_
  refine n_then ?_
  refine W_seq ?_
  refine W_seq ?_
  refine W_region ?_
  refine s_move rfl rfl ?_
  refine s_eql_ptr_nil Try.underlying24 rfl rfl rfl ?_
  refine WL_nil ?_
  refine n_then ?_
  refine W_cond_kf rfl (rfl) ?_
  refine W_skip ?_
  refine n_then ?_
  refine W_seq ?_
  refine W_region ?_
  refine s_move rfl rfl ?_
  refine s_callL (M := []) (L1 := Ld) (X := []) Try.call9 rfl rfl (by simpa using hs) (fun h => wOpenF_ok hmx p _ 0 [] Ld w hD (by omega) rfl rfl (by rw [(one_c _ _ _ _ _ _ _).1]; simp) (by rw [(one_c _ _ _ _ _ _ _).1]; exact scan_whole mx []) h) ?_
  rw [one_opened (by simp [framesV])]
  clear hs hD; rintro u w L9 ⟨q, rs0, u0, Lu0, Lx0, Ld, -, rfl, rfl, hD, -, -⟩ - hs
  simp only [List.append_nil, List.nil_append] at hs
  replace hs : St [] w0 w ([_] ++ Ld) := St.reord [[_], Lu0, Lx0, Ld] [0, 3] [1, 2] hs rfl
  replace hD : DiskAt p (oneDk 5000 false false 0 0 [] 0) Ld := hD
  refine s_move rfl rfl ?_
  refine s_extract rfl rfl rfl ?_
  refine s_extract rfl rfl rfl ?_
  refine s_extract rfl rfl rfl ?_
  refine s_assign rfl rfl ?_
  refine s_assign rfl rfl ?_
  refine s_assign rfl rfl ?_
  refine WL_nil ?_
  refine n_then ?_
  refine W_seq ?_
  refine W_seq ?_
  refine W_region ?_
  refine s_move rfl rfl ?_
  refine s_eql_ptr_nil Try.underlying26 rfl rfl rfl ?_
  refine s_move rfl rfl ?_
  refine WL_know (s := 35) (c := false) rfl (rfl) ?_
  refine WL_take rfl ?_
  refine s_move rfl rfl ?_
  refine WL_take rfl ?_
  refine s_neq rfl rfl rfl ?_
  refine s_pick_f rfl rfl rfl ?_
  refine WL_nil ?_
  refine n_then ?_
  refine W_cond_kf rfl (rfl) ?_
  refine W_skip ?_
  refine n_then ?_
  refine W_seq ?_
  refine W_region ?_
  refine s_move rfl rfl ?_
  refine s_move rfl rfl ?_
  refine s_call Try.call7 rfl rfl (around_ok when 13 _ (by omega) hwhen) ?_
  rintro r w ⟨rfl, rfl⟩
  rw [← hm]
  refine s_callL (M := [_]) (L1 := Ld) (X := []) Try.call21 rfl rfl (by simpa using hs) (fun h => arm_ok p _ (m : Int) Ld w hD (by unfold isI64; omega) h) ?_
  rw [show (oneDk 5000 false false 0 0 [] 0).arm (m : Int) = oneDk 5000 false true (m : Int) 0 [] 0 by
    rw [Dk.arm, if_neg (by simp [oneDk])]
    simp [oneDk]]
  clear hs hD; rintro u w Ld hD - hs
  simp only [List.append_nil, List.nil_append, List.cons_append] at hs
  refine WL_nil ?_
  refine n_then ?_
  refine W_seq ?_
  refine W_region ?_
  refine s_move rfl rfl ?_
  refine s_call Try.call10 rfl rfl (records_ok vl ls w (hl.fwd0 hs.fwd) hli) ?_
  rintro r w ⟨rs, Lv, LX, hO, hst, hin, hsm, hrl⟩
  replace hs := (St.back0 hs hst).swap
  clear hst
  simp only [List.cons_append, List.nil_append] at hs
  obtain ⟨_, cv, av, rfl, hvl⟩ := hO.form
  subst hvl
  obtain ⟨hsm1, hsm2⟩ := hsm
  rw [Recs.x_length] at hsm1
  have hfle : ∀ k, (framesV mx 0 (rs.x.take k)).length ≤ 6 * 50 := fun k => by
    have h1 := framesV_le hmx (xs := rs.x.take k) (k := 10) (by omega) (fun x hx => (hsm2 x (List.mem_of_mem_take hx)).1) 0 (by rw [List.length_take, Recs.x_length]; omega)
    have h2 : (rs.x.take k).length ≤ 6 := by rw [List.length_take, Recs.x_length]; omega
    have h3 : (rs.x.take k).length * 50 ≤ 6 * 50 := Nat.mul_le_mul_right _ h2
    omega
  refine s_assign rfl rfl ?_
  refine WL_nil ?_
  refine n_then ?_
  refine W_seq ?_
  refine W_region ?_
  refine s_assign rfl rfl ?_
  refine WL_nil ?_
  refine n_then ?_
  refine W_seq ?_
  refine W_region ?_
  refine s_assign rfl rfl ?_
  refine WL_nil ?_
  refine n_then ?_
  refine W_seq ?_
  refine W_seq ?_
  refine W_region ?_
  refine s_assign rfl rfl ?_
  refine WL_nil ?_
  refine n_then ?_
  refine W_block ?_
  refine W_loop (σ := WdS) (fun s => [(2, .int .i64 keep), (3, vb), (9, .pointer (some ⟨p, 0, none⟩)), (10, .pointer (some ⟨q, 0, none⟩)), (13, .slice av rs.length cv), (14, .int .i64 (s.j : Int)), (15, .int .i64 ((s.j + (if s.bad then 1 else 0) : Nat) : Int)), (16, .int .i64 (s.i : Int))]) (fun s w => St [] w0 w ((q, Blk 56 (logCells p 0 s.j s.bad)) :: (s.L ++ (Lv ++ LX))) ∧ DiskAt p (durD mx m rs.x s.j s.bad) s.L ∧ s.i ≤ rs.length ∧ (s.bad = false → s.j = s.i ∧ 2 * s.j ≤ m) ∧ (s.bad = true → s.j < s.i)) (fun s => rs.length - s.i) ⟨0, 0, false, Ld⟩ ⟨rfl, rfl, rfl, rfl, rfl, rfl, rfl, rfl, trivial⟩ ⟨hs, by simpa [durD, framesV] using hD, Nat.zero_le _, fun _ => ⟨rfl, Nat.zero_le _⟩, fun h => by cases h⟩ ?_
  clear hs hD
  rintro ⟨i, j, bad, Ld⟩ w ⟨hs, hD, hi, hgo, hbd⟩
  simp only at hs hD hi hgo hbd ⊢
  refine W_seq ?_
  refine W_seq ?_
  refine W_region ?_
  refine s_move rfl rfl ?_
  refine s_move rfl rfl ?_
  refine s_len rfl rfl (LN27 _ _ _ _) ?_
  refine s_lss rfl rfl rfl ?_
  refine WL_nil ?_
  refine n_then ?_
  refine W_cond rfl (fun hc48 => ?_) (fun hc48 => ?_)
  · skip
    try simp only [decide_eq_true_eq, decide_eq_false_iff_not, gt_iff_lt, beq_iff_eq, beq_eq_false_iff_ne, ne_eq] at hc48
    have hil : i < rs.length := by omega
    obtain ⟨u1, x1, hxi, hm1, hv1, hx1⟩ := Recs.at hil
    obtain ⟨b1, o1, hA1, hc1⟩ := (OwnS_slIn hO (w := w) fun p hp => hs.own p (by simp [hp])).at hv1
    have hS1 := (hin _ hm1).sl w fun p hp => hs.own p (by simp [hp])
    have hap1 := RdS.apart (hin _ hm1) (L0 := (q, Blk 56 (logCells p 0 j bad)) :: Ld) (fun b hb => (ids_disj (A := (q, Blk 56 (logCells p 0 j bad)) :: Ld) (B := Lv) (C := LX) hs).1 b hb)
    have hx1b := hsm2 x1 (List.mem_of_getElem? hx1)
    simp only at hS1 hap1
    have hfr := frame_small hmx (n := j) (x := x1) (k := 10) (by cases bad with | false => have := hgo rfl; omega | true => have := hbd rfl; omega) hx1b.1 (by omega)
    have hfj := hfle j
    have hjn : j ≤ 1048576 := by cases bad with | false => have := hgo rfl; omega | true => have := hbd rfl; omega
    refine W_skip ?_
    refine n_then ?_
    refine W_seq ?_
    refine W_block ?_
    refine W_seq ?_
    refine W_region ?_
    refine s_move rfl rfl ?_
    refine s_move rfl rfl ?_
    refine s_move rfl rfl ?_
    (refine s_indexAddrO El27 rfl rfl rfl hA1 ?hx ?_; case hx => (constructor <;> omega))
    refine s_load Try.isAgg33 rfl rfl (by rw [Int.toNat_natCast]; exact hc1) ?_
    refine s_callL (M := []) (L1 := _ :: Ld) (X := Lv ++ LX) Try.call13 rfl rfl hs (fun h => wAppend_ok hmx q p _ 0 j bad _ x1 Ld w hD hS1 hx1b.2 hjn hap1 (by omega) h) ?_
    obtain ⟨bad2, j2, hG, hbj⟩ : ∃ (bad2 : Bool) (j2 : Nat), logApp mx (durD mx m rs.x j bad) 0 j bad x1 = (durD mx m rs.x j2 bad2, j2, bad2, if bad2 then 18 else 0) ∧ ((bad2 = false ∧ bad = false ∧ j2 = i + 1 ∧ 2 * j2 ≤ m) ∨ (bad2 = true ∧ j2 = j ∧ (bad = false → j = i) ∧ (bad = true → j < i))) := by
      cases bad with
      | true =>
        refine ⟨true, j, ?_, .inr ⟨rfl, rfl, (fun h => (by cases h)), fun _ => hbd rfl⟩⟩
        rw [logApp_down (by omega)]; simp
      | false =>
        obtain ⟨hji, hjm⟩ := hgo rfl
        subst hji
        have h1 : logApp mx (durD mx m rs.x j false) 0 j false x1 = _ := logApp_plan (mx := mx) (left := (m : Int) - 2 * j) (F := framesV mx 0 (rs.x.take j)) (n := j) (x := x1) (by omega) (by omega) (by omega)
        rw [h1, ← framesV_take hx1]
        by_cases h2 : 2 ≤ (m : Int) - 2 * j
        · refine ⟨false, j + 1, ?_, .inl ⟨rfl, rfl, rfl, by omega⟩⟩
          rw [if_pos h2]
          simp only [durD, Bool.false_eq_true, if_false]
          rw [show (m : Int) - 2 * ((j + 1 : Nat) : Int) = (m : Int) - 2 * j - 2 by omega]
        · refine ⟨true, j, ?_, .inr ⟨rfl, rfl, (fun _ => rfl), (fun h => (by cases h))⟩⟩
          rw [if_neg h2]
          simp only [durD, if_true]
    rw [hG]
    clear hs hD; rintro u w L9 ⟨Ld, rfl, hD, rfl⟩ - hs
    simp only [List.nil_append, List.cons_append] at hs hD
    refine s_eql rfl rfl rfl ?_
    refine WL_nil ?_
    refine n_then ?_
    refine W_cond rfl (fun hc57 => ?_) (fun hc57 => ?_)
    · skip
      try simp only [decide_eq_true_eq, decide_eq_false_iff_not, gt_iff_lt, beq_iff_eq, beq_eq_false_iff_ne, ne_eq] at hc57
      have hb2 : bad2 = false := by cases bad2 with | false => rfl | true => simp at hc57
      subst hb2
      obtain ⟨-, hbf, hj2, hjm⟩ | ⟨h9, -⟩ := hbj
      rotate_left
      · cases h9
      subst hbf hj2
      have hji := (hgo rfl).1
      subst hji
      refine W_seq ?_
      refine W_region ?_
      refine s_move rfl rfl ?_
      (refine s_add' rfl rfl rfl ?hx ?_; case hx => (constructor <;> omega))
      rw [show (j : Int) + 1 = ((j + 1 : Nat) : Int) by omega]
      refine s_assign rfl rfl ?_
      refine WL_nil ?_
      refine n_then ?_
      refine W_region ?_
      refine s_move rfl rfl ?_
      refine s_assign rfl rfl ?_
      refine WL_nil ?_
      refine n_blk ?_
      refine n_then ?_
      refine W_region ?_
      refine s_move rfl rfl ?_
      first | (refine s_add' rfl rfl rfl ?hx ?_; case hx => (constructor <;> first | omega | (simp only; omega))) | refine s_add rfl rfl rfl ?_
      refine s_assign rfl rfl ?_
      refine WL_nil ?_
      refine n_loop ?_
      first
        | exact ⟨⟨j + 1, j + 1, false, Ld⟩, ⟨rfl, rfl, rfl, rfl, rfl, rfl, rfl, rfl, trivial⟩, ⟨hs, hD, hil, fun _ => ⟨rfl, hjm⟩, fun h => by cases h⟩, by simp only; omega⟩
        | exact ⟨⟨i + 1, j2, true, Ld⟩, ⟨rfl, rfl, rfl, rfl, rfl, rfl, rfl, rfl, trivial⟩, ⟨hs, hD, hil, fun h => (by cases h), fun _ => by simp only; cases bad with | false => have := hb1 rfl; omega | true => have := hb3 rfl; omega⟩, by simp only; omega⟩
        | exact ⟨⟨i + 1, j2, true, Ld⟩, ⟨rfl, rfl, rfl, rfl, rfl, rfl, rfl, rfl, trivial⟩, ⟨hs, hD, hil, fun h => (by cases h), fun _ => by simp only; have := hb3 rfl; omega⟩, by simp only; omega⟩
    · skip
      try simp only [decide_eq_true_eq, decide_eq_false_iff_not, gt_iff_lt, beq_iff_eq, beq_eq_false_iff_ne, ne_eq] at hc57
      have hb2 : bad2 = true := by cases bad2 with | true => rfl | false => simp at hc57
      subst hb2
      obtain ⟨h9, -⟩ | ⟨-, hj2, hb1, hb3⟩ := hbj
      · cases h9
      subst hj2
      refine W_seq ?_
      refine W_region ?_
      refine s_move rfl rfl ?_
      refine s_move rfl rfl ?_
      refine s_eql rfl rfl rfl ?_
      refine WL_nil ?_
      refine n_then ?_
      refine W_cond rfl (fun hc63 => ?_) (fun hc63 => ?_)
      · skip
        try simp only [decide_eq_true_eq, decide_eq_false_iff_not, gt_iff_lt, beq_iff_eq, beq_eq_false_iff_ne, ne_eq] at hc63
        refine W_region ?_
        refine s_move rfl rfl ?_
        (refine s_add' rfl rfl rfl ?hx ?_; case hx => (constructor <;> omega))
        rw [show (j2 : Int) + 1 = ((j2 + 1 : Nat) : Int) by omega]
        refine s_assign rfl rfl ?_
        refine WL_nil ?_
        refine n_blk ?_
        refine n_then ?_
        refine W_region ?_
        refine s_move rfl rfl ?_
        first | (refine s_add' rfl rfl rfl ?hx ?_; case hx => (constructor <;> first | omega | (simp only; omega))) | refine s_add rfl rfl rfl ?_
        refine s_assign rfl rfl ?_
        refine WL_nil ?_
        refine n_loop ?_
        first
          | exact ⟨⟨j + 1, j + 1, false, Ld⟩, ⟨rfl, rfl, rfl, rfl, rfl, rfl, rfl, rfl, trivial⟩, ⟨hs, hD, hil, fun _ => ⟨rfl, hjm⟩, fun h => by cases h⟩, by simp only; omega⟩
          | exact ⟨⟨i + 1, j2, true, Ld⟩, ⟨rfl, rfl, rfl, rfl, rfl, rfl, rfl, rfl, trivial⟩, ⟨hs, hD, hil, fun h => (by cases h), fun _ => by simp only; cases bad with | false => have := hb1 rfl; omega | true => have := hb3 rfl; omega⟩, by simp only; omega⟩
          | exact ⟨⟨i + 1, j2, true, Ld⟩, ⟨rfl, rfl, rfl, rfl, rfl, rfl, rfl, rfl, trivial⟩, ⟨hs, hD, hil, fun h => (by cases h), fun _ => by simp only; have := hb3 rfl; omega⟩, by simp only; omega⟩
      · skip
        try simp only [decide_eq_true_eq, decide_eq_false_iff_not, gt_iff_lt, beq_iff_eq, beq_eq_false_iff_ne, ne_eq] at hc63
        have hbt : bad = true := by
          cases bad with
          | true => rfl
          | false => exact absurd (by rw [hb1 rfl]) hc63
        subst hbt
        refine W_skip ?_
        refine n_blk ?_
        refine n_then ?_
        refine W_region ?_
        refine s_move rfl rfl ?_
        first | (refine s_add' rfl rfl rfl ?hx ?_; case hx => (constructor <;> first | omega | (simp only; omega))) | refine s_add rfl rfl rfl ?_
        refine s_assign rfl rfl ?_
        refine WL_nil ?_
        refine n_loop ?_
        first
          | exact ⟨⟨j + 1, j + 1, false, Ld⟩, ⟨rfl, rfl, rfl, rfl, rfl, rfl, rfl, rfl, trivial⟩, ⟨hs, hD, hil, fun _ => ⟨rfl, hjm⟩, fun h => by cases h⟩, by simp only; omega⟩
          | exact ⟨⟨i + 1, j2, true, Ld⟩, ⟨rfl, rfl, rfl, rfl, rfl, rfl, rfl, rfl, trivial⟩, ⟨hs, hD, hil, fun h => (by cases h), fun _ => by simp only; cases bad with | false => have := hb1 rfl; omega | true => have := hb3 rfl; omega⟩, by simp only; omega⟩
          | exact ⟨⟨i + 1, j2, true, Ld⟩, ⟨rfl, rfl, rfl, rfl, rfl, rfl, rfl, rfl, trivial⟩, ⟨hs, hD, hil, fun h => (by cases h), fun _ => by simp only; have := hb3 rfl; omega⟩, by simp only; omega⟩
  · skip
    try simp only [decide_eq_true_eq, decide_eq_false_iff_not, gt_iff_lt, beq_iff_eq, beq_eq_false_iff_ne, ne_eq] at hc48
    have hii : i = rs.length := by omega
    have hjl : j + (if bad then 1 else 0) ≤ rs.length := by cases bad with | false => have := hgo rfl; simp; omega | true => have := hbd rfl; simp; omega
    have hup : (!bad) = decide ((j : Int) = (rs.length : Int)) := by
      cases bad with
      | false => have := (hgo rfl).1; simp; omega
      | true => have := hbd rfl; simp; omega
    obtain ⟨lf, CB, g, hcr, hsc, hcl, hg1, hg2⟩ := dur_crash hmx (m := m) (xs := rs.x) (j := j) (bad := bad) keep (by rw [Recs.x_length]; exact hsm1) (fun x hx => (hsm2 x hx).1) (by rw [Recs.x_length]; exact hjl)
    have hcl2 := hfle (j + 1)
    have hfg := hfle g
    have hgr : g ≤ rs.length := by omega
    have hgl : (rs.x.take g).length = g := by rw [List.length_take, Recs.x_length]; omega
    refine W_exit ?_
    refine x_then ?_
    refine x_then ?_
    refine exit_hit ?_
    refine n_then ?_
    refine W_seq ?_
    refine W_seq ?_
    refine W_region ?_
    refine s_move rfl rfl ?_
    refine s_callL (M := []) (L1 := [_]) (X := Ld ++ (Lv ++ LX)) Try.call14 rfl rfl hs (fun h => wLen_ok q p 0 j bad w h) ?_
    clear hs; rintro u w L9 ⟨rfl, rfl⟩ - hs
    simp only [List.nil_append, List.cons_append] at hs
    refine s_move rfl rfl ?_
    refine s_neq rfl rfl rfl ?_
    refine s_move rfl rfl ?_
    refine WL_know (s := 70) (c := false) rfl ((by simp)) ?_
    refine WL_take rfl ?_
    refine s_move rfl rfl ?_
    refine WL_take rfl ?_
    refine s_callL (M := []) (L1 := [_]) (X := Ld ++ (Lv ++ LX)) Try.call15 rfl rfl hs (fun h => wUp_ok q p 0 j bad w h) ?_
    clear hs; rintro u w L9 ⟨rfl, rfl⟩ - hs
    simp only [List.nil_append, List.cons_append] at hs
    rw [hup]
    refine WL_take rfl ?_
    refine s_move rfl rfl ?_
    refine WL_take rfl ?_
    refine s_move rfl rfl ?_
    refine WL_take rfl ?_
    refine s_len rfl rfl (LN27 _ _ _ _) ?_
    refine WL_take rfl ?_
    refine s_eql rfl rfl rfl ?_
    refine WL_take rfl ?_
    refine s_neq_bool Try.underlying4 rfl rfl rfl ?_
    refine s_pick_f rfl rfl rfl ?_
    refine WL_nil ?_
    refine n_then ?_
    refine W_cond_kf rfl ((by cases hq : decide ((j : Int) = (rs.length : Int)) <;> simp_all)) ?_
    refine W_skip ?_
    refine n_then ?_
    refine W_seq ?_
    refine W_region ?_
    refine s_move rfl rfl ?_
    refine s_move rfl rfl ?_
    refine s_buildSlice rfl rfl (BS22_1 _) hs ?_; clear hs; intro b81 w hs
    refine s_callL (M := [_, _]) (L1 := Ld) (X := Lv ++ LX) Try.call20 rfl rfl hs (fun h => dCrash_ok p _ _ [keep] (-1) Ld w hD (Sl_lit hs rfl) (fun a m c he _ => by cases he; exact St.notin (M := [_, _]) hs (by simp [ids])) hneg h) ?_
    rw [hcr]
    clear hs hD; rintro u w Ld hD - hs
    simp only [List.nil_append, List.cons_append] at hs
    replace hs : St [] w0 w (Ld ++ (Lv ++ LX)) := hs.tail.tail
    refine WL_nil ?_
    refine n_then ?_
    refine W_seq ?_
    refine W_region ?_
    refine s_move rfl rfl ?_
    refine s_callL (M := []) (L1 := Ld) (X := Lv ++ LX) Try.call9 rfl rfl hs (fun h => wOpenF_ok hmx p _ 0 (rs.x.take g) Ld w hD (by omega) rfl rfl (by rw [(one_c _ _ _ _ _ _ _).1]; omega) (by rw [(one_c _ _ _ _ _ _ _).1]; exact hsc) h) ?_
    rw [one_opened (scan_take hsc).1, (scan_take hsc).2, hgl]
    clear hs hD; rintro u w L9 ⟨q2, r2, u2, Lu2, Lx2, Ld, hr2, rfl, rfl, hD, hO2, hin2⟩ - hs
    replace hs : St [] w0 w ([_] ++ (Ld ++ (Lu2 ++ (Lx2 ++ (Lv ++ LX))))) := St.reord [[_], Lu2, Lx2, Ld, Lv, LX] [0, 3, 1, 2, 4, 5] [] (by simpa [cat] using hs) rfl
    simp only [List.cons_append, List.nil_append] at hs
    have hr2l : r2.length = g := by rw [← Recs.x_length, hr2, hgl]
    obtain ⟨_, c2, a2, rfl, hv2⟩ := hO2.form
    subst hv2
    obtain ⟨FG, hFG⟩ : ∃ FG, FG = framesV mx 0 (rs.x.take g) := ⟨_, rfl⟩
    rw [← hFG] at hD hfg
    refine s_move rfl rfl ?_
    refine s_extract rfl rfl rfl ?_
    refine s_extract rfl rfl rfl ?_
    refine s_extract rfl rfl rfl ?_
    refine s_assign rfl rfl ?_
    refine s_assign rfl rfl ?_
    refine s_assign rfl rfl ?_
    refine WL_nil ?_
    refine n_then ?_
    refine W_seq ?_
    refine W_seq ?_
    refine W_region ?_
    refine s_move rfl rfl ?_
    refine s_eql_ptr_nil Try.underlying26 rfl rfl rfl ?_
    refine s_move rfl rfl ?_
    refine WL_know (s := 91) (c := false) rfl (rfl) ?_
    refine WL_take rfl ?_
    refine s_move rfl rfl ?_
    refine WL_take rfl ?_
    refine s_neq rfl rfl rfl ?_
    refine s_pick_f rfl rfl rfl ?_
    refine s_move rfl rfl ?_
    refine WL_know (s := 95) (c := false) rfl (rfl) ?_
    refine WL_take rfl ?_
    refine s_move rfl rfl ?_
    refine WL_take rfl ?_
    refine s_len rfl rfl (LN27 _ _ _ _) ?_
    refine WL_take rfl ?_
    refine s_move rfl rfl ?_
    refine WL_take rfl ?_
    refine s_lss rfl rfl rfl ?_
    refine s_pick_f rfl rfl rfl ?_
    refine s_move rfl rfl ?_
    refine WL_know (s := 101) (c := false) rfl ((by simp; omega)) ?_
    refine WL_take rfl ?_
    refine s_move rfl rfl ?_
    refine WL_take rfl ?_
    refine s_len rfl rfl (LN27 _ _ _ _) ?_
    refine WL_take rfl ?_
    refine s_move rfl rfl ?_
    refine WL_take rfl ?_
    refine s_gtr rfl rfl rfl ?_
    refine s_pick_f rfl rfl rfl ?_
    refine s_move rfl rfl ?_
    refine WL_know (s := 107) (c := false) rfl ((by simp; omega)) ?_
    refine WL_take rfl ?_
    refine s_move rfl rfl ?_
    refine WL_take rfl ?_
    refine s_move rfl rfl ?_
    refine WL_take rfl ?_
    refine s_move rfl rfl ?_
    refine WL_take rfl ?_
    refine s_len rfl rfl (LN27 _ _ _ _) ?_
    refine WL_take rfl ?_
    have hcap : rs.length ≤ cv := by obtain ⟨a9, c9, h8, h9⟩ := (OwnS_slIn hO (w := w) fun p hp => hs.own p (by simp [hp])).len_le; cases h8; exact h9
    (refine s_slice_hi El27 rfl rfl rfl ?hx ?_; case hx => (constructor <;> omega))
    rw [Int.toNat_natCast]
    refine WL_take rfl ?_
    have htl : (rs.take g).length = g := by rw [List.length_take]; omega
    have hSt : Sl w (.slice av r2.length cv) (rs.take g).length (Recs.v (rs.take g)) := by
      have h1 := (OwnS_slIn hO (w := w) fun p hp => hs.own p (by simp [hp])).take (k := r2.length) (size := 1) (by omega) rfl
      rw [Nat.mul_one] at h1
      rw [Recs.v, List.map_take, htl, ← hr2l]
      exact h1
    have hxt : Recs.x (rs.take g) = rs.x.take g := by rw [Recs.x, List.map_take]; rfl
    refine s_call Try.call16 rfl rfl (sameLists_ok _ _ r2 (rs.take g) w (OwnS_slIn hO2 fun p hp => hs.own p (by simp [hp])) hSt (fun x hx => (hin2 x hx).sl w fun p hp => hs.own p (by simp [hp])) (fun x hx => (hin.take g x hx).sl w fun p hp => hs.own p (by simp [hp])) (by omega) (fun x hx => by
      have h1 : x.2 ∈ rs.x.take g := by rw [← hr2]; exact List.mem_map_of_mem hx
      have := (hsm2 _ (List.mem_of_mem_take h1)).1
      omega)) ?_
    rintro r w ⟨hst, rfl⟩
    replace hs := hs.fwd1 hst
    clear hst
    rw [hr2, hxt]
    refine WL_take rfl ?_
    refine s_not rfl rfl ?_
    refine s_pick_f rfl rfl rfl ?_
    refine s_move rfl rfl ?_
    refine WL_know (s := 116) (c := false) rfl ((by simp)) ?_
    refine WL_take rfl ?_
    refine s_move rfl rfl ?_
    refine WL_take rfl ?_
    refine s_callL (M := []) (L1 := [_]) (X := Ld ++ (Lu2 ++ (Lx2 ++ (Lv ++ LX)))) Try.call14 rfl rfl hs (fun h => wLen_ok q2 p 0 g false w h) ?_
    clear hs; rintro u w L9 ⟨rfl, rfl⟩ - hs
    simp only [List.nil_append, List.cons_append] at hs
    refine WL_take rfl ?_
    refine s_move rfl rfl ?_
    refine WL_take rfl ?_
    refine s_len rfl rfl (LN27 _ _ _ _) ?_
    refine WL_take rfl ?_
    refine s_neq rfl rfl rfl ?_
    refine s_pick_f rfl rfl rfl ?_
    refine WL_nil ?_
    refine n_then ?_
    refine W_cond_kf rfl ((by simp; omega)) ?_
    refine W_skip ?_
    refine n_then ?_
    refine W_seq ?_
    refine W_region ?_
    refine s_move rfl rfl ?_
    refine s_call Try.call19 rfl rfl (few_ok vb bs 50 w (hb.fwd0 hs.fwd) (by omega)) ?_
    rintro r w ⟨Lb, hOb, hst⟩
    replace hs : St [] w0 w ([_] ++ (Ld ++ Lb)) := St.reord [Lb, [_], Ld, Lu2, Lx2, Lv, LX] [1, 2, 0] [3, 4, 5, 6] (by simpa [cat] using St.back0 hs hst) rfl
    simp only [List.cons_append, List.nil_append] at hs
    clear hst
    rw [← hb50, ← hbl] at hOb
    obtain ⟨_, cb, ab, rfl, hbvl⟩ := hOb.form
    subst hbvl
    have hfb := frame_small hmx (n := g) (x := b50) (k := 50) (by omega) (by omega) (by omega)
    refine s_assign rfl rfl ?_
    refine WL_nil ?_
    refine n_then ?_
    refine W_seq ?_
    refine W_seq ?_
    refine W_region ?_
    refine s_move rfl rfl ?_
    refine s_move rfl rfl ?_
    refine s_callL (M := []) (L1 := _ :: Ld) (X := Lb) Try.call13 rfl rfl hs (fun h => wAppend_ok hmx q2 p _ 0 g false _ b50 Ld w hD (OwnS_slIn hOb fun p hp => hs.own p (by simp [hp])) hbB (by omega) (fun a m c he hne => by cases he; exact St.apartX (M := []) (L := _ :: Ld) (X := Lb) hs (OwnS_in hOb hne)) (by omega) h) ?_
    rw [logApp_free (by omega) (by omega) (by omega)]
    have hsn : FG ++ frameV mx (g : Int) b50 = framesV mx 0 (rs.x.take g ++ [b50]) := by rw [framesV_snoc, hgl, Nat.zero_add, ← hFG]
    have hFl : (FG ++ frameV mx (g : Int) b50).length ≤ 1000 := by rw [List.length_append]; omega
    rw [hsn] at hFl ⊢
    clear hs hD; rintro u w L9 ⟨Ld, rfl, hD, rfl⟩ - hs
    simp only [List.nil_append, List.cons_append] at hs hD
    replace hs := hs.tail
    refine s_neq rfl rfl rfl ?_
    refine WL_nil ?_
    refine n_then ?_
    refine W_cond_kf rfl (rfl) ?_
    refine W_skip ?_
    refine n_then ?_
    refine W_seq ?_
    refine W_region ?_
    refine s_move rfl rfl ?_
    refine s_callL (M := []) (L1 := Ld) (X := Lb) Try.call9 rfl rfl hs (fun h => wOpenF_ok hmx p _ 0 (rs.x.take g ++ [b50]) Ld w hD (by omega) rfl rfl (by rw [(one_c _ _ _ _ _ _ _).1]; omega) (by rw [(one_c _ _ _ _ _ _ _).1]; exact scan_whole mx _) h) ?_
    clear hs hD; rintro u w L9 ⟨q3, r3, u3, Lu3, Lx3, Ld3, hr3, rfl, rfl, hD, hO3, hin3⟩ - hs
    simp only [List.append_nil, List.nil_append, List.cons_append, List.append_assoc] at hs
    have hr3l : r3.length = g + 1 := by rw [← Recs.x_length, hr3, List.length_append, hgl]; rfl
    obtain ⟨_, c3, a3, rfl, hv3⟩ := hO3.form
    subst hv3
    obtain ⟨u9, x9, hx9i, hm9, hv9, hx9⟩ := Recs.at (rs := r3) (i := g) (by omega)
    have hx9e : x9 = b50 := by
      rw [hr3, List.getElem?_append_right (by omega), hgl, Nat.sub_self] at hx9
      exact (Option.some.inj hx9).symm
    subst hx9e
    refine s_move rfl rfl ?_
    refine s_extract rfl rfl rfl ?_
    refine s_extract rfl rfl rfl ?_
    refine s_extract rfl rfl rfl ?_
    refine s_assign rfl rfl ?_
    refine s_assign rfl rfl ?_
    refine s_assign rfl rfl ?_
    refine WL_nil ?_
    refine n_then ?_
    refine W_seq ?_
    refine W_region ?_
    refine s_move rfl rfl ?_
    refine s_eql rfl rfl rfl ?_
    refine s_move rfl rfl ?_
    refine WL_know (s := 137) (c := true) rfl (rfl) ?_
    refine WL_take rfl ?_
    refine s_move rfl rfl ?_
    refine WL_take rfl ?_
    refine s_len rfl rfl (LN27 _ _ _ _) ?_
    refine WL_take rfl ?_
    refine s_move rfl rfl ?_
    refine WL_take rfl ?_
    refine s_len rfl rfl (LN27 _ _ _ _) ?_
    refine WL_take rfl ?_
    first | (refine s_add' rfl rfl rfl ?hx ?_; case hx => (constructor <;> first | omega | (simp only; omega))) | refine s_add rfl rfl rfl ?_
    refine WL_take rfl ?_
    refine s_eql rfl rfl rfl ?_
    refine s_pick_t rfl rfl rfl ?_
    refine s_move rfl rfl ?_
    refine WL_know (s := 145) (c := true) rfl ((by simp; omega)) ?_
    refine WL_take rfl ?_
    refine s_move rfl rfl ?_
    refine WL_take rfl ?_
    refine s_move rfl rfl ?_
    refine WL_take rfl ?_
    refine s_len rfl rfl (LN27 _ _ _ _) ?_
    refine WL_take rfl ?_
    obtain ⟨b9, o9, hA9, hc9⟩ := (OwnS_slIn hO3 (w := w) fun p hp => hs.own p (by simp [hp])).at hv9
    (refine s_indexAddrO El27 rfl rfl rfl hA9 ?hx ?_; case hx => (constructor <;> omega))
    refine WL_take rfl ?_
    refine s_load Try.isAgg33 rfl rfl (by rw [Int.toNat_natCast, hr2l]; exact hc9) ?_
    refine WL_take rfl ?_
    refine s_move rfl rfl ?_
    refine WL_take rfl ?_
    refine s_call Try.call22 rfl rfl (sameBytes_ok _ _ x9 x9 w ((hin3 _ hm9).sl w fun p hp => hs.own p (by simp [hp])) (OwnS_slIn hOb fun p hp => hs.own p (by simp [hp])) (by omega)) ?_
    rintro r w ⟨hst, rfl⟩
    replace hs := hs.fwd1 hst
    clear hst
    refine s_pick_t rfl rfl rfl ?_
    refine s_move rfl rfl ?_
    refine WL_know (s := 154) (c := true) rfl ((by simp)) ?_
    refine WL_take rfl ?_
    refine s_call Try.call17 rfl rfl (lives_ok w) ?_
    rintro r w ⟨hst, rfl⟩
    replace hs := hs.fwd1 hst
    clear hst
    refine s_pick_t rfl rfl rfl ?_
    refine s_assign rfl rfl ?_
    refine WL_nil ?_
    refine n_then ?_
    refine W_ret ?_
    exact end1 rfl rfl ⟨hs.fwd, rfl⟩
end Go.Proofs.Ytkappdlbpilghaa
