/- WalClaims. -/
import Derived.Test.YtgppcfgnhahnaaaDoorWlB
import Derived.Test.YtgppcfgnhahnaaaDoorCoG
set_option linter.unusedVariables false
set_option linter.unusedSimpArgs false
namespace Go.Proofs.YtgppcfgnhahnaaaDoor
open Go.SL
/-- a proper part of a frame has no frame of that number in front -/
theorem noFrame_part {mx : Nat → Nat → Nat} (hmx : IsMix mx) {n : Nat} {x p q : List Int} (hn : n ≤ 1048576) (hx : x.length ≤ 65536) (h : frameV mx (n : Int) x = p ++ q) (hq : q ≠ []) : noFrame mx n p := by
  intro y r hp
  have hl := frame_small hmx (n := n) (x := x) (k := 65536) hn hx (by omega)
  have h1 : frameV mx (n : Int) x ++ [] = frameV mx (n : Int) y ++ (r ++ q) := by rw [List.append_nil, h, hp, List.append_assoc]
  have hy := frame_len (mx := mx) (n := (n : Int)) (x := y)
  have h2 := congrArg List.length h
  have h3 := congrArg List.length hp
  rw [List.length_append] at h2 h3
  obtain ⟨_, h4⟩ := frame_inj hmx (by unfold isI64; omega) (by omega) (by omega) h1
  exact hq (List.append_eq_nil_iff.1 h4.symm).2
theorem logApp_planC {mx : Nat → Nat → Nat} {left : Int} {F : List Int} {n : Nat} {x : List Int} (hx : x.length ≤ 65536) (hr : F.length + (frameV mx n x).length ≤ 20000) (hl : 0 ≤ left) :
    logApp mx (oneDk 20000 false true left 1 F F.length) 1 n false x = if 2 ≤ left then (oneDk 20000 false true (left - 2) 1 (F ++ frameV mx n x) (F ++ frameV mx n x).length, n + 1, false, 0) else (oneDk 20000 true false 0 1 (F ++ frameV mx n x) F.length, n, true, 18) := by
  have h1 : (oneDk 20000 false true left 1 F F.length).app 1 (frameV mx n x) = if 0 < left then (oneDk 20000 false true (left - 1) 1 (F ++ frameV mx n x) F.length, 0) else (oneDk 20000 true false left 1 (F ++ frameV mx n x) F.length, 18) := by
    rw [one_app (by omega) (by omega) (fun _ => hl), if_neg (by simp)]
  rw [logApp, if_neg (by omega), if_neg (by simp), h1]
  by_cases h0 : 0 < left
  · rw [if_pos h0]
    have h2 : (oneDk 20000 false true (left - 1) 1 (F ++ frameV mx n x) F.length).sync = if 0 < left - 1 then (oneDk 20000 false true (left - 1 - 1) 1 (F ++ frameV mx n x) (F ++ frameV mx n x).length, 0) else (oneDk 20000 true false (left - 1) 1 (F ++ frameV mx n x) F.length, 18) := by
      rw [one_sync, if_neg (by simp)]
    simp only [h2]
    by_cases h3 : 2 ≤ left
    · rw [if_pos (show 0 < left - 1 by omega), if_pos h3, show left - 1 - 1 = left - 2 by omega]; simp
    · rw [if_neg (show ¬ 0 < left - 1 by omega), if_neg h3, show left - 1 = 0 by omega]; simp
  · have h4 : ¬ 2 ≤ left := by omega
    rw [if_neg h0, if_neg h4, show left = 0 by omega]; simp
/-- the disk behind j appends, or behind a failing one -/
def durC (mx : Nat → Nat → Nat) (m : Nat) (xs : List (List Int)) (j : Nat) (bad : Bool) : Dk :=
  if bad then oneDk 20000 true false 0 1 (framesV mx 0 (xs.take (j + 1))) (framesV mx 0 (xs.take j)).length else oneDk 20000 false true ((m : Int) - 2 * j) 1 (framesV mx 0 (xs.take j)) (framesV mx 0 (xs.take j)).length
theorem framesV_mono {mx : Nat → Nat → Nat} {xs : List (List Int)} {j : Nat} : framesV mx 0 (xs.take (j + 1)) = framesV mx 0 (xs.take j) ++ (match xs[j]? with | some x => frameV mx (j : Int) x | none => []) := by
  cases h : xs[j]? with
  | some x => exact framesV_take h
  | none =>
    have : xs.length ≤ j := List.getElem?_eq_none_iff.1 h
    rw [List.take_of_length_le (by omega), List.take_of_length_le this, List.append_nil]
/-- what a crash without an inverted bit leaves -/
theorem dur_crashC {mx : Nat → Nat → Nat} (hmx : IsMix mx) {m : Nat} {xs : List (List Int)} {j : Nat} {bad : Bool} (keep : Int) (hxs : xs.length ≤ 6) (hx : ∀ x ∈ xs, x.length ≤ 65536) (hj : j + (if bad then 1 else 0) ≤ xs.length) :
    ∃ (lf : Int) (CB : List Int) (g : Nat), (durC mx m xs j bad).crash [keep] (-1) = oneDk 20000 false false lf 1 CB CB.length ∧ IsScan mx 0 CB (xs.take g) ∧ CB.length ≤ (framesV mx 0 (xs.take (j + 1))).length ∧ j ≤ g ∧ g ≤ j + (if bad then 1 else 0) := by
  cases bad with
  | false =>
    refine ⟨(m : Int) - 2 * j, framesV mx 0 (xs.take j), j, ?_, scan_whole mx _, by rw [framesV_mono, List.length_append]; omega, Nat.le_refl _, Nat.le_refl _⟩
    have hc : crashB [keep] (-1) (framesV mx 0 (xs.take j)) (framesV mx 0 (xs.take j)).length = framesV mx 0 (xs.take j) := by
      unfold crashB
      have h0 : keptV [keep] 0 ((framesV mx 0 (xs.take j)).length - (framesV mx 0 (xs.take j)).length) = 0 := by have := keptV_le [keep] 0 ((framesV mx 0 (xs.take j)).length - (framesV mx 0 (xs.take j)).length); omega
      rw [h0, if_neg (by omega), List.take_of_length_le (by omega)]
    simp only [durC, Bool.false_eq_true, if_false]
    rw [one_crash (by omega) (Nat.le_refl _), hc]
  | true =>
    simp only [if_true] at hj
    obtain ⟨x, hxj⟩ : ∃ x, xs[j]? = some x := ⟨_, List.getElem?_eq_getElem (by omega)⟩
    have hxl := hx x (List.mem_of_getElem? hxj)
    have hft := framesV_take (mx := mx) hxj
    obtain ⟨F, hF⟩ : ∃ F, F = framesV mx 0 (xs.take j) := ⟨_, rfl⟩
    obtain ⟨fr, hfr⟩ : ∃ fr, fr = frameV mx (j : Int) x := ⟨_, rfl⟩
    obtain ⟨k, hk⟩ : ∃ k, k = keptV [keep] 0 ((F ++ fr).length - F.length) := ⟨_, rfl⟩
    have hkl : k ≤ fr.length := by have := keptV_le [keep] 0 ((F ++ fr).length - F.length); rw [← hk, List.length_append] at this; omega
    have hc : crashB [keep] (-1) (F ++ fr) F.length = F ++ fr.take k := by
      unfold crashB
      rw [← hk, if_neg (by omega), List.take_append, List.take_of_length_le (by omega), show F.length + k - F.length = k by omega]
    have hcr : (durC mx m xs j true).crash [keep] (-1) = oneDk 20000 false false 0 1 (F ++ fr.take k) (F ++ fr.take k).length := by
      simp only [durC, if_true]
      rw [hft, ← hF, ← hfr, one_crash (by omega) (by rw [List.length_append]; omega), hc]
    have hlen : (F ++ fr.take k).length ≤ (framesV mx 0 (xs.take (j + 1))).length := by rw [hft, ← hF, ← hfr]; simp only [List.length_append, List.length_take]; omega
    by_cases hkk : k = fr.length
    · refine ⟨0, F ++ fr.take k, j + 1, hcr, ?_, hlen, by omega, by simp⟩
      rw [List.take_of_length_le (by omega), hF, hfr, ← hft]; exact scan_whole mx _
    · refine ⟨0, F ++ fr.take k, j, hcr, ⟨fr.take k, by rw [hF], ?_⟩, hlen, Nat.le_refl _, by simp⟩
      rw [List.length_take, Nat.zero_add, Nat.min_eq_left (by omega)]
      refine noFrame_part hmx (x := x) (q := fr.drop k) (by omega) (by omega) (by rw [List.take_append_drop, hfr]) ?_
      intro h
      have := congrArg List.length h
      rw [List.length_drop, List.length_nil] at this; omega
/-- the bytes of a list of claims -/
def encX (c : List Cl) : List Int := pk (encB c)
theorem encX_isB (c : List Cl) : ∀ b ∈ encX c, isB b := by
  intro b hb
  obtain ⟨j, _, rfl⟩ := List.mem_map.1 hb
  have := byteAt_lt (encB c) j
  unfold isB; omega
theorem encX_len {c : List Cl} (h : c.length ≤ 9) : (encX c).length ≤ 330 := by
  have h1 := encB_length c; have h2 := pk_length (encB c); unfold encX; omega
theorem frames4 {mx : Nat → Nat → Nat} (hmx : IsMix mx) {xs : List (List Int)} (hl : xs.length = 4) (hb : ∀ x ∈ xs, x.length ≤ 330) (k : Nat) : (framesV mx 0 (xs.take k)).length ≤ 1480 := by
  have h2 : (xs.take k).length ≤ 4 := by rw [List.length_take]; omega
  have h1 := framesV_le hmx (xs := xs.take k) (k := 330) (by omega) (fun x hx => hb x (List.mem_of_mem_take hx)) 0 (by omega)
  have h3 : (xs.take k).length * (330 + 40) ≤ 4 * (330 + 40) := Nat.mul_le_mul_right _ h2
  exact Nat.le_trans h1 h3
structure WcS where
  i : Nat
  j : Nat
  bad : Bool
  L : Hp
set_option maxHeartbeats 4000000 in
theorem walClaims_ok (vl vm : Value) (ls ms : List Int) (when keep : Int) (w0 : World) (hg : Wd w0) (hl : Sl w0 vl ls.length (i64s ls)) (hli : ∀ z ∈ ls, isI64 z) (hll : ls.length ≤ 4611686018427387904) (hm : Sl w0 vm ms.length (i64s ms)) (hmi : ∀ z ∈ ms, isI64 z) (hml : ms.length ≤ 4611686018427387904) (hwhen : isI64 when) (hkeep : isI64 keep) :
    Ret Tryd.prog 3 [vl, vm, .int .i64 when, .int .i64 keep].toArray w0 fun r w' => Fwd [] w0 w' ∧ r = .bool true := by
  obtain ⟨mx, hmx⟩ := isMix
  have hwr := aroundV_range (m := when) (q := 9) (by omega)
  obtain ⟨m, hm9⟩ : ∃ m : Nat, (m : Int) = aroundV when 9 := ⟨(aroundV when 9).toNat, by omega⟩
  have hneg : isI64 (-1) := by unfold isI64; omega
  refine Ret_start fun w hs => ?_
  refine Ret_of Tryd.func3 rfl Tryd.ntmps3 rfl ?_
  refine W_seq ?_
  refine W_region ?_
  refine s_assign rfl rfl ?_
  refine WL_nil ?_
  refine n_then ?_
  refine W_seq ?_
  refine W_region ?_
  refine s_call Tryd.call4 rfl rfl (fresh_ok 20000 w (by omega)) ?_
  rintro v w ⟨p, Ld, rfl, hD, hst⟩
  replace hs := (St.back0 hs hst).left
  clear hst
  rw [one_new 20000 1] at hD
  refine s_assign rfl rfl ?_
  refine WL_nil ?_
  refine n_then ?_
  refine W_seq ?_
  refine W_seq ?_
  refine W_region ?_
  refine s_move rfl rfl ?_
  refine s_eql_ptr_nil Tryd.underlying23 rfl rfl rfl ?_
  refine WL_nil ?_
  refine n_then ?_
  refine W_cond_kf rfl (rfl) ?_
  refine W_skip ?_
  refine n_then ?_
  refine W_seq ?_
  refine W_region ?_
  refine s_move rfl rfl ?_
  refine s_callL (M := []) (L1 := Ld) (X := []) Tryd.call5 rfl rfl (by simpa using hs) (fun h => wOpenF_ok hmx p _ 1 [] Ld w hD (by omega) rfl rfl (by rw [(one_c _ _ _ _ _ _ _).1]; simp) (by rw [(one_c _ _ _ _ _ _ _).1]; exact scan_whole mx []) h) ?_
  rw [one_opened (by simp [framesV])]
  clear hs hD; rintro u w L9 ⟨q, rs0, u0, Lu0, Lx0, Ld, -, rfl, rfl, hD, -, -⟩ - hs
  simp only [List.append_nil, List.nil_append] at hs
  replace hs : St [] w0 w ([_] ++ Ld) := St.reord [[_], Lu0, Lx0, Ld] [0, 3] [1, 2] hs rfl
  replace hD : DiskAt p (oneDk 20000 false false 0 1 [] 0) Ld := hD
  refine s_move rfl rfl ?_
  refine s_extract rfl rfl rfl ?_
  refine s_extract rfl rfl rfl ?_
  refine s_extract rfl rfl rfl ?_
  refine s_assign rfl rfl ?_
  refine s_assign rfl rfl ?_
  refine s_assign rfl rfl ?_
  refine WL_nil ?_
  refine n_then ?_
  refine W_seq ?_
  refine W_seq ?_
  refine W_region ?_
  refine s_move rfl rfl ?_
  refine s_eql_ptr_nil Tryd.underlying25 rfl rfl rfl ?_
  refine s_move rfl rfl ?_
  refine WL_know (s := 35) (c := false) rfl (rfl) ?_
  refine WL_take rfl ?_
  refine s_move rfl rfl ?_
  refine WL_take rfl ?_
  refine s_neq rfl rfl rfl ?_
  refine s_pick_f rfl rfl rfl ?_
  refine WL_nil ?_
  refine n_then ?_
  refine W_cond_kf rfl (rfl) ?_
  refine W_skip ?_
  refine n_then ?_
  refine W_seq ?_
  refine W_region ?_
  refine s_move rfl rfl ?_
  refine s_call Tryd.call6 rfl rfl (genClaims_ok vl ls w (hl.fwd0 hs.fwd) hli hll) ?_
  rintro u w ⟨c0, Lc0, hO0, hst, hok0, hcl0⟩
  replace hs := St.back0 hs hst
  clear hst
  obtain ⟨_, k0, a0, rfl, hv0⟩ := hO0.form
  subst hv0
  refine s_move rfl rfl ?_
  refine s_call Tryd.call6 rfl rfl (genClaims_ok vm ms w (hm.fwd0 hs.fwd) hmi hml) ?_
  rintro u w ⟨c1, Lc1, hO1, hst, hok1, hcl1⟩
  replace hs := St.back0 hs hst
  clear hst
  obtain ⟨_, k1, a1, rfl, hv1⟩ := hO1.form
  subst hv1
  refine s_move rfl rfl ?_
  refine s_call Tryd.call6 rfl rfl (genClaims_ok vl ls w (hl.fwd0 hs.fwd) hli hll) ?_
  rintro u w ⟨c3, Lc3, hO3, hst, hok3, hcl3⟩
  replace hs := St.back0 hs hst
  clear hst
  obtain ⟨_, k3, a3, rfl, hv3⟩ := hO3.form
  subst hv3
  obtain ⟨LX, hLX⟩ : ∃ LX, LX = Lc3 ++ (Lc1 ++ Lc0) := ⟨_, rfl⟩
  replace hs : St [] w0 w (LX ++ ([(q, Blk 53 (logCells p 1 0 false))] ++ Ld)) := by rw [hLX]; simpa using hs
  obtain ⟨vs, hvs⟩ : ∃ vs, vs = [Value.slice a0 c0.length k0, .slice a1 c1.length k1, .slice none 0 0, .slice a3 c3.length k3] := ⟨_, rfl⟩
  obtain ⟨cs, hcs⟩ : ∃ cs, cs = [c0, c1, [], c3] := ⟨_, rfl⟩
  have hall : ∀ i, i < 4 → ∃ u c, vs[i]? = some u ∧ cs[i]? = some c ∧ (∀ x ∈ c, x.ok) ∧ c.length ≤ 9 ∧ ∀ w', (∀ q ∈ LX, w'.heap[q.1]? = some q.2) → Sl w' u c.length (cls c) := by
    intro i hi
    rw [hvs, hcs, hLX]
    match i, hi with
    | 0, _ => exact ⟨_, c0, rfl, rfl, hok0, hcl0, fun w' h => OwnS_slIn hO0 fun q hq => h q (by simp [hq])⟩
    | 1, _ => exact ⟨_, c1, rfl, rfl, hok1, hcl1, fun w' h => OwnS_slIn hO1 fun q hq => h q (by simp [hq])⟩
    | 2, _ => exact ⟨_, [], rfl, rfl, by simp, by simp, fun w' h => ⟨none, 0, rfl, Nat.le_refl _, .inl rfl⟩⟩
    | 3, _ => exact ⟨_, c3, rfl, rfl, hok3, hcl3, fun w' h => OwnS_slIn hO3 fun q hq => h q (by simp [hq])⟩
  obtain ⟨xs, hxs⟩ : ∃ xs, xs = cs.map encX := ⟨_, rfl⟩
  have hxl : xs.length = 4 := by rw [hxs, hcs]; rfl
  have hxb : ∀ x ∈ xs, x.length ≤ 330 := by
    intro x hx
    rw [hxs] at hx
    obtain ⟨c, hc, rfl⟩ := List.mem_map.1 hx
    obtain ⟨i, hi⟩ := List.getElem?_of_mem hc
    have hi4 : i < 4 := by have := (List.getElem?_eq_some_iff.1 hi).1; rw [hcs] at this; exact this
    obtain ⟨u, c', _, h2, _, h3, _⟩ := hall i hi4
    rw [hi] at h2
    rw [Option.some.inj h2]; exact encX_len h3
  refine s_buildSlice rfl rfl (BS32_4 _ _ _ _ _ _ _ _ _ _ _ _) hs ?_; clear hs; intro b45 w hs
  replace hs : St [] w0 w ((b45, Blk 30 vs) :: (LX ++ ([(q, Blk 53 (logCells p 1 0 false))] ++ Ld))) := by rw [hvs]; exact hs
  clear hLX hvs
  have hfle := frames4 hmx hxl hxb
  refine s_assign rfl rfl ?_
  refine WL_nil ?_
  refine n_then ?_
  refine W_seq ?_
  refine W_region ?_
  refine s_move rfl rfl ?_
  refine s_move rfl rfl ?_
  refine s_call Tryd.call8 rfl rfl (around_ok when 9 _ (by omega) hwhen) ?_
  rintro r w ⟨rfl, rfl⟩
  rw [← hm9]
  refine s_callL (M := [_] ++ (LX ++ [_])) (L1 := Ld) (X := []) Tryd.call7 rfl rfl (by simpa using hs) (fun h => arm_ok p _ (m : Int) Ld w hD (by unfold isI64; omega) h) ?_
  rw [show (oneDk 20000 false false 0 1 [] 0).arm (m : Int) = oneDk 20000 false true (m : Int) 1 [] 0 by
    rw [Dk.arm, if_neg (by simp [oneDk])]
    simp [oneDk]]
  clear hs hD; rintro u w Ld hD - hs
  replace hs : St [] w0 w ([_] ++ (Ld ++ ([_] ++ LX))) := St.reord [[_], LX, [_], Ld] [2, 3, 0, 1] [] (by simpa [cat] using hs) rfl
  simp only [List.cons_append, List.nil_append] at hs
  refine WL_nil ?_
  refine n_then ?_
  refine W_seq ?_
  refine W_region ?_
  refine s_assign rfl rfl ?_
  refine WL_nil ?_
  refine n_then ?_
  refine W_seq ?_
  refine W_seq ?_
  refine W_region ?_
  refine s_assign rfl rfl ?_
  refine WL_nil ?_
  refine n_then ?_
  refine W_block ?_
  refine W_loop (σ := WcS) (fun s => [(3, .int .i64 keep), (9, .pointer (some ⟨p, 0, none⟩)), (10, .pointer (some ⟨q, 0, none⟩)), (13, .slice (some ⟨b45, 0, none⟩) 4 4), (14, .int .i64 (s.j : Int)), (15, .int .i64 (s.i : Int))]) (fun s w => St [] w0 w ((q, Blk 53 (logCells p 1 s.j s.bad)) :: (s.L ++ ((b45, Blk 30 vs) :: LX))) ∧ DiskAt p (durC mx m xs s.j s.bad) s.L ∧ s.i ≤ 4 ∧ (s.bad = false → s.j = s.i ∧ 2 * s.j ≤ m) ∧ (s.bad = true → s.j < s.i)) (fun s => 4 - s.i) ⟨0, 0, false, Ld⟩ ⟨rfl, rfl, rfl, rfl, rfl, rfl, trivial⟩ ⟨hs, by simpa [durC, framesV] using hD, Nat.zero_le _, fun _ => ⟨rfl, Nat.zero_le _⟩, fun h => by cases h⟩ ?_
  clear hs hD
  rintro ⟨i, j, bad, Ld⟩ w ⟨hs, hD, hi, hgo, hbd⟩
  simp only at hs hD hi hgo hbd ⊢
  refine W_seq ?_
  refine W_seq ?_
  refine W_region ?_
  refine s_move rfl rfl ?_
  refine s_lss rfl rfl rfl ?_
  refine WL_nil ?_
  refine n_then ?_
  refine W_cond rfl (fun hc51 => ?_) (fun hc51 => ?_)
  · skip
    try simp only [decide_eq_true_eq, decide_eq_false_iff_not, gt_iff_lt, beq_iff_eq, beq_eq_false_iff_ne, ne_eq] at hc51
    have hil : i < 4 := by omega
    obtain ⟨u1, c1', hv1', hc1', hok1', hcl1', hsl1⟩ := hall i hil
    have hx1 : xs[i]? = some (encX c1') := by rw [hxs, List.getElem?_map, hc1']; rfl
    have hx1l := encX_len hcl1'
    have hfr := frame_small hmx (n := j) (x := encX c1') (k := 330) (by cases bad with | false => have := hgo rfl; omega | true => have := hbd rfl; omega) hx1l (by omega)
    have hfj := hfle j
    have hjn : j ≤ 1048576 := by cases bad with | false => have := hgo rfl; omega | true => have := hbd rfl; omega
    have hpos : (b45, Blk 30 vs) ∈ ((q, Blk 53 (logCells p 1 j bad)) :: (Ld ++ ((b45, Blk 30 vs) :: LX))) := by simp
    obtain ⟨k45, hk45⟩ := List.getElem?_of_mem hpos
    refine W_skip ?_
    refine n_then ?_
    refine W_seq ?_
    refine W_block ?_
    refine W_seq ?_
    refine W_region ?_
    refine s_move rfl rfl ?_
    refine s_move rfl rfl ?_
    (refine s_indexAddr1 El32 rfl rfl rfl ?hx ?_; case hx => (constructor <;> omega))
    refine s_load Tryd.isAgg30 rfl rfl (hs.cell (k := k45) hk45 (by rw [Nat.zero_add, Int.toNat_natCast]; exact hv1')) ?_
    refine s_call Tryd.call9 rfl rfl (coEncode_ok u1 c1' w (hg.st hs (by simp)) (hsl1 w fun q hq => hs.own q (by simp [hq])) hok1' (by omega)) ?_
    rintro r w ⟨ub, Lb, rfl, hOb, hst⟩
    replace hs := St.back0 hs hst
    clear hst
    replace hOb : OwnS 5 1 ub (encX c1').length (u8s (encX c1')) Lb := hOb
    obtain ⟨_, kb, ab, rfl, hvb⟩ := hOb.form
    subst hvb
    replace hs : St [] w0 w ([] ++ ((_ :: Ld) ++ (Lb ++ (_ :: LX)))) := St.reord [Lb, _ :: Ld, _ :: LX] [1, 0, 2] [] (by simpa [cat] using hs) rfl
    refine s_move rfl rfl ?_
    refine s_extract rfl rfl rfl ?_
    refine s_extract rfl rfl rfl ?_
    refine s_assign rfl rfl ?_
    refine s_assign rfl rfl ?_
    refine WL_nil ?_
    refine n_then ?_
    refine W_seq ?_
    refine W_region ?_
    refine s_move rfl rfl ?_
    refine s_move rfl rfl ?_
    refine s_callL (M := []) (L1 := _ :: Ld) (X := Lb ++ (_ :: LX)) Tryd.call10 rfl rfl hs (fun h => wAppend_ok hmx q p _ 1 j bad _ (encX c1') Ld w hD (OwnS_slIn hOb fun q hq => hs.own q (by simp [hq])) (encX_isB _) hjn (fun a m c he hne => by cases he; exact St.apartX (M := []) (L := _ :: Ld) (X := Lb ++ (_ :: LX)) hs (by rw [ids_append]; exact List.mem_append_left _ (OwnS_in hOb hne))) (by omega) h) ?_
    obtain ⟨bad2, j2, hG, hbj⟩ : ∃ (bad2 : Bool) (j2 : Nat), logApp mx (durC mx m xs j bad) 1 j bad (encX c1') = (durC mx m xs j2 bad2, j2, bad2, if bad2 then 18 else 0) ∧ ((bad2 = false ∧ bad = false ∧ j2 = i + 1 ∧ 2 * j2 ≤ m) ∨ (bad2 = true ∧ j2 = j ∧ (bad = false → j = i) ∧ (bad = true → j < i))) := by
      cases bad with
      | true =>
        refine ⟨true, j, ?_, .inr ⟨rfl, rfl, (fun h => (by cases h)), fun _ => hbd rfl⟩⟩
        rw [logApp_down (by omega)]; simp
      | false =>
        obtain ⟨hji, hjm⟩ := hgo rfl
        subst hji
        have h1 : logApp mx (durC mx m xs j false) 1 j false (encX c1') = _ := logApp_planC (mx := mx) (left := (m : Int) - 2 * j) (F := framesV mx 0 (xs.take j)) (n := j) (x := encX c1') (by omega) (by omega) (by omega)
        rw [h1, ← framesV_take hx1]
        by_cases h2 : 2 ≤ (m : Int) - 2 * j
        · refine ⟨false, j + 1, ?_, .inl ⟨rfl, rfl, rfl, by omega⟩⟩
          rw [if_pos h2]
          simp only [durC, Bool.false_eq_true, if_false]
          rw [show (m : Int) - 2 * ((j + 1 : Nat) : Int) = (m : Int) - 2 * j - 2 by omega]
        · refine ⟨true, j, ?_, .inr ⟨rfl, rfl, (fun _ => rfl), (fun h => (by cases h))⟩⟩
          rw [if_neg h2]
          simp only [durC, if_true]
    rw [hG]
    clear hs hD; rintro u w L9 ⟨Ld, rfl, hD, rfl⟩ - hs
    simp only [List.nil_append, List.cons_append] at hs hD
    replace hs : St [] w0 w ((_ :: Ld) ++ (_ :: LX)) := St.reord [_ :: Ld, Lb, _ :: LX] [0, 2] [1] (by simpa [cat] using hs) rfl
    simp only [List.cons_append] at hs
    refine s_eql rfl rfl rfl ?_
    refine WL_nil ?_
    refine n_then ?_
    refine W_cond rfl (fun hc65 => ?_) (fun hc65 => ?_)
    · skip
      try simp only [decide_eq_true_eq, decide_eq_false_iff_not, gt_iff_lt, beq_iff_eq, beq_eq_false_iff_ne, ne_eq] at hc65
      have hb2 : bad2 = false := by cases bad2 with | false => rfl | true => simp at hc65
      subst hb2
      obtain ⟨-, hbf, hj2, hjm⟩ | ⟨h9, -⟩ := hbj
      rotate_left
      · cases h9
      subst hbf hj2
      have hji := (hgo rfl).1
      subst hji
      refine W_region ?_
      refine s_move rfl rfl ?_
      (refine s_add' rfl rfl rfl ?hx ?_; case hx => (constructor <;> omega))
      rw [show (j : Int) + 1 = ((j + 1 : Nat) : Int) by omega]
      refine s_assign rfl rfl ?_
      refine WL_nil ?_
      refine n_blk ?_
      refine n_then ?_
      refine W_region ?_
      refine s_move rfl rfl ?_
      first | (refine s_add' rfl rfl rfl ?hx ?_; case hx => (constructor <;> first | omega | (simp only; omega))) | refine s_add rfl rfl rfl ?_
      refine s_assign rfl rfl ?_
      refine WL_nil ?_
      refine n_loop ?_
      first
        | exact ⟨⟨j + 1, j + 1, false, Ld⟩, ⟨rfl, rfl, rfl, rfl, rfl, rfl, trivial⟩, ⟨hs, hD, hil, fun _ => ⟨rfl, hjm⟩, fun h => by cases h⟩, by simp only; omega⟩
        | exact ⟨⟨i + 1, j2, true, Ld⟩, ⟨rfl, rfl, rfl, rfl, rfl, rfl, trivial⟩, ⟨hs, hD, hil, fun h => (by cases h), fun _ => by simp only; cases bad with | false => have := hb1 rfl; omega | true => have := hb3 rfl; omega⟩, by simp only; omega⟩
    · skip
      try simp only [decide_eq_true_eq, decide_eq_false_iff_not, gt_iff_lt, beq_iff_eq, beq_eq_false_iff_ne, ne_eq] at hc65
      have hb2 : bad2 = true := by cases bad2 with | true => rfl | false => simp at hc65
      subst hb2
      obtain ⟨h9, -⟩ | ⟨-, hj2, hb1, hb3⟩ := hbj
      · cases h9
      subst hj2
      refine W_skip ?_
      refine n_blk ?_
      refine n_then ?_
      refine W_region ?_
      refine s_move rfl rfl ?_
      first | (refine s_add' rfl rfl rfl ?hx ?_; case hx => (constructor <;> first | omega | (simp only; omega))) | refine s_add rfl rfl rfl ?_
      refine s_assign rfl rfl ?_
      refine WL_nil ?_
      refine n_loop ?_
      first
        | exact ⟨⟨j + 1, j + 1, false, Ld⟩, ⟨rfl, rfl, rfl, rfl, rfl, rfl, trivial⟩, ⟨hs, hD, hil, fun _ => ⟨rfl, hjm⟩, fun h => by cases h⟩, by simp only; omega⟩
        | exact ⟨⟨i + 1, j2, true, Ld⟩, ⟨rfl, rfl, rfl, rfl, rfl, rfl, trivial⟩, ⟨hs, hD, hil, fun h => (by cases h), fun _ => by simp only; cases bad with | false => have := hb1 rfl; omega | true => have := hb3 rfl; omega⟩, by simp only; omega⟩
  · skip
    try simp only [decide_eq_true_eq, decide_eq_false_iff_not, gt_iff_lt, beq_iff_eq, beq_eq_false_iff_ne, ne_eq] at hc51
    have hii : i = 4 := by omega
    have hjl : j + (if bad then 1 else 0) ≤ xs.length := by cases bad with | false => have := hgo rfl; simp; omega | true => have := hbd rfl; simp; omega
    obtain ⟨lf, CB, g, hcr, hsc, hcl, hg1, hg2⟩ := dur_crashC hmx (m := m) (xs := xs) (j := j) (bad := bad) keep (by omega) (fun x hx => by have := hxb x hx; omega) hjl
    have hcl2 := hfle (j + 1)
    have hfg := hfle g
    have hgj : g ≤ j + 1 := by cases bad with | false => simp at hg2; omega | true => simp at hg2; omega
    have hgr : g ≤ 4 := by omega
    have hgl : (xs.take g).length = g := by rw [List.length_take]; omega
    refine W_exit ?_
    refine x_then ?_
    refine x_then ?_
    refine exit_hit ?_
    refine n_then ?_
    refine W_seq ?_
    refine W_region ?_
    refine s_move rfl rfl ?_
    refine s_move rfl rfl ?_
    refine s_buildSlice rfl rfl (BS22_1 _) hs ?_; clear hs; intro b70 w hs
    refine s_callL (M := [_, _]) (L1 := Ld) (X := _ :: LX) Tryd.call11 rfl rfl hs (fun h => dCrash_ok p _ _ [keep] (-1) Ld w hD (Sl_lit hs rfl) (fun a m c he _ => by cases he; exact St.notin (M := [_, _]) hs (by simp [ids])) hneg h) ?_
    rw [hcr]
    clear hs hD; rintro u w Ld hD - hs
    simp only [List.nil_append, List.cons_append] at hs
    replace hs : St [] w0 w (Ld ++ (_ :: LX)) := hs.tail.tail
    refine WL_nil ?_
    refine n_then ?_
    refine W_seq ?_
    refine W_region ?_
    refine s_move rfl rfl ?_
    refine s_callL (M := []) (L1 := Ld) (X := _ :: LX) Tryd.call5 rfl rfl hs (fun h => wOpenF_ok hmx p _ 1 (xs.take g) Ld w hD (by omega) rfl rfl (by rw [(one_c _ _ _ _ _ _ _).1]; omega) (by rw [(one_c _ _ _ _ _ _ _).1]; exact hsc) h) ?_
    clear hs hD; rintro u w L9 ⟨q2, r2, u2, Lu2, Lx2, Ld, hr2, rfl, rfl, -, hO2, hin2⟩ - hs
    replace hs : St [] w0 w (Lu2 ++ (Lx2 ++ (_ :: LX))) := St.reord [[_], Lu2, Lx2, Ld, _ :: LX] [1, 2, 4] [0, 3] (by simpa [cat] using hs) rfl
    have hr2l : r2.length = g := by rw [← Recs.x_length, hr2, hgl]
    obtain ⟨_, k2, a2, rfl, hv2⟩ := hO2.form
    subst hv2
    refine s_move rfl rfl ?_
    refine s_extract rfl rfl rfl ?_
    refine s_extract rfl rfl rfl ?_
    refine s_extract rfl rfl rfl ?_
    refine s_assign rfl rfl ?_
    refine s_assign rfl rfl ?_
    refine s_assign rfl rfl ?_
    refine WL_nil ?_
    refine n_then ?_
    refine W_seq ?_
    refine W_seq ?_
    refine W_region ?_
    refine s_move rfl rfl ?_
    refine s_neq rfl rfl rfl ?_
    refine s_move rfl rfl ?_
    refine WL_know (s := 80) (c := false) rfl (rfl) ?_
    refine WL_take rfl ?_
    refine s_move rfl rfl ?_
    refine WL_take rfl ?_
    refine s_len rfl rfl (LN26 _ _ _ _) ?_
    refine WL_take rfl ?_
    refine s_move rfl rfl ?_
    refine WL_take rfl ?_
    refine s_lss rfl rfl rfl ?_
    refine s_pick_f rfl rfl rfl ?_
    refine s_move rfl rfl ?_
    refine WL_know (s := 86) (c := false) rfl ((by simp; omega)) ?_
    refine WL_take rfl ?_
    refine s_move rfl rfl ?_
    refine WL_take rfl ?_
    refine s_len rfl rfl (LN26 _ _ _ _) ?_
    refine WL_take rfl ?_
    refine s_move rfl rfl ?_
    refine WL_take rfl ?_
    first | (refine s_add' rfl rfl rfl ?hx ?_; case hx => (constructor <;> first | omega | (simp only; omega))) | refine s_add rfl rfl rfl ?_
    refine WL_take rfl ?_
    refine s_gtr rfl rfl rfl ?_
    refine s_pick_f rfl rfl rfl ?_
    refine s_move rfl rfl ?_
    refine WL_know (s := 93) (c := false) rfl ((by simp; omega)) ?_
    refine WL_take rfl ?_
    refine s_move rfl rfl ?_
    refine WL_take rfl ?_
    refine s_len rfl rfl (LN26 _ _ _ _) ?_
    refine WL_take rfl ?_
    refine s_gtr rfl rfl rfl ?_
    refine s_pick_f rfl rfl rfl ?_
    refine WL_nil ?_
    refine n_then ?_
    refine W_cond_kf rfl ((by simp; omega)) ?_
    refine W_skip ?_
    refine n_then ?_
    refine W_seq ?_
    refine W_seq ?_
    refine W_region ?_
    refine s_assign rfl rfl ?_
    refine WL_nil ?_
    refine n_then ?_
    refine W_block ?_
    refine W_loop (σ := Nat) (fun s => [(13, .slice (some ⟨b45, 0, none⟩) 4 4), (19, .slice a2 r2.length k2), (21, .int .i64 (s : Int))]) (fun s w => St [] w0 w (Lu2 ++ (Lx2 ++ ((b45, Blk 30 vs) :: LX))) ∧ s ≤ r2.length) (fun s => r2.length - s) 0 ⟨rfl, rfl, rfl, trivial⟩ ⟨hs, Nat.zero_le _⟩ ?_
    clear hs
    rintro t w ⟨hs, ht⟩
    refine W_seq ?_
    refine W_seq ?_
    refine W_region ?_
    refine s_move rfl rfl ?_
    refine s_move rfl rfl ?_
    refine s_len rfl rfl (LN26 _ _ _ _) ?_
    refine s_lss rfl rfl rfl ?_
    refine WL_nil ?_
    refine n_then ?_
    refine W_cond rfl (fun hc101 => ?_) (fun hc101 => ?_)
    · skip
      try simp only [decide_eq_true_eq, decide_eq_false_iff_not, gt_iff_lt, beq_iff_eq, beq_eq_false_iff_ne, ne_eq] at hc101
      have htl : t < r2.length := by omega
      obtain ⟨u5, x5, hxi, hm5, hv5, hx5⟩ := Recs.at htl
      obtain ⟨b5, o5, hA5, hc5⟩ := (OwnS_slIn hO2 (w := w) fun p hp => hs.own p (by simp [hp])).at hv5
      obtain ⟨u6, c6, hv6, hc6, hok6, hcl6, hsl6⟩ := hall t (by omega)
      have hx56 : x5 = encX c6 := by
        rw [hr2, List.getElem?_take, if_pos (by omega), hxs, List.getElem?_map, hc6] at hx5
        exact (Option.some.inj hx5).symm
      have hS5 := fun w (h : St [] w0 w (Lu2 ++ (Lx2 ++ ((b45, Blk 30 vs) :: LX)))) => (hin2 _ hm5).sl w fun p hp => h.own p (by simp [hp])
      have hpos : (b45, Blk 30 vs) ∈ (Lu2 ++ (Lx2 ++ ((b45, Blk 30 vs) :: LX))) := by simp
      refine W_skip ?_
      refine n_then ?_
      refine W_seq ?_
      refine W_block ?_
      refine W_seq ?_
      refine W_region ?_
      refine s_move rfl rfl ?_
      refine s_move rfl rfl ?_
      (refine s_indexAddrO El26 rfl rfl rfl hA5 ?hx ?_; case hx => (constructor <;> omega))
      refine s_load Tryd.isAgg35 rfl rfl (by rw [Int.toNat_natCast]; exact hc5) ?_
      refine s_call Tryd.call12 rfl rfl (coDecode_ok u5 c6 w (hg.st hs (by simp)) (by have := hS5 w hs; simp only [hx56] at this; exact this) hok6 (by omega)) ?_
      rintro r w ⟨uc, Le, rfl, hOe, hst⟩
      replace hs := St.back0 hs hst
      clear hst
      refine s_move rfl rfl ?_
      refine s_extract rfl rfl rfl ?_
      refine s_extract rfl rfl rfl ?_
      refine s_assign rfl rfl ?_
      refine s_assign rfl rfl ?_
      refine WL_nil ?_
      refine n_then ?_
      refine W_seq ?_
      refine W_region ?_
      refine s_move rfl rfl ?_
      refine s_neq rfl rfl rfl ?_
      refine s_move rfl rfl ?_
      refine WL_know (s := 114) (c := false) rfl (rfl) ?_
      refine WL_take rfl ?_
      refine s_move rfl rfl ?_
      refine WL_take rfl ?_
      refine s_move rfl rfl ?_
      refine WL_take rfl ?_
      refine s_move rfl rfl ?_
      refine WL_take rfl ?_
      (refine s_indexAddr1 El32 rfl rfl rfl ?hx ?_; case hx => (constructor <;> omega))
      refine WL_take rfl ?_
      obtain ⟨k45, hk45⟩ := List.getElem?_of_mem (List.mem_append_right Le hpos)
      refine s_load Tryd.isAgg30 rfl rfl (hs.cell (k := k45) hk45 (by rw [Nat.zero_add, Int.toNat_natCast]; exact hv6)) ?_
      refine WL_take rfl ?_
      refine s_call Tryd.call13 rfl rfl (clSame15_ok _ _ c6 w (OwnS_slIn hOe fun q hq => hs.own q (by simp [hq])) (hsl6 w fun q hq => hs.own q (by simp [hq])) (by omega)) ?_
      rintro r w ⟨hst, rfl⟩
      replace hs := hs.fwd1 hst
      clear hst
      refine WL_take rfl ?_
      refine s_not rfl rfl ?_
      refine s_pick_f rfl rfl rfl ?_
      refine WL_nil ?_
      refine n_then ?_
      refine W_cond_kf rfl (rfl) ?_
      refine W_skip ?_
      refine n_blk ?_
      refine n_then ?_
      refine W_region ?_
      refine s_move rfl rfl ?_
      first | (refine s_add' rfl rfl rfl ?hx ?_; case hx => (constructor <;> first | omega | (simp only; omega))) | refine s_add rfl rfl rfl ?_
      refine s_assign rfl rfl ?_
      refine WL_nil ?_
      refine n_loop ?_
      exact ⟨t + 1, ⟨rfl, rfl, rfl, trivial⟩, ⟨St.right (M := Le) hs, by omega⟩, by omega⟩
    · skip
      try simp only [decide_eq_true_eq, decide_eq_false_iff_not, gt_iff_lt, beq_iff_eq, beq_eq_false_iff_ne, ne_eq] at hc101
      refine W_exit ?_
      refine x_then ?_
      refine x_then ?_
      refine exit_hit ?_
      refine n_then ?_
      refine W_seq ?_
      refine W_region ?_
      refine s_call Tryd.call14 rfl rfl (lives_ok w) ?_
      rintro r w ⟨hst, rfl⟩
      replace hs := hs.fwd1 hst
      clear hst
      refine s_assign rfl rfl ?_
      refine WL_nil ?_
      refine n_then ?_
      refine W_ret ?_
      exact end1 rfl rfl ⟨hs.fwd, rfl⟩
end Go.Proofs.YtgppcfgnhahnaaaDoor
