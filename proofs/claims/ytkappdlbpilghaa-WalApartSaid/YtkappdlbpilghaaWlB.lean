/- A log alone on its disk; WalInverted. -/
import Derived.Test.YtkappdlbpilghaaWlA
import Derived.Test.YtkappdlbpilghaaDkK
set_option linter.unusedVariables false
set_option linter.unusedSimpArgs false
namespace Go.Proofs.Ytkappdlbpilghaa
open Go.SL
/-- a disk as Open leaves it -/
def Dk.opened (D : Dk) (f : Int) (n : Nat) : Dk := (if n < (D.c f).length then D.set f ((D.c f).take n) (min (D.d f) n) else D).solid
theorem open_free {D : Dk} {f : Int} {n : Nat} (ho : D.off = false) (ha : D.armed = false) (hf : 0 ≤ f ∧ f ≤ 63) (hn : n ≤ (D.c f).length) : D.open f n = (D.opened f n, 0) := by
  have hT : (if n < (D.c f).length then D.trunc f n else (D, 0)) = ((if n < (D.c f).length then D.set f ((D.c f).take n) (min (D.d f) n) else D), 0) := by
    by_cases h : n < (D.c f).length
    · rw [if_pos h, if_pos h, Dk.trunc, if_neg (by omega), if_neg (by simp [ho]), step_free ha, if_neg (by simp), Int.toNat_natCast]
    · rw [if_neg h, if_neg h]
  rw [Dk.open, hT]
  simp only [if_true]
  have h1 : (if n < (D.c f).length then D.set f ((D.c f).take n) (min (D.d f) n) else D).off = false ∧ (if n < (D.c f).length then D.set f ((D.c f).take n) (min (D.d f) n) else D).armed = false := by
    split
    · exact ⟨ho, ha⟩
    · exact ⟨ho, ha⟩
  rw [Dk.sync, if_neg (by rw [h1.1]; simp), step_free h1.2, if_neg (by simp)]
  rfl
theorem one_opened {room left f : Int} {bs : List Int} {d n : Nat} (hn : n ≤ bs.length) : (oneDk room false false left f bs d).opened f n = oneDk room false false left f (bs.take n) n := by
  have hl : (bs.take n).length = n := by rw [List.length_take]; omega
  unfold Dk.opened
  rw [(one_c _ _ _ _ _ _ _).1, (one_c _ _ _ _ _ _ _).2]
  split
  · rw [one_set, one_solid, hl]
  · rw [one_solid, List.take_of_length_le (by omega), show n = bs.length by omega]
theorem scan_take {mx : Nat → Nat → Nat} {bs : List Int} {xs : List (List Int)} (h : IsScan mx 0 bs xs) : (framesV mx 0 xs).length ≤ bs.length ∧ bs.take (framesV mx 0 xs).length = framesV mx 0 xs := by
  obtain ⟨r, rfl, _⟩ := h
  exact ⟨by rw [List.length_append]; omega, List.take_left⟩
theorem scan_whole (mx : Nat → Nat → Nat) (xs : List (List Int)) : IsScan mx 0 (framesV mx 0 xs) xs := ⟨[], by simp, noFrame_nil _ _⟩
theorem fresh_ok (room : Int) (w0 : World) (h : 0 ≤ room ∧ room ≤ 16777216) :
    Ret Try.prog 8 [.int .i64 room].toArray w0 fun r w' => ∃ p L, r = .pointer (some ⟨p, 0, none⟩) ∧ DiskAt p (newDk room) L ∧ St [] w0 w' L := by
  refine Ret_start fun w hs => ?_
  refine Ret_of Try.func8 rfl Try.ntmps8 rfl ?_
  refine W_seq ?_
  refine W_region ?_
  refine s_assign rfl rfl ?_
  refine WL_nil ?_
  refine n_then ?_
  refine W_seq ?_
  refine W_region ?_
  refine s_move rfl rfl ?_
  refine s_call Try.call23 rfl rfl (dNew_ok room w) ?_
  rintro v w (⟨-, -, p, Ld, rfl, hD, hst⟩ | ⟨h9, -⟩)
  rotate_left
  · exact absurd h h9
  replace hs := (St.back0 hs hst).left
  clear hst
  refine s_move rfl rfl ?_
  refine s_extract rfl rfl rfl ?_
  refine s_extract rfl rfl rfl ?_
  refine s_assign rfl rfl ?_
  refine s_assign rfl rfl ?_
  refine WL_nil ?_
  refine n_then ?_
  refine W_seq ?_
  refine W_seq ?_
  refine W_region ?_
  refine s_move rfl rfl ?_
  refine s_neq rfl rfl rfl ?_
  refine WL_nil ?_
  refine n_then ?_
  refine W_cond_kf rfl (rfl) ?_
  refine W_skip ?_
  refine n_then ?_
  refine W_seq ?_
  refine W_region ?_
  refine s_move rfl rfl ?_
  refine s_assign rfl rfl ?_
  refine WL_nil ?_
  refine n_then ?_
  refine W_ret ?_
  exact end1 rfl rfl ⟨p, Ld, rfl, hD, hs⟩
/-- Open on a disk that is on and has no plan -/
theorem wOpenF_ok {mx : Nat → Nat → Nat} (hmx : IsMix mx) (p : Nat) (D : Dk) (f : Int) (xs : List (List Int)) (L0 : Hp) (w0 : World) (hD : DiskAt p D L0) (hf : 0 ≤ f ∧ f ≤ 63) (ho : D.off = false) (ha : D.armed = false) (hl : (D.c f).length ≤ 1048576) (hx : IsScan mx 0 (D.c f) xs) (hs : St (ids L0) w0 w0 L0) :
    Ret Try.prog 9 [.pointer (some ⟨p, 0, none⟩), .int .i64 f].toArray w0 fun r w' => ∃ L', St (ids L0) w0 w' L' ∧
      ∃ (q : Nat) (rs : Recs) (u : Value) (Lu Lx LD : Hp), rs.x = xs ∧ L' = (q, Blk 56 (logCells p f xs.length false)) :: (Lu ++ (Lx ++ LD)) ∧ r = .tuple #[.pointer (some ⟨q, 0, none⟩), u, .int .i64 0] ∧
            DiskAt p (D.opened f (framesV mx 0 xs).length) LD ∧ OwnS 33 1 u rs.length rs.v Lu ∧ RecsIn rs Lx := by
  refine (wOpen_ok hmx p D f L0 w0 hD (by unfold isI64; omega) hl hs).mono ?_
  rintro r w ⟨L', hs', h | ⟨_, ys, hy, h⟩⟩
  · exact absurd (readE_ok (f := f) hf ho).1 h.1
  · obtain rfl := scan_unique hmx hl hx hy
    rw [open_free ho ha hf (scan_take hx).1] at h
    rcases h with h | ⟨_, h⟩
    · exact absurd rfl h.1
    · exact ⟨L', hs', h⟩
/-- an append that fits, on a disk without a plan -/
theorem logApp_free {mx : Nat → Nat → Nat} {room left f : Int} {bs : List Int} {d n : Nat} {x : List Int} (hf : 0 ≤ f ∧ f ≤ 63) (hx : x.length ≤ 65536) (hr : ((bs.length + (frameV mx n x).length : Nat) : Int) ≤ room) :
    logApp mx (oneDk room false false left f bs d) f n false x = (oneDk room false false left f (bs ++ frameV mx n x) (bs ++ frameV mx n x).length, n + 1, false, 0) := by
  rw [logApp, if_neg (by omega), if_neg (by simp), one_app hf hr (by simp), if_pos rfl]
  simp only [one_sync]
  simp
theorem logApp_down {mx : Nat → Nat → Nat} {D : Dk} {f : Int} {n : Nat} {x : List Int} (hx : x.length ≤ 65536) : logApp mx D f n true x = (D, n, true, 18) := by
  rw [logApp, if_neg (by omega), if_pos rfl]
theorem framesV_take {mx : Nat → Nat → Nat} {xs : List (List Int)} {i : Nat} {x : List Int} (h : xs[i]? = some x) : framesV mx 0 (xs.take (i + 1)) = framesV mx 0 (xs.take i) ++ frameV mx (i : Int) x := by
  have hil : i < xs.length := (List.getElem?_eq_some_iff.1 h).1
  rw [List.take_add_one, h]
  have := framesV_snoc mx (xs.take i) x 0
  rw [List.length_take, Nat.zero_add, Nat.min_eq_left (by omega)] at this
  exact this
theorem frame_small {mx : Nat → Nat → Nat} (hmx : IsMix mx) {n : Nat} {x : List Int} {k : Nat} (hn : n ≤ 1048576) (hx : x.length ≤ k) (hk : k ≤ 65536) : (frameV mx (n : Int) x).length ≤ k + 40 := by
  have := frame_len_le hmx (n := (n : Int)) (x := x) (by unfold isI64; omega) (by omega)
  omega
structure WiS where
  i : Nat
  L : Hp
theorem RecsIn.take {rs : Recs} {L : Hp} (h : RecsIn rs L) (k : Nat) : RecsIn (rs.take k) L := fun q hq => h q (List.mem_of_mem_take hq)
set_option maxHeartbeats 4000000 in
theorem walInverted_ok (vl vb : Value) (ls bs : List Int) (keep flip : Int) (w0 : World) (hl : Sl w0 vl ls.length (i64s ls)) (hli : ∀ z ∈ ls, isI64 z) (hb : Sl w0 vb bs.length (u8s bs)) (hbb : ∀ z ∈ bs, isB z) (hkeep : isI64 keep) (hflip : isI64 flip) :
    Ret Try.prog 6 [vl, vb, .int .i64 keep, .int .i64 flip].toArray w0 fun r w' => Fwd [] w0 w' ∧ r = .bool true := by
  obtain ⟨mx, hmx⟩ := isMix
  obtain ⟨b60, hb60⟩ : ∃ o7, o7 = bs.take 60 := ⟨_, rfl⟩
  have hbl : b60.length = min bs.length 60 := by rw [hb60]; simp [Nat.min_comm]
  have hbl2 : min bs.length 60 ≤ 60 := Nat.min_le_right _ _
  have hbB : ∀ z ∈ b60, isB z := fun z hz => hbb z (List.mem_of_mem_take (by rw [← hb60]; exact hz))
  have h0I : isI64 0 := by unfold isI64; omega
  refine Ret_start fun w hs => ?_
  refine Ret_of Try.func6 rfl Try.ntmps6 rfl ?_
  refine W_seq ?_
  refine W_region ?_
  refine s_assign rfl rfl ?_
  refine WL_nil ?_
  refine n_then ?_
  refine W_seq ?_
  refine W_region ?_
  refine s_call Try.call8 rfl rfl (fresh_ok 5000 w (by omega)) ?_
  rintro v w ⟨p, Ld, rfl, hD, hst⟩
  replace hs := (St.back0 hs hst).left
  clear hst
  rw [one_new 5000 0] at hD
  refine s_assign rfl rfl ?_
  refine WL_nil ?_
  refine n_then ?_
  refine W_seq ?_
  refine W_seq ?_
  refine W_region ?_
  refine s_move rfl rfl ?_
  refine s_eql_ptr_nil Try.underlying24 rfl rfl rfl ?_
  refine WL_nil ?_
  refine n_then ?_
  refine W_cond_kf rfl (rfl) ?_
  refine W_skip ?_
  refine n_then ?_
  refine W_seq ?_
  refine W_region ?_
  refine s_move rfl rfl ?_
  refine s_callL (M := []) (L1 := Ld) (X := []) Try.call9 rfl rfl (by simpa using hs) (fun h => wOpenF_ok hmx p _ 0 [] Ld w hD (by omega) rfl rfl (by rw [(one_c _ _ _ _ _ _ _).1]; simp) (by rw [(one_c _ _ _ _ _ _ _).1]; exact scan_whole mx []) h) ?_
  rw [one_opened (by simp [framesV])]
  clear hs hD; rintro u w L9 ⟨q, rs0, u0, Lu0, Lx0, Ld, -, rfl, rfl, hD, -, -⟩ - hs
  simp only [List.append_nil, List.nil_append] at hs
  replace hs : St [] w0 w ([_] ++ Ld) := St.reord [[_], Lu0, Lx0, Ld] [0, 3] [1, 2] hs rfl
  replace hD : DiskAt p (oneDk 5000 false false 0 0 [] 0) Ld := hD
  refine s_move rfl rfl ?_
  refine s_extract rfl rfl rfl ?_
  refine s_extract rfl rfl rfl ?_
  refine s_extract rfl rfl rfl ?_
  refine s_assign rfl rfl ?_
  refine s_assign rfl rfl ?_
  refine s_assign rfl rfl ?_
  refine WL_nil ?_
  refine n_then ?_
  refine W_seq ?_
  refine W_seq ?_
  refine W_region ?_
  refine s_move rfl rfl ?_
  refine s_eql_ptr_nil Try.underlying26 rfl rfl rfl ?_
  refine s_move rfl rfl ?_
  refine WL_know (s := 29) (c := false) rfl (rfl) ?_
  refine WL_take rfl ?_
  refine s_move rfl rfl ?_
  refine WL_take rfl ?_
  refine s_neq rfl rfl rfl ?_
  refine s_pick_f rfl rfl rfl ?_
  refine WL_nil ?_
  refine n_then ?_
  refine W_cond_kf rfl (rfl) ?_
  refine W_skip ?_
  refine n_then ?_
  refine W_seq ?_
  refine W_region ?_
  refine s_move rfl rfl ?_
  refine s_call Try.call10 rfl rfl (records_ok vl ls w (hl.fwd0 hs.fwd) hli) ?_
  rintro r w ⟨rs, Lv, LX, hO, hst, hin, hsm, hrl⟩
  replace hs := (St.back0 hs hst).swap
  clear hst
  simp only [List.cons_append, List.nil_append] at hs
  obtain ⟨_, cv, av, rfl, hvl⟩ := hO.form
  subst hvl
  obtain ⟨hsm1, hsm2⟩ := hsm
  rw [Recs.x_length] at hsm1
  have hfle : ∀ k, (framesV mx 0 (rs.x.take k)).length ≤ 6 * 50 := fun k => by
    have h1 := framesV_le hmx (xs := rs.x.take k) (k := 10) (by omega) (fun x hx => (hsm2 x (List.mem_of_mem_take hx)).1) 0 (by rw [List.length_take, Recs.x_length]; omega)
    have h2 : (rs.x.take k).length ≤ 6 := by rw [List.length_take, Recs.x_length]; omega
    have h3 : (rs.x.take k).length * 50 ≤ 6 * 50 := Nat.mul_le_mul_right _ h2
    omega
  refine s_assign rfl rfl ?_
  refine WL_nil ?_
  refine n_then ?_
  refine W_seq ?_
  refine W_seq ?_
  refine W_region ?_
  refine s_assign rfl rfl ?_
  refine WL_nil ?_
  refine n_then ?_
  refine W_block ?_
  refine W_loop (σ := WiS) (fun s => [(1, vb), (2, .int .i64 keep), (3, .int .i64 flip), (9, .pointer (some ⟨p, 0, none⟩)), (10, .pointer (some ⟨q, 0, none⟩)), (13, .slice av rs.length cv), (14, .int .i64 (s.i : Int))]) (fun s w => St [] w0 w ((q, Blk 56 (logCells p 0 s.i false)) :: (s.L ++ (Lv ++ LX))) ∧ DiskAt p (oneDk 5000 false false 0 0 (framesV mx 0 (rs.x.take s.i)) (framesV mx 0 (rs.x.take s.i)).length) s.L ∧ s.i ≤ rs.length) (fun s => rs.length - s.i) ⟨0, Ld⟩ ⟨rfl, rfl, rfl, rfl, rfl, rfl, rfl, trivial⟩ ⟨hs, hD, Nat.zero_le _⟩ ?_
  clear hs hD
  rintro ⟨i, Ld⟩ w ⟨hs, hD, hi⟩
  simp only at hs hD hi ⊢
  have hfi := hfle i
  refine W_seq ?_
  refine W_seq ?_
  refine W_region ?_
  refine s_move rfl rfl ?_
  refine s_move rfl rfl ?_
  refine s_len rfl rfl (LN27 _ _ _ _) ?_
  refine s_lss rfl rfl rfl ?_
  refine WL_nil ?_
  refine n_then ?_
  refine W_cond rfl (fun hc38 => ?_) (fun hc38 => ?_)
  · skip
    try simp only [decide_eq_true_eq, decide_eq_false_iff_not, gt_iff_lt] at hc38
    have hil : i < rs.length := by omega
    obtain ⟨u1, x1, hxi, hm1, hv1, hx1⟩ := Recs.at hil
    obtain ⟨b1, o1, hA1, hc1⟩ := (OwnS_slIn hO (w := w) fun p hp => hs.own p (by simp [hp])).at hv1
    have hS1 := (hin _ hm1).sl w fun p hp => hs.own p (by simp [hp])
    have hap1 := RdS.apart (hin _ hm1) (L0 := (q, Blk 56 (logCells p 0 i false)) :: Ld) (fun b hb => (ids_disj (A := (q, Blk 56 (logCells p 0 i false)) :: Ld) (B := Lv) (C := LX) hs).1 b hb)
    have hx1b := hsm2 x1 (List.mem_of_getElem? hx1)
    simp only at hS1 hap1
    have hfr := frame_small hmx (n := i) (x := x1) (k := 10) (by omega) hx1b.1 (by omega)
    refine W_skip ?_
    refine n_then ?_
    refine W_seq ?_
    refine W_block ?_
    refine W_seq ?_
    refine W_region ?_
    refine s_move rfl rfl ?_
    refine s_move rfl rfl ?_
    refine s_move rfl rfl ?_
    (refine s_indexAddrO El27 rfl rfl rfl hA1 ?hx ?_; case hx => (constructor <;> omega))
    refine s_load Try.isAgg33 rfl rfl (by rw [Int.toNat_natCast]; exact hc1) ?_
    refine s_callL (M := []) (L1 := _ :: Ld) (X := Lv ++ LX) Try.call13 rfl rfl hs (fun h => wAppend_ok hmx q p _ 0 i false _ x1 Ld w hD hS1 hx1b.2 (by omega) hap1 (by omega) h) ?_
    rw [logApp_free (by omega) (by omega) (by omega), ← framesV_take hx1]
    clear hs hD; rintro u w L9 ⟨Ld, rfl, hD, rfl⟩ - hs
    simp only [List.nil_append, List.cons_append] at hs hD
    refine s_neq rfl rfl rfl ?_
    refine WL_nil ?_
    refine n_then ?_
    refine W_cond_kf rfl (rfl) ?_
    refine W_skip ?_
    refine n_blk ?_
    refine n_then ?_
    refine W_region ?_
    refine s_move rfl rfl ?_
    first | (refine s_add' rfl rfl rfl ?hx ?_; case hx => (constructor <;> first | omega | (simp only; omega))) | refine s_add rfl rfl rfl ?_
    refine s_assign rfl rfl ?_
    refine WL_nil ?_
    refine n_loop ?_
    exact ⟨⟨i + 1, Ld⟩, ⟨rfl, rfl, rfl, rfl, rfl, rfl, rfl, trivial⟩, ⟨hs, hD, hil⟩, by simp only; omega⟩
  · skip
    try simp only [decide_eq_true_eq, decide_eq_false_iff_not, gt_iff_lt] at hc38
    have hii : i = rs.length := by omega
    subst hii
    rw [List.take_of_length_le (by rw [Recs.x_length]; exact Nat.le_refl _)] at hD hfi
    obtain ⟨FX, hFX⟩ : ∃ FX, FX = framesV mx 0 rs.x := ⟨_, rfl⟩
    rw [← hFX] at hD hfi
    have hfr := frame_small hmx (n := rs.length) (x := b60) (k := 60) (by omega) (by omega) (by omega)
    obtain ⟨FB, hFB⟩ : ∃ FB, FB = frameV mx (rs.length : Int) b60 := ⟨_, rfl⟩
    refine W_exit ?_
    refine x_then ?_
    refine x_then ?_
    refine exit_hit ?_
    refine n_then ?_
    refine W_seq ?_
    refine W_region ?_
    refine s_move rfl rfl ?_
    refine s_callL (M := [_]) (L1 := Ld) (X := Lv ++ LX) Try.call21 rfl rfl hs (fun h => arm_ok p _ 0 Ld w hD h0I h) ?_
    rw [show (oneDk 5000 false false 0 0 FX FX.length).arm 0 = oneDk 5000 false true 0 0 FX FX.length by rw [Dk.arm, if_neg (by simp [oneDk])]; rfl]
    clear hs hD; rintro u w Ld hD - hs
    simp only [List.nil_append, List.cons_append] at hs
    refine WL_nil ?_
    refine n_then ?_
    refine W_seq ?_
    refine W_seq ?_
    refine W_region ?_
    refine s_move rfl rfl ?_
    refine s_move rfl rfl ?_
    refine s_call Try.call19 rfl rfl (few_ok vb bs 60 w (hb.fwd0 hs.fwd) (by omega)) ?_
    rintro r w ⟨Lb, hOb, hst⟩
    replace hs := (St.back0 hs hst).swap
    clear hst
    simp only [List.cons_append, List.append_assoc] at hs
    rw [← hb60, ← hbl] at hOb
    obtain ⟨_, cb, ab, rfl, hbvl⟩ := hOb.form
    subst hbvl
    refine s_callL (M := []) (L1 := _ :: Ld) (X := Lv ++ (LX ++ Lb)) Try.call13 rfl rfl hs (fun h => wAppend_ok hmx q p _ 0 rs.length false _ b60 Ld w hD (OwnS_slIn hOb fun p hp => hs.own p (by simp [hp])) hbB (by omega) (fun a m c he hne => by cases he; exact (ids_disj (A := _ :: Ld) (B := Lv ++ LX) (C := Lb) (by simpa using hs)).1 _ (OwnS_in hOb hne)) (by omega) h) ?_
    rw [show logApp mx (oneDk 5000 false true 0 0 FX FX.length) 0 rs.length false b60 = (oneDk 5000 true false 0 0 (FX ++ FB) FX.length, rs.length, true, 18) by
      have h1 : (oneDk 5000 false true 0 0 FX FX.length).app 0 FB = (oneDk 5000 true false 0 0 (FX ++ FB) FX.length, 18) := by rw [one_app (by omega) (by rw [hFB]; omega) (by omega), if_neg (by simp), if_neg (by simp)]
      rw [logApp, if_neg (by omega), if_neg (by simp), ← hFB, h1]
      simp]
    clear hs hD; rintro u w L9 ⟨Ld, rfl, hD, rfl⟩ - hs
    simp only [List.nil_append, List.cons_append] at hs hD
    refine s_neq rfl rfl rfl ?_
    refine s_move rfl rfl ?_
    refine WL_know (s := 55) (c := false) rfl (rfl) ?_
    refine WL_take rfl ?_
    refine s_move rfl rfl ?_
    refine WL_take rfl ?_
    refine s_callL (M := []) (L1 := [_]) (X := Ld ++ (Lv ++ (LX ++ Lb))) Try.call15 rfl rfl hs (fun h => wUp_ok q p 0 rs.length true w h) ?_
    clear hs; rintro u w L9 ⟨rfl, rfl⟩ - hs
    simp only [List.nil_append, List.cons_append] at hs
    refine s_pick_f rfl rfl rfl ?_
    refine WL_nil ?_
    refine n_then ?_
    refine W_cond_kf rfl (rfl) ?_
    refine W_skip ?_
    refine n_then ?_
    refine W_seq ?_
    refine W_seq ?_
    refine W_region ?_
    refine s_move rfl rfl ?_
    refine s_callL (M := []) (L1 := _ :: Ld) (X := Lv ++ (LX ++ Lb)) Try.call13 rfl rfl hs (fun h => wAppend_ok hmx q p _ 0 rs.length true _ [] Ld w hD ⟨none, 0, rfl, Nat.le_refl _, .inl rfl⟩ (by simp) (by omega) (fun a m c he _ => by cases he) (by simp) h) ?_
    rw [logApp_down (by simp)]
    clear hs hD; rintro u w L9 ⟨Ld, rfl, hD, rfl⟩ - hs
    simp only [List.nil_append, List.cons_append] at hs hD
    refine s_neq rfl rfl rfl ?_
    refine s_move rfl rfl ?_
    refine WL_know (s := 62) (c := false) rfl (rfl) ?_
    refine WL_take rfl ?_
    refine s_move rfl rfl ?_
    refine WL_take rfl ?_
    refine s_callL (M := []) (L1 := [_]) (X := Ld ++ (Lv ++ (LX ++ Lb))) Try.call14 rfl rfl hs (fun h => wLen_ok q p 0 rs.length true w h) ?_
    clear hs; rintro u w L9 ⟨rfl, rfl⟩ - hs
    simp only [List.nil_append, List.cons_append] at hs
    refine WL_take rfl ?_
    refine s_move rfl rfl ?_
    refine WL_take rfl ?_
    refine s_len rfl rfl (LN27 _ _ _ _) ?_
    refine WL_take rfl ?_
    refine s_neq rfl rfl rfl ?_
    refine s_pick_f rfl rfl rfl ?_
    refine WL_nil ?_
    refine n_then ?_
    refine W_cond_kf rfl ((by simp)) ?_
    refine W_skip ?_
    refine n_then ?_
    refine W_seq ?_
    refine W_region ?_
    refine s_move rfl rfl ?_
    refine s_move rfl rfl ?_
    refine s_buildSlice rfl rfl (BS22_1 _) hs ?_; clear hs; intro b71 w hs
    refine s_move rfl rfl ?_
    refine s_callL (M := [_, _]) (L1 := Ld) (X := Lv ++ (LX ++ Lb)) Try.call20 rfl rfl hs (fun h => dCrash_ok p _ _ [keep] flip Ld w hD (Sl_lit hs rfl) (fun a m c he _ => by cases he; exact St.notin (M := [_, _]) hs (by simp [ids])) hflip h) ?_
    rw [one_crash (by omega) (by rw [List.length_append]; omega)]
    obtain ⟨CB, hCB⟩ : ∃ CB, CB = crashB [keep] flip (FX ++ FB) FX.length := ⟨_, rfl⟩
    rw [← hCB]
    have hcl : CB.length ≤ 1000 := by
      have h1 := keptV_le [keep] 0 ((FX ++ FB).length - FX.length)
      have h2 := crashB_length (keep := [keep]) (flip := flip) (bs := FX ++ FB) (d := FX.length) (by rw [List.length_append]; omega)
      rw [← hCB] at h2
      rw [List.length_append] at h1 h2
      rw [← hFB] at hfr
      omega
    have hct : CB.take FX.length = FX := by rw [hCB, crashB_take, List.take_left]
    have hcd : CB = FX ++ CB.drop FX.length := by conv => lhs; rw [← List.take_append_drop FX.length CB, hct]
    clear hs hD; rintro u w Ld hD - hs
    simp only [List.nil_append, List.cons_append] at hs
    replace hs := hs.tail
    refine WL_nil ?_
    refine n_then ?_
    refine W_seq ?_
    refine W_seq ?_
    refine W_region ?_
    refine s_move rfl rfl ?_
    refine s_callL (M := []) (L1 := _ :: Ld) (X := Lv ++ (LX ++ Lb)) Try.call13 rfl rfl hs (fun h => wAppend_ok hmx q p _ 0 rs.length true _ [] Ld w hD ⟨none, 0, rfl, Nat.le_refl _, .inl rfl⟩ (by simp) (by omega) (fun a m c he _ => by cases he) (by simp) h) ?_
    rw [logApp_down (by simp)]
    clear hs hD; rintro u w L9 ⟨Ld, rfl, hD, rfl⟩ - hs
    simp only [List.nil_append, List.cons_append] at hs hD
    refine s_neq rfl rfl rfl ?_
    refine WL_nil ?_
    refine n_then ?_
    refine W_cond_kf rfl (rfl) ?_
    refine W_skip ?_
    refine n_then ?_
    refine W_seq ?_
    refine W_region ?_
    refine s_move rfl rfl ?_
    refine s_callL (M := [_]) (L1 := Ld) (X := Lv ++ (LX ++ Lb)) Try.call9 rfl rfl hs (fun h => wOpen_ok hmx p _ 0 Ld w hD h0I (by rw [(one_c _ _ _ _ _ _ _).1]; omega) h) ?_
    clear hs; rintro u w L9 (h9 | ⟨_, ys, hy, h9⟩) - hs
    · exact absurd (readE_ok (D := oneDk 5000 false false 0 0 CB CB.length) (f := 0) (by omega) rfl).1 h9.1
    rw [(one_c _ _ _ _ _ _ _).1] at hy
    rw [open_free rfl rfl (by omega) (by rw [(one_c _ _ _ _ _ _ _).1]; exact (scan_take hy).1)] at h9
    rcases h9 with h9 | ⟨-, q2, r2, u2, Lu2, Lx2, Ld2, hr2, rfl, rfl, -, hO2, hin2⟩
    · exact absurd rfl h9.1
    obtain ⟨zs, hzs⟩ := scan_pre hmx (xs := rs.x) (n := 0) (ys := ys) (q := CB.drop FX.length) (by rw [← hFX, ← hcd]; omega) (by rw [Recs.x_length]; omega) (by rw [← hFX, ← hcd]; exact hy)
    have hr2l : r2.length = rs.length + zs.length := by rw [← Recs.x_length, hr2, hzs, List.length_append, Recs.x_length]
    obtain ⟨_, c2, a2, rfl, hv2⟩ := hO2.form
    subst hv2
    have hS2 := fun (w : World) (h : ∀ p ∈ Lu2, w.heap[p.1]? = some p.2) => OwnS_slIn hO2 (w := w) h
    have hzl : zs.length ≤ 1000000 := by
      have h1 := framesV_cnt (mx := mx) (n := 0) (xs := ys)
      have h2 := (scan_take hy).1
      have h3 : ys.length = rs.x.length + zs.length := by rw [hzs, List.length_append]
      omega
    refine s_move rfl rfl ?_
    refine s_extract rfl rfl rfl ?_
    refine s_extract rfl rfl rfl ?_
    refine s_extract rfl rfl rfl ?_
    refine s_assign rfl rfl ?_
    refine s_assign rfl rfl ?_
    refine s_assign rfl rfl ?_
    refine WL_nil ?_
    refine n_then ?_
    refine W_seq ?_
    refine W_region ?_
    refine s_move rfl rfl ?_
    refine s_eql rfl rfl rfl ?_
    refine s_move rfl rfl ?_
    refine WL_know (s := 85) (c := true) rfl (rfl) ?_
    refine WL_take rfl ?_
    refine s_move rfl rfl ?_
    refine WL_take rfl ?_
    refine s_len rfl rfl (LN27 _ _ _ _) ?_
    refine WL_take rfl ?_
    refine s_move rfl rfl ?_
    refine WL_take rfl ?_
    refine s_len rfl rfl (LN27 _ _ _ _) ?_
    refine WL_take rfl ?_
    refine s_geq rfl rfl rfl ?_
    refine s_pick_t rfl rfl rfl ?_
    refine s_move rfl rfl ?_
    refine WL_know (s := 92) (c := true) rfl ((by simp; omega)) ?_
    refine WL_take rfl ?_
    refine s_move rfl rfl ?_
    refine WL_take rfl ?_
    refine s_move rfl rfl ?_
    refine WL_take rfl ?_
    refine s_len rfl rfl (LN27 _ _ _ _) ?_
    refine WL_take rfl ?_
    have hcap2 : r2.length ≤ c2 := by obtain ⟨a9, c9, h8, h9⟩ := (hS2 w fun p hp => hs.own p (by simp [hp])).len_le; cases h8; exact h9
    (refine s_slice_hi El27 rfl rfl rfl ?hx ?_; case hx => (constructor <;> omega))
    rw [Int.toNat_natCast]
    refine WL_take rfl ?_
    refine s_move rfl rfl ?_
    refine WL_take rfl ?_
    have hSt : Sl w (.slice a2 rs.length c2) (Recs.v (r2.take rs.length)).length (Recs.v (r2.take rs.length)) := by
      have h1 := (hS2 w fun p hp => hs.own p (by simp [hp])).take (k := rs.length) (size := 1) (by omega) rfl
      rw [Nat.mul_one] at h1
      rw [Recs.v, List.map_take, List.length_take, List.length_map, Nat.min_eq_left (by omega)]
      exact h1
    have hxt : Recs.x (r2.take rs.length) = rs.x := by
      rw [Recs.x, List.map_take]
      have : r2.map Prod.snd = rs.x ++ zs := by rw [← hzs, ← hr2]; rfl
      rw [this, ← Recs.x_length]; exact List.take_left
    have htl : (r2.take rs.length).length = rs.length := by rw [List.length_take]; omega
    rw [Recs.v_length, htl] at hSt
    refine s_call Try.call16 rfl rfl (sameLists_ok _ _ (r2.take rs.length) rs w (by rw [htl]; exact hSt) (OwnS_slIn hO fun p hp => hs.own p (by simp [hp])) (fun x hx => (hin2.take rs.length x hx).sl w fun p hp => hs.own p (by simp [hp])) (fun x hx => (hin x hx).sl w fun p hp => hs.own p (by simp [hp])) (by omega) (fun x hx => by
      have h1 : x.2 ∈ rs.x := by rw [← hxt]; exact List.mem_map_of_mem hx
      have := (hsm2 _ h1).1
      omega)) ?_
    rintro r w ⟨hst, rfl⟩
    replace hs := hs.fwd1 hst
    clear hst
    rw [hxt]
    refine s_pick_t rfl rfl rfl ?_
    refine s_move rfl rfl ?_
    refine WL_know (s := 100) (c := true) rfl ((by simp)) ?_
    refine WL_take rfl ?_
    refine s_call Try.call17 rfl rfl (lives_ok w) ?_
    rintro r w ⟨hst, rfl⟩
    replace hs := hs.fwd1 hst
    clear hst
    refine s_pick_t rfl rfl rfl ?_
    refine s_assign rfl rfl ?_
    refine WL_nil ?_
    refine n_then ?_
    refine W_ret ?_
    exact end1 rfl rfl ⟨hs.fwd, rfl⟩
end Go.Proofs.Ytkappdlbpilghaa
