/- WalFrames. -/
import Derived.Test.YtnepohadpdkfcaaWaN
set_option linter.unusedVariables false
set_option linter.unusedSimpArgs false
namespace Go.Proofs.Ytnepohadpdkfcaa
open Go.SL
theorem frame_len_le {mx : Nat → Nat → Nat} (hmx : IsMix mx) {n : Int} {x : List Int} (hn : isI64 n) (hx : x.length ≤ 1048576) : (frameV mx n x).length ≤ x.length + 40 := by
  have h1 := coreV_len hn hx
  have h2 := uvar_len10 (hashV_lt hmx (bytesOf sWal) (coreV n x))
  have h3 := uvar_len10 (n := (coreV n x).length) (by omega)
  rw [frameV]; simp only [List.length_append]; omega
theorem framesV_append (mx : Nat → Nat → Nat) (xs ys : List (List Int)) : ∀ n, framesV mx n (xs ++ ys) = framesV mx n xs ++ framesV mx (n + xs.length) ys := by
  induction xs with
  | nil => intro n; simp [framesV]
  | cons y r ih => intro n; rw [List.cons_append, framesV, framesV, ih, List.append_assoc, List.length_cons, show n + 1 + r.length = n + (r.length + 1) by omega]
theorem framesV_isB {mx : Nat → Nat → Nat} {xs : List (List Int)} (h : ∀ x ∈ xs, ∀ b ∈ x, isB b) : ∀ n, ∀ b ∈ framesV mx n xs, isB b := by
  induction xs with
  | nil => intro n b hb; cases hb
  | cons y r ih =>
    intro n b hb
    rw [framesV, List.mem_append] at hb
    rcases hb with hb | hb
    · exact frameV_isB (h y List.mem_cons_self) b hb
    · exact ih (fun x hx => h x (List.mem_cons_of_mem _ hx)) _ b hb
theorem framesV_le {mx : Nat → Nat → Nat} (hmx : IsMix mx) {xs : List (List Int)} {k : Nat} (hk : k ≤ 1048576) (h : ∀ x ∈ xs, x.length ≤ k) : ∀ n, n + xs.length ≤ 1048576 → (framesV mx n xs).length ≤ xs.length * (k + 40) := by
  induction xs with
  | nil => intro n _; simp [framesV]
  | cons y r ih =>
    intro n hn
    rw [List.length_cons] at hn
    have h1 := h y List.mem_cons_self
    have h2 := frame_len_le hmx (n := (n : Int)) (x := y) (by unfold isI64; omega) (by omega)
    have h3 := ih (fun x hx => h x (List.mem_cons_of_mem _ hx)) (n + 1) (by omega)
    rw [framesV, List.length_append, List.length_cons, Nat.add_mul]; omega
structure WfS where
  i : Nat
  v : Value
  L : Hp
theorem u8s_app (a b : List Int) : u8s (a ++ b) = u8s a ++ u8s b := by simp [u8s]
theorem Recs.x_take (rs : Recs) (k : Nat) : Recs.x (rs.take k) = (Recs.x rs).take k := by simp [Recs.x]
theorem Recs.v_take (rs : Recs) (k : Nat) : Recs.v (rs.take k) = (Recs.v rs).take k := by simp [Recs.v]
theorem Recs.x_append (rs qs : Recs) : Recs.x (rs ++ qs) = Recs.x rs ++ Recs.x qs := by simp [Recs.x]
set_option maxHeartbeats 2000000 in
theorem walFrames_ok (vl vb vr : Value) (ls bs es : List Int) (n : Int) (w0 : World) (hl : Sl w0 vl ls.length (i64s ls)) (hli : ∀ z ∈ ls, isI64 z) (hn : isI64 n) (hb : Sl w0 vb bs.length (u8s bs)) (hbb : ∀ z ∈ bs, isB z)
    (hr : Sl w0 vr es.length (u8s es)) (hrb : ∀ z ∈ es, isB z) :
    Ret Try.prog 3 [vl, .int .i64 n, vb, vr].toArray w0 fun r w' => Fwd [] w0 w' ∧ r = .bool true := by
  obtain ⟨mx, hmx⟩ := isMix
  obtain ⟨ow, how⟩ : ∃ ow, ow = bs.take 200 := ⟨_, rfl⟩
  have hol : ow.length = min bs.length 200 := by rw [how]; simp [Nat.min_comm]
  have hol2 : min bs.length 200 ≤ 200 := Nat.min_le_right _ _
  have howB : ∀ z ∈ ow, isB z := fun z hz => hbb z (List.mem_of_mem_take (by rw [← how]; exact hz))
  obtain ⟨er, her⟩ : ∃ er, er = es.take 30 := ⟨_, rfl⟩
  have hel : er.length = min es.length 30 := by rw [her]; simp [Nat.min_comm]
  have hel2 : min es.length 30 ≤ 30 := Nat.min_le_right _ _
  have herB : ∀ z ∈ er, isB z := fun z hz => hrb z (List.mem_of_mem_take (by rw [← her]; exact hz))
  refine Ret_start fun w hs => ?_
  refine Ret_of Try.func3 rfl Try.ntmps3 rfl ?_
  refine W_seq ?_
  refine W_region ?_
  refine s_assign rfl rfl ?_
  refine WL_nil ?_
  refine n_then ?_
  refine W_seq ?_
  refine W_region ?_
  refine s_move rfl rfl ?_
  refine s_call Try.call6 rfl rfl (few_ok vb bs 200 w (hb.fwd0 hs.fwd) (by omega)) ?_
  rintro r w ⟨Lo, hOo, hst⟩
  replace hs := (St.back0 hs hst).left
  clear hst
  rw [← how, ← hol] at hOo
  obtain ⟨_, co, ao, rfl, rfl⟩ := hOo.form
  refine s_assign rfl rfl ?_
  refine WL_nil ?_
  refine n_then ?_
  refine W_seq ?_
  refine W_seq ?_
  refine W_region ?_
  refine s_move rfl rfl ?_
  refine s_move rfl rfl ?_
  refine s_call Try.call8 rfl rfl (frame_ok hmx n _ ow w (OwnS_slIn hOo fun p hp => hs.own p (by simp [hp])) hn howB (by omega)) ?_
  rintro r w ⟨L1, hO1, hst⟩
  replace hs := St.back0 hs hst
  clear hst
  refine s_move rfl rfl ?_
  refine s_move rfl rfl ?_
  refine s_call Try.call9 rfl rfl (fFrame_ok hmx n _ ow w (OwnS_slIn hOo fun p hp => hs.own p (by simp [hp])) hn howB (by omega)) ?_
  rintro r w ⟨L2, hO2, hst⟩
  replace hs := St.back0 hs hst
  clear hst
  have hfl := frame_len_le hmx (n := n) (x := ow) hn (by omega)
  refine s_call Try.call7 rfl rfl (sameBytes_ok _ _ (frameV mx n ow) (frameV mx n ow) w (OwnS_slIn hO1 fun p hp => hs.own p (by simp [hp])) (OwnS_slIn hO2 fun p hp => hs.own p (by simp [hp])) (by omega)) ?_
  rintro r w ⟨hst, rfl⟩
  replace hs := (hs.fwd1 hst).right.right
  clear hst hO1 hO2
  refine s_not rfl rfl ?_
  refine WL_nil ?_
  refine n_then ?_
  refine W_cond_kf rfl ((by simp)) ?_
  refine W_skip ?_
  refine n_then ?_
  refine W_seq ?_
  refine W_region ?_
  refine s_move rfl rfl ?_
  refine s_call Try.call10 rfl rfl (records_ok vl ls w (hl.fwd0 hs.fwd) hli) ?_
  rintro r w ⟨rs, Lu, Lx, hOu, hst, hrs, hsm, hrl⟩
  replace hs := St.back0 hs hst
  simp only [List.append_assoc] at hs
  clear hst
  have hrl6 : rs.length ≤ 6 := by omega
  refine s_move rfl rfl ?_
  refine s_buildSlice rfl rfl (BS27_1 _ _ _) hs ?_; clear hs; intro b31 w hs
  refine s_appendM (M := [_]) (X := Lx ++ Lo) El27 rfl rfl rfl hOu hs (hs.sl (k := 0) (ds := [_]) rfl (Nat.le_refl _) (by intro j u hj; rw [Nat.zero_add]; exact hj)) rfl (by simp [Value.oneCell']) (by omega) ?_
  clear hs; intro v' w Lv hOx hs
  replace hs := hs.tail
  obtain ⟨xs, hxs⟩ : ∃ xs : Recs, xs = rs ++ [(.slice ao ow.length co, ow)] := ⟨_, rfl⟩
  have hxl : xs.length = rs.length + 1 := by rw [hxs]; simp
  rw [show Recs.v rs ++ [Value.slice ao ow.length co] = xs.v by rw [hxs, Recs.v_snoc], ← hxl] at hOx
  have hxin : RecsIn xs (Lx ++ Lo) := by rw [hxs]; exact hrs.snoc hOo.rdS
  have hxb : ∀ x ∈ xs.x, x.length ≤ 200 ∧ ∀ b ∈ x, isB b := by
    intro x hx
    rw [hxs, Recs.x_snoc, List.mem_append, List.mem_singleton] at hx
    rcases hx with hx | rfl
    · have := hsm.2 x hx; exact ⟨by omega, this.2⟩
    · exact ⟨by omega, howB⟩
  clear hxs hrs hsm hOo hOu
  obtain ⟨_, cx, ax, rfl, hxxl⟩ := hOx.form
  subst hxxl
  generalize hLX : Lx ++ Lo = LX at hs hxin
  clear hLX
  refine s_assign rfl rfl ?_
  refine WL_nil ?_
  refine n_then ?_
  refine W_seq ?_
  refine W_region ?_
  refine s_assign rfl rfl ?_
  refine WL_nil ?_
  refine n_then ?_
  refine W_seq ?_
  refine W_seq ?_
  refine W_region ?_
  refine s_assign rfl rfl ?_
  refine WL_nil ?_
  refine n_then ?_
  refine W_block ?_
  refine W_loop (σ := WfS) (fun s => [(3, vr), (10, .slice ax xs.length cx), (11, s.v), (12, .int .i64 (s.i : Int))]) (fun s w => St [] w0 w (s.L ++ (Lv ++ LX)) ∧ OwnS 5 1 s.v (framesV mx 0 (xs.x.take s.i)).length (u8s (framesV mx 0 (xs.x.take s.i))) s.L ∧ s.i ≤ xs.length) (fun s => xs.length - s.i) ⟨0, .slice none 0 0, []⟩ ⟨rfl, rfl, rfl, rfl, trivial⟩ ⟨hs, OwnS.nil _ _, Nat.zero_le _⟩ ?_
  clear hs
  rintro ⟨i, v, L⟩ w ⟨hs, hO, hi⟩
  simp only at hs hO hi ⊢
  have hfle := framesV_le hmx (xs := xs.x.take i) (k := 200) (by omega) (fun x hx => (hxb x (List.mem_of_mem_take hx)).1) 0 (by rw [List.length_take, Recs.x_length]; omega)
  have htl : (xs.x.take i).length = i := by rw [List.length_take, Recs.x_length]; omega
  rw [htl] at hfle
  have hi7 : i * 240 ≤ 7 * 240 := Nat.mul_le_mul_right _ (by omega)
  obtain ⟨_, ca, aa, rfl, haal⟩ := hO.form
  subst haal
  refine W_seq ?_
  refine W_seq ?_
  refine W_region ?_
  refine s_move rfl rfl ?_
  refine s_move rfl rfl ?_
  refine s_len rfl rfl (LN27 _ _ _ _) ?_
  refine s_lss rfl rfl rfl ?_
  refine WL_nil ?_
  refine n_then ?_
  refine W_cond rfl (fun hc36 => ?_) (fun hc36 => ?_)
  · skip
    try simp only [decide_eq_true_eq, decide_eq_false_iff_not] at hc36
    have hil : i < xs.length := by omega
    obtain ⟨u1, x1, hxi, hm1, hv1, hx1⟩ := Recs.at hil
    have hsX := OwnS_slIn hOx (w := w) fun p hp => hs.own p (by simp [hp])
    obtain ⟨b1, o1, hA1, hc1⟩ := hsX.at hv1
    have hS1 := (hxin _ hm1).sl w fun p hp => hs.own p (by simp [hp])
    have hx1b := hxb x1 (List.mem_of_getElem? hx1)
    simp only at hS1
    refine W_skip ?_
    refine n_then ?_
    refine W_seq ?_
    refine W_block ?_
    refine W_region ?_
    refine s_move rfl rfl ?_
    refine s_move rfl rfl ?_
    refine s_move rfl rfl ?_
    refine s_move rfl rfl ?_
    (refine s_indexAddrO El27 rfl rfl rfl hA1 ?hx ?_; case hx => (constructor <;> omega))
    refine s_load Try.isAgg23 rfl rfl hc1 ?_
    refine s_call Try.call8 rfl rfl (frame_ok hmx (i : Int) _ x1 w hS1 (by unfold isI64; omega) hx1b.2 (by omega)) ?_
    rintro r w ⟨LF, hOF, hst⟩
    replace hs := St.back0 hs hst
    clear hst
    have hfl := frame_len_le hmx (n := (i : Int)) (x := x1) (by unfold isI64; omega) (by omega)
    refine s_appendM (M := LF) (X := Lv ++ LX) El23 rfl rfl rfl hO hs (hOF.sl hs) (by simp) (u8s_one _) (by omega) ?_
    clear hs; intro v' w L' hO' hs
    replace hs := hs.right
    refine s_assign rfl rfl ?_
    refine WL_nil ?_
    refine n_blk ?_
    refine n_then ?_
    refine W_region ?_
    refine s_move rfl rfl ?_
    first | (refine s_add' rfl rfl rfl ?hx ?_; case hx => (constructor <;> first | omega | (simp only; omega))) | refine s_add rfl rfl rfl ?_
    refine s_assign rfl rfl ?_
    refine WL_nil ?_
    refine n_loop ?_
    refine ⟨⟨i + 1, v', L'⟩, ⟨rfl, rfl, rfl, rfl, trivial⟩, ⟨hs, ?_, by simp only; omega⟩, by simp only; omega⟩
    have h9 : framesV mx 0 (xs.x.take (i + 1)) = framesV mx 0 (xs.x.take i) ++ frameV mx (i : Int) x1 := by
      rw [List.take_add_one, hx1]
      have := framesV_snoc mx (xs.x.take i) x1 0
      rw [htl, Nat.zero_add] at this
      exact this
    simp only [h9, List.length_append, u8s_app]; exact hO'
  · skip
    try simp only [decide_eq_true_eq, decide_eq_false_iff_not] at hc36
    have hie : i = xs.length := by omega
    subst hie
    rw [List.take_of_length_le (by rw [Recs.x_length]; exact Nat.le_refl _)] at hO hfle
    rw [List.take_of_length_le (by rw [Recs.x_length]; exact Nat.le_refl _)]
    refine W_exit ?_
    refine x_then ?_
    refine x_then ?_
    refine exit_hit ?_
    refine n_then ?_
    refine W_seq ?_
    refine W_region ?_
    refine s_move rfl rfl ?_
    refine s_len rfl rfl (LN23 _ _ _ _) ?_
    refine s_assign rfl rfl ?_
    refine WL_nil ?_
    refine n_then ?_
    refine W_seq ?_
    refine W_region ?_
    refine s_move rfl rfl ?_
    refine s_move rfl rfl ?_
    refine s_call Try.call6 rfl rfl (few_ok vr es 30 w (hr.fwd0 hs.fwd) (by omega)) ?_
    rintro r w ⟨Le, hOe, hst⟩
    replace hs := St.back0 hs hst
    clear hst
    rw [← her, ← hel] at hOe
    refine s_appendM (M := Le) (X := Lv ++ LX) El23 rfl rfl rfl hO hs (hOe.sl hs) (by simp) (u8s_one _) (by omega) ?_
    clear hs; intro v' w La hOa hs
    replace hs := hs.right
    clear hOe
    rw [← u8s_app, ← List.length_append] at hOa
    obtain ⟨all, hall⟩ : ∃ all, all = framesV mx 0 xs.x ++ er := ⟨_, rfl⟩
    have hallB : ∀ z ∈ all, isB z := by
      intro z hz
      rw [hall, List.mem_append] at hz
      rcases hz with hz | hz
      · exact framesV_isB (fun x hx => (hxb x hx).2) 0 z hz
      · exact herB z hz
    have halll : all.length ≤ 1048576 := by rw [hall, List.length_append]; omega
    rw [← hall] at hOa
    refine s_assign rfl rfl ?_
    refine WL_nil ?_
    refine n_then ?_
    refine W_seq ?_
    refine W_region ?_
    refine s_move rfl rfl ?_
    refine s_call Try.call11 rfl rfl (scan_ok hmx v' all w (hOa.sl hs) hallB halll) ?_
    rintro r w ⟨r1, u1, Lu1, Lx1, rfl, hOu1, hst, hr1, hsc1⟩
    replace hs := St.back0 hs hst
    simp only [List.append_assoc] at hs
    clear hst
    obtain ⟨_, c1, a1, rfl, hl1⟩ := hOu1.form
    subst hl1
    refine s_move rfl rfl ?_
    refine s_extract rfl rfl rfl ?_
    refine s_extract rfl rfl rfl ?_
    refine s_assign rfl rfl ?_
    refine s_assign rfl rfl ?_
    refine WL_nil ?_
    refine n_then ?_
    refine W_seq ?_
    refine W_region ?_
    refine s_move rfl rfl ?_
    refine s_call Try.call12 rfl rfl (fScan_ok hmx v' all La w hOa.rdS (fun p hp => hs.own p (by simp [hp])) hallB halll) ?_
    rintro r w ⟨r2, u2, Lu2, rfl, hOu2, hst, hr2, hsc2⟩
    replace hs := St.back0 hs hst
    clear hst
    have hex := scan_unique hmx halll hsc1 hsc2
    obtain ⟨zs, hzs⟩ := scan_pre hmx (xs := xs.x) (n := 0) (q := er) (by rw [← hall]; exact halll) (by rw [Recs.x_length]; omega) (by rw [← hall]; exact hsc1)
    have hl1 : r1.length = xs.length + zs.length := by rw [← Recs.x_length, hzs, List.length_append, Recs.x_length]
    have hfa := framesV_append mx xs.x zs 0
    rw [← hzs] at hfa
    have hfal := congrArg List.length hfa
    rw [List.length_append] at hfal
    have hcnt1 := framesV_cnt (mx := mx) (n := 0) (xs := r1.x)
    have hle1 : (framesV mx 0 r1.x).length ≤ all.length := by obtain ⟨q, h, _⟩ := hsc1; rw [h, List.length_append]; omega
    rw [Recs.x_length] at hcnt1
    have hm1 : ∀ q ∈ r1, q.2.length ≤ 1048576 := fun q hq => by
      have h1 := framesV_mem (mx := mx) (n := 0) (xs := r1.x) (x := q.2) (List.mem_map_of_mem hq)
      omega
    have hown : ∀ w, St [] w0 w (Lu2 ++ (Lu1 ++ (Lx1 ++ (La ++ (Lv ++ LX))))) → (Sl w (.slice a1 r1.length c1) r1.length r1.v) ∧ (∀ q ∈ r1, Sl w q.1 q.2.length (u8s q.2)) ∧ (Sl w u2 r2.length r2.v) ∧ (∀ q ∈ r2, Sl w q.1 q.2.length (u8s q.2)) ∧ Sl w (.slice ax xs.length cx) xs.length xs.v ∧ (∀ q ∈ xs, Sl w q.1 q.2.length (u8s q.2)) := fun w hs =>
      ⟨OwnS_slIn hOu1 fun p hp => hs.own p (by simp [hp]), fun q hq => (hr1 q hq).sl w fun p hp => hs.own p (by simp [hp]), OwnS_slIn hOu2 fun p hp => hs.own p (by simp [hp]), fun q hq => (hr2 q hq).sl w fun p hp => hs.own p (by simp [hp]), OwnS_slIn hOx fun p hp => hs.own p (by simp [hp]), fun q hq => (hxin q hq).sl w fun p hp => hs.own p (by simp [hp])⟩
    refine s_move rfl rfl ?_
    refine s_extract rfl rfl rfl ?_
    refine s_extract rfl rfl rfl ?_
    refine s_assign rfl rfl ?_
    refine s_assign rfl rfl ?_
    refine WL_nil ?_
    refine n_then ?_
    refine W_seq ?_
    refine W_region ?_
    refine s_move rfl rfl ?_
    refine s_move rfl rfl ?_
    refine s_eql rfl rfl rfl ?_
    refine s_move rfl rfl ?_
    refine WL_know (s := 66) (c := true) rfl ((by rw [hex]; simp)) ?_
    refine WL_take rfl ?_
    refine s_move rfl rfl ?_
    refine WL_take rfl ?_
    refine s_move rfl rfl ?_
    refine WL_take rfl ?_
    obtain ⟨k1, k2, k3, k4, -, -⟩ := hown w hs
    refine s_call Try.call13 rfl rfl (sameLists_ok _ _ r1 r2 w k1 k3 k2 k4 (by omega) (fun q hq => by have := hm1 q hq; omega)) ?_
    rintro r w ⟨hst, rfl⟩
    replace hs := hs.fwd1 hst
    clear hst k1 k2 k3 k4
    refine s_pick_t rfl rfl rfl ?_
    refine s_move rfl rfl ?_
    refine WL_know (s := 71) (c := true) rfl ((by simp [hex])) ?_
    refine WL_take rfl ?_
    refine s_move rfl rfl ?_
    refine WL_take rfl ?_
    refine s_move rfl rfl ?_
    refine WL_take rfl ?_
    refine s_geq rfl rfl rfl ?_
    refine s_pick_t rfl rfl rfl ?_
    refine s_move rfl rfl ?_
    refine WL_know (s := 76) (c := true) rfl ((by simp; omega)) ?_
    refine WL_take rfl ?_
    refine s_move rfl rfl ?_
    refine WL_take rfl ?_
    refine s_len rfl rfl (LN27 _ _ _ _) ?_
    refine WL_take rfl ?_
    refine s_move rfl rfl ?_
    refine WL_take rfl ?_
    refine s_len rfl rfl (LN27 _ _ _ _) ?_
    refine WL_take rfl ?_
    refine s_geq rfl rfl rfl ?_
    refine s_pick_t rfl rfl rfl ?_
    refine s_move rfl rfl ?_
    refine WL_know (s := 83) (c := true) rfl ((by simp; omega)) ?_
    refine WL_take rfl ?_
    refine s_move rfl rfl ?_
    refine WL_take rfl ?_
    refine s_move rfl rfl ?_
    refine WL_take rfl ?_
    refine s_len rfl rfl (LN27 _ _ _ _) ?_
    refine WL_take rfl ?_
    (refine s_slice_hi El27 rfl rfl rfl ?hx ?_; case hx => (have := (hown w hs).1.len_le; obtain ⟨a', c', h1, h2⟩ := this; cases h1; constructor <;> omega))
    refine WL_take rfl ?_
    refine s_move rfl rfl ?_
    refine WL_take rfl ?_
    obtain ⟨k1, k2, -, -, k5, k6⟩ := hown w hs
    have k7 := k1.take (k := xs.length) (size := 1) (by omega) rfl
    rw [Nat.mul_one, ← Recs.v_take] at k7
    refine s_call Try.call13 rfl rfl (sameLists_ok _ _ (r1.take xs.length) xs w (by rw [List.length_take, Nat.min_eq_left (by omega)]; exact k7) k5 (fun q hq => k2 q (List.mem_of_mem_take hq)) k6 (by rw [List.length_take]; omega) (fun q hq => by have := hm1 q (List.mem_of_mem_take hq); omega)) ?_
    rintro r w ⟨hst, rfl⟩
    replace hs := hs.fwd1 hst
    clear hst k1 k2 k5 k6 k7
    refine s_pick_t rfl rfl rfl ?_
    refine s_move rfl rfl ?_
    refine WL_know (s := 91) (c := true) rfl ((by simp only [decide_eq_true_eq]; rw [Recs.x_take, hzs]; exact List.take_left' (Recs.x_length xs))) ?_
    refine WL_take rfl ?_
    refine s_call Try.call14 rfl rfl (lives_ok w) ?_
    rintro r w ⟨hst, rfl⟩
    replace hs := hs.fwd1 hst
    clear hst
    refine s_pick_t rfl rfl rfl ?_
    refine s_assign rfl rfl ?_
    refine WL_nil ?_
    refine n_then ?_
    refine W_ret ?_
    exact end1 rfl rfl ⟨hs.fwd, rfl⟩
end Go.Proofs.Ytnepohadpdkfcaa
