/- DiskClaims. -/
import Derived.Test.YtbcdnpjcbchbjaaDoorDkJ
import Derived.Test.YtbcdnpjcbchbjaaDoorPre
import Derived.Test.YtbcdnpjcbchbjaaDoorCoG
import Derived.Test.YtbcdnpjcbchbjaaDoorWirW
import Derived.Test.YtbcdnpjcbchbjaaDoorWirR
set_option linter.unusedVariables false
set_option linter.unusedSimpArgs false
namespace Go.Proofs.YtbcdnpjcbchbjaaDoor
open Go.SL
theorem app_ok {D : Dk} {f : Int} {bs : List Int} (hf : 0 ≤ f ∧ f ≤ 63) (ho : D.off = false) (ha : D.armed = false) (hr : (bs.length : Int) ≤ D.room - (total D.c : Int)) : D.app f bs = (D.set f (D.c f ++ bs) (D.d f), 0) := by
  rw [Dk.app, if_neg (by omega), if_neg (by simp [ho]), if_neg (by omega), step_free ha]; simp
theorem sync_ok {D : Dk} (ho : D.off = false) (ha : D.armed = false) : D.sync = (D.solid, 0) := by
  rw [Dk.sync, if_neg (by simp [ho]), step_free ha]; simp
theorem DiskAt.isB {p : Nat} {D : Dk} {L : Hp} (h : DiskAt p D L) (f : Int) : ∀ b ∈ D.c f, isB b := by
  obtain ⟨m, o, fs, hL, hM, hF, hR, hA⟩ := h
  obtain ⟨v0, Lf, rest, hO0, hlk, hperm, hd0, hB0, hback⟩ := file_open hM hF f
  exact hB0
def dcD (all : List Int) : Nat → Dk
  | 0 => newDk 10000
  | 1 => (newDk 10000).set 5 all 0
  | _ => ((newDk 10000).set 5 all 0).set 6 all 0
theorem dcD_off (all : List Int) (n : Nat) : (dcD all n).off = false ∧ (dcD all n).armed = false ∧ (dcD all n).room = 10000 := by
  match n with
  | 0 => exact ⟨rfl, rfl, rfl⟩
  | 1 => exact ⟨rfl, rfl, rfl⟩
  | n + 2 => exact ⟨rfl, rfl, rfl⟩
theorem dcD_total (all : List Int) : total (dcD all 0).c = 0 ∧ total (dcD all 1).c = all.length ∧ total (dcD all 2).c = 2 * all.length := by
  have h0 : total (newDk 10000).c = 0 := total_nil
  have h1 := total_set (D := newDk 10000) (f := 5) (bs := all) (d := 0) (by omega)
  have h2 := total_set (D := (newDk 10000).set 5 all 0) (f := 6) (bs := all) (d := 0) (by omega)
  have e1 : ((newDk 10000).c 5).length = 0 := rfl
  have e2 : (((newDk 10000).set 5 all 0).c 6).length = 0 := rfl
  refine ⟨h0, ?_, ?_⟩
  · show total ((newDk 10000).set 5 all 0).c = _; omega
  · show total (((newDk 10000).set 5 all 0).set 6 all 0).c = _; omega
theorem dcD_succ (all : List Int) {n : Nat} (hn : n < 2) : (dcD all n).set ((5 + n : Nat) : Int) all 0 = dcD all (n + 1) := by
  rcases (show n = 0 ∨ n = 1 by omega) with h | h
  · subst h; rfl
  · subst h; rfl
theorem dc_step (all : List Int) (n k : Nat) (hn : n < 2) (hl : all.length ≤ 2000) :
    (dcD all n).app ((5 + n : Nat) : Int) (all.take k) = ((dcD all n).set ((5 + n : Nat) : Int) (all.take k) 0, 0) ∧ ((dcD all n).set ((5 + n : Nat) : Int) (all.take k) 0).app ((5 + n : Nat) : Int) (all.drop k) = (dcD all (n + 1), 0) := by
  obtain ⟨h0, h1, h2⟩ := dcD_total all
  obtain ⟨ho, ha, hr⟩ := dcD_off all n
  have hc : (dcD all n).c ((5 + n : Nat) : Int) = [] ∧ (dcD all n).d ((5 + n : Nat) : Int) = 0 := by
    match n, hn with
    | 0, _ => exact ⟨rfl, rfl⟩
    | 1, _ => exact ⟨rfl, rfl⟩
  have ht : total (dcD all n).c ≤ all.length := by
    match n, hn with
    | 0, _ => omega
    | 1, _ => omega
  have htk : (all.take k).length ≤ all.length := by rw [List.length_take]; exact Nat.min_le_right _ _
  have hdl : (all.drop k).length ≤ all.length := by rw [List.length_drop]; omega
  have hs := total_set (D := dcD all n) (f := ((5 + n : Nat) : Int)) (bs := all.take k) (d := 0) (by omega)
  obtain ⟨s1, s2, s3, s4⟩ := set_c (dcD all n) ((5 + n : Nat) : Int) (all.take k) 0
  have hsr : ((dcD all n).set ((5 + n : Nat) : Int) (all.take k) 0).room = 10000 := hr
  refine ⟨?_, ?_⟩
  · rw [app_ok (by omega) ho ha (by omega), hc.1, hc.2, List.nil_append]
  · rw [app_ok (by omega) (s3.trans ho) (s4.trans ha) (by rw [hsr]; rw [hc.1] at hs; simp only [List.length_nil] at hs; omega), s1, s2, set_set, List.take_append_drop]
    rw [dcD_succ all hn]
def dcF (all : List Int) : Dk := (((dcD all 2).solid).set 6 (all ++ [9, 9, 9]) all.length).set 8 [1] 0
theorem dc_fin (all : List Int) (hl : all.length ≤ 2000) : (dcD all 2).sync = ((dcD all 2).solid, 0) ∧ ((dcD all 2).solid).app 6 [9, 9, 9] = (((dcD all 2).solid).set 6 (all ++ [9, 9, 9]) all.length, 0) ∧ (((dcD all 2).solid).set 6 (all ++ [9, 9, 9]) all.length).app 8 [1] = (dcF all, 0) := by
  obtain ⟨h0, h1, h2⟩ := dcD_total all
  have ht : total ((dcD all 2).solid).c = 2 * all.length := h2
  have hs := total_set (D := (dcD all 2).solid) (f := 6) (bs := all ++ [9, 9, 9]) (d := all.length) (by omega)
  have e6 : ((dcD all 2).solid).c 6 = all := rfl
  have e6d : ((dcD all 2).solid).d 6 = all.length := rfl
  refine ⟨sync_ok rfl rfl, ?_, ?_⟩
  · rw [app_ok (by omega) rfl rfl (by rw [ht]; show _ ≤ (10000 : Int) - _; simp; omega), e6, e6d]
  · rw [app_ok (by omega) rfl rfl (by
      show _ ≤ (10000 : Int) - _
      rw [e6] at hs; simp only [List.length_append, List.length_cons, List.length_nil] at hs ⊢; omega)]
    rfl
theorem dc_crash (all : List Int) (keep : List Int) (flip : Int) (h : firmOk (dcF all)) : ((dcF all).crash keep flip).off = false ∧ ((dcF all).crash keep flip).c 5 = all ∧ ∃ r, ((dcF all).crash keep flip).c 6 = all ++ r := by
  obtain ⟨hp, ho⟩ := crash_pre h keep flip
  refine ⟨ho, ?_, ((dcF all).crash keep flip).c 6 |>.drop all.length, ?_⟩
  · obtain ⟨h1, h2, h3⟩ := hp 5
    have e1 : (dcF all).c 5 = all := rfl
    have e2 : (dcF all).d 5 = all.length := rfl
    rw [e1] at h1 h3
    rw [e2] at h2 h3
    rw [List.take_of_length_le (by omega), List.take_of_length_le (Nat.le_refl _)] at h3
    exact h3
  · obtain ⟨h1, h2, h3⟩ := hp 6
    have e1 : (dcF all).c 6 = all ++ [9, 9, 9] := rfl
    have e2 : (dcF all).d 6 = all.length := rfl
    rw [e1, e2, List.take_left] at h3
    rw [← List.take_append_drop all.length (((dcF all).crash keep flip).c 6), h3]
    simp
set_option maxHeartbeats 4000000 in
theorem diskClaims_ok (v vk : Value) (xs keep : List Int) (cut flip : Int) (w0 : World) (hg : Wd w0) (hv : Sl w0 v xs.length (i64s xs)) (hx : ∀ z ∈ xs, isI64 z) (hl : xs.length ≤ 4611686018427387904) (hk : Sl w0 vk keep.length (i64s keep)) (hkk : ∀ z ∈ keep, isI64 z) (hcut : isI64 cut) (hflip : isI64 flip) :
    Ret Tryd.prog 3 [v, .int .i64 cut, vk, .int .i64 flip].toArray w0 fun r w' => Fwd [] w0 w' ∧ r = .bool true := by
  refine Ret_start fun w hs => ?_
  refine Ret_of Tryd.func3 rfl Tryd.ntmps3 rfl ?_
  refine W_seq ?_
  refine W_region ?_
  refine s_assign rfl rfl ?_
  refine WL_nil ?_
  refine n_then ?_
  refine W_seq ?_
  refine W_region ?_
  refine s_call Tryd.call4 rfl rfl (dNew_ok 10000 w) ?_
  rintro u w (⟨-, -, p, Ld, rfl, hD, hst⟩ | ⟨h, -⟩)
  rotate_left
  · exact absurd ⟨by omega, by omega⟩ h
  replace hs := (St.back0 hs hst).left
  clear hst
  refine s_move rfl rfl ?_
  refine s_extract rfl rfl rfl ?_
  refine s_extract rfl rfl rfl ?_
  refine s_assign rfl rfl ?_
  refine s_assign rfl rfl ?_
  refine WL_nil ?_
  refine n_then ?_
  refine W_seq ?_
  refine W_seq ?_
  refine W_region ?_
  refine s_move rfl rfl ?_
  refine s_eql_ptr_nil Tryd.underlying23 rfl rfl rfl ?_
  refine s_move rfl rfl ?_
  refine WL_know (s := 30) (c := false) rfl (rfl) ?_
  refine WL_take rfl ?_
  refine s_move rfl rfl ?_
  refine WL_take rfl ?_
  refine s_neq rfl rfl rfl ?_
  refine s_pick_f rfl rfl rfl ?_
  refine WL_nil ?_
  refine n_then ?_
  refine W_cond_kf rfl (rfl) ?_
  refine W_skip ?_
  refine n_then ?_
  refine W_seq ?_
  refine W_region ?_
  refine s_move rfl rfl ?_
  refine s_call Tryd.call5 rfl rfl (genClaims_ok v xs w (hv.fwd0 hs.fwd) hx hl) ?_
  rintro u w ⟨cl, Lc, hOc, hst, hok, hcl⟩
  replace hs := St.back0 hs hst
  clear hst
  have hbl := encB_length cl
  have hpl := pk_length (encB cl)
  obtain ⟨_, cc, ac, rfl, hvc⟩ := hOc.form
  subst hvc
  refine s_assign rfl rfl ?_
  refine WL_nil ?_
  refine n_then ?_
  refine W_seq ?_
  refine W_region ?_
  refine s_move rfl rfl ?_
  refine s_call Tryd.call6 rfl rfl (coEncode_ok _ cl w (hg.st hs (by simp)) (OwnS_slIn hOc fun q hq => hs.own q (by simp [hq])) hok (by omega)) ?_
  rintro r w ⟨ub, Lb, rfl, hOb, hst⟩
  replace hs := St.back0 hs hst
  clear hst
  have hbB : ∀ b ∈ pk (encB cl), isB b := by
    intro b hb
    obtain ⟨j, _, rfl⟩ := List.mem_map.1 hb
    have := byteAt_lt (encB cl) j
    unfold isB; omega
  obtain ⟨bb, hbb⟩ : ∃ bb, bb = pk (encB cl) := ⟨_, rfl⟩
  rw [← hbb] at hOb hbB hpl
  refine s_move rfl rfl ?_
  refine s_extract rfl rfl rfl ?_
  refine s_extract rfl rfl rfl ?_
  refine s_assign rfl rfl ?_
  refine s_assign rfl rfl ?_
  refine WL_nil ?_
  refine n_then ?_
  refine W_seq ?_
  refine W_region ?_
  refine s_alloc rfl AL33 hs ?_; clear hs; intro b14 w hs
  refine WL_nil ?_
  refine n_then ?_
  refine W_seq ?_
  refine W_region ?_
  refine s_move rfl rfl ?_
  refine s_callL (M := []) (L1 := [_]) (X := Lb ++ (Lc ++ Ld)) Tryd.call7 rfl rfl (by simpa using hs) (fun h => wRaw_ok b14 [] bb _ _ w (wr_new b14) h (OwnS_slIn hOb fun q hq => hs.own q (by simp [hq])) (fun a m c he hne => by cases he; exact fun hin => St_frontNot (A := [_]) (by simpa using hs) hin (by simp [ids_append, OwnS_in hOb hne])) (by simp) (by omega)) ?_
  clear hs; rintro u w LW ⟨hW, rfl⟩ - hs
  simp only [List.nil_append] at hs hW
  refine WL_nil ?_
  refine n_then ?_
  refine W_seq ?_
  refine W_region ?_
  refine s_move rfl rfl ?_
  refine s_len rfl rfl (LN27 _ _ _ _) ?_
  refine s_callL (M := []) (L1 := LW) (X := Lb ++ (Lc ++ Ld)) Tryd.call8 rfl rfl (by simpa using hs) (fun h => wInt_ok b14 _ (cl.length : Int) LW w hW h (by unfold isI64; omega) (by have := uvar_len10 (n := bb.length) (by omega); simp only [List.length_append]; omega)) ?_
  clear hs hW; rintro u w LW ⟨hW, rfl⟩ - hs
  simp only [List.nil_append] at hs hW
  obtain ⟨all, hall⟩ : ∃ all, all = uvar bb.length ++ bb ++ uvar (zz (cl.length : Int)) := ⟨_, rfl⟩
  rw [← hall] at hW
  have hal : all.length ≤ 2000 ∧ 0 < all.length := by
    have h1 := uvar_len10 (n := bb.length) (by omega)
    have h2 := uvar_len10 (n := zz (cl.length : Int)) (zz_lt (by omega))
    have h3 := List.length_pos_iff.2 (uvar_ne bb.length)
    have h4 := congrArg List.length hall
    simp only [List.length_append] at h4; omega
  have halB : ∀ b ∈ all, isB b := by
    intro b hb
    rw [hall] at hb
    rcases List.mem_append.1 hb with hb | hb
    · rcases List.mem_append.1 hb with hb | hb
      · exact uvar_isB _ b hb
      · exact hbB b hb
    · exact uvar_isB _ b hb
  refine WL_nil ?_
  refine n_then ?_
  refine W_seq ?_
  refine W_region ?_
  refine s_callL (M := []) (L1 := LW) (X := Lb ++ (Lc ++ Ld)) Tryd.call9 rfl rfl (by simpa using hs) (fun h => wDone_ok b14 _ LW w hW h (by omega)) ?_
  clear hs; rintro u w L9 ⟨La, rfl, hOa⟩ - hs
  simp only [List.nil_append, List.append_assoc] at hs
  replace hs : St [] w0 w (La ++ (Lc ++ Ld)) := by simpa [cat] using St.reord [LW, La, Lb, Lc, Ld] [1, 3, 4] [0, 2] (by simpa [cat] using hs) rfl
  obtain ⟨ga, ca, sa, rfl, hca, hLa⟩ := hOa.block hal.2
  have hga : ga ∈ ids La := by rw [hLa]; simp [ids]
  clear hW hOb
  refine s_assign rfl rfl ?_
  refine WL_nil ?_
  refine n_then ?_
  refine W_seq ?_
  refine W_region ?_
  refine s_move rfl rfl ?_
  refine s_move rfl rfl ?_
  refine s_len rfl rfl (LN29 _ _ _ _) ?_
  first | (refine s_add' rfl rfl rfl ?hx ?_; case hx => (constructor <;> first | omega | (simp only; omega))) | refine s_add rfl rfl rfl ?_
  refine s_call Tryd.call10 rfl rfl (around_ok cut _ w (by omega) hcut) ?_
  rintro r w1 ⟨hw1, rfl⟩
  rw [hw1]; clear hw1 w1
  have hkr := aroundV_range (m := cut) (q := (all.length : Int) + 1) (by omega)
  obtain ⟨k, hk0⟩ : ∃ k : Nat, aroundV cut ((all.length : Int) + 1) = (k : Int) := ⟨(aroundV cut ((all.length : Int) + 1)).toNat, by omega⟩
  rw [hk0] at hkr ⊢
  have hkl : k ≤ all.length := by omega
  clear hk0
  refine s_assign rfl rfl ?_
  refine WL_nil ?_
  refine n_then ?_
  refine W_seq ?_
  refine W_seq ?_
  refine W_region ?_
  refine s_assign rfl rfl ?_
  refine WL_nil ?_
  refine n_then ?_
  refine W_block ?_
  refine W_loop (σ := Nat × Hp) (fun s => [(2, vk), (3, .int .i64 flip), (9, .pointer (some ⟨p, 0, none⟩)), (11, .slice ac cl.length cc), (15, .slice (some ⟨ga, 0, none⟩) all.length ca), (16, .int .i64 (k : Int)), (17, .int .i64 ((5 + s.1 : Nat) : Int))])
    (fun s w => St [] w0 w (La ++ (Lc ++ s.2)) ∧ DiskAt p (dcD all s.1) s.2 ∧ s.1 ≤ 2) (fun s => 2 - s.1) (0, Ld) ⟨rfl, rfl, rfl, rfl, rfl, rfl, rfl, trivial⟩ ⟨hs, hD, Nat.zero_le _⟩ ?_
  clear hs hD
  rintro ⟨n, Ld⟩ w ⟨hs, hD, hn⟩
  simp only at hs hD hn ⊢
  refine W_seq ?_
  refine W_seq ?_
  refine W_region ?_
  refine s_move rfl rfl ?_
  refine s_lss rfl rfl rfl ?_
  refine WL_nil ?_
  refine n_then ?_
  refine W_cond rfl (fun hc53 => ?_) (fun hc53 => ?_)
  · skip
    try simp only [decide_eq_true_eq, decide_eq_false_iff_not, gt_iff_lt, beq_iff_eq, beq_eq_false_iff_ne, ne_eq] at hc53
    have hn2 : n < 2 := by omega
    obtain ⟨hs1, hs2⟩ := dc_step all n k hn2 hal.1
    have hsa : ∀ (Ld : Hp) (w : World), St [] w0 w (La ++ (Lc ++ Ld)) → Sl w (.slice (some ⟨ga, 0, none⟩) all.length ca) all.length (u8s all) := fun Ld w h => OwnS_slIn hOa fun q hq => h.own q (by simp [hq])
    have hnot : ∀ (Ld : Hp) (w : World), St [] w0 w (La ++ (Lc ++ Ld)) → ga ∉ ids Ld := fun Ld w h hin => St_frontNot h hga (by rw [ids_append]; exact List.mem_append_right _ hin)
    refine W_skip ?_
    refine n_then ?_
    refine W_seq ?_
    refine W_block ?_
    refine W_seq ?_
    refine W_region ?_
    refine s_move rfl rfl ?_
    refine s_move rfl rfl ?_
    refine s_move rfl rfl ?_
    refine s_move rfl rfl ?_
    (refine s_slice_hi El29 rfl rfl rfl ?hx ?_; case hx => (constructor <;> omega))
    have hsl : Sl w (.slice (some ⟨ga, 0, none⟩) k ca) (all.take k).length (u8s (all.take k)) := by
      have h1 := (hsa _ _ hs).take (k := k) (size := 1) hkl rfl
      rw [Nat.mul_one, ← List.map_take] at h1
      rw [List.length_take, Nat.min_eq_left hkl]; exact h1
    refine s_callL (M := La ++ Lc) (L1 := Ld) (X := []) Tryd.call11 rfl rfl (by simpa using hs) (fun h => dAppend_ok p _ _ _ (all.take k) Ld w hD hsl (fun a m c he _ => by cases he; exact hnot _ _ hs) (fun b hb => halB b (List.mem_of_mem_take hb)) h) ?_
    rw [hs1]
    clear hs hD hsl; rintro u w Ld ⟨hD, rfl⟩ - hs
    simp only [List.append_nil, List.append_assoc] at hs
    simp only at hD
    refine WL_nil ?_
    refine n_then ?_
    refine W_region ?_
    refine s_move rfl rfl ?_
    refine s_move rfl rfl ?_
    refine s_move rfl rfl ?_
    refine s_move rfl rfl ?_
    (refine s_slice_lo El29 rfl rfl rfl ?hx ?_; case hx => (constructor <;> omega))
    have hsl := (hsa _ _ hs).drop (k := k) (size := 1) (by simp) hkl
    rw [Nat.mul_one, show List.drop k (u8s all) = u8s (all.drop k) from by simp [u8s, List.map_drop], show all.length - k = (all.drop k).length from by simp] at hsl
    refine s_callL (M := La ++ Lc) (L1 := Ld) (X := []) Tryd.call11 rfl rfl (by simpa using hs) (fun h => dAppend_ok p _ _ _ (all.drop k) Ld w hD (by simpa using hsl) (fun a m c he _ => by cases he; exact hnot _ _ hs) (fun b hb => halB b (List.mem_of_mem_drop hb)) h) ?_
    rw [hs2]
    clear hs hD hsl; rintro u w Ld ⟨hD, rfl⟩ - hs
    simp only [List.append_nil, List.append_assoc] at hs
    simp only at hD
    refine WL_nil ?_
    refine n_blk ?_
    refine n_then ?_
    refine W_region ?_
    refine s_move rfl rfl ?_
    first | (refine s_add' rfl rfl rfl ?hx ?_; case hx => (constructor <;> first | omega | (simp only; omega))) | refine s_add rfl rfl rfl ?_
    refine s_assign rfl rfl ?_
    refine WL_nil ?_
    refine n_loop ?_
    exact ⟨(n + 1, Ld), ⟨rfl, rfl, rfl, rfl, rfl, rfl, rfl, trivial⟩, ⟨hs, hD, by simp only; omega⟩, by simp only; omega⟩
  · skip
    try simp only [decide_eq_true_eq, decide_eq_false_iff_not, gt_iff_lt, beq_iff_eq, beq_eq_false_iff_ne, ne_eq] at hc53
    refine W_exit ?_
    refine x_then ?_
    refine x_then ?_
    refine exit_hit ?_
    refine n_then ?_
    refine W_seq ?_
    refine W_region ?_
    refine s_move rfl rfl ?_
    have hn2 : n = 2 := by omega
    subst hn2
    obtain ⟨hf1, hf2, hf3⟩ := dc_fin all hal.1
    refine s_callL (M := La ++ Lc) (L1 := Ld) (X := []) Tryd.call12 rfl rfl (by simpa using hs) (fun h => dSync_ok p _ Ld w hD h) ?_
    rw [hf1]
    clear hs hD; rintro u w Ld ⟨hD, rfl⟩ - hs
    simp only [List.append_nil, List.append_assoc] at hs
    simp only at hD
    refine WL_nil ?_
    refine n_then ?_
    refine W_seq ?_
    refine W_region ?_
    refine s_move rfl rfl ?_
    refine s_buildSlice rfl rfl (BS29_3 _ _ _) hs ?_; clear hs; intro b71 w hs
    refine s_callL (M := [_] ++ (La ++ Lc)) (L1 := Ld) (X := []) Tryd.call11 rfl rfl (by simpa using hs) (fun h => dAppend_ok p _ 6 _ [9, 9, 9] Ld w hD (Sl_lit hs rfl) (fun a m c he _ => by cases he; exact St_frontNot (A := [_] ++ (La ++ Lc)) (by simpa using hs) (by simp [ids])) (by decide) h) ?_
    rw [hf2]
    clear hs hD; rintro u w Ld ⟨hD, rfl⟩ - hs
    simp only [List.append_nil, List.cons_append, List.nil_append, List.append_assoc] at hs
    simp only at hD
    replace hs := hs.tail
    refine WL_nil ?_
    refine n_then ?_
    refine W_seq ?_
    refine W_region ?_
    refine s_move rfl rfl ?_
    refine s_buildSlice rfl rfl (BS29_1 _) hs ?_; clear hs; intro b74 w hs
    refine s_callL (M := [_] ++ (La ++ Lc)) (L1 := Ld) (X := []) Tryd.call11 rfl rfl (by simpa using hs) (fun h => dAppend_ok p _ 8 _ [1] Ld w hD (Sl_lit hs rfl) (fun a m c he _ => by cases he; exact St_frontNot (A := [_] ++ (La ++ Lc)) (by simpa using hs) (by simp [ids])) (by decide) h) ?_
    rw [hf3]
    clear hs hD; rintro u w Ld ⟨hD, rfl⟩ - hs
    simp only [List.append_nil, List.cons_append, List.nil_append, List.append_assoc] at hs
    simp only at hD
    replace hs := hs.tail
    refine WL_nil ?_
    refine n_then ?_
    refine W_seq ?_
    refine W_region ?_
    refine s_move rfl rfl ?_
    refine s_move rfl rfl ?_
    refine s_call Tryd.call14 rfl rfl (ints_ok vk keep 3 w (hk.fwd0 hs.fwd) (by omega)) ?_
    rintro r w ⟨Lk, hOk, hst⟩
    replace hs := St.back0 hs hst
    clear hst
    obtain ⟨k3, hk3⟩ : ∃ k3, k3 = keep.take 3 := ⟨_, rfl⟩
    have hk3l : k3.length = min keep.length 3 := by rw [hk3]; simp [Nat.min_comm]
    rw [← hk3, ← hk3l] at hOk
    refine s_move rfl rfl ?_
    refine s_callL (M := Lk ++ (La ++ Lc)) (L1 := Ld) (X := []) Tryd.call13 rfl rfl (by simpa using hs) (fun h => dCrash_ok p _ _ k3 flip Ld w hD (OwnS_slIn hOk fun q hq => hs.own q (by simp [hq])) (fun a m c he hne => by cases he; exact fun hin => St_frontNot hs (OwnS_in hOk hne) (by rw [ids_append, ids_append]; simp [hin])) hflip h) ?_
    obtain ⟨hc1, hc2, r6, hc3⟩ := dc_crash all k3 flip hD.firmOk
    generalize (dcF all).crash k3 flip = E at hc1 hc2 hc3 ⊢
    clear hs hD; rintro u w Ld hD - hs
    simp only [List.append_nil, List.append_assoc] at hs
    replace hs := St.right (M := Lk) hs
    have hfile : ∀ n, n < 2 → ∃ r, E.c ((5 + n : Nat) : Int) = all ++ r ∧ (n = 0 → r = []) := by
      intro n hn
      match n, hn with
      | 0, _ => exact ⟨[], by rw [List.append_nil]; exact hc2, fun _ => rfl⟩
      | 1, _ => exact ⟨r6, hc3, fun h => by cases h⟩
    refine WL_nil ?_
    refine n_then ?_
    refine W_seq ?_
    refine W_seq ?_
    refine W_region ?_
    refine s_assign rfl rfl ?_
    refine WL_nil ?_
    refine n_then ?_
    refine W_block ?_
    refine W_loop (σ := Nat × Hp) (fun s => [(9, .pointer (some ⟨p, 0, none⟩)), (11, .slice ac cl.length cc), (18, .int .i64 ((5 + s.1 : Nat) : Int))])
      (fun s w => St [] w0 w (La ++ (Lc ++ s.2)) ∧ DiskAt p E s.2 ∧ s.1 ≤ 2) (fun s => 2 - s.1) (0, Ld) ⟨rfl, rfl, rfl, trivial⟩ ⟨hs, hD, Nat.zero_le _⟩ ?_
    clear hs hD
    rintro ⟨n, Ld⟩ w ⟨hs, hD, hn⟩
    simp only at hs hD hn ⊢
    refine W_seq ?_
    refine W_seq ?_
    refine W_region ?_
    refine s_move rfl rfl ?_
    refine s_lss rfl rfl rfl ?_
    refine WL_nil ?_
    refine n_then ?_
    refine W_cond rfl (fun hc82 => ?_) (fun hc82 => ?_)
    · skip
      try simp only [decide_eq_true_eq, decide_eq_false_iff_not, gt_iff_lt, beq_iff_eq, beq_eq_false_iff_ne, ne_eq] at hc82
      have hn2 : n < 2 := by omega
      obtain ⟨rr, hr1, hr2⟩ := hfile n hn2
      obtain ⟨hq1, hq2⟩ := readE_ok (D := E) (f := ((5 + n : Nat) : Int)) (by omega) hc1
      have hEB := hD.isB ((5 + n : Nat) : Int)
      rw [hr1] at hq2 hEB
      have hrl : (all ++ rr).length ≤ 16777216 := by
        have h1 := len_le_total E (f := ((5 + n : Nat) : Int)) (by omega)
        obtain ⟨m, o, fs, -, -, -, hR, -⟩ := hD
        rw [hr1] at h1; omega
      have hraw : rdRaw ⟨all ++ rr, 0⟩ = (bb, ⟨uvar (zz (cl.length : Int)) ++ rr, 0⟩) := by
        rw [hall, List.append_assoc, List.append_assoc]
        exact rdRaw_uvar (by omega)
      have hint : rdI ⟨uvar (zz (cl.length : Int)) ++ rr, 0⟩ = ((cl.length : Int), ⟨rr, 0⟩) := rdI_uvar (by omega)
      refine W_skip ?_
      refine n_then ?_
      refine W_seq ?_
      refine W_block ?_
      refine W_seq ?_
      refine W_region ?_
      refine s_move rfl rfl ?_
      refine s_move rfl rfl ?_
      refine s_callL (M := La ++ Lc) (L1 := Ld) (X := []) Tryd.call15 rfl rfl (by simpa using hs) (fun h => dRead_ok p _ _ Ld w hD h) ?_
      clear hs; rintro u w L9 ⟨v1, Lr, rfl, rfl, hOr⟩ - hs
      simp only [List.append_nil, List.append_assoc] at hs
      rw [hq2] at hOr
      rw [hq1]
      obtain ⟨_, cr, ar, rfl, hvr⟩ := hOr.form
      subst hvr
      refine s_move rfl rfl ?_
      refine s_extract rfl rfl rfl ?_
      refine s_extract rfl rfl rfl ?_
      refine s_assign rfl rfl ?_
      refine s_assign rfl rfl ?_
      refine WL_nil ?_
      refine n_then ?_
      refine W_seq ?_
      refine W_region ?_
      refine s_move rfl rfl ?_
      refine s_call Tryd.call16 rfl rfl (read_ok _ (all ++ rr) w (OwnS_slIn hOr fun q hq => hs.own q (by simp [hq])) (by omega) hEB) ?_
      rintro r w ⟨q, LR, rfl, hR, hst⟩
      replace hs := St.back0 hs hst
      clear hst
      refine s_assign rfl rfl ?_
      refine WL_nil ?_
      refine n_then ?_
      refine W_seq ?_
      refine W_seq ?_
      refine W_region ?_
      refine s_move rfl rfl ?_
      refine s_neq rfl rfl rfl ?_
      refine s_move rfl rfl ?_
      refine WL_know (s := 95) (c := false) rfl (rfl) ?_
      refine WL_take rfl ?_
      refine s_move rfl rfl ?_
      refine WL_take rfl ?_
      refine s_eql_ptr_nil Tryd.underlying43 rfl rfl rfl ?_
      refine s_pick_f rfl rfl rfl ?_
      refine WL_nil ?_
      refine n_then ?_
      refine W_cond_kf rfl (rfl) ?_
      refine W_skip ?_
      refine n_then ?_
      refine W_seq ?_
      refine W_region ?_
      refine s_move rfl rfl ?_
      refine s_callL (M := []) (L1 := LR) (X := La ++ (Lc ++ (Lr ++ Ld))) Tryd.call18 rfl rfl hs (fun h => rRaw_ok q _ LR w hR h) ?_
      rw [hraw]
      clear hs hR; rintro u w L9 ⟨LR, Lq, rfl, hR, hOq⟩ - hs
      simp only [List.nil_append, List.append_assoc] at hs hR hOq
      rw [hbb] at hOq
      refine s_call Tryd.call17 rfl rfl (coDecode_ok _ cl w (hg.st hs (by simp)) (OwnS_slIn hOq fun q hq => hs.own q (by simp [hq])) hok (by omega)) ?_
      rintro r w ⟨uc, Le, rfl, hOe, hst⟩
      replace hs := St.back0 hs hst
      clear hst
      refine s_move rfl rfl ?_
      refine s_extract rfl rfl rfl ?_
      refine s_extract rfl rfl rfl ?_
      refine s_assign rfl rfl ?_
      refine s_assign rfl rfl ?_
      refine WL_nil ?_
      refine n_then ?_
      refine W_seq ?_
      refine W_seq ?_
      refine W_region ?_
      refine s_move rfl rfl ?_
      refine s_neq rfl rfl rfl ?_
      refine s_move rfl rfl ?_
      refine WL_know (s := 107) (c := false) rfl (rfl) ?_
      refine WL_take rfl ?_
      refine s_move rfl rfl ?_
      refine WL_take rfl ?_
      refine s_callL (M := Le) (L1 := LR) (X := Lq ++ (La ++ (Lc ++ (Lr ++ Ld)))) Tryd.call19 rfl rfl hs (fun h => rInt_ok q _ LR w hR h) ?_
      rw [hint]
      clear hs hR; rintro u w LR ⟨hR, rfl⟩ - hs
      simp only at hR
      refine WL_take rfl ?_
      refine s_move rfl rfl ?_
      refine WL_take rfl ?_
      refine s_len rfl rfl (LN27 _ _ _ _) ?_
      refine WL_take rfl ?_
      refine s_neq rfl rfl rfl ?_
      refine s_pick_f rfl rfl rfl ?_
      refine s_move rfl rfl ?_
      refine WL_know (s := 114) (c := false) rfl ((by simp)) ?_
      refine WL_take rfl ?_
      refine s_move rfl rfl ?_
      refine WL_take rfl ?_
      refine s_move rfl rfl ?_
      refine WL_take rfl ?_
      refine s_call Tryd.call20 rfl rfl (clSame15_ok _ _ cl w (OwnS_slIn hOe fun q hq => hs.own q (by simp [hq])) (OwnS_slIn hOc fun q hq => hs.own q (by simp [hq])) (by omega)) ?_
      rintro r w ⟨hst, rfl⟩
      replace hs := hs.fwd1 hst
      clear hst
      refine WL_take rfl ?_
      refine s_not rfl rfl ?_
      refine s_pick_f rfl rfl rfl ?_
      refine WL_nil ?_
      refine n_then ?_
      refine W_cond_kf rfl (rfl) ?_
      refine W_skip ?_
      refine n_then ?_
      refine W_seq ?_
      refine W_region ?_
      refine s_move rfl rfl ?_
      refine s_eql rfl rfl rfl ?_
      refine s_move rfl rfl ?_
      refine WL_case (s := 122) rfl (fun hg122 => ?_) (fun hg122 => ?_)
      · skip
        try simp only [decide_eq_true_eq, decide_eq_false_iff_not, gt_iff_lt, beq_iff_eq, beq_eq_false_iff_ne, ne_eq] at hg122
        refine WL_take rfl ?_
        refine s_move rfl rfl ?_
        refine WL_take rfl ?_
        refine s_callL (M := Le) (L1 := LR) (X := Lq ++ (La ++ (Lc ++ (Lr ++ Ld)))) Tryd.call21 rfl rfl hs (fun h => rEnd_ok q _ LR w hR h) ?_
        rw [hr2 (by omega), show rdEnd ⟨[], 0⟩ = 0 from rfl]
        clear hs; rintro u w L9 ⟨hL9, rfl⟩ - hs
        rw [hL9] at hs; clear hL9 L9
        refine WL_take rfl ?_
        refine s_neq rfl rfl rfl ?_
        refine s_pick_t rfl rfl rfl ?_
        refine WL_nil ?_
        refine n_then ?_
        refine W_cond_kf rfl (rfl) ?_
        refine W_skip ?_
        refine n_blk ?_
        refine n_then ?_
        refine W_region ?_
        refine s_move rfl rfl ?_
        first | (refine s_add' rfl rfl rfl ?hx ?_; case hx => (constructor <;> first | omega | (simp only; omega))) | refine s_add rfl rfl rfl ?_
        refine s_assign rfl rfl ?_
        refine WL_nil ?_
        refine n_loop ?_
        exact ⟨(n + 1, Ld), ⟨rfl, rfl, rfl, trivial⟩, ⟨by simpa [cat] using St.reord [Le, LR, Lq, La, Lc, Lr, Ld] [3, 4, 6] [0, 1, 2, 5] (by simpa [cat] using hs) rfl, hD, by simp only; omega⟩, by simp only; omega⟩
      · skip
        try simp only [decide_eq_true_eq, decide_eq_false_iff_not, gt_iff_lt, beq_iff_eq, beq_eq_false_iff_ne, ne_eq] at hg122
        refine WL_skip rfl rfl rfl ?_
        refine WL_skip rfl rfl rfl ?_
        refine WL_skip rfl rfl rfl ?_
        refine s_pick_f rfl rfl rfl ?_
        refine WL_nil ?_
        refine n_then ?_
        refine W_cond_f rfl ?_
        refine W_skip ?_
        refine n_blk ?_
        refine n_then ?_
        refine W_region ?_
        refine s_move rfl rfl ?_
        first | (refine s_add' rfl rfl rfl ?hx ?_; case hx => (constructor <;> first | omega | (simp only; omega))) | refine s_add rfl rfl rfl ?_
        refine s_assign rfl rfl ?_
        refine WL_nil ?_
        refine n_loop ?_
        exact ⟨(n + 1, Ld), ⟨rfl, rfl, rfl, trivial⟩, ⟨by simpa [cat] using St.reord [Le, LR, Lq, La, Lc, Lr, Ld] [3, 4, 6] [0, 1, 2, 5] (by simpa [cat] using hs) rfl, hD, by simp only; omega⟩, by simp only; omega⟩
    · skip
      try simp only [decide_eq_true_eq, decide_eq_false_iff_not, gt_iff_lt, beq_iff_eq, beq_eq_false_iff_ne, ne_eq] at hc82
      refine W_exit ?_
      refine x_then ?_
      refine x_then ?_
      refine exit_hit ?_
      refine n_then ?_
      refine W_seq ?_
      refine W_region ?_
      refine s_call Tryd.call22 rfl rfl (lives_ok w) ?_
      rintro r w ⟨hst, rfl⟩
      replace hs := hs.fwd1 hst
      clear hst
      refine s_assign rfl rfl ?_
      refine WL_nil ?_
      refine n_then ?_
      refine W_ret ?_
      exact end1 rfl rfl ⟨hs.fwd, rfl⟩
end Go.Proofs.YtbcdnpjcbchbjaaDoor
