/- DiskHash. -/
import Derived.Test.YthfcdjbkbmhjgaaOne
import Derived.Test.YthfcdjbkbmhjgaaHash
set_option linter.unusedVariables false
set_option linter.unusedSimpArgs false
namespace Go.Proofs.Ythfcdjbkbmhjgaa
open Go.SL
theorem keptV_all {k : Int} {room : Nat} (h : (room : Int) ≤ k) : keptV [k] 0 room = room := by
  unfold keptV
  rw [if_pos (by simp)]
  simp only [List.getD_cons_zero]
  rw [if_neg (show ¬ k < 0 by omega)]
  split <;> omega
theorem invF_ne {bs : List Int} {d : Nat} {at_ : Int} (h : 0 ≤ at_ ∧ at_ < 8 * ((bs.length : Int) - d)) (hB : ∀ b ∈ bs, isB b) : invF bs d at_ ≠ bs := by
  rw [invF, if_pos h]
  have hl : d + (at_ / 8).toNat < bs.length := by omega
  obtain ⟨z, hz⟩ : ∃ z, bs[d + (at_ / 8).toNat]? = some z := ⟨_, List.getElem?_eq_getElem hl⟩
  rw [List.getD_eq_getElem?_getD, hz]
  intro he
  have h1 := congrArg (fun l => l[d + (at_ / 8).toNat]?) he
  simp only [List.getElem?_set_self hl, hz, Option.getD_some] at h1
  exact (xbit_facts (k := (at_ % 8).toNat) (hB z (List.mem_of_getElem? hz)) (by omega)).2.2.2 (Option.some.inj h1)
theorem crashB_isB {keep : List Int} {flip : Int} {bs : List Int} {d : Nat} (hB : ∀ b ∈ bs, isB b) : ∀ b ∈ crashB keep flip bs d, isB b := by
  unfold crashB
  split
  · exact invF_isB fun b hb => hB b (List.mem_of_mem_take hb)
  · exact fun b hb => hB b (List.mem_of_mem_take hb)
theorem crash8 {flip : Int} {ow : List Int} {sy : Bool} (hB : ∀ b ∈ ow, isB b) (hl : 0 < ow.length ∧ ow.length ≤ 8) : (crashB [8] flip ow (if sy then ow.length else 0)).length = ow.length ∧ (crashB [8] flip ow (if sy then ow.length else 0) = ow ↔ (sy || decide (flip < 0)) = true) := by
  have hd : (if sy then ow.length else 0) ≤ ow.length := by split <;> omega
  have hk : keptV [8] 0 (ow.length - (if sy then ow.length else 0)) = ow.length - (if sy then ow.length else 0) := keptV_all (by split <;> omega)
  refine ⟨by rw [crashB_length hd, hk]; omega, ?_⟩
  unfold crashB
  rw [hk, show (if sy = true then ow.length else 0) + (ow.length - (if sy = true then ow.length else 0)) = ow.length by omega, List.take_of_length_le (Nat.le_refl _)]
  cases sy with
  | true => simp
  | false =>
    simp only [Bool.false_eq_true, if_false, Nat.sub_zero, Bool.false_or, decide_eq_true_eq]
    by_cases hf : 0 ≤ flip
    · rw [if_pos ⟨hf, hl.1⟩]
      refine ⟨fun h => absurd h (invF_ne ⟨Int.emod_nonneg _ (by omega), ?_⟩ hB), fun h => by omega⟩
      have := Int.emod_lt_of_pos flip (b := 8 * (ow.length : Int)) (by omega)
      simpa using this
    · rw [if_neg (fun h => hf h.1)]
      exact ⟨fun _ => by omega, fun _ => rfl⟩
set_option maxHeartbeats 2000000 in
theorem diskHash_ok (vb : Value) (bs : List Int) (flip : Int) (sy : Bool) (w0 : World) (hb : Sl w0 vb bs.length (u8s bs)) (hbb : ∀ z ∈ bs, isB z) (hflip : isI64 flip) :
    Ret Try.prog 9 [vb, .int .i64 flip, .bool sy].toArray w0 fun r w' => Fwd [] w0 w' ∧ r = .bool true := by
  obtain ⟨mx, hmx⟩ := isMix
  obtain ⟨o7, ho7⟩ : ∃ o7, o7 = bs.take 7 := ⟨_, rfl⟩
  have hol : o7.length = min bs.length 7 := by rw [ho7]; simp [Nat.min_comm]
  have hol2 : min bs.length 7 ≤ 7 := Nat.min_le_right _ _
  obtain ⟨ow, how⟩ : ∃ ow, ow = o7 ++ [1] := ⟨_, rfl⟩
  have hwl : ow.length = o7.length + 1 := by rw [how]; simp
  have howB : ∀ z ∈ ow, isB z := by
    intro z hz
    rw [how] at hz
    rcases List.mem_append.1 hz with hz | hz
    · exact hbb z (List.mem_of_mem_take (by rw [← ho7]; exact hz))
    · rw [List.mem_singleton.1 hz]; unfold isB; omega
  obtain ⟨dd, hdd⟩ : ∃ dd : Nat, dd = (if sy then ow.length else 0) := ⟨_, rfl⟩
  have hdl : dd ≤ ow.length := by rw [hdd]; split <;> omega
  obtain ⟨x, hx⟩ : ∃ x, x = crashB [8] flip ow dd := ⟨_, rfl⟩
  have hc8 := crash8 (flip := flip) (sy := sy) howB (by omega)
  rw [← hdd, ← hx] at hc8
  have hxB : ∀ z ∈ x, isB z := by rw [hx]; exact crashB_isB howB
  have hhash : ((hashV mx (bytesOf ⟨#[102]⟩) x : Int) == (hashV mx (bytesOf ⟨#[102]⟩) ow : Int)) = (sy || decide (flip < 0)) := by
    have h1 := hashV_inj hmx (lab := bytesOf ⟨#[102]⟩) hxB howB hc8.1 (by omega)
    rw [hc8.2] at h1
    rw [Bool.eq_iff_iff, beq_iff_eq, ← h1]
    omega
  refine Ret_start fun w hs => ?_
  refine Ret_of Try.func9 rfl Try.ntmps9 rfl ?_
  refine W_seq ?_
  refine W_region ?_
  refine s_assign rfl rfl ?_
  refine WL_nil ?_
  refine n_then ?_
  refine W_seq ?_
  refine W_region ?_
  refine s_call Try.call10 rfl rfl (dNew_ok 100 w) ?_
  rintro v w (⟨-, -, p, Ld, rfl, hD, hst⟩ | ⟨h, -⟩)
  rotate_left
  · exact absurd ⟨by omega, by omega⟩ h
  replace hs := (St.back0 hs hst).left
  clear hst
  rw [one_new 100 0] at hD
  refine s_move rfl rfl ?_
  refine s_extract rfl rfl rfl ?_
  refine s_extract rfl rfl rfl ?_
  refine s_assign rfl rfl ?_
  refine s_assign rfl rfl ?_
  refine WL_nil ?_
  refine n_then ?_
  refine W_seq ?_
  refine W_seq ?_
  refine W_region ?_
  refine s_move rfl rfl ?_
  refine s_eql_ptr_nil Try.underlying23 rfl rfl rfl ?_
  refine s_move rfl rfl ?_
  refine WL_know (s := 18) (c := false) rfl (rfl) ?_
  refine WL_take rfl ?_
  refine s_move rfl rfl ?_
  refine WL_take rfl ?_
  refine s_neq rfl rfl rfl ?_
  refine s_pick_f rfl rfl rfl ?_
  refine WL_nil ?_
  refine n_then ?_
  refine W_cond_kf rfl (rfl) ?_
  refine W_skip ?_
  refine n_then ?_
  refine W_seq ?_
  refine W_region ?_
  refine s_move rfl rfl ?_
  refine s_call Try.call12 rfl rfl (few_ok vb bs 7 w (hb.fwd0 hs.fwd) (by omega)) ?_
  rintro r w ⟨Lo, hOo, hst⟩
  replace hs := St.back0 hs hst
  clear hst
  rw [← ho7, ← hol] at hOo
  refine s_buildSlice rfl rfl (BS27_1 _) hs ?_; clear hs; intro b24 w hs
  refine s_appendM (M := [_]) (X := Ld) El27 rfl rfl rfl hOo hs (Sl_lit hs rfl) rfl (by simp [Value.oneCell']) (by simp only [List.length_cons, List.length_nil]; omega) ?_
  clear hs; intro v' w Lo hO1 hs
  simp only [List.cons_append, List.nil_append] at hs
  replace hs := hs.tail
  replace hO1 : OwnS 5 1 v' ow.length (u8s ow) Lo := by rw [how, List.length_append, u8s, List.map_append]; exact hO1
  obtain ⟨_, co, ao, rfl, hvo⟩ := hO1.form
  subst hvo
  clear hOo
  refine s_assign rfl rfl ?_
  refine WL_nil ?_
  refine n_then ?_
  refine W_seq ?_
  refine W_region ?_
  refine s_move rfl rfl ?_
  refine s_move rfl rfl ?_
  refine s_callL (M := Lo) (L1 := Ld) (X := []) Try.call13 rfl rfl (by simpa using hs) (fun h => dAppend_ok p _ 0 _ ow Ld w hD (OwnS_slIn hO1 fun p hp => hs.own p (by simp [hp])) (fun a m c he hne => by cases he; exact St_frontNot hs (OwnS_in hO1 hne)) howB h) ?_
  rw [one_app (by omega) (by simp only [List.length_nil]; omega) (by simp), if_pos rfl, List.nil_append]
  clear hs hD; rintro u w Ld ⟨hD, rfl⟩ - hs
  simp only [List.append_nil] at hs hD
  refine WL_nil ?_
  refine n_then ?_
  refine W_cut (σ := Hp) (fun _ => [(1, .int .i64 flip), (2, .bool sy), (7, .pointer (some ⟨p, 0, none⟩)), (9, .slice ao ow.length co)]) (fun Ld w => St [] w0 w (Lo ++ Ld) ∧ DiskAt p (oneDk 100 false false 0 0 ow dd) Ld) ?_ ?_
  · skip
    refine W_seq ?_
    refine W_region ?_
    refine s_move rfl rfl ?_
    refine WL_nil ?_
    refine n_then ?_
    refine W_cond rfl (fun hc29 => ?_) (fun hc29 => ?_)
    · skip
      try simp only [decide_eq_true_eq, decide_eq_false_iff_not, gt_iff_lt] at hc29
      refine W_region ?_
      refine s_move rfl rfl ?_
      refine s_callL (M := Lo) (L1 := Ld) (X := []) Try.call14 rfl rfl (by simpa using hs) (fun h => dSync_ok p _ Ld w hD h) ?_
      rw [one_sync, if_pos rfl]
      clear hs hD; rintro u w Ld ⟨hD, rfl⟩ - hs
      simp only [List.append_nil] at hs hD
      refine WL_nil ?_
      refine n_loop ?_
      first
        | (rw [if_pos (by assumption)] at hdd
           rw [hdd]; exact ⟨Ld, ⟨rfl, rfl, rfl, rfl, trivial⟩, hs, hD⟩)
        | (rw [if_neg (by simp [*])] at hdd
           rw [hdd]; exact ⟨Ld, ⟨rfl, rfl, rfl, rfl, trivial⟩, hs, hD⟩)
    · skip
      try simp only [decide_eq_true_eq, decide_eq_false_iff_not, gt_iff_lt] at hc29
      refine W_skip ?_
      refine n_loop ?_
      first
        | (rw [if_pos (by assumption)] at hdd
           rw [hdd]; exact ⟨Ld, ⟨rfl, rfl, rfl, rfl, trivial⟩, hs, hD⟩)
        | (rw [if_neg (by simp [*])] at hdd
           rw [hdd]; exact ⟨Ld, ⟨rfl, rfl, rfl, rfl, trivial⟩, hs, hD⟩)
  · skip
    clear hs hD
    rintro Ld w ⟨hs, hD⟩
    refine W_seq ?_
    refine W_region ?_
    refine s_move rfl rfl ?_
    refine s_buildSlice rfl rfl (BS33_1 _) hs ?_; clear hs; intro b33 w hs
    refine s_move rfl rfl ?_
    refine s_callL (M := [_] ++ Lo) (L1 := Ld) (X := []) Try.call15 rfl rfl (by simpa using hs) (fun h => dCrash_ok p _ _ [8] flip Ld w hD (Sl_lit hs rfl) (fun a m c he _ => by cases he; exact St_frontNot (A := [_] ++ Lo) (by simpa using hs) (by simp [ids])) hflip h) ?_
    rw [one_crash (by omega) hdl, ← hx]
    clear hs hD; rintro u w Ld hD - hs
    simp only [List.append_nil, List.cons_append, List.nil_append] at hs
    replace hs := hs.tail
    obtain ⟨hq1, hq2⟩ := readE_ok (D := oneDk 100 false false 0 0 x x.length) (f := 0) (by omega) rfl
    rw [(one_c 100 false false 0 0 x x.length).1] at hq2
    refine WL_nil ?_
    refine n_then ?_
    refine W_seq ?_
    refine W_region ?_
    refine s_move rfl rfl ?_
    refine s_callL (M := Lo) (L1 := Ld) (X := []) Try.call16 rfl rfl (by simpa using hs) (fun h => dRead_ok p _ 0 Ld w hD h) ?_
    clear hs; rintro u w L9 ⟨v1, Lr1, rfl, rfl, hOx⟩ - hs
    simp only [List.append_nil] at hs
    rw [hq2] at hOx
    rw [hq1]
    obtain ⟨_, cx, ax, rfl, hvx⟩ := hOx.form
    subst hvx
    refine s_move rfl rfl ?_
    refine s_extract rfl rfl rfl ?_
    refine s_extract rfl rfl rfl ?_
    refine s_assign rfl rfl ?_
    refine s_assign rfl rfl ?_
    refine WL_nil ?_
    refine n_then ?_
    refine W_seq ?_
    refine W_region ?_
    refine s_move rfl rfl ?_
    refine s_eql rfl rfl rfl ?_
    refine s_move rfl rfl ?_
    refine WL_know (s := 43) (c := true) rfl (rfl) ?_
    refine WL_take rfl ?_
    refine s_move rfl rfl ?_
    refine WL_take rfl ?_
    refine s_len rfl rfl (LN27 _ _ _ _) ?_
    refine WL_take rfl ?_
    refine s_move rfl rfl ?_
    refine WL_take rfl ?_
    refine s_len rfl rfl (LN27 _ _ _ _) ?_
    refine WL_take rfl ?_
    refine s_eql rfl rfl rfl ?_
    refine s_pick_t rfl rfl rfl ?_
    refine s_move rfl rfl ?_
    refine WL_know (s := 50) (c := true) rfl ((by rw [hc8.1]; simp)) ?_
    refine WL_take rfl ?_
    refine s_move rfl rfl ?_
    refine WL_take rfl ?_
    refine s_call Try.call31 rfl rfl (hBytes_ok hmx ⟨#[102]⟩ _ x w (OwnS_slIn hOx fun p hp => hs.own p (by simp [hp])) hxB (by decide) (by omega)) ?_
    rintro r w ⟨hst, rfl⟩
    replace hs := hs.fwd1 hst
    clear hst
    refine WL_take rfl ?_
    refine s_move rfl rfl ?_
    refine WL_take rfl ?_
    refine s_call Try.call31 rfl rfl (hBytes_ok hmx ⟨#[102]⟩ _ ow w (OwnS_slIn hO1 fun p hp => hs.own p (by simp [hp])) howB (by decide) (by omega)) ?_
    rintro r w ⟨hst, rfl⟩
    replace hs := hs.fwd1 hst
    clear hst
    refine WL_take rfl ?_
    refine s_eql rfl rfl rfl ?_
    rw [hhash]
    refine WL_take rfl ?_
    refine s_move rfl rfl ?_
    refine WL_take rfl ?_
    refine s_move rfl rfl ?_
    refine WL_case (s := 57) rfl (fun hg57 => ?_) (fun hg57 => ?_)
    · skip
      try simp only [decide_eq_true_eq, decide_eq_false_iff_not, gt_iff_lt] at hg57
      refine WL_skip rfl rfl rfl ?_
      refine WL_skip rfl rfl rfl ?_
      refine WL_take rfl ?_
      refine s_pick_t rfl rfl rfl ?_
      refine WL_take rfl ?_
      refine s_eql_bool Try.underlying4 rfl rfl rfl ?_
      refine s_pick_t rfl rfl rfl ?_
      refine s_move rfl rfl ?_
      refine WL_know (s := 63) (c := true) rfl ((by simp [*])) ?_
      refine WL_take rfl ?_
      refine s_call Try.call18 rfl rfl (lives_ok w) ?_
      rintro r w ⟨hst, rfl⟩
      replace hs := hs.fwd1 hst
      clear hst
      refine s_pick_t rfl rfl rfl ?_
      refine s_assign rfl rfl ?_
      refine WL_nil ?_
      refine n_then ?_
      refine W_ret ?_
      exact end1 rfl rfl ⟨hs.fwd, rfl⟩
    · skip
      try simp only [decide_eq_true_eq, decide_eq_false_iff_not, gt_iff_lt] at hg57
      refine WL_take rfl ?_
      refine s_move rfl rfl ?_
      refine WL_take rfl ?_
      refine s_lss rfl rfl rfl ?_
      refine WL_take rfl ?_
      refine s_pick_f rfl rfl rfl ?_
      refine WL_take rfl ?_
      refine s_eql_bool Try.underlying4 rfl rfl rfl ?_
      refine s_pick_t rfl rfl rfl ?_
      refine s_move rfl rfl ?_
      refine WL_know (s := 63) (c := true) rfl ((by simp [*])) ?_
      refine WL_take rfl ?_
      refine s_call Try.call18 rfl rfl (lives_ok w) ?_
      rintro r w ⟨hst, rfl⟩
      replace hs := hs.fwd1 hst
      clear hst
      refine s_pick_t rfl rfl rfl ?_
      refine s_assign rfl rfl ?_
      refine WL_nil ?_
      refine n_then ?_
      refine W_ret ?_
      exact end1 rfl rfl ⟨hs.fwd, rfl⟩
end Go.Proofs.Ythfcdjbkbmhjgaa
