/- DiskPrefix. -/
import Derived.Test.YthfcdjbkbmhjgaaDkK
set_option linter.unusedVariables false
set_option linter.unusedSimpArgs false
namespace Go.Proofs.Ythfcdjbkbmhjgaa
open Go.SL
def pop8 (k : Nat) : Nat := k % 2 + k / 2 % 2 + k / 4 % 2 + k / 8 % 2 + k / 16 % 2 + k / 32 % 2 + k / 64 % 2 + k / 128 % 2
theorem pop8_step {k : Nat} (h : k < 256) : pop8 k = k % 2 + pop8 (k / 2) := by unfold pop8; omega
theorem pop8_le (k : Nat) : pop8 k ≤ 8 := by unfold pop8; omega
theorem pop8_xbit : ∀ x : Fin 256, ∀ k : Fin 8, pop8 ((xbit ((x.val : Nat) : Int) k.val).toNat ^^^ x.val) = 1 := by decide +kernel
theorem xor8 (a b : Nat) (ha : a < 256) (hb : b < 256) : IntKind.u8.wrap (((BitVec.ofInt IntKind.u8.bits (a : Int) ^^^ BitVec.ofInt IntKind.u8.bits (b : Int)).toNat : Nat) : Int) = ((a ^^^ b : Nat) : Int) := by
  have h1 : a ^^^ b < 256 := Nat.xor_lt_two_pow (n := 8) ha hb
  rw [show IntKind.u8.bits = 8 from rfl, ofInt_nat, ofInt_nat, BitVec.toNat_xor, BitVec.toNat_ofNat, BitVec.toNat_ofNat, Nat.mod_eq_of_lt (show a < 2 ^ 8 by omega), Nat.mod_eq_of_lt (show b < 2 ^ 8 by omega), IntWalk.u8_in _ (by omega)]
/-- the loose byte that a crash turns, if it turns one -/
def turnAt (keep flip : Int) (len d : Nat) : Option Nat := if 0 ≤ flip ∧ 0 < keptV [keep] 0 (len - d) then some (d + (flip % (8 * (keptV [keep] 0 (len - d) : Int)) / 8).toNat) else none
def turnT (o : Option Nat) (i : Nat) : Nat := match o with
  | some j => if j < i then 1 else 0
  | none => 0
theorem crash_turn {keep flip : Int} {bs : List Int} {d i : Nat} (hB : ∀ b ∈ bs, isB b) (hd : d ≤ bs.length) (hi : i < d + keptV [keep] 0 (bs.length - d)) : ∃ a b : Nat, (crashB [keep] flip bs d)[i]? = some (a : Int) ∧ bs[i]? = some (b : Int) ∧ a < 256 ∧ b < 256 ∧ turnT (turnAt keep flip bs.length d) i + pop8 (a ^^^ b) = turnT (turnAt keep flip bs.length d) (i + 1) := by
  have hk := keptV_le [keep] 0 (bs.length - d)
  obtain ⟨z, hz⟩ : ∃ z, bs[i]? = some z := ⟨_, List.getElem?_eq_getElem (show i < bs.length by omega)⟩
  have hzB := hB z (List.mem_of_getElem? hz)
  unfold isB at hzB
  have hzn : ((z.toNat : Nat) : Int) = z := by omega
  have hzt : (bs.take (d + keptV [keep] 0 (bs.length - d)))[i]? = some z := by rw [List.getElem?_take, if_pos hi]; exact hz
  have hself : pop8 (z.toNat ^^^ z.toNat) = 0 := by rw [Nat.xor_self]; rfl
  unfold crashB turnAt
  by_cases hf : 0 ≤ flip ∧ 0 < keptV [keep] 0 (bs.length - d)
  · rw [if_pos hf, if_pos hf]
    have hm1 := Int.emod_nonneg flip (b := 8 * (keptV [keep] 0 (bs.length - d) : Int)) (by omega)
    have hm2 := Int.emod_lt_of_pos flip (b := 8 * (keptV [keep] 0 (bs.length - d) : Int)) (by omega)
    generalize flip % (8 * (keptV [keep] 0 (bs.length - d) : Int)) = at_ at hm1 hm2
    have htl : (bs.take (d + keptV [keep] 0 (bs.length - d))).length = d + keptV [keep] 0 (bs.length - d) := by rw [List.length_take]; omega
    rw [invF, htl, if_pos (by omega)]
    by_cases hj : d + (at_ / 8).toNat = i
    · rw [hj, List.getElem?_set_self (by omega), List.getD_eq_getElem?_getD, hzt]
      simp only [Option.getD_some]
      have hx := xbit_facts (b := z) (k := (at_ % 8).toNat) hzB (by omega)
      have hp := pop8_xbit ⟨z.toNat, by omega⟩ ⟨(at_ % 8).toNat, by omega⟩
      simp only at hp
      rw [show ((z.toNat : Nat) : Int) = z by omega] at hp
      have hxB := hx.2.2.1
      unfold isB at hxB
      refine ⟨(xbit z (at_ % 8).toNat).toNat, z.toNat, by rw [show (((xbit z (at_ % 8).toNat).toNat : Nat) : Int) = xbit z (at_ % 8).toNat by omega], by rw [hz, hzn], by omega, by omega, ?_⟩
      rw [hp]; simp [turnT]
    · rw [List.getElem?_set_ne hj, hzt]
      refine ⟨z.toNat, z.toNat, by rw [hzn], by rw [hz, hzn], by omega, by omega, ?_⟩
      rw [hself]
      simp only [turnT, Nat.add_zero]
      split <;> split <;> omega
  · rw [if_neg hf, if_neg hf, hzt]
    refine ⟨z.toNat, z.toNat, by rw [hzn], by rw [hz, hzn], by omega, by omega, ?_⟩
    rw [hself]; rfl
theorem turn_end {keep flip : Int} {len d : Nat} (hd : d ≤ len) : turnT (turnAt keep flip len d) (d + keptV [keep] 0 (len - d)) = if 0 ≤ flip ∧ 0 < keptV [keep] 0 (len - d) then 1 else 0 := by
  unfold turnAt
  split
  · rename_i hf
    have hm1 := Int.emod_nonneg flip (b := 8 * (keptV [keep] 0 (len - d) : Int)) (by omega)
    have hm2 := Int.emod_lt_of_pos flip (b := 8 * (keptV [keep] 0 (len - d) : Int)) (by omega)
    simp only [turnT]
    rw [if_pos (by omega)]
  · rfl
theorem turnT_le (o : Option Nat) (i : Nat) : turnT o i ≤ 1 := by
  cases o with
  | none => exact Nat.zero_le _
  | some j => simp only [turnT]; split <;> omega
theorem crashB_take {keep : List Int} {flip : Int} {bs : List Int} {d : Nat} : (crashB keep flip bs d).take d = bs.take d := by
  unfold crashB
  split
  · unfold invF; split
    · rw [List.take_set_of_le (by omega), List.take_take]; congr 1; omega
    · rw [List.take_take]; congr 1; omega
  · rw [List.take_take]; congr 1; omega
theorem kept_eq2' {keep : Int} {room : Nat} : (if (0 : Int) < (if (room : Int) < keep then (room : Int) else keep) then (if (room : Int) < keep then (room : Int) else keep) else (0 : Int)) = (keptV [keep] 0 room : Int) := by
  rw [← kept_eq (keep := [keep]) (i := 0) (z := keep) rfl]
  split <;> split <;> (try split) <;> (try split) <;> omega
structure PxS where
  i : Nat
  all : List Int
  firm : Nat
  v : Value
  La : Hp
  Ld : Hp
structure PxU where
  t : Nat
  k : Nat
set_option maxHeartbeats 4000000 in
theorem diskPrefix_ok (vp : Value) (ps : List (Value × List Int)) (sy keep flip : Int) (w0 : World) (hp : Sl w0 vp ps.length (ps.map Prod.fst)) (hpe : ∀ q ∈ ps, Sl w0 q.1 q.2.length (u8s q.2) ∧ ∀ z ∈ q.2, isB z) (hsy : isI64 sy) (hkeep : isI64 keep) (hflip : isI64 flip) :
    Ret Try.prog 3 [vp, .int .i64 sy, .int .i64 keep, .int .i64 flip].toArray w0 fun r w' => Fwd [] w0 w' ∧ r = .bool true := by
  obtain ⟨pa, pc, rfl, hpc⟩ := hp.len_le
  have hat := aroundV_range (m := sy) (q := 6) (by omega)
  unfold isI64 at hkeep
  refine Ret_start fun w hs => ?_
  refine Ret_of Try.func3 rfl Try.ntmps3 rfl ?_
  refine W_seq ?_
  refine W_region ?_
  refine s_assign rfl rfl ?_
  refine WL_nil ?_
  refine n_then ?_
  refine W_seq ?_
  refine W_region ?_
  refine s_call Try.call10 rfl rfl (dNew_ok 1000 w) ?_
  rintro v w (⟨-, -, p, Ld, rfl, hD, hst⟩ | ⟨h, -⟩)
  rotate_left
  · exact absurd ⟨by omega, by omega⟩ h
  replace hs := (St.back0 hs hst).left
  clear hst
  rw [one_new 1000 9] at hD
  refine s_move rfl rfl ?_
  refine s_extract rfl rfl rfl ?_
  refine s_extract rfl rfl rfl ?_
  refine s_assign rfl rfl ?_
  refine s_assign rfl rfl ?_
  refine WL_nil ?_
  refine n_then ?_
  refine W_seq ?_
  refine W_seq ?_
  refine W_region ?_
  refine s_move rfl rfl ?_
  refine s_eql_ptr_nil Try.underlying23 rfl rfl rfl ?_
  refine s_move rfl rfl ?_
  refine WL_know (s := 28) (c := false) rfl (rfl) ?_
  refine WL_take rfl ?_
  refine s_move rfl rfl ?_
  refine WL_take rfl ?_
  refine s_neq rfl rfl rfl ?_
  refine s_pick_f rfl rfl rfl ?_
  refine WL_nil ?_
  refine n_then ?_
  refine W_cond_kf rfl (rfl) ?_
  refine W_skip ?_
  refine n_then ?_
  refine W_seq ?_
  refine W_region ?_
  refine s_assign rfl rfl ?_
  refine WL_nil ?_
  refine n_then ?_
  refine W_seq ?_
  refine W_region ?_
  refine s_assign rfl rfl ?_
  refine WL_nil ?_
  refine n_then ?_
  refine W_seq ?_
  refine W_region ?_
  refine s_move rfl rfl ?_
  refine s_call Try.call11 rfl rfl (around_ok sy 6 _ (by omega) hsy) ?_
  rintro r w ⟨rfl, rfl⟩
  refine s_assign rfl rfl ?_
  refine WL_nil ?_
  refine n_then ?_
  refine W_seq ?_
  refine W_seq ?_
  refine W_region ?_
  refine s_assign rfl rfl ?_
  refine WL_nil ?_
  refine n_then ?_
  refine W_block ?_
  refine W_loop (σ := PxS) (fun s => [(0, .slice pa ps.length pc), (2, .int .i64 keep), (3, .int .i64 flip), (9, .pointer (some ⟨p, 0, none⟩)), (11, s.v), (12, .int .i64 (s.firm : Int)), (13, .int .i64 (aroundV sy 6)), (14, .int .i64 (s.i : Int))]) (fun s w => St [] w0 w (s.La ++ s.Ld) ∧ DiskAt p (oneDk 1000 false false 0 9 s.all s.firm) s.Ld ∧ OwnS 5 1 s.v s.all.length (u8s s.all) s.La ∧ s.all.length ≤ s.i * 20 ∧ s.firm ≤ s.all.length ∧ s.i ≤ 6 ∧ ∀ b ∈ s.all, isB b) (fun s => 6 - s.i) ⟨0, [], 0, .slice none 0 0, [], Ld⟩ ⟨rfl, rfl, rfl, rfl, rfl, rfl, rfl, rfl, trivial⟩ ⟨hs, hD, OwnS.nil _ _, Nat.le_refl _, Nat.le_refl _, by simp, by simp⟩ ?_
  clear hs hD
  rintro ⟨i, all, firm, v, La, Ld⟩ w ⟨hs, hD, hO, hal, hfa, hi, hallB⟩
  simp only at hs hD hO hal hfa hi hallB ⊢
  have hi120 : i * 20 ≤ 6 * 20 := Nat.mul_le_mul_right _ hi
  obtain ⟨_, ca, aa, rfl, hvl⟩ := hO.form
  subst hvl
  refine W_seq ?_
  refine W_seq ?_
  refine W_region ?_
  refine s_move rfl rfl ?_
  refine s_move rfl rfl ?_
  refine s_len rfl rfl (LN22 _ _ _ _) ?_
  refine s_lss rfl rfl rfl ?_
  refine s_move rfl rfl ?_
  refine WL_case (s := 38) rfl (fun hg38 => ?_) (fun hg38 => ?_)
  · skip
    try simp only [decide_eq_true_eq, decide_eq_false_iff_not, gt_iff_lt, beq_iff_eq, beq_eq_false_iff_ne, ne_eq] at hg38
    refine WL_take rfl ?_
    refine s_move rfl rfl ?_
    refine WL_take rfl ?_
    refine s_lss rfl rfl rfl ?_
    refine s_pick_t rfl rfl rfl ?_
    refine WL_nil ?_
    refine n_then ?_
    refine W_cond rfl (fun hc41 => ?_) (fun hc41 => ?_)
    · skip
      try simp only [decide_eq_true_eq, decide_eq_false_iff_not, gt_iff_lt, beq_iff_eq, beq_eq_false_iff_ne, ne_eq] at hc41
      have hil : i < ps.length := by omega
      have hi6 : i < 6 := by omega
      obtain ⟨q, hq⟩ : ∃ q, ps[i]? = some q := ⟨_, List.getElem?_eq_getElem hil⟩
      obtain ⟨hqs, hqB⟩ := hpe q (List.mem_of_getElem? hq)
      obtain ⟨b1, o1, hA1, hc1⟩ := (hp.fwd0 hs.fwd).at (k := i) (u := q.1) (by rw [List.getElem?_map, hq]; rfl)
      obtain ⟨b, hb⟩ : ∃ b, b = q.2.take 20 := ⟨_, rfl⟩
      have hbl : b.length = min q.2.length 20 := by rw [hb]; simp [Nat.min_comm]
      have hbl2 : min q.2.length 20 ≤ 20 := Nat.min_le_right _ _
      have hbB : ∀ z ∈ b, isB z := fun z hz => hqB z (List.mem_of_mem_take (by rw [← hb]; exact hz))
      refine W_skip ?_
      refine n_then ?_
      refine W_seq ?_
      refine W_block ?_
      refine W_seq ?_
      refine W_region ?_
      refine s_move rfl rfl ?_
      refine s_move rfl rfl ?_
      (refine s_indexAddrO El22 rfl rfl rfl hA1 ?hx ?_; case hx => (constructor <;> omega))
      refine s_load Try.isAgg27 rfl rfl (by rw [Int.toNat_natCast]; exact hc1) ?_
      refine s_call Try.call12 rfl rfl (few_ok _ q.2 20 w (hqs.fwd0 hs.fwd) (by omega)) ?_
      rintro r w ⟨Lb, hOb, hst⟩
      replace hs := St.back0 hs hst
      clear hst
      rw [← hb, ← hbl] at hOb
      obtain ⟨_, cb, ab, rfl, hbvl⟩ := hOb.form
      subst hbvl
      refine s_assign rfl rfl ?_
      refine WL_nil ?_
      refine n_then ?_
      refine W_seq ?_
      refine W_region ?_
      refine s_move rfl rfl ?_
      refine s_move rfl rfl ?_
      refine s_callL (M := Lb ++ La) (L1 := Ld) (X := []) Try.call13 rfl rfl (by simpa using hs) (fun h => dAppend_ok p _ 9 _ b Ld w hD (OwnS_slIn hOb fun p hp => hs.own p (by simp [hp])) (fun a m c he hne => by cases he; exact St_frontNot (A := Lb ++ La) (by simpa using hs) (by rw [ids_append]; exact List.mem_append_left _ (OwnS_in hOb hne))) hbB h) ?_
      rw [one_app (by omega) (by omega) (by simp), if_pos rfl]
      clear hs hD; rintro u w Ld ⟨hD, rfl⟩ - hs
      simp only [List.append_nil, List.append_assoc] at hs hD
      refine WL_nil ?_
      refine n_then ?_
      refine W_seq ?_
      refine W_region ?_
      refine s_move rfl rfl ?_
      refine s_move rfl rfl ?_
      refine s_appendM (M := Lb) (X := Ld) El27 rfl rfl rfl hO hs (OwnS_slIn hOb fun p hp => hs.own p (by simp [hp])) (by simp) (u8s_one _) (by omega) ?_
      clear hs; intro v' w La hO2 hs
      replace hs := hs.right
      replace hO2 : OwnS 5 1 v' (all ++ b).length (u8s (all ++ b)) La := by rw [List.length_append, u8s, List.map_append]; exact hO2
      have halB : ∀ z ∈ all ++ b, isB z := by
        intro z hz
        rcases List.mem_append.1 hz with hz | hz
        · exact hallB z hz
        · exact hbB z hz
      have hall2 : (all ++ b).length = all.length + b.length := List.length_append
      obtain ⟨al2, hal2⟩ : ∃ al2, al2 = all ++ b := ⟨_, rfl⟩
      rw [← hal2] at hO2 halB hD hall2
      obtain ⟨_, ca2, aa2, rfl, hvl2⟩ := hO2.form
      subst hvl2
      refine s_assign rfl rfl ?_
      refine WL_nil ?_
      refine n_then ?_
      refine W_seq ?_
      refine W_region ?_
      refine s_move rfl rfl ?_
      refine s_move rfl rfl ?_
      refine s_eql rfl rfl rfl ?_
      refine WL_nil ?_
      refine n_then ?_
      refine W_cond rfl (fun hc57 => ?_) (fun hc57 => ?_)
      · skip
        try simp only [decide_eq_true_eq, decide_eq_false_iff_not, gt_iff_lt, beq_iff_eq, beq_eq_false_iff_ne, ne_eq] at hc57
        refine W_seq ?_
        refine W_region ?_
        refine s_move rfl rfl ?_
        refine s_callL (M := La) (L1 := Ld) (X := []) Try.call14 rfl rfl (by simpa using hs) (fun h => dSync_ok p _ Ld w hD h) ?_
        rw [one_sync, if_pos rfl]
        clear hs hD; rintro u w Ld ⟨hD, rfl⟩ - hs
        simp only [List.append_nil] at hs hD
        refine WL_nil ?_
        refine n_then ?_
        refine W_region ?_
        refine s_move rfl rfl ?_
        refine s_len rfl rfl (LN27 _ _ _ _) ?_
        refine s_assign rfl rfl ?_
        refine WL_nil ?_
        refine n_blk ?_
        refine n_then ?_
        refine W_region ?_
        refine s_move rfl rfl ?_
        first | (refine s_add' rfl rfl rfl ?hx ?_; case hx => (constructor <;> first | omega | (simp only; omega))) | refine s_add rfl rfl rfl ?_
        refine s_assign rfl rfl ?_
        refine WL_nil ?_
        refine n_loop ?_
        first
          | exact ⟨⟨i + 1, al2, al2.length, _, La, Ld⟩, ⟨rfl, rfl, rfl, rfl, rfl, rfl, rfl, rfl, trivial⟩, ⟨hs, hD, hO2, by simp only; omega, Nat.le_refl _, by simp only; omega, halB⟩, by simp only; omega⟩
          | exact ⟨⟨i + 1, al2, firm, _, La, Ld⟩, ⟨rfl, rfl, rfl, rfl, rfl, rfl, rfl, rfl, trivial⟩, ⟨hs, hD, hO2, by simp only; omega, by simp only; omega, by simp only; omega, halB⟩, by simp only; omega⟩
      · skip
        try simp only [decide_eq_true_eq, decide_eq_false_iff_not, gt_iff_lt, beq_iff_eq, beq_eq_false_iff_ne, ne_eq] at hc57
        refine W_skip ?_
        refine n_blk ?_
        refine n_then ?_
        refine W_region ?_
        refine s_move rfl rfl ?_
        first | (refine s_add' rfl rfl rfl ?hx ?_; case hx => (constructor <;> first | omega | (simp only; omega))) | refine s_add rfl rfl rfl ?_
        refine s_assign rfl rfl ?_
        refine WL_nil ?_
        refine n_loop ?_
        first
          | exact ⟨⟨i + 1, al2, al2.length, _, La, Ld⟩, ⟨rfl, rfl, rfl, rfl, rfl, rfl, rfl, rfl, trivial⟩, ⟨hs, hD, hO2, by simp only; omega, Nat.le_refl _, by simp only; omega, halB⟩, by simp only; omega⟩
          | exact ⟨⟨i + 1, al2, firm, _, La, Ld⟩, ⟨rfl, rfl, rfl, rfl, rfl, rfl, rfl, rfl, trivial⟩, ⟨hs, hD, hO2, by simp only; omega, by simp only; omega, by simp only; omega, halB⟩, by simp only; omega⟩
    · skip
      try simp only [decide_eq_true_eq, decide_eq_false_iff_not, gt_iff_lt, beq_iff_eq, beq_eq_false_iff_ne, ne_eq] at hc41
      refine W_exit ?_
      refine x_then ?_
      refine x_then ?_
      refine exit_hit ?_
      refine n_then ?_
      refine W_seq ?_
      refine W_region ?_
      refine s_move rfl rfl ?_
      refine s_move rfl rfl ?_
      refine s_buildSlice rfl rfl (BS33_1 _) hs ?_; clear hs; intro b64 w hs
      refine s_move rfl rfl ?_
      obtain ⟨x, hx⟩ : ∃ x, x = crashB [keep] flip all firm := ⟨_, rfl⟩
      have hxl : x.length = firm + keptV [keep] 0 (all.length - firm) := by rw [hx]; exact crashB_length hfa
      have hkl := keptV_le [keep] 0 (all.length - firm)
      have hke := kept_eq2' (keep := keep) (room := all.length - firm)
      refine s_callL (M := [_] ++ La) (L1 := Ld) (X := []) Try.call15 rfl rfl (by simpa using hs) (fun h => dCrash_ok p _ _ [keep] flip Ld w hD (Sl_lit hs rfl) (fun a m c he _ => by cases he; exact St_frontNot (A := [_] ++ La) (by simpa using hs) (by simp [ids])) hflip h) ?_
      rw [one_crash (by omega) hfa, ← hx]
      clear hs hD; rintro u w Ld hD - hs
      simp only [List.append_nil, List.cons_append, List.nil_append] at hs
      replace hs := hs.tail
      obtain ⟨hq1, hq2⟩ := readE_ok (D := oneDk 1000 false false 0 9 x x.length) (f := 9) (by omega) rfl
      rw [(one_c 1000 false false 0 9 x x.length).1] at hq2
      refine WL_nil ?_
      refine n_then ?_
      refine W_seq ?_
      refine W_region ?_
      refine s_move rfl rfl ?_
      refine s_callL (M := La) (L1 := Ld) (X := []) Try.call16 rfl rfl (by simpa using hs) (fun h => dRead_ok p _ 9 Ld w hD h) ?_
      clear hs; rintro u w L9 ⟨v1, Lx, rfl, rfl, hOx⟩ - hs
      simp only [List.append_nil] at hs
      rw [hq2] at hOx
      rw [hq1]
      obtain ⟨_, cx, ax, rfl, hvx⟩ := hOx.form
      subst hvx
      replace hs : St [] w0 w (La ++ (Lx ++ Ld)) := hs
      refine s_move rfl rfl ?_
      refine s_extract rfl rfl rfl ?_
      refine s_extract rfl rfl rfl ?_
      refine s_assign rfl rfl ?_
      refine s_assign rfl rfl ?_
      refine WL_nil ?_
      refine n_then ?_
      refine W_seq ?_
      refine W_region ?_
      refine s_move rfl rfl ?_
      refine s_move rfl rfl ?_
      refine s_move rfl rfl ?_
      refine s_len rfl rfl (LN27 _ _ _ _) ?_
      refine s_move rfl rfl ?_
      (refine s_sub' rfl rfl rfl ?hx ?_; case hx => (constructor <;> omega))
      rw [show (all.length : Int) - (firm : Int) = ((all.length - firm : Nat) : Int) by omega]
      refine s_min rfl rfl rfl ?_
      refine s_max rfl rfl rfl ?_
      rw [hke]
      (refine s_add' rfl rfl rfl ?hx ?_; case hx => (constructor <;> omega))
      rw [show (firm : Int) + (keptV [keep] 0 (all.length - firm) : Int) = (x.length : Int) by omega]
      refine s_assign rfl rfl ?_
      refine WL_nil ?_
      refine n_then ?_
      refine W_seq ?_
      refine W_seq ?_
      refine W_region ?_
      refine s_move rfl rfl ?_
      refine s_neq rfl rfl rfl ?_
      refine s_move rfl rfl ?_
      refine WL_know (s := 83) (c := false) rfl (rfl) ?_
      refine WL_take rfl ?_
      refine s_move rfl rfl ?_
      refine WL_take rfl ?_
      refine s_len rfl rfl (LN27 _ _ _ _) ?_
      refine WL_take rfl ?_
      refine s_move rfl rfl ?_
      refine WL_take rfl ?_
      refine s_neq rfl rfl rfl ?_
      refine s_pick_f rfl rfl rfl ?_
      refine WL_nil ?_
      refine n_then ?_
      refine W_cond_kf rfl ((by simp)) ?_
      refine W_skip ?_
      refine n_then ?_
      refine W_seq ?_
      refine W_region ?_
      refine s_assign rfl rfl ?_
      refine WL_nil ?_
      refine n_then ?_
      refine W_seq ?_
      refine W_seq ?_
      refine W_region ?_
      refine s_assign rfl rfl ?_
      refine WL_nil ?_
      refine n_then ?_
      refine W_block ?_
      refine W_loop (σ := Nat) (fun i => [(3, .int .i64 flip), (11, .slice aa all.length ca), (12, .int .i64 (firm : Int)), (16, .slice ax x.length cx), (18, .int .i64 (x.length : Int)), (19, .int .i64 (turnT (turnAt keep flip all.length firm) i : Int)), (20, .int .i64 (i : Int))]) (fun i w => St [] w0 w (La ++ (Lx ++ Ld)) ∧ i ≤ x.length) (fun i => x.length - i) 0 ⟨rfl, rfl, rfl, rfl, rfl, (by
        have : turnT (turnAt keep flip all.length firm) 0 = 0 := by unfold turnT turnAt; split <;> first | rfl | simp
        show _ = some (Value.int .i64 (turnT (turnAt keep flip all.length firm) 0 : Int))
        rw [this]; rfl), rfl, trivial⟩ ⟨hs, Nat.zero_le _⟩ ?_
      clear hs
      rintro j w ⟨hs, hj⟩
      refine W_seq ?_
      refine W_seq ?_
      refine W_region ?_
      refine s_move rfl rfl ?_
      refine s_move rfl rfl ?_
      refine s_lss rfl rfl rfl ?_
      refine WL_nil ?_
      refine n_then ?_
      refine W_cond rfl (fun hc91 => ?_) (fun hc91 => ?_)
      · skip
        try simp only [decide_eq_true_eq, decide_eq_false_iff_not, gt_iff_lt, beq_iff_eq, beq_eq_false_iff_ne, ne_eq] at hc91
        have hjl : j < x.length := by omega
        obtain ⟨za, zb, hza, hzb, hza8, hzb8, htt⟩ := crash_turn (keep := keep) (flip := flip) (i := j) hallB hfa (by omega)
        rw [← hx] at hza
        obtain ⟨b1, o1, hA1, -⟩ := (OwnS_slIn hOx (w := w) fun p hp => hs.own p (by simp [hp])).at (k := j) (u := .int .u8 (za : Int)) (by rw [List.getElem?_map, hza]; rfl)
        obtain ⟨b2, o2, hA2, -⟩ := (OwnS_slIn hO (w := w) fun p hp => hs.own p (by simp [hp])).at (k := j) (u := .int .u8 (zb : Int)) (by rw [List.getElem?_map, hzb]; rfl)
        subst hA1 hA2
        have hlA : ∀ w, St [] w0 w (La ++ (Lx ++ Ld)) → w.cell? ⟨b1, o1 + j, none⟩ = some (.int .u8 (za : Int)) := fun w hs => by
          obtain ⟨b9, o9, h9, h10⟩ := (OwnS_slIn hOx (w := w) fun p hp => hs.own p (by simp [hp])).at (k := j) (u := .int .u8 (za : Int)) (by rw [List.getElem?_map, hza]; rfl)
          cases h9; exact h10
        have hlB : ∀ w, St [] w0 w (La ++ (Lx ++ Ld)) → w.cell? ⟨b2, o2 + j, none⟩ = some (.int .u8 (zb : Int)) := fun w hs => by
          obtain ⟨b9, o9, h9, h10⟩ := (OwnS_slIn hO (w := w) fun p hp => hs.own p (by simp [hp])).at (k := j) (u := .int .u8 (zb : Int)) (by rw [List.getElem?_map, hzb]; rfl)
          cases h9; exact h10
        have hxl8 : za ^^^ zb < 256 := Nat.xor_lt_two_pow (n := 8) hza8 hzb8
        have hT1 := turnT_le (turnAt keep flip all.length firm) (j + 1)
        refine W_skip ?_
        refine n_then ?_
        refine W_seq ?_
        refine W_block ?_
        refine W_seq ?_
        refine W_draw [(0, true, []), (1, true, []), (2, true, []), (3, true, []), (4, true, []), (5, true, []), (6, true, []), (7, true, []), (8, true, []), (9, true, [])] [[], [], [0, 1], [0, 1, 2], [], [], [4, 5], [4, 5, 6], [0, 1, 2, 3, 4, 5, 6, 7], [0, 1, 2, 3, 4, 5, 6, 7, 8]] MX (by kernel_rfl) ?_
        intro w1 hw1 hw2 hw3 hw4; replace hs := hs.redrawn hw1 hw2 hw3 hw4; clear hw1 hw2 hw3 hw4
        obtain ⟨w, rfl⟩ : ∃ w : World, w = w1 := ⟨_, rfl⟩
        refine D_q rfl rfl ?_
        refine s_move rfl rfl ?_
        refine D_qn ?_
        refine D_q rfl rfl ?_
        refine s_move rfl rfl ?_
        refine D_qn ?_
        refine D_q rfl rfl ?_
        (refine s_indexAddr1 El27 rfl rfl rfl ?hx ?_; case hx => (constructor <;> first | omega | (simp; omega)))
        refine D_qn ?_
        refine D_q rfl rfl ?_
        refine s_load Try.isAgg5 rfl rfl (by rw [Int.toNat_natCast]; exact hlA w hs) ?_
        refine D_qn ?_
        refine D_q rfl rfl ?_
        refine s_move rfl rfl ?_
        refine D_qn ?_
        refine D_q rfl rfl ?_
        refine s_move rfl rfl ?_
        refine D_qn ?_
        refine D_q rfl rfl ?_
        (refine s_indexAddr1 El27 rfl rfl rfl ?hx ?_; case hx => (constructor <;> first | omega | (simp; omega)))
        refine D_qn ?_
        refine D_q rfl rfl ?_
        refine s_load Try.isAgg5 rfl rfl (by rw [Int.toNat_natCast]; exact hlB w hs) ?_
        refine D_qn ?_
        refine D_q rfl rfl ?_
        refine s_xor rfl rfl rfl ?_
        rw [xor8 za zb hza8 hzb8]
        refine D_qn ?_
        refine D_q rfl rfl ?_
        refine s_assign rfl rfl ?_
        refine D_qn ?_
        refine D_nil ?_
        refine n_then ?_
        refine W_block ?_
        refine W_loop (σ := PxU) (fun s => [(3, .int .i64 flip), (11, .slice (some ⟨b2, o2, none⟩) all.length ca), (12, .int .i64 (firm : Int)), (16, .slice (some ⟨b1, o1, none⟩) x.length cx), (18, .int .i64 (x.length : Int)), (19, .int .i64 (s.t : Int)), (20, .int .i64 (j : Int)), (21, .int .u8 (s.k : Int))]) (fun s w => St [] w0 w (La ++ (Lx ++ Ld)) ∧ s.k < 256 ∧ s.t + pop8 s.k = turnT (turnAt keep flip all.length firm) (j + 1)) (fun s => s.k) ⟨_, za ^^^ zb⟩ ⟨rfl, rfl, rfl, rfl, rfl, rfl, rfl, rfl, trivial⟩ ⟨hs, hxl8, htt⟩ ?_
        clear hs
        rintro ⟨t, k⟩ w ⟨hs, hk, htk⟩
        simp only at hs hk htk ⊢
        refine W_seq ?_
        refine W_seq ?_
        refine W_region ?_
        refine s_move rfl rfl ?_
        refine s_gtr rfl rfl rfl ?_
        refine WL_nil ?_
        refine n_then ?_
        refine W_cond rfl (fun hc104 => ?_) (fun hc104 => ?_)
        · skip
          try simp only [decide_eq_true_eq, decide_eq_false_iff_not, gt_iff_lt, beq_iff_eq, beq_eq_false_iff_ne, ne_eq] at hc104
          have hst := pop8_step hk
          refine W_skip ?_
          refine n_then ?_
          refine W_seq ?_
          refine W_block ?_
          refine W_region ?_
          refine s_move rfl rfl ?_
          refine s_move rfl rfl ?_
          refine s_rem rfl rfl rfl (by decide) ?_
          rw [show ((k : Int).tmod 2) = ((k % 2 : Nat) : Int) by rw [Int.tmod_eq_emod_of_nonneg (by omega)]; omega]
          refine s_convert rfl rfl (CV5_3 _) ?_
          rw [IntWalk.i64_in _ (by omega)]
          (refine s_add' rfl rfl rfl ?hx ?_; case hx => (constructor <;> omega))
          rw [show (t : Int) + ((k % 2 : Nat) : Int) = ((t + k % 2 : Nat) : Int) by omega]
          refine s_assign rfl rfl ?_
          refine WL_nil ?_
          refine n_blk ?_
          refine n_then ?_
          refine W_region ?_
          refine s_move rfl rfl ?_
          refine s_quo rfl rfl rfl (by decide) ?_
          rw [show IntKind.u8.wrap ((k : Int).tdiv 2) = ((k / 2 : Nat) : Int) by rw [Int.tdiv_eq_ediv_of_nonneg (by omega), IntWalk.u8_in _ (by omega)]; omega]
          refine s_assign rfl rfl ?_
          refine WL_nil ?_
          refine n_loop ?_
          exact ⟨⟨t + k % 2, k / 2⟩, ⟨rfl, rfl, rfl, rfl, rfl, rfl, rfl, rfl, trivial⟩, ⟨hs, by simp only; omega, by simp only; omega⟩, by simp only; omega⟩
        · skip
          try simp only [decide_eq_true_eq, decide_eq_false_iff_not, gt_iff_lt, beq_iff_eq, beq_eq_false_iff_ne, ne_eq] at hc104
          refine W_exit ?_
          refine x_then ?_
          refine x_then ?_
          refine exit_hit ?_
          refine n_blk ?_
          refine n_then ?_
          refine W_region ?_
          refine s_move rfl rfl ?_
          first | (refine s_add' rfl rfl rfl ?hx ?_; case hx => (constructor <;> first | omega | (simp only; omega))) | refine s_add rfl rfl rfl ?_
          refine s_assign rfl rfl ?_
          refine WL_nil ?_
          refine n_loop ?_
          have hk0 : k = 0 := by omega
          subst hk0
          have ht1 : t = turnT (turnAt keep flip all.length firm) (j + 1) := by rw [← htk]; rfl
          subst ht1
          exact ⟨j + 1, ⟨rfl, rfl, rfl, rfl, rfl, rfl, rfl, trivial⟩, ⟨hs, hjl⟩, by omega⟩
      · skip
        try simp only [decide_eq_true_eq, decide_eq_false_iff_not, gt_iff_lt, beq_iff_eq, beq_eq_false_iff_ne, ne_eq] at hc91
        have hjj : j = x.length := by omega
        subst hjj
        have hte := turn_end (keep := keep) (flip := flip) (len := all.length) (d := firm) hfa
        rw [← hxl] at hte
        rw [hte]
        refine W_exit ?_
        refine x_then ?_
        refine x_then ?_
        refine exit_hit ?_
        refine n_then ?_
        refine W_seq ?_
        refine W_seq ?_
        refine W_region ?_
        refine s_move rfl rfl ?_
        refine s_geq rfl rfl rfl ?_
        refine s_move rfl rfl ?_
        refine WL_case (s := 114) rfl (fun hg114 => ?_) (fun hg114 => ?_)
        · skip
          try simp only [decide_eq_true_eq, decide_eq_false_iff_not, gt_iff_lt, beq_iff_eq, beq_eq_false_iff_ne, ne_eq] at hg114
          refine WL_take rfl ?_
          refine s_move rfl rfl ?_
          refine WL_take rfl ?_
          refine s_move rfl rfl ?_
          refine WL_take rfl ?_
          refine s_gtr rfl rfl rfl ?_
          refine s_pick_t rfl rfl rfl ?_
          refine WL_nil ?_
          refine n_then ?_
          refine W_cond rfl (fun hc118 => ?_) (fun hc118 => ?_)
          · skip
            try simp only [decide_eq_true_eq, decide_eq_false_iff_not, gt_iff_lt, beq_iff_eq, beq_eq_false_iff_ne, ne_eq] at hc118
            rw [if_pos (by omega)]
            refine W_seq ?_
            refine W_draw [(0, true, []), (1, true, []), (2, true, []), (3, true, []), (4, true, []), (5, true, []), (6, true, []), (7, true, []), (8, true, []), (9, false, []), (10, true, []), (11, true, []), (12, false, []), (13, true, []), (14, true, [])] [[], [0], [0, 1], [0, 1, 2], [0, 1, 2], [0, 1, 2, 3, 4], [0, 1, 2], [0, 1, 2], [0, 1, 2, 6, 7], [0, 1, 2, 3, 4, 5, 6, 7, 8], [0, 1, 2, 3, 4, 5, 6, 7, 8, 9], [0, 1, 2, 3, 4, 5, 6, 7, 8, 9, 10], [0, 1, 2, 3, 4, 5, 6, 7, 8, 9, 10, 11], [0, 1, 2, 3, 4, 5, 6, 7, 8, 9, 10, 11, 12], [0, 1, 2, 3, 4, 5, 6, 7, 8, 9, 10, 11, 12, 13]] MX (by kernel_rfl) ?_
            intro w1 hw1 hw2 hw3 hw4; replace hs := hs.redrawn hw1 hw2 hw3 hw4; clear hw1 hw2 hw3 hw4
            obtain ⟨w, rfl⟩ : ∃ w : World, w = w1 := ⟨_, rfl⟩
            refine D_q rfl rfl ?_
            refine s_move rfl rfl ?_
            refine D_qn ?_
            refine D_q rfl rfl ?_
            refine s_eql rfl rfl rfl ?_
            refine D_qn ?_
            refine D_q rfl rfl ?_
            refine s_move rfl rfl ?_
            refine WL_know (s := 121) (c := true) rfl (rfl) ?_
            refine D_qn ?_
            refine D_q rfl rfl ?_
            refine WL_take rfl ?_
            refine s_move rfl rfl ?_
            refine D_qn ?_
            refine D_q rfl rfl ?_
            refine WL_take rfl ?_
            refine s_move rfl rfl ?_
            refine D_qn ?_
            refine D_q rfl rfl ?_
            refine WL_take rfl ?_
            have hcx : x.length ≤ cx := by obtain ⟨a9, c9, h8, h9⟩ := (OwnS_slIn hOx (w := w) fun p hp => hs.own p (by simp [hp])).len_le; cases h8; exact h9
            (refine s_slice_hi El27 rfl rfl rfl ?hx ?_; case hx => (constructor <;> omega))
            rw [Int.toNat_natCast]
            refine D_qn ?_
            refine D_q rfl rfl ?_
            refine WL_take rfl ?_
            refine s_move rfl rfl ?_
            refine D_qn ?_
            refine D_q rfl rfl ?_
            refine WL_take rfl ?_
            refine s_move rfl rfl ?_
            refine D_qn ?_
            refine D_q rfl rfl ?_
            refine WL_take rfl ?_
            have hca : all.length ≤ ca := by obtain ⟨a9, c9, h8, h9⟩ := (OwnS_slIn hO (w := w) fun p hp => hs.own p (by simp [hp])).len_le; cases h8; exact h9
            (refine s_slice_hi El27 rfl rfl rfl ?hx ?_; case hx => (constructor <;> omega))
            rw [Int.toNat_natCast]
            refine D_qn ?_
            refine D_e rfl ?_
            refine WL_take rfl ?_
            have hS1 := (OwnS_slIn hOx (w := w) fun p hp => hs.own p (by simp [hp])).take (k := firm) (size := 1) (by omega) rfl
            have hS2 := (OwnS_slIn hO (w := w) fun p hp => hs.own p (by simp [hp])).take (k := firm) (size := 1) (by omega) rfl
            rw [Nat.mul_one, ← List.map_take] at hS1 hS2
            have htx : x.take firm = all.take firm := by rw [hx]; exact crashB_take
            rw [htx] at hS1
            have htl : (all.take firm).length = firm := by rw [List.length_take]; omega
            refine s_call Try.call17 rfl rfl (sameBytes_ok _ _ (all.take firm) (all.take firm) w (by rw [htl]; exact hS1) (by rw [htl]; exact hS2) (by omega)) ?_
            rintro r2 w ⟨hst, rfl⟩
            replace hs := hs.fwd1 hst
            clear hst hS1 hS2
            refine D_en ?re ?_
            case re =>
              exact Reks_nil
            refine D_q rfl rfl ?_
            refine s_pick_t rfl rfl rfl ?_
            refine D_qn ?_
            refine D_q rfl rfl ?_
            refine s_move rfl rfl ?_
            refine WL_know (s := 130) (c := true) rfl ((by simp)) ?_
            refine D_qn ?_
            refine D_e rfl ?_
            refine WL_take rfl ?_
            refine s_call Try.call18 rfl rfl (lives_ok w) ?_
            rintro r w ⟨hst, rfl⟩
            replace hs := hs.fwd1 hst
            clear hst
            refine D_en ?re ?_
            case re =>
              exact Reks_nil
            refine D_q rfl rfl ?_
            refine s_pick_t rfl rfl rfl ?_
            refine D_qn ?_
            refine D_q rfl rfl ?_
            refine s_assign rfl rfl ?_
            refine D_qn ?_
            refine D_nil ?_
            refine n_then ?_
            refine W_ret ?_
            refine r_then ?_
            exact end1 rfl rfl ⟨hs.fwd, rfl⟩
          · skip
            try simp only [decide_eq_true_eq, decide_eq_false_iff_not, gt_iff_lt, beq_iff_eq, beq_eq_false_iff_ne, ne_eq] at hc118
            rw [if_neg (by omega)]
            refine W_skip ?_
            refine n_then ?_
            refine W_seq ?_
            refine W_region ?_
            refine s_move rfl rfl ?_
            refine s_eql rfl rfl rfl ?_
            refine s_move rfl rfl ?_
            refine WL_know (s := 135) (c := true) rfl (rfl) ?_
            refine WL_take rfl ?_
            refine s_call Try.call18 rfl rfl (lives_ok w) ?_
            rintro r w ⟨hst, rfl⟩
            replace hs := hs.fwd1 hst
            clear hst
            refine s_pick_t rfl rfl rfl ?_
            refine s_assign rfl rfl ?_
            refine WL_nil ?_
            refine n_then ?_
            refine W_ret ?_
            exact end1 rfl rfl ⟨hs.fwd, rfl⟩
        · skip
          try simp only [decide_eq_true_eq, decide_eq_false_iff_not, gt_iff_lt, beq_iff_eq, beq_eq_false_iff_ne, ne_eq] at hg114
          refine WL_skip rfl rfl rfl ?_
          refine WL_skip rfl rfl rfl ?_
          refine WL_skip rfl rfl rfl ?_
          refine s_pick_f rfl rfl rfl ?_
          refine WL_nil ?_
          refine n_then ?_
          refine W_cond_f rfl ?_
          rw [if_neg (by omega)]
          refine W_skip ?_
          refine n_then ?_
          refine W_seq ?_
          refine W_region ?_
          refine s_move rfl rfl ?_
          refine s_eql rfl rfl rfl ?_
          refine s_move rfl rfl ?_
          refine WL_know (s := 135) (c := true) rfl (rfl) ?_
          refine WL_take rfl ?_
          refine s_call Try.call18 rfl rfl (lives_ok w) ?_
          rintro r w ⟨hst, rfl⟩
          replace hs := hs.fwd1 hst
          clear hst
          refine s_pick_t rfl rfl rfl ?_
          refine s_assign rfl rfl ?_
          refine WL_nil ?_
          refine n_then ?_
          refine W_ret ?_
          exact end1 rfl rfl ⟨hs.fwd, rfl⟩
  · skip
    try simp only [decide_eq_true_eq, decide_eq_false_iff_not, gt_iff_lt, beq_iff_eq, beq_eq_false_iff_ne, ne_eq] at hg38
    refine WL_skip rfl rfl rfl ?_
    refine WL_skip rfl rfl rfl ?_
    refine s_pick_f rfl rfl rfl ?_
    refine WL_nil ?_
    refine n_then ?_
    refine W_cond_f rfl ?_
    refine W_exit ?_
    refine x_then ?_
    refine x_then ?_
    refine exit_hit ?_
    refine n_then ?_
    refine W_seq ?_
    refine W_region ?_
    refine s_move rfl rfl ?_
    refine s_move rfl rfl ?_
    refine s_buildSlice rfl rfl (BS33_1 _) hs ?_; clear hs; intro b64 w hs
    refine s_move rfl rfl ?_
    obtain ⟨x, hx⟩ : ∃ x, x = crashB [keep] flip all firm := ⟨_, rfl⟩
    have hxl : x.length = firm + keptV [keep] 0 (all.length - firm) := by rw [hx]; exact crashB_length hfa
    have hkl := keptV_le [keep] 0 (all.length - firm)
    have hke := kept_eq2' (keep := keep) (room := all.length - firm)
    refine s_callL (M := [_] ++ La) (L1 := Ld) (X := []) Try.call15 rfl rfl (by simpa using hs) (fun h => dCrash_ok p _ _ [keep] flip Ld w hD (Sl_lit hs rfl) (fun a m c he _ => by cases he; exact St_frontNot (A := [_] ++ La) (by simpa using hs) (by simp [ids])) hflip h) ?_
    rw [one_crash (by omega) hfa, ← hx]
    clear hs hD; rintro u w Ld hD - hs
    simp only [List.append_nil, List.cons_append, List.nil_append] at hs
    replace hs := hs.tail
    obtain ⟨hq1, hq2⟩ := readE_ok (D := oneDk 1000 false false 0 9 x x.length) (f := 9) (by omega) rfl
    rw [(one_c 1000 false false 0 9 x x.length).1] at hq2
    refine WL_nil ?_
    refine n_then ?_
    refine W_seq ?_
    refine W_region ?_
    refine s_move rfl rfl ?_
    refine s_callL (M := La) (L1 := Ld) (X := []) Try.call16 rfl rfl (by simpa using hs) (fun h => dRead_ok p _ 9 Ld w hD h) ?_
    clear hs; rintro u w L9 ⟨v1, Lx, rfl, rfl, hOx⟩ - hs
    simp only [List.append_nil] at hs
    rw [hq2] at hOx
    rw [hq1]
    obtain ⟨_, cx, ax, rfl, hvx⟩ := hOx.form
    subst hvx
    replace hs : St [] w0 w (La ++ (Lx ++ Ld)) := hs
    refine s_move rfl rfl ?_
    refine s_extract rfl rfl rfl ?_
    refine s_extract rfl rfl rfl ?_
    refine s_assign rfl rfl ?_
    refine s_assign rfl rfl ?_
    refine WL_nil ?_
    refine n_then ?_
    refine W_seq ?_
    refine W_region ?_
    refine s_move rfl rfl ?_
    refine s_move rfl rfl ?_
    refine s_move rfl rfl ?_
    refine s_len rfl rfl (LN27 _ _ _ _) ?_
    refine s_move rfl rfl ?_
    (refine s_sub' rfl rfl rfl ?hx ?_; case hx => (constructor <;> omega))
    rw [show (all.length : Int) - (firm : Int) = ((all.length - firm : Nat) : Int) by omega]
    refine s_min rfl rfl rfl ?_
    refine s_max rfl rfl rfl ?_
    rw [hke]
    (refine s_add' rfl rfl rfl ?hx ?_; case hx => (constructor <;> omega))
    rw [show (firm : Int) + (keptV [keep] 0 (all.length - firm) : Int) = (x.length : Int) by omega]
    refine s_assign rfl rfl ?_
    refine WL_nil ?_
    refine n_then ?_
    refine W_seq ?_
    refine W_seq ?_
    refine W_region ?_
    refine s_move rfl rfl ?_
    refine s_neq rfl rfl rfl ?_
    refine s_move rfl rfl ?_
    refine WL_know (s := 83) (c := false) rfl (rfl) ?_
    refine WL_take rfl ?_
    refine s_move rfl rfl ?_
    refine WL_take rfl ?_
    refine s_len rfl rfl (LN27 _ _ _ _) ?_
    refine WL_take rfl ?_
    refine s_move rfl rfl ?_
    refine WL_take rfl ?_
    refine s_neq rfl rfl rfl ?_
    refine s_pick_f rfl rfl rfl ?_
    refine WL_nil ?_
    refine n_then ?_
    refine W_cond_kf rfl ((by simp)) ?_
    refine W_skip ?_
    refine n_then ?_
    refine W_seq ?_
    refine W_region ?_
    refine s_assign rfl rfl ?_
    refine WL_nil ?_
    refine n_then ?_
    refine W_seq ?_
    refine W_seq ?_
    refine W_region ?_
    refine s_assign rfl rfl ?_
    refine WL_nil ?_
    refine n_then ?_
    refine W_block ?_
    refine W_loop (σ := Nat) (fun i => [(3, .int .i64 flip), (11, .slice aa all.length ca), (12, .int .i64 (firm : Int)), (16, .slice ax x.length cx), (18, .int .i64 (x.length : Int)), (19, .int .i64 (turnT (turnAt keep flip all.length firm) i : Int)), (20, .int .i64 (i : Int))]) (fun i w => St [] w0 w (La ++ (Lx ++ Ld)) ∧ i ≤ x.length) (fun i => x.length - i) 0 ⟨rfl, rfl, rfl, rfl, rfl, (by
      have : turnT (turnAt keep flip all.length firm) 0 = 0 := by unfold turnT turnAt; split <;> first | rfl | simp
      show _ = some (Value.int .i64 (turnT (turnAt keep flip all.length firm) 0 : Int))
      rw [this]; rfl), rfl, trivial⟩ ⟨hs, Nat.zero_le _⟩ ?_
    clear hs
    rintro j w ⟨hs, hj⟩
    refine W_seq ?_
    refine W_seq ?_
    refine W_region ?_
    refine s_move rfl rfl ?_
    refine s_move rfl rfl ?_
    refine s_lss rfl rfl rfl ?_
    refine WL_nil ?_
    refine n_then ?_
    refine W_cond rfl (fun hc91 => ?_) (fun hc91 => ?_)
    · skip
      try simp only [decide_eq_true_eq, decide_eq_false_iff_not, gt_iff_lt, beq_iff_eq, beq_eq_false_iff_ne, ne_eq] at hc91
      have hjl : j < x.length := by omega
      obtain ⟨za, zb, hza, hzb, hza8, hzb8, htt⟩ := crash_turn (keep := keep) (flip := flip) (i := j) hallB hfa (by omega)
      rw [← hx] at hza
      obtain ⟨b1, o1, hA1, -⟩ := (OwnS_slIn hOx (w := w) fun p hp => hs.own p (by simp [hp])).at (k := j) (u := .int .u8 (za : Int)) (by rw [List.getElem?_map, hza]; rfl)
      obtain ⟨b2, o2, hA2, -⟩ := (OwnS_slIn hO (w := w) fun p hp => hs.own p (by simp [hp])).at (k := j) (u := .int .u8 (zb : Int)) (by rw [List.getElem?_map, hzb]; rfl)
      subst hA1 hA2
      have hlA : ∀ w, St [] w0 w (La ++ (Lx ++ Ld)) → w.cell? ⟨b1, o1 + j, none⟩ = some (.int .u8 (za : Int)) := fun w hs => by
        obtain ⟨b9, o9, h9, h10⟩ := (OwnS_slIn hOx (w := w) fun p hp => hs.own p (by simp [hp])).at (k := j) (u := .int .u8 (za : Int)) (by rw [List.getElem?_map, hza]; rfl)
        cases h9; exact h10
      have hlB : ∀ w, St [] w0 w (La ++ (Lx ++ Ld)) → w.cell? ⟨b2, o2 + j, none⟩ = some (.int .u8 (zb : Int)) := fun w hs => by
        obtain ⟨b9, o9, h9, h10⟩ := (OwnS_slIn hO (w := w) fun p hp => hs.own p (by simp [hp])).at (k := j) (u := .int .u8 (zb : Int)) (by rw [List.getElem?_map, hzb]; rfl)
        cases h9; exact h10
      have hxl8 : za ^^^ zb < 256 := Nat.xor_lt_two_pow (n := 8) hza8 hzb8
      have hT1 := turnT_le (turnAt keep flip all.length firm) (j + 1)
      refine W_skip ?_
      refine n_then ?_
      refine W_seq ?_
      refine W_block ?_
      refine W_seq ?_
      refine W_draw [(0, true, []), (1, true, []), (2, true, []), (3, true, []), (4, true, []), (5, true, []), (6, true, []), (7, true, []), (8, true, []), (9, true, [])] [[], [], [0, 1], [0, 1, 2], [], [], [4, 5], [4, 5, 6], [0, 1, 2, 3, 4, 5, 6, 7], [0, 1, 2, 3, 4, 5, 6, 7, 8]] MX (by kernel_rfl) ?_
      intro w1 hw1 hw2 hw3 hw4; replace hs := hs.redrawn hw1 hw2 hw3 hw4; clear hw1 hw2 hw3 hw4
      obtain ⟨w, rfl⟩ : ∃ w : World, w = w1 := ⟨_, rfl⟩
      refine D_q rfl rfl ?_
      refine s_move rfl rfl ?_
      refine D_qn ?_
      refine D_q rfl rfl ?_
      refine s_move rfl rfl ?_
      refine D_qn ?_
      refine D_q rfl rfl ?_
      (refine s_indexAddr1 El27 rfl rfl rfl ?hx ?_; case hx => (constructor <;> first | omega | (simp; omega)))
      refine D_qn ?_
      refine D_q rfl rfl ?_
      refine s_load Try.isAgg5 rfl rfl (by rw [Int.toNat_natCast]; exact hlA w hs) ?_
      refine D_qn ?_
      refine D_q rfl rfl ?_
      refine s_move rfl rfl ?_
      refine D_qn ?_
      refine D_q rfl rfl ?_
      refine s_move rfl rfl ?_
      refine D_qn ?_
      refine D_q rfl rfl ?_
      (refine s_indexAddr1 El27 rfl rfl rfl ?hx ?_; case hx => (constructor <;> first | omega | (simp; omega)))
      refine D_qn ?_
      refine D_q rfl rfl ?_
      refine s_load Try.isAgg5 rfl rfl (by rw [Int.toNat_natCast]; exact hlB w hs) ?_
      refine D_qn ?_
      refine D_q rfl rfl ?_
      refine s_xor rfl rfl rfl ?_
      rw [xor8 za zb hza8 hzb8]
      refine D_qn ?_
      refine D_q rfl rfl ?_
      refine s_assign rfl rfl ?_
      refine D_qn ?_
      refine D_nil ?_
      refine n_then ?_
      refine W_block ?_
      refine W_loop (σ := PxU) (fun s => [(3, .int .i64 flip), (11, .slice (some ⟨b2, o2, none⟩) all.length ca), (12, .int .i64 (firm : Int)), (16, .slice (some ⟨b1, o1, none⟩) x.length cx), (18, .int .i64 (x.length : Int)), (19, .int .i64 (s.t : Int)), (20, .int .i64 (j : Int)), (21, .int .u8 (s.k : Int))]) (fun s w => St [] w0 w (La ++ (Lx ++ Ld)) ∧ s.k < 256 ∧ s.t + pop8 s.k = turnT (turnAt keep flip all.length firm) (j + 1)) (fun s => s.k) ⟨_, za ^^^ zb⟩ ⟨rfl, rfl, rfl, rfl, rfl, rfl, rfl, rfl, trivial⟩ ⟨hs, hxl8, htt⟩ ?_
      clear hs
      rintro ⟨t, k⟩ w ⟨hs, hk, htk⟩
      simp only at hs hk htk ⊢
      refine W_seq ?_
      refine W_seq ?_
      refine W_region ?_
      refine s_move rfl rfl ?_
      refine s_gtr rfl rfl rfl ?_
      refine WL_nil ?_
      refine n_then ?_
      refine W_cond rfl (fun hc104 => ?_) (fun hc104 => ?_)
      · skip
        try simp only [decide_eq_true_eq, decide_eq_false_iff_not, gt_iff_lt, beq_iff_eq, beq_eq_false_iff_ne, ne_eq] at hc104
        have hst := pop8_step hk
        refine W_skip ?_
        refine n_then ?_
        refine W_seq ?_
        refine W_block ?_
        refine W_region ?_
        refine s_move rfl rfl ?_
        refine s_move rfl rfl ?_
        refine s_rem rfl rfl rfl (by decide) ?_
        rw [show ((k : Int).tmod 2) = ((k % 2 : Nat) : Int) by rw [Int.tmod_eq_emod_of_nonneg (by omega)]; omega]
        refine s_convert rfl rfl (CV5_3 _) ?_
        rw [IntWalk.i64_in _ (by omega)]
        (refine s_add' rfl rfl rfl ?hx ?_; case hx => (constructor <;> omega))
        rw [show (t : Int) + ((k % 2 : Nat) : Int) = ((t + k % 2 : Nat) : Int) by omega]
        refine s_assign rfl rfl ?_
        refine WL_nil ?_
        refine n_blk ?_
        refine n_then ?_
        refine W_region ?_
        refine s_move rfl rfl ?_
        refine s_quo rfl rfl rfl (by decide) ?_
        rw [show IntKind.u8.wrap ((k : Int).tdiv 2) = ((k / 2 : Nat) : Int) by rw [Int.tdiv_eq_ediv_of_nonneg (by omega), IntWalk.u8_in _ (by omega)]; omega]
        refine s_assign rfl rfl ?_
        refine WL_nil ?_
        refine n_loop ?_
        exact ⟨⟨t + k % 2, k / 2⟩, ⟨rfl, rfl, rfl, rfl, rfl, rfl, rfl, rfl, trivial⟩, ⟨hs, by simp only; omega, by simp only; omega⟩, by simp only; omega⟩
      · skip
        try simp only [decide_eq_true_eq, decide_eq_false_iff_not, gt_iff_lt, beq_iff_eq, beq_eq_false_iff_ne, ne_eq] at hc104
        refine W_exit ?_
        refine x_then ?_
        refine x_then ?_
        refine exit_hit ?_
        refine n_blk ?_
        refine n_then ?_
        refine W_region ?_
        refine s_move rfl rfl ?_
        first | (refine s_add' rfl rfl rfl ?hx ?_; case hx => (constructor <;> first | omega | (simp only; omega))) | refine s_add rfl rfl rfl ?_
        refine s_assign rfl rfl ?_
        refine WL_nil ?_
        refine n_loop ?_
        have hk0 : k = 0 := by omega
        subst hk0
        have ht1 : t = turnT (turnAt keep flip all.length firm) (j + 1) := by rw [← htk]; rfl
        subst ht1
        exact ⟨j + 1, ⟨rfl, rfl, rfl, rfl, rfl, rfl, rfl, trivial⟩, ⟨hs, hjl⟩, by omega⟩
    · skip
      try simp only [decide_eq_true_eq, decide_eq_false_iff_not, gt_iff_lt, beq_iff_eq, beq_eq_false_iff_ne, ne_eq] at hc91
      have hjj : j = x.length := by omega
      subst hjj
      have hte := turn_end (keep := keep) (flip := flip) (len := all.length) (d := firm) hfa
      rw [← hxl] at hte
      rw [hte]
      refine W_exit ?_
      refine x_then ?_
      refine x_then ?_
      refine exit_hit ?_
      refine n_then ?_
      refine W_seq ?_
      refine W_seq ?_
      refine W_region ?_
      refine s_move rfl rfl ?_
      refine s_geq rfl rfl rfl ?_
      refine s_move rfl rfl ?_
      refine WL_case (s := 114) rfl (fun hg114 => ?_) (fun hg114 => ?_)
      · skip
        try simp only [decide_eq_true_eq, decide_eq_false_iff_not, gt_iff_lt, beq_iff_eq, beq_eq_false_iff_ne, ne_eq] at hg114
        refine WL_take rfl ?_
        refine s_move rfl rfl ?_
        refine WL_take rfl ?_
        refine s_move rfl rfl ?_
        refine WL_take rfl ?_
        refine s_gtr rfl rfl rfl ?_
        refine s_pick_t rfl rfl rfl ?_
        refine WL_nil ?_
        refine n_then ?_
        refine W_cond rfl (fun hc118 => ?_) (fun hc118 => ?_)
        · skip
          try simp only [decide_eq_true_eq, decide_eq_false_iff_not, gt_iff_lt, beq_iff_eq, beq_eq_false_iff_ne, ne_eq] at hc118
          rw [if_pos (by omega)]
          refine W_seq ?_
          refine W_draw [(0, true, []), (1, true, []), (2, true, []), (3, true, []), (4, true, []), (5, true, []), (6, true, []), (7, true, []), (8, true, []), (9, false, []), (10, true, []), (11, true, []), (12, false, []), (13, true, []), (14, true, [])] [[], [0], [0, 1], [0, 1, 2], [0, 1, 2], [0, 1, 2, 3, 4], [0, 1, 2], [0, 1, 2], [0, 1, 2, 6, 7], [0, 1, 2, 3, 4, 5, 6, 7, 8], [0, 1, 2, 3, 4, 5, 6, 7, 8, 9], [0, 1, 2, 3, 4, 5, 6, 7, 8, 9, 10], [0, 1, 2, 3, 4, 5, 6, 7, 8, 9, 10, 11], [0, 1, 2, 3, 4, 5, 6, 7, 8, 9, 10, 11, 12], [0, 1, 2, 3, 4, 5, 6, 7, 8, 9, 10, 11, 12, 13]] MX (by kernel_rfl) ?_
          intro w1 hw1 hw2 hw3 hw4; replace hs := hs.redrawn hw1 hw2 hw3 hw4; clear hw1 hw2 hw3 hw4
          obtain ⟨w, rfl⟩ : ∃ w : World, w = w1 := ⟨_, rfl⟩
          refine D_q rfl rfl ?_
          refine s_move rfl rfl ?_
          refine D_qn ?_
          refine D_q rfl rfl ?_
          refine s_eql rfl rfl rfl ?_
          refine D_qn ?_
          refine D_q rfl rfl ?_
          refine s_move rfl rfl ?_
          refine WL_know (s := 121) (c := true) rfl (rfl) ?_
          refine D_qn ?_
          refine D_q rfl rfl ?_
          refine WL_take rfl ?_
          refine s_move rfl rfl ?_
          refine D_qn ?_
          refine D_q rfl rfl ?_
          refine WL_take rfl ?_
          refine s_move rfl rfl ?_
          refine D_qn ?_
          refine D_q rfl rfl ?_
          refine WL_take rfl ?_
          have hcx : x.length ≤ cx := by obtain ⟨a9, c9, h8, h9⟩ := (OwnS_slIn hOx (w := w) fun p hp => hs.own p (by simp [hp])).len_le; cases h8; exact h9
          (refine s_slice_hi El27 rfl rfl rfl ?hx ?_; case hx => (constructor <;> omega))
          rw [Int.toNat_natCast]
          refine D_qn ?_
          refine D_q rfl rfl ?_
          refine WL_take rfl ?_
          refine s_move rfl rfl ?_
          refine D_qn ?_
          refine D_q rfl rfl ?_
          refine WL_take rfl ?_
          refine s_move rfl rfl ?_
          refine D_qn ?_
          refine D_q rfl rfl ?_
          refine WL_take rfl ?_
          have hca : all.length ≤ ca := by obtain ⟨a9, c9, h8, h9⟩ := (OwnS_slIn hO (w := w) fun p hp => hs.own p (by simp [hp])).len_le; cases h8; exact h9
          (refine s_slice_hi El27 rfl rfl rfl ?hx ?_; case hx => (constructor <;> omega))
          rw [Int.toNat_natCast]
          refine D_qn ?_
          refine D_e rfl ?_
          refine WL_take rfl ?_
          have hS1 := (OwnS_slIn hOx (w := w) fun p hp => hs.own p (by simp [hp])).take (k := firm) (size := 1) (by omega) rfl
          have hS2 := (OwnS_slIn hO (w := w) fun p hp => hs.own p (by simp [hp])).take (k := firm) (size := 1) (by omega) rfl
          rw [Nat.mul_one, ← List.map_take] at hS1 hS2
          have htx : x.take firm = all.take firm := by rw [hx]; exact crashB_take
          rw [htx] at hS1
          have htl : (all.take firm).length = firm := by rw [List.length_take]; omega
          refine s_call Try.call17 rfl rfl (sameBytes_ok _ _ (all.take firm) (all.take firm) w (by rw [htl]; exact hS1) (by rw [htl]; exact hS2) (by omega)) ?_
          rintro r2 w ⟨hst, rfl⟩
          replace hs := hs.fwd1 hst
          clear hst hS1 hS2
          refine D_en ?re ?_
          case re =>
            exact Reks_nil
          refine D_q rfl rfl ?_
          refine s_pick_t rfl rfl rfl ?_
          refine D_qn ?_
          refine D_q rfl rfl ?_
          refine s_move rfl rfl ?_
          refine WL_know (s := 130) (c := true) rfl ((by simp)) ?_
          refine D_qn ?_
          refine D_e rfl ?_
          refine WL_take rfl ?_
          refine s_call Try.call18 rfl rfl (lives_ok w) ?_
          rintro r w ⟨hst, rfl⟩
          replace hs := hs.fwd1 hst
          clear hst
          refine D_en ?re ?_
          case re =>
            exact Reks_nil
          refine D_q rfl rfl ?_
          refine s_pick_t rfl rfl rfl ?_
          refine D_qn ?_
          refine D_q rfl rfl ?_
          refine s_assign rfl rfl ?_
          refine D_qn ?_
          refine D_nil ?_
          refine n_then ?_
          refine W_ret ?_
          refine r_then ?_
          exact end1 rfl rfl ⟨hs.fwd, rfl⟩
        · skip
          try simp only [decide_eq_true_eq, decide_eq_false_iff_not, gt_iff_lt, beq_iff_eq, beq_eq_false_iff_ne, ne_eq] at hc118
          rw [if_neg (by omega)]
          refine W_skip ?_
          refine n_then ?_
          refine W_seq ?_
          refine W_region ?_
          refine s_move rfl rfl ?_
          refine s_eql rfl rfl rfl ?_
          refine s_move rfl rfl ?_
          refine WL_know (s := 135) (c := true) rfl (rfl) ?_
          refine WL_take rfl ?_
          refine s_call Try.call18 rfl rfl (lives_ok w) ?_
          rintro r w ⟨hst, rfl⟩
          replace hs := hs.fwd1 hst
          clear hst
          refine s_pick_t rfl rfl rfl ?_
          refine s_assign rfl rfl ?_
          refine WL_nil ?_
          refine n_then ?_
          refine W_ret ?_
          exact end1 rfl rfl ⟨hs.fwd, rfl⟩
      · skip
        try simp only [decide_eq_true_eq, decide_eq_false_iff_not, gt_iff_lt, beq_iff_eq, beq_eq_false_iff_ne, ne_eq] at hg114
        refine WL_skip rfl rfl rfl ?_
        refine WL_skip rfl rfl rfl ?_
        refine WL_skip rfl rfl rfl ?_
        refine s_pick_f rfl rfl rfl ?_
        refine WL_nil ?_
        refine n_then ?_
        refine W_cond_f rfl ?_
        rw [if_neg (by omega)]
        refine W_skip ?_
        refine n_then ?_
        refine W_seq ?_
        refine W_region ?_
        refine s_move rfl rfl ?_
        refine s_eql rfl rfl rfl ?_
        refine s_move rfl rfl ?_
        refine WL_know (s := 135) (c := true) rfl (rfl) ?_
        refine WL_take rfl ?_
        refine s_call Try.call18 rfl rfl (lives_ok w) ?_
        rintro r w ⟨hst, rfl⟩
        replace hs := hs.fwd1 hst
        clear hst
        refine s_pick_t rfl rfl rfl ?_
        refine s_assign rfl rfl ?_
        refine WL_nil ?_
        refine n_then ?_
        refine W_ret ?_
        exact end1 rfl rfl ⟨hs.fwd, rfl⟩
end Go.Proofs.Ythfcdjbkbmhjgaa
