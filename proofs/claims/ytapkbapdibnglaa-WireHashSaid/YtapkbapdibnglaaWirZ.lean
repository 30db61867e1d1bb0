/- WireHash. -/
import Derived.Test.YtapkbapdibnglaaWirL
import Derived.Test.YtapkbapdibnglaaHash
set_option linter.unusedVariables false
set_option linter.unusedSimpArgs false
namespace Go.Proofs.Ytapkbapdibnglaa
open Go.SL
theorem uvar_inj {a b : Nat} (ha : a < 18446744073709551616) (hb : b < 18446744073709551616) (h : uvar a = uvar b) : a = b := by
  have h1 := rdU_uvar (r := []) ha
  have h2 := rdU_uvar (r := []) hb
  rw [h, h2] at h1
  exact (Prod.mk.inj h1).1.symm
theorem shrW (n i : Nat) (hi : i < 64) : (n : Int).fdiv (2 ^ (min ((i : Nat) : Int).toNat IntKind.u64.bits)) = ((n / 2 ^ i : Nat) : Int) := by
  rw [bits64, show min ((i : Nat) : Int).toNat 64 = i by omega, Int.fdiv_eq_ediv_of_nonneg _ (Int.le_of_lt (Int.pow_pos (by decide)))]
  simp
theorem shr_56 {n i : Nat} (hn : n < 18446744073709551616) (hi : 8 ≤ i) : n / 2 ^ i < 72057594037927936 := by
  have h1 : n / 2 ^ i ≤ n / 2 ^ 8 := Nat.div_le_div_left (Nat.pow_le_pow_right (by decide) hi) (by decide)
  have h2 : n / 2 ^ 8 < 72057594037927936 := by omega
  omega
set_option maxHeartbeats 2000000 in
theorem wireHash_ok (m n : Nat) (k : Int) (s : ByteArray) (w0 : World) (hm : m < 18446744073709551616) (hn : n < 18446744073709551616) (hk : isI64 k) :
    Ret Try.prog 3 [.int .u64 (m : Int), .int .u64 (n : Int), .int .i64 k, .string s].toArray w0 fun r w' => Fwd [] w0 w' ∧ r = .bool true := by
  obtain ⟨mx, hmx⟩ := isMix
  refine Ret_start fun w hs => ?_
  refine Ret_of Try.func3 rfl Try.ntmps3 rfl ?_
  refine W_seq ?_
  refine W_region ?_
  refine s_assign rfl rfl ?_
  refine WL_nil ?_
  refine n_then ?_
  refine W_seq ?_
  refine W_region ?_
  refine s_move rfl rfl ?_
  refine s_call Try.call4 rfl rfl (around_ok k 56 w (by omega) hk) ?_
  rintro r w1 ⟨hw1, rfl⟩
  rw [hw1]; clear hw1 w1
  have har := aroundV_range (m := k) (q := 56) (by omega)
  generalize aroundV k 56 = az at har
  obtain ⟨sh, hsh, hsh2⟩ : ∃ sh : Nat, (8 : Int) + az = (sh : Int) ∧ 8 ≤ sh ∧ sh < 64 := ⟨(8 + az).toNat, by omega, by omega, by omega⟩
  (refine s_add' rfl rfl rfl ?hx ?_; case hx => (constructor <;> omega))
  rw [hsh]
  refine s_convert rfl rfl (CV3_22 _) ?_
  rw [IntWalk.u64_in _ (by omega)]
  refine s_assign rfl rfl ?_
  refine WL_nil ?_
  refine n_then ?_
  refine W_seq ?_
  refine W_region ?_
  refine s_move rfl rfl ?_
  refine s_move rfl rfl ?_
  (refine s_shr rfl rfl rfl ?hx ?_; case hx => omega)
  rw [shrW m sh (by omega)]
  have hx56 := shr_56 hm hsh2.1
  generalize m / 2 ^ sh = x at hx56
  have hxl := uvar_len x 7 (by omega)
  refine s_assign rfl rfl ?_
  refine WL_nil ?_
  refine n_then ?_
  refine W_seq ?_
  refine W_region ?_
  refine s_move rfl rfl ?_
  refine s_move rfl rfl ?_
  (refine s_shr rfl rfl rfl ?hx ?_; case hx => omega)
  rw [shrW n sh (by omega)]
  have hy56 := shr_56 hn hsh2.1
  generalize n / 2 ^ sh = y at hy56
  have hyl := uvar_len y 7 (by omega)
  refine s_assign rfl rfl ?_
  refine WL_nil ?_
  refine n_then ?_
  refine W_seq ?_
  refine W_region ?_
  refine s_alloc rfl AL26 hs ?_; clear hs; intro b12 w hs
  refine WL_nil ?_
  refine n_then ?_
  refine W_seq ?_
  refine W_region ?_
  refine s_move rfl rfl ?_
  refine s_callL (M := []) (L1 := [_]) (X := []) Try.call5 rfl rfl hs (fun h => wUint_ok b12 [] x _ w (wr_new b12) h (by omega) (by simp)) ?_
  clear hs; rintro v w LX ⟨hX, rfl⟩ - hs
  simp only [List.nil_append, List.append_nil] at hs hX
  refine WL_nil ?_
  refine n_then ?_
  refine W_seq ?_
  refine W_region ?_
  refine s_alloc rfl AL26 hs ?_; clear hs; intro b13 w hs
  refine WL_nil ?_
  refine n_then ?_
  refine W_seq ?_
  refine W_region ?_
  refine s_move rfl rfl ?_
  refine s_callL (M := []) (L1 := [_]) (X := LX) Try.call5 rfl rfl hs (fun h => wUint_ok b13 [] y _ w (wr_new b13) h (by omega) (by simp)) ?_
  clear hs; rintro v w LY ⟨hY, rfl⟩ - hs
  simp only [List.nil_append] at hs hY
  refine WL_nil ?_
  refine n_then ?_
  refine W_seq ?_
  refine W_region ?_
  refine s_callL (M := LY) (L1 := LX) (X := []) Try.call6 rfl rfl (by simpa using hs) (fun h => wDone_ok b12 _ _ w hX h (by omega)) ?_
  clear hs; rintro va w L9 ⟨La, rfl, hOa⟩ - hs
  simp only [List.append_nil] at hs
  obtain ⟨_, ac, aa, rfl, rfl⟩ := hOa.form
  refine s_assign rfl rfl ?_
  refine WL_nil ?_
  refine n_then ?_
  refine W_seq ?_
  refine W_region ?_
  refine s_callL (M := []) (L1 := LY) (X := LX ++ La) Try.call6 rfl rfl hs (fun h => wDone_ok b13 _ _ w hY h (by omega)) ?_
  clear hs; rintro vb w L9 ⟨Lb, rfl, hOb⟩ - hs
  simp only [List.nil_append, List.append_assoc] at hs
  obtain ⟨_, bc, ba, rfl, rfl⟩ := hOb.form
  refine s_assign rfl rfl ?_
  refine WL_nil ?_
  refine n_then ?_
  refine W_seq ?_
  refine W_region ?_
  refine s_move rfl rfl ?_
  refine s_call Try.call7 rfl rfl (shortS_ok s 20 w) ?_
  rintro r w1 ⟨hw1, s', rfl, hsz⟩
  rw [hw1]; clear hw1 w1
  refine s_assign rfl rfl ?_
  refine WL_nil ?_
  refine n_then ?_
  refine W_seq ?_
  refine W_seq ?_
  refine W_region ?_
  refine s_move rfl rfl ?_
  refine s_len rfl rfl (LN24 _ _ _ _) ?_
  refine s_move rfl rfl ?_
  refine s_len rfl rfl (LN24 _ _ _ _) ?_
  refine s_neq rfl rfl rfl ?_
  refine s_move rfl rfl ?_
  refine WL_case (s := 40) rfl (fun hg40 => ?_) (fun hg40 => ?_)
  · skip
    try simp only [decide_eq_true_eq, decide_eq_false_iff_not, beq_iff_eq, beq_eq_false_iff_ne, ne_eq, bne_iff_ne, bne_eq_false_iff_eq, gt_iff_lt] at hg40
    have hne : x ≠ y := fun h => by rw [h] at hg40; exact hg40 rfl
    refine WL_skip rfl rfl rfl ?_
    refine WL_skip rfl rfl rfl ?_
    refine WL_skip rfl rfl rfl ?_
    refine s_pick_t rfl rfl rfl ?_
    refine WL_nil ?_
    refine n_then ?_
    refine W_cond_t rfl ?_
    refine W_seq ?_
    refine W_region ?_
    refine s_move rfl rfl ?_
    refine s_len rfl rfl (LN24 _ _ _ _) ?_
    refine s_leq rfl rfl rfl ?_
    refine s_move rfl rfl ?_
    refine WL_know (s := 48) (c := true) rfl ((by simp; omega)) ?_
    refine WL_take rfl ?_
    refine s_move rfl rfl ?_
    refine WL_take rfl ?_
    refine s_move rfl rfl ?_
    refine WL_take rfl ?_
    refine s_neq rfl rfl rfl ?_
    refine s_pick_t rfl rfl rfl ?_
    refine s_move rfl rfl ?_
    refine WL_know (s := 53) (c := true) rfl ((by simp; omega)) ?_
    refine WL_take rfl ?_
    refine s_call Try.call8 rfl rfl (lives_ok w) ?_
    rintro r w ⟨hst, rfl⟩
    replace hs := hs.fwd1 hst
    clear hst
    refine s_pick_t rfl rfl rfl ?_
    refine s_assign rfl rfl ?_
    refine WL_nil ?_
    refine n_then ?_
    refine W_ret ?_
    refine r_then ?_
    exact end1 rfl rfl ⟨hs.fwd, rfl⟩
  · skip
    try simp only [decide_eq_true_eq, decide_eq_false_iff_not, beq_iff_eq, beq_eq_false_iff_ne, ne_eq, bne_iff_ne, bne_eq_false_iff_eq, gt_iff_lt] at hg40
    refine WL_take rfl ?_
    refine s_move rfl rfl ?_
    refine WL_take rfl ?_
    refine s_len rfl rfl (LN24 _ _ _ _) ?_
    refine WL_take rfl ?_
    refine s_gtr rfl rfl rfl ?_
    refine s_pick_f rfl rfl rfl ?_
    refine WL_nil ?_
    refine n_then ?_
    refine W_cond_kf rfl ((by simp; omega)) ?_
    refine W_skip ?_
    refine n_then ?_
    refine W_seq ?_
    refine W_region ?_
    refine s_move rfl rfl ?_
    refine s_move rfl rfl ?_
    refine s_call Try.call9 rfl rfl (hBytes_ok hmx s' _ (uvar x) w (hOa.slM (M := LY ++ (Lb ++ LX)) (X := []) (by simpa using hs)) (uvar_isB x) (by omega) (by omega)) ?_
    rintro r w ⟨hst, rfl⟩
    replace hs := hs.fwd1 hst
    clear hst
    refine s_move rfl rfl ?_
    refine s_move rfl rfl ?_
    refine s_call Try.call9 rfl rfl (hBytes_ok hmx s' _ (uvar y) w (hOb.slM (M := LY) (X := LX ++ La) hs) (uvar_isB y) (by omega) (by omega)) ?_
    rintro r w ⟨hst, rfl⟩
    replace hs := hs.fwd1 hst
    clear hst
    refine s_eql rfl rfl rfl ?_
    refine s_move rfl rfl ?_
    refine s_move rfl rfl ?_
    refine s_eql rfl rfl rfl ?_
    refine s_eql_bool Try.underlying4 rfl rfl rfl ?_
    refine s_move rfl rfl ?_
    refine WL_know (s := 67) (c := true) rfl ((by
have hi := hashV_inj hmx (lab := bytesOf s') (uvar_isB x) (uvar_isB y) (by omega) (by omega)
rw [beq_iff_eq, Bool.eq_iff_iff, beq_iff_eq, beq_iff_eq]
constructor
· intro h; rw [uvar_inj (by omega) (by omega) (hi.1 (by omega))]
· intro h; rw [show x = y by omega])) ?_
    refine WL_take rfl ?_
    refine s_call Try.call8 rfl rfl (lives_ok w) ?_
    rintro r w ⟨hst, rfl⟩
    replace hs := hs.fwd1 hst
    clear hst
    refine s_pick_t rfl rfl rfl ?_
    refine s_assign rfl rfl ?_
    refine WL_nil ?_
    refine n_then ?_
    refine W_ret ?_
    exact end1 rfl rfl ⟨hs.fwd, rfl⟩
end Go.Proofs.Ytapkbapdibnglaa
