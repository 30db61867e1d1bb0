/- WireSizes. -/
import Derived.Test.YtheeheahhnamjaaWirL
set_option linter.unusedVariables false
set_option linter.unusedSimpArgs false
namespace Go.Proofs.Ytheeheahhnamjaa
open Go.SL
set_option maxHeartbeats 1000000 in
theorem wireSizes_ok (u : Nat) (n sh : Int) (w0 : World) (hu : u < 18446744073709551616) (hn : isI64 n) (hsh : isI64 sh) :
    Ret Try.prog 3 [.int .u64 u, .int .i64 n, .int .i64 sh].toArray w0 fun r w' => Fwd [] w0 w' ∧ r = .bool true := by
  refine Ret_start fun w hs => ?_
  refine Ret_of Try.func3 rfl Try.ntmps3 rfl ?_
  refine W_seq ?_
  refine W_region ?_
  refine s_assign rfl rfl ?_
  refine WL_nil ?_
  refine n_then ?_
  refine W_seq ?_
  refine W_region ?_
  refine s_move rfl rfl ?_
  refine s_move rfl rfl ?_
  refine s_call Try.call11 rfl rfl (around_ok sh 64 w (by omega) hsh) ?_
  rintro r w ⟨rfl, rfl⟩
  have hr := aroundV_range (m := sh) (q := 64) (by omega)
  obtain ⟨s, hsN⟩ : ∃ s : Nat, aroundV sh 64 = s := ⟨(aroundV sh 64).toNat, by omega⟩
  rw [hsN] at hr ⊢
  refine s_convert rfl rfl (CV3_22 _) ?_
  rw [u64w (by omega)]
  (refine s_shr rfl rfl rfl ?hx ?_; case hx => omega)
  obtain ⟨k, hk, hk64⟩ : ∃ k : Nat, (u : Int).fdiv (2 ^ (min ((s : Int)).toNat IntKind.u64.bits)) = k ∧ k < 18446744073709551616 := by
    refine ⟨u / 2 ^ (min ((s : Int)).toNat IntKind.u64.bits), ?_, Nat.lt_of_le_of_lt (Nat.div_le_self _ _) hu⟩
    rw [Int.fdiv_eq_ediv_of_nonneg _ (Int.le_of_lt (Int.pow_pos (by omega)))]; simp
  rw [hk]
  refine s_assign rfl rfl ?_
  refine WL_nil ?_
  refine n_then ?_
  refine W_seq ?_
  refine W_region ?_
  refine s_assign rfl rfl ?_
  refine WL_nil ?_
  refine n_then ?_
  refine W_seq ?_
  refine W_seq ?_
  refine W_region ?_
  refine s_move rfl rfl ?_
  (refine s_quo rfl rfl rfl ?hx ?_; case hx => omega)
  rw [IntWalk.u64_quo _ _ ⟨by omega, by omega, by omega⟩, show (k : Int) / 128 = ((k / 128 : Nat) : Int) by omega]
  refine s_assign rfl rfl ?_
  refine WL_nil ?_
  refine n_then ?_
  refine W_block ?_
  refine W_loop (σ := Nat × Nat) (fun s => [(1, .int .i64 n), (7, .int .u64 (k : Int)), (8, .int .i64 (s.1 : Int)), (9, .int .u64 (s.2 : Int))]) (fun s w => St [] w0 w [] ∧ s.2 < 18446744073709551616 ∧ (uvar k).length = s.1 + if s.2 = 0 then 0 else (uvar s.2).length) (fun s => s.2) (1, k / 128) ⟨rfl, rfl, rfl, rfl, trivial⟩ ⟨hs, by simp only; omega, uvar_step k⟩ ?_
  clear hs
  rintro ⟨sz, rest⟩ w ⟨hs, hr64, hlen⟩
  simp only at hr64 hlen ⊢
  have h10 := uvar_len10 hk64
  refine W_seq ?_
  refine W_seq ?_
  refine W_region ?_
  refine s_move rfl rfl ?_
  refine s_gtr rfl rfl rfl ?_
  refine WL_nil ?_
  refine n_then ?_
  refine W_cond rfl (fun hc21 => ?_) (fun hc21 => ?_)
  · skip
    simp only [decide_eq_true_eq, decide_eq_false_iff_not] at hc21
    refine W_skip ?_
    refine n_then ?_
    refine W_seq ?_
    refine W_block ?_
    refine W_region ?_
    refine s_move rfl rfl ?_
    first | (refine s_add' rfl rfl rfl ?hx ?_; case hx => (constructor <;> first | omega | (simp only; omega))) | refine s_add rfl rfl rfl ?_
    refine s_assign rfl rfl ?_
    refine WL_nil ?_
    refine n_blk ?_
    refine n_then ?_
    refine W_region ?_
    refine s_move rfl rfl ?_
    (refine s_quo rfl rfl rfl ?hx ?_; case hx => omega)
    rw [IntWalk.u64_quo _ _ ⟨by omega, by omega, by omega⟩, show (rest : Int) / 128 = ((rest / 128 : Nat) : Int) by omega]
    refine s_assign rfl rfl ?_
    refine WL_nil ?_
    refine n_loop ?_
    rw [if_neg (by omega), uvar_step rest] at hlen
    refine ⟨(sz + 1, rest / 128), ⟨rfl, rfl, rfl, rfl, trivial⟩, ⟨hs, by simp only; omega, by simp only; omega⟩, by simp only; omega⟩
  · skip
    simp only [decide_eq_true_eq, decide_eq_false_iff_not] at hc21
    refine W_exit ?_
    refine x_then ?_
    refine x_then ?_
    refine exit_hit ?_
    refine n_then ?_
    refine W_seq ?_
    refine W_region ?_
    refine s_alloc rfl AL26 hs ?_; clear hs; intro b10 w hs
    refine WL_nil ?_
    refine n_then ?_
    refine W_seq ?_
    refine W_region ?_
    refine s_move rfl rfl ?_
    refine s_callL (M := []) (L1 := [_]) (X := []) Try.call12 rfl rfl hs (fun h => wUint_ok b10 [] k _ w (wr_new b10) h hk64 (by simp)) ?_
    clear hs; rintro v w LW ⟨hW, rfl⟩ - hs
    simp only [List.nil_append, List.append_nil] at hs hW
    refine WL_nil ?_
    refine n_then ?_
    refine W_seq ?_
    refine W_region ?_
    refine s_alloc rfl AL26 hs ?_; clear hs; intro b11 w hs
    refine WL_nil ?_
    refine n_then ?_
    refine W_seq ?_
    refine W_region ?_
    refine s_move rfl rfl ?_
    refine s_call Try.call13 rfl rfl (bound_ok n 63 w hn (by omega)) ?_
    rintro r w ⟨rfl, rfl⟩
    have hb := boundV_range (n := n) (m := 63) (by omega)
    generalize boundV n 63 = m at hb
    have hz1 : uvar (zz m) = [(zz m : Int)] := uvar_lo (by unfold zz; split <;> omega)
    have hz2 : uvar (zz (-m)) = [(zz (-m) : Int)] := uvar_lo (by unfold zz; split <;> omega)
    refine s_assign rfl rfl ?_
    refine WL_nil ?_
    refine n_then ?_
    refine W_seq ?_
    refine W_region ?_
    refine s_move rfl rfl ?_
    refine s_callL (M := []) (L1 := [_]) (X := LW) Try.call14 rfl rfl hs (fun h => wInt_ok b11 [] m _ w (wr_new b11) h (by unfold isI64; omega) (by simp)) ?_
    clear hs; rintro v w LX ⟨hX, rfl⟩ - hs
    simp only [List.nil_append, hz1] at hs hX
    refine WL_nil ?_
    refine n_then ?_
    refine W_seq ?_
    refine W_region ?_
    refine s_move rfl rfl ?_
    first | (refine s_neg' rfl rfl ?hx ?_; case hx => omega) | refine s_neg rfl rfl ?_
    refine s_callL (M := []) (L1 := LX) (X := LW) Try.call14 rfl rfl hs (fun h => wInt_ok b11 _ (-m) _ w hX h (by unfold isI64; omega) (by simp)) ?_
    clear hs hX; rintro v w LX ⟨hX, rfl⟩ - hs
    simp only [List.nil_append, hz2] at hs hX
    refine WL_nil ?_
    refine n_then ?_
    refine W_seq ?_
    refine W_region ?_
    refine s_move rfl rfl ?_
    refine s_gtr rfl rfl rfl ?_
    refine s_callL (M := []) (L1 := LX) (X := LW) Try.call15 rfl rfl hs (fun h => wBool_ok b11 _ _ _ w hX h (by simp)) ?_
    clear hs hX; rintro v w LX ⟨hX, rfl⟩ - hs
    simp only [List.nil_append] at hs
    refine WL_nil ?_
    refine n_then ?_
    refine W_seq ?_
    refine W_region ?_
    refine s_callL (M := LX) (L1 := LW) (X := []) Try.call16 rfl rfl (by simpa using hs) (fun h => wDone_ok b10 _ _ w hW h (by omega)) ?_
    clear hs; rintro v w LW2 ⟨Lr, rfl, hOr⟩ - hs
    obtain ⟨_, vc, va, rfl, rfl⟩ := hOr.form
    refine s_len rfl rfl (LN24 _ _ _ _) ?_
    refine s_move rfl rfl ?_
    refine s_eql rfl rfl rfl ?_
    refine s_move rfl rfl ?_
    refine WL_know (s := 42) (c := true) rfl ((by rw [if_pos (by omega)] at hlen; rw [hlen]; simp)) ?_
    refine WL_take rfl ?_
    refine s_callL (M := []) (L1 := LX) (X := (LW ++ Lr) ++ []) Try.call16 rfl rfl hs (fun h => wDone_ok b11 _ _ w hX h (by simp)) ?_
    clear hs; rintro v w LX2 ⟨Lr2, rfl, hOr2⟩ - hs
    obtain ⟨_, vc2, va2, rfl, rfl⟩ := hOr2.form
    refine WL_take rfl ?_
    refine s_len rfl rfl (LN24 _ _ _ _) ?_
    refine WL_take rfl ?_
    refine s_eql rfl rfl rfl ?_
    refine s_pick_t rfl rfl rfl ?_
    refine s_move rfl rfl ?_
    refine WL_know (s := 47) (c := true) rfl (rfl) ?_
    refine WL_take rfl ?_
    refine s_call Try.call17 rfl rfl (lives_ok w) ?_
    rintro r w ⟨hst, rfl⟩
    replace hs := hs.fwd1 hst
    refine s_pick_t rfl rfl rfl ?_
    refine s_assign rfl rfl ?_
    refine WL_nil ?_
    refine n_then ?_
    refine W_ret ?_
    exact end1 rfl rfl ⟨hs.fwd, rfl⟩
end Go.Proofs.Ytheeheahhnamjaa
