/- The reference's encoders (as in XWirE, for a seat without the whole of law02). -/
import Derived.Test.YtkappdlbpilghaaGreatWaA
set_option linter.unusedVariables false
set_option linter.unusedSimpArgs false
namespace Go.Proofs.YtkappdlbpilghaaGreat
open Go.SL
theorem fUint_ok (n : Nat) (w0 : World) (hn : n < 18446744073709551616) :
    Ret Tryz.prog 53 [.int .u64 n].toArray w0 fun r w' => ∃ Lr, OwnS 5 1 r (uvar n).length (u8s (uvar n)) Lr ∧ St [] w0 w' Lr := by
  refine Ret_start fun w hs => ?_
  refine Ret_of Tryz.func53 rfl Tryz.ntmps53 rfl ?_
  refine W_seq ?_
  refine W_region ?_
  refine s_assign rfl rfl ?_
  refine WL_nil ?_
  refine n_then ?_
  refine W_seq ?_
  refine W_region ?_
  refine s_assign rfl rfl ?_
  refine WL_nil ?_
  refine n_then ?_
  refine W_seq ?_
  refine W_block ?_
  refine W_loop (σ := Nat × List Int × Value × Hp) (fun s => [(0, .int .u64 (s.1 : Int)), (3, s.2.2.1)]) (fun s w => St [] w0 w s.2.2.2 ∧ OwnS 5 1 s.2.2.1 s.2.1.length (u8s s.2.1) s.2.2.2 ∧ s.2.1 ++ uvar s.1 = uvar n ∧ s.1 < 18446744073709551616) (fun s => s.1) (n, [], .slice none 0 0, []) ⟨rfl, rfl, trivial⟩ ⟨hs, OwnS.nil _ _, rfl, hn⟩ ?_
  clear hs
  rintro ⟨m, cs, v, L⟩ w ⟨hs, hO, hcat, hm⟩
  simp only at hs hO hcat hm ⊢
  have hlen : cs.length ≤ 10 := by
    have := congrArg List.length hcat
    have h2 := uvar_len10 hn
    simp only [List.length_append] at this; omega
  refine W_seq ?_
  refine W_seq ?_
  refine W_region ?_
  refine s_move rfl rfl ?_
  refine s_gtr rfl rfl rfl ?_
  refine WL_nil ?_
  refine n_then ?_
  refine W_cond rfl (fun hc5 => ?_) (fun hc5 => ?_)
  · skip
    simp only [decide_eq_true_eq, decide_eq_false_iff_not] at hc5
    refine W_skip ?_
    refine n_then ?_
    refine W_block ?_
    refine W_seq ?_
    refine W_region ?_
    refine s_move rfl rfl ?_
    refine s_move rfl rfl ?_
    (refine s_rem rfl rfl rfl ?hx ?_; case hx => omega)
    rw [IntWalk.rem_in _ _ (by omega), show (m : Int) % 128 = ((m % 128 : Nat) : Int) by omega]
    refine s_add rfl rfl rfl ?_
    rw [show (128 : Int) + ((m % 128 : Nat) : Int) = ((m % 128 + 128 : Nat) : Int) by omega, u64w (by omega)]
    refine s_convert rfl rfl (CV75_5 _) ?_
    rw [IntWalk.u8_in _ (by omega)]
    refine s_buildSlice rfl rfl (BS39_1 _) hs ?_; clear hs; intro b11 w hs
    refine s_appendM (M := [_]) (X := []) El39 rfl rfl rfl hO (by simpa using hs) (hs.sl (k := 0) (ds := [_]) rfl (Nat.le_refl _) (by intro j u hj; rw [Nat.zero_add]; exact hj)) rfl (by simp [Value.oneCell']) (by omega) ?_
    clear hs; intro v' w Lv' hO' hs
    simp only [List.cons_append, List.nil_append, List.append_nil] at hs
    refine s_assign rfl rfl ?_
    refine WL_nil ?_
    refine n_then ?_
    refine W_region ?_
    refine s_move rfl rfl ?_
    (refine s_quo rfl rfl rfl ?hx ?_; case hx => omega)
    rw [IntWalk.u64_quo _ _ ⟨by omega, by omega, by omega⟩, show (m : Int) / 128 = ((m / 128 : Nat) : Int) by omega]
    refine s_assign rfl rfl ?_
    refine WL_nil ?_
    refine n_blk ?_
    refine n_loop ?_
    refine ⟨(m / 128, cs ++ [((m % 128 + 128 : Nat) : Int)], v', Lv'), ⟨rfl, rfl, trivial⟩, ⟨hs.tail, by simpa using hO', ?_, by simp only; omega⟩, by simp only; omega⟩
    rw [← hcat, uvar_hi (n := m) (by omega)]; simp
  · skip
    simp only [decide_eq_true_eq, decide_eq_false_iff_not] at hc5
    refine W_exit ?_
    refine x_then ?_
    refine x_then ?_
    refine exit_hit ?_
    refine n_then ?_
    refine W_seq ?_
    refine W_region ?_
    refine s_move rfl rfl ?_
    refine s_move rfl rfl ?_
    refine s_convert rfl rfl (CV75_5 _) ?_
    rw [IntWalk.u8_in _ (by omega)]
    refine s_buildSlice rfl rfl (BS39_1 _) hs ?_; clear hs; intro b18 w hs
    refine s_appendM (M := [_]) (X := []) El39 rfl rfl rfl hO (by simpa using hs) (hs.sl (k := 0) (ds := [_]) rfl (Nat.le_refl _) (by intro j u hj; rw [Nat.zero_add]; exact hj)) rfl (by simp [Value.oneCell']) (by omega) ?_
    clear hs; intro v' w Lv' hO' hs
    simp only [List.cons_append, List.nil_append, List.append_nil] at hs
    refine s_assign rfl rfl ?_
    refine WL_nil ?_
    refine n_then ?_
    refine W_ret ?_
    refine end1 rfl rfl ⟨Lv', ?_, hs.tail⟩
    rw [← hcat, uvar_lo (n := m) (by omega)]; simpa using hO'
theorem fZig_ok (n : Int) (w0 : World) (hn : isI64 n) : Ret Tryz.prog 85 [.int .i64 n].toArray w0 fun r w' => w' = w0 ∧ r = .int .u64 (zz n : Int) := by
  unfold isI64 at hn
  refine Ret_of Tryz.func85 rfl Tryz.ntmps85 rfl ?_
  refine W_seq ?_
  refine W_region ?_
  refine s_assign rfl rfl ?_
  refine WL_nil ?_
  refine n_then ?_
  refine W_seq ?_
  refine W_seq ?_
  refine W_region ?_
  refine s_move rfl rfl ?_
  refine s_lss rfl rfl rfl ?_
  refine WL_nil ?_
  refine n_then ?_
  refine W_cond rfl (fun hc4 => ?_) (fun hc4 => ?_)
  · skip
    simp only [decide_eq_true_eq, decide_eq_false_iff_not] at hc4
    refine W_seq ?_
    refine W_region ?_
    refine s_move rfl rfl ?_
    first | (refine s_add' rfl rfl rfl ?hx ?_; case hx => (constructor <;> first | omega | (simp only; omega))) | refine s_add rfl rfl rfl ?_
    first | (refine s_neg' rfl rfl ?hx ?_; case hx => omega) | refine s_neg rfl rfl ?_
    refine s_convert rfl rfl (CV3_75 _) ?_
    refine s_mul rfl rfl rfl ?_
    refine s_add rfl rfl rfl ?_
    refine s_assign rfl rfl ?_
    refine WL_nil ?_
    refine n_then ?_
    refine W_ret ?_
    refine r_then ?_
    refine end1 rfl rfl ⟨rfl, congrArg (Value.int .u64) ?_⟩
    simp only [wrapU64, zz]
    split <;> omega
  · skip
    simp only [decide_eq_true_eq, decide_eq_false_iff_not] at hc4
    refine W_skip ?_
    refine n_then ?_
    refine W_seq ?_
    refine W_region ?_
    refine s_move rfl rfl ?_
    refine s_convert rfl rfl (CV3_75 _) ?_
    refine s_mul rfl rfl rfl ?_
    refine s_assign rfl rfl ?_
    refine WL_nil ?_
    refine n_then ?_
    refine W_ret ?_
    refine end1 rfl rfl ⟨rfl, congrArg (Value.int .u64) ?_⟩
    simp only [wrapU64, zz]
    split <;> omega
theorem fInt_ok (n : Int) (w0 : World) (hn : isI64 n) :
    Ret Tryz.prog 70 [.int .i64 n].toArray w0 fun r w' => ∃ Lr, OwnS 5 1 r (uvar (zz n)).length (u8s (uvar (zz n))) Lr ∧ St [] w0 w' Lr := by
  refine Ret_of Tryz.func70 rfl Tryz.ntmps70 rfl ?_
  refine W_seq ?_
  refine W_region ?_
  refine s_assign rfl rfl ?_
  refine WL_nil ?_
  refine n_then ?_
  refine W_seq ?_
  refine W_region ?_
  refine s_move rfl rfl ?_
  refine s_call Tryz.call85 rfl rfl (fZig_ok n _ hn) ?_
  rintro r w ⟨rfl, rfl⟩
  refine s_call Tryz.call53 rfl rfl (fUint_ok (zz n) _ (zz_lt hn)) ?_
  rintro r w hpost
  refine s_assign rfl rfl ?_
  refine WL_nil ?_
  refine n_then ?_
  refine W_ret ?_
  exact end1 rfl rfl hpost
theorem fRaw_ok (v : Value) (bs : List Int) (w0 : World) (hv : Sl w0 v bs.length (u8s bs)) (hl : bs.length ≤ 4294967296) :
    Ret Tryz.prog 52 [v].toArray w0 fun r w' => ∃ Lr, OwnS 5 1 r (uvar bs.length ++ bs).length (u8s (uvar bs.length ++ bs)) Lr ∧ St [] w0 w' Lr := by
  obtain ⟨a, c, rfl, hac⟩ := hv.len_le
  refine Ret_start fun w hs => ?_
  refine Ret_of Tryz.func52 rfl Tryz.ntmps52 rfl ?_
  refine W_seq ?_
  refine W_region ?_
  refine s_assign rfl rfl ?_
  refine WL_nil ?_
  refine n_then ?_
  refine W_seq ?_
  refine W_region ?_
  refine s_move rfl rfl ?_
  refine s_len rfl rfl (LN39 _ _ _ _) ?_
  refine s_convert rfl rfl (CV3_75 _) ?_
  rw [u64w (by omega)]
  refine s_call Tryz.call53 rfl rfl (fUint_ok bs.length w (by omega)) ?_
  rintro r w ⟨Lr, hO, hst⟩
  replace hs := St.back0 hs hst
  clear hst
  have h10 := uvar_len10 (n := bs.length) (by omega)
  refine s_move rfl rfl ?_
  refine s_appendM (M := []) (X := []) El39 rfl rfl rfl hO (by simpa using hs) (hv.fwd0 hs.fwd) (by simp) (u8s_one _) (by omega) ?_
  clear hs; intro v' w Lv' hO' hs
  simp only [List.nil_append, List.append_nil] at hs
  refine s_assign rfl rfl ?_
  refine WL_nil ?_
  refine n_then ?_
  refine W_ret ?_
  refine end1 rfl rfl ⟨Lv', ?_, hs⟩
  rw [List.length_append, u8s, List.map_append]; exact hO'
end Go.Proofs.YtkappdlbpilghaaGreat
