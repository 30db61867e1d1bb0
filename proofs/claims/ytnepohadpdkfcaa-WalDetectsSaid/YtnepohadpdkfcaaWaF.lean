/- The reference's Sum. -/
import Derived.Test.YtnepohadpdkfcaaWaE
set_option linter.unusedVariables false
set_option linter.unusedSimpArgs false
namespace Go.Proofs.Ytnepohadpdkfcaa
open Go.SL
theorem fSum_ok {mx : Nat → Nat → Nat} (hmx : IsMix mx) (s : ByteArray) (v : Value) (xs : List Int) (w0 : World) (hv : Sl w0 v xs.length (i64s xs)) (hsz : s.size ≤ 4294967296) (hl : xs.length ≤ 4294967296) :
    Ret Try.prog 38 [.string s, v].toArray w0 fun r w' => Fwd [] w0 w' ∧ r = .int .u64 (sumV mx (bytesOf s) xs : Int) := by
  obtain ⟨a, c, rfl, hac⟩ := hv.len_le
  have hmlt := hmx.lt
  refine Ret_start fun w hs => ?_
  refine Ret_of Try.func38 rfl Try.ntmps38 rfl ?_
  refine W_seq ?_
  refine W_region ?_
  refine s_assign rfl rfl ?_
  refine WL_nil ?_
  refine n_then ?_
  refine W_seq ?_
  refine W_region ?_
  refine s_assign rfl rfl ?_
  refine WL_nil ?_
  refine n_then ?_
  refine W_seq ?_
  refine W_region ?_
  refine s_move rfl rfl ?_
  refine s_str_bytes Try.underlying9 Try.underlying23 Try.underlying5 rfl rfl hs ?_
  clear hs; intro sb sc so w hrd hs
  replace hrd : RdS (.slice (some ⟨sb, 0, none⟩) s.size sc) s.size (u8s (bytesOf s)) [(sb, so)] := by rw [u8s, u8s_bytesOf]; exact hrd
  refine s_call Try.call37 rfl rfl (fWords_ok _ (bytesOf s) w (by rw [bytesOf_length]; exact hrd.sl w (fun q hq => hs.own q hq)) (bytesOf_isB s) (by rw [bytesOf_length]; omega)) ?_
  rintro r w ⟨L2, hO2, hst⟩
  replace hs := (St.back0 hs hst).left
  clear hst hrd
  obtain ⟨l2, c2, a2, rfl, rfl⟩ := hO2.form
  have hwl : ∀ z ∈ wordsOf (bytesOf s), z < 18446744073709551616 := fun z hz => by
    obtain ⟨k, _, rfl⟩ := List.mem_map.1 hz
    exact wordAt_lt (bytesOf_isB s) k
  have hwn : (wordsOf (bytesOf s)).length ≤ 4294967296 := by
    rw [wordsOf, List.length_map, List.length_range, nWords, bytesOf_length]; omega
  generalize hWS : wordsOf (bytesOf s) = ws at hO2 hwl hwn
  refine s_assign rfl rfl ?_
  refine WL_nil ?_
  refine n_then ?_
  refine W_seq ?_
  refine W_seq ?_
  refine W_region ?_
  refine s_assign rfl rfl ?_
  refine WL_nil ?_
  refine n_then ?_
  refine W_block ?_
  refine W_loop (σ := Nat) (fun i => [(0, .string s), (1, .slice a xs.length c), (5, .int .u64 (((ws.take i).foldl mx 0 : Nat) : Int)), (6, .slice a2 ws.length c2), (7, .int .i64 (i : Int))]) (fun i w => St [] w0 w L2 ∧ i ≤ ws.length) (fun i => ws.length - i) 0 ⟨rfl, rfl, rfl, rfl, rfl, trivial⟩ ⟨hs, Nat.zero_le _⟩ ?_
  clear hs
  rintro i w ⟨hs, hi⟩
  have hac1 := foldl_mix_lt hmx (ws.take i) 0 (by decide)
  refine W_seq ?_
  refine W_seq ?_
  refine W_region ?_
  refine s_move rfl rfl ?_
  refine s_move rfl rfl ?_
  refine s_len rfl rfl (LN68 _ _ _ _) ?_
  refine s_lss rfl rfl rfl ?_
  refine WL_nil ?_
  refine n_then ?_
  refine W_cond rfl (fun hc15 => ?_) (fun hc15 => ?_)
  · skip
    try simp only [decide_eq_true_eq, decide_eq_false_iff_not, ge_iff_le] at hc15
    have hil : i < ws.length := by omega
    have hwi : ws[i]? = some ws[i] := List.getElem?_eq_getElem hil
    generalize ws[i] = z at hwi
    have hz := hwl z (List.mem_of_getElem? hwi)
    obtain ⟨sb, so, hA, hcell⟩ := Sl.at (k := i) (u := .int .u64 (z : Int)) (hO2.sl (M := []) (by simpa using hs)) (by rw [wcells, List.getElem?_map, hwi]; rfl)
    refine W_skip ?_
    refine n_then ?_
    refine W_seq ?_
    refine W_block ?_
    refine W_region ?_
    refine s_move rfl rfl ?_
    refine s_move rfl rfl ?_
    refine s_move rfl rfl ?_
    (refine s_indexAddrO El68 rfl rfl rfl hA ?hx ?_; case hx => (constructor <;> omega))
    refine s_load Try.isAgg42 rfl rfl hcell ?_
    refine s_call Try.call48 rfl rfl (fMix_ok hmx _ z w hac1 hz) ?_
    rintro r w1 ⟨hw1, rfl⟩
    rw [hw1]; clear hw1 w1
    refine s_assign rfl rfl ?_
    refine WL_nil ?_
    refine n_blk ?_
    refine n_then ?_
    refine W_region ?_
    refine s_move rfl rfl ?_
    first | (refine s_add' rfl rfl rfl ?hx ?_; case hx => (constructor <;> first | omega | (simp only; omega))) | refine s_add rfl rfl rfl ?_
    refine s_assign rfl rfl ?_
    refine WL_nil ?_
    refine n_loop ?_
    exact ⟨i + 1, ⟨rfl, rfl, by rw [List.take_add_one, hwi, List.foldl_append]; rfl, rfl, rfl, trivial⟩, ⟨hs, by omega⟩, by omega⟩
  · skip
    try simp only [decide_eq_true_eq, decide_eq_false_iff_not, ge_iff_le] at hc15
    refine W_exit ?_
    refine x_then ?_
    refine x_then ?_
    refine exit_hit ?_
    refine n_then ?_
    refine W_seq ?_
    refine W_region ?_
    refine s_move rfl rfl ?_
    refine s_move rfl rfl ?_
    refine s_len rfl rfl (LN9 _ _) ?_
    have hie : i = ws.length := by omega
    rw [hie, List.take_length] at hac1
    rw [hie, List.take_length]
    refine s_convert rfl rfl (CV3_42 _) ?_
    rw [u64w (by omega)]
    refine s_call Try.call48 rfl rfl (fMix_ok hmx _ s.size w hac1 (by omega)) ?_
    rintro r w1 ⟨hw1, rfl⟩
    rw [hw1]; clear hw1 w1
    refine s_assign rfl rfl ?_
    refine WL_nil ?_
    refine n_then ?_
    refine W_seq ?_
    refine W_region ?_
    refine s_move rfl rfl ?_
    refine s_move rfl rfl ?_
    refine s_len rfl rfl (LN22 _ _ _ _) ?_
    refine s_convert rfl rfl (CV3_42 _) ?_
    rw [u64w (by omega)]
    refine s_call Try.call48 rfl rfl (fMix_ok hmx _ xs.length w (hmlt _ _) (by omega)) ?_
    rintro r w1 ⟨hw1, rfl⟩
    rw [hw1]; clear hw1 w1
    obtain ⟨A, hA0⟩ : ∃ A, A = mx (mx (ws.foldl mx 0) s.size) xs.length := ⟨_, rfl⟩
    have hAl : A < 18446744073709551616 := by rw [hA0]; exact hmlt _ _
    rw [← hA0]
    refine s_assign rfl rfl ?_
    refine WL_nil ?_
    refine n_then ?_
    refine W_seq ?_
    refine W_seq ?_
    refine W_region ?_
    refine s_assign rfl rfl ?_
    refine WL_nil ?_
    refine n_then ?_
    refine W_block ?_
    refine W_loop (σ := Nat) (fun i => [(1, .slice a xs.length c), (5, .int .u64 ((((xs.take i).map toU).foldl mx A : Nat) : Int)), (8, .int .i64 (i : Int))]) (fun i w => St [] w0 w L2 ∧ i ≤ xs.length) (fun i => xs.length - i) 0 ⟨rfl, rfl, rfl, trivial⟩ ⟨hs, Nat.zero_le _⟩ ?_
    clear hs
    rintro i w ⟨hs, hi⟩
    have hac2 := foldl_mix_lt hmx ((xs.take i).map toU) A hAl
    refine W_seq ?_
    refine W_seq ?_
    refine W_region ?_
    refine s_move rfl rfl ?_
    refine s_move rfl rfl ?_
    refine s_len rfl rfl (LN22 _ _ _ _) ?_
    refine s_lss rfl rfl rfl ?_
    refine WL_nil ?_
    refine n_then ?_
    refine W_cond rfl (fun hc37 => ?_) (fun hc37 => ?_)
    · skip
      try simp only [decide_eq_true_eq, decide_eq_false_iff_not, ge_iff_le] at hc37
      have hil : i < xs.length := by omega
      have hwi : xs[i]? = some xs[i] := List.getElem?_eq_getElem hil
      generalize xs[i] = z at hwi
      obtain ⟨sb, so, hA, hcell⟩ := Sl.at (k := i) (u := .int .i64 z) (hv.fwd0 hs.fwd) (by rw [i64s, List.getElem?_map, hwi]; rfl)
      refine W_skip ?_
      refine n_then ?_
      refine W_seq ?_
      refine W_block ?_
      refine W_region ?_
      refine s_move rfl rfl ?_
      refine s_move rfl rfl ?_
      refine s_move rfl rfl ?_
      (refine s_indexAddrO El22 rfl rfl rfl hA ?hx ?_; case hx => (constructor <;> omega))
      refine s_load Try.isAgg3 rfl rfl hcell ?_
      refine s_convert rfl rfl (CV3_42 _) ?_
      rw [toU_wrap]
      refine s_call Try.call48 rfl rfl (fMix_ok hmx _ (toU z) w hac2 (toU_lt z)) ?_
      rintro r w1 ⟨hw1, rfl⟩
      rw [hw1]; clear hw1 w1
      refine s_assign rfl rfl ?_
      refine WL_nil ?_
      refine n_blk ?_
      refine n_then ?_
      refine W_region ?_
      refine s_move rfl rfl ?_
      first | (refine s_add' rfl rfl rfl ?hx ?_; case hx => (constructor <;> first | omega | (simp only; omega))) | refine s_add rfl rfl rfl ?_
      refine s_assign rfl rfl ?_
      refine WL_nil ?_
      refine n_loop ?_
      exact ⟨i + 1, ⟨rfl, by rw [List.take_add_one, hwi, List.map_append, List.foldl_append]; rfl, rfl, trivial⟩, ⟨hs, by omega⟩, by omega⟩
    · skip
      try simp only [decide_eq_true_eq, decide_eq_false_iff_not, ge_iff_le] at hc37
      refine W_exit ?_
      refine x_then ?_
      refine x_then ?_
      refine exit_hit ?_
      refine n_then ?_
      refine W_seq ?_
      refine W_region ?_
      refine s_move rfl rfl ?_
      have hie : i = xs.length := by omega
      rw [hie, List.take_length] at hac2
      rw [hie, List.take_length]
      refine s_call Try.call48 rfl rfl (fMix_ok hmx _ 0 w hac2 (by decide)) ?_
      rintro r w1 ⟨hw1, rfl⟩
      rw [hw1]; clear hw1 w1
      refine s_assign rfl rfl ?_
      refine WL_nil ?_
      refine n_then ?_
      refine W_ret ?_
      exact end1 rfl rfl ⟨hs.fwd, by rw [sumV, sumG, hWS, bytesOf_length, List.length_map, ← hA0]⟩
end Go.Proofs.Ytnepohadpdkfcaa
