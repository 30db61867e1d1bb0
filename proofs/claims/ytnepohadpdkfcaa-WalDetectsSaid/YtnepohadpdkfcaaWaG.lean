/- The reference's Bytes and Frame. -/
import Derived.Test.YtnepohadpdkfcaaWaF
set_option linter.unusedVariables false
set_option linter.unusedSimpArgs false
namespace Go.Proofs.Ytnepohadpdkfcaa
open Go.SL
def wI (ws : List Nat) : List Int := ws.map fun (m : Nat) => IntKind.i64.wrap (m : Int)
theorem fBytes_ok {mx : Nat → Nat → Nat} (hmx : IsMix mx) (s : ByteArray) (v : Value) (bs : List Int) (w0 : World) (hv : Sl w0 v bs.length (u8s bs)) (hB : ∀ b ∈ bs, isB b) (hsz : s.size ≤ 4294967296) (hl : bs.length ≤ 1073741824) :
    Ret Try.prog 28 [.string s, v].toArray w0 fun r w' => Fwd [] w0 w' ∧ r = .int .u64 (hashV mx (bytesOf s) bs : Int) := by
  obtain ⟨a, c, rfl, hac⟩ := hv.len_le
  refine Ret_start fun w hs => ?_
  refine Ret_of Try.func28 rfl Try.ntmps28 rfl ?_
  refine W_seq ?_
  refine W_region ?_
  refine s_assign rfl rfl ?_
  refine WL_nil ?_
  refine n_then ?_
  refine W_seq ?_
  refine W_region ?_
  refine s_move rfl rfl ?_
  refine s_call Try.call37 rfl rfl (fWords_ok _ bs w (hv.fwd0 hs.fwd) hB (by omega)) ?_
  rintro r w ⟨L2, hO2, hst⟩
  replace hs := (St.back0 hs hst).left
  clear hst
  obtain ⟨l2, c2, a2, rfl, rfl⟩ := hO2.form
  have hwn : (wordsOf bs).length ≤ 1073741824 := by
    rw [wordsOf, List.length_map, List.length_range, nWords]; omega
  generalize hWS : wordsOf bs = ws at hO2 hwn
  refine s_assign rfl rfl ?_
  refine WL_nil ?_
  refine n_then ?_
  refine W_seq ?_
  refine W_region ?_
  refine s_assign rfl rfl ?_
  refine WL_nil ?_
  refine n_then ?_
  refine W_seq ?_
  refine W_seq ?_
  refine W_region ?_
  refine s_assign rfl rfl ?_
  refine WL_nil ?_
  refine n_then ?_
  refine W_block ?_
  refine W_loop (σ := Nat × Value × Hp) (fun s' => [(0, .string s), (1, .slice a bs.length c), (5, .slice a2 ws.length c2), (6, s'.2.1), (7, .int .i64 (s'.1 : Int))]) (fun s' w => St [] w0 w (L2 ++ s'.2.2) ∧ OwnS 3 1 s'.2.1 s'.1 (i64s (wI (ws.take s'.1))) s'.2.2 ∧ s'.1 ≤ ws.length) (fun s' => ws.length - s'.1) (0, .slice none 0 0, []) ⟨rfl, rfl, rfl, rfl, rfl, trivial⟩ ⟨by simpa using hs, OwnS.nil _ _, Nat.zero_le _⟩ ?_
  clear hs
  rintro ⟨i, v6, L6⟩ w ⟨hs, hO6, hi⟩
  simp only at hs hO6 hi ⊢
  refine W_seq ?_
  refine W_seq ?_
  refine W_region ?_
  refine s_move rfl rfl ?_
  refine s_move rfl rfl ?_
  refine s_len rfl rfl (LN68 _ _ _ _) ?_
  refine s_lss rfl rfl rfl ?_
  refine WL_nil ?_
  refine n_then ?_
  refine W_cond rfl (fun hc13 => ?_) (fun hc13 => ?_)
  · skip
    try simp only [decide_eq_true_eq, decide_eq_false_iff_not] at hc13
    have hil : i < ws.length := by omega
    have hwi : ws[i]? = some ws[i] := List.getElem?_eq_getElem hil
    generalize ws[i] = z at hwi
    obtain ⟨sb, so, hA, hcell⟩ := Sl.at (k := i) (u := .int .u64 (z : Int)) (hO2.sl hs) (by rw [wcells, List.getElem?_map, hwi]; rfl)
    refine W_skip ?_
    refine n_then ?_
    refine W_seq ?_
    refine W_block ?_
    refine W_region ?_
    refine s_move rfl rfl ?_
    refine s_move rfl rfl ?_
    refine s_move rfl rfl ?_
    (refine s_indexAddrO El68 rfl rfl rfl hA ?hx ?_; case hx => (constructor <;> omega))
    refine s_load Try.isAgg42 rfl rfl hcell ?_
    refine s_convert rfl rfl (CV42_3 _) ?_
    refine s_buildSlice rfl rfl (BS22_1 _) hs ?_; clear hs; intro b22 w hs
    refine s_appendM (M := _ :: L2) (X := []) El22 rfl rfl rfl hO6 (by simp only [List.append_nil, List.cons_append]; exact hs) (hs.sl (k := 0) (ds := [_]) rfl (Nat.le_refl _) (by intro j u hj; rw [Nat.zero_add]; exact hj)) rfl (by simp [Value.oneCell']) (by omega) ?_
    clear hs; intro v' w Lv' hO' hs
    simp only [List.append_nil, List.cons_append] at hs
    refine s_assign rfl rfl ?_
    refine WL_nil ?_
    refine n_blk ?_
    refine n_then ?_
    refine W_region ?_
    refine s_move rfl rfl ?_
    first | (refine s_add' rfl rfl rfl ?hx ?_; case hx => (constructor <;> first | omega | (simp only; omega))) | refine s_add rfl rfl rfl ?_
    refine s_assign rfl rfl ?_
    refine WL_nil ?_
    refine n_loop ?_
    refine ⟨(i + 1, v', Lv'), ⟨rfl, rfl, rfl, rfl, rfl, trivial⟩, ⟨hs.tail, ?_, by simp only; omega⟩, by simp only; omega⟩
    simp only
    rw [List.take_add_one, hwi, wI, List.map_append, i64s, List.map_append]
    exact hO'
  · skip
    try simp only [decide_eq_true_eq, decide_eq_false_iff_not] at hc13
    refine W_exit ?_
    refine x_then ?_
    refine x_then ?_
    refine exit_hit ?_
    refine n_then ?_
    refine W_seq ?_
    refine W_region ?_
    refine s_move rfl rfl ?_
    refine s_move rfl rfl ?_
    refine s_move rfl rfl ?_
    refine s_len rfl rfl (LN23 _ _ _ _) ?_
    refine s_buildSlice rfl rfl (BS22_1 _) hs ?_; clear hs; intro b28 w hs
    have hie : i = ws.length := by omega
    rw [hie, List.take_length] at hO6
    refine s_appendM (M := _ :: L2) (X := []) El22 rfl rfl rfl hO6 (by simp only [List.append_nil, List.cons_append]; exact hs) (hs.sl (k := 0) (ds := [_]) rfl (Nat.le_refl _) (by intro j u hj; rw [Nat.zero_add]; exact hj)) rfl (by simp [Value.oneCell']) (by omega) ?_
    clear hs; intro v' w Lv' hO' hs
    simp only [List.append_nil, List.cons_append] at hs
    have hwl : (wI ws ++ [(bs.length : Int)]).length = ws.length + 1 := by simp [wI]
    refine s_call Try.call38 rfl rfl (fSum_ok hmx s _ (wI ws ++ [(bs.length : Int)]) w (by rw [hwl, i64s, List.map_append]; exact OwnS_slIn hO' fun y hy => hs.own y (by simp [hy])) hsz (by rw [hwl]; omega)) ?_
    rintro r w ⟨hst, rfl⟩
    replace hs := hs.fwd1 hst
    clear hst
    refine s_assign rfl rfl ?_
    refine WL_nil ?_
    refine n_then ?_
    refine W_ret ?_
    exact end1 rfl rfl ⟨hs.fwd, by rw [hashV, hWS]; rfl⟩
end Go.Proofs.Ytnepohadpdkfcaa
