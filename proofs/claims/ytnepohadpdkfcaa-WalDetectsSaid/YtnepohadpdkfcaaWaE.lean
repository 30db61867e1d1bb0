/- The reference's Words. -/
import Derived.Test.YtnepohadpdkfcaaWaD
set_option linter.unusedVariables false
set_option linter.unusedSimpArgs false
namespace Go.Proofs.Ytnepohadpdkfcaa
open Go.SL
def wcells (ws : List Nat) : List Value := ws.map fun (m : Nat) => .int .u64 (m : Int)
theorem fWords_ok (v : Value) (bs : List Int) (w0 : World) (hv : Sl w0 v bs.length (u8s bs)) (hB : ∀ b ∈ bs, isB b) (hl : bs.length ≤ 4294967296) :
    Ret Try.prog 37 [v].toArray w0 fun r w' => ∃ Lr, OwnS 42 1 r (wordsOf bs).length (wcells (wordsOf bs)) Lr ∧ St [] w0 w' Lr := by
  obtain ⟨a, c, rfl, hac⟩ := hv.len_le
  refine Ret_start fun w hs => ?_
  refine Ret_of Try.func37 rfl Try.ntmps37 rfl ?_
  refine W_seq ?_
  refine W_region ?_
  refine s_assign rfl rfl ?_
  refine WL_nil ?_
  refine n_then ?_
  refine W_seq ?_
  refine W_region ?_
  refine s_assign rfl rfl ?_
  refine WL_nil ?_
  refine n_then ?_
  refine W_seq ?_
  refine W_seq ?_
  refine W_region ?_
  refine s_assign rfl rfl ?_
  refine WL_nil ?_
  refine n_then ?_
  refine W_block ?_
  refine W_loop (σ := Nat × Value × Hp) (fun s => [(0, .slice a bs.length c), (3, s.2.1), (4, .int .i64 ((8 * s.1 : Nat) : Int))]) (fun s w => St [] w0 w s.2.2 ∧ OwnS 42 1 s.2.1 s.1 (wcells ((List.range s.1).map (wordAt bs))) s.2.2 ∧ s.1 ≤ nWords bs) (fun s => nWords bs - s.1) (0, .slice none 0 0, []) ⟨rfl, rfl, rfl, trivial⟩ ⟨hs, OwnS.nil _ _, Nat.zero_le _⟩ ?_
  clear hs
  rintro ⟨k, v3, L3⟩ w ⟨hs, hO, hk⟩
  simp only at hs hO hk ⊢
  unfold nWords at hk
  obtain ⟨l3, c3, a3, rfl, rfl⟩ := hO.form
  refine W_seq ?_
  refine W_seq ?_
  refine W_region ?_
  refine s_move rfl rfl ?_
  refine s_move rfl rfl ?_
  refine s_len rfl rfl (LN23 _ _ _ _) ?_
  refine s_lss rfl rfl rfl ?_
  refine WL_nil ?_
  refine n_then ?_
  refine W_cond rfl (fun hc10 => ?_) (fun hc10 => ?_)
  · skip
    try simp only [decide_eq_true_eq, decide_eq_false_iff_not, ge_iff_le] at hc10
    refine W_skip ?_
    refine n_then ?_
    refine W_seq ?_
    refine W_block ?_
    refine W_seq ?_
    refine W_region ?_
    refine s_assign rfl rfl ?_
    refine WL_nil ?_
    refine n_then ?_
    refine W_seq ?_
    refine W_seq ?_
    refine W_region ?_
    refine s_move rfl rfl ?_
    first | (refine s_add' rfl rfl rfl ?hx ?_; case hx => (constructor <;> first | omega | (simp only; omega))) | refine s_add rfl rfl rfl ?_
    refine s_move rfl rfl ?_
    refine s_len rfl rfl (LN23 _ _ _ _) ?_
    refine s_min rfl rfl rfl ?_
    obtain ⟨e, he⟩ : ∃ e, e = min (8 * l3 + 8) bs.length := ⟨_, rfl⟩
    rw [show (if (bs.length : Int) < ((8 * l3 : Nat) : Int) + 8 then (bs.length : Int) else ((8 * l3 : Nat) : Int) + 8) = (e : Int) by rw [he]; split <;> omega]
    first | (refine s_sub' rfl rfl rfl ?hx ?_; case hx => (constructor <;> first | omega | (simp only; omega))) | refine s_sub rfl rfl rfl ?_
    refine s_assign rfl rfl ?_
    refine WL_nil ?_
    refine n_then ?_
    refine W_block ?_
    refine W_loop (σ := Nat) (fun m => [(0, .slice a bs.length c), (3, .slice a3 l3 c3), (4, .int .i64 ((8 * l3 : Nat) : Int)), (5, .int .u64 ((leV ((bs.drop m).take (e - m)) : Nat) : Int)), (6, .int .i64 ((m : Int) - 1))]) (fun m w => St [] w0 w L3 ∧ 8 * l3 ≤ m ∧ m ≤ e) (fun m => m) e ⟨rfl, rfl, rfl, by rw [Nat.sub_self, List.take_zero]; rfl, rfl, trivial⟩ ⟨hs, by omega, Nat.le_refl _⟩ ?_
    clear hs
    rintro m w ⟨hs, hm1, hm2⟩
    refine W_seq ?_
    refine W_seq ?_
    refine W_region ?_
    refine s_move rfl rfl ?_
    refine s_move rfl rfl ?_
    refine s_geq rfl rfl rfl ?_
    refine WL_nil ?_
    refine n_then ?_
    refine W_cond rfl (fun hc21 => ?_) (fun hc21 => ?_)
    · skip
      try simp only [decide_eq_true_eq, decide_eq_false_iff_not, ge_iff_le] at hc21
      obtain ⟨j, rfl⟩ : ∃ j, m = j + 1 := ⟨m - 1, by omega⟩
      have hjl : j < bs.length := by omega
      have hbj : bs[j]? = some bs[j] := List.getElem?_eq_getElem hjl
      have hdj : bs.drop j = bs[j] :: bs.drop (j + 1) := List.drop_eq_getElem_cons hjl
      generalize bs[j] = B at hbj hdj
      have hBB := hB B (List.mem_of_getElem? hbj)
      unfold isB at hBB
      have hnew : leV ((bs.drop j).take (e - j)) = B.toNat + 256 * leV ((bs.drop (j + 1)).take (e - (j + 1))) := by
        rw [hdj, show e - j = (e - (j + 1)) + 1 by omega, List.take_succ_cons, leV]
      have hWl : leV ((bs.drop (j + 1)).take (e - (j + 1))) < 72057594037927936 := by
        have h1 := leV_pre hB (j + 1) (e - (j + 1))
        refine Nat.lt_of_lt_of_le h1 (Nat.le_trans (Nat.pow_le_pow_right (by decide) (show 8 * (e - (j + 1)) ≤ 56 by omega)) (by decide))
      generalize leV ((bs.drop (j + 1)).take (e - (j + 1))) = W at hnew hWl
      rw [show (((j + 1 : Nat)) : Int) - 1 = (j : Int) by omega]
      obtain ⟨sb, so, hA, hcell⟩ := Sl.at (k := j) (u := .int .u8 B) (hv.fwd0 hs.fwd) (by rw [u8s, List.getElem?_map, hbj]; rfl)
      refine W_skip ?_
      refine n_then ?_
      refine W_seq ?_
      refine W_block ?_
      refine W_region ?_
      refine s_move rfl rfl ?_
      refine s_mul rfl rfl rfl ?_
      rw [show IntKind.u64.wrap ((256 : Int) * (W : Int)) = ((256 * W : Nat) : Int) by rw [show (256 : Int) * (W : Int) = ((256 * W : Nat) : Int) by omega, u64w (by omega)]]
      refine s_move rfl rfl ?_
      refine s_move rfl rfl ?_
      (refine s_indexAddrO El23 rfl rfl rfl hA ?hx ?_; case hx => (constructor <;> omega))
      refine s_load Try.isAgg5 rfl rfl hcell ?_
      refine s_convert rfl rfl (CV5_42 _) ?_
      rw [show IntKind.u64.wrap B = ((B.toNat : Nat) : Int) by rw [show B = ((B.toNat : Nat) : Int) by omega, u64w (by omega)]; omega]
      refine s_add rfl rfl rfl ?_
      rw [show IntKind.u64.wrap (((256 * W : Nat) : Int) + ((B.toNat : Nat) : Int)) = ((leV ((bs.drop j).take (e - j)) : Nat) : Int) by rw [hnew, show ((256 * W : Nat) : Int) + ((B.toNat : Nat) : Int) = ((B.toNat + 256 * W : Nat) : Int) by omega, u64w (by omega)]]
      refine s_assign rfl rfl ?_
      refine WL_nil ?_
      refine n_blk ?_
      refine n_then ?_
      refine W_region ?_
      refine s_move rfl rfl ?_
      first | (refine s_sub' rfl rfl rfl ?hx ?_; case hx => (constructor <;> first | omega | (simp only; omega))) | refine s_sub rfl rfl rfl ?_
      refine s_assign rfl rfl ?_
      refine WL_nil ?_
      refine n_loop ?_
      exact ⟨j, ⟨rfl, rfl, rfl, rfl, rfl, trivial⟩, ⟨hs, by omega, by omega⟩, by omega⟩
    · skip
      try simp only [decide_eq_true_eq, decide_eq_false_iff_not, ge_iff_le] at hc21
      refine W_exit ?_
      refine x_then ?_
      refine x_then ?_
      refine exit_hit ?_
      refine n_then ?_
      refine W_region ?_
      refine s_move rfl rfl ?_
      refine s_move rfl rfl ?_
      refine s_buildSlice rfl rfl (BS68_1 _) hs ?_; clear hs; intro b34 w hs
      have hme : m = 8 * l3 := by omega
      have hwd : leV ((bs.drop m).take (e - m)) = wordAt bs l3 := by
        rw [hme, wordAt]
        congr 1
        rw [he]
        rcases Nat.le_total (8 * l3 + 8) bs.length with h | h
        · rw [Nat.min_eq_left h, show 8 * l3 + 8 - 8 * l3 = 8 by omega]
        · rw [Nat.min_eq_right h, List.take_of_length_le (by simp), List.take_of_length_le (by simp; omega)]
      refine s_appendM (M := [_]) (X := []) El68 rfl rfl rfl hO (by simpa using hs) (hs.sl (k := 0) (ds := [_]) rfl (Nat.le_refl _) (by intro j u hj; rw [Nat.zero_add]; exact hj)) rfl (by simp [Value.oneCell']) (by omega) ?_
      clear hs; intro v' w Lv' hO' hs
      simp only [List.cons_append, List.nil_append, List.append_nil] at hs
      refine s_assign rfl rfl ?_
      refine WL_nil ?_
      refine n_blk ?_
      refine n_then ?_
      refine W_region ?_
      refine s_move rfl rfl ?_
      first | (refine s_add' rfl rfl rfl ?hx ?_; case hx => (constructor <;> first | omega | (simp only; omega))) | refine s_add rfl rfl rfl ?_
      refine s_assign rfl rfl ?_
      refine WL_nil ?_
      refine n_loop ?_
      refine ⟨(l3 + 1, v', Lv'), ⟨rfl, rfl, by simp only [SL.get]; congr 2, trivial⟩, ⟨hs.tail, ?_, by simp only [nWords]; omega⟩, by simp only [nWords]; omega⟩
      simp only
      rw [hwd] at hO'
      rw [List.range_succ, List.map_append, wcells, List.map_append]
      exact hO'
  · skip
    try simp only [decide_eq_true_eq, decide_eq_false_iff_not, ge_iff_le] at hc10
    refine W_exit ?_
    refine x_then ?_
    refine x_then ?_
    refine exit_hit ?_
    refine n_then ?_
    refine W_seq ?_
    refine W_region ?_
    refine s_move rfl rfl ?_
    refine s_assign rfl rfl ?_
    refine WL_nil ?_
    refine n_then ?_
    refine W_ret ?_
    have hke : l3 = nWords bs := by unfold nWords; omega
    refine end1 rfl rfl ⟨L3, ?_, hs⟩
    rw [wordsOf, List.length_map, List.length_range, ← hke]; exact hO
end Go.Proofs.Ytnepohadpdkfcaa
