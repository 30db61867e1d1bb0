/- Walks of small functions of package intervalmonref01. -/
import Derived.Test.YtgkdbiibbfipjaaFacts
set_option linter.unusedVariables false
set_option linter.unusedSimpArgs false
namespace Go.Proofs.Ytgkdbiibbfipjaa
open Go.SL
abbrev u8s (bs : List Int) : List Value := bs.map (Value.int .u8)
abbrev i64s (bs : List Int) : List Value := bs.map (Value.int .i64)
def aroundV (m q : Int) : Int := (if m < 0 then -(m + 1) else m) % q
theorem around_ok (m q : Int) (w : World) (hq : 0 < q) (hm : -9223372036854775808 ≤ m ∧ m ≤ 9223372036854775807) :
    Ret Try.prog 26 [.int .i64 m, .int .i64 q].toArray w fun v w' => w' = w ∧ v = .int .i64 (aroundV m q) := by
  unfold aroundV
  refine Ret_of Try.func26 rfl Try.ntmps26 rfl ?_
  refine W_seq ?_
  refine W_region ?_
  refine s_assign rfl rfl ?_
  refine WL_nil ?_
  refine n_then ?_
  refine W_seq ?_
  refine W_seq ?_
  refine W_region ?_
  refine s_move rfl rfl ?_
  refine s_lss rfl rfl rfl ?_
  refine WL_nil ?_
  refine n_then ?_
  refine W_cond rfl (fun hc6 => ?_) (fun hc6 => ?_)
  · skip
    simp only [decide_eq_true_eq, decide_eq_false_iff_not] at hc6
    refine W_region ?_
    refine s_move rfl rfl ?_
    first | (refine s_add' rfl rfl rfl ?hx ?_; case hx => (constructor <;> omega)) | refine s_add rfl rfl rfl ?_
    first | (refine s_neg' rfl rfl ?hx ?_; case hx => omega) | refine s_neg rfl rfl ?_
    refine s_assign rfl rfl ?_
    refine WL_nil ?_
    refine n_then ?_
    refine W_seq ?_
    refine W_region ?_
    refine s_move rfl rfl ?_
    refine s_move rfl rfl ?_
    first | (refine s_rem' rfl rfl rfl ?hx ?_; case hx => (refine ⟨?_, ?_⟩ <;> omega)) | (refine s_rem rfl rfl rfl ?hx ?_; case hx => omega)
    refine s_assign rfl rfl ?_
    refine WL_nil ?_
    refine n_then ?_
    refine W_ret ?_
    exact end1 rfl rfl ⟨rfl, by simp [*]⟩
  · skip
    simp only [decide_eq_true_eq, decide_eq_false_iff_not] at hc6
    refine W_skip ?_
    refine n_then ?_
    refine W_seq ?_
    refine W_region ?_
    refine s_move rfl rfl ?_
    refine s_move rfl rfl ?_
    first | (refine s_rem' rfl rfl rfl ?hx ?_; case hx => (refine ⟨?_, ?_⟩ <;> omega)) | (refine s_rem rfl rfl rfl ?hx ?_; case hx => omega)
    refine s_assign rfl rfl ?_
    refine WL_nil ?_
    refine n_then ?_
    refine W_ret ?_
    exact end1 rfl rfl ⟨rfl, by simp [*]⟩
theorem u8s_one (bs : List Int) : ∀ c ∈ u8s bs, c.oneCell' = true := by
  intro c hc
  obtain ⟨x, _, rfl⟩ := List.mem_map.1 hc
  rfl
theorem i64s_one (bs : List Int) : ∀ c ∈ i64s bs, c.oneCell' = true := by
  intro c hc
  obtain ⟨x, _, rfl⟩ := List.mem_map.1 hc
  rfl
theorem min_nat (a b : Nat) : (if (b : Int) < a then (b : Int) else a) = ((min a b : Nat) : Int) := by
  split <;> omega
theorem sameBytes_ok (va vb : Value) (xs ys : List Int) (w0 : World) (ha : Sl w0 va xs.length (u8s xs)) (hb : Sl w0 vb ys.length (u8s ys)) (hl : xs.length ≤ 4611686018427387904) :
    Ret Try.prog 29 [va, vb].toArray w0 fun v w' => Fwd [] w0 w' ∧ v = .bool (decide (xs = ys)) := by
  obtain ⟨a, ca, rfl, _⟩ := ha.len_le
  obtain ⟨b, cb, rfl, _⟩ := hb.len_le
  refine Ret_start fun w hs => ?_
  refine Ret_of Try.func29 rfl Try.ntmps29 rfl ?_
  refine W_seq ?_
  refine W_region ?_
  refine s_assign rfl rfl ?_
  refine WL_nil ?_
  refine n_then ?_
  refine W_seq ?_
  refine W_seq ?_
  refine W_region ?_
  refine s_move rfl rfl ?_
  refine s_len rfl rfl (LN30 _ _ _ _) ?_
  refine s_move rfl rfl ?_
  refine s_len rfl rfl (LN30 _ _ _ _) ?_
  refine s_neq rfl rfl rfl ?_
  refine WL_nil ?_
  refine n_then ?_
  refine W_cond rfl (fun hc10 => ?_) (fun hc10 => ?_)
  · skip
    simp only [decide_eq_true_eq, decide_eq_false_iff_not, bne_iff_ne, bne_eq_false_iff_eq, ne_eq] at hc10
    refine W_seq ?_
    refine W_region ?_
    refine s_assign rfl rfl ?_
    refine WL_nil ?_
    refine n_then ?_
    refine W_ret ?_
    refine r_then ?_
    refine end1 rfl rfl ⟨hs.fwd, ?_⟩
    refine congrArg Value.bool ?_
    first
      | (symm; simp only [decide_eq_false_iff_not]; intro h; subst h; simp_all; done)
      | (symm; simp only [decide_eq_true_eq]; rw [List.take_of_length_le (by omega), List.take_of_length_le (by omega)] at htk; exact htk)
  · skip
    simp only [decide_eq_true_eq, decide_eq_false_iff_not, bne_iff_ne, bne_eq_false_iff_eq, ne_eq] at hc10
    refine W_skip ?_
    refine n_then ?_
    refine W_seq ?_
    refine W_seq ?_
    refine W_region ?_
    refine s_assign rfl rfl ?_
    refine WL_nil ?_
    refine n_then ?_
    refine W_block ?_
    refine W_loop (σ := Nat) (fun k => [(0, .slice a xs.length ca), (1, .slice b ys.length cb), (5, .int .i64 (k : Int))]) (fun k w => St [] w0 w [] ∧ k ≤ xs.length ∧ xs.take k = ys.take k) (fun k => xs.length - k) 0 ⟨rfl, rfl, rfl, trivial⟩ ⟨hs, Nat.zero_le _, rfl⟩ ?_
    clear hs
    intro k w ⟨hs, hk, htk⟩
    refine W_seq ?_
    refine W_seq ?_
    refine W_region ?_
    refine s_move rfl rfl ?_
    refine s_move rfl rfl ?_
    refine s_len rfl rfl (LN30 _ _ _ _) ?_
    refine s_lss rfl rfl rfl ?_
    refine WL_nil ?_
    refine n_then ?_
    refine W_cond rfl (fun hc14 => ?_) (fun hc14 => ?_)
    · skip
      simp only [decide_eq_true_eq, decide_eq_false_iff_not, bne_iff_ne, bne_eq_false_iff_eq, ne_eq] at hc14
      have hkl : k < xs.length := by omega
      have hkb : k < ys.length := by omega
      obtain ⟨b1, o1, hA1, hc1⟩ := ha.at (k := k) (u := .int .u8 xs[k]) (by simp [hkl])
      obtain ⟨b2, o2, hA2, hc2⟩ := hb.at (k := k) (u := .int .u8 ys[k]) (by simp [hkb])
      have hB1 : b1 < w0.heap.size := World.block_lt_of_cell? w0 _ hc1
      have hB2 : b2 < w0.heap.size := World.block_lt_of_cell? w0 _ hc2
      refine W_skip ?_
      refine n_then ?_
      refine W_seq ?_
      refine W_block ?_
      refine W_seq ?_
      refine W_draw [(0, true, []), (1, true, []), (2, true, []), (3, true, []), (4, true, []), (5, true, []), (6, true, []), (7, true, []), (8, true, [])] MX (by kernel_rfl) ?_
      intro w1 hw1 hw2 hw3 hw4; replace hs := hs.redrawn hw1 hw2 hw3 hw4; clear hw1 hw2 hw3 hw4
      obtain ⟨w, rfl⟩ : ∃ w : World, w = w1 := ⟨_, rfl⟩
      refine D_q rfl rfl ?_
      refine s_move rfl rfl ?_
      refine D_qn ?_
      refine D_q rfl rfl ?_
      refine s_move rfl rfl ?_
      refine D_qn ?_
      refine D_q rfl rfl ?_
      (refine s_indexAddrO El30 rfl rfl rfl hA1 ?hx ?_; case hx => (constructor <;> omega))
      refine D_qn ?_
      refine D_q rfl rfl ?_
      first
        | refine s_load Try.isAgg5 rfl rfl (hs.cell (k := 0) rfl rfl) ?_
        | refine s_load Try.isAgg5 rfl rfl (hs.cell (k := 1) rfl rfl) ?_
        | refine s_load Try.isAgg5 rfl rfl (hs.cell (k := 2) rfl rfl) ?_
        | refine s_load Try.isAgg5 rfl rfl (hs.cell (k := 3) rfl rfl) ?_
        | refine s_load Try.isAgg5 rfl rfl (hs.cell (k := 4) rfl rfl) ?_
        | refine s_load Try.isAgg5 rfl rfl (hs.cell (k := 5) rfl rfl) ?_
        | refine s_load Try.isAgg5 rfl rfl (hs.cell (k := 6) rfl rfl) ?_
        | refine s_load Try.isAgg5 rfl rfl (hs.cell (k := 7) rfl rfl) ?_
        | refine s_load Try.isAgg5 rfl rfl (hs.cell (k := 8) rfl rfl) ?_
        | refine s_load Try.isAgg5 rfl rfl (hs.cell (k := 9) rfl rfl) ?_
        | refine s_load Try.isAgg5 rfl rfl ((hs.oldcell (a := ⟨b1, o1 + k, none⟩) hB1 (by simp)).trans hc1) ?_
        | refine s_load Try.isAgg5 rfl rfl ((hs.oldcell (a := ⟨b2, o2 + k, none⟩) hB2 (by simp)).trans hc2) ?_
      refine D_qn ?_
      refine D_q rfl rfl ?_
      refine s_move rfl rfl ?_
      refine D_qn ?_
      refine D_q rfl rfl ?_
      refine s_move rfl rfl ?_
      refine D_qn ?_
      refine D_q rfl rfl ?_
      (refine s_indexAddrO El30 rfl rfl rfl hA2 ?hx ?_; case hx => (constructor <;> omega))
      refine D_qn ?_
      refine D_q rfl rfl ?_
      first
        | refine s_load Try.isAgg5 rfl rfl (hs.cell (k := 0) rfl rfl) ?_
        | refine s_load Try.isAgg5 rfl rfl (hs.cell (k := 1) rfl rfl) ?_
        | refine s_load Try.isAgg5 rfl rfl (hs.cell (k := 2) rfl rfl) ?_
        | refine s_load Try.isAgg5 rfl rfl (hs.cell (k := 3) rfl rfl) ?_
        | refine s_load Try.isAgg5 rfl rfl (hs.cell (k := 4) rfl rfl) ?_
        | refine s_load Try.isAgg5 rfl rfl (hs.cell (k := 5) rfl rfl) ?_
        | refine s_load Try.isAgg5 rfl rfl (hs.cell (k := 6) rfl rfl) ?_
        | refine s_load Try.isAgg5 rfl rfl (hs.cell (k := 7) rfl rfl) ?_
        | refine s_load Try.isAgg5 rfl rfl (hs.cell (k := 8) rfl rfl) ?_
        | refine s_load Try.isAgg5 rfl rfl (hs.cell (k := 9) rfl rfl) ?_
        | refine s_load Try.isAgg5 rfl rfl ((hs.oldcell (a := ⟨b1, o1 + k, none⟩) hB1 (by simp)).trans hc1) ?_
        | refine s_load Try.isAgg5 rfl rfl ((hs.oldcell (a := ⟨b2, o2 + k, none⟩) hB2 (by simp)).trans hc2) ?_
      refine D_qn ?_
      refine D_q rfl rfl ?_
      refine s_neq rfl rfl rfl ?_
      refine D_qn ?_
      refine D_nil ?_
      refine n_then ?_
      refine W_cond rfl (fun hc25 => ?_) (fun hc25 => ?_)
      · skip
        simp only [decide_eq_true_eq, decide_eq_false_iff_not, bne_iff_ne, bne_eq_false_iff_eq, ne_eq] at hc25
        refine W_seq ?_
        refine W_region ?_
        refine s_assign rfl rfl ?_
        refine WL_nil ?_
        refine n_then ?_
        refine W_ret ?_
        refine r_blk ?_
        refine r_then ?_
        refine r_then ?_
        refine r_blk ?_
        refine r_then ?_
        refine end1 rfl rfl ⟨hs.fwd, ?_⟩
        refine congrArg Value.bool ?_
        first
          | (symm; simp only [decide_eq_false_iff_not]; intro h; subst h; simp_all; done)
          | (symm; simp only [decide_eq_true_eq]; rw [List.take_of_length_le (by omega), List.take_of_length_le (by omega)] at htk; exact htk)
      · skip
        simp only [decide_eq_true_eq, decide_eq_false_iff_not, bne_iff_ne, bne_eq_false_iff_eq, ne_eq] at hc25
        refine W_skip ?_
        refine n_blk ?_
        refine n_then ?_
        refine W_region ?_
        refine s_move rfl rfl ?_
        first | (refine s_add' rfl rfl rfl ?hx ?_; case hx => (constructor <;> omega)) | refine s_add rfl rfl rfl ?_
        refine s_assign rfl rfl ?_
        refine WL_nil ?_
        refine n_loop ?_
        refine ⟨k + 1, ⟨rfl, rfl, rfl, trivial⟩, ⟨hs, by omega, ?_⟩, by omega⟩
        rw [List.take_succ_eq_append_getElem hkl, List.take_succ_eq_append_getElem hkb, htk, hc25]
    · skip
      simp only [decide_eq_true_eq, decide_eq_false_iff_not, bne_iff_ne, bne_eq_false_iff_eq, ne_eq] at hc14
      refine W_exit ?_
      refine x_then ?_
      refine x_then ?_
      refine exit_hit ?_
      refine n_then ?_
      refine W_seq ?_
      refine W_region ?_
      refine s_assign rfl rfl ?_
      refine WL_nil ?_
      refine n_then ?_
      refine W_ret ?_
      refine end1 rfl rfl ⟨hs.fwd, ?_⟩
      refine congrArg Value.bool ?_
      first
        | (symm; simp only [decide_eq_false_iff_not]; intro h; subst h; simp_all; done)
        | (symm; simp only [decide_eq_true_eq]; rw [List.take_of_length_le (by omega), List.take_of_length_le (by omega)] at htk; exact htk)
theorem ints_ok (v : Value) (xs : List Int) (most : Nat) (w0 : World) (hv : Sl w0 v xs.length (i64s xs)) (hl : most ≤ 4294967296) :
    Ret Try.prog 27 [v, .int .i64 most].toArray w0 fun r w' => ∃ Lr, OwnS 3 1 r (min xs.length most) (i64s (xs.take most)) Lr ∧ St [] w0 w' Lr := by
  obtain ⟨a, c, rfl, hc⟩ := hv.len_le
  refine Ret_start fun w hs => ?_
  have hm := min_nat xs.length most
  have hm2 : min xs.length most ≤ most := Nat.min_le_right _ _
  have hm3 : min xs.length most ≤ xs.length := Nat.min_le_left _ _
  refine Ret_of Try.func27 rfl Try.ntmps27 rfl ?_
  refine W_seq ?_
  refine W_region ?_
  refine s_assign rfl rfl ?_
  refine WL_nil ?_
  refine n_then ?_
  refine W_seq ?_
  refine W_region ?_
  refine s_assign rfl rfl ?_
  refine WL_nil ?_
  refine n_then ?_
  refine W_seq ?_
  refine W_region ?_
  refine s_move rfl rfl ?_
  refine s_move rfl rfl ?_
  refine s_move rfl rfl ?_
  refine s_len rfl rfl (LN22 _ _ _ _) ?_
  refine s_move rfl rfl ?_
  refine s_min rfl rfl rfl ?_
  rw [hm]
  (refine s_slice_hi El22 rfl rfl rfl ?hx ?_; case hx => (constructor <;> omega))
  have hsl : Sl w (.slice a (min xs.length most) c) (min xs.length most) (i64s (xs.take most)) := by
    have h1 := (hv.fwd0 hs.fwd).take (size := 1) hm3 rfl
    have h2 : List.take (min xs.length most * 1) (i64s xs) = i64s (xs.take most) := by
      rw [Nat.mul_one, ← List.map_take]; congr 1; rw [List.take_eq_take_iff]; simp [Nat.min_comm]
    rw [h2] at h1; exact h1
  refine s_append El22 rfl rfl rfl (OwnS.nil _ _) hs hsl (by simp [Nat.min_comm]) (i64s_one _) (by omega) ?_
  clear hs; intro v' w Lv' hO hs
  simp only [Nat.zero_add, List.nil_append, List.append_nil] at hO hs
  refine s_assign rfl rfl ?_
  refine WL_nil ?_
  refine n_then ?_
  refine W_ret ?_
  exact end1 rfl rfl ⟨Lv', hO, hs⟩
theorem few_ok (v : Value) (xs : List Int) (most : Nat) (w0 : World) (hv : Sl w0 v xs.length (u8s xs)) (hl : most ≤ 4294967296) :
    Ret Try.prog 28 [v, .int .i64 most].toArray w0 fun r w' => ∃ Lr, OwnS 5 1 r (min xs.length most) (u8s (xs.take most)) Lr ∧ St [] w0 w' Lr := by
  obtain ⟨a, c, rfl, hc⟩ := hv.len_le
  refine Ret_start fun w hs => ?_
  have hm := min_nat xs.length most
  have hm2 : min xs.length most ≤ most := Nat.min_le_right _ _
  have hm3 : min xs.length most ≤ xs.length := Nat.min_le_left _ _
  refine Ret_of Try.func28 rfl Try.ntmps28 rfl ?_
  refine W_seq ?_
  refine W_region ?_
  refine s_assign rfl rfl ?_
  refine WL_nil ?_
  refine n_then ?_
  refine W_seq ?_
  refine W_region ?_
  refine s_assign rfl rfl ?_
  refine WL_nil ?_
  refine n_then ?_
  refine W_seq ?_
  refine W_region ?_
  refine s_move rfl rfl ?_
  refine s_move rfl rfl ?_
  refine s_move rfl rfl ?_
  refine s_len rfl rfl (LN30 _ _ _ _) ?_
  refine s_move rfl rfl ?_
  refine s_min rfl rfl rfl ?_
  rw [hm]
  (refine s_slice_hi El30 rfl rfl rfl ?hx ?_; case hx => (constructor <;> omega))
  have hsl : Sl w (.slice a (min xs.length most) c) (min xs.length most) (u8s (xs.take most)) := by
    have h1 := (hv.fwd0 hs.fwd).take (size := 1) hm3 rfl
    have h2 : List.take (min xs.length most * 1) (u8s xs) = u8s (xs.take most) := by
      rw [Nat.mul_one, ← List.map_take]; congr 1; rw [List.take_eq_take_iff]; simp [Nat.min_comm]
    rw [h2] at h1; exact h1
  refine s_append El30 rfl rfl rfl (OwnS.nil _ _) hs hsl (by simp [Nat.min_comm]) (u8s_one _) (by omega) ?_
  clear hs; intro v' w Lv' hO hs
  simp only [Nat.zero_add, List.nil_append, List.append_nil] at hO hs
  refine s_assign rfl rfl ?_
  refine WL_nil ?_
  refine n_then ?_
  refine W_ret ?_
  exact end1 rfl rfl ⟨Lv', hO, hs⟩
end Go.Proofs.Ytgkdbiibbfipjaa
