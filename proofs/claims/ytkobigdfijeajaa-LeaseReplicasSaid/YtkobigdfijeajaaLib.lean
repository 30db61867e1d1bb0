/- Contracts of small functions of package intervalmonref01 and of slices.Clone. -/
import Derived.Test.YtkobigdfijeajaaFacts
import Derived.Test.YtkobigdfijeajaaFin
set_option linter.unusedVariables false
set_option linter.unusedSimpArgs false
namespace Go.Proofs.Ytkobigdfijeajaa
open Go.SL
theorem OwnS_in {e sz n m c : Nat} {a : Addr} {cs : List Value} {Lv : Hp} (h : OwnS e sz (.slice (some a) m c) n cs Lv) (hne : cs ≠ []) : a.block ∈ ids Lv := by
  rcases h.2 with ⟨_, h2, _⟩ | ⟨g, cap, sp, h1, _, _, _, rfl⟩
  · exact absurd (List.eq_nil_of_length_eq_zero (by rw [h.1, h2]; simp)) hne
  · cases h1; simp [ids]
theorem OwnS_slIn {w : World} {e sz n : Nat} {v : Value} {cs : List Value} {Lv : Hp} (h : OwnS e sz v n cs Lv) (hown : ∀ x ∈ Lv, w.heap[x.1]? = some x.2) : Sl w v n cs := by
  refine h.sl (F := ids Lv) (w0 := w) (M := []) ⟨Fwd.refl _ _, ?_, by simpa using hown, fun x hx => .inl (mem_ids_of (by simpa using hx))⟩
  rcases h.2 with ⟨_, _, rfl⟩ | ⟨g, cap, sp, _, _, _, _, rfl⟩ <;> simp [ids]
theorem Sl_all {w : World} {a : Option Addr} {m n c : Nat} {cs : List Value} (h : Sl w (.slice a m c) n cs) (hne : cs ≠ []) : ∃ b o, a = some ⟨b, o, none⟩ ∧ b < w.heap.size ∧ ∀ j u, cs[j]? = some u → w.cell? ⟨b, o + j, none⟩ = some u := by
  obtain ⟨a', c', h1, _, h2 | ⟨b, o, h2, h3⟩⟩ := h
  · exact absurd h2 hne
  · cases h1
    cases cs with
    | nil => exact absurd rfl hne
    | cons u r => exact ⟨b, o, h2, World.block_lt_of_cell? w _ (h3 0 u rfl), h3⟩
theorem St_apart {F : List Nat} {w0 w : World} {M A B : Hp} {b : Nat} (hs : St F w0 w (M ++ (A ++ B))) (hb : b ∈ ids B) : b ∉ ids A := by
  have := hs.right.nodup
  rw [ids_append] at this
  exact fun h2 => (List.nodup_append.1 this).2.2 b h2 b hb rfl
abbrev u8s (bs : List Int) : List Value := bs.map (Value.int .u8)
abbrev i64s (bs : List Int) : List Value := bs.map (Value.int .i64)
/-- the bytes of a string, as numbers -/
def bytesOf (s : ByteArray) : List Int := s.data.toList.map fun b => (b.toNat : Int)
theorem bytesOf_length (s : ByteArray) : (bytesOf s).length = s.size := by rw [bytesOf, List.length_map, Array.length_toList]; rfl
theorem u8s_bytesOf (s : ByteArray) : (bytesOf s).map (Value.int .u8) = s.data.toList.map fun b => Value.int .u8 b.toNat := by rw [bytesOf, List.map_map]; rfl
def aroundV (m q : Int) : Int := (if m < 0 then -(m + 1) else m) % q
theorem aroundV_range {m q : Int} (h : 0 < q) : 0 ≤ aroundV m q ∧ aroundV m q < q := ⟨Int.emod_nonneg _ (by omega), Int.emod_lt_of_pos _ h⟩
def isI64 (z : Int) : Prop := -9223372036854775808 ≤ z ∧ z ≤ 9223372036854775807
theorem u8s_one (bs : List Int) : ∀ c ∈ u8s bs, c.oneCell' = true := by
  intro c hc
  obtain ⟨x, _, rfl⟩ := List.mem_map.1 hc
  rfl
theorem around_ok (m q : Int) (w : World) (hq : 0 < q) (hm : -9223372036854775808 ≤ m ∧ m ≤ 9223372036854775807) :
    Ret Try.prog 25 [.int .i64 m, .int .i64 q].toArray w fun v w' => w' = w ∧ v = .int .i64 (aroundV m q) := by
  unfold aroundV
  refine Ret_of Try.func25 rfl Try.ntmps25 rfl ?_
  refine W_seq ?_
  refine W_region ?_
  refine s_assign rfl rfl ?_
  refine WL_nil ?_
  refine n_then ?_
  refine W_seq ?_
  refine W_seq ?_
  refine W_region ?_
  refine s_move rfl rfl ?_
  refine s_lss rfl rfl rfl ?_
  refine WL_nil ?_
  refine n_then ?_
  refine W_cond rfl (fun hc6 => ?_) (fun hc6 => ?_)
  · skip
    simp only [decide_eq_true_eq, decide_eq_false_iff_not] at hc6
    refine W_region ?_
    refine s_move rfl rfl ?_
    first | (refine s_add' rfl rfl rfl ?hx ?_; case hx => (constructor <;> first | omega | (simp only; omega)))
    first | (refine s_neg' rfl rfl ?hx ?_; case hx => omega)
    refine s_assign rfl rfl ?_
    refine WL_nil ?_
    refine n_then ?_
    refine W_seq ?_
    refine W_region ?_
    refine s_move rfl rfl ?_
    refine s_move rfl rfl ?_
    first | (refine s_rem' rfl rfl rfl ?hx ?_; case hx => (refine ⟨?_, ?_⟩ <;> omega))
    refine s_assign rfl rfl ?_
    refine WL_nil ?_
    refine n_then ?_
    refine W_ret ?_
    exact end1 rfl rfl ⟨rfl, by simp [*]⟩
  · skip
    simp only [decide_eq_true_eq, decide_eq_false_iff_not] at hc6
    refine W_skip ?_
    refine n_then ?_
    refine W_seq ?_
    refine W_region ?_
    refine s_move rfl rfl ?_
    refine s_move rfl rfl ?_
    first | (refine s_rem' rfl rfl rfl ?hx ?_; case hx => (refine ⟨?_, ?_⟩ <;> omega))
    refine s_assign rfl rfl ?_
    refine WL_nil ?_
    refine n_then ?_
    refine W_ret ?_
    exact end1 rfl rfl ⟨rfl, by simp [*]⟩
theorem sameBytes_ok (va vb : Value) (xs ys : List Int) (w0 : World) (ha : Sl w0 va xs.length (u8s xs)) (hb : Sl w0 vb ys.length (u8s ys)) (hl : xs.length ≤ 4611686018427387904) :
    Ret Try.prog 17 [va, vb].toArray w0 fun v w' => Fwd [] w0 w' ∧ v = .bool (decide (xs = ys)) := by
  obtain ⟨a, ca, rfl, _⟩ := ha.len_le
  obtain ⟨b, cb, rfl, _⟩ := hb.len_le
  refine Ret_start fun w hs => ?_
  refine Ret_of Try.func17 rfl Try.ntmps17 rfl ?_
  refine W_seq ?_
  refine W_region ?_
  refine s_assign rfl rfl ?_
  refine WL_nil ?_
  refine n_then ?_
  refine W_seq ?_
  refine W_seq ?_
  refine W_region ?_
  refine s_move rfl rfl ?_
  refine s_len rfl rfl (LN22 _ _ _ _) ?_
  refine s_move rfl rfl ?_
  refine s_len rfl rfl (LN22 _ _ _ _) ?_
  refine s_neq rfl rfl rfl ?_
  refine WL_nil ?_
  refine n_then ?_
  refine W_cond rfl (fun hc10 => ?_) (fun hc10 => ?_)
  · skip
    simp only [decide_eq_true_eq, decide_eq_false_iff_not, bne_iff_ne, bne_eq_false_iff_eq, ne_eq] at hc10
    refine W_seq ?_
    refine W_region ?_
    refine s_assign rfl rfl ?_
    refine WL_nil ?_
    refine n_then ?_
    refine W_ret ?_
    refine r_then ?_
    refine end1 rfl rfl ⟨hs.fwd, ?_⟩
    refine congrArg Value.bool ?_
    first
      | (symm; simp only [decide_eq_false_iff_not]; intro h; subst h; simp_all; done)
  · skip
    simp only [decide_eq_true_eq, decide_eq_false_iff_not, bne_iff_ne, bne_eq_false_iff_eq, ne_eq] at hc10
    refine W_skip ?_
    refine n_then ?_
    refine W_seq ?_
    refine W_seq ?_
    refine W_region ?_
    refine s_assign rfl rfl ?_
    refine WL_nil ?_
    refine n_then ?_
    refine W_block ?_
    refine W_loop (σ := Nat) (fun k => [(0, .slice a xs.length ca), (1, .slice b ys.length cb), (5, .int .i64 (k : Int))]) (fun k w => St [] w0 w [] ∧ k ≤ xs.length ∧ xs.take k = ys.take k) (fun k => xs.length - k) 0 ⟨rfl, rfl, rfl, trivial⟩ ⟨hs, Nat.zero_le _, rfl⟩ ?_
    clear hs
    intro k w ⟨hs, hk, htk⟩
    refine W_seq ?_
    refine W_seq ?_
    refine W_region ?_
    refine s_move rfl rfl ?_
    refine s_move rfl rfl ?_
    refine s_len rfl rfl (LN22 _ _ _ _) ?_
    refine s_lss rfl rfl rfl ?_
    refine WL_nil ?_
    refine n_then ?_
    refine W_cond rfl (fun hc14 => ?_) (fun hc14 => ?_)
    · skip
      simp only [decide_eq_true_eq, decide_eq_false_iff_not, bne_iff_ne, bne_eq_false_iff_eq, ne_eq] at hc14
      have hkl : k < xs.length := by omega
      have hkb : k < ys.length := by omega
      obtain ⟨b1, o1, hA1, hc1⟩ := ha.at (k := k) (u := .int .u8 xs[k]) (by simp [hkl])
      obtain ⟨b2, o2, hA2, hc2⟩ := hb.at (k := k) (u := .int .u8 ys[k]) (by simp [hkb])
      have hB1 : b1 < w0.heap.size := World.block_lt_of_cell? w0 _ hc1
      have hB2 : b2 < w0.heap.size := World.block_lt_of_cell? w0 _ hc2
      refine W_skip ?_
      refine n_then ?_
      refine W_seq ?_
      refine W_block ?_
      refine W_seq ?_
      refine W_draw [(0, true, []), (1, true, []), (2, true, []), (3, true, []), (4, true, []), (5, true, []), (6, true, []), (7, true, []), (8, true, [])] [[], [], [0, 1], [0, 1, 2], [], [], [4, 5], [4, 5, 6], [0, 1, 2, 3, 4, 5, 6, 7]] MX (by kernel_rfl) ?_
      intro w1 hw1 hw2 hw3 hw4; replace hs := hs.redrawn hw1 hw2 hw3 hw4; clear hw1 hw2 hw3 hw4
      obtain ⟨w, rfl⟩ : ∃ w : World, w = w1 := ⟨_, rfl⟩
      refine D_q rfl rfl ?_
      refine s_move rfl rfl ?_
      refine D_qn ?_
      refine D_q rfl rfl ?_
      refine s_move rfl rfl ?_
      refine D_qn ?_
      refine D_q rfl rfl ?_
      (refine s_indexAddrO El22 rfl rfl rfl hA1 ?hx ?_; case hx => (constructor <;> omega))
      refine D_qn ?_
      refine D_q rfl rfl ?_
      first
        | refine s_load Try.isAgg5 rfl rfl ((hs.oldcell (a := ⟨b1, o1 + k, none⟩) hB1 (by simp)).trans hc1) ?_
      refine D_qn ?_
      refine D_q rfl rfl ?_
      refine s_move rfl rfl ?_
      refine D_qn ?_
      refine D_q rfl rfl ?_
      refine s_move rfl rfl ?_
      refine D_qn ?_
      refine D_q rfl rfl ?_
      (refine s_indexAddrO El22 rfl rfl rfl hA2 ?hx ?_; case hx => (constructor <;> omega))
      refine D_qn ?_
      refine D_q rfl rfl ?_
      first
        | refine s_load Try.isAgg5 rfl rfl ((hs.oldcell (a := ⟨b2, o2 + k, none⟩) hB2 (by simp)).trans hc2) ?_
      refine D_qn ?_
      refine D_q rfl rfl ?_
      refine s_neq rfl rfl rfl ?_
      refine D_qn ?_
      refine D_nil ?_
      refine n_then ?_
      refine W_cond rfl (fun hc25 => ?_) (fun hc25 => ?_)
      · skip
        simp only [decide_eq_true_eq, decide_eq_false_iff_not, bne_iff_ne, bne_eq_false_iff_eq, ne_eq] at hc25
        refine W_seq ?_
        refine W_region ?_
        refine s_assign rfl rfl ?_
        refine WL_nil ?_
        refine n_then ?_
        refine W_ret ?_
        refine r_blk ?_
        refine r_then ?_
        refine r_then ?_
        refine r_blk ?_
        refine r_then ?_
        refine end1 rfl rfl ⟨hs.fwd, ?_⟩
        refine congrArg Value.bool ?_
        first
          | (symm; simp only [decide_eq_false_iff_not]; intro h; subst h; simp_all; done)
      · skip
        simp only [decide_eq_true_eq, decide_eq_false_iff_not, bne_iff_ne, bne_eq_false_iff_eq, ne_eq] at hc25
        refine W_skip ?_
        refine n_blk ?_
        refine n_then ?_
        refine W_region ?_
        refine s_move rfl rfl ?_
        first | (refine s_add' rfl rfl rfl ?hx ?_; case hx => (constructor <;> first | omega | (simp only; omega)))
        refine s_assign rfl rfl ?_
        refine WL_nil ?_
        refine n_loop ?_
        refine ⟨k + 1, ⟨rfl, rfl, rfl, trivial⟩, ⟨hs, by omega, ?_⟩, by omega⟩
        rw [List.take_succ_eq_append_getElem hkl, List.take_succ_eq_append_getElem hkb, htk, hc25]
    · skip
      simp only [decide_eq_true_eq, decide_eq_false_iff_not, bne_iff_ne, bne_eq_false_iff_eq, ne_eq] at hc14
      refine W_exit ?_
      refine x_then ?_
      refine x_then ?_
      refine exit_hit ?_
      refine n_then ?_
      refine W_seq ?_
      refine W_region ?_
      refine s_assign rfl rfl ?_
      refine WL_nil ?_
      refine n_then ?_
      refine W_ret ?_
      refine end1 rfl rfl ⟨hs.fwd, ?_⟩
      refine congrArg Value.bool ?_
      first
        | (symm; simp only [decide_eq_true_eq]; rw [List.take_of_length_le (by omega), List.take_of_length_le (by omega)] at htk; exact htk)
theorem clone_ok (v : Value) (bs : List Int) (w0 : World) (hv : Sl w0 v bs.length (u8s bs)) (hl : bs.length ≤ 4294967296) :
    Ret Try.prog 43 [v].toArray w0 fun r w' => ∃ Lr, OwnS 5 1 r bs.length (u8s bs) Lr ∧ St [] w0 w' Lr := by
  obtain ⟨a, c, rfl, hc⟩ := hv.len_le
  refine Ret_start fun w hs => ?_
  refine Ret_of Try.func43 rfl Try.ntmps43 rfl ?_
  refine W_seq ?_
  refine W_region ?_
  refine s_assign rfl rfl ?_
  refine WL_nil ?_
  refine n_then ?_
  refine W_seq ?_
  refine W_seq ?_
  refine W_region ?_
  refine s_move rfl rfl ?_
  refine s_eql_slice_nil Try.underlying22 rfl rfl rfl ?_
  refine WL_nil ?_
  refine n_then ?_
  refine W_cond rfl (fun hc4 => ?_) (fun hc4 => ?_)
  · skip
    refine W_seq ?_
    refine W_region ?_
    refine s_assign rfl rfl ?_
    refine WL_nil ?_
    refine n_then ?_
    refine W_ret ?_
    refine r_then ?_
    first
      | (refine end1 rfl rfl ⟨[], ?_, hs⟩
         have ha : a = none := by cases a <;> simp_all
         subst ha
         obtain ⟨a', c', h1, _, h2 | ⟨b, o, h2, _⟩⟩ := hv
         · have : bs = [] := by simpa using h2
           subst this; exact OwnS.nil _ _
         · cases h1; cases h2)
  · skip
    refine W_skip ?_
    refine n_then ?_
    refine W_seq ?_
    refine W_region ?_
    refine s_buildSlice rfl rfl (BS22_0 ) hs ?_; clear hs; intro b5 w hs
    refine s_move rfl rfl ?_
    refine s_append El22 rfl rfl rfl (OwnS.bare _ _ _) hs (hv.fwd0 hs.fwd) (by simp) (u8s_one _) (by omega) ?_
    clear hs; intro v' w Lv' hO hs
    simp only [Nat.zero_add, List.nil_append, List.append_nil] at hO
    refine s_assign rfl rfl ?_
    refine WL_nil ?_
    refine n_then ?_
    refine W_ret ?_
    first
      | exact end1 rfl rfl ⟨Lv', hO, hs.left⟩
end Go.Proofs.Ytkobigdfijeajaa
