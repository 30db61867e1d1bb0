/- Contracts of package wire: the reader. -/
import Derived.Test.YtkobigdfijeajaaWirW
set_option linter.unusedVariables false
set_option linter.unusedSimpArgs false
namespace Go.Proofs.Ytkobigdfijeajaa
open Go.SL
/-- the reader at p -/
def RdAt (p : Nat) (s : RS) (L : Hp) : Prop := ∃ bs k v Lb, L = (p, Blk 141 [v, .int .i64 ((k : Nat) : Int), .int .i64 s.e]) :: Lb ∧ OwnS 5 1 v bs.length (u8s bs) Lb ∧ k ≤ bs.length ∧ (s.e = 0 → s.rest = bs.drop k) ∧ (∀ b ∈ bs, isB b) ∧ bs.length ≤ 4294967296
theorem RdAt.isB {p : Nat} {s : RS} {L : Hp} (h : RdAt p s L) (he : s.e = 0) : (∀ b ∈ s.rest, isB b) ∧ s.rest.length ≤ 4294967296 := by
  obtain ⟨bs, k, v, Lb, _, _, _, h1, h2, h3⟩ := h
  rw [h1 he]
  exact ⟨fun b hb => h2 b (List.mem_of_mem_drop hb), by simp; omega⟩
theorem read_ok (v : Value) (bs : List Int) (w0 : World) (hv : Sl w0 v bs.length (u8s bs)) (hl : bs.length ≤ 4294967296) (hb : ∀ b ∈ bs, isB b) :
    Ret Try.prog 67 [v].toArray w0 fun r w' => ∃ p L, r = .pointer (some ⟨p, 0, none⟩) ∧ RdAt p ⟨bs, 0⟩ L ∧ St [] w0 w' L := by
  obtain ⟨a, c, rfl, hac⟩ := hv.len_le
  refine Ret_start fun w hs => ?_
  refine Ret_of Try.func67 rfl Try.ntmps67 rfl ?_
  refine W_seq ?_
  refine W_region ?_
  refine s_assign rfl rfl ?_
  refine WL_nil ?_
  refine n_then ?_
  refine W_seq ?_
  refine W_region ?_
  refine s_move rfl rfl ?_
  refine s_call Try.call43 rfl rfl (clone_ok _ bs w (hv.fwd0 hs.fwd) hl) ?_
  rintro r w ⟨Lr, hr, hst⟩
  replace hs := St.back0 hs hst
  simp only [List.append_nil] at hs
  clear hst
  obtain ⟨_, vc, va, rfl, rfl⟩ := hr.form
  refine s_build rfl rfl (BD141_0 _ _ _) ?_
  first | refine s_box rfl rfl hs ?_
  clear hs; intro b6 w hs
  refine s_assign rfl rfl ?_
  refine WL_nil ?_
  refine n_then ?_
  refine W_ret ?_
  exact end1 rfl rfl ⟨b6, _, rfl, ⟨bs, 0, _, Lr, rfl, hr, Nat.zero_le _, fun _ => rfl, hb, hl⟩, hs⟩
set_option maxHeartbeats 1000000 in
theorem octet_ok (p : Nat) (s : RS) (L0 : Hp) (w0 : World) (hR : RdAt p s L0) (hs : St (ids L0) w0 w0 L0) :
    Ret Try.prog 87 [.pointer (some ⟨p, 0, none⟩)].toArray w0 fun r w' => ∃ L', St (ids L0) w0 w' L' ∧ RdAt p (rdO s).2 L' ∧ r = .int .u8 (rdO s).1 := by
  obtain ⟨bs, k, v, Lb, hL, hO, hk, hrest, hB, hbl⟩ := hR
  obtain ⟨_, vc, va, rfl, rfl⟩ := hO.form
  replace hs : St (ids L0) w0 w0 ((p, Blk 141 [.slice va bs.length vc, .int .i64 (k : Int), .int .i64 s.e]) :: Lb) := by rw [hL] at hs ⊢; exact hs
  refine Ret_startL hs fun w hs => ?_
  refine Ret_of Try.func87 rfl Try.ntmps87 rfl ?_
  refine W_seq ?_
  refine W_region ?_
  refine s_assign rfl rfl ?_
  refine WL_nil ?_
  refine n_then ?_
  refine W_seq ?_
  refine W_seq ?_
  refine W_region ?_
  refine s_move rfl rfl ?_
  refine s_nilCheck rfl rfl ?_
  refine s_fieldAddr rfl rfl (FA141_2 _ _) ?_
  first
    | refine s_load Try.isAgg26 rfl rfl (hs.cell (k := 0) rfl rfl) ?_
  refine s_neq rfl rfl rfl ?_
  refine WL_nil ?_
  refine n_then ?_
  refine W_cond rfl (fun hc7 => ?_) (fun hc7 => ?_)
  · skip
    simp only [decide_eq_true_eq, decide_eq_false_iff_not, bne_iff_ne, bne_eq_false_iff_eq, ne_eq] at hc7
    refine W_seq ?_
    refine W_region ?_
    refine s_assign rfl rfl ?_
    refine WL_nil ?_
    refine n_then ?_
    refine W_ret ?_
    refine r_then ?_
    first
      | (have h1 : rdO s = (0, s) := by rw [rdO, if_pos ‹_›]
         rw [h1]
         exact end1 rfl rfl ⟨_, hs, ⟨bs, k, _, Lb, rfl, hO, hk, hrest, hB, hbl⟩, rfl⟩)
  · skip
    simp only [decide_eq_true_eq, decide_eq_false_iff_not, bne_iff_ne, bne_eq_false_iff_eq, ne_eq] at hc7
    refine W_skip ?_
    refine n_then ?_
    refine W_seq ?_
    refine W_seq ?_
    refine W_draw [(0, true, []), (1, true, []), (2, true, []), (3, true, []), (4, true, []), (5, true, []), (6, true, []), (7, true, []), (8, true, []), (9, true, [])] [[], [0], [0, 1], [0, 1, 2], [], [4], [4, 5], [4, 5, 6], [4, 5, 6, 7], [0, 1, 2, 3, 4, 5, 6, 7, 8]] MX (by kernel_rfl) ?_
    intro w1 hw1 hw2 hw3 hw4; replace hs := hs.redrawn hw1 hw2 hw3 hw4; clear hw1 hw2 hw3 hw4
    obtain ⟨w, rfl⟩ : ∃ w : World, w = w1 := ⟨_, rfl⟩
    refine D_q rfl rfl ?_
    refine s_move rfl rfl ?_
    refine D_qn ?_
    refine D_q rfl rfl ?_
    refine s_nilCheck rfl rfl ?_
    refine D_qn ?_
    refine D_q rfl rfl ?_
    refine s_fieldAddr rfl rfl (FA141_1 _ _) ?_
    refine D_qn ?_
    refine D_q rfl rfl ?_
    first
      | refine s_load Try.isAgg3 rfl rfl (hs.cell (k := 0) rfl rfl) ?_
    refine D_qn ?_
    refine D_q rfl rfl ?_
    refine s_move rfl rfl ?_
    refine D_qn ?_
    refine D_q rfl rfl ?_
    refine s_nilCheck rfl rfl ?_
    refine D_qn ?_
    refine D_q rfl rfl ?_
    refine s_fieldAddr rfl rfl (FA141_0 _ _) ?_
    refine D_qn ?_
    refine D_q rfl rfl ?_
    first
      | refine s_load Try.isAgg22 rfl rfl (hs.cell (k := 0) rfl rfl) ?_
    refine D_qn ?_
    refine D_q rfl rfl ?_
    refine s_len rfl rfl (LN22 _ _ _ _) ?_
    refine D_qn ?_
    refine D_q rfl rfl ?_
    refine s_geq rfl rfl rfl ?_
    refine D_qn ?_
    refine D_nil ?_
    refine n_then ?_
    refine W_cond rfl (fun hc17 => ?_) (fun hc17 => ?_)
    · skip
      simp only [decide_eq_true_eq, decide_eq_false_iff_not, bne_iff_ne, bne_eq_false_iff_eq, ne_eq] at hc17
      refine W_seq ?_
      refine W_region ?_
      refine s_move rfl rfl ?_
      refine s_nilCheck rfl rfl ?_
      refine s_fieldAddr rfl rfl (FA141_2 _ _) ?_
      first
        | refine s_storeB Try.sizeOf26 rfl rfl rfl hs (kk := 0) rfl rfl ?_
      clear hs; intro w hs; try simp only [List.set_cons_zero, List.set_cons_succ, splice, List.take_succ_cons, List.take_zero, List.drop_succ_cons, List.drop_zero, List.nil_append, List.cons_append, List.length_cons, List.length_nil, Nat.reduceAdd, List.append_assoc] at hs
      refine WL_nil ?_
      refine n_then ?_
      refine W_seq ?_
      refine W_region ?_
      refine s_assign rfl rfl ?_
      refine WL_nil ?_
      refine n_then ?_
      refine W_ret ?_
      refine r_then ?_
      first
        | (have h1 : rdO s = (0, ⟨[], 3⟩) := by rw [rdO, if_neg (by simpa using ‹s.e = 0›), hrest ‹_›, List.drop_eq_nil_of_le (by omega)]
           rw [h1]
           exact end1 rfl rfl ⟨_, hs, ⟨bs, k, _, Lb, rfl, hO, hk, by simp, hB, hbl⟩, rfl⟩)
    · skip
      simp only [decide_eq_true_eq, decide_eq_false_iff_not, bne_iff_ne, bne_eq_false_iff_eq, ne_eq] at hc17
      have hkl : k < bs.length := by omega
      have hr0 := hrest ‹_›
      rw [List.drop_eq_getElem_cons hkl] at hr0
      obtain ⟨g, cap, sp, hg, hcap, rfl⟩ := hO.block (by omega)
      cases hg
      have hcell : (u8s bs ++ sp)[0 + (((k : Int) + 1) - 1).toNat]? = some (.int .u8 bs[k]) := by
        rw [show 0 + (((k : Int) + 1) - 1).toNat = k by omega, List.getElem?_append_left (by simpa using hkl)]; simp [hkl]
      refine W_skip ?_
      refine n_then ?_
      refine W_seq ?_
      refine W_region ?_
      refine s_move rfl rfl ?_
      refine s_nilCheck rfl rfl ?_
      refine s_fieldAddr rfl rfl (FA141_1 _ _) ?_
      first
        | refine s_load Try.isAgg3 rfl rfl (hs.cell (k := 0) rfl rfl) ?_
      first | (refine s_add' rfl rfl rfl ?hx ?_; case hx => (constructor <;> first | omega | (simp only; omega)))
      refine s_nilCheck rfl rfl ?_
      refine s_fieldAddr rfl rfl (FA141_1 _ _) ?_
      first
        | refine s_storeB Try.sizeOf3 rfl rfl rfl hs (kk := 0) rfl rfl ?_
      clear hs; intro w hs; try simp only [List.set_cons_zero, List.set_cons_succ, splice, List.take_succ_cons, List.take_zero, List.drop_succ_cons, List.drop_zero, List.nil_append, List.cons_append, List.length_cons, List.length_nil, Nat.reduceAdd, List.append_assoc] at hs
      refine WL_nil ?_
      refine n_then ?_
      refine W_seq ?_
      refine W_draw [(0, true, []), (1, true, []), (2, true, []), (3, true, []), (4, true, []), (5, true, []), (6, true, []), (7, true, []), (8, true, []), (9, true, []), (10, true, []), (11, true, [])] [[], [0], [0, 1], [0, 1, 2], [], [4], [4, 5], [4, 5, 6], [4, 5, 6, 7], [0, 1, 2, 3, 4, 5, 6, 7, 8], [0, 1, 2, 3, 4, 5, 6, 7, 8, 9], [0, 1, 2, 3, 4, 5, 6, 7, 8, 9, 10]] MX (by kernel_rfl) ?_
      intro w1 hw1 hw2 hw3 hw4; replace hs := hs.redrawn hw1 hw2 hw3 hw4; clear hw1 hw2 hw3 hw4
      obtain ⟨w, rfl⟩ : ∃ w : World, w = w1 := ⟨_, rfl⟩
      refine D_q rfl rfl ?_
      refine s_move rfl rfl ?_
      refine D_qn ?_
      refine D_q rfl rfl ?_
      refine s_nilCheck rfl rfl ?_
      refine D_qn ?_
      refine D_q rfl rfl ?_
      refine s_fieldAddr rfl rfl (FA141_0 _ _) ?_
      refine D_qn ?_
      refine D_q rfl rfl ?_
      first
        | refine s_load Try.isAgg22 rfl rfl (hs.cell (k := 0) rfl rfl) ?_
      refine D_qn ?_
      refine D_q rfl rfl ?_
      refine s_move rfl rfl ?_
      refine D_qn ?_
      refine D_q rfl rfl ?_
      refine s_nilCheck rfl rfl ?_
      refine D_qn ?_
      refine D_q rfl rfl ?_
      refine s_fieldAddr rfl rfl (FA141_1 _ _) ?_
      refine D_qn ?_
      refine D_q rfl rfl ?_
      first
        | refine s_load Try.isAgg3 rfl rfl (hs.cell (k := 0) rfl rfl) ?_
      refine D_qn ?_
      refine D_q rfl rfl ?_
      first | (refine s_sub' rfl rfl rfl ?hx ?_; case hx => (constructor <;> first | omega | (simp only; omega)))
      refine D_qn ?_
      refine D_q rfl rfl ?_
      (refine s_indexAddr1 El22 rfl rfl rfl ?hx ?_; case hx => (constructor <;> first | omega | (simp; omega)))
      refine D_qn ?_
      refine D_q rfl rfl ?_
      first
        | refine s_load Try.isAgg5 rfl rfl ((hs.cell (k := 1) rfl hcell)) ?_
      refine D_qn ?_
      refine D_q rfl rfl ?_
      refine s_assign rfl rfl ?_
      refine D_qn ?_
      refine D_nil ?_
      refine n_then ?_
      refine W_ret ?_
      first
        | (have h1 : rdO s = (bs[k], ⟨bs.drop (k + 1), 0⟩) := by rw [rdO, if_neg (by simpa using ‹s.e = 0›), hr0]
           rw [h1]
           refine end1 rfl rfl ⟨_, hs, ⟨bs, k + 1, _, _, ?_, hO, by omega, fun _ => rfl, hB, hbl⟩, rfl⟩
           simp [‹s.e = 0›])
theorem rdO_lt {s : RS} (h : s.e = 0 → ∀ b ∈ s.rest, isB b) : 0 ≤ (rdO s).1 ∧ (rdO s).1 ≤ 255 := by
  unfold rdO
  split
  · simp
  · rename_i he
    split
    · simp
    · rename_i c r hr
      have := h (by simpa using he) c (by simp [hr]); unfold isB at this; exact this
theorem rdU_lt {s : RS} (h : s.e = 0 → ∀ b ∈ s.rest, isB b) : (rdU s).1 < 18446744073709551616 := by
  unfold rdU
  split
  · simp
  · rename_i he
    split
    · rename_i n r hp
      have := (pu_bound (h (by simpa using he)) (by omega) hp).1
      simpa using this
    · simp
def puA (i acc : Nat) (l : List Int) : Except Int (Nat × List Int) := match pu i l with
  | .ok (n, r) => .ok (acc + n * 128 ^ i, r)
  | .error e => .error e
theorem puA_0 (l : List Int) : puA 0 0 l = pu 0 l := by
  unfold puA; split <;> simp_all
theorem puA_nil (i acc : Nat) : puA i acc [] = .error 3 := rfl
theorem puA_bad {i acc : Nat} {c : Int} {r : List Int} (h : (i = 9 ∧ 1 < c) ∨ (0 < i ∧ c = 0)) : puA i acc (c :: r) = .error 2 := by rw [puA, pu, if_pos h]
theorem puA_end {i acc : Nat} {c : Int} {r : List Int} (h : ¬ ((i = 9 ∧ 1 < c) ∨ (0 < i ∧ c = 0))) (h2 : c < 128) : puA i acc (c :: r) = .ok (acc + c.toNat * 128 ^ i, r) := by rw [puA, pu, if_neg h, if_pos h2]
theorem puA_more {i acc : Nat} {c : Int} {r : List Int} (h : ¬ ((i = 9 ∧ 1 < c) ∨ (0 < i ∧ c = 0))) (h2 : ¬ c < 128) : puA i acc (c :: r) = puA (i + 1) (acc + (c - 128).toNat * 128 ^ i) r := by
  rw [puA, pu, if_neg h, if_neg h2, puA]
  cases pu (i + 1) r with
  | error e => rfl
  | ok x =>
    obtain ⟨n, r'⟩ := x
    simp only [Except.ok.injEq, Prod.mk.injEq, and_true]
    rw [Nat.add_mul, Nat.pow_succ]
    have : 128 * n * 128 ^ i = n * (128 ^ i * 128) := by rw [Nat.mul_comm 128 n, Nat.mul_assoc, Nat.mul_comm 128]
    omega
theorem room {i acc x : Nat} (ha : acc < 128 ^ i) (hx : x ≤ 127) (hi : i ≤ 9) (h9 : i = 9 → x ≤ 1) : x * 128 ^ i + acc < 18446744073709551616 := by
  rcases Nat.lt_or_ge i 9 with h | h
  · have h1 : x * 128 ^ i + acc < 128 ^ (i + 1) := by
      have h2 := Nat.mul_le_mul_right (128 ^ i) (show x + 1 ≤ 128 by omega)
      rw [Nat.add_mul] at h2
      have h3 : 128 ^ (i + 1) = 128 * 128 ^ i := by rw [Nat.pow_succ, Nat.mul_comm]
      rw [h3]; omega
    have h4 : 128 ^ (i + 1) ≤ 128 ^ 9 := Nat.pow_le_pow_right (by omega) (by omega)
    have h5 : 128 ^ 9 ≤ 18446744073709551616 := by decide +kernel
    exact Nat.lt_of_lt_of_le h1 (Nat.le_trans h4 h5)
  · obtain rfl : i = 9 := by omega
    have h1 : x * 128 ^ 9 ≤ 1 * 128 ^ 9 := Nat.mul_le_mul_right _ (h9 rfl)
    have h5 : 1 * 128 ^ 9 + 128 ^ 9 = 18446744073709551616 := by decide +kernel
    exact Nat.lt_of_lt_of_le (Nat.add_lt_add_of_le_of_lt h1 ha) (Nat.le_of_eq h5)
structure US where
  i : Nat
  acc : Nat
  s : RS
  L : Hp
set_option maxHeartbeats 1000000 in
theorem rUint_ok (p : Nat) (s : RS) (L0 : Hp) (w0 : World) (hR : RdAt p s L0) (hs : St (ids L0) w0 w0 L0) :
    Ret Try.prog 83 [.pointer (some ⟨p, 0, none⟩)].toArray w0 fun r w' => ∃ L', St (ids L0) w0 w' L' ∧ RdAt p (rdU s).2 L' ∧ r = .int .u64 ((rdU s).1 : Int) := by
  refine Ret_startL hs fun w hs => ?_
  refine Ret_of Try.func83 rfl Try.ntmps83 rfl ?_
  refine W_seq ?_
  refine W_region ?_
  refine s_assign rfl rfl ?_
  refine WL_nil ?_
  refine n_then ?_
  refine W_seq ?_
  refine W_region ?_
  refine s_assign rfl rfl ?_
  refine WL_nil ?_
  refine n_then ?_
  refine W_seq ?_
  refine W_region ?_
  refine s_assign rfl rfl ?_
  refine WL_nil ?_
  refine n_then ?_
  refine W_block ?_
  refine W_loop (σ := US) (fun u => [(0, .pointer (some ⟨p, 0, none⟩)), (3, .int .u64 (u.acc : Int)), (4, .int .i64 (u.i : Int))]) (fun u w => St (ids L0) w0 w u.L ∧ RdAt p u.s u.L ∧ u.s.e = s.e ∧ (s.e = 0 → pu 0 s.rest = puA u.i u.acc u.s.rest) ∧ (s.e ≠ 0 → u.s = s) ∧ u.acc < 128 ^ u.i ∧ u.i ≤ 9) (fun u => 10 - u.i) ⟨0, 0, s, L0⟩ ⟨rfl, rfl, rfl, trivial⟩ ⟨hs, hR, rfl, fun _ => (puA_0 _).symm, fun _ => rfl, by simp, by simp⟩ ?_
  clear hs hR
  rintro ⟨i, acc, s1, L⟩ w ⟨hs, hR, hse, hpu, hsx, hacc, hi9⟩
  simp only at hs hR hse hpu hsx hacc hi9 ⊢
  refine W_seq ?_
  refine W_block ?_
  refine W_seq ?_
  refine W_region ?_
  refine s_move rfl rfl ?_
  have hc8 := rdO_lt (s := s1) (fun h => (hR.isB h).1)
  refine s_callL (M := []) (L1 := L) (X := []) Try.call87 rfl rfl (by simpa using hs) (fun h => octet_ok p s1 L w hR h) ?_
  clear hs; rintro v w L2 ⟨hR2, rfl⟩ - hs
  simp only [List.nil_append, List.append_nil] at hs
  obtain ⟨c, hcN⟩ : ∃ c : Nat, (rdO s1).1 = c := ⟨(rdO s1).1.toNat, by omega⟩
  obtain ⟨bs, k, v, Lb, rfl, hO, hk, hrest, hB, hbl⟩ := id hR2
  obtain ⟨_, vc, va, rfl, rfl⟩ := hO.form
  rw [hcN] at hc8 ⊢
  refine s_assign rfl rfl ?_
  refine WL_nil ?_
  refine n_then ?_
  refine W_seq ?_
  refine W_seq ?_
  refine W_region ?_
  refine s_move rfl rfl ?_
  refine s_nilCheck rfl rfl ?_
  refine s_fieldAddr rfl rfl (FA141_2 _ _) ?_
  first
    | refine s_load Try.isAgg26 rfl rfl (hs.cell (k := 0) rfl rfl) ?_
  refine s_neq rfl rfl rfl ?_
  refine WL_nil ?_
  refine n_then ?_
  refine W_cond rfl (fun hc14 => ?_) (fun hc14 => ?_)
  · skip
    simp only [decide_eq_true_eq, decide_eq_false_iff_not, bne_iff_ne, bne_eq_false_iff_eq, ne_eq, beq_iff_eq, beq_eq_false_iff_ne] at hc14
    refine W_seq ?_
    refine W_region ?_
    refine s_assign rfl rfl ?_
    refine WL_nil ?_
    refine n_then ?_
    refine W_ret ?_
    refine r_then ?_
    refine r_blk ?_
    refine r_then ?_
    refine r_then ?_
    refine r_blk ?_
    first
      | (have h0 : rdU s = (0, (rdO s1).2) := by
           by_cases h : s1.e = 0
           · have hp := hpu (hse ▸ h)
             rw [rdO, if_neg (by simpa using h)] at hc14 ⊢
             cases hr : s1.rest with
             | nil => rw [hr, puA_nil] at hp; rw [rdU, if_neg (by simpa using (hse ▸ h)), hp]
             | cons c' r => rw [hr] at hc14; simp at hc14
           · rw [rdO, if_pos h, rdU, if_pos (hse ▸ h), hsx (hse ▸ h)]
         rw [h0]
         exact end1 rfl rfl ⟨_, hs, hR2, rfl⟩)
  · skip
    simp only [decide_eq_true_eq, decide_eq_false_iff_not, bne_iff_ne, bne_eq_false_iff_eq, ne_eq, beq_iff_eq, beq_eq_false_iff_ne] at hc14
    have hs10 : s1.e = 0 := by
      refine Decidable.byContradiction fun h => ?_
      rw [rdO, if_pos h] at hc14; exact h hc14
    have hs0 : s.e = 0 := hse ▸ hs10
    obtain ⟨r, hr1⟩ : ∃ r, s1.rest = (c : Int) :: r := by
      rw [rdO, if_neg (by simpa using hs10)] at hcN hc14
      cases h : s1.rest with
      | nil => rw [h] at hc14; simp at hc14
      | cons c' r => rw [h] at hcN; simp at hcN; exact ⟨r, by rw [hcN]⟩
    have hr2 : rdO s1 = ((c : Int), ⟨r, 0⟩) := by rw [rdO, if_neg (by simpa using hs10), hr1]
    have hpc := hpu hs0
    rw [hr1] at hpc
    rw [hr2] at hR2 hrest hs
    simp only at hrest hs hR2
    refine W_skip ?_
    refine n_then ?_
    refine W_seq ?_
    refine W_seq ?_
    refine W_region ?_
    refine s_move rfl rfl ?_
    refine s_eql rfl rfl rfl ?_
    refine s_move rfl rfl ?_
    refine WL_case (s := 17) rfl (fun hg17 => ?_) (fun hg17 => ?_)
    · skip
      simp only [decide_eq_true_eq, decide_eq_false_iff_not, bne_iff_ne, bne_eq_false_iff_eq, ne_eq, beq_iff_eq, beq_eq_false_iff_ne] at hg17
      refine WL_take rfl ?_
      refine s_move rfl rfl ?_
      refine WL_take rfl ?_
      refine s_gtr rfl rfl rfl ?_
      refine s_pick_t rfl rfl rfl ?_
      refine s_move rfl rfl ?_
      refine WL_case (s := 21) rfl (fun hg21 => ?_) (fun hg21 => ?_)
      · skip
        simp only [decide_eq_true_eq, decide_eq_false_iff_not, bne_iff_ne, bne_eq_false_iff_eq, ne_eq, beq_iff_eq, beq_eq_false_iff_ne] at hg21
        refine WL_skip rfl rfl rfl ?_
        refine WL_skip rfl rfl rfl ?_
        refine WL_skip rfl rfl rfl ?_
        refine WL_skipU rfl rfl ?_
        refine WL_skipU rfl rfl ?_
        refine WL_skip rfl rfl rfl ?_
        refine s_pick_t rfl rfl rfl ?_
        refine WL_nil ?_
        refine n_then ?_
        refine W_cond_t rfl ?_
        refine W_seq ?_
        refine W_region ?_
        refine s_move rfl rfl ?_
        refine s_nilCheck rfl rfl ?_
        refine s_fieldAddr rfl rfl (FA141_2 _ _) ?_
        first
          | refine s_storeB Try.sizeOf26 rfl rfl rfl hs (kk := 0) rfl rfl ?_
        clear hs; intro w hs; try simp only [List.set_cons_zero, List.set_cons_succ, splice, List.take_succ_cons, List.take_zero, List.drop_succ_cons, List.drop_zero, List.nil_append, List.cons_append, List.length_cons, List.length_nil, Nat.reduceAdd, List.append_assoc] at hs
        refine WL_nil ?_
        refine n_then ?_
        refine W_seq ?_
        refine W_region ?_
        refine s_assign rfl rfl ?_
        refine WL_nil ?_
        refine n_then ?_
        refine W_ret ?_
        refine r_then ?_
        refine r_blk ?_
        refine r_then ?_
        refine r_then ?_
        refine r_blk ?_
        first
          | (have h0 : rdU s = (0, ⟨[], 2⟩) := by rw [rdU, if_neg (by simpa using hs0), hpc, puA_bad (by omega)]
             rw [h0]
             exact end1 rfl rfl ⟨_, hs, ⟨bs, k, _, Lb, rfl, hO, hk, by simp, hB, hbl⟩, rfl⟩)
      · skip
        simp only [decide_eq_true_eq, decide_eq_false_iff_not, bne_iff_ne, bne_eq_false_iff_eq, ne_eq, beq_iff_eq, beq_eq_false_iff_ne] at hg21
        refine WL_take rfl ?_
        refine s_move rfl rfl ?_
        refine WL_take rfl ?_
        refine s_gtr rfl rfl rfl ?_
        refine WL_take rfl ?_
        refine s_move rfl rfl ?_
        refine WL_case (s := 24) rfl (fun hg24 => ?_) (fun hg24 => ?_)
        · skip
          simp only [decide_eq_true_eq, decide_eq_false_iff_not, bne_iff_ne, bne_eq_false_iff_eq, ne_eq, beq_iff_eq, beq_eq_false_iff_ne] at hg24
          refine WL_take rfl ?_
          refine s_move rfl rfl ?_
          refine WL_take rfl ?_
          refine s_eql rfl rfl rfl ?_
          refine WL_take rfl ?_
          refine s_pick_t rfl rfl rfl ?_
          refine s_pick_f rfl rfl rfl ?_
          refine WL_nil ?_
          refine n_then ?_
          refine W_cond rfl (fun hc28 => ?_) (fun hc28 => ?_)
          · skip
            simp only [decide_eq_true_eq, decide_eq_false_iff_not, bne_iff_ne, bne_eq_false_iff_eq, ne_eq, beq_iff_eq, beq_eq_false_iff_ne] at hc28
            refine W_seq ?_
            refine W_region ?_
            refine s_move rfl rfl ?_
            refine s_nilCheck rfl rfl ?_
            refine s_fieldAddr rfl rfl (FA141_2 _ _) ?_
            first
              | refine s_storeB Try.sizeOf26 rfl rfl rfl hs (kk := 0) rfl rfl ?_
            clear hs; intro w hs; try simp only [List.set_cons_zero, List.set_cons_succ, splice, List.take_succ_cons, List.take_zero, List.drop_succ_cons, List.drop_zero, List.nil_append, List.cons_append, List.length_cons, List.length_nil, Nat.reduceAdd, List.append_assoc] at hs
            refine WL_nil ?_
            refine n_then ?_
            refine W_seq ?_
            refine W_region ?_
            refine s_assign rfl rfl ?_
            refine WL_nil ?_
            refine n_then ?_
            refine W_ret ?_
            refine r_then ?_
            refine r_blk ?_
            refine r_then ?_
            refine r_then ?_
            refine r_blk ?_
            first
              | (have h0 : rdU s = (0, ⟨[], 2⟩) := by rw [rdU, if_neg (by simpa using hs0), hpc, puA_bad (by omega)]
                 rw [h0]
                 exact end1 rfl rfl ⟨_, hs, ⟨bs, k, _, Lb, rfl, hO, hk, by simp, hB, hbl⟩, rfl⟩)
          · skip
            simp only [decide_eq_true_eq, decide_eq_false_iff_not, bne_iff_ne, bne_eq_false_iff_eq, ne_eq, beq_iff_eq, beq_eq_false_iff_ne] at hc28
            refine W_skip ?_
            refine n_then ?_
            refine W_seq ?_
            refine W_region ?_
            refine s_move rfl rfl ?_
            refine s_move rfl rfl ?_
            refine s_and rfl rfl rfl ?_
            rw [and127 c (by omega)]
            refine s_convert rfl rfl (CV5_142 _) ?_
            rw [u64w (by omega)]
            refine s_move rfl rfl ?_
            refine s_convert rfl rfl (CV3_115 _) ?_
            rw [u64w (by omega)]
            refine s_mul rfl rfl rfl ?_
            rw [show ((7 : Int) * (i : Int)) = ((7 * i : Nat) : Int) by omega, u64w (by omega)]
            have hx9 : i = 9 → c % 128 ≤ 1 := by omega
            have hrm := room hacc (show c % 128 ≤ 127 by omega) hi9 hx9
            have h128 : 128 ^ i = 2 ^ (7 * i) := by rw [show (128 : Nat) = 2 ^ 7 from rfl, ← Nat.pow_mul]
            (refine s_shl rfl rfl rfl ?hx ?_; case hx => omega)
            have hsh : ((c % 128 : Nat) : Int) * 2 ^ (min ((7 * i : Nat) : Int).toNat IntKind.u64.bits) = ((c % 128 * 2 ^ (7 * i) : Nat) : Int) := by
              rw [Int.toNat_natCast, Nat.min_eq_left (by rw [bits64]; omega)]; simp
            rw [hsh, u64w (by rw [← h128]; exact Nat.lt_of_le_of_lt (Nat.le_add_right _ _) hrm)]
            refine s_or rfl rfl rfl ?_
            rw [or_shl acc (c % 128) (7 * i) (by rw [← h128]; exact hacc) (by rw [← h128]; exact hrm), ← h128]
            refine s_assign rfl rfl ?_
            refine WL_nil ?_
            refine n_then ?_
            refine W_seq ?_
            refine W_region ?_
            refine s_move rfl rfl ?_
            refine s_lss rfl rfl rfl ?_
            refine WL_nil ?_
            refine n_then ?_
            refine W_cond rfl (fun hc42 => ?_) (fun hc42 => ?_)
            · skip
              simp only [decide_eq_true_eq, decide_eq_false_iff_not, bne_iff_ne, bne_eq_false_iff_eq, ne_eq, beq_iff_eq, beq_eq_false_iff_ne] at hc42
              refine W_seq ?_
              refine W_region ?_
              refine s_move rfl rfl ?_
              refine s_assign rfl rfl ?_
              refine WL_nil ?_
              refine n_then ?_
              refine W_ret ?_
              refine r_blk ?_
              refine r_then ?_
              refine r_then ?_
              refine r_blk ?_
              first
                | (have h0 : rdU s = (acc + c * 128 ^ i, ⟨r, 0⟩) := by rw [rdU, if_neg (by simpa using hs0), hpc, puA_end (by omega) (by omega)]; simp
                   rw [h0]
                   refine end1 rfl rfl ⟨_, hs, hR2, ?_⟩
                   rw [Nat.mod_eq_of_lt (show c < 128 by omega), Nat.add_comm])
            · skip
              simp only [decide_eq_true_eq, decide_eq_false_iff_not, bne_iff_ne, bne_eq_false_iff_eq, ne_eq, beq_iff_eq, beq_eq_false_iff_ne] at hc42
              refine W_skip ?_
              refine n_blk ?_
              refine n_then ?_
              refine W_region ?_
              refine s_move rfl rfl ?_
              first | (refine s_add' rfl rfl rfl ?hx ?_; case hx => (constructor <;> first | omega | (simp only; omega)))
              refine s_assign rfl rfl ?_
              refine WL_nil ?_
              refine n_loop ?_
              refine ⟨⟨i + 1, c % 128 * 128 ^ i + acc, ⟨r, 0⟩, _⟩, ⟨rfl, rfl, rfl, trivial⟩, ⟨hs, hR2, hs0.symm, fun _ => ?_, fun h => absurd hs0 h, ?_, by simp only; omega⟩, by simp only; omega⟩
              · rw [hpc, puA_more (by omega) (by omega)]; simp only
                congr 1
                rw [show ((c : Int) - 128).toNat = c % 128 by omega, Nat.add_comm]
              · simp only
                have h2 := Nat.mul_le_mul_right (128 ^ i) (show c % 128 + 1 ≤ 128 by omega)
                rw [Nat.add_mul] at h2
                have h3 : 128 ^ (i + 1) = 128 * 128 ^ i := by rw [Nat.pow_succ, Nat.mul_comm]
                rw [h3]; omega
        · skip
          simp only [decide_eq_true_eq, decide_eq_false_iff_not, bne_iff_ne, bne_eq_false_iff_eq, ne_eq, beq_iff_eq, beq_eq_false_iff_ne] at hg24
          refine WL_skip rfl rfl rfl ?_
          refine WL_skip rfl rfl rfl ?_
          refine WL_take rfl ?_
          refine s_pick_f rfl rfl rfl ?_
          refine s_pick_f rfl rfl rfl ?_
          refine WL_nil ?_
          refine n_then ?_
          refine W_cond_f rfl ?_
          refine W_skip ?_
          refine n_then ?_
          refine W_seq ?_
          refine W_region ?_
          refine s_move rfl rfl ?_
          refine s_move rfl rfl ?_
          refine s_and rfl rfl rfl ?_
          rw [and127 c (by omega)]
          refine s_convert rfl rfl (CV5_142 _) ?_
          rw [u64w (by omega)]
          refine s_move rfl rfl ?_
          refine s_convert rfl rfl (CV3_115 _) ?_
          rw [u64w (by omega)]
          refine s_mul rfl rfl rfl ?_
          rw [show ((7 : Int) * (i : Int)) = ((7 * i : Nat) : Int) by omega, u64w (by omega)]
          have hx9 : i = 9 → c % 128 ≤ 1 := by omega
          have hrm := room hacc (show c % 128 ≤ 127 by omega) hi9 hx9
          have h128 : 128 ^ i = 2 ^ (7 * i) := by rw [show (128 : Nat) = 2 ^ 7 from rfl, ← Nat.pow_mul]
          (refine s_shl rfl rfl rfl ?hx ?_; case hx => omega)
          have hsh : ((c % 128 : Nat) : Int) * 2 ^ (min ((7 * i : Nat) : Int).toNat IntKind.u64.bits) = ((c % 128 * 2 ^ (7 * i) : Nat) : Int) := by
            rw [Int.toNat_natCast, Nat.min_eq_left (by rw [bits64]; omega)]; simp
          rw [hsh, u64w (by rw [← h128]; exact Nat.lt_of_le_of_lt (Nat.le_add_right _ _) hrm)]
          refine s_or rfl rfl rfl ?_
          rw [or_shl acc (c % 128) (7 * i) (by rw [← h128]; exact hacc) (by rw [← h128]; exact hrm), ← h128]
          refine s_assign rfl rfl ?_
          refine WL_nil ?_
          refine n_then ?_
          refine W_seq ?_
          refine W_region ?_
          refine s_move rfl rfl ?_
          refine s_lss rfl rfl rfl ?_
          refine WL_nil ?_
          refine n_then ?_
          refine W_cond rfl (fun hc42 => ?_) (fun hc42 => ?_)
          · skip
            simp only [decide_eq_true_eq, decide_eq_false_iff_not, bne_iff_ne, bne_eq_false_iff_eq, ne_eq, beq_iff_eq, beq_eq_false_iff_ne] at hc42
            refine W_seq ?_
            refine W_region ?_
            refine s_move rfl rfl ?_
            refine s_assign rfl rfl ?_
            refine WL_nil ?_
            refine n_then ?_
            refine W_ret ?_
            refine r_blk ?_
            refine r_then ?_
            refine r_then ?_
            refine r_blk ?_
            first
              | (have h0 : rdU s = (acc + c * 128 ^ i, ⟨r, 0⟩) := by rw [rdU, if_neg (by simpa using hs0), hpc, puA_end (by omega) (by omega)]; simp
                 rw [h0]
                 refine end1 rfl rfl ⟨_, hs, hR2, ?_⟩
                 rw [Nat.mod_eq_of_lt (show c < 128 by omega), Nat.add_comm])
          · skip
            simp only [decide_eq_true_eq, decide_eq_false_iff_not, bne_iff_ne, bne_eq_false_iff_eq, ne_eq, beq_iff_eq, beq_eq_false_iff_ne] at hc42
            refine W_skip ?_
            refine n_blk ?_
            refine n_then ?_
            refine W_region ?_
            refine s_move rfl rfl ?_
            first | (refine s_add' rfl rfl rfl ?hx ?_; case hx => (constructor <;> first | omega | (simp only; omega)))
            refine s_assign rfl rfl ?_
            refine WL_nil ?_
            refine n_loop ?_
            refine ⟨⟨i + 1, c % 128 * 128 ^ i + acc, ⟨r, 0⟩, _⟩, ⟨rfl, rfl, rfl, trivial⟩, ⟨hs, hR2, hs0.symm, fun _ => ?_, fun h => absurd hs0 h, ?_, by simp only; omega⟩, by simp only; omega⟩
            · rw [hpc, puA_more (by omega) (by omega)]; simp only
              congr 1
              rw [show ((c : Int) - 128).toNat = c % 128 by omega, Nat.add_comm]
            · simp only
              have h2 := Nat.mul_le_mul_right (128 ^ i) (show c % 128 + 1 ≤ 128 by omega)
              rw [Nat.add_mul] at h2
              have h3 : 128 ^ (i + 1) = 128 * 128 ^ i := by rw [Nat.pow_succ, Nat.mul_comm]
              rw [h3]; omega
    · skip
      simp only [decide_eq_true_eq, decide_eq_false_iff_not, bne_iff_ne, bne_eq_false_iff_eq, ne_eq, beq_iff_eq, beq_eq_false_iff_ne] at hg17
      refine WL_skip rfl rfl rfl ?_
      refine WL_skip rfl rfl rfl ?_
      refine s_pick_f rfl rfl rfl ?_
      refine s_move rfl rfl ?_
      refine WL_take rfl ?_
      refine s_move rfl rfl ?_
      refine WL_take rfl ?_
      refine s_gtr rfl rfl rfl ?_
      refine WL_take rfl ?_
      refine s_move rfl rfl ?_
      refine WL_case (s := 24) rfl (fun hg24 => ?_) (fun hg24 => ?_)
      · skip
        simp only [decide_eq_true_eq, decide_eq_false_iff_not, bne_iff_ne, bne_eq_false_iff_eq, ne_eq, beq_iff_eq, beq_eq_false_iff_ne] at hg24
        refine WL_take rfl ?_
        refine s_move rfl rfl ?_
        refine WL_take rfl ?_
        refine s_eql rfl rfl rfl ?_
        refine WL_take rfl ?_
        refine s_pick_t rfl rfl rfl ?_
        refine s_pick_f rfl rfl rfl ?_
        refine WL_nil ?_
        refine n_then ?_
        refine W_cond rfl (fun hc28 => ?_) (fun hc28 => ?_)
        · skip
          simp only [decide_eq_true_eq, decide_eq_false_iff_not, bne_iff_ne, bne_eq_false_iff_eq, ne_eq, beq_iff_eq, beq_eq_false_iff_ne] at hc28
          refine W_seq ?_
          refine W_region ?_
          refine s_move rfl rfl ?_
          refine s_nilCheck rfl rfl ?_
          refine s_fieldAddr rfl rfl (FA141_2 _ _) ?_
          first
            | refine s_storeB Try.sizeOf26 rfl rfl rfl hs (kk := 0) rfl rfl ?_
          clear hs; intro w hs; try simp only [List.set_cons_zero, List.set_cons_succ, splice, List.take_succ_cons, List.take_zero, List.drop_succ_cons, List.drop_zero, List.nil_append, List.cons_append, List.length_cons, List.length_nil, Nat.reduceAdd, List.append_assoc] at hs
          refine WL_nil ?_
          refine n_then ?_
          refine W_seq ?_
          refine W_region ?_
          refine s_assign rfl rfl ?_
          refine WL_nil ?_
          refine n_then ?_
          refine W_ret ?_
          refine r_then ?_
          refine r_blk ?_
          refine r_then ?_
          refine r_then ?_
          refine r_blk ?_
          first
            | (have h0 : rdU s = (0, ⟨[], 2⟩) := by rw [rdU, if_neg (by simpa using hs0), hpc, puA_bad (by omega)]
               rw [h0]
               exact end1 rfl rfl ⟨_, hs, ⟨bs, k, _, Lb, rfl, hO, hk, by simp, hB, hbl⟩, rfl⟩)
        · skip
          simp only [decide_eq_true_eq, decide_eq_false_iff_not, bne_iff_ne, bne_eq_false_iff_eq, ne_eq, beq_iff_eq, beq_eq_false_iff_ne] at hc28
          refine W_skip ?_
          refine n_then ?_
          refine W_seq ?_
          refine W_region ?_
          refine s_move rfl rfl ?_
          refine s_move rfl rfl ?_
          refine s_and rfl rfl rfl ?_
          rw [and127 c (by omega)]
          refine s_convert rfl rfl (CV5_142 _) ?_
          rw [u64w (by omega)]
          refine s_move rfl rfl ?_
          refine s_convert rfl rfl (CV3_115 _) ?_
          rw [u64w (by omega)]
          refine s_mul rfl rfl rfl ?_
          rw [show ((7 : Int) * (i : Int)) = ((7 * i : Nat) : Int) by omega, u64w (by omega)]
          have hx9 : i = 9 → c % 128 ≤ 1 := by omega
          have hrm := room hacc (show c % 128 ≤ 127 by omega) hi9 hx9
          have h128 : 128 ^ i = 2 ^ (7 * i) := by rw [show (128 : Nat) = 2 ^ 7 from rfl, ← Nat.pow_mul]
          (refine s_shl rfl rfl rfl ?hx ?_; case hx => omega)
          have hsh : ((c % 128 : Nat) : Int) * 2 ^ (min ((7 * i : Nat) : Int).toNat IntKind.u64.bits) = ((c % 128 * 2 ^ (7 * i) : Nat) : Int) := by
            rw [Int.toNat_natCast, Nat.min_eq_left (by rw [bits64]; omega)]; simp
          rw [hsh, u64w (by rw [← h128]; exact Nat.lt_of_le_of_lt (Nat.le_add_right _ _) hrm)]
          refine s_or rfl rfl rfl ?_
          rw [or_shl acc (c % 128) (7 * i) (by rw [← h128]; exact hacc) (by rw [← h128]; exact hrm), ← h128]
          refine s_assign rfl rfl ?_
          refine WL_nil ?_
          refine n_then ?_
          refine W_seq ?_
          refine W_region ?_
          refine s_move rfl rfl ?_
          refine s_lss rfl rfl rfl ?_
          refine WL_nil ?_
          refine n_then ?_
          refine W_cond rfl (fun hc42 => ?_) (fun hc42 => ?_)
          · skip
            simp only [decide_eq_true_eq, decide_eq_false_iff_not, bne_iff_ne, bne_eq_false_iff_eq, ne_eq, beq_iff_eq, beq_eq_false_iff_ne] at hc42
            refine W_seq ?_
            refine W_region ?_
            refine s_move rfl rfl ?_
            refine s_assign rfl rfl ?_
            refine WL_nil ?_
            refine n_then ?_
            refine W_ret ?_
            refine r_blk ?_
            refine r_then ?_
            refine r_then ?_
            refine r_blk ?_
            first
              | (have h0 : rdU s = (acc + c * 128 ^ i, ⟨r, 0⟩) := by rw [rdU, if_neg (by simpa using hs0), hpc, puA_end (by omega) (by omega)]; simp
                 rw [h0]
                 refine end1 rfl rfl ⟨_, hs, hR2, ?_⟩
                 rw [Nat.mod_eq_of_lt (show c < 128 by omega), Nat.add_comm])
          · skip
            simp only [decide_eq_true_eq, decide_eq_false_iff_not, bne_iff_ne, bne_eq_false_iff_eq, ne_eq, beq_iff_eq, beq_eq_false_iff_ne] at hc42
            refine W_skip ?_
            refine n_blk ?_
            refine n_then ?_
            refine W_region ?_
            refine s_move rfl rfl ?_
            first | (refine s_add' rfl rfl rfl ?hx ?_; case hx => (constructor <;> first | omega | (simp only; omega)))
            refine s_assign rfl rfl ?_
            refine WL_nil ?_
            refine n_loop ?_
            refine ⟨⟨i + 1, c % 128 * 128 ^ i + acc, ⟨r, 0⟩, _⟩, ⟨rfl, rfl, rfl, trivial⟩, ⟨hs, hR2, hs0.symm, fun _ => ?_, fun h => absurd hs0 h, ?_, by simp only; omega⟩, by simp only; omega⟩
            · rw [hpc, puA_more (by omega) (by omega)]; simp only
              congr 1
              rw [show ((c : Int) - 128).toNat = c % 128 by omega, Nat.add_comm]
            · simp only
              have h2 := Nat.mul_le_mul_right (128 ^ i) (show c % 128 + 1 ≤ 128 by omega)
              rw [Nat.add_mul] at h2
              have h3 : 128 ^ (i + 1) = 128 * 128 ^ i := by rw [Nat.pow_succ, Nat.mul_comm]
              rw [h3]; omega
      · skip
        simp only [decide_eq_true_eq, decide_eq_false_iff_not, bne_iff_ne, bne_eq_false_iff_eq, ne_eq, beq_iff_eq, beq_eq_false_iff_ne] at hg24
        refine WL_skip rfl rfl rfl ?_
        refine WL_skip rfl rfl rfl ?_
        refine WL_take rfl ?_
        refine s_pick_f rfl rfl rfl ?_
        refine s_pick_f rfl rfl rfl ?_
        refine WL_nil ?_
        refine n_then ?_
        refine W_cond_f rfl ?_
        refine W_skip ?_
        refine n_then ?_
        refine W_seq ?_
        refine W_region ?_
        refine s_move rfl rfl ?_
        refine s_move rfl rfl ?_
        refine s_and rfl rfl rfl ?_
        rw [and127 c (by omega)]
        refine s_convert rfl rfl (CV5_142 _) ?_
        rw [u64w (by omega)]
        refine s_move rfl rfl ?_
        refine s_convert rfl rfl (CV3_115 _) ?_
        rw [u64w (by omega)]
        refine s_mul rfl rfl rfl ?_
        rw [show ((7 : Int) * (i : Int)) = ((7 * i : Nat) : Int) by omega, u64w (by omega)]
        have hx9 : i = 9 → c % 128 ≤ 1 := by omega
        have hrm := room hacc (show c % 128 ≤ 127 by omega) hi9 hx9
        have h128 : 128 ^ i = 2 ^ (7 * i) := by rw [show (128 : Nat) = 2 ^ 7 from rfl, ← Nat.pow_mul]
        (refine s_shl rfl rfl rfl ?hx ?_; case hx => omega)
        have hsh : ((c % 128 : Nat) : Int) * 2 ^ (min ((7 * i : Nat) : Int).toNat IntKind.u64.bits) = ((c % 128 * 2 ^ (7 * i) : Nat) : Int) := by
          rw [Int.toNat_natCast, Nat.min_eq_left (by rw [bits64]; omega)]; simp
        rw [hsh, u64w (by rw [← h128]; exact Nat.lt_of_le_of_lt (Nat.le_add_right _ _) hrm)]
        refine s_or rfl rfl rfl ?_
        rw [or_shl acc (c % 128) (7 * i) (by rw [← h128]; exact hacc) (by rw [← h128]; exact hrm), ← h128]
        refine s_assign rfl rfl ?_
        refine WL_nil ?_
        refine n_then ?_
        refine W_seq ?_
        refine W_region ?_
        refine s_move rfl rfl ?_
        refine s_lss rfl rfl rfl ?_
        refine WL_nil ?_
        refine n_then ?_
        refine W_cond rfl (fun hc42 => ?_) (fun hc42 => ?_)
        · skip
          simp only [decide_eq_true_eq, decide_eq_false_iff_not, bne_iff_ne, bne_eq_false_iff_eq, ne_eq, beq_iff_eq, beq_eq_false_iff_ne] at hc42
          refine W_seq ?_
          refine W_region ?_
          refine s_move rfl rfl ?_
          refine s_assign rfl rfl ?_
          refine WL_nil ?_
          refine n_then ?_
          refine W_ret ?_
          refine r_blk ?_
          refine r_then ?_
          refine r_then ?_
          refine r_blk ?_
          first
            | (have h0 : rdU s = (acc + c * 128 ^ i, ⟨r, 0⟩) := by rw [rdU, if_neg (by simpa using hs0), hpc, puA_end (by omega) (by omega)]; simp
               rw [h0]
               refine end1 rfl rfl ⟨_, hs, hR2, ?_⟩
               rw [Nat.mod_eq_of_lt (show c < 128 by omega), Nat.add_comm])
        · skip
          simp only [decide_eq_true_eq, decide_eq_false_iff_not, bne_iff_ne, bne_eq_false_iff_eq, ne_eq, beq_iff_eq, beq_eq_false_iff_ne] at hc42
          refine W_skip ?_
          refine n_blk ?_
          refine n_then ?_
          refine W_region ?_
          refine s_move rfl rfl ?_
          first | (refine s_add' rfl rfl rfl ?hx ?_; case hx => (constructor <;> first | omega | (simp only; omega)))
          refine s_assign rfl rfl ?_
          refine WL_nil ?_
          refine n_loop ?_
          refine ⟨⟨i + 1, c % 128 * 128 ^ i + acc, ⟨r, 0⟩, _⟩, ⟨rfl, rfl, rfl, trivial⟩, ⟨hs, hR2, hs0.symm, fun _ => ?_, fun h => absurd hs0 h, ?_, by simp only; omega⟩, by simp only; omega⟩
          · rw [hpc, puA_more (by omega) (by omega)]; simp only
            congr 1
            rw [show ((c : Int) - 128).toNat = c % 128 by omega, Nat.add_comm]
          · simp only
            have h2 := Nat.mul_le_mul_right (128 ^ i) (show c % 128 + 1 ≤ 128 by omega)
            rw [Nat.add_mul] at h2
            have h3 : 128 ^ (i + 1) = 128 * 128 ^ i := by rw [Nat.pow_succ, Nat.mul_comm]
            rw [h3]; omega
theorem rInt_ok (p : Nat) (s : RS) (L0 : Hp) (w0 : World) (hR : RdAt p s L0) (hs : St (ids L0) w0 w0 L0) :
    Ret Try.prog 68 [.pointer (some ⟨p, 0, none⟩)].toArray w0 fun r w' => ∃ L', St (ids L0) w0 w' L' ∧ RdAt p (rdI s).2 L' ∧ r = .int .i64 (rdI s).1 := by
  refine Ret_startL hs fun w hs => ?_
  have hm := rdU_lt (s := s) (fun h => (hR.isB h).1)
  refine Ret_of Try.func68 rfl Try.ntmps68 rfl ?_
  refine W_seq ?_
  refine W_region ?_
  refine s_assign rfl rfl ?_
  refine WL_nil ?_
  refine n_then ?_
  refine W_seq ?_
  refine W_region ?_
  refine s_move rfl rfl ?_
  refine s_callL (M := []) (L1 := L0) (X := []) Try.call83 rfl rfl (by simpa using hs) (fun h => rUint_ok p s L0 w hR h) ?_
  clear hs; rintro v w L2 ⟨hR2, rfl⟩ - hs
  simp only [List.nil_append, List.append_nil] at hs
  have hz : (rdI s).1 = unzz (rdU s).1 := rfl
  generalize (rdU s).1 = m at hm hz
  refine s_assign rfl rfl ?_
  refine WL_nil ?_
  refine n_then ?_
  refine W_seq ?_
  refine W_region ?_
  refine s_move rfl rfl ?_
  (refine s_shr rfl rfl rfl ?hx ?_; case hx => omega)
  have hsh : (m : Int).fdiv (2 ^ (min (1 : Int).toNat IntKind.u64.bits)) = ((m / 2 : Nat) : Int) := by
    rw [show (2 : Int) ^ (min (1 : Int).toNat IntKind.u64.bits) = 2 from rfl, Int.fdiv_eq_ediv_of_nonneg _ (by omega)]; rfl
  rw [hsh]
  refine s_convert rfl rfl (CV142_3 _) ?_
  refine s_move rfl rfl ?_
  refine s_and rfl rfl rfl ?_
  rw [and1 m hm]
  refine s_convert rfl rfl (CV142_3 _) ?_
  rw [IntWalk.i64_in _ (by omega)]
  first | (refine s_neg' rfl rfl ?hx ?_; case hx => omega)
  refine s_xor rfl rfl rfl ?_
  rw [zag m hm]
  refine s_assign rfl rfl ?_
  refine WL_nil ?_
  refine n_then ?_
  refine W_ret ?_
  exact end1 rfl rfl ⟨_, hs, hR2, by rw [hz]⟩
theorem rBool_ok (p : Nat) (s : RS) (L0 : Hp) (w0 : World) (hR : RdAt p s L0) (hs : St (ids L0) w0 w0 L0) :
    Ret Try.prog 84 [.pointer (some ⟨p, 0, none⟩)].toArray w0 fun r w' => ∃ L', St (ids L0) w0 w' L' ∧ RdAt p (rdB s).2 L' ∧ r = .bool (rdB s).1 := by
  refine Ret_startL hs fun w hs => ?_
  refine Ret_of Try.func84 rfl Try.ntmps84 rfl ?_
  refine W_seq ?_
  refine W_region ?_
  refine s_assign rfl rfl ?_
  refine WL_nil ?_
  refine n_then ?_
  refine W_seq ?_
  refine W_region ?_
  refine s_move rfl rfl ?_
  refine s_callL (M := []) (L1 := L0) (X := []) Try.call87 rfl rfl (by simpa using hs) (fun h => octet_ok p s L0 w hR h) ?_
  clear hs; rintro v w L2 ⟨hR2, rfl⟩ - hs
  simp only [List.nil_append, List.append_nil] at hs
  obtain ⟨bs, k, v, Lb, rfl, hO, hk, hrest, hB, hbl⟩ := id hR2
  refine s_assign rfl rfl ?_
  refine WL_nil ?_
  refine n_then ?_
  refine W_seq ?_
  refine W_seq ?_
  refine W_region ?_
  refine s_move rfl rfl ?_
  refine s_gtr rfl rfl rfl ?_
  refine WL_nil ?_
  refine n_then ?_
  refine W_cond rfl (fun hc7 => ?_) (fun hc7 => ?_)
  · skip
    simp only [decide_eq_true_eq, decide_eq_false_iff_not] at hc7
    refine W_seq ?_
    refine W_region ?_
    refine s_move rfl rfl ?_
    refine s_nilCheck rfl rfl ?_
    refine s_fieldAddr rfl rfl (FA141_2 _ _) ?_
    first
      | refine s_storeB Try.sizeOf26 rfl rfl rfl hs (kk := 0) rfl rfl ?_
    clear hs; intro w hs; try simp only [List.set_cons_zero, List.set_cons_succ, splice, List.take_succ_cons, List.take_zero, List.drop_succ_cons, List.drop_zero, List.nil_append, List.cons_append, List.length_cons, List.length_nil, Nat.reduceAdd, List.append_assoc] at hs
    refine WL_nil ?_
    refine n_then ?_
    refine W_seq ?_
    refine W_region ?_
    refine s_assign rfl rfl ?_
    refine WL_nil ?_
    refine n_then ?_
    refine W_ret ?_
    refine r_then ?_
    first
      | (rw [rdB, if_pos ‹_›]
         exact end1 rfl rfl ⟨_, hs, ⟨bs, k, _, Lb, rfl, hO, hk, by simp, hB, hbl⟩, rfl⟩)
  · skip
    simp only [decide_eq_true_eq, decide_eq_false_iff_not] at hc7
    refine W_skip ?_
    refine n_then ?_
    refine W_seq ?_
    refine W_region ?_
    refine s_move rfl rfl ?_
    refine s_eql rfl rfl rfl ?_
    refine s_assign rfl rfl ?_
    refine WL_nil ?_
    refine n_then ?_
    refine W_ret ?_
    first
      | (rw [rdB, if_neg ‹_›]
         exact end1 rfl rfl ⟨_, hs, hR2, rfl⟩)
theorem rEnd_ok (p : Nat) (s : RS) (L0 : Hp) (w0 : World) (hR : RdAt p s L0) (hs : St (ids L0) w0 w0 L0) :
    Ret Try.prog 71 [.pointer (some ⟨p, 0, none⟩)].toArray w0 fun r w' => ∃ L', St (ids L0) w0 w' L' ∧ L' = L0 ∧ r = .int .i64 (rdEnd s) := by
  obtain ⟨bs, k, v, Lb, hL, hO, hk, hrest, hB, hbl⟩ := hR
  obtain ⟨_, vc, va, rfl, rfl⟩ := hO.form
  replace hs : St (ids L0) w0 w0 ((p, Blk 141 [.slice va bs.length vc, .int .i64 (k : Int), .int .i64 s.e]) :: Lb) := by rw [hL] at hs ⊢; exact hs
  refine Ret_startL hs fun w hs => ?_
  refine Ret_of Try.func71 rfl Try.ntmps71 rfl ?_
  refine W_seq ?_
  refine W_region ?_
  refine s_assign rfl rfl ?_
  refine WL_nil ?_
  refine n_then ?_
  refine W_seq ?_
  refine W_seq ?_
  refine W_region ?_
  refine s_move rfl rfl ?_
  refine s_nilCheck rfl rfl ?_
  refine s_fieldAddr rfl rfl (FA141_2 _ _) ?_
  first
    | refine s_load Try.isAgg26 rfl rfl (hs.cell (k := 0) rfl rfl) ?_
  refine s_neq rfl rfl rfl ?_
  refine WL_nil ?_
  refine n_then ?_
  refine W_cond rfl (fun hc7 => ?_) (fun hc7 => ?_)
  · skip
    simp only [decide_eq_true_eq, decide_eq_false_iff_not, bne_iff_ne, bne_eq_false_iff_eq, ne_eq] at hc7
    refine W_seq ?_
    refine W_region ?_
    refine s_move rfl rfl ?_
    refine s_nilCheck rfl rfl ?_
    refine s_fieldAddr rfl rfl (FA141_2 _ _) ?_
    first
      | refine s_load Try.isAgg26 rfl rfl (hs.cell (k := 0) rfl rfl) ?_
    refine s_assign rfl rfl ?_
    refine WL_nil ?_
    refine n_then ?_
    refine W_ret ?_
    refine r_then ?_
    refine end1 rfl rfl ⟨_, hs, hL.symm, congrArg (Value.int .i64) ?_⟩
    first
      | (rw [rdEnd, if_pos ‹_›]; done)
  · skip
    simp only [decide_eq_true_eq, decide_eq_false_iff_not, bne_iff_ne, bne_eq_false_iff_eq, ne_eq] at hc7
    refine W_skip ?_
    refine n_then ?_
    refine W_seq ?_
    refine W_seq ?_
    refine W_draw [(0, true, []), (1, true, []), (2, true, []), (3, true, []), (4, true, []), (5, true, []), (6, true, []), (7, true, []), (8, true, []), (9, true, [])] [[], [0], [0, 1], [0, 1, 2], [], [4], [4, 5], [4, 5, 6], [4, 5, 6, 7], [0, 1, 2, 3, 4, 5, 6, 7, 8]] MX (by kernel_rfl) ?_
    intro w1 hw1 hw2 hw3 hw4; replace hs := hs.redrawn hw1 hw2 hw3 hw4; clear hw1 hw2 hw3 hw4
    obtain ⟨w, rfl⟩ : ∃ w : World, w = w1 := ⟨_, rfl⟩
    refine D_q rfl rfl ?_
    refine s_move rfl rfl ?_
    refine D_qn ?_
    refine D_q rfl rfl ?_
    refine s_nilCheck rfl rfl ?_
    refine D_qn ?_
    refine D_q rfl rfl ?_
    refine s_fieldAddr rfl rfl (FA141_1 _ _) ?_
    refine D_qn ?_
    refine D_q rfl rfl ?_
    first
      | refine s_load Try.isAgg3 rfl rfl (hs.cell (k := 0) rfl rfl) ?_
    refine D_qn ?_
    refine D_q rfl rfl ?_
    refine s_move rfl rfl ?_
    refine D_qn ?_
    refine D_q rfl rfl ?_
    refine s_nilCheck rfl rfl ?_
    refine D_qn ?_
    refine D_q rfl rfl ?_
    refine s_fieldAddr rfl rfl (FA141_0 _ _) ?_
    refine D_qn ?_
    refine D_q rfl rfl ?_
    first
      | refine s_load Try.isAgg22 rfl rfl (hs.cell (k := 0) rfl rfl) ?_
    refine D_qn ?_
    refine D_q rfl rfl ?_
    refine s_len rfl rfl (LN22 _ _ _ _) ?_
    refine D_qn ?_
    refine D_q rfl rfl ?_
    refine s_lss rfl rfl rfl ?_
    refine D_qn ?_
    refine D_nil ?_
    refine n_then ?_
    refine W_cond rfl (fun hc21 => ?_) (fun hc21 => ?_)
    · skip
      simp only [decide_eq_true_eq, decide_eq_false_iff_not, bne_iff_ne, bne_eq_false_iff_eq, ne_eq] at hc21
      refine W_seq ?_
      refine W_region ?_
      refine s_assign rfl rfl ?_
      refine WL_nil ?_
      refine n_then ?_
      refine W_ret ?_
      refine r_then ?_
      refine end1 rfl rfl ⟨_, hs, hL.symm, congrArg (Value.int .i64) ?_⟩
      first
        | (rw [rdEnd, if_neg (by simpa using ‹s.e = 0›), hrest ‹_›, if_neg (by rw [List.drop_eq_nil_iff]; omega)]; done)
    · skip
      simp only [decide_eq_true_eq, decide_eq_false_iff_not, bne_iff_ne, bne_eq_false_iff_eq, ne_eq] at hc21
      refine W_skip ?_
      refine n_then ?_
      refine W_seq ?_
      refine W_region ?_
      refine s_assign rfl rfl ?_
      refine WL_nil ?_
      refine n_then ?_
      refine W_ret ?_
      refine end1 rfl rfl ⟨_, hs, hL.symm, congrArg (Value.int .i64) ?_⟩
      first
        | (rw [rdEnd, if_neg (by simpa using ‹s.e = 0›), hrest ‹_›, if_pos (List.drop_eq_nil_of_le (by omega))]; done)
structure LS where
  i : Nat
  v : Value
  s : RS
  Lv : Hp
  L : Hp
set_option maxHeartbeats 1000000 in
theorem listB_ok (p : Nat) (s : RS) (L0 : Hp) (w0 : World) (hR : RdAt p s L0) (hs : St (ids L0) w0 w0 L0) :
    Ret Try.prog 86 [.pointer (some ⟨p, 0, none⟩), .func (.func 87) #[.pointer (some ⟨p, 0, none⟩)] #[]].toArray w0 fun r w' => ∃ L', St (ids L0) w0 w' L' ∧ ∃ LR Lr, L' = LR ++ Lr ∧ RdAt p (rdRaw s).2 LR ∧ OwnS 5 1 r (rdRaw s).1.length (u8s (rdRaw s).1) Lr := by
  refine Ret_startL hs fun w hs => ?_
  have hm := rdU_lt (s := s) (fun h => (hR.isB h).1)
  refine Ret_of Try.func86 rfl Try.ntmps86 rfl ?_
  refine W_seq ?_
  refine W_region ?_
  refine s_assign rfl rfl ?_
  refine WL_nil ?_
  refine n_then ?_
  refine W_seq ?_
  refine W_region ?_
  refine s_move rfl rfl ?_
  refine s_callL (M := []) (L1 := L0) (X := []) Try.call83 rfl rfl (by simpa using hs) (fun h => rUint_ok p s L0 w hR h) ?_
  clear hs; rintro v w L2 ⟨hR2, rfl⟩ - hs
  simp only [List.nil_append, List.append_nil] at hs
  have hraw : rdRaw s = if (rdU s).2.e ≠ 0 then ([], (rdU s).2) else if (rdU s).2.rest.length < (rdU s).1 then ([], ⟨[], 3⟩) else ((rdU s).2.rest.take (rdU s).1, ⟨(rdU s).2.rest.drop (rdU s).1, 0⟩) := rfl
  generalize (rdU s).1 = m at hm hraw
  generalize (rdU s).2 = s1 at hR2 hraw
  obtain ⟨bs, k, v, Lb, rfl, hO, hk, hrest, hB, hbl⟩ := id hR2
  obtain ⟨_, vc, va, rfl, rfl⟩ := hO.form
  refine s_assign rfl rfl ?_
  refine WL_nil ?_
  refine n_then ?_
  refine W_seq ?_
  refine W_seq ?_
  refine W_region ?_
  refine s_move rfl rfl ?_
  refine s_nilCheck rfl rfl ?_
  refine s_fieldAddr rfl rfl (FA141_2 _ _) ?_
  first
    | refine s_load Try.isAgg26 rfl rfl (hs.cell (k := 0) rfl rfl) ?_
  refine s_neq rfl rfl rfl ?_
  refine WL_nil ?_
  refine n_then ?_
  refine W_cond rfl (fun hc13 => ?_) (fun hc13 => ?_)
  · skip
    simp only [decide_eq_true_eq, decide_eq_false_iff_not, bne_iff_ne, bne_eq_false_iff_eq, ne_eq] at hc13
    refine W_seq ?_
    refine W_region ?_
    refine s_assign rfl rfl ?_
    refine WL_nil ?_
    refine n_then ?_
    refine W_ret ?_
    refine r_then ?_
    first
      | (rw [hraw, if_pos ‹_›]
         exact end1 rfl rfl ⟨_, hs, _, [], by rw [List.append_nil], hR2, OwnS.nil _ _⟩)
  · skip
    simp only [decide_eq_true_eq, decide_eq_false_iff_not, bne_iff_ne, bne_eq_false_iff_eq, ne_eq] at hc13
    refine W_skip ?_
    refine n_then ?_
    refine W_seq ?_
    refine W_seq ?_
    refine W_draw [(0, true, []), (1, true, []), (2, true, []), (3, true, []), (4, true, []), (5, true, []), (6, true, []), (7, true, []), (8, true, []), (9, true, []), (10, true, []), (11, true, []), (12, true, [])] [[], [], [1], [1, 2], [1, 2, 3], [1, 2, 3, 4], [], [6], [6, 7], [6, 7, 8], [1, 2, 3, 4, 5, 6, 7, 8, 9], [1, 2, 3, 4, 5, 6, 7, 8, 9, 10], [0, 1, 2, 3, 4, 5, 6, 7, 8, 9, 10, 11]] MX (by kernel_rfl) ?_
    intro w1 hw1 hw2 hw3 hw4; replace hs := hs.redrawn hw1 hw2 hw3 hw4; clear hw1 hw2 hw3 hw4
    obtain ⟨w, rfl⟩ : ∃ w : World, w = w1 := ⟨_, rfl⟩
    refine D_q rfl rfl ?_
    refine s_move rfl rfl ?_
    refine D_qn ?_
    refine D_q rfl rfl ?_
    refine s_move rfl rfl ?_
    refine D_qn ?_
    refine D_q rfl rfl ?_
    refine s_nilCheck rfl rfl ?_
    refine D_qn ?_
    refine D_q rfl rfl ?_
    refine s_fieldAddr rfl rfl (FA141_0 _ _) ?_
    refine D_qn ?_
    refine D_q rfl rfl ?_
    first
      | refine s_load Try.isAgg22 rfl rfl (hs.cell (k := 0) rfl rfl) ?_
    refine D_qn ?_
    refine D_q rfl rfl ?_
    refine s_len rfl rfl (LN22 _ _ _ _) ?_
    refine D_qn ?_
    refine D_q rfl rfl ?_
    refine s_move rfl rfl ?_
    refine D_qn ?_
    refine D_q rfl rfl ?_
    refine s_nilCheck rfl rfl ?_
    refine D_qn ?_
    refine D_q rfl rfl ?_
    refine s_fieldAddr rfl rfl (FA141_1 _ _) ?_
    refine D_qn ?_
    refine D_q rfl rfl ?_
    first
      | refine s_load Try.isAgg3 rfl rfl (hs.cell (k := 0) rfl rfl) ?_
    refine D_qn ?_
    refine D_q rfl rfl ?_
    first | (refine s_sub' rfl rfl rfl ?hx ?_; case hx => (constructor <;> first | omega | (simp only; omega)))
    refine D_qn ?_
    refine D_q rfl rfl ?_
    refine s_convert rfl rfl (CV3_142 _) ?_
    rw [show (bs.length : Int) - (k : Int) = ((bs.length - k : Nat) : Int) by omega, u64w (by omega)]
    refine D_qn ?_
    refine D_q rfl rfl ?_
    refine s_gtr rfl rfl rfl ?_
    refine D_qn ?_
    refine D_nil ?_
    refine n_then ?_
    refine W_cond rfl (fun hc26 => ?_) (fun hc26 => ?_)
    · skip
      simp only [decide_eq_true_eq, decide_eq_false_iff_not, bne_iff_ne, bne_eq_false_iff_eq, ne_eq] at hc26
      have hlt : s1.rest.length < m := by rw [hrest ‹_›, List.length_drop]; omega
      refine W_seq ?_
      refine W_region ?_
      refine s_move rfl rfl ?_
      refine s_nilCheck rfl rfl ?_
      refine s_fieldAddr rfl rfl (FA141_2 _ _) ?_
      first
        | refine s_storeB Try.sizeOf26 rfl rfl rfl hs (kk := 0) rfl rfl ?_
      clear hs; intro w hs; try simp only [List.set_cons_zero, List.set_cons_succ, splice, List.take_succ_cons, List.take_zero, List.drop_succ_cons, List.drop_zero, List.nil_append, List.cons_append, List.length_cons, List.length_nil, Nat.reduceAdd, List.append_assoc] at hs
      refine WL_nil ?_
      refine n_then ?_
      refine W_seq ?_
      refine W_region ?_
      refine s_assign rfl rfl ?_
      refine WL_nil ?_
      refine n_then ?_
      refine W_ret ?_
      refine r_then ?_
      first
        | (rw [hraw, if_neg (by simpa using ‹s1.e = 0›), if_pos ‹_›]
           exact end1 rfl rfl ⟨_, hs, _, [], by rw [List.append_nil], ⟨bs, k, _, Lb, rfl, hO, hk, by simp, hB, hbl⟩, OwnS.nil _ _⟩)
    · skip
      simp only [decide_eq_true_eq, decide_eq_false_iff_not, bne_iff_ne, bne_eq_false_iff_eq, ne_eq] at hc26
      have hge : ¬ s1.rest.length < m := by rw [hrest ‹_›, List.length_drop]; omega
      have hml : m ≤ 4294967296 := by omega
      have hs1 : s1.e = 0 := ‹_›
      have hi64 : IntKind.i64.wrap (m : Int) = m := IntWalk.i64_in _ (by omega)
      rw [if_neg (by simpa using hs1), if_neg hge] at hraw
      refine W_skip ?_
      refine n_then ?_
      refine W_seq ?_
      refine W_region ?_
      refine s_move rfl rfl ?_
      refine s_convert rfl rfl (CV142_3 _) ?_
      rw [hi64]
      refine s_makeSlice El22 rfl rfl rfl ?hx hs ?_
      case hx => (refine ⟨?_, ?_, ?_, ?_⟩ <;> omega)
      clear hs; intro b32 w hs
      refine s_assign rfl rfl ?_
      refine WL_nil ?_
      refine n_then ?_
      refine W_seq ?_
      refine W_seq ?_
      refine W_region ?_
      refine s_move rfl rfl ?_
      refine s_convert rfl rfl (CV142_3 _) ?_
      rw [hi64]
      refine s_move rfl rfl ?_
      refine WL_nil ?_
      refine n_then ?_
      refine W_block ?_
      have hs2 : St (ids L0) w0 w (((p, Blk 141 [.slice va bs.length vc, .int .i64 (k : Int), .int .i64 s1.e]) :: Lb) ++ [(b32, Blk 5 (made [.int .u8 0] (m : Int).toNat))]) := St.swap (A := [_]) hs
      refine W_loop (σ := LS) (fun u => [(0, .pointer (some ⟨p, 0, none⟩)), (1, .func (.func 87) #[.pointer (some ⟨p, 0, none⟩)] #[]), (34, .int .i64 (m : Int)), (35, .int .i64 (u.i : Int)), (6, u.v)])
        (fun u w => St (ids L0) w0 w (u.L ++ u.Lv) ∧ RdAt p u.s u.L ∧ u.s = ⟨s1.rest.drop u.i, 0⟩ ∧ u.i ≤ m ∧ OwnS 5 1 u.v u.i (u8s (s1.rest.take u.i)) u.Lv) (fun u => m - u.i) ⟨0, _, s1, _, _⟩ ⟨rfl, rfl, rfl, rfl, rfl, trivial⟩ ⟨hs2, hR2, by simp only [List.drop_zero]; rw [← hs1], Nat.zero_le _, ⟨rfl, .inr ⟨b32, m, made [.int .u8 0] (m : Int).toNat, rfl, Nat.zero_le _, by simp [maxLen]; omega, by simp [made_one], rfl⟩⟩⟩ ?_
      clear hs hs2 hR2 hO
      rintro ⟨i, v, u, Lv, L⟩ w ⟨hs, hR, hu, him, hO⟩
      simp only at hs hR hu him hO ⊢
      subst hu
      refine W_seq ?_
      refine W_region ?_
      refine s_lss rfl rfl rfl ?_
      refine WL_nil ?_
      refine n_then ?_
      refine W_seq ?_
      refine W_cond rfl (fun hc36 => ?_) (fun hc36 => ?_)
      · skip
        simp only [decide_eq_true_eq, decide_eq_false_iff_not, bne_iff_ne, bne_eq_false_iff_eq, ne_eq] at hc36
        refine W_skip ?_
        refine n_then ?_
        refine W_seq ?_
        refine W_block ?_
        refine W_seq ?_
        refine W_region ?_
        refine s_move rfl rfl ?_
        refine s_move rfl rfl ?_
        have hlt : i < s1.rest.length := by omega
        have hro : rdO ⟨s1.rest.drop i, 0⟩ = (s1.rest[i], ⟨s1.rest.drop (i + 1), 0⟩) := by rw [rdO, if_neg (by simp)]; simp only; rw [List.drop_eq_getElem_cons hlt]
        refine s_callV Try.call87 rfl (fi := [_]) (ca := []) rfl rfl (octet_ok p _ L w hR hs.lend) ?_
        rintro v9 w ⟨L3, hst, hR3, rfl⟩
        replace hs := hs.back hst
        clear hst
        rw [hro] at hR3 ⊢
        obtain ⟨bs3, k3, v3, Lb3, rfl, hO3, hk3, hrest3, hB3, hbl3⟩ := id hR3
        simp only [List.cons_append] at hs
        refine s_buildSlice rfl rfl (BS22_1 _) hs ?_; clear hs; intro b40 w hs
        refine s_appendM (M := _ :: _ :: Lb3) (Lv := Lv) (X := []) El22 rfl rfl rfl hO (by simpa using hs) (hs.sl (k := 0) (ds := [_]) rfl (Nat.le_refl _) (by intro j u hj; rw [Nat.zero_add]; exact hj)) rfl (by simp [Value.oneCell']) (by omega) ?_
        clear hs; intro v' w Lv' hO' hs
        simp only [List.cons_append, List.append_nil] at hs
        refine s_assign rfl rfl ?_
        refine WL_nil ?_
        refine n_then ?_
        refine W_seq ?_
        refine W_region ?_
        refine s_move rfl rfl ?_
        refine s_nilCheck rfl rfl ?_
        refine s_fieldAddr rfl rfl (FA141_2 _ _) ?_
        first
          | refine s_load Try.isAgg26 rfl rfl (hs.cell (k := 1) rfl rfl) ?_
        refine s_neq rfl rfl rfl ?_
        refine WL_nil ?_
        refine n_then ?_
        refine W_cond_kf rfl (rfl) ?_
        refine W_skip ?_
        refine n_blk ?_
        refine n_then ?_
        refine W_region ?_
        first | (refine s_add' rfl rfl rfl ?hx ?_; case hx => (constructor <;> first | omega | (simp only; omega)))
        refine s_move rfl rfl ?_
        refine WL_nil ?_
        refine n_loop ?_
        refine ⟨⟨i + 1, v', ⟨s1.rest.drop (i + 1), 0⟩, Lv', _ :: Lb3⟩, ⟨rfl, rfl, rfl, rfl, rfl, trivial⟩, ⟨hs.tail, hR3, rfl, by simp only; omega, ?_⟩, by simp only; omega⟩
        simp only
        rw [List.take_succ_eq_append_getElem hlt, u8s, List.map_append]
        exact hO'
      · skip
        simp only [decide_eq_true_eq, decide_eq_false_iff_not, bne_iff_ne, bne_eq_false_iff_eq, ne_eq] at hc36
        refine W_exit ?_
        refine x_then ?_
        refine x_then ?_
        refine exit_hit ?_
        refine n_then ?_
        refine W_seq ?_
        refine W_region ?_
        refine s_move rfl rfl ?_
        refine s_assign rfl rfl ?_
        refine WL_nil ?_
        refine n_then ?_
        refine W_ret ?_
        first
          | (have hie : i = m := by omega
             subst hie
             rw [hraw]
             refine end1 rfl rfl ⟨_, hs, L, Lv, rfl, hR, ?_⟩
             simp only
             rw [List.length_take, Nat.min_eq_left (by omega)]
             exact hO)
theorem rRaw_ok (p : Nat) (s : RS) (L0 : Hp) (w0 : World) (hR : RdAt p s L0) (hs : St (ids L0) w0 w0 L0) :
    Ret Try.prog 70 [.pointer (some ⟨p, 0, none⟩)].toArray w0 fun r w' => ∃ L', St (ids L0) w0 w' L' ∧ ∃ LR Lr, L' = LR ++ Lr ∧ RdAt p (rdRaw s).2 LR ∧ OwnS 5 1 r (rdRaw s).1.length (u8s (rdRaw s).1) Lr := by
  refine Ret_startL hs fun w hs => ?_
  refine Ret_of Try.func70 rfl Try.ntmps70 rfl ?_
  refine W_seq ?_
  refine W_region ?_
  refine s_assign rfl rfl ?_
  refine WL_nil ?_
  refine n_then ?_
  refine W_seq ?_
  refine W_region ?_
  refine s_move rfl rfl ?_
  refine s_move rfl rfl ?_
  refine s_makeFunc rfl rfl rfl ?_
  refine s_callL (M := []) (L1 := L0) (X := []) Try.call86 rfl rfl (by simpa using hs) (fun h => listB_ok p s L0 w hR h) ?_
  clear hs; rintro v w L2 hpost - hs
  simp only [List.nil_append, List.append_nil] at hs
  refine s_assign rfl rfl ?_
  refine WL_nil ?_
  refine n_then ?_
  refine W_ret ?_
  exact end1 rfl rfl ⟨_, hs, hpost⟩
theorem rText_ok (p : Nat) (s : RS) (L0 : Hp) (w0 : World) (hR : RdAt p s L0) (hs : St (ids L0) w0 w0 L0) :
    Ret Try.prog 85 [.pointer (some ⟨p, 0, none⟩)].toArray w0 fun r w' => ∃ L', St (ids L0) w0 w' L' ∧ RdAt p (rdRaw s).2 L' ∧ r = .string (strOf (rdRaw s).1) := by
  refine Ret_startL hs fun w hs => ?_
  refine Ret_of Try.func85 rfl Try.ntmps85 rfl ?_
  refine W_seq ?_
  refine W_region ?_
  refine s_assign rfl rfl ?_
  refine WL_nil ?_
  refine n_then ?_
  refine W_seq ?_
  refine W_region ?_
  refine s_move rfl rfl ?_
  refine s_callL (M := []) (L1 := L0) (X := []) Try.call70 rfl rfl (by simpa using hs) (fun h => rRaw_ok p s L0 w hR h) ?_
  clear hs; rintro v w L2 ⟨LR, Lr, rfl, hR2, hOr⟩ - hs
  simp only [List.nil_append, List.append_nil] at hs
  refine s_bytes_str Try.underlying22 Try.underlying5 Try.underlying9 rfl rfl (hOr.sl (M := LR) hs.swap) rfl ?_
  refine s_assign rfl rfl ?_
  refine WL_nil ?_
  refine n_then ?_
  refine W_ret ?_
  exact end1 rfl rfl ⟨_, hs.left, hR2, rfl⟩
end Go.Proofs.Ytkobigdfijeajaa
