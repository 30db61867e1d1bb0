/- DiskPlan. -/
import Derived.Test.YthfcdjbkbmhjgaaDkK
set_option linter.unusedVariables false
set_option linter.unusedSimpArgs false
namespace Go.Proofs.Ythfcdjbkbmhjgaa
open Go.SL
/-- the disk after i steps of which the step m fails -/
def planD (m i : Nat) (bs : List Int) (d : Nat) : Dk := if i ≤ m then oneDk 1000 false true ((m : Int) - i) 1 bs d else oneDk 1000 true false 0 1 bs d
theorem planD_off (m i : Nat) (bs : List Int) (d : Nat) : (planD m i bs d).off = !decide (i ≤ m) := by
  unfold planD; split
  · rename_i h; simp [h, oneDk]
  · rename_i h; simp [h, oneDk]
theorem planD_total (m i : Nat) (bs : List Int) (d : Nat) : total (planD m i bs d).c = bs.length := by
  unfold planD; split <;> exact one_total (by omega)
theorem planD_app {m i : Nat} {bs : List Int} {d : Nat} (hl : bs.length ≤ 100) : (planD m i bs d).app 1 [5] = (planD m (i + 1) (if i ≤ m then bs ++ [5] else bs) d, if i < m then 0 else 18) := by
  unfold planD
  by_cases h : i ≤ m
  · rw [if_pos h, if_pos h, one_app (by omega) (by simp; omega) (by intro _; omega), if_neg (by simp)]
    by_cases h2 : i < m
    · rw [if_pos (by omega), if_pos (by omega), if_pos h2, show ((m : Int) - i) - 1 = (m : Int) - ((i + 1 : Nat) : Int) by omega]
    · rw [if_neg (by omega), if_neg (by omega), if_neg h2, show (m : Int) - i = 0 by omega]
  · rw [if_neg h, if_neg h, one_app_off (by omega), if_neg (by omega), if_neg (by omega)]
theorem planD_sync {m i : Nat} {bs : List Int} {d : Nat} : (planD m i bs d).sync = (planD m (i + 1) bs (if i < m then bs.length else d), if i < m then 0 else 18) := by
  unfold planD
  by_cases h : i ≤ m
  · rw [if_pos h, one_sync, if_neg (by simp)]
    by_cases h2 : i < m
    · rw [if_pos (by omega), if_pos (by omega), if_pos h2, if_pos h2, show ((m : Int) - i) - 1 = (m : Int) - ((i + 1 : Nat) : Int) by omega]
    · rw [if_neg (by omega), if_neg (by omega), if_neg h2, if_neg h2, show (m : Int) - i = 0 by omega]
  · rw [if_neg h, one_sync_off, if_neg (by omega), if_neg (by omega), if_neg (by omega)]
theorem planD_trunc {m i : Nat} {bs : List Int} {d : Nat} {n : Int} (hn : 0 ≤ n ∧ n ≤ bs.length) : (planD m i bs d).trunc 1 n = (planD m (i + 1) (if i < m then bs.take n.toNat else bs) (if i < m then min d n.toNat else d), if i < m then 0 else 18) := by
  unfold planD
  by_cases h : i ≤ m
  · rw [if_pos h, one_trunc (by omega) hn, if_neg (by simp)]
    by_cases h2 : i < m
    · rw [if_pos (by omega), if_pos (by omega), if_pos h2, if_pos h2, if_pos h2, show ((m : Int) - i) - 1 = (m : Int) - ((i + 1 : Nat) : Int) by omega]
    · rw [if_neg (by omega), if_neg (by omega), if_neg h2, if_neg h2, if_neg h2, show (m : Int) - i = 0 by omega]
  · rw [if_neg h, one_trunc_off (by omega) hn, if_neg (by omega), if_neg (by omega), if_neg (by omega), if_neg (by omega)]
theorem planD_crash {m i : Nat} {bs : List Int} {d : Nat} (hl : bs.length ≤ 100) (hd : d ≤ bs.length) : ∃ left, (planD m i bs d).crash [1000] (-1) = oneDk 1000 false false left 1 bs bs.length := by
  have hc : crashB [1000] (-1) bs d = bs := by
    unfold crashB
    rw [keptV_all (by omega), if_neg (by omega), show d + (bs.length - d) = bs.length by omega, List.take_of_length_le (Nat.le_refl _)]
  unfold planD; split
  · exact ⟨_, by rw [one_crash (by omega) hd, hc]⟩
  · exact ⟨_, by rw [one_crash (by omega) hd, hc]⟩
structure DpS where
  i : Nat
  bs : List Int
  d : Nat
  L : Hp
structure DpT where
  bs : List Int
  d : Nat
  L : Hp
set_option maxHeartbeats 2000000 in
theorem diskPlan_ok (vk : Value) (nn : Int) (ks : List Int) (w0 : World) (hk : Sl w0 vk ks.length (i64s ks)) (hki : ∀ z ∈ ks, isI64 z) (hnn : isI64 nn) :
    Ret Try.prog 7 [.int .i64 nn, vk].toArray w0 fun r w' => Fwd [] w0 w' ∧ r = .bool true := by
  obtain ⟨ka, kc, rfl, hkc⟩ := hk.len_le
  have hrm := aroundV_range (m := nn) (q := 8) (by omega)
  obtain ⟨m, hm⟩ : ∃ m : Nat, (m : Int) = aroundV nn 8 := ⟨(aroundV nn 8).toNat, by omega⟩
  have hm8 : m < 8 := by omega
  have hneg : isI64 (-1) := by unfold isI64; omega
  refine Ret_start fun w hs => ?_
  refine Ret_of Try.func7 rfl Try.ntmps7 rfl ?_
  refine W_seq ?_
  refine W_region ?_
  refine s_assign rfl rfl ?_
  refine WL_nil ?_
  refine n_then ?_
  refine W_seq ?_
  refine W_region ?_
  refine s_call Try.call10 rfl rfl (dNew_ok 1000 w) ?_
  rintro v w (⟨-, -, p, Ld, rfl, hD, hst⟩ | ⟨h, -⟩)
  rotate_left
  · exact absurd ⟨by omega, by omega⟩ h
  replace hs := (St.back0 hs hst).left
  clear hst
  refine s_move rfl rfl ?_
  refine s_extract rfl rfl rfl ?_
  refine s_extract rfl rfl rfl ?_
  refine s_assign rfl rfl ?_
  refine s_assign rfl rfl ?_
  refine WL_nil ?_
  refine n_then ?_
  refine W_seq ?_
  refine W_seq ?_
  refine W_region ?_
  refine s_move rfl rfl ?_
  refine s_eql_ptr_nil Try.underlying23 rfl rfl rfl ?_
  refine s_move rfl rfl ?_
  refine WL_know (s := 20) (c := false) rfl (rfl) ?_
  refine WL_take rfl ?_
  refine s_move rfl rfl ?_
  refine WL_take rfl ?_
  refine s_neq rfl rfl rfl ?_
  refine s_pick_f rfl rfl rfl ?_
  refine WL_nil ?_
  refine n_then ?_
  refine W_cond_kf rfl (rfl) ?_
  refine W_skip ?_
  refine n_then ?_
  refine W_seq ?_
  refine W_region ?_
  refine s_move rfl rfl ?_
  refine s_call Try.call11 rfl rfl (around_ok nn 8 _ (by omega) hnn) ?_
  rintro r w ⟨rfl, rfl⟩
  rw [← hm]
  refine s_assign rfl rfl ?_
  refine WL_nil ?_
  refine n_then ?_
  refine W_seq ?_
  refine W_region ?_
  refine s_move rfl rfl ?_
  refine s_move rfl rfl ?_
  refine s_callL (M := []) (L1 := Ld) (X := []) Try.call22 rfl rfl (by simpa using hs) (fun h => arm_ok p _ (m : Int) Ld w hD (by unfold isI64; omega) h) ?_
  rw [show (newDk 1000).arm (m : Int) = planD m 0 [] 0 by
    rw [planD, if_pos (Nat.zero_le _), Dk.arm, if_neg (by simp [newDk])]
    simp [newDk, oneDk]]
  clear hs hD; rintro u w Ld hD - hs
  simp only [List.append_nil, List.nil_append] at hs
  refine WL_nil ?_
  refine n_then ?_
  refine W_seq ?_
  refine W_region ?_
  refine s_assign rfl rfl ?_
  refine WL_nil ?_
  refine n_then ?_
  refine W_seq ?_
  refine W_seq ?_
  refine W_region ?_
  refine s_assign rfl rfl ?_
  refine WL_nil ?_
  refine n_then ?_
  refine W_block ?_
  refine W_loop (σ := DpS) (fun s => [(1, .slice ka ks.length kc), (5, .pointer (some ⟨p, 0, none⟩)), (7, .int .i64 (m : Int)), (8, .int .i64 (s.bs.length : Int)), (9, .int .i64 (s.i : Int))]) (fun s w => St [] w0 w s.L ∧ DiskAt p (planD m s.i s.bs s.d) s.L ∧ (s.i ≤ ks.length ∧ s.i ≤ 12) ∧ s.bs.length ≤ s.i ∧ s.d ≤ s.bs.length) (fun s => 12 - s.i) ⟨0, [], 0, Ld⟩ ⟨rfl, rfl, rfl, rfl, rfl, trivial⟩ ⟨hs, hD, ⟨Nat.zero_le _, Nat.zero_le _⟩, Nat.le_refl _, Nat.le_refl _⟩ ?_
  clear hs hD
  rintro ⟨i, bs, d, Ld⟩ w ⟨hs, hD, hi, hbl, hdl⟩
  simp only at hs hD hi hbl hdl ⊢
  refine W_seq ?_
  refine W_seq ?_
  refine W_region ?_
  refine s_move rfl rfl ?_
  refine s_move rfl rfl ?_
  refine s_len rfl rfl (LN33 _ _ _ _) ?_
  refine s_lss rfl rfl rfl ?_
  refine s_move rfl rfl ?_
  refine WL_case (s := 33) rfl (fun hg33 => ?_) (fun hg33 => ?_)
  · skip
    try simp only [decide_eq_true_eq, decide_eq_false_iff_not, gt_iff_lt, ge_iff_le, beq_iff_eq, beq_eq_false_iff_ne, ne_eq] at hg33
    refine WL_take rfl ?_
    refine s_move rfl rfl ?_
    refine WL_take rfl ?_
    refine s_lss rfl rfl rfl ?_
    refine s_pick_t rfl rfl rfl ?_
    refine WL_nil ?_
    refine n_then ?_
    refine W_cond rfl (fun hc36 => ?_) (fun hc36 => ?_)
    · skip
      try simp only [decide_eq_true_eq, decide_eq_false_iff_not, gt_iff_lt, ge_iff_le, beq_iff_eq, beq_eq_false_iff_ne, ne_eq] at hc36
      have hil : i < ks.length := by omega
      have hi12 : i < 12 := by omega
      obtain ⟨z, hz⟩ : ∃ z, ks[i]? = some z := ⟨_, List.getElem?_eq_getElem hil⟩
      have hzI := hki z (List.mem_of_getElem? hz)
      obtain ⟨b1, o1, hA1, hc1⟩ := (hk.fwd0 hs.fwd).at (k := i) (u := .int .i64 z) (by rw [List.getElem?_map, hz]; rfl)
      obtain ⟨wn, hwn⟩ : ∃ wn : Int, wn = (if i < m then 0 else 18) := ⟨_, rfl⟩
      refine W_skip ?_
      refine n_then ?_
      refine W_seq ?_
      refine W_block ?_
      refine W_seq ?_
      refine W_region ?_
      refine s_assign rfl rfl ?_
      refine WL_nil ?_
      refine n_then ?_
      refine W_cut (σ := Unit) (fun _ => [(1, .slice ka ks.length kc), (5, .pointer (some ⟨p, 0, none⟩)), (7, .int .i64 (m : Int)), (8, .int .i64 (bs.length : Int)), (9, .int .i64 (i : Int)), (10, .int .i64 wn)]) (fun _ w' => w' = w) ?_ ?_
      · skip
        refine W_seq ?_
        refine W_region ?_
        refine s_move rfl rfl ?_
        refine s_move rfl rfl ?_
        refine s_geq rfl rfl rfl ?_
        refine WL_nil ?_
        refine n_then ?_
        refine W_cond rfl (fun hc41 => ?_) (fun hc41 => ?_)
        · skip
          try simp only [decide_eq_true_eq, decide_eq_false_iff_not, gt_iff_lt, ge_iff_le, beq_iff_eq, beq_eq_false_iff_ne, ne_eq] at hc41
          refine W_region ?_
          refine s_assign rfl rfl ?_
          refine WL_nil ?_
          refine n_loop ?_
          first
            | (rw [hwn, if_neg (by omega)]; exact ⟨(), ⟨rfl, rfl, rfl, rfl, rfl, rfl, trivial⟩, rfl⟩)
            | (rw [hwn, if_pos (by omega)]; exact ⟨(), ⟨rfl, rfl, rfl, rfl, rfl, rfl, trivial⟩, rfl⟩)
        · skip
          try simp only [decide_eq_true_eq, decide_eq_false_iff_not, gt_iff_lt, ge_iff_le, beq_iff_eq, beq_eq_false_iff_ne, ne_eq] at hc41
          refine W_skip ?_
          refine n_loop ?_
          first
            | (rw [hwn, if_neg (by omega)]; exact ⟨(), ⟨rfl, rfl, rfl, rfl, rfl, rfl, trivial⟩, rfl⟩)
            | (rw [hwn, if_pos (by omega)]; exact ⟨(), ⟨rfl, rfl, rfl, rfl, rfl, rfl, trivial⟩, rfl⟩)
      · skip
        rintro - w rfl
        refine W_seq ?_
        refine W_region ?_
        refine s_assign rfl rfl ?_
        refine WL_nil ?_
        refine n_then ?_
        refine W_cut (σ := DpT) (fun s => [(1, .slice ka ks.length kc), (5, .pointer (some ⟨p, 0, none⟩)), (7, .int .i64 (m : Int)), (8, .int .i64 (s.bs.length : Int)), (9, .int .i64 (i : Int)), (10, .int .i64 wn), (11, .int .i64 wn)]) (fun s w => St [] w0 w s.L ∧ DiskAt p (planD m (i + 1) s.bs s.d) s.L ∧ s.bs.length ≤ i + 1 ∧ s.d ≤ s.bs.length) ?_ ?_
        · skip
          refine W_seq ?_
          refine W_region ?_
          refine s_move rfl rfl ?_
          refine s_move rfl rfl ?_
          (refine s_indexAddrO El33 rfl rfl rfl hA1 ?hx ?_; case hx => (constructor <;> omega))
          refine s_load Try.isAgg3 rfl rfl (by rw [Int.toNat_natCast]; exact hc1) ?_
          refine s_call Try.call11 rfl rfl (around_ok z 3 _ (by omega) hzI) ?_
          rintro r w ⟨rfl, rfl⟩
          have hz3 := aroundV_range (m := z) (q := 3) (by omega)
          refine WL_nil ?_
          refine n_then ?_
          refine W_block ?_
          refine W_seq ?_
          refine W_region ?_
          refine s_eql rfl rfl rfl ?_
          refine s_assign rfl rfl ?_
          refine WL_nil ?_
          refine n_then ?_
          refine W_cond rfl (fun hc60 => ?_) (fun hc60 => ?_)
          · skip
            try simp only [decide_eq_true_eq, decide_eq_false_iff_not, gt_iff_lt, ge_iff_le, beq_iff_eq, beq_eq_false_iff_ne, ne_eq] at hc60
            refine W_seq ?_
            refine W_region ?_
            refine s_move rfl rfl ?_
            refine s_buildSlice rfl rfl (BS27_1 _) hs ?_; clear hs; intro b63 w hs
            refine s_callL (M := [_]) (L1 := Ld) (X := []) Try.call13 rfl rfl (by simpa using hs) (fun h => dAppend_ok p _ 1 _ [5] Ld w hD (Sl_lit hs rfl) (fun a m c he _ => by cases he; exact St_frontNot (A := [_]) hs (by simp [ids])) (by decide) h) ?_
            rw [planD_app (by omega), ← hwn]
            clear hs hD; rintro u w Ld ⟨hD, rfl⟩ - hs
            simp only [List.append_nil, List.cons_append, List.nil_append] at hs hD
            replace hs := hs.tail
            refine s_assign rfl rfl ?_
            refine WL_nil ?_
            refine n_then ?_
            refine W_seq ?_
            refine W_region ?_
            refine s_move rfl rfl ?_
            refine s_move rfl rfl ?_
            refine s_leq rfl rfl rfl ?_
            refine WL_nil ?_
            refine n_then ?_
            refine W_cond rfl (fun hc67 => ?_) (fun hc67 => ?_)
            · skip
              try simp only [decide_eq_true_eq, decide_eq_false_iff_not, gt_iff_lt, ge_iff_le, beq_iff_eq, beq_eq_false_iff_ne, ne_eq] at hc67
              refine W_region ?_
              refine s_move rfl rfl ?_
              first | (refine s_add' rfl rfl rfl ?hx ?_; case hx => (constructor <;> first | omega | (simp only; omega))) | refine s_add rfl rfl rfl ?_
              refine s_assign rfl rfl ?_
              refine WL_nil ?_
              refine n_blk ?_
              refine n_loop ?_
              have hdl2 : (if i < m then bs.length else d) ≤ bs.length := by split <;> omega
              first
                | (rw [if_pos (by omega)] at hD
                   exact ⟨⟨bs ++ [5], d, Ld⟩, ⟨rfl, rfl, rfl, by simp only [List.length_append, List.length_cons, List.length_nil]; rfl, rfl, rfl, rfl, trivial⟩, hs, hD, by simp; omega, by simp; omega⟩)
                | (rw [if_neg (by omega)] at hD
                   exact ⟨⟨bs, d, Ld⟩, ⟨rfl, rfl, rfl, rfl, rfl, rfl, rfl, trivial⟩, hs, hD, by simp only; omega, hdl⟩)
                | (rw [if_pos (by omega), if_pos (by omega)] at hD
                   refine ⟨⟨bs.take ((bs.length : Int) - 1).toNat, _, Ld⟩, ⟨rfl, rfl, rfl, by simp only; rw [htl, show ((bs.length - 1 : Nat) : Int) = (bs.length : Int) - 1 by omega]; rfl, rfl, rfl, rfl, trivial⟩, hs, hD, by simp only; omega, by simp only; omega⟩)
                | (rw [if_neg (by omega), if_neg (by omega)] at hD
                   exact ⟨⟨bs, d, Ld⟩, ⟨rfl, rfl, rfl, rfl, rfl, rfl, rfl, trivial⟩, hs, hD, by simp only; omega, hdl⟩)
                | exact ⟨⟨bs, _, Ld⟩, ⟨rfl, rfl, rfl, rfl, rfl, rfl, rfl, trivial⟩, hs, hD, by simp only; omega, hdl2⟩
            · skip
              try simp only [decide_eq_true_eq, decide_eq_false_iff_not, gt_iff_lt, ge_iff_le, beq_iff_eq, beq_eq_false_iff_ne, ne_eq] at hc67
              refine W_skip ?_
              refine n_blk ?_
              refine n_loop ?_
              have hdl2 : (if i < m then bs.length else d) ≤ bs.length := by split <;> omega
              first
                | (rw [if_pos (by omega)] at hD
                   exact ⟨⟨bs ++ [5], d, Ld⟩, ⟨rfl, rfl, rfl, by simp only [List.length_append, List.length_cons, List.length_nil]; rfl, rfl, rfl, rfl, trivial⟩, hs, hD, by simp; omega, by simp; omega⟩)
                | (rw [if_neg (by omega)] at hD
                   exact ⟨⟨bs, d, Ld⟩, ⟨rfl, rfl, rfl, rfl, rfl, rfl, rfl, trivial⟩, hs, hD, by simp only; omega, hdl⟩)
                | (rw [if_pos (by omega), if_pos (by omega)] at hD
                   refine ⟨⟨bs.take ((bs.length : Int) - 1).toNat, _, Ld⟩, ⟨rfl, rfl, rfl, by simp only; rw [htl, show ((bs.length - 1 : Nat) : Int) = (bs.length : Int) - 1 by omega]; rfl, rfl, rfl, rfl, trivial⟩, hs, hD, by simp only; omega, by simp only; omega⟩)
                | (rw [if_neg (by omega), if_neg (by omega)] at hD
                   exact ⟨⟨bs, d, Ld⟩, ⟨rfl, rfl, rfl, rfl, rfl, rfl, rfl, trivial⟩, hs, hD, by simp only; omega, hdl⟩)
                | exact ⟨⟨bs, _, Ld⟩, ⟨rfl, rfl, rfl, rfl, rfl, rfl, rfl, trivial⟩, hs, hD, by simp only; omega, hdl2⟩
          · skip
            try simp only [decide_eq_true_eq, decide_eq_false_iff_not, gt_iff_lt, ge_iff_le, beq_iff_eq, beq_eq_false_iff_ne, ne_eq] at hc60
            refine W_seq ?_
            refine W_region ?_
            refine s_eql rfl rfl rfl ?_
            refine s_assign rfl rfl ?_
            refine WL_nil ?_
            refine n_then ?_
            refine W_cond rfl (fun hc70 => ?_) (fun hc70 => ?_)
            · skip
              try simp only [decide_eq_true_eq, decide_eq_false_iff_not, gt_iff_lt, ge_iff_le, beq_iff_eq, beq_eq_false_iff_ne, ne_eq] at hc70
              refine W_region ?_
              refine s_move rfl rfl ?_
              refine s_callL (M := []) (L1 := Ld) (X := []) Try.call14 rfl rfl (by simpa using hs) (fun h => dSync_ok p _ Ld w hD h) ?_
              rw [planD_sync, ← hwn]
              clear hs hD; rintro u w Ld ⟨hD, rfl⟩ - hs
              simp only [List.append_nil, List.nil_append] at hs hD
              refine s_assign rfl rfl ?_
              refine WL_nil ?_
              refine n_blk ?_
              refine n_loop ?_
              have hdl2 : (if i < m then bs.length else d) ≤ bs.length := by split <;> omega
              first
                | (rw [if_pos (by omega)] at hD
                   exact ⟨⟨bs ++ [5], d, Ld⟩, ⟨rfl, rfl, rfl, by simp only [List.length_append, List.length_cons, List.length_nil]; rfl, rfl, rfl, rfl, trivial⟩, hs, hD, by simp; omega, by simp; omega⟩)
                | (rw [if_neg (by omega)] at hD
                   exact ⟨⟨bs, d, Ld⟩, ⟨rfl, rfl, rfl, rfl, rfl, rfl, rfl, trivial⟩, hs, hD, by simp only; omega, hdl⟩)
                | (rw [if_pos (by omega), if_pos (by omega)] at hD
                   refine ⟨⟨bs.take ((bs.length : Int) - 1).toNat, _, Ld⟩, ⟨rfl, rfl, rfl, by simp only; rw [htl, show ((bs.length - 1 : Nat) : Int) = (bs.length : Int) - 1 by omega]; rfl, rfl, rfl, rfl, trivial⟩, hs, hD, by simp only; omega, by simp only; omega⟩)
                | (rw [if_neg (by omega), if_neg (by omega)] at hD
                   exact ⟨⟨bs, d, Ld⟩, ⟨rfl, rfl, rfl, rfl, rfl, rfl, rfl, trivial⟩, hs, hD, by simp only; omega, hdl⟩)
                | exact ⟨⟨bs, _, Ld⟩, ⟨rfl, rfl, rfl, rfl, rfl, rfl, rfl, trivial⟩, hs, hD, by simp only; omega, hdl2⟩
            · skip
              try simp only [decide_eq_true_eq, decide_eq_false_iff_not, gt_iff_lt, ge_iff_le, beq_iff_eq, beq_eq_false_iff_ne, ne_eq] at hc70
              refine W_seq ?_
              refine W_region ?_
              refine s_move rfl rfl ?_
              refine s_gtr rfl rfl rfl ?_
              refine WL_nil ?_
              refine n_then ?_
              refine W_cond rfl (fun hc48 => ?_) (fun hc48 => ?_)
              · skip
                try simp only [decide_eq_true_eq, decide_eq_false_iff_not, gt_iff_lt, ge_iff_le, beq_iff_eq, beq_eq_false_iff_ne, ne_eq] at hc48
                refine W_seq ?_
                refine W_region ?_
                refine s_move rfl rfl ?_
                refine s_move rfl rfl ?_
                first | (refine s_sub' rfl rfl rfl ?hx ?_; case hx => (constructor <;> first | omega | (simp only; omega))) | refine s_sub rfl rfl rfl ?_
                refine s_callL (M := []) (L1 := Ld) (X := []) Try.call19 rfl rfl (by simpa using hs) (fun h => dTrunc_ok p _ 1 ((bs.length : Int) - 1) Ld w hD (by unfold isI64; omega) h) ?_
                rw [planD_trunc (by omega), ← hwn]
                clear hs hD; rintro u w Ld ⟨hD, rfl⟩ - hs
                simp only [List.append_nil, List.nil_append] at hs hD
                have htl : (bs.take ((bs.length : Int) - 1).toNat).length = bs.length - 1 := by rw [List.length_take]; omega
                refine s_assign rfl rfl ?_
                refine WL_nil ?_
                refine n_then ?_
                refine W_seq ?_
                refine W_region ?_
                refine s_move rfl rfl ?_
                refine s_move rfl rfl ?_
                refine s_lss rfl rfl rfl ?_
                refine WL_nil ?_
                refine n_then ?_
                refine W_cond rfl (fun hc55 => ?_) (fun hc55 => ?_)
                · skip
                  try simp only [decide_eq_true_eq, decide_eq_false_iff_not, gt_iff_lt, ge_iff_le, beq_iff_eq, beq_eq_false_iff_ne, ne_eq] at hc55
                  refine W_region ?_
                  refine s_move rfl rfl ?_
                  first | (refine s_sub' rfl rfl rfl ?hx ?_; case hx => (constructor <;> first | omega | (simp only; omega))) | refine s_sub rfl rfl rfl ?_
                  refine s_assign rfl rfl ?_
                  refine WL_nil ?_
                  refine n_blk ?_
                  refine n_loop ?_
                  have hdl2 : (if i < m then bs.length else d) ≤ bs.length := by split <;> omega
                  first
                    | (rw [if_pos (by omega)] at hD
                       exact ⟨⟨bs ++ [5], d, Ld⟩, ⟨rfl, rfl, rfl, by simp only [List.length_append, List.length_cons, List.length_nil]; rfl, rfl, rfl, rfl, trivial⟩, hs, hD, by simp; omega, by simp; omega⟩)
                    | (rw [if_neg (by omega)] at hD
                       exact ⟨⟨bs, d, Ld⟩, ⟨rfl, rfl, rfl, rfl, rfl, rfl, rfl, trivial⟩, hs, hD, by simp only; omega, hdl⟩)
                    | (rw [if_pos (by omega), if_pos (by omega)] at hD
                       refine ⟨⟨bs.take ((bs.length : Int) - 1).toNat, _, Ld⟩, ⟨rfl, rfl, rfl, by simp only; rw [htl, show ((bs.length - 1 : Nat) : Int) = (bs.length : Int) - 1 by omega]; rfl, rfl, rfl, rfl, trivial⟩, hs, hD, by simp only; omega, by simp only; omega⟩)
                    | (rw [if_neg (by omega), if_neg (by omega)] at hD
                       exact ⟨⟨bs, d, Ld⟩, ⟨rfl, rfl, rfl, rfl, rfl, rfl, rfl, trivial⟩, hs, hD, by simp only; omega, hdl⟩)
                    | exact ⟨⟨bs, _, Ld⟩, ⟨rfl, rfl, rfl, rfl, rfl, rfl, rfl, trivial⟩, hs, hD, by simp only; omega, hdl2⟩
                · skip
                  try simp only [decide_eq_true_eq, decide_eq_false_iff_not, gt_iff_lt, ge_iff_le, beq_iff_eq, beq_eq_false_iff_ne, ne_eq] at hc55
                  refine W_skip ?_
                  refine n_blk ?_
                  refine n_loop ?_
                  have hdl2 : (if i < m then bs.length else d) ≤ bs.length := by split <;> omega
                  first
                    | (rw [if_pos (by omega)] at hD
                       exact ⟨⟨bs ++ [5], d, Ld⟩, ⟨rfl, rfl, rfl, by simp only [List.length_append, List.length_cons, List.length_nil]; rfl, rfl, rfl, rfl, trivial⟩, hs, hD, by simp; omega, by simp; omega⟩)
                    | (rw [if_neg (by omega)] at hD
                       exact ⟨⟨bs, d, Ld⟩, ⟨rfl, rfl, rfl, rfl, rfl, rfl, rfl, trivial⟩, hs, hD, by simp only; omega, hdl⟩)
                    | (rw [if_pos (by omega), if_pos (by omega)] at hD
                       refine ⟨⟨bs.take ((bs.length : Int) - 1).toNat, _, Ld⟩, ⟨rfl, rfl, rfl, by simp only; rw [htl, show ((bs.length - 1 : Nat) : Int) = (bs.length : Int) - 1 by omega]; rfl, rfl, rfl, rfl, trivial⟩, hs, hD, by simp only; omega, by simp only; omega⟩)
                    | (rw [if_neg (by omega), if_neg (by omega)] at hD
                       exact ⟨⟨bs, d, Ld⟩, ⟨rfl, rfl, rfl, rfl, rfl, rfl, rfl, trivial⟩, hs, hD, by simp only; omega, hdl⟩)
                    | exact ⟨⟨bs, _, Ld⟩, ⟨rfl, rfl, rfl, rfl, rfl, rfl, rfl, trivial⟩, hs, hD, by simp only; omega, hdl2⟩
              · skip
                try simp only [decide_eq_true_eq, decide_eq_false_iff_not, gt_iff_lt, ge_iff_le, beq_iff_eq, beq_eq_false_iff_ne, ne_eq] at hc48
                refine W_region ?_
                refine s_move rfl rfl ?_
                refine s_callL (M := []) (L1 := Ld) (X := []) Try.call14 rfl rfl (by simpa using hs) (fun h => dSync_ok p _ Ld w hD h) ?_
                rw [planD_sync, ← hwn]
                clear hs hD; rintro u w Ld ⟨hD, rfl⟩ - hs
                simp only [List.append_nil, List.nil_append] at hs hD
                refine s_assign rfl rfl ?_
                refine WL_nil ?_
                refine n_blk ?_
                refine n_loop ?_
                have hdl2 : (if i < m then bs.length else d) ≤ bs.length := by split <;> omega
                first
                  | (rw [if_pos (by omega)] at hD
                     exact ⟨⟨bs ++ [5], d, Ld⟩, ⟨rfl, rfl, rfl, by simp only [List.length_append, List.length_cons, List.length_nil]; rfl, rfl, rfl, rfl, trivial⟩, hs, hD, by simp; omega, by simp; omega⟩)
                  | (rw [if_neg (by omega)] at hD
                     exact ⟨⟨bs, d, Ld⟩, ⟨rfl, rfl, rfl, rfl, rfl, rfl, rfl, trivial⟩, hs, hD, by simp only; omega, hdl⟩)
                  | (rw [if_pos (by omega), if_pos (by omega)] at hD
                     refine ⟨⟨bs.take ((bs.length : Int) - 1).toNat, _, Ld⟩, ⟨rfl, rfl, rfl, by simp only; rw [htl, show ((bs.length - 1 : Nat) : Int) = (bs.length : Int) - 1 by omega]; rfl, rfl, rfl, rfl, trivial⟩, hs, hD, by simp only; omega, by simp only; omega⟩)
                  | (rw [if_neg (by omega), if_neg (by omega)] at hD
                     exact ⟨⟨bs, d, Ld⟩, ⟨rfl, rfl, rfl, rfl, rfl, rfl, rfl, trivial⟩, hs, hD, by simp only; omega, hdl⟩)
                  | exact ⟨⟨bs, _, Ld⟩, ⟨rfl, rfl, rfl, rfl, rfl, rfl, rfl, trivial⟩, hs, hD, by simp only; omega, hdl2⟩
        · skip
          clear hs hD hbl hdl
          rintro ⟨bs, d, Ld⟩ w ⟨hs, hD, hbl, hdl⟩
          simp only at hs hD hbl hdl ⊢
          refine W_seq ?_
          refine W_region ?_
          refine s_move rfl rfl ?_
          refine s_move rfl rfl ?_
          refine s_neq rfl rfl rfl ?_
          refine s_move rfl rfl ?_
          refine WL_know (s := 77) (c := false) rfl ((by simp)) ?_
          refine WL_take rfl ?_
          refine s_move rfl rfl ?_
          refine WL_take rfl ?_
          refine s_callL (M := []) (L1 := Ld) (X := []) Try.call23 rfl rfl (by simpa using hs) (fun h => on_ok p _ Ld w hD h) ?_
          clear hs; rintro u w L9 ⟨hL9, rfl⟩ - hs
          rw [hL9] at hs
          clear hL9
          simp only [List.append_nil, List.nil_append] at hs
          rw [planD_off, Bool.not_not]
          refine WL_take rfl ?_
          refine s_move rfl rfl ?_
          refine WL_take rfl ?_
          refine s_move rfl rfl ?_
          refine WL_take rfl ?_
          refine s_lss rfl rfl rfl ?_
          refine WL_take rfl ?_
          refine s_neq_bool Try.underlying4 rfl rfl rfl ?_
          refine s_pick_f rfl rfl rfl ?_
          refine s_move rfl rfl ?_
          refine WL_know (s := 85) (c := false) rfl ((by rw [show decide (i + 1 ≤ m) = decide ((i : Int) < (m : Int)) from decide_eq_decide.2 (by omega)]; simp)) ?_
          refine WL_take rfl ?_
          refine s_move rfl rfl ?_
          refine WL_take rfl ?_
          refine s_callL (M := []) (L1 := Ld) (X := []) Try.call20 rfl rfl (by simpa using hs) (fun h => used_ok p _ Ld w hD h) ?_
          clear hs; rintro u w L9 ⟨hL9, rfl⟩ - hs
          rw [hL9] at hs
          clear hL9
          simp only [List.append_nil, List.nil_append] at hs
          rw [planD_total]
          refine WL_take rfl ?_
          refine s_move rfl rfl ?_
          refine WL_take rfl ?_
          refine s_neq rfl rfl rfl ?_
          refine s_pick_f rfl rfl rfl ?_
          refine WL_nil ?_
          refine n_then ?_
          refine W_cond_kf rfl ((by simp)) ?_
          refine W_skip ?_
          refine n_blk ?_
          refine n_then ?_
          refine W_region ?_
          refine s_move rfl rfl ?_
          first | (refine s_add' rfl rfl rfl ?hx ?_; case hx => (constructor <;> first | omega | (simp only; omega))) | refine s_add rfl rfl rfl ?_
          refine s_assign rfl rfl ?_
          refine WL_nil ?_
          refine n_loop ?_
          exact ⟨⟨i + 1, bs, d, Ld⟩, ⟨rfl, rfl, rfl, rfl, rfl, trivial⟩, ⟨hs, hD, ⟨by simp only; omega, by simp only; omega⟩, hbl, hdl⟩, by simp only; omega⟩
    · skip
      try simp only [decide_eq_true_eq, decide_eq_false_iff_not, gt_iff_lt, ge_iff_le, beq_iff_eq, beq_eq_false_iff_ne, ne_eq] at hc36
      refine W_exit ?_
      refine x_then ?_
      refine x_then ?_
      refine exit_hit ?_
      refine n_then ?_
      refine W_seq ?_
      refine W_region ?_
      refine s_move rfl rfl ?_
      refine s_buildSlice rfl rfl (BS33_1 _) hs ?_; clear hs; intro b92 w hs
      obtain ⟨lf, hcr⟩ := planD_crash (m := m) (i := i) (bs := bs) (d := d) (by omega) hdl
      refine s_callL (M := [_]) (L1 := Ld) (X := []) Try.call15 rfl rfl (by simpa using hs) (fun h => dCrash_ok p _ _ [1000] (-1) Ld w hD (Sl_lit hs rfl) (fun a m c he _ => by cases he; exact St_frontNot (A := [_]) hs (by simp [ids])) hneg h) ?_
      rw [hcr]
      clear hs hD; rintro u w Ld hD - hs
      simp only [List.append_nil, List.cons_append, List.nil_append] at hs
      replace hs := hs.tail
      obtain ⟨hq1, hq2⟩ := readE_ok (D := oneDk 1000 false false lf 1 bs bs.length) (f := 1) (by omega) rfl
      rw [(one_c 1000 false false lf 1 bs bs.length).1] at hq2
      refine WL_nil ?_
      refine n_then ?_
      refine W_seq ?_
      refine W_region ?_
      refine s_move rfl rfl ?_
      refine s_callL (M := []) (L1 := Ld) (X := []) Try.call16 rfl rfl (by simpa using hs) (fun h => dRead_ok p _ 1 Ld w hD h) ?_
      clear hs; rintro u w L9 ⟨v1, Lr1, rfl, rfl, hO1⟩ - hs
      simp only [List.append_nil, List.nil_append] at hs
      rw [hq2] at hO1
      rw [hq1]
      obtain ⟨_, c1, a1, rfl, hv1⟩ := hO1.form
      subst hv1
      refine s_move rfl rfl ?_
      refine s_extract rfl rfl rfl ?_
      refine s_extract rfl rfl rfl ?_
      refine s_assign rfl rfl ?_
      refine s_assign rfl rfl ?_
      refine WL_nil ?_
      refine n_then ?_
      refine W_seq ?_
      refine W_region ?_
      refine s_move rfl rfl ?_
      refine s_eql rfl rfl rfl ?_
      refine s_move rfl rfl ?_
      refine WL_know (s := 101) (c := true) rfl (rfl) ?_
      refine WL_take rfl ?_
      refine s_move rfl rfl ?_
      refine WL_take rfl ?_
      refine s_len rfl rfl (LN27 _ _ _ _) ?_
      refine WL_take rfl ?_
      refine s_move rfl rfl ?_
      refine WL_take rfl ?_
      refine s_eql rfl rfl rfl ?_
      refine s_pick_t rfl rfl rfl ?_
      refine s_move rfl rfl ?_
      refine WL_know (s := 107) (c := true) rfl ((by simp)) ?_
      refine WL_take rfl ?_
      refine s_move rfl rfl ?_
      refine WL_take rfl ?_
      refine s_callL (M := Lr1) (L1 := Ld) (X := []) Try.call23 rfl rfl (by simpa using hs) (fun h => on_ok p _ Ld w hD h) ?_
      clear hs; rintro u w L9 ⟨hL9, rfl⟩ - hs
      rw [hL9] at hs
      clear hL9
      simp only [List.append_nil] at hs
      refine s_pick_t rfl rfl rfl ?_
      refine s_move rfl rfl ?_
      refine WL_know (s := 111) (c := true) rfl (rfl) ?_
      refine WL_take rfl ?_
      refine s_move rfl rfl ?_
      refine WL_take rfl ?_
      refine s_callL (M := Lr1) (L1 := Ld) (X := []) Try.call14 rfl rfl (by simpa using hs) (fun h => dSync_ok p _ Ld w hD h) ?_
      rw [one_sync, if_pos rfl]
      clear hs hD; rintro u w Ld ⟨hD, rfl⟩ - hs
      refine WL_take rfl ?_
      refine s_eql rfl rfl rfl ?_
      refine s_pick_t rfl rfl rfl ?_
      refine s_move rfl rfl ?_
      refine WL_know (s := 116) (c := true) rfl (rfl) ?_
      refine WL_take rfl ?_
      refine s_call Try.call18 rfl rfl (lives_ok w) ?_
      rintro r w ⟨hst, rfl⟩
      replace hs := hs.fwd1 hst
      clear hst
      refine s_pick_t rfl rfl rfl ?_
      refine s_assign rfl rfl ?_
      refine WL_nil ?_
      refine n_then ?_
      refine W_ret ?_
      exact end1 rfl rfl ⟨hs.fwd, rfl⟩
  · skip
    try simp only [decide_eq_true_eq, decide_eq_false_iff_not, gt_iff_lt, ge_iff_le, beq_iff_eq, beq_eq_false_iff_ne, ne_eq] at hg33
    refine WL_skip rfl rfl rfl ?_
    refine WL_skip rfl rfl rfl ?_
    refine s_pick_f rfl rfl rfl ?_
    refine WL_nil ?_
    refine n_then ?_
    refine W_cond_f rfl ?_
    refine W_exit ?_
    refine x_then ?_
    refine x_then ?_
    refine exit_hit ?_
    refine n_then ?_
    refine W_seq ?_
    refine W_region ?_
    refine s_move rfl rfl ?_
    refine s_buildSlice rfl rfl (BS33_1 _) hs ?_; clear hs; intro b92 w hs
    obtain ⟨lf, hcr⟩ := planD_crash (m := m) (i := i) (bs := bs) (d := d) (by omega) hdl
    refine s_callL (M := [_]) (L1 := Ld) (X := []) Try.call15 rfl rfl (by simpa using hs) (fun h => dCrash_ok p _ _ [1000] (-1) Ld w hD (Sl_lit hs rfl) (fun a m c he _ => by cases he; exact St_frontNot (A := [_]) hs (by simp [ids])) hneg h) ?_
    rw [hcr]
    clear hs hD; rintro u w Ld hD - hs
    simp only [List.append_nil, List.cons_append, List.nil_append] at hs
    replace hs := hs.tail
    obtain ⟨hq1, hq2⟩ := readE_ok (D := oneDk 1000 false false lf 1 bs bs.length) (f := 1) (by omega) rfl
    rw [(one_c 1000 false false lf 1 bs bs.length).1] at hq2
    refine WL_nil ?_
    refine n_then ?_
    refine W_seq ?_
    refine W_region ?_
    refine s_move rfl rfl ?_
    refine s_callL (M := []) (L1 := Ld) (X := []) Try.call16 rfl rfl (by simpa using hs) (fun h => dRead_ok p _ 1 Ld w hD h) ?_
    clear hs; rintro u w L9 ⟨v1, Lr1, rfl, rfl, hO1⟩ - hs
    simp only [List.append_nil, List.nil_append] at hs
    rw [hq2] at hO1
    rw [hq1]
    obtain ⟨_, c1, a1, rfl, hv1⟩ := hO1.form
    subst hv1
    refine s_move rfl rfl ?_
    refine s_extract rfl rfl rfl ?_
    refine s_extract rfl rfl rfl ?_
    refine s_assign rfl rfl ?_
    refine s_assign rfl rfl ?_
    refine WL_nil ?_
    refine n_then ?_
    refine W_seq ?_
    refine W_region ?_
    refine s_move rfl rfl ?_
    refine s_eql rfl rfl rfl ?_
    refine s_move rfl rfl ?_
    refine WL_know (s := 101) (c := true) rfl (rfl) ?_
    refine WL_take rfl ?_
    refine s_move rfl rfl ?_
    refine WL_take rfl ?_
    refine s_len rfl rfl (LN27 _ _ _ _) ?_
    refine WL_take rfl ?_
    refine s_move rfl rfl ?_
    refine WL_take rfl ?_
    refine s_eql rfl rfl rfl ?_
    refine s_pick_t rfl rfl rfl ?_
    refine s_move rfl rfl ?_
    refine WL_know (s := 107) (c := true) rfl ((by simp)) ?_
    refine WL_take rfl ?_
    refine s_move rfl rfl ?_
    refine WL_take rfl ?_
    refine s_callL (M := Lr1) (L1 := Ld) (X := []) Try.call23 rfl rfl (by simpa using hs) (fun h => on_ok p _ Ld w hD h) ?_
    clear hs; rintro u w L9 ⟨hL9, rfl⟩ - hs
    rw [hL9] at hs
    clear hL9
    simp only [List.append_nil] at hs
    refine s_pick_t rfl rfl rfl ?_
    refine s_move rfl rfl ?_
    refine WL_know (s := 111) (c := true) rfl (rfl) ?_
    refine WL_take rfl ?_
    refine s_move rfl rfl ?_
    refine WL_take rfl ?_
    refine s_callL (M := Lr1) (L1 := Ld) (X := []) Try.call14 rfl rfl (by simpa using hs) (fun h => dSync_ok p _ Ld w hD h) ?_
    rw [one_sync, if_pos rfl]
    clear hs hD; rintro u w Ld ⟨hD, rfl⟩ - hs
    refine WL_take rfl ?_
    refine s_eql rfl rfl rfl ?_
    refine s_pick_t rfl rfl rfl ?_
    refine s_move rfl rfl ?_
    refine WL_know (s := 116) (c := true) rfl (rfl) ?_
    refine WL_take rfl ?_
    refine s_call Try.call18 rfl rfl (lives_ok w) ?_
    rintro r w ⟨hst, rfl⟩
    replace hs := hs.fwd1 hst
    clear hst
    refine s_pick_t rfl rfl rfl ?_
    refine s_assign rfl rfl ?_
    refine WL_nil ?_
    refine n_then ?_
    refine W_ret ?_
    exact end1 rfl rfl ⟨hs.fwd, rfl⟩
end Go.Proofs.Ythfcdjbkbmhjgaa
