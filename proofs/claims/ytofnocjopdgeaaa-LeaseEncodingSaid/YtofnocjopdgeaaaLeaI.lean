/- The reference's table of leases: Grant, Apply; entries: Same, Bent, plain; lists of byte slices. -/
import Derived.Test.YtofnocjopdgeaaaLeaH
set_option linter.unusedVariables false
set_option linter.unusedSimpArgs false
namespace Go.Proofs.Ytofnocjopdgeaaa
open Go.SL
set_option maxHeartbeats 2000000 in
theorem fGrant_ok (p : Nat) (f : ByteArray → Option Lz) (ks : List RCmd) (m : Nat) (s : ByteArray) (h t len : Int) (L0 : Hp) (w0 : World) (hT : RTab p f ks m L0) (hs : St (ids L0) w0 w0 L0) (hB : ∀ y, f s = some y → 0 ≤ y.token ∧ y.token ≤ 1073741824) :
    Ret Try.prog 16 [.pointer (some ⟨p, 0, none⟩), .string s, .int .i64 h, .int .i64 t, .int .i64 len].toArray w0 fun r w' => ∃ L', St (ids L0) w0 w' L' ∧ L' = L0 ∧
      ∃ g x, r = .tuple #[.agg #[.bool g, .string x.rule, .int .i64 x.holder, .int .i64 x.token, .int .i64 x.til, .slice none 0 0], .int .i64 (grantE f s h t len)] ∧
        (grantE f s h t len = 0 → g = true ∧ x = grantX f s h t len ∧ validP true x 0) ∧ (grantE f s h t len ≠ 0 → g = false ∧ x = zeroLz) := by
  obtain ⟨xs, lv, cv, Ll, Lc, hL, rfl, hO, hO2, hC, hxm, hkm, hmm⟩ := hT
  obtain ⟨_, lc, la, rfl, rfl⟩ := hO.form
  replace hs : St (ids L0) w0 w0 ((p, Blk 29 [.slice la xs.length lc, cv]) :: (Ll ++ (Lc ++ rblks ks))) := by rw [hL] at hs ⊢; exact hs
  refine Ret_startL hs fun w hs => ?_
  refine Ret_of Try.func16 rfl Try.ntmps16 rfl ?_
  refine W_seq ?_
  refine W_region ?_
  refine s_alloc rfl AL37 hs ?_; clear hs; intro b10 w hs
  refine s_assign rfl rfl ?_
  refine WL_nil ?_
  refine n_then ?_
  refine W_seq ?_
  refine W_seq ?_
  refine W_region ?_
  refine s_move rfl rfl ?_
  refine s_lss rfl rfl rfl ?_
  refine s_move rfl rfl ?_
  refine WL_case (s := 17) rfl (fun hg17 => ?_) (fun hg17 => ?_)
  · skip
    try simp only [decide_eq_true_eq, decide_eq_false_iff_not, Bool.not_eq_true', Bool.not_eq_false', bne_iff_ne, bne_eq_false_iff_eq, ne_eq, ge_iff_le, gt_iff_lt] at hg17
    refine WL_skip rfl rfl rfl ?_
    refine WL_skip rfl rfl rfl ?_
    refine s_pick_t rfl rfl rfl ?_
    refine s_move rfl rfl ?_
    refine WL_skip rfl rfl rfl ?_
    refine WL_skip rfl rfl rfl ?_
    refine s_pick_t rfl rfl rfl ?_
    refine s_move rfl rfl ?_
    refine WL_skip rfl rfl rfl ?_
    refine WL_skip rfl rfl rfl ?_
    refine s_pick_t rfl rfl rfl ?_
    refine WL_nil ?_
    refine n_then ?_
    refine W_cond_t rfl ?_
    refine W_seq ?_
    refine W_region ?_
    refine s_build rfl rfl (BD37_ ) ?_
    first
      | refine s_storeW Try.sizeOf37 rfl rfl rfl rfl hs (kk := 0) rfl rfl ?_
      | refine s_storeW Try.sizeOf37 rfl rfl rfl rfl hs (kk := 1) rfl rfl ?_
      | refine s_storeW Try.sizeOf37 rfl rfl rfl rfl hs (kk := 2) rfl rfl ?_
      | refine s_storeW Try.sizeOf37 rfl rfl rfl rfl hs (kk := 3) rfl rfl ?_
      | refine s_storeAB Try.sizeOf37 rfl rfl rfl rfl hs (kk := 0) rfl rfl ?_
      | refine s_storeAB Try.sizeOf37 rfl rfl rfl rfl hs (kk := 1) rfl rfl ?_
      | refine s_storeAB Try.sizeOf37 rfl rfl rfl rfl hs (kk := 2) rfl rfl ?_
      | refine s_storeAB Try.sizeOf37 rfl rfl rfl rfl hs (kk := 3) rfl rfl ?_
    clear hs; intro w hs; try simp only [List.set_cons_zero, List.set_cons_succ, splice, List.take_succ_cons, List.take_zero, List.drop_succ_cons, List.drop_zero, List.nil_append, List.cons_append, List.length_cons, List.length_nil, Nat.reduceAdd, List.append_assoc] at hs
    refine s_assign rfl rfl ?_
    refine WL_nil ?_
    refine n_then ?_
    refine W_ret ?_
    refine r_then ?_
    first
      | (exfalso; omega)
      | (refine end2 rfl (resOk_block Try.isAgg37 Try.sizeOf37 hs rfl (kk := 0) rfl rfl) rfl ?_
         have hE : grantE (lf xs) s h t len = 1 := by rw [grantE, if_pos (by omega)]
         exact ⟨_, hs.tail, hL.symm, false, zeroLz, by rw [hE]; rfl, fun h => by omega, fun _ => ⟨rfl, rfl⟩⟩)
      | (refine end2 rfl (resOk_block Try.isAgg37 Try.sizeOf37 hs rfl (kk := 1) rfl rfl) rfl ?_
         refine ⟨_, hs.tail.tail, hL.symm, ?_⟩
         first
           | (have hE : grantE (lf xs) s h t len = 1 := by rw [grantE, if_neg (by omega), hgx, if_pos ‹_›]
              exact ⟨false, zeroLz, by rw [hE]; rfl, fun h => by omega, fun _ => ⟨rfl, rfl⟩⟩)
           | (have hE : grantE (lf xs) s h t len = 15 := by rw [grantE, if_neg (by omega), hgx, if_neg (by simpa using ‹validP true _ 0›), hf]; simp only; rw [if_pos ⟨by omega, ‹_›⟩]
              exact ⟨false, zeroLz, by rw [hE]; rfl, fun h => by omega, fun _ => ⟨rfl, rfl⟩⟩)
           | (have hE : grantE (lf xs) s h t len = 0 := by
                rw [grantE, if_neg (by omega), hgx, if_neg (by simpa using ‹validP true _ 0›), hf]
                first
                  | done
                  | (simp only; rw [if_neg (by omega)])
              exact ⟨true, _, by rw [hE], fun _ => ⟨rfl, hgx.symm, ‹_›⟩, fun h => absurd hE h⟩))
  · skip
    try simp only [decide_eq_true_eq, decide_eq_false_iff_not, Bool.not_eq_true', Bool.not_eq_false', bne_iff_ne, bne_eq_false_iff_eq, ne_eq, ge_iff_le, gt_iff_lt] at hg17
    refine WL_take rfl ?_
    refine s_move rfl rfl ?_
    refine WL_take rfl ?_
    refine s_gtr rfl rfl rfl ?_
    refine s_pick_f rfl rfl rfl ?_
    refine s_move rfl rfl ?_
    refine WL_case (s := 21) rfl (fun hg21 => ?_) (fun hg21 => ?_)
    · skip
      try simp only [decide_eq_true_eq, decide_eq_false_iff_not, Bool.not_eq_true', Bool.not_eq_false', bne_iff_ne, bne_eq_false_iff_eq, ne_eq, ge_iff_le, gt_iff_lt] at hg21
      refine WL_skip rfl rfl rfl ?_
      refine WL_skip rfl rfl rfl ?_
      refine s_pick_t rfl rfl rfl ?_
      refine s_move rfl rfl ?_
      refine WL_skip rfl rfl rfl ?_
      refine WL_skip rfl rfl rfl ?_
      refine s_pick_t rfl rfl rfl ?_
      refine WL_nil ?_
      refine n_then ?_
      refine W_cond_t rfl ?_
      refine W_seq ?_
      refine W_region ?_
      refine s_build rfl rfl (BD37_ ) ?_
      first
        | refine s_storeW Try.sizeOf37 rfl rfl rfl rfl hs (kk := 0) rfl rfl ?_
        | refine s_storeW Try.sizeOf37 rfl rfl rfl rfl hs (kk := 1) rfl rfl ?_
        | refine s_storeW Try.sizeOf37 rfl rfl rfl rfl hs (kk := 2) rfl rfl ?_
        | refine s_storeW Try.sizeOf37 rfl rfl rfl rfl hs (kk := 3) rfl rfl ?_
        | refine s_storeAB Try.sizeOf37 rfl rfl rfl rfl hs (kk := 0) rfl rfl ?_
        | refine s_storeAB Try.sizeOf37 rfl rfl rfl rfl hs (kk := 1) rfl rfl ?_
        | refine s_storeAB Try.sizeOf37 rfl rfl rfl rfl hs (kk := 2) rfl rfl ?_
        | refine s_storeAB Try.sizeOf37 rfl rfl rfl rfl hs (kk := 3) rfl rfl ?_
      clear hs; intro w hs; try simp only [List.set_cons_zero, List.set_cons_succ, splice, List.take_succ_cons, List.take_zero, List.drop_succ_cons, List.drop_zero, List.nil_append, List.cons_append, List.length_cons, List.length_nil, Nat.reduceAdd, List.append_assoc] at hs
      refine s_assign rfl rfl ?_
      refine WL_nil ?_
      refine n_then ?_
      refine W_ret ?_
      refine r_then ?_
      first
        | (exfalso; omega)
        | (refine end2 rfl (resOk_block Try.isAgg37 Try.sizeOf37 hs rfl (kk := 0) rfl rfl) rfl ?_
           have hE : grantE (lf xs) s h t len = 1 := by rw [grantE, if_pos (by omega)]
           exact ⟨_, hs.tail, hL.symm, false, zeroLz, by rw [hE]; rfl, fun h => by omega, fun _ => ⟨rfl, rfl⟩⟩)
        | (refine end2 rfl (resOk_block Try.isAgg37 Try.sizeOf37 hs rfl (kk := 1) rfl rfl) rfl ?_
           refine ⟨_, hs.tail.tail, hL.symm, ?_⟩
           first
             | (have hE : grantE (lf xs) s h t len = 1 := by rw [grantE, if_neg (by omega), hgx, if_pos ‹_›]
                exact ⟨false, zeroLz, by rw [hE]; rfl, fun h => by omega, fun _ => ⟨rfl, rfl⟩⟩)
             | (have hE : grantE (lf xs) s h t len = 15 := by rw [grantE, if_neg (by omega), hgx, if_neg (by simpa using ‹validP true _ 0›), hf]; simp only; rw [if_pos ⟨by omega, ‹_›⟩]
                exact ⟨false, zeroLz, by rw [hE]; rfl, fun h => by omega, fun _ => ⟨rfl, rfl⟩⟩)
             | (have hE : grantE (lf xs) s h t len = 0 := by
                  rw [grantE, if_neg (by omega), hgx, if_neg (by simpa using ‹validP true _ 0›), hf]
                  first
                    | done
                    | (simp only; rw [if_neg (by omega)])
                exact ⟨true, _, by rw [hE], fun _ => ⟨rfl, hgx.symm, ‹_›⟩, fun h => absurd hE h⟩))
    · skip
      try simp only [decide_eq_true_eq, decide_eq_false_iff_not, Bool.not_eq_true', Bool.not_eq_false', bne_iff_ne, bne_eq_false_iff_eq, ne_eq, ge_iff_le, gt_iff_lt] at hg21
      refine WL_take rfl ?_
      refine s_move rfl rfl ?_
      refine WL_take rfl ?_
      refine s_lss rfl rfl rfl ?_
      refine s_pick_f rfl rfl rfl ?_
      refine s_move rfl rfl ?_
      refine WL_case (s := 25) rfl (fun hg25 => ?_) (fun hg25 => ?_)
      · skip
        try simp only [decide_eq_true_eq, decide_eq_false_iff_not, Bool.not_eq_true', Bool.not_eq_false', bne_iff_ne, bne_eq_false_iff_eq, ne_eq, ge_iff_le, gt_iff_lt] at hg25
        refine WL_skip rfl rfl rfl ?_
        refine WL_skip rfl rfl rfl ?_
        refine s_pick_t rfl rfl rfl ?_
        refine WL_nil ?_
        refine n_then ?_
        refine W_cond_t rfl ?_
        refine W_seq ?_
        refine W_region ?_
        refine s_build rfl rfl (BD37_ ) ?_
        first
          | refine s_storeW Try.sizeOf37 rfl rfl rfl rfl hs (kk := 0) rfl rfl ?_
          | refine s_storeW Try.sizeOf37 rfl rfl rfl rfl hs (kk := 1) rfl rfl ?_
          | refine s_storeW Try.sizeOf37 rfl rfl rfl rfl hs (kk := 2) rfl rfl ?_
          | refine s_storeW Try.sizeOf37 rfl rfl rfl rfl hs (kk := 3) rfl rfl ?_
          | refine s_storeAB Try.sizeOf37 rfl rfl rfl rfl hs (kk := 0) rfl rfl ?_
          | refine s_storeAB Try.sizeOf37 rfl rfl rfl rfl hs (kk := 1) rfl rfl ?_
          | refine s_storeAB Try.sizeOf37 rfl rfl rfl rfl hs (kk := 2) rfl rfl ?_
          | refine s_storeAB Try.sizeOf37 rfl rfl rfl rfl hs (kk := 3) rfl rfl ?_
        clear hs; intro w hs; try simp only [List.set_cons_zero, List.set_cons_succ, splice, List.take_succ_cons, List.take_zero, List.drop_succ_cons, List.drop_zero, List.nil_append, List.cons_append, List.length_cons, List.length_nil, Nat.reduceAdd, List.append_assoc] at hs
        refine s_assign rfl rfl ?_
        refine WL_nil ?_
        refine n_then ?_
        refine W_ret ?_
        refine r_then ?_
        first
          | (exfalso; omega)
          | (refine end2 rfl (resOk_block Try.isAgg37 Try.sizeOf37 hs rfl (kk := 0) rfl rfl) rfl ?_
             have hE : grantE (lf xs) s h t len = 1 := by rw [grantE, if_pos (by omega)]
             exact ⟨_, hs.tail, hL.symm, false, zeroLz, by rw [hE]; rfl, fun h => by omega, fun _ => ⟨rfl, rfl⟩⟩)
          | (refine end2 rfl (resOk_block Try.isAgg37 Try.sizeOf37 hs rfl (kk := 1) rfl rfl) rfl ?_
             refine ⟨_, hs.tail.tail, hL.symm, ?_⟩
             first
               | (have hE : grantE (lf xs) s h t len = 1 := by rw [grantE, if_neg (by omega), hgx, if_pos ‹_›]
                  exact ⟨false, zeroLz, by rw [hE]; rfl, fun h => by omega, fun _ => ⟨rfl, rfl⟩⟩)
               | (have hE : grantE (lf xs) s h t len = 15 := by rw [grantE, if_neg (by omega), hgx, if_neg (by simpa using ‹validP true _ 0›), hf]; simp only; rw [if_pos ⟨by omega, ‹_›⟩]
                  exact ⟨false, zeroLz, by rw [hE]; rfl, fun h => by omega, fun _ => ⟨rfl, rfl⟩⟩)
               | (have hE : grantE (lf xs) s h t len = 0 := by
                    rw [grantE, if_neg (by omega), hgx, if_neg (by simpa using ‹validP true _ 0›), hf]
                    first
                      | done
                      | (simp only; rw [if_neg (by omega)])
                  exact ⟨true, _, by rw [hE], fun _ => ⟨rfl, hgx.symm, ‹_›⟩, fun h => absurd hE h⟩))
      · skip
        try simp only [decide_eq_true_eq, decide_eq_false_iff_not, Bool.not_eq_true', Bool.not_eq_false', bne_iff_ne, bne_eq_false_iff_eq, ne_eq, ge_iff_le, gt_iff_lt] at hg25
        refine WL_take rfl ?_
        refine s_move rfl rfl ?_
        refine WL_take rfl ?_
        refine s_gtr rfl rfl rfl ?_
        refine s_pick_f rfl rfl rfl ?_
        refine WL_nil ?_
        refine n_then ?_
        refine W_cond rfl (fun hc28 => ?_) (fun hc28 => ?_)
        · skip
          try simp only [decide_eq_true_eq, decide_eq_false_iff_not, Bool.not_eq_true', Bool.not_eq_false', bne_iff_ne, bne_eq_false_iff_eq, ne_eq, ge_iff_le, gt_iff_lt] at hc28
          refine W_seq ?_
          refine W_region ?_
          refine s_build rfl rfl (BD37_ ) ?_
          first
            | refine s_storeW Try.sizeOf37 rfl rfl rfl rfl hs (kk := 0) rfl rfl ?_
            | refine s_storeW Try.sizeOf37 rfl rfl rfl rfl hs (kk := 1) rfl rfl ?_
            | refine s_storeW Try.sizeOf37 rfl rfl rfl rfl hs (kk := 2) rfl rfl ?_
            | refine s_storeW Try.sizeOf37 rfl rfl rfl rfl hs (kk := 3) rfl rfl ?_
            | refine s_storeAB Try.sizeOf37 rfl rfl rfl rfl hs (kk := 0) rfl rfl ?_
            | refine s_storeAB Try.sizeOf37 rfl rfl rfl rfl hs (kk := 1) rfl rfl ?_
            | refine s_storeAB Try.sizeOf37 rfl rfl rfl rfl hs (kk := 2) rfl rfl ?_
            | refine s_storeAB Try.sizeOf37 rfl rfl rfl rfl hs (kk := 3) rfl rfl ?_
          clear hs; intro w hs; try simp only [List.set_cons_zero, List.set_cons_succ, splice, List.take_succ_cons, List.take_zero, List.drop_succ_cons, List.drop_zero, List.nil_append, List.cons_append, List.length_cons, List.length_nil, Nat.reduceAdd, List.append_assoc] at hs
          refine s_assign rfl rfl ?_
          refine WL_nil ?_
          refine n_then ?_
          refine W_ret ?_
          refine r_then ?_
          first
            | (exfalso; omega)
            | (refine end2 rfl (resOk_block Try.isAgg37 Try.sizeOf37 hs rfl (kk := 0) rfl rfl) rfl ?_
               have hE : grantE (lf xs) s h t len = 1 := by rw [grantE, if_pos (by omega)]
               exact ⟨_, hs.tail, hL.symm, false, zeroLz, by rw [hE]; rfl, fun h => by omega, fun _ => ⟨rfl, rfl⟩⟩)
            | (refine end2 rfl (resOk_block Try.isAgg37 Try.sizeOf37 hs rfl (kk := 1) rfl rfl) rfl ?_
               refine ⟨_, hs.tail.tail, hL.symm, ?_⟩
               first
                 | (have hE : grantE (lf xs) s h t len = 1 := by rw [grantE, if_neg (by omega), hgx, if_pos ‹_›]
                    exact ⟨false, zeroLz, by rw [hE]; rfl, fun h => by omega, fun _ => ⟨rfl, rfl⟩⟩)
                 | (have hE : grantE (lf xs) s h t len = 15 := by rw [grantE, if_neg (by omega), hgx, if_neg (by simpa using ‹validP true _ 0›), hf]; simp only; rw [if_pos ⟨by omega, ‹_›⟩]
                    exact ⟨false, zeroLz, by rw [hE]; rfl, fun h => by omega, fun _ => ⟨rfl, rfl⟩⟩)
                 | (have hE : grantE (lf xs) s h t len = 0 := by
                      rw [grantE, if_neg (by omega), hgx, if_neg (by simpa using ‹validP true _ 0›), hf]
                      first
                        | done
                        | (simp only; rw [if_neg (by omega)])
                    exact ⟨true, _, by rw [hE], fun _ => ⟨rfl, hgx.symm, ‹_›⟩, fun h => absurd hE h⟩))
        · skip
          try simp only [decide_eq_true_eq, decide_eq_false_iff_not, Bool.not_eq_true', Bool.not_eq_false', bne_iff_ne, bne_eq_false_iff_eq, ne_eq, ge_iff_le, gt_iff_lt] at hc28
          refine W_skip ?_
          refine n_then ?_
          refine W_seq ?_
          refine W_region ?_
          refine s_move rfl rfl ?_
          refine s_move rfl rfl ?_
          refine s_move rfl rfl ?_
          refine s_move rfl rfl ?_
          first | (refine s_add' rfl rfl rfl ?hx ?_; case hx => (constructor <;> first | omega | (simp only; omega))) | refine s_add rfl rfl rfl ?_
          refine s_build rfl rfl (BD34_0_1_2_3 _ _ _ _) ?_
          refine s_build rfl rfl (BD37_0_1 _ _ _ _ _) ?_
          refine s_alloc rfl AL37 hs ?_; clear hs; intro b12 w hs
          first
            | refine s_storeW Try.sizeOf37 rfl rfl rfl rfl hs (kk := 0) rfl rfl ?_
            | refine s_storeW Try.sizeOf37 rfl rfl rfl rfl hs (kk := 1) rfl rfl ?_
            | refine s_storeW Try.sizeOf37 rfl rfl rfl rfl hs (kk := 2) rfl rfl ?_
            | refine s_storeW Try.sizeOf37 rfl rfl rfl rfl hs (kk := 3) rfl rfl ?_
            | refine s_storeAB Try.sizeOf37 rfl rfl rfl rfl hs (kk := 0) rfl rfl ?_
            | refine s_storeAB Try.sizeOf37 rfl rfl rfl rfl hs (kk := 1) rfl rfl ?_
            | refine s_storeAB Try.sizeOf37 rfl rfl rfl rfl hs (kk := 2) rfl rfl ?_
            | refine s_storeAB Try.sizeOf37 rfl rfl rfl rfl hs (kk := 3) rfl rfl ?_
          clear hs; intro w hs; try simp only [List.set_cons_zero, List.set_cons_succ, splice, List.take_succ_cons, List.take_zero, List.drop_succ_cons, List.drop_zero, List.nil_append, List.cons_append, List.length_cons, List.length_nil, Nat.reduceAdd, List.append_assoc] at hs
          refine WL_nil ?_
          refine n_then ?_
          refine W_seq ?_
          refine W_region ?_
          refine s_move rfl rfl ?_
          refine s_move rfl rfl ?_
          refine s_callL (M := [_, _]) (L1 := (p, Blk 29 [.slice la xs.length lc, cv]) :: Ll) (X := Lc ++ rblks ks) Try.call60 rfl rfl hs (fun h => find_ok p xs _ _ Ll s _ w rfl hO h (by omega)) ?_
          clear hs; rintro v w L9 ⟨hL9, i, rfl, hF⟩ - hs
          rw [hL9] at hs; clear hL9 L9
          simp only [List.cons_append, List.nil_append] at hs
          refine s_assign rfl rfl ?_
          refine WL_nil ?_
          refine n_then ?_
          refine W_cut (σ := Int) (fun tk => [(0, .pointer (some ⟨p, 0, none⟩)), (1, .string s), (2, .int .i64 h), (3, .int .i64 t), (4, .int .i64 len), (10, .pointer (some ⟨b10, 0, none⟩)), (12, .pointer (some ⟨b12, 0, none⟩)), (13, .int .i64 i)]) (fun tk w => St (ids L0) w0 w ((b12, Blk 37 [.bool true, .string s, .int .i64 h, .int .i64 tk, .int .i64 (t + len), .slice none 0 0]) :: (b10, Blk 37 [.bool false, .string ByteArray.empty, .int .i64 0, .int .i64 0, .int .i64 0, .slice none 0 0]) :: (p, Blk 29 [.slice la xs.length lc, cv]) :: (Ll ++ (Lc ++ rblks ks))) ∧ tk = tokN (lf xs) s + 1) ?_ ?_
          · skip
            refine W_seq ?_
            refine W_region ?_
            refine s_move rfl rfl ?_
            refine s_geq rfl rfl rfl ?_
            refine WL_nil ?_
            refine n_then ?_
            refine W_cond rfl (fun hc41 => ?_) (fun hc41 => ?_)
            · skip
              try simp only [decide_eq_true_eq, decide_eq_false_iff_not, Bool.not_eq_true', Bool.not_eq_false', bne_iff_ne, bne_eq_false_iff_eq, ne_eq, ge_iff_le, gt_iff_lt] at hc41
              obtain ⟨j, y, rfl, hj, hf, hyr, hno⟩ : ∃ (j : Nat) (y : Lz), i = (j : Int) ∧ xs[j]? = some y ∧ lf xs s = some y ∧ y.rule = s ∧ ∀ (k : Nat) (z : Lz), k < j → xs[k]? = some z → z.rule ≠ s := by
                rcases hF with ⟨h, _⟩ | h
                · omega
                · exact h
              have hjl : j < xs.length := (List.getElem?_eq_some_iff.1 hj).1
              obtain ⟨g, gc, sp, hgv, hgc, rfl⟩ := hO.block (by omega)
              cases hgv
              have cc : ∀ o u, o < 4 → y.cells[o]? = some u → (lcells xs ++ sp)[0 + (j : Int).toNat * 4 + o]? = some u := fun o u ho hu => flat_at' Lz.cells_length ho hj hu
              simp only [List.cons_append, List.nil_append] at hs
              have hyB := hB y hf
              refine W_region ?_
              refine s_move rfl rfl ?_
              refine s_nilCheck rfl rfl ?_
              refine s_fieldAddr rfl rfl (FA29_0 _ _) ?_
              first
                | refine s_load Try.isAgg26 rfl rfl (hs.cell (k := 0) rfl rfl) ?_
                | refine s_load Try.isAgg26 rfl rfl (hs.cell (k := 1) rfl rfl) ?_
                | refine s_load Try.isAgg26 rfl rfl (hs.cell (k := 2) rfl rfl) ?_
                | refine s_load Try.isAgg26 rfl rfl (hs.cell (k := 3) rfl rfl) ?_
              refine s_move rfl rfl ?_
              (refine s_indexAddr El26 rfl rfl rfl ?hx ?_; case hx => (constructor <;> first | omega | (simp; omega)))
              refine s_fieldAddr rfl rfl (FA34_2 _ _) ?_
              refine s_load Try.isAgg3 rfl rfl (hs.cell (k := 3) rfl (cc 2 _ (by omega) rfl)) ?_
              first | (refine s_add' rfl rfl rfl ?hx ?_; case hx => (constructor <;> first | omega | (simp only; omega))) | refine s_add rfl rfl rfl ?_
              refine s_fieldAddr rfl rfl (FA37_1 _ _) ?_
              refine s_fieldAddr rfl rfl (FA34_2 _ _) ?_
              first
                | refine s_storeB Try.sizeOf3 rfl rfl rfl hs (kk := 0) rfl rfl ?_
                | refine s_storeB Try.sizeOf3 rfl rfl rfl hs (kk := 1) rfl rfl ?_
                | refine s_storeB Try.sizeOf3 rfl rfl rfl hs (kk := 2) rfl rfl ?_
                | refine s_storeB Try.sizeOf3 rfl rfl rfl hs (kk := 3) rfl rfl ?_
              clear hs; intro w hs; try simp only [List.set_cons_zero, List.set_cons_succ, splice, List.take_succ_cons, List.take_zero, List.drop_succ_cons, List.drop_zero, List.nil_append, List.cons_append, List.length_cons, List.length_nil, Nat.reduceAdd, List.append_assoc] at hs
              refine WL_nil ?_
              refine n_loop ?_
              exact ⟨_, ⟨rfl, rfl, rfl, rfl, rfl, rfl, rfl, rfl, trivial⟩, hs, by simp [tokN, hf]⟩
            · skip
              try simp only [decide_eq_true_eq, decide_eq_false_iff_not, Bool.not_eq_true', Bool.not_eq_false', bne_iff_ne, bne_eq_false_iff_eq, ne_eq, ge_iff_le, gt_iff_lt] at hc41
              have hf : lf xs s = none := by
                rcases hF with ⟨_, h⟩ | ⟨j, _, h, _⟩
                · exact h
                · omega
              refine W_skip ?_
              refine n_loop ?_
              exact ⟨_, ⟨rfl, rfl, rfl, rfl, rfl, rfl, rfl, rfl, trivial⟩, hs, by simp [tokN, hf]⟩
          · skip
            clear hs
            rintro tk w ⟨hs, htk⟩
            have hgx : grantX (lf xs) s h t len = ⟨s, h, tk, t + len⟩ := by rw [grantX, ← htk]
            refine W_seq ?_
            refine W_region ?_
            first
              | refine s_loadW Try.isAgg37 Try.sizeOf37 rfl rfl hs (kk := 0) rfl rfl ?_
              | refine s_loadW Try.isAgg37 Try.sizeOf37 rfl rfl hs (kk := 1) rfl rfl ?_
              | refine s_loadW Try.isAgg37 Try.sizeOf37 rfl rfl hs (kk := 2) rfl rfl ?_
              | refine s_loadW Try.isAgg37 Try.sizeOf37 rfl rfl hs (kk := 3) rfl rfl ?_
              | refine s_load_6 Try.isAgg37 Try.sizeOf37 rfl rfl (by first | exact hs.cell (k := 0) rfl rfl | exact hs.cell (k := 1) rfl rfl | exact hs.cell (k := 2) rfl rfl | exact hs.cell (k := 3) rfl rfl) (by first | exact hs.cell (k := 0) rfl rfl | exact hs.cell (k := 1) rfl rfl | exact hs.cell (k := 2) rfl rfl | exact hs.cell (k := 3) rfl rfl) (by first | exact hs.cell (k := 0) rfl rfl | exact hs.cell (k := 1) rfl rfl | exact hs.cell (k := 2) rfl rfl | exact hs.cell (k := 3) rfl rfl) (by first | exact hs.cell (k := 0) rfl rfl | exact hs.cell (k := 1) rfl rfl | exact hs.cell (k := 2) rfl rfl | exact hs.cell (k := 3) rfl rfl) (by first | exact hs.cell (k := 0) rfl rfl | exact hs.cell (k := 1) rfl rfl | exact hs.cell (k := 2) rfl rfl | exact hs.cell (k := 3) rfl rfl) (by first | exact hs.cell (k := 0) rfl rfl | exact hs.cell (k := 1) rfl rfl | exact hs.cell (k := 2) rfl rfl | exact hs.cell (k := 3) rfl rfl) ?_
            refine s_call Try.call61 rfl rfl (fValid_ok true ⟨s, h, tk, t + len⟩ none 0 0 w) ?_
            rintro r w ⟨hst, rfl⟩
            replace hs := hs.fwd1 hst
            clear hst
            refine s_assign rfl rfl ?_
            refine WL_nil ?_
            refine n_then ?_
            refine W_seq ?_
            refine W_seq ?_
            refine W_region ?_
            refine s_move rfl rfl ?_
            refine s_not rfl rfl ?_
            refine WL_nil ?_
            refine n_then ?_
            refine W_cond rfl (fun hc56 => ?_) (fun hc56 => ?_)
            · skip
              try simp only [decide_eq_true_eq, decide_eq_false_iff_not, Bool.not_eq_true', Bool.not_eq_false', bne_iff_ne, bne_eq_false_iff_eq, ne_eq, ge_iff_le, gt_iff_lt] at hc56
              refine W_seq ?_
              refine W_region ?_
              refine s_build rfl rfl (BD37_ ) ?_
              first
                | refine s_storeW Try.sizeOf37 rfl rfl rfl rfl hs (kk := 0) rfl rfl ?_
                | refine s_storeW Try.sizeOf37 rfl rfl rfl rfl hs (kk := 1) rfl rfl ?_
                | refine s_storeW Try.sizeOf37 rfl rfl rfl rfl hs (kk := 2) rfl rfl ?_
                | refine s_storeW Try.sizeOf37 rfl rfl rfl rfl hs (kk := 3) rfl rfl ?_
                | refine s_storeAB Try.sizeOf37 rfl rfl rfl rfl hs (kk := 0) rfl rfl ?_
                | refine s_storeAB Try.sizeOf37 rfl rfl rfl rfl hs (kk := 1) rfl rfl ?_
                | refine s_storeAB Try.sizeOf37 rfl rfl rfl rfl hs (kk := 2) rfl rfl ?_
                | refine s_storeAB Try.sizeOf37 rfl rfl rfl rfl hs (kk := 3) rfl rfl ?_
              clear hs; intro w hs; try simp only [List.set_cons_zero, List.set_cons_succ, splice, List.take_succ_cons, List.take_zero, List.drop_succ_cons, List.drop_zero, List.nil_append, List.cons_append, List.length_cons, List.length_nil, Nat.reduceAdd, List.append_assoc] at hs
              refine s_assign rfl rfl ?_
              refine WL_nil ?_
              refine n_then ?_
              refine W_ret ?_
              refine r_then ?_
              first
                | (exfalso; omega)
                | (refine end2 rfl (resOk_block Try.isAgg37 Try.sizeOf37 hs rfl (kk := 0) rfl rfl) rfl ?_
                   have hE : grantE (lf xs) s h t len = 1 := by rw [grantE, if_pos (by omega)]
                   exact ⟨_, hs.tail, hL.symm, false, zeroLz, by rw [hE]; rfl, fun h => by omega, fun _ => ⟨rfl, rfl⟩⟩)
                | (refine end2 rfl (resOk_block Try.isAgg37 Try.sizeOf37 hs rfl (kk := 1) rfl rfl) rfl ?_
                   refine ⟨_, hs.tail.tail, hL.symm, ?_⟩
                   first
                     | (have hE : grantE (lf xs) s h t len = 1 := by rw [grantE, if_neg (by omega), hgx, if_pos ‹_›]
                        exact ⟨false, zeroLz, by rw [hE]; rfl, fun h => by omega, fun _ => ⟨rfl, rfl⟩⟩)
                     | (have hE : grantE (lf xs) s h t len = 15 := by rw [grantE, if_neg (by omega), hgx, if_neg (by simpa using ‹validP true _ 0›), hf]; simp only; rw [if_pos ⟨by omega, ‹_›⟩]
                        exact ⟨false, zeroLz, by rw [hE]; rfl, fun h => by omega, fun _ => ⟨rfl, rfl⟩⟩)
                     | (have hE : grantE (lf xs) s h t len = 0 := by
                          rw [grantE, if_neg (by omega), hgx, if_neg (by simpa using ‹validP true _ 0›), hf]
                          first
                            | done
                            | (simp only; rw [if_neg (by omega)])
                        exact ⟨true, _, by rw [hE], fun _ => ⟨rfl, hgx.symm, ‹_›⟩, fun h => absurd hE h⟩))
            · skip
              try simp only [decide_eq_true_eq, decide_eq_false_iff_not, Bool.not_eq_true', Bool.not_eq_false', bne_iff_ne, bne_eq_false_iff_eq, ne_eq, ge_iff_le, gt_iff_lt] at hc56
              refine W_skip ?_
              refine n_then ?_
              refine W_seq ?_
              refine W_seq ?_
              refine W_region ?_
              refine s_move rfl rfl ?_
              refine s_geq rfl rfl rfl ?_
              refine s_move rfl rfl ?_
              refine WL_case (s := 60) rfl (fun hg60 => ?_) (fun hg60 => ?_)
              · skip
                try simp only [decide_eq_true_eq, decide_eq_false_iff_not, Bool.not_eq_true', Bool.not_eq_false', bne_iff_ne, bne_eq_false_iff_eq, ne_eq, ge_iff_le, gt_iff_lt] at hg60
                obtain ⟨j, y, rfl, hj, hf, hyr, hno⟩ : ∃ (j : Nat) (y : Lz), i = (j : Int) ∧ xs[j]? = some y ∧ lf xs s = some y ∧ y.rule = s ∧ ∀ (k : Nat) (z : Lz), k < j → xs[k]? = some z → z.rule ≠ s := by
                  rcases hF with ⟨h, _⟩ | h
                  · omega
                  · exact h
                have hjl : j < xs.length := (List.getElem?_eq_some_iff.1 hj).1
                obtain ⟨g, gc, sp, hgv, hgc, rfl⟩ := hO.block (by omega)
                cases hgv
                have cc : ∀ o u, o < 4 → y.cells[o]? = some u → (lcells xs ++ sp)[0 + (j : Int).toNat * 4 + o]? = some u := fun o u ho hu => flat_at' Lz.cells_length ho hj hu
                simp only [List.cons_append, List.nil_append] at hs
                refine WL_take rfl ?_
                refine s_move rfl rfl ?_
                refine WL_take rfl ?_
                refine s_move rfl rfl ?_
                refine WL_take rfl ?_
                refine s_nilCheck rfl rfl ?_
                refine WL_take rfl ?_
                refine s_fieldAddr rfl rfl (FA29_0 _ _) ?_
                refine WL_take rfl ?_
                first
                  | refine s_load Try.isAgg26 rfl rfl (hs.cell (k := 0) rfl rfl) ?_
                  | refine s_load Try.isAgg26 rfl rfl (hs.cell (k := 1) rfl rfl) ?_
                  | refine s_load Try.isAgg26 rfl rfl (hs.cell (k := 2) rfl rfl) ?_
                  | refine s_load Try.isAgg26 rfl rfl (hs.cell (k := 3) rfl rfl) ?_
                refine WL_take rfl ?_
                refine s_move rfl rfl ?_
                refine WL_take rfl ?_
                (refine s_indexAddr El26 rfl rfl rfl ?hx ?_; case hx => (constructor <;> first | omega | (simp; omega)))
                refine WL_take rfl ?_
                refine s_fieldAddr rfl rfl (FA34_3 _ _) ?_
                refine WL_take rfl ?_
                refine s_load Try.isAgg3 rfl rfl (hs.cell (k := 3) rfl (cc 3 _ (by omega) rfl)) ?_
                refine WL_take rfl ?_
                refine s_lss rfl rfl rfl ?_
                refine s_pick_t rfl rfl rfl ?_
                refine s_move rfl rfl ?_
                refine WL_case (s := 72) rfl (fun hg72 => ?_) (fun hg72 => ?_)
                · skip
                  try simp only [decide_eq_true_eq, decide_eq_false_iff_not, Bool.not_eq_true', Bool.not_eq_false', bne_iff_ne, bne_eq_false_iff_eq, ne_eq, ge_iff_le, gt_iff_lt] at hg72
                  refine WL_take rfl ?_
                  refine s_move rfl rfl ?_
                  refine WL_take rfl ?_
                  refine s_nilCheck rfl rfl ?_
                  refine WL_take rfl ?_
                  refine s_fieldAddr rfl rfl (FA29_0 _ _) ?_
                  refine WL_take rfl ?_
                  first
                    | refine s_load Try.isAgg26 rfl rfl (hs.cell (k := 0) rfl rfl) ?_
                    | refine s_load Try.isAgg26 rfl rfl (hs.cell (k := 1) rfl rfl) ?_
                    | refine s_load Try.isAgg26 rfl rfl (hs.cell (k := 2) rfl rfl) ?_
                    | refine s_load Try.isAgg26 rfl rfl (hs.cell (k := 3) rfl rfl) ?_
                  refine WL_take rfl ?_
                  refine s_move rfl rfl ?_
                  refine WL_take rfl ?_
                  (refine s_indexAddr El26 rfl rfl rfl ?hx ?_; case hx => (constructor <;> first | omega | (simp; omega)))
                  refine WL_take rfl ?_
                  refine s_fieldAddr rfl rfl (FA34_1 _ _) ?_
                  refine WL_take rfl ?_
                  refine s_load Try.isAgg3 rfl rfl (hs.cell (k := 3) rfl (cc 1 _ (by omega) rfl)) ?_
                  refine WL_take rfl ?_
                  refine s_move rfl rfl ?_
                  refine WL_take rfl ?_
                  refine s_neq rfl rfl rfl ?_
                  refine s_pick_t rfl rfl rfl ?_
                  refine WL_nil ?_
                  refine n_then ?_
                  refine W_cond rfl (fun hc83 => ?_) (fun hc83 => ?_)
                  · skip
                    try simp only [decide_eq_true_eq, decide_eq_false_iff_not, Bool.not_eq_true', Bool.not_eq_false', bne_iff_ne, bne_eq_false_iff_eq, ne_eq, ge_iff_le, gt_iff_lt] at hc83
                    refine W_seq ?_
                    refine W_region ?_
                    refine s_build rfl rfl (BD37_ ) ?_
                    first
                      | refine s_storeW Try.sizeOf37 rfl rfl rfl rfl hs (kk := 0) rfl rfl ?_
                      | refine s_storeW Try.sizeOf37 rfl rfl rfl rfl hs (kk := 1) rfl rfl ?_
                      | refine s_storeW Try.sizeOf37 rfl rfl rfl rfl hs (kk := 2) rfl rfl ?_
                      | refine s_storeW Try.sizeOf37 rfl rfl rfl rfl hs (kk := 3) rfl rfl ?_
                      | refine s_storeAB Try.sizeOf37 rfl rfl rfl rfl hs (kk := 0) rfl rfl ?_
                      | refine s_storeAB Try.sizeOf37 rfl rfl rfl rfl hs (kk := 1) rfl rfl ?_
                      | refine s_storeAB Try.sizeOf37 rfl rfl rfl rfl hs (kk := 2) rfl rfl ?_
                      | refine s_storeAB Try.sizeOf37 rfl rfl rfl rfl hs (kk := 3) rfl rfl ?_
                    clear hs; intro w hs; try simp only [List.set_cons_zero, List.set_cons_succ, splice, List.take_succ_cons, List.take_zero, List.drop_succ_cons, List.drop_zero, List.nil_append, List.cons_append, List.length_cons, List.length_nil, Nat.reduceAdd, List.append_assoc] at hs
                    refine s_assign rfl rfl ?_
                    refine WL_nil ?_
                    refine n_then ?_
                    refine W_ret ?_
                    refine r_then ?_
                    first
                      | (exfalso; omega)
                      | (refine end2 rfl (resOk_block Try.isAgg37 Try.sizeOf37 hs rfl (kk := 0) rfl rfl) rfl ?_
                         have hE : grantE (lf xs) s h t len = 1 := by rw [grantE, if_pos (by omega)]
                         exact ⟨_, hs.tail, hL.symm, false, zeroLz, by rw [hE]; rfl, fun h => by omega, fun _ => ⟨rfl, rfl⟩⟩)
                      | (refine end2 rfl (resOk_block Try.isAgg37 Try.sizeOf37 hs rfl (kk := 1) rfl rfl) rfl ?_
                         refine ⟨_, hs.tail.tail, hL.symm, ?_⟩
                         first
                           | (have hE : grantE (lf xs) s h t len = 1 := by rw [grantE, if_neg (by omega), hgx, if_pos ‹_›]
                              exact ⟨false, zeroLz, by rw [hE]; rfl, fun h => by omega, fun _ => ⟨rfl, rfl⟩⟩)
                           | (have hE : grantE (lf xs) s h t len = 15 := by rw [grantE, if_neg (by omega), hgx, if_neg (by simpa using ‹validP true _ 0›), hf]; simp only; rw [if_pos ⟨by omega, ‹_›⟩]
                              exact ⟨false, zeroLz, by rw [hE]; rfl, fun h => by omega, fun _ => ⟨rfl, rfl⟩⟩)
                           | (have hE : grantE (lf xs) s h t len = 0 := by
                                rw [grantE, if_neg (by omega), hgx, if_neg (by simpa using ‹validP true _ 0›), hf]
                                first
                                  | done
                                  | (simp only; rw [if_neg (by omega)])
                              exact ⟨true, _, by rw [hE], fun _ => ⟨rfl, hgx.symm, ‹_›⟩, fun h => absurd hE h⟩))
                  · skip
                    try simp only [decide_eq_true_eq, decide_eq_false_iff_not, Bool.not_eq_true', Bool.not_eq_false', bne_iff_ne, bne_eq_false_iff_eq, ne_eq, ge_iff_le, gt_iff_lt] at hc83
                    refine W_skip ?_
                    refine n_then ?_
                    refine W_seq ?_
                    refine W_region ?_
                    first
                      | refine s_loadW Try.isAgg37 Try.sizeOf37 rfl rfl hs (kk := 0) rfl rfl ?_
                      | refine s_loadW Try.isAgg37 Try.sizeOf37 rfl rfl hs (kk := 1) rfl rfl ?_
                      | refine s_loadW Try.isAgg37 Try.sizeOf37 rfl rfl hs (kk := 2) rfl rfl ?_
                      | refine s_loadW Try.isAgg37 Try.sizeOf37 rfl rfl hs (kk := 3) rfl rfl ?_
                      | refine s_load_6 Try.isAgg37 Try.sizeOf37 rfl rfl (by first | exact hs.cell (k := 0) rfl rfl | exact hs.cell (k := 1) rfl rfl | exact hs.cell (k := 2) rfl rfl | exact hs.cell (k := 3) rfl rfl) (by first | exact hs.cell (k := 0) rfl rfl | exact hs.cell (k := 1) rfl rfl | exact hs.cell (k := 2) rfl rfl | exact hs.cell (k := 3) rfl rfl) (by first | exact hs.cell (k := 0) rfl rfl | exact hs.cell (k := 1) rfl rfl | exact hs.cell (k := 2) rfl rfl | exact hs.cell (k := 3) rfl rfl) (by first | exact hs.cell (k := 0) rfl rfl | exact hs.cell (k := 1) rfl rfl | exact hs.cell (k := 2) rfl rfl | exact hs.cell (k := 3) rfl rfl) (by first | exact hs.cell (k := 0) rfl rfl | exact hs.cell (k := 1) rfl rfl | exact hs.cell (k := 2) rfl rfl | exact hs.cell (k := 3) rfl rfl) (by first | exact hs.cell (k := 0) rfl rfl | exact hs.cell (k := 1) rfl rfl | exact hs.cell (k := 2) rfl rfl | exact hs.cell (k := 3) rfl rfl) ?_
                    first
                      | refine s_storeW Try.sizeOf37 rfl rfl rfl rfl hs (kk := 0) rfl rfl ?_
                      | refine s_storeW Try.sizeOf37 rfl rfl rfl rfl hs (kk := 1) rfl rfl ?_
                      | refine s_storeW Try.sizeOf37 rfl rfl rfl rfl hs (kk := 2) rfl rfl ?_
                      | refine s_storeW Try.sizeOf37 rfl rfl rfl rfl hs (kk := 3) rfl rfl ?_
                      | refine s_storeAB Try.sizeOf37 rfl rfl rfl rfl hs (kk := 0) rfl rfl ?_
                      | refine s_storeAB Try.sizeOf37 rfl rfl rfl rfl hs (kk := 1) rfl rfl ?_
                      | refine s_storeAB Try.sizeOf37 rfl rfl rfl rfl hs (kk := 2) rfl rfl ?_
                      | refine s_storeAB Try.sizeOf37 rfl rfl rfl rfl hs (kk := 3) rfl rfl ?_
                    clear hs; intro w hs; try simp only [List.set_cons_zero, List.set_cons_succ, splice, List.take_succ_cons, List.take_zero, List.drop_succ_cons, List.drop_zero, List.nil_append, List.cons_append, List.length_cons, List.length_nil, Nat.reduceAdd, List.append_assoc] at hs
                    refine s_assign rfl rfl ?_
                    refine WL_nil ?_
                    refine n_then ?_
                    refine W_ret ?_
                    first
                      | (exfalso; omega)
                      | (refine end2 rfl (resOk_block Try.isAgg37 Try.sizeOf37 hs rfl (kk := 0) rfl rfl) rfl ?_
                         have hE : grantE (lf xs) s h t len = 1 := by rw [grantE, if_pos (by omega)]
                         exact ⟨_, hs.tail, hL.symm, false, zeroLz, by rw [hE]; rfl, fun h => by omega, fun _ => ⟨rfl, rfl⟩⟩)
                      | (refine end2 rfl (resOk_block Try.isAgg37 Try.sizeOf37 hs rfl (kk := 1) rfl rfl) rfl ?_
                         refine ⟨_, hs.tail.tail, hL.symm, ?_⟩
                         first
                           | (have hE : grantE (lf xs) s h t len = 1 := by rw [grantE, if_neg (by omega), hgx, if_pos ‹_›]
                              exact ⟨false, zeroLz, by rw [hE]; rfl, fun h => by omega, fun _ => ⟨rfl, rfl⟩⟩)
                           | (have hE : grantE (lf xs) s h t len = 15 := by rw [grantE, if_neg (by omega), hgx, if_neg (by simpa using ‹validP true _ 0›), hf]; simp only; rw [if_pos ⟨by omega, ‹_›⟩]
                              exact ⟨false, zeroLz, by rw [hE]; rfl, fun h => by omega, fun _ => ⟨rfl, rfl⟩⟩)
                           | (have hE : grantE (lf xs) s h t len = 0 := by
                                rw [grantE, if_neg (by omega), hgx, if_neg (by simpa using ‹validP true _ 0›), hf]
                                first
                                  | done
                                  | (simp only; rw [if_neg (by omega)])
                              exact ⟨true, _, by rw [hE], fun _ => ⟨rfl, hgx.symm, ‹_›⟩, fun h => absurd hE h⟩))
                · skip
                  try simp only [decide_eq_true_eq, decide_eq_false_iff_not, Bool.not_eq_true', Bool.not_eq_false', bne_iff_ne, bne_eq_false_iff_eq, ne_eq, ge_iff_le, gt_iff_lt] at hg72
                  refine WL_skip rfl rfl rfl ?_
                  refine WL_skip rfl rfl rfl ?_
                  refine WL_skip rfl rfl rfl ?_
                  refine WL_skip rfl rfl rfl ?_
                  refine WL_skip rfl rfl rfl ?_
                  refine WL_skip rfl rfl rfl ?_
                  refine WL_skip rfl rfl rfl ?_
                  refine WL_skip rfl rfl rfl ?_
                  refine WL_skip rfl rfl rfl ?_
                  refine WL_skip rfl rfl rfl ?_
                  refine s_pick_f rfl rfl rfl ?_
                  refine WL_nil ?_
                  refine n_then ?_
                  refine W_cond_f rfl ?_
                  refine W_skip ?_
                  refine n_then ?_
                  refine W_seq ?_
                  refine W_region ?_
                  first
                    | refine s_loadW Try.isAgg37 Try.sizeOf37 rfl rfl hs (kk := 0) rfl rfl ?_
                    | refine s_loadW Try.isAgg37 Try.sizeOf37 rfl rfl hs (kk := 1) rfl rfl ?_
                    | refine s_loadW Try.isAgg37 Try.sizeOf37 rfl rfl hs (kk := 2) rfl rfl ?_
                    | refine s_loadW Try.isAgg37 Try.sizeOf37 rfl rfl hs (kk := 3) rfl rfl ?_
                    | refine s_load_6 Try.isAgg37 Try.sizeOf37 rfl rfl (by first | exact hs.cell (k := 0) rfl rfl | exact hs.cell (k := 1) rfl rfl | exact hs.cell (k := 2) rfl rfl | exact hs.cell (k := 3) rfl rfl) (by first | exact hs.cell (k := 0) rfl rfl | exact hs.cell (k := 1) rfl rfl | exact hs.cell (k := 2) rfl rfl | exact hs.cell (k := 3) rfl rfl) (by first | exact hs.cell (k := 0) rfl rfl | exact hs.cell (k := 1) rfl rfl | exact hs.cell (k := 2) rfl rfl | exact hs.cell (k := 3) rfl rfl) (by first | exact hs.cell (k := 0) rfl rfl | exact hs.cell (k := 1) rfl rfl | exact hs.cell (k := 2) rfl rfl | exact hs.cell (k := 3) rfl rfl) (by first | exact hs.cell (k := 0) rfl rfl | exact hs.cell (k := 1) rfl rfl | exact hs.cell (k := 2) rfl rfl | exact hs.cell (k := 3) rfl rfl) (by first | exact hs.cell (k := 0) rfl rfl | exact hs.cell (k := 1) rfl rfl | exact hs.cell (k := 2) rfl rfl | exact hs.cell (k := 3) rfl rfl) ?_
                  first
                    | refine s_storeW Try.sizeOf37 rfl rfl rfl rfl hs (kk := 0) rfl rfl ?_
                    | refine s_storeW Try.sizeOf37 rfl rfl rfl rfl hs (kk := 1) rfl rfl ?_
                    | refine s_storeW Try.sizeOf37 rfl rfl rfl rfl hs (kk := 2) rfl rfl ?_
                    | refine s_storeW Try.sizeOf37 rfl rfl rfl rfl hs (kk := 3) rfl rfl ?_
                    | refine s_storeAB Try.sizeOf37 rfl rfl rfl rfl hs (kk := 0) rfl rfl ?_
                    | refine s_storeAB Try.sizeOf37 rfl rfl rfl rfl hs (kk := 1) rfl rfl ?_
                    | refine s_storeAB Try.sizeOf37 rfl rfl rfl rfl hs (kk := 2) rfl rfl ?_
                    | refine s_storeAB Try.sizeOf37 rfl rfl rfl rfl hs (kk := 3) rfl rfl ?_
                  clear hs; intro w hs; try simp only [List.set_cons_zero, List.set_cons_succ, splice, List.take_succ_cons, List.take_zero, List.drop_succ_cons, List.drop_zero, List.nil_append, List.cons_append, List.length_cons, List.length_nil, Nat.reduceAdd, List.append_assoc] at hs
                  refine s_assign rfl rfl ?_
                  refine WL_nil ?_
                  refine n_then ?_
                  refine W_ret ?_
                  first
                    | (exfalso; omega)
                    | (refine end2 rfl (resOk_block Try.isAgg37 Try.sizeOf37 hs rfl (kk := 0) rfl rfl) rfl ?_
                       have hE : grantE (lf xs) s h t len = 1 := by rw [grantE, if_pos (by omega)]
                       exact ⟨_, hs.tail, hL.symm, false, zeroLz, by rw [hE]; rfl, fun h => by omega, fun _ => ⟨rfl, rfl⟩⟩)
                    | (refine end2 rfl (resOk_block Try.isAgg37 Try.sizeOf37 hs rfl (kk := 1) rfl rfl) rfl ?_
                       refine ⟨_, hs.tail.tail, hL.symm, ?_⟩
                       first
                         | (have hE : grantE (lf xs) s h t len = 1 := by rw [grantE, if_neg (by omega), hgx, if_pos ‹_›]
                            exact ⟨false, zeroLz, by rw [hE]; rfl, fun h => by omega, fun _ => ⟨rfl, rfl⟩⟩)
                         | (have hE : grantE (lf xs) s h t len = 15 := by rw [grantE, if_neg (by omega), hgx, if_neg (by simpa using ‹validP true _ 0›), hf]; simp only; rw [if_pos ⟨by omega, ‹_›⟩]
                            exact ⟨false, zeroLz, by rw [hE]; rfl, fun h => by omega, fun _ => ⟨rfl, rfl⟩⟩)
                         | (have hE : grantE (lf xs) s h t len = 0 := by
                              rw [grantE, if_neg (by omega), hgx, if_neg (by simpa using ‹validP true _ 0›), hf]
                              first
                                | done
                                | (simp only; rw [if_neg (by omega)])
                            exact ⟨true, _, by rw [hE], fun _ => ⟨rfl, hgx.symm, ‹_›⟩, fun h => absurd hE h⟩))
              · skip
                try simp only [decide_eq_true_eq, decide_eq_false_iff_not, Bool.not_eq_true', Bool.not_eq_false', bne_iff_ne, bne_eq_false_iff_eq, ne_eq, ge_iff_le, gt_iff_lt] at hg60
                have hf : lf xs s = none := by
                  rcases hF with ⟨_, h⟩ | ⟨j, _, h, _⟩
                  · exact h
                  · omega
                refine WL_skip rfl rfl rfl ?_
                refine WL_skip rfl rfl rfl ?_
                refine WL_skip rfl rfl rfl ?_
                refine WL_skip rfl rfl rfl ?_
                refine WL_skip rfl rfl rfl ?_
                refine WL_skip rfl rfl rfl ?_
                refine WL_skip rfl rfl rfl ?_
                refine WL_skip rfl rfl rfl ?_
                refine WL_skip rfl rfl rfl ?_
                refine WL_skip rfl rfl rfl ?_
                refine s_pick_f rfl rfl rfl ?_
                refine s_move rfl rfl ?_
                refine WL_skip rfl rfl rfl ?_
                refine WL_skip rfl rfl rfl ?_
                refine WL_skip rfl rfl rfl ?_
                refine WL_skip rfl rfl rfl ?_
                refine WL_skip rfl rfl rfl ?_
                refine WL_skip rfl rfl rfl ?_
                refine WL_skip rfl rfl rfl ?_
                refine WL_skip rfl rfl rfl ?_
                refine WL_skip rfl rfl rfl ?_
                refine WL_skip rfl rfl rfl ?_
                refine s_pick_f rfl rfl rfl ?_
                refine WL_nil ?_
                refine n_then ?_
                refine W_cond_f rfl ?_
                refine W_skip ?_
                refine n_then ?_
                refine W_seq ?_
                refine W_region ?_
                first
                  | refine s_loadW Try.isAgg37 Try.sizeOf37 rfl rfl hs (kk := 0) rfl rfl ?_
                  | refine s_loadW Try.isAgg37 Try.sizeOf37 rfl rfl hs (kk := 1) rfl rfl ?_
                  | refine s_loadW Try.isAgg37 Try.sizeOf37 rfl rfl hs (kk := 2) rfl rfl ?_
                  | refine s_loadW Try.isAgg37 Try.sizeOf37 rfl rfl hs (kk := 3) rfl rfl ?_
                  | refine s_load_6 Try.isAgg37 Try.sizeOf37 rfl rfl (by first | exact hs.cell (k := 0) rfl rfl | exact hs.cell (k := 1) rfl rfl | exact hs.cell (k := 2) rfl rfl | exact hs.cell (k := 3) rfl rfl) (by first | exact hs.cell (k := 0) rfl rfl | exact hs.cell (k := 1) rfl rfl | exact hs.cell (k := 2) rfl rfl | exact hs.cell (k := 3) rfl rfl) (by first | exact hs.cell (k := 0) rfl rfl | exact hs.cell (k := 1) rfl rfl | exact hs.cell (k := 2) rfl rfl | exact hs.cell (k := 3) rfl rfl) (by first | exact hs.cell (k := 0) rfl rfl | exact hs.cell (k := 1) rfl rfl | exact hs.cell (k := 2) rfl rfl | exact hs.cell (k := 3) rfl rfl) (by first | exact hs.cell (k := 0) rfl rfl | exact hs.cell (k := 1) rfl rfl | exact hs.cell (k := 2) rfl rfl | exact hs.cell (k := 3) rfl rfl) (by first | exact hs.cell (k := 0) rfl rfl | exact hs.cell (k := 1) rfl rfl | exact hs.cell (k := 2) rfl rfl | exact hs.cell (k := 3) rfl rfl) ?_
                first
                  | refine s_storeW Try.sizeOf37 rfl rfl rfl rfl hs (kk := 0) rfl rfl ?_
                  | refine s_storeW Try.sizeOf37 rfl rfl rfl rfl hs (kk := 1) rfl rfl ?_
                  | refine s_storeW Try.sizeOf37 rfl rfl rfl rfl hs (kk := 2) rfl rfl ?_
                  | refine s_storeW Try.sizeOf37 rfl rfl rfl rfl hs (kk := 3) rfl rfl ?_
                  | refine s_storeAB Try.sizeOf37 rfl rfl rfl rfl hs (kk := 0) rfl rfl ?_
                  | refine s_storeAB Try.sizeOf37 rfl rfl rfl rfl hs (kk := 1) rfl rfl ?_
                  | refine s_storeAB Try.sizeOf37 rfl rfl rfl rfl hs (kk := 2) rfl rfl ?_
                  | refine s_storeAB Try.sizeOf37 rfl rfl rfl rfl hs (kk := 3) rfl rfl ?_
                clear hs; intro w hs; try simp only [List.set_cons_zero, List.set_cons_succ, splice, List.take_succ_cons, List.take_zero, List.drop_succ_cons, List.drop_zero, List.nil_append, List.cons_append, List.length_cons, List.length_nil, Nat.reduceAdd, List.append_assoc] at hs
                refine s_assign rfl rfl ?_
                refine WL_nil ?_
                refine n_then ?_
                refine W_ret ?_
                first
                  | (exfalso; omega)
                  | (refine end2 rfl (resOk_block Try.isAgg37 Try.sizeOf37 hs rfl (kk := 0) rfl rfl) rfl ?_
                     have hE : grantE (lf xs) s h t len = 1 := by rw [grantE, if_pos (by omega)]
                     exact ⟨_, hs.tail, hL.symm, false, zeroLz, by rw [hE]; rfl, fun h => by omega, fun _ => ⟨rfl, rfl⟩⟩)
                  | (refine end2 rfl (resOk_block Try.isAgg37 Try.sizeOf37 hs rfl (kk := 1) rfl rfl) rfl ?_
                     refine ⟨_, hs.tail.tail, hL.symm, ?_⟩
                     first
                       | (have hE : grantE (lf xs) s h t len = 1 := by rw [grantE, if_neg (by omega), hgx, if_pos ‹_›]
                          exact ⟨false, zeroLz, by rw [hE]; rfl, fun h => by omega, fun _ => ⟨rfl, rfl⟩⟩)
                       | (have hE : grantE (lf xs) s h t len = 15 := by rw [grantE, if_neg (by omega), hgx, if_neg (by simpa using ‹validP true _ 0›), hf]; simp only; rw [if_pos ⟨by omega, ‹_›⟩]
                          exact ⟨false, zeroLz, by rw [hE]; rfl, fun h => by omega, fun _ => ⟨rfl, rfl⟩⟩)
                       | (have hE : grantE (lf xs) s h t len = 0 := by
                            rw [grantE, if_neg (by omega), hgx, if_neg (by simpa using ‹validP true _ 0›), hf]
                            first
                              | done
                              | (simp only; rw [if_neg (by omega)])
                          exact ⟨true, _, by rw [hE], fun _ => ⟨rfl, hgx.symm, ‹_›⟩, fun h => absurd hE h⟩))
theorem own_cells {e size n c g : Nat} {cs cs' sp : List Value} (h : OwnS e size (.slice (some ⟨g, 0, none⟩) n c) n cs [(g, Blk e (cs ++ sp))]) (hn : 0 < n) (hl : cs'.length = cs.length) : OwnS e size (.slice (some ⟨g, 0, none⟩) n c) n cs' [(g, Blk e (cs' ++ sp))] := by
  obtain ⟨h1, h2⟩ := h
  rcases h2 with ⟨_, h2, _⟩ | ⟨g', cap, sp', h2, h3, h4, h5, h6⟩
  · omega
  · cases h2
    simp only [List.cons.injEq, Prod.mk.injEq, and_true, true_and] at h6
    have h7 : sp = sp' := by injection h6 with h6; simpa using h6
    subst h7
    exact ⟨by rw [hl, h1], .inr ⟨_, _, sp, rfl, h3, h4, by rw [List.length_append, hl, ← List.length_append, h5], rfl⟩⟩
theorem rblks_snoc (a : List RCmd) (c : RCmd) : rblks (a ++ [c]) = rblks a ++ c.L := by simp [rblks]
theorem rds_more {v : Value} {n : Nat} {cs : List Value} {L : Hp} (h : RdS v n cs L) (A B : Hp) : RdS v n cs (A ++ (L ++ B)) :=
  ⟨fun w hw => h.sl w fun q hq => hw q (by simp [hq]), fun a m c he hne => by
    have := h.inL a m c he hne
    rw [ids_append, ids_append]; simp [this]⟩
set_option maxHeartbeats 4000000 in
theorem fApply_ok (p : Nat) (f : ByteArray → Option Lz) (ks : List RCmd) (m : Nat) (g : Bool) (x : Lz) (v : Value) (bs : List Int) (t : Int) (LT Lv : Hp) (w0 : World) (hT : RTab p f ks m LT) (hv : RdS v bs.length (u8s bs) Lv) (hs : St (ids (LT ++ Lv)) w0 w0 (LT ++ Lv)) (hm1 : m + 1 ≤ 1000000) :
    Ret Try.prog 22 [.pointer (some ⟨p, 0, none⟩), .agg #[.bool g, .string x.rule, .int .i64 x.holder, .int .i64 x.token, .int .i64 x.til, v], .int .i64 t].toArray w0 fun r w' => ∃ L', St (ids (LT ++ Lv)) w0 w' L' ∧
      r = .int .i64 (applyE f g x bs.length t) ∧ ∃ ks', RTab p (applyF f g x bs.length t) ks' (m + 1) L' ∧ (¬ (applyE f g x bs.length t = 0 ∧ g = false) → ks' = ks) ∧ (applyE f g x bs.length t = 0 ∧ g = false → ∃ c : RCmd, c.bs = bs ∧ ks' = ks ++ [c]) := by
  obtain ⟨_, vc, va, rfl, rfl⟩ := hv.form w0 (fun q hq => hs.own q (by simp [hq]))
  obtain ⟨xs, lv, cv, Ll, Lc, hL, rfl, hO, hO2, hC, hxm, hkm, hmm⟩ := hT
  obtain ⟨_, lc, la, rfl, rfl⟩ := hO.form
  obtain ⟨_, kc, ka, rfl, rfl⟩ := hO2.form
  generalize hF0 : ids (LT ++ Lv) = F0 at *
  replace hs : St F0 w0 w0 ((p, Blk 29 [.slice la xs.length lc, .slice ka ks.length kc]) :: (Ll ++ (Lc ++ (rblks ks ++ Lv)))) := by rw [hL] at hs; simpa using hs
  have fin : ∀ {N : Int} {w : World} {F0 : List Nat}, applyE (lf xs) g x bs.length t = N → N ≠ 0 → St F0 w0 w ((p, Blk 29 [.slice la xs.length lc, .slice ka ks.length kc]) :: (Ll ++ (Lc ++ (rblks ks ++ Lv)))) → ∃ L', St F0 w0 w L' ∧ Value.int .i64 N = .int .i64 (applyE (lf xs) g x bs.length t) ∧ ∃ ks', RTab p (applyF (lf xs) g x bs.length t) ks' (m + 1) L' ∧ (¬ (applyE (lf xs) g x bs.length t = 0 ∧ g = false) → ks' = ks) ∧ (applyE (lf xs) g x bs.length t = 0 ∧ g = false → ∃ c : RCmd, c.bs = bs ∧ ks' = ks ++ [c]) := by
    intro N w F0 hE hN hs
    refine ⟨_, St.left (L := (p, Blk 29 [.slice la xs.length lc, .slice ka ks.length kc]) :: (Ll ++ (Lc ++ rblks ks))) (M := Lv) (by simpa using hs), by rw [hE], ks, ?_, fun _ => rfl, fun h => absurd (hE.symm.trans h.1) hN⟩
    rw [applyF, if_neg (by rw [hE]; exact fun h => hN h.1)]
    exact ⟨xs, _, _, Ll, Lc, rfl, rfl, hO, hO2, hC, by omega, by omega, by omega⟩
  refine Ret_startL hs fun w hs => ?_
  refine Ret_of Try.func22 rfl Try.ntmps22 rfl ?_
  refine W_seq ?_
  refine W_region ?_
  first | refine s_box rfl rfl hs ?_ | refine s_box1 rfl rfl rfl hs ?_
  clear hs; intro b4 w hs
  refine s_assign rfl rfl ?_
  refine WL_nil ?_
  refine n_then ?_
  refine W_seq ?_
  refine W_region ?_
  first
    | refine s_loadW Try.isAgg37 Try.sizeOf37 rfl rfl hs (kk := 0) rfl rfl ?_
    | refine s_loadW Try.isAgg37 Try.sizeOf37 rfl rfl hs (kk := 1) rfl rfl ?_
    | refine s_loadW Try.isAgg37 Try.sizeOf37 rfl rfl hs (kk := 2) rfl rfl ?_
    | refine s_loadW Try.isAgg37 Try.sizeOf37 rfl rfl hs (kk := 3) rfl rfl ?_
    | refine s_load_6 Try.isAgg37 Try.sizeOf37 rfl rfl (by first | exact hs.cell (k := 0) rfl rfl | exact hs.cell (k := 1) rfl rfl | exact hs.cell (k := 2) rfl rfl | exact hs.cell (k := 3) rfl rfl) (by first | exact hs.cell (k := 0) rfl rfl | exact hs.cell (k := 1) rfl rfl | exact hs.cell (k := 2) rfl rfl | exact hs.cell (k := 3) rfl rfl) (by first | exact hs.cell (k := 0) rfl rfl | exact hs.cell (k := 1) rfl rfl | exact hs.cell (k := 2) rfl rfl | exact hs.cell (k := 3) rfl rfl) (by first | exact hs.cell (k := 0) rfl rfl | exact hs.cell (k := 1) rfl rfl | exact hs.cell (k := 2) rfl rfl | exact hs.cell (k := 3) rfl rfl) (by first | exact hs.cell (k := 0) rfl rfl | exact hs.cell (k := 1) rfl rfl | exact hs.cell (k := 2) rfl rfl | exact hs.cell (k := 3) rfl rfl) (by first | exact hs.cell (k := 0) rfl rfl | exact hs.cell (k := 1) rfl rfl | exact hs.cell (k := 2) rfl rfl | exact hs.cell (k := 3) rfl rfl) ?_
  refine s_call Try.call61 rfl rfl (fValid_ok g x va bs.length vc w) ?_
  rintro r w ⟨hst, rfl⟩
  replace hs := hs.fwd1 hst
  clear hst
  refine s_assign rfl rfl ?_
  refine WL_nil ?_
  refine n_then ?_
  refine W_seq ?_
  refine W_seq ?_
  refine W_region ?_
  refine s_move rfl rfl ?_
  refine s_not rfl rfl ?_
  refine s_move rfl rfl ?_
  refine WL_case (s := 14) rfl (fun hg14 => ?_) (fun hg14 => ?_)
  · skip
    try simp only [decide_eq_true_eq, decide_eq_false_iff_not, Bool.not_eq_true', Bool.not_eq_false', bne_iff_ne, bne_eq_false_iff_eq, ne_eq, ge_iff_le, gt_iff_lt, Bool.not_eq_true, Bool.not_eq_false] at hg14
    refine WL_skip rfl rfl rfl ?_
    refine WL_skip rfl rfl rfl ?_
    refine s_pick_t rfl rfl rfl ?_
    refine s_move rfl rfl ?_
    refine WL_skip rfl rfl rfl ?_
    refine WL_skip rfl rfl rfl ?_
    refine s_pick_t rfl rfl rfl ?_
    refine WL_nil ?_
    refine n_then ?_
    refine W_cond_t rfl ?_
    refine W_seq ?_
    refine W_region ?_
    refine s_assign rfl rfl ?_
    refine WL_nil ?_
    refine n_then ?_
    refine W_ret ?_
    refine r_then ?_
    first
      | exact end1 rfl rfl (fin (applyE_bad (.inl ‹_›)) (by decide) hs.tail)
      | exact end1 rfl rfl (fin (applyE_bad (.inr (by omega))) (by decide) hs.tail)
      | exact end1 rfl rfl (fin (applyE_g1 hval htk ‹_› ‹_›) (by decide) hs.tail)
      | exact end1 rfl rfl (fin (applyE_c15n hval htk ‹_› hf) (by decide) hs.tail)
      | exact end1 rfl rfl (fin (applyE_g15 hval htk ‹_› ‹_› hf (by omega)) (by decide) hs.tail.tail)
      | exact end1 rfl rfl (fin (applyE_c15 hval htk ‹_› hf (by rintro ⟨rfl, h⟩; first | omega | simp_all)) (by decide) hs.tail)
      | (have hE := applyE_g0n (f := lf xs) hval htk hc28 hc33 hf
         refine end1 rfl rfl ⟨_, St.left (L := (p, Blk 29 [.slice ta' (xs.length + 1) tc', .slice ka ks.length kc]) :: (Lt' ++ (Lc ++ rblks ks))) (M := Lv) (by simpa using hs.tail.tail), by rw [hE], ks, ?_, fun _ => rfl, fun h => absurd h.2 (by simp [hc28])⟩
         rw [applyF, if_pos ⟨hE, hc28⟩]
         exact ⟨xs ++ [x], _, _, Lt', Lc, rfl, (lf_push x hf).symm, by simpa [lcells, Lz.cells] using hO', hO2, hC, by simp; omega, by omega, by omega⟩)
      | (have hE := applyE_g0 (f := lf xs) hval htk hc28 hc33 hf (by omega)
         refine end1 rfl rfl ⟨_, St.left (L := (p, Blk 29 [.slice (some ⟨gb, 0, none⟩) xs.length _, .slice ka ks.length kc]) :: (gb, Blk 34 (lcells (xs.set j x) ++ sp)) :: (Lc ++ rblks ks)) (M := Lv) (by simpa using hs.tail.tail), by rw [hE], ks, ?_, fun _ => rfl, fun h => absurd h.2 (by simp [hc28])⟩
         rw [applyF, if_pos ⟨hE, hc28⟩]
         refine ⟨xs.set j x, _, _, [_], Lc, rfl, (lf_set hj hyr hno).symm, ?_, hO2, hC, by simp; omega, by omega, by omega⟩
         rw [List.length_set]
         exact own_cells hO (by omega) (by rw [flat_length Lz.cells_length, flat_length Lz.cells_length, List.length_set]))
      | (have hyx : y = x := by cases x; cases y; simp_all
         have hE := applyE_c0 (f := lf xs) hval htk hc28 hf ⟨hyx, by rw [hyx]; omega⟩
         refine end1 rfl rfl ⟨_, hs.tail.tail, by rw [hE], ks ++ [⟨.slice va bs.length vc, bs, Lv⟩], ?_, fun h => absurd ⟨hE, hc28⟩ h, fun _ => ⟨_, rfl, rfl⟩⟩
         rw [applyF, if_neg (by simp [hc28])]
         refine ⟨xs, _, _, [_], Lt', by rw [rblks_snoc]; rfl, rfl, hO, by simpa [rvals] using hO', ?_, by omega, by simp; omega, by omega⟩
         intro d hd'; rcases List.mem_append.1 hd' with h | h
         · exact hC d h
         · simp at h; subst h; exact ⟨hv, hval.2.2.2.2.1⟩)
  · skip
    try simp only [decide_eq_true_eq, decide_eq_false_iff_not, Bool.not_eq_true', Bool.not_eq_false', bne_iff_ne, bne_eq_false_iff_eq, ne_eq, ge_iff_le, gt_iff_lt, Bool.not_eq_true, Bool.not_eq_false] at hg14
    refine WL_take rfl ?_
    refine s_move rfl rfl ?_
    refine WL_take rfl ?_
    refine s_lss rfl rfl rfl ?_
    refine s_pick_f rfl rfl rfl ?_
    refine s_move rfl rfl ?_
    refine WL_case (s := 18) rfl (fun hg18 => ?_) (fun hg18 => ?_)
    · skip
      try simp only [decide_eq_true_eq, decide_eq_false_iff_not, Bool.not_eq_true', Bool.not_eq_false', bne_iff_ne, bne_eq_false_iff_eq, ne_eq, ge_iff_le, gt_iff_lt, Bool.not_eq_true, Bool.not_eq_false] at hg18
      refine WL_skip rfl rfl rfl ?_
      refine WL_skip rfl rfl rfl ?_
      refine s_pick_t rfl rfl rfl ?_
      refine WL_nil ?_
      refine n_then ?_
      refine W_cond_t rfl ?_
      refine W_seq ?_
      refine W_region ?_
      refine s_assign rfl rfl ?_
      refine WL_nil ?_
      refine n_then ?_
      refine W_ret ?_
      refine r_then ?_
      first
        | exact end1 rfl rfl (fin (applyE_bad (.inl ‹_›)) (by decide) hs.tail)
        | exact end1 rfl rfl (fin (applyE_bad (.inr (by omega))) (by decide) hs.tail)
        | exact end1 rfl rfl (fin (applyE_g1 hval htk ‹_› ‹_›) (by decide) hs.tail)
        | exact end1 rfl rfl (fin (applyE_c15n hval htk ‹_› hf) (by decide) hs.tail)
        | exact end1 rfl rfl (fin (applyE_g15 hval htk ‹_› ‹_› hf (by omega)) (by decide) hs.tail.tail)
        | exact end1 rfl rfl (fin (applyE_c15 hval htk ‹_› hf (by rintro ⟨rfl, h⟩; first | omega | simp_all)) (by decide) hs.tail)
        | (have hE := applyE_g0n (f := lf xs) hval htk hc28 hc33 hf
           refine end1 rfl rfl ⟨_, St.left (L := (p, Blk 29 [.slice ta' (xs.length + 1) tc', .slice ka ks.length kc]) :: (Lt' ++ (Lc ++ rblks ks))) (M := Lv) (by simpa using hs.tail.tail), by rw [hE], ks, ?_, fun _ => rfl, fun h => absurd h.2 (by simp [hc28])⟩
           rw [applyF, if_pos ⟨hE, hc28⟩]
           exact ⟨xs ++ [x], _, _, Lt', Lc, rfl, (lf_push x hf).symm, by simpa [lcells, Lz.cells] using hO', hO2, hC, by simp; omega, by omega, by omega⟩)
        | (have hE := applyE_g0 (f := lf xs) hval htk hc28 hc33 hf (by omega)
           refine end1 rfl rfl ⟨_, St.left (L := (p, Blk 29 [.slice (some ⟨gb, 0, none⟩) xs.length _, .slice ka ks.length kc]) :: (gb, Blk 34 (lcells (xs.set j x) ++ sp)) :: (Lc ++ rblks ks)) (M := Lv) (by simpa using hs.tail.tail), by rw [hE], ks, ?_, fun _ => rfl, fun h => absurd h.2 (by simp [hc28])⟩
           rw [applyF, if_pos ⟨hE, hc28⟩]
           refine ⟨xs.set j x, _, _, [_], Lc, rfl, (lf_set hj hyr hno).symm, ?_, hO2, hC, by simp; omega, by omega, by omega⟩
           rw [List.length_set]
           exact own_cells hO (by omega) (by rw [flat_length Lz.cells_length, flat_length Lz.cells_length, List.length_set]))
        | (have hyx : y = x := by cases x; cases y; simp_all
           have hE := applyE_c0 (f := lf xs) hval htk hc28 hf ⟨hyx, by rw [hyx]; omega⟩
           refine end1 rfl rfl ⟨_, hs.tail.tail, by rw [hE], ks ++ [⟨.slice va bs.length vc, bs, Lv⟩], ?_, fun h => absurd ⟨hE, hc28⟩ h, fun _ => ⟨_, rfl, rfl⟩⟩
           rw [applyF, if_neg (by simp [hc28])]
           refine ⟨xs, _, _, [_], Lt', by rw [rblks_snoc]; rfl, rfl, hO, by simpa [rvals] using hO', ?_, by omega, by simp; omega, by omega⟩
           intro d hd'; rcases List.mem_append.1 hd' with h | h
           · exact hC d h
           · simp at h; subst h; exact ⟨hv, hval.2.2.2.2.1⟩)
    · skip
      try simp only [decide_eq_true_eq, decide_eq_false_iff_not, Bool.not_eq_true', Bool.not_eq_false', bne_iff_ne, bne_eq_false_iff_eq, ne_eq, ge_iff_le, gt_iff_lt, Bool.not_eq_true, Bool.not_eq_false] at hg18
      refine WL_take rfl ?_
      refine s_move rfl rfl ?_
      refine WL_take rfl ?_
      refine s_gtr rfl rfl rfl ?_
      refine s_pick_f rfl rfl rfl ?_
      refine WL_nil ?_
      refine n_then ?_
      refine W_cond rfl (fun hc21 => ?_) (fun hc21 => ?_)
      · skip
        try simp only [decide_eq_true_eq, decide_eq_false_iff_not, Bool.not_eq_true', Bool.not_eq_false', bne_iff_ne, bne_eq_false_iff_eq, ne_eq, ge_iff_le, gt_iff_lt, Bool.not_eq_true, Bool.not_eq_false] at hc21
        refine W_seq ?_
        refine W_region ?_
        refine s_assign rfl rfl ?_
        refine WL_nil ?_
        refine n_then ?_
        refine W_ret ?_
        refine r_then ?_
        first
          | exact end1 rfl rfl (fin (applyE_bad (.inl ‹_›)) (by decide) hs.tail)
          | exact end1 rfl rfl (fin (applyE_bad (.inr (by omega))) (by decide) hs.tail)
          | exact end1 rfl rfl (fin (applyE_g1 hval htk ‹_› ‹_›) (by decide) hs.tail)
          | exact end1 rfl rfl (fin (applyE_c15n hval htk ‹_› hf) (by decide) hs.tail)
          | exact end1 rfl rfl (fin (applyE_g15 hval htk ‹_› ‹_› hf (by omega)) (by decide) hs.tail.tail)
          | exact end1 rfl rfl (fin (applyE_c15 hval htk ‹_› hf (by rintro ⟨rfl, h⟩; first | omega | simp_all)) (by decide) hs.tail)
          | (have hE := applyE_g0n (f := lf xs) hval htk hc28 hc33 hf
             refine end1 rfl rfl ⟨_, St.left (L := (p, Blk 29 [.slice ta' (xs.length + 1) tc', .slice ka ks.length kc]) :: (Lt' ++ (Lc ++ rblks ks))) (M := Lv) (by simpa using hs.tail.tail), by rw [hE], ks, ?_, fun _ => rfl, fun h => absurd h.2 (by simp [hc28])⟩
             rw [applyF, if_pos ⟨hE, hc28⟩]
             exact ⟨xs ++ [x], _, _, Lt', Lc, rfl, (lf_push x hf).symm, by simpa [lcells, Lz.cells] using hO', hO2, hC, by simp; omega, by omega, by omega⟩)
          | (have hE := applyE_g0 (f := lf xs) hval htk hc28 hc33 hf (by omega)
             refine end1 rfl rfl ⟨_, St.left (L := (p, Blk 29 [.slice (some ⟨gb, 0, none⟩) xs.length _, .slice ka ks.length kc]) :: (gb, Blk 34 (lcells (xs.set j x) ++ sp)) :: (Lc ++ rblks ks)) (M := Lv) (by simpa using hs.tail.tail), by rw [hE], ks, ?_, fun _ => rfl, fun h => absurd h.2 (by simp [hc28])⟩
             rw [applyF, if_pos ⟨hE, hc28⟩]
             refine ⟨xs.set j x, _, _, [_], Lc, rfl, (lf_set hj hyr hno).symm, ?_, hO2, hC, by simp; omega, by omega, by omega⟩
             rw [List.length_set]
             exact own_cells hO (by omega) (by rw [flat_length Lz.cells_length, flat_length Lz.cells_length, List.length_set]))
          | (have hyx : y = x := by cases x; cases y; simp_all
             have hE := applyE_c0 (f := lf xs) hval htk hc28 hf ⟨hyx, by rw [hyx]; omega⟩
             refine end1 rfl rfl ⟨_, hs.tail.tail, by rw [hE], ks ++ [⟨.slice va bs.length vc, bs, Lv⟩], ?_, fun h => absurd ⟨hE, hc28⟩ h, fun _ => ⟨_, rfl, rfl⟩⟩
             rw [applyF, if_neg (by simp [hc28])]
             refine ⟨xs, _, _, [_], Lt', by rw [rblks_snoc]; rfl, rfl, hO, by simpa [rvals] using hO', ?_, by omega, by simp; omega, by omega⟩
             intro d hd'; rcases List.mem_append.1 hd' with h | h
             · exact hC d h
             · simp at h; subst h; exact ⟨hv, hval.2.2.2.2.1⟩)
      · skip
        try simp only [decide_eq_true_eq, decide_eq_false_iff_not, Bool.not_eq_true', Bool.not_eq_false', bne_iff_ne, bne_eq_false_iff_eq, ne_eq, ge_iff_le, gt_iff_lt, Bool.not_eq_true, Bool.not_eq_false] at hc21
        refine W_skip ?_
        refine n_then ?_
        refine W_seq ?_
        refine W_region ?_
        refine s_move rfl rfl ?_
        refine s_fieldAddr rfl rfl (FA37_1 _ _) ?_
        refine s_fieldAddr rfl rfl (FA34_0 _ _) ?_
        first
          | refine s_load Try.isAgg9 rfl rfl (hs.cell (k := 0) rfl rfl) ?_
          | refine s_load Try.isAgg9 rfl rfl (hs.cell (k := 1) rfl rfl) ?_
          | refine s_load Try.isAgg9 rfl rfl (hs.cell (k := 2) rfl rfl) ?_
          | refine s_load Try.isAgg9 rfl rfl (hs.cell (k := 3) rfl rfl) ?_
        refine s_callL (M := [_]) (L1 := (p, Blk 29 [.slice la xs.length lc, .slice ka ks.length kc]) :: Ll) (X := Lc ++ (rblks ks ++ Lv)) Try.call60 rfl rfl hs (fun h => find_ok p xs _ _ Ll x.rule _ w rfl hO h (by omega)) ?_
        clear hs; rintro v w L9 ⟨hL9, i, rfl, hF⟩ - hs
        rw [hL9] at hs; clear hL9 L9
        simp only [List.cons_append, List.nil_append] at hs
        have hval : validP g x bs.length := by simpa using ‹_›
        have htk : 0 ≤ t ∧ t ≤ 1048576 := by omega
        refine s_assign rfl rfl ?_
        refine WL_nil ?_
        refine n_then ?_
        refine W_seq ?_
        refine W_seq ?_
        refine W_region ?_
        refine s_fieldAddr rfl rfl (FA37_0 _ _) ?_
        first
          | refine s_load Try.isAgg4 rfl rfl (hs.cell (k := 0) rfl rfl) ?_
          | refine s_load Try.isAgg4 rfl rfl (hs.cell (k := 1) rfl rfl) ?_
          | refine s_load Try.isAgg4 rfl rfl (hs.cell (k := 2) rfl rfl) ?_
          | refine s_load Try.isAgg4 rfl rfl (hs.cell (k := 3) rfl rfl) ?_
        refine WL_nil ?_
        refine n_then ?_
        refine W_cond rfl (fun hc28 => ?_) (fun hc28 => ?_)
        · skip
          try simp only [decide_eq_true_eq, decide_eq_false_iff_not, Bool.not_eq_true', Bool.not_eq_false', bne_iff_ne, bne_eq_false_iff_eq, ne_eq, ge_iff_le, gt_iff_lt, Bool.not_eq_true, Bool.not_eq_false] at hc28
          refine W_seq ?_
          refine W_seq ?_
          refine W_region ?_
          refine s_move rfl rfl ?_
          refine s_fieldAddr rfl rfl (FA37_1 _ _) ?_
          refine s_fieldAddr rfl rfl (FA34_3 _ _) ?_
          first
            | refine s_load Try.isAgg3 rfl rfl (hs.cell (k := 0) rfl rfl) ?_
            | refine s_load Try.isAgg3 rfl rfl (hs.cell (k := 1) rfl rfl) ?_
            | refine s_load Try.isAgg3 rfl rfl (hs.cell (k := 2) rfl rfl) ?_
            | refine s_load Try.isAgg3 rfl rfl (hs.cell (k := 3) rfl rfl) ?_
          refine s_geq rfl rfl rfl ?_
          refine WL_nil ?_
          refine n_then ?_
          refine W_cond rfl (fun hc33 => ?_) (fun hc33 => ?_)
          · skip
            try simp only [decide_eq_true_eq, decide_eq_false_iff_not, Bool.not_eq_true', Bool.not_eq_false', bne_iff_ne, bne_eq_false_iff_eq, ne_eq, ge_iff_le, gt_iff_lt, Bool.not_eq_true, Bool.not_eq_false] at hc33
            refine W_seq ?_
            refine W_region ?_
            refine s_assign rfl rfl ?_
            refine WL_nil ?_
            refine n_then ?_
            refine W_ret ?_
            refine r_then ?_
            refine r_then ?_
            first
              | exact end1 rfl rfl (fin (applyE_bad (.inl ‹_›)) (by decide) hs.tail)
              | exact end1 rfl rfl (fin (applyE_bad (.inr (by omega))) (by decide) hs.tail)
              | exact end1 rfl rfl (fin (applyE_g1 hval htk ‹_› ‹_›) (by decide) hs.tail)
              | exact end1 rfl rfl (fin (applyE_c15n hval htk ‹_› hf) (by decide) hs.tail)
              | exact end1 rfl rfl (fin (applyE_g15 hval htk ‹_› ‹_› hf (by omega)) (by decide) hs.tail.tail)
              | exact end1 rfl rfl (fin (applyE_c15 hval htk ‹_› hf (by rintro ⟨rfl, h⟩; first | omega | simp_all)) (by decide) hs.tail)
              | (have hE := applyE_g0n (f := lf xs) hval htk hc28 hc33 hf
                 refine end1 rfl rfl ⟨_, St.left (L := (p, Blk 29 [.slice ta' (xs.length + 1) tc', .slice ka ks.length kc]) :: (Lt' ++ (Lc ++ rblks ks))) (M := Lv) (by simpa using hs.tail.tail), by rw [hE], ks, ?_, fun _ => rfl, fun h => absurd h.2 (by simp [hc28])⟩
                 rw [applyF, if_pos ⟨hE, hc28⟩]
                 exact ⟨xs ++ [x], _, _, Lt', Lc, rfl, (lf_push x hf).symm, by simpa [lcells, Lz.cells] using hO', hO2, hC, by simp; omega, by omega, by omega⟩)
              | (have hE := applyE_g0 (f := lf xs) hval htk hc28 hc33 hf (by omega)
                 refine end1 rfl rfl ⟨_, St.left (L := (p, Blk 29 [.slice (some ⟨gb, 0, none⟩) xs.length _, .slice ka ks.length kc]) :: (gb, Blk 34 (lcells (xs.set j x) ++ sp)) :: (Lc ++ rblks ks)) (M := Lv) (by simpa using hs.tail.tail), by rw [hE], ks, ?_, fun _ => rfl, fun h => absurd h.2 (by simp [hc28])⟩
                 rw [applyF, if_pos ⟨hE, hc28⟩]
                 refine ⟨xs.set j x, _, _, [_], Lc, rfl, (lf_set hj hyr hno).symm, ?_, hO2, hC, by simp; omega, by omega, by omega⟩
                 rw [List.length_set]
                 exact own_cells hO (by omega) (by rw [flat_length Lz.cells_length, flat_length Lz.cells_length, List.length_set]))
              | (have hyx : y = x := by cases x; cases y; simp_all
                 have hE := applyE_c0 (f := lf xs) hval htk hc28 hf ⟨hyx, by rw [hyx]; omega⟩
                 refine end1 rfl rfl ⟨_, hs.tail.tail, by rw [hE], ks ++ [⟨.slice va bs.length vc, bs, Lv⟩], ?_, fun h => absurd ⟨hE, hc28⟩ h, fun _ => ⟨_, rfl, rfl⟩⟩
                 rw [applyF, if_neg (by simp [hc28])]
                 refine ⟨xs, _, _, [_], Lt', by rw [rblks_snoc]; rfl, rfl, hO, by simpa [rvals] using hO', ?_, by omega, by simp; omega, by omega⟩
                 intro d hd'; rcases List.mem_append.1 hd' with h | h
                 · exact hC d h
                 · simp at h; subst h; exact ⟨hv, hval.2.2.2.2.1⟩)
          · skip
            try simp only [decide_eq_true_eq, decide_eq_false_iff_not, Bool.not_eq_true', Bool.not_eq_false', bne_iff_ne, bne_eq_false_iff_eq, ne_eq, ge_iff_le, gt_iff_lt, Bool.not_eq_true, Bool.not_eq_false] at hc33
            refine W_skip ?_
            refine n_then ?_
            refine W_seq ?_
            refine W_seq ?_
            refine W_region ?_
            refine s_move rfl rfl ?_
            refine s_lss rfl rfl rfl ?_
            refine WL_nil ?_
            refine n_then ?_
            refine W_cond rfl (fun hc35 => ?_) (fun hc35 => ?_)
            · skip
              try simp only [decide_eq_true_eq, decide_eq_false_iff_not, Bool.not_eq_true', Bool.not_eq_false', bne_iff_ne, bne_eq_false_iff_eq, ne_eq, ge_iff_le, gt_iff_lt, Bool.not_eq_true, Bool.not_eq_false] at hc35
              have hf : lf xs x.rule = none := by
                rcases hF with ⟨_, h⟩ | ⟨j, _, h, _⟩
                · exact h
                · omega
              refine W_seq ?_
              refine W_draw [(0, true, []), (1, true, []), (2, true, []), (3, true, []), (4, true, []), (5, true, []), (6, true, []), (7, false, [0, 1, 2, 3, 4]), (8, false, [0]), (9, true, []), (10, true, []), (11, false, [])] [[], [], [1], [1, 2], [1, 2, 3], [], [5], [5, 6], [1, 2, 3, 4, 5, 6, 7], [0, 1, 2, 3, 4, 5, 6, 7, 8], [0, 1, 2, 3, 4, 5, 6, 7, 8, 9], [0, 1, 2, 3, 4, 5, 6, 7, 8, 9, 10]] MX (by kernel_rfl) ?_
              intro w1 hw1 hw2 hw3 hw4; replace hs := hs.redrawn hw1 hw2 hw3 hw4; clear hw1 hw2 hw3 hw4
              obtain ⟨w, rfl⟩ : ∃ w : World, w = w1 := ⟨_, rfl⟩
              refine D_q rfl rfl ?_
              refine s_move rfl rfl ?_
              refine D_qn ?_
              refine D_q rfl rfl ?_
              refine s_move rfl rfl ?_
              refine D_qn ?_
              refine D_q rfl rfl ?_
              refine s_nilCheck rfl rfl ?_
              refine D_qn ?_
              refine D_q rfl rfl ?_
              refine s_fieldAddr rfl rfl (FA29_0 _ _) ?_
              refine D_qn ?_
              refine D_q rfl rfl ?_
              first
                | refine s_load Try.isAgg26 rfl rfl (hs.cell (k := 0) rfl rfl) ?_
                | refine s_load Try.isAgg26 rfl rfl (hs.cell (k := 1) rfl rfl) ?_
                | refine s_load Try.isAgg26 rfl rfl (hs.cell (k := 2) rfl rfl) ?_
                | refine s_load Try.isAgg26 rfl rfl (hs.cell (k := 3) rfl rfl) ?_
              refine D_qn ?_
              refine D_q rfl rfl ?_
              refine s_fieldAddr rfl rfl (FA37_1 _ _) ?_
              refine D_qn ?_
              refine D_q rfl rfl ?_
              first
                | refine s_loadW Try.isAgg34 Try.sizeOf34 rfl rfl hs (kk := 0) rfl rfl ?_
                | refine s_loadW Try.isAgg34 Try.sizeOf34 rfl rfl hs (kk := 1) rfl rfl ?_
                | refine s_loadW Try.isAgg34 Try.sizeOf34 rfl rfl hs (kk := 2) rfl rfl ?_
                | refine s_loadW Try.isAgg34 Try.sizeOf34 rfl rfl hs (kk := 3) rfl rfl ?_
                | refine s_load_4 Try.isAgg34 Try.sizeOf34 rfl rfl (by first | exact hs.cell (k := 0) rfl rfl | exact hs.cell (k := 1) rfl rfl | exact hs.cell (k := 2) rfl rfl | exact hs.cell (k := 3) rfl rfl) (by first | exact hs.cell (k := 0) rfl rfl | exact hs.cell (k := 1) rfl rfl | exact hs.cell (k := 2) rfl rfl | exact hs.cell (k := 3) rfl rfl) (by first | exact hs.cell (k := 0) rfl rfl | exact hs.cell (k := 1) rfl rfl | exact hs.cell (k := 2) rfl rfl | exact hs.cell (k := 3) rfl rfl) (by first | exact hs.cell (k := 0) rfl rfl | exact hs.cell (k := 1) rfl rfl | exact hs.cell (k := 2) rfl rfl | exact hs.cell (k := 3) rfl rfl) ?_
              refine D_qn ?_
              refine D_e rfl ?_
              refine s_buildSlice rfl rfl (BS26_1 _ _ _ _) hs ?_; clear hs; intro b43 w hs
              refine D_en ?re ?_
              case re =>
                refine Reks_cons rfl rfl rfl rfl ?_ ?_
                · skip
                  refine s_move rfl rfl ?_
                  exact Rek_end rfl
                refine Reks_cons rfl rfl rfl rfl ?_ ?_
                · skip
                  refine s_move rfl rfl ?_
                  exact Rek_end rfl
                refine Reks_cons rfl rfl rfl rfl ?_ ?_
                · skip
                  refine s_nilCheck rfl rfl ?_
                  exact Rek_end rfl
                refine Reks_cons rfl rfl rfl rfl ?_ ?_
                · skip
                  refine s_fieldAddr rfl rfl (FA29_0 _ _) ?_
                  exact Rek_end rfl
                refine Reks_cons rfl rfl rfl rfl ?_ ?_
                · skip
                  first
                    | refine s_load Try.isAgg26 rfl rfl (hs.cell (k := 0) rfl rfl) ?_
                    | refine s_load Try.isAgg26 rfl rfl (hs.cell (k := 1) rfl rfl) ?_
                    | refine s_load Try.isAgg26 rfl rfl (hs.cell (k := 2) rfl rfl) ?_
                    | refine s_load Try.isAgg26 rfl rfl (hs.cell (k := 3) rfl rfl) ?_
                  exact Rek_end rfl
                exact Reks_nil
              refine D_e rfl ?_
              refine s_appendM (M := [_, _, _]) (Lv := Ll) (X := Lc ++ (rblks ks ++ Lv)) El26 rfl rfl rfl hO hs (hs.sl (k := 0) (ds := [_, _, _, _]) rfl (Nat.le_refl _) (by intro j u hj; rw [Nat.zero_add]; exact hj)) rfl (by simp [Value.oneCell']) (by omega) ?_
              clear hs; intro tv' w Lt' hO' hs
              obtain ⟨tl', tc', ta', rfl, rfl⟩ := hO'.form
              simp only [List.cons_append, List.nil_append] at hs
              refine D_en ?re ?_
              case re =>
                refine Reks_cons rfl rfl rfl rfl ?_ ?_
                · skip
                  refine s_move rfl rfl ?_
                  exact Rek_end rfl
                exact Reks_nil
              refine D_q rfl rfl ?_
              refine s_nilCheck rfl rfl ?_
              refine D_qn ?_
              refine D_q rfl rfl ?_
              refine s_fieldAddr rfl rfl (FA29_0 _ _) ?_
              refine D_qn ?_
              refine D_e rfl ?_
              first
                | refine s_storeB Try.sizeOf26 rfl rfl rfl hs (kk := 0) rfl rfl ?_
                | refine s_storeB Try.sizeOf26 rfl rfl rfl hs (kk := 1) rfl rfl ?_
                | refine s_storeB Try.sizeOf26 rfl rfl rfl hs (kk := 2) rfl rfl ?_
                | refine s_storeB Try.sizeOf26 rfl rfl rfl hs (kk := 3) rfl rfl ?_
              clear hs; intro w hs; try simp only [List.set_cons_zero, List.set_cons_succ, splice, List.take_succ_cons, List.take_zero, List.drop_succ_cons, List.drop_zero, List.nil_append, List.cons_append, List.length_cons, List.length_nil, Nat.reduceAdd, List.append_assoc] at hs
              refine D_en ?re ?_
              case re =>
                exact Reks_nil
              refine D_nil ?_
              refine n_then ?_
              refine W_seq ?_
              refine W_region ?_
              refine s_assign rfl rfl ?_
              refine WL_nil ?_
              refine n_then ?_
              refine W_ret ?_
              refine r_then ?_
              refine r_then ?_
              first
                | exact end1 rfl rfl (fin (applyE_bad (.inl ‹_›)) (by decide) hs.tail)
                | exact end1 rfl rfl (fin (applyE_bad (.inr (by omega))) (by decide) hs.tail)
                | exact end1 rfl rfl (fin (applyE_g1 hval htk ‹_› ‹_›) (by decide) hs.tail)
                | exact end1 rfl rfl (fin (applyE_c15n hval htk ‹_› hf) (by decide) hs.tail)
                | exact end1 rfl rfl (fin (applyE_g15 hval htk ‹_› ‹_› hf (by omega)) (by decide) hs.tail.tail)
                | exact end1 rfl rfl (fin (applyE_c15 hval htk ‹_› hf (by rintro ⟨rfl, h⟩; first | omega | simp_all)) (by decide) hs.tail)
                | (have hE := applyE_g0n (f := lf xs) hval htk hc28 hc33 hf
                   refine end1 rfl rfl ⟨_, St.left (L := (p, Blk 29 [.slice ta' (xs.length + 1) tc', .slice ka ks.length kc]) :: (Lt' ++ (Lc ++ rblks ks))) (M := Lv) (by simpa using hs.tail.tail), by rw [hE], ks, ?_, fun _ => rfl, fun h => absurd h.2 (by simp [hc28])⟩
                   rw [applyF, if_pos ⟨hE, hc28⟩]
                   exact ⟨xs ++ [x], _, _, Lt', Lc, rfl, (lf_push x hf).symm, by simpa [lcells, Lz.cells] using hO', hO2, hC, by simp; omega, by omega, by omega⟩)
                | (have hE := applyE_g0 (f := lf xs) hval htk hc28 hc33 hf (by omega)
                   refine end1 rfl rfl ⟨_, St.left (L := (p, Blk 29 [.slice (some ⟨gb, 0, none⟩) xs.length _, .slice ka ks.length kc]) :: (gb, Blk 34 (lcells (xs.set j x) ++ sp)) :: (Lc ++ rblks ks)) (M := Lv) (by simpa using hs.tail.tail), by rw [hE], ks, ?_, fun _ => rfl, fun h => absurd h.2 (by simp [hc28])⟩
                   rw [applyF, if_pos ⟨hE, hc28⟩]
                   refine ⟨xs.set j x, _, _, [_], Lc, rfl, (lf_set hj hyr hno).symm, ?_, hO2, hC, by simp; omega, by omega, by omega⟩
                   rw [List.length_set]
                   exact own_cells hO (by omega) (by rw [flat_length Lz.cells_length, flat_length Lz.cells_length, List.length_set]))
                | (have hyx : y = x := by cases x; cases y; simp_all
                   have hE := applyE_c0 (f := lf xs) hval htk hc28 hf ⟨hyx, by rw [hyx]; omega⟩
                   refine end1 rfl rfl ⟨_, hs.tail.tail, by rw [hE], ks ++ [⟨.slice va bs.length vc, bs, Lv⟩], ?_, fun h => absurd ⟨hE, hc28⟩ h, fun _ => ⟨_, rfl, rfl⟩⟩
                   rw [applyF, if_neg (by simp [hc28])]
                   refine ⟨xs, _, _, [_], Lt', by rw [rblks_snoc]; rfl, rfl, hO, by simpa [rvals] using hO', ?_, by omega, by simp; omega, by omega⟩
                   intro d hd'; rcases List.mem_append.1 hd' with h | h
                   · exact hC d h
                   · simp at h; subst h; exact ⟨hv, hval.2.2.2.2.1⟩)
            · skip
              try simp only [decide_eq_true_eq, decide_eq_false_iff_not, Bool.not_eq_true', Bool.not_eq_false', bne_iff_ne, bne_eq_false_iff_eq, ne_eq, ge_iff_le, gt_iff_lt, Bool.not_eq_true, Bool.not_eq_false] at hc35
              obtain ⟨j, y, rfl, hj, hf, hyr, hno⟩ : ∃ (j : Nat) (y : Lz), i = (j : Int) ∧ xs[j]? = some y ∧ lf xs x.rule = some y ∧ y.rule = x.rule ∧ ∀ (k : Nat) (z : Lz), k < j → xs[k]? = some z → z.rule ≠ x.rule := by
                rcases hF with ⟨h, _⟩ | h
                · omega
                · exact h
              have hjl : j < xs.length := (List.getElem?_eq_some_iff.1 hj).1
              obtain ⟨gb, gc, sp, hgv, hgc, rfl⟩ := hO.block (by omega)
              cases hgv
              have cc : ∀ o u, o < 4 → y.cells[o]? = some u → (lcells xs ++ sp)[0 + (j : Int).toNat * 4 + o]? = some u := fun o u ho hu => flat_at' Lz.cells_length ho hj hu
              simp only [List.cons_append, List.nil_append] at hs
              refine W_skip ?_
              refine n_then ?_
              refine W_seq ?_
              refine W_region ?_
              refine s_move rfl rfl ?_
              refine s_nilCheck rfl rfl ?_
              refine s_fieldAddr rfl rfl (FA29_0 _ _) ?_
              first
                | refine s_load Try.isAgg26 rfl rfl (hs.cell (k := 0) rfl rfl) ?_
                | refine s_load Try.isAgg26 rfl rfl (hs.cell (k := 1) rfl rfl) ?_
                | refine s_load Try.isAgg26 rfl rfl (hs.cell (k := 2) rfl rfl) ?_
                | refine s_load Try.isAgg26 rfl rfl (hs.cell (k := 3) rfl rfl) ?_
              refine s_move rfl rfl ?_
              (refine s_indexAddr El26 rfl rfl rfl ?hx ?_; case hx => (constructor <;> first | omega | (simp; omega)))
              refine s_load_4 Try.isAgg34 Try.sizeOf34 rfl rfl (hs.cell (k := 2) rfl (cc 0 _ (by omega) rfl)) (hs.cell (k := 2) rfl (cc 1 _ (by omega) rfl)) (hs.cell (k := 2) rfl (cc 2 _ (by omega) rfl)) (hs.cell (k := 2) rfl (cc 3 _ (by omega) rfl)) ?_
              refine s_alloc rfl AL34 hs ?_; clear hs; intro b9 w hs
              first
                | refine s_storeW Try.sizeOf34 rfl rfl rfl rfl hs (kk := 0) rfl rfl ?_
                | refine s_storeW Try.sizeOf34 rfl rfl rfl rfl hs (kk := 1) rfl rfl ?_
                | refine s_storeW Try.sizeOf34 rfl rfl rfl rfl hs (kk := 2) rfl rfl ?_
                | refine s_storeW Try.sizeOf34 rfl rfl rfl rfl hs (kk := 3) rfl rfl ?_
                | refine s_storeAB Try.sizeOf34 rfl rfl rfl rfl hs (kk := 0) rfl rfl ?_
                | refine s_storeAB Try.sizeOf34 rfl rfl rfl rfl hs (kk := 1) rfl rfl ?_
                | refine s_storeAB Try.sizeOf34 rfl rfl rfl rfl hs (kk := 2) rfl rfl ?_
                | refine s_storeAB Try.sizeOf34 rfl rfl rfl rfl hs (kk := 3) rfl rfl ?_
              clear hs; intro w hs; try simp only [List.set_cons_zero, List.set_cons_succ, splice, List.take_succ_cons, List.take_zero, List.drop_succ_cons, List.drop_zero, List.nil_append, List.cons_append, List.length_cons, List.length_nil, Nat.reduceAdd, List.append_assoc] at hs
              refine WL_nil ?_
              refine n_then ?_
              refine W_seq ?_
              refine W_seq ?_
              refine W_region ?_
              refine s_fieldAddr rfl rfl (FA37_1 _ _) ?_
              refine s_fieldAddr rfl rfl (FA34_2 _ _) ?_
              first
                | refine s_load Try.isAgg3 rfl rfl (hs.cell (k := 0) rfl rfl) ?_
                | refine s_load Try.isAgg3 rfl rfl (hs.cell (k := 1) rfl rfl) ?_
                | refine s_load Try.isAgg3 rfl rfl (hs.cell (k := 2) rfl rfl) ?_
                | refine s_load Try.isAgg3 rfl rfl (hs.cell (k := 3) rfl rfl) ?_
              refine s_fieldAddr rfl rfl (FA34_2 _ _) ?_
              first
                | refine s_load Try.isAgg3 rfl rfl (hs.cell (k := 0) rfl rfl) ?_
                | refine s_load Try.isAgg3 rfl rfl (hs.cell (k := 1) rfl rfl) ?_
                | refine s_load Try.isAgg3 rfl rfl (hs.cell (k := 2) rfl rfl) ?_
                | refine s_load Try.isAgg3 rfl rfl (hs.cell (k := 3) rfl rfl) ?_
              refine s_leq rfl rfl rfl ?_
              refine s_move rfl rfl ?_
              refine WL_case (s := 60) rfl (fun hg60 => ?_) (fun hg60 => ?_)
              · skip
                try simp only [decide_eq_true_eq, decide_eq_false_iff_not, Bool.not_eq_true', Bool.not_eq_false', bne_iff_ne, bne_eq_false_iff_eq, ne_eq, ge_iff_le, gt_iff_lt, Bool.not_eq_true, Bool.not_eq_false] at hg60
                refine WL_skip rfl rfl rfl ?_
                refine WL_skip rfl rfl rfl ?_
                refine WL_skip rfl rfl rfl ?_
                refine WL_skip rfl rfl rfl ?_
                refine WL_skip rfl rfl rfl ?_
                refine WL_skipU rfl rfl ?_
                refine WL_skipU rfl rfl ?_
                refine WL_skipU rfl rfl ?_
                refine WL_skipU rfl rfl ?_
                refine WL_skipU rfl rfl ?_
                refine WL_skipU rfl rfl ?_
                refine WL_skip rfl rfl rfl ?_
                refine s_pick_t rfl rfl rfl ?_
                refine WL_nil ?_
                refine n_then ?_
                refine W_cond_t rfl ?_
                refine W_seq ?_
                refine W_region ?_
                refine s_assign rfl rfl ?_
                refine WL_nil ?_
                refine n_then ?_
                refine W_ret ?_
                refine r_then ?_
                refine r_then ?_
                first
                  | exact end1 rfl rfl (fin (applyE_bad (.inl ‹_›)) (by decide) hs.tail)
                  | exact end1 rfl rfl (fin (applyE_bad (.inr (by omega))) (by decide) hs.tail)
                  | exact end1 rfl rfl (fin (applyE_g1 hval htk ‹_› ‹_›) (by decide) hs.tail)
                  | exact end1 rfl rfl (fin (applyE_c15n hval htk ‹_› hf) (by decide) hs.tail)
                  | exact end1 rfl rfl (fin (applyE_g15 hval htk ‹_› ‹_› hf (by omega)) (by decide) hs.tail.tail)
                  | exact end1 rfl rfl (fin (applyE_c15 hval htk ‹_› hf (by rintro ⟨rfl, h⟩; first | omega | simp_all)) (by decide) hs.tail)
                  | (have hE := applyE_g0n (f := lf xs) hval htk hc28 hc33 hf
                     refine end1 rfl rfl ⟨_, St.left (L := (p, Blk 29 [.slice ta' (xs.length + 1) tc', .slice ka ks.length kc]) :: (Lt' ++ (Lc ++ rblks ks))) (M := Lv) (by simpa using hs.tail.tail), by rw [hE], ks, ?_, fun _ => rfl, fun h => absurd h.2 (by simp [hc28])⟩
                     rw [applyF, if_pos ⟨hE, hc28⟩]
                     exact ⟨xs ++ [x], _, _, Lt', Lc, rfl, (lf_push x hf).symm, by simpa [lcells, Lz.cells] using hO', hO2, hC, by simp; omega, by omega, by omega⟩)
                  | (have hE := applyE_g0 (f := lf xs) hval htk hc28 hc33 hf (by omega)
                     refine end1 rfl rfl ⟨_, St.left (L := (p, Blk 29 [.slice (some ⟨gb, 0, none⟩) xs.length _, .slice ka ks.length kc]) :: (gb, Blk 34 (lcells (xs.set j x) ++ sp)) :: (Lc ++ rblks ks)) (M := Lv) (by simpa using hs.tail.tail), by rw [hE], ks, ?_, fun _ => rfl, fun h => absurd h.2 (by simp [hc28])⟩
                     rw [applyF, if_pos ⟨hE, hc28⟩]
                     refine ⟨xs.set j x, _, _, [_], Lc, rfl, (lf_set hj hyr hno).symm, ?_, hO2, hC, by simp; omega, by omega, by omega⟩
                     rw [List.length_set]
                     exact own_cells hO (by omega) (by rw [flat_length Lz.cells_length, flat_length Lz.cells_length, List.length_set]))
                  | (have hyx : y = x := by cases x; cases y; simp_all
                     have hE := applyE_c0 (f := lf xs) hval htk hc28 hf ⟨hyx, by rw [hyx]; omega⟩
                     refine end1 rfl rfl ⟨_, hs.tail.tail, by rw [hE], ks ++ [⟨.slice va bs.length vc, bs, Lv⟩], ?_, fun h => absurd ⟨hE, hc28⟩ h, fun _ => ⟨_, rfl, rfl⟩⟩
                     rw [applyF, if_neg (by simp [hc28])]
                     refine ⟨xs, _, _, [_], Lt', by rw [rblks_snoc]; rfl, rfl, hO, by simpa [rvals] using hO', ?_, by omega, by simp; omega, by omega⟩
                     intro d hd'; rcases List.mem_append.1 hd' with h | h
                     · exact hC d h
                     · simp at h; subst h; exact ⟨hv, hval.2.2.2.2.1⟩)
              · skip
                try simp only [decide_eq_true_eq, decide_eq_false_iff_not, Bool.not_eq_true', Bool.not_eq_false', bne_iff_ne, bne_eq_false_iff_eq, ne_eq, ge_iff_le, gt_iff_lt, Bool.not_eq_true, Bool.not_eq_false] at hg60
                refine WL_take rfl ?_
                refine s_move rfl rfl ?_
                refine WL_take rfl ?_
                refine s_fieldAddr rfl rfl (FA34_3 _ _) ?_
                refine WL_take rfl ?_
                first
                  | refine s_load Try.isAgg3 rfl rfl (hs.cell (k := 0) rfl rfl) ?_
                  | refine s_load Try.isAgg3 rfl rfl (hs.cell (k := 1) rfl rfl) ?_
                  | refine s_load Try.isAgg3 rfl rfl (hs.cell (k := 2) rfl rfl) ?_
                  | refine s_load Try.isAgg3 rfl rfl (hs.cell (k := 3) rfl rfl) ?_
                refine WL_take rfl ?_
                refine s_lss rfl rfl rfl ?_
                refine WL_take rfl ?_
                refine s_move rfl rfl ?_
                refine WL_case (s := 65) rfl (fun hg65 => ?_) (fun hg65 => ?_)
                · skip
                  try simp only [decide_eq_true_eq, decide_eq_false_iff_not, Bool.not_eq_true', Bool.not_eq_false', bne_iff_ne, bne_eq_false_iff_eq, ne_eq, ge_iff_le, gt_iff_lt, Bool.not_eq_true, Bool.not_eq_false] at hg65
                  refine WL_take rfl ?_
                  refine s_fieldAddr rfl rfl (FA34_1 _ _) ?_
                  refine WL_take rfl ?_
                  first
                    | refine s_load Try.isAgg3 rfl rfl (hs.cell (k := 0) rfl rfl) ?_
                    | refine s_load Try.isAgg3 rfl rfl (hs.cell (k := 1) rfl rfl) ?_
                    | refine s_load Try.isAgg3 rfl rfl (hs.cell (k := 2) rfl rfl) ?_
                    | refine s_load Try.isAgg3 rfl rfl (hs.cell (k := 3) rfl rfl) ?_
                  refine WL_take rfl ?_
                  refine s_fieldAddr rfl rfl (FA37_1 _ _) ?_
                  refine WL_take rfl ?_
                  refine s_fieldAddr rfl rfl (FA34_1 _ _) ?_
                  refine WL_take rfl ?_
                  first
                    | refine s_load Try.isAgg3 rfl rfl (hs.cell (k := 0) rfl rfl) ?_
                    | refine s_load Try.isAgg3 rfl rfl (hs.cell (k := 1) rfl rfl) ?_
                    | refine s_load Try.isAgg3 rfl rfl (hs.cell (k := 2) rfl rfl) ?_
                    | refine s_load Try.isAgg3 rfl rfl (hs.cell (k := 3) rfl rfl) ?_
                  refine WL_take rfl ?_
                  refine s_neq rfl rfl rfl ?_
                  refine WL_take rfl ?_
                  refine s_pick_t rfl rfl rfl ?_
                  refine s_pick_f rfl rfl rfl ?_
                  refine WL_nil ?_
                  refine n_then ?_
                  refine W_cond rfl (fun hc73 => ?_) (fun hc73 => ?_)
                  · skip
                    try simp only [decide_eq_true_eq, decide_eq_false_iff_not, Bool.not_eq_true', Bool.not_eq_false', bne_iff_ne, bne_eq_false_iff_eq, ne_eq, ge_iff_le, gt_iff_lt, Bool.not_eq_true, Bool.not_eq_false] at hc73
                    refine W_seq ?_
                    refine W_region ?_
                    refine s_assign rfl rfl ?_
                    refine WL_nil ?_
                    refine n_then ?_
                    refine W_ret ?_
                    refine r_then ?_
                    refine r_then ?_
                    first
                      | exact end1 rfl rfl (fin (applyE_bad (.inl ‹_›)) (by decide) hs.tail)
                      | exact end1 rfl rfl (fin (applyE_bad (.inr (by omega))) (by decide) hs.tail)
                      | exact end1 rfl rfl (fin (applyE_g1 hval htk ‹_› ‹_›) (by decide) hs.tail)
                      | exact end1 rfl rfl (fin (applyE_c15n hval htk ‹_› hf) (by decide) hs.tail)
                      | exact end1 rfl rfl (fin (applyE_g15 hval htk ‹_› ‹_› hf (by omega)) (by decide) hs.tail.tail)
                      | exact end1 rfl rfl (fin (applyE_c15 hval htk ‹_› hf (by rintro ⟨rfl, h⟩; first | omega | simp_all)) (by decide) hs.tail)
                      | (have hE := applyE_g0n (f := lf xs) hval htk hc28 hc33 hf
                         refine end1 rfl rfl ⟨_, St.left (L := (p, Blk 29 [.slice ta' (xs.length + 1) tc', .slice ka ks.length kc]) :: (Lt' ++ (Lc ++ rblks ks))) (M := Lv) (by simpa using hs.tail.tail), by rw [hE], ks, ?_, fun _ => rfl, fun h => absurd h.2 (by simp [hc28])⟩
                         rw [applyF, if_pos ⟨hE, hc28⟩]
                         exact ⟨xs ++ [x], _, _, Lt', Lc, rfl, (lf_push x hf).symm, by simpa [lcells, Lz.cells] using hO', hO2, hC, by simp; omega, by omega, by omega⟩)
                      | (have hE := applyE_g0 (f := lf xs) hval htk hc28 hc33 hf (by omega)
                         refine end1 rfl rfl ⟨_, St.left (L := (p, Blk 29 [.slice (some ⟨gb, 0, none⟩) xs.length _, .slice ka ks.length kc]) :: (gb, Blk 34 (lcells (xs.set j x) ++ sp)) :: (Lc ++ rblks ks)) (M := Lv) (by simpa using hs.tail.tail), by rw [hE], ks, ?_, fun _ => rfl, fun h => absurd h.2 (by simp [hc28])⟩
                         rw [applyF, if_pos ⟨hE, hc28⟩]
                         refine ⟨xs.set j x, _, _, [_], Lc, rfl, (lf_set hj hyr hno).symm, ?_, hO2, hC, by simp; omega, by omega, by omega⟩
                         rw [List.length_set]
                         exact own_cells hO (by omega) (by rw [flat_length Lz.cells_length, flat_length Lz.cells_length, List.length_set]))
                      | (have hyx : y = x := by cases x; cases y; simp_all
                         have hE := applyE_c0 (f := lf xs) hval htk hc28 hf ⟨hyx, by rw [hyx]; omega⟩
                         refine end1 rfl rfl ⟨_, hs.tail.tail, by rw [hE], ks ++ [⟨.slice va bs.length vc, bs, Lv⟩], ?_, fun h => absurd ⟨hE, hc28⟩ h, fun _ => ⟨_, rfl, rfl⟩⟩
                         rw [applyF, if_neg (by simp [hc28])]
                         refine ⟨xs, _, _, [_], Lt', by rw [rblks_snoc]; rfl, rfl, hO, by simpa [rvals] using hO', ?_, by omega, by simp; omega, by omega⟩
                         intro d hd'; rcases List.mem_append.1 hd' with h | h
                         · exact hC d h
                         · simp at h; subst h; exact ⟨hv, hval.2.2.2.2.1⟩)
                  · skip
                    try simp only [decide_eq_true_eq, decide_eq_false_iff_not, Bool.not_eq_true', Bool.not_eq_false', bne_iff_ne, bne_eq_false_iff_eq, ne_eq, ge_iff_le, gt_iff_lt, Bool.not_eq_true, Bool.not_eq_false] at hc73
                    refine W_skip ?_
                    refine n_then ?_
                    refine W_seq ?_
                    refine W_draw [(0, true, []), (1, true, []), (2, true, []), (3, true, []), (4, true, []), (5, true, []), (6, true, []), (7, true, []), (8, false, [])] [[], [0], [0, 1], [0, 1, 2], [], [], [5], [0, 1, 2, 3, 4, 5, 6], [0, 1, 2, 3, 4, 5, 6, 7]] MX (by kernel_rfl) ?_
                    intro w1 hw1 hw2 hw3 hw4; replace hs := hs.redrawn hw1 hw2 hw3 hw4; clear hw1 hw2 hw3 hw4
                    obtain ⟨w, rfl⟩ : ∃ w : World, w = w1 := ⟨_, rfl⟩
                    refine D_q rfl rfl ?_
                    refine s_move rfl rfl ?_
                    refine D_qn ?_
                    refine D_q rfl rfl ?_
                    refine s_nilCheck rfl rfl ?_
                    refine D_qn ?_
                    refine D_q rfl rfl ?_
                    refine s_fieldAddr rfl rfl (FA29_0 _ _) ?_
                    refine D_qn ?_
                    refine D_q rfl rfl ?_
                    first
                      | refine s_load Try.isAgg26 rfl rfl (hs.cell (k := 0) rfl rfl) ?_
                      | refine s_load Try.isAgg26 rfl rfl (hs.cell (k := 1) rfl rfl) ?_
                      | refine s_load Try.isAgg26 rfl rfl (hs.cell (k := 2) rfl rfl) ?_
                      | refine s_load Try.isAgg26 rfl rfl (hs.cell (k := 3) rfl rfl) ?_
                    refine D_qn ?_
                    refine D_q rfl rfl ?_
                    refine s_move rfl rfl ?_
                    refine D_qn ?_
                    refine D_q rfl rfl ?_
                    refine s_fieldAddr rfl rfl (FA37_1 _ _) ?_
                    refine D_qn ?_
                    refine D_q rfl rfl ?_
                    first
                      | refine s_loadW Try.isAgg34 Try.sizeOf34 rfl rfl hs (kk := 0) rfl rfl ?_
                      | refine s_loadW Try.isAgg34 Try.sizeOf34 rfl rfl hs (kk := 1) rfl rfl ?_
                      | refine s_loadW Try.isAgg34 Try.sizeOf34 rfl rfl hs (kk := 2) rfl rfl ?_
                      | refine s_loadW Try.isAgg34 Try.sizeOf34 rfl rfl hs (kk := 3) rfl rfl ?_
                      | refine s_load_4 Try.isAgg34 Try.sizeOf34 rfl rfl (by first | exact hs.cell (k := 0) rfl rfl | exact hs.cell (k := 1) rfl rfl | exact hs.cell (k := 2) rfl rfl | exact hs.cell (k := 3) rfl rfl) (by first | exact hs.cell (k := 0) rfl rfl | exact hs.cell (k := 1) rfl rfl | exact hs.cell (k := 2) rfl rfl | exact hs.cell (k := 3) rfl rfl) (by first | exact hs.cell (k := 0) rfl rfl | exact hs.cell (k := 1) rfl rfl | exact hs.cell (k := 2) rfl rfl | exact hs.cell (k := 3) rfl rfl) (by first | exact hs.cell (k := 0) rfl rfl | exact hs.cell (k := 1) rfl rfl | exact hs.cell (k := 2) rfl rfl | exact hs.cell (k := 3) rfl rfl) ?_
                    refine D_qn ?_
                    refine D_q rfl rfl ?_
                    (refine s_indexAddr El26 rfl rfl rfl ?hx ?_; case hx => (constructor <;> first | omega | (simp; omega)))
                    refine D_qn ?_
                    refine D_e rfl ?_
                    have hsp : splice (lcells xs ++ sp) (0 + (j : Int).toNat * 4) x.cells = lcells (xs.set j x) ++ sp := by rw [Nat.zero_add, Int.toNat_natCast]; exact flat_set Lz.cells_length x hjl
                    refine s_storeA (vs := x.cells) Try.sizeOf34 rfl rfl (by simp [Lz.cells, Value.oneCell']) rfl hs (kk := 3) rfl (by rw [Nat.zero_add, Int.toNat_natCast, List.length_append, flat_length Lz.cells_length, Lz.cells_length]; omega) ?_
                    clear hs; intro w hs
                    rw [hsp] at hs
                    simp only [List.set_cons_zero, List.set_cons_succ] at hs
                    refine D_en ?re ?_
                    case re =>
                      exact Reks_nil
                    refine D_nil ?_
                    refine n_then ?_
                    refine W_seq ?_
                    refine W_region ?_
                    refine s_assign rfl rfl ?_
                    refine WL_nil ?_
                    refine n_then ?_
                    refine W_ret ?_
                    refine r_then ?_
                    first
                      | exact end1 rfl rfl (fin (applyE_bad (.inl ‹_›)) (by decide) hs.tail)
                      | exact end1 rfl rfl (fin (applyE_bad (.inr (by omega))) (by decide) hs.tail)
                      | exact end1 rfl rfl (fin (applyE_g1 hval htk ‹_› ‹_›) (by decide) hs.tail)
                      | exact end1 rfl rfl (fin (applyE_c15n hval htk ‹_› hf) (by decide) hs.tail)
                      | exact end1 rfl rfl (fin (applyE_g15 hval htk ‹_› ‹_› hf (by omega)) (by decide) hs.tail.tail)
                      | exact end1 rfl rfl (fin (applyE_c15 hval htk ‹_› hf (by rintro ⟨rfl, h⟩; first | omega | simp_all)) (by decide) hs.tail)
                      | (have hE := applyE_g0n (f := lf xs) hval htk hc28 hc33 hf
                         refine end1 rfl rfl ⟨_, St.left (L := (p, Blk 29 [.slice ta' (xs.length + 1) tc', .slice ka ks.length kc]) :: (Lt' ++ (Lc ++ rblks ks))) (M := Lv) (by simpa using hs.tail.tail), by rw [hE], ks, ?_, fun _ => rfl, fun h => absurd h.2 (by simp [hc28])⟩
                         rw [applyF, if_pos ⟨hE, hc28⟩]
                         exact ⟨xs ++ [x], _, _, Lt', Lc, rfl, (lf_push x hf).symm, by simpa [lcells, Lz.cells] using hO', hO2, hC, by simp; omega, by omega, by omega⟩)
                      | (have hE := applyE_g0 (f := lf xs) hval htk hc28 hc33 hf (by omega)
                         refine end1 rfl rfl ⟨_, St.left (L := (p, Blk 29 [.slice (some ⟨gb, 0, none⟩) xs.length _, .slice ka ks.length kc]) :: (gb, Blk 34 (lcells (xs.set j x) ++ sp)) :: (Lc ++ rblks ks)) (M := Lv) (by simpa using hs.tail.tail), by rw [hE], ks, ?_, fun _ => rfl, fun h => absurd h.2 (by simp [hc28])⟩
                         rw [applyF, if_pos ⟨hE, hc28⟩]
                         refine ⟨xs.set j x, _, _, [_], Lc, rfl, (lf_set hj hyr hno).symm, ?_, hO2, hC, by simp; omega, by omega, by omega⟩
                         rw [List.length_set]
                         exact own_cells hO (by omega) (by rw [flat_length Lz.cells_length, flat_length Lz.cells_length, List.length_set]))
                      | (have hyx : y = x := by cases x; cases y; simp_all
                         have hE := applyE_c0 (f := lf xs) hval htk hc28 hf ⟨hyx, by rw [hyx]; omega⟩
                         refine end1 rfl rfl ⟨_, hs.tail.tail, by rw [hE], ks ++ [⟨.slice va bs.length vc, bs, Lv⟩], ?_, fun h => absurd ⟨hE, hc28⟩ h, fun _ => ⟨_, rfl, rfl⟩⟩
                         rw [applyF, if_neg (by simp [hc28])]
                         refine ⟨xs, _, _, [_], Lt', by rw [rblks_snoc]; rfl, rfl, hO, by simpa [rvals] using hO', ?_, by omega, by simp; omega, by omega⟩
                         intro d hd'; rcases List.mem_append.1 hd' with h | h
                         · exact hC d h
                         · simp at h; subst h; exact ⟨hv, hval.2.2.2.2.1⟩)
                · skip
                  try simp only [decide_eq_true_eq, decide_eq_false_iff_not, Bool.not_eq_true', Bool.not_eq_false', bne_iff_ne, bne_eq_false_iff_eq, ne_eq, ge_iff_le, gt_iff_lt, Bool.not_eq_true, Bool.not_eq_false] at hg65
                  refine WL_skip rfl rfl rfl ?_
                  refine WL_skip rfl rfl rfl ?_
                  refine WL_skip rfl rfl rfl ?_
                  refine WL_skip rfl rfl rfl ?_
                  refine WL_skip rfl rfl rfl ?_
                  refine WL_skip rfl rfl rfl ?_
                  refine WL_take rfl ?_
                  refine s_pick_f rfl rfl rfl ?_
                  refine s_pick_f rfl rfl rfl ?_
                  refine WL_nil ?_
                  refine n_then ?_
                  refine W_cond_f rfl ?_
                  refine W_skip ?_
                  refine n_then ?_
                  refine W_seq ?_
                  refine W_draw [(0, true, []), (1, true, []), (2, true, []), (3, true, []), (4, true, []), (5, true, []), (6, true, []), (7, true, []), (8, false, [])] [[], [0], [0, 1], [0, 1, 2], [], [], [5], [0, 1, 2, 3, 4, 5, 6], [0, 1, 2, 3, 4, 5, 6, 7]] MX (by kernel_rfl) ?_
                  intro w1 hw1 hw2 hw3 hw4; replace hs := hs.redrawn hw1 hw2 hw3 hw4; clear hw1 hw2 hw3 hw4
                  obtain ⟨w, rfl⟩ : ∃ w : World, w = w1 := ⟨_, rfl⟩
                  refine D_q rfl rfl ?_
                  refine s_move rfl rfl ?_
                  refine D_qn ?_
                  refine D_q rfl rfl ?_
                  refine s_nilCheck rfl rfl ?_
                  refine D_qn ?_
                  refine D_q rfl rfl ?_
                  refine s_fieldAddr rfl rfl (FA29_0 _ _) ?_
                  refine D_qn ?_
                  refine D_q rfl rfl ?_
                  first
                    | refine s_load Try.isAgg26 rfl rfl (hs.cell (k := 0) rfl rfl) ?_
                    | refine s_load Try.isAgg26 rfl rfl (hs.cell (k := 1) rfl rfl) ?_
                    | refine s_load Try.isAgg26 rfl rfl (hs.cell (k := 2) rfl rfl) ?_
                    | refine s_load Try.isAgg26 rfl rfl (hs.cell (k := 3) rfl rfl) ?_
                  refine D_qn ?_
                  refine D_q rfl rfl ?_
                  refine s_move rfl rfl ?_
                  refine D_qn ?_
                  refine D_q rfl rfl ?_
                  refine s_fieldAddr rfl rfl (FA37_1 _ _) ?_
                  refine D_qn ?_
                  refine D_q rfl rfl ?_
                  first
                    | refine s_loadW Try.isAgg34 Try.sizeOf34 rfl rfl hs (kk := 0) rfl rfl ?_
                    | refine s_loadW Try.isAgg34 Try.sizeOf34 rfl rfl hs (kk := 1) rfl rfl ?_
                    | refine s_loadW Try.isAgg34 Try.sizeOf34 rfl rfl hs (kk := 2) rfl rfl ?_
                    | refine s_loadW Try.isAgg34 Try.sizeOf34 rfl rfl hs (kk := 3) rfl rfl ?_
                    | refine s_load_4 Try.isAgg34 Try.sizeOf34 rfl rfl (by first | exact hs.cell (k := 0) rfl rfl | exact hs.cell (k := 1) rfl rfl | exact hs.cell (k := 2) rfl rfl | exact hs.cell (k := 3) rfl rfl) (by first | exact hs.cell (k := 0) rfl rfl | exact hs.cell (k := 1) rfl rfl | exact hs.cell (k := 2) rfl rfl | exact hs.cell (k := 3) rfl rfl) (by first | exact hs.cell (k := 0) rfl rfl | exact hs.cell (k := 1) rfl rfl | exact hs.cell (k := 2) rfl rfl | exact hs.cell (k := 3) rfl rfl) (by first | exact hs.cell (k := 0) rfl rfl | exact hs.cell (k := 1) rfl rfl | exact hs.cell (k := 2) rfl rfl | exact hs.cell (k := 3) rfl rfl) ?_
                  refine D_qn ?_
                  refine D_q rfl rfl ?_
                  (refine s_indexAddr El26 rfl rfl rfl ?hx ?_; case hx => (constructor <;> first | omega | (simp; omega)))
                  refine D_qn ?_
                  refine D_e rfl ?_
                  have hsp : splice (lcells xs ++ sp) (0 + (j : Int).toNat * 4) x.cells = lcells (xs.set j x) ++ sp := by rw [Nat.zero_add, Int.toNat_natCast]; exact flat_set Lz.cells_length x hjl
                  refine s_storeA (vs := x.cells) Try.sizeOf34 rfl rfl (by simp [Lz.cells, Value.oneCell']) rfl hs (kk := 3) rfl (by rw [Nat.zero_add, Int.toNat_natCast, List.length_append, flat_length Lz.cells_length, Lz.cells_length]; omega) ?_
                  clear hs; intro w hs
                  rw [hsp] at hs
                  simp only [List.set_cons_zero, List.set_cons_succ] at hs
                  refine D_en ?re ?_
                  case re =>
                    exact Reks_nil
                  refine D_nil ?_
                  refine n_then ?_
                  refine W_seq ?_
                  refine W_region ?_
                  refine s_assign rfl rfl ?_
                  refine WL_nil ?_
                  refine n_then ?_
                  refine W_ret ?_
                  refine r_then ?_
                  first
                    | exact end1 rfl rfl (fin (applyE_bad (.inl ‹_›)) (by decide) hs.tail)
                    | exact end1 rfl rfl (fin (applyE_bad (.inr (by omega))) (by decide) hs.tail)
                    | exact end1 rfl rfl (fin (applyE_g1 hval htk ‹_› ‹_›) (by decide) hs.tail)
                    | exact end1 rfl rfl (fin (applyE_c15n hval htk ‹_› hf) (by decide) hs.tail)
                    | exact end1 rfl rfl (fin (applyE_g15 hval htk ‹_› ‹_› hf (by omega)) (by decide) hs.tail.tail)
                    | exact end1 rfl rfl (fin (applyE_c15 hval htk ‹_› hf (by rintro ⟨rfl, h⟩; first | omega | simp_all)) (by decide) hs.tail)
                    | (have hE := applyE_g0n (f := lf xs) hval htk hc28 hc33 hf
                       refine end1 rfl rfl ⟨_, St.left (L := (p, Blk 29 [.slice ta' (xs.length + 1) tc', .slice ka ks.length kc]) :: (Lt' ++ (Lc ++ rblks ks))) (M := Lv) (by simpa using hs.tail.tail), by rw [hE], ks, ?_, fun _ => rfl, fun h => absurd h.2 (by simp [hc28])⟩
                       rw [applyF, if_pos ⟨hE, hc28⟩]
                       exact ⟨xs ++ [x], _, _, Lt', Lc, rfl, (lf_push x hf).symm, by simpa [lcells, Lz.cells] using hO', hO2, hC, by simp; omega, by omega, by omega⟩)
                    | (have hE := applyE_g0 (f := lf xs) hval htk hc28 hc33 hf (by omega)
                       refine end1 rfl rfl ⟨_, St.left (L := (p, Blk 29 [.slice (some ⟨gb, 0, none⟩) xs.length _, .slice ka ks.length kc]) :: (gb, Blk 34 (lcells (xs.set j x) ++ sp)) :: (Lc ++ rblks ks)) (M := Lv) (by simpa using hs.tail.tail), by rw [hE], ks, ?_, fun _ => rfl, fun h => absurd h.2 (by simp [hc28])⟩
                       rw [applyF, if_pos ⟨hE, hc28⟩]
                       refine ⟨xs.set j x, _, _, [_], Lc, rfl, (lf_set hj hyr hno).symm, ?_, hO2, hC, by simp; omega, by omega, by omega⟩
                       rw [List.length_set]
                       exact own_cells hO (by omega) (by rw [flat_length Lz.cells_length, flat_length Lz.cells_length, List.length_set]))
                    | (have hyx : y = x := by cases x; cases y; simp_all
                       have hE := applyE_c0 (f := lf xs) hval htk hc28 hf ⟨hyx, by rw [hyx]; omega⟩
                       refine end1 rfl rfl ⟨_, hs.tail.tail, by rw [hE], ks ++ [⟨.slice va bs.length vc, bs, Lv⟩], ?_, fun h => absurd ⟨hE, hc28⟩ h, fun _ => ⟨_, rfl, rfl⟩⟩
                       rw [applyF, if_neg (by simp [hc28])]
                       refine ⟨xs, _, _, [_], Lt', by rw [rblks_snoc]; rfl, rfl, hO, by simpa [rvals] using hO', ?_, by omega, by simp; omega, by omega⟩
                       intro d hd'; rcases List.mem_append.1 hd' with h | h
                       · exact hC d h
                       · simp at h; subst h; exact ⟨hv, hval.2.2.2.2.1⟩)
        · skip
          try simp only [decide_eq_true_eq, decide_eq_false_iff_not, Bool.not_eq_true', Bool.not_eq_false', bne_iff_ne, bne_eq_false_iff_eq, ne_eq, ge_iff_le, gt_iff_lt, Bool.not_eq_true, Bool.not_eq_false] at hc28
          refine W_skip ?_
          refine n_then ?_
          refine W_seq ?_
          refine W_seq ?_
          refine W_draw [(0, true, []), (1, true, []), (2, true, []), (3, true, []), (4, true, []), (5, true, []), (6, true, []), (7, true, []), (8, true, []), (9, true, []), (10, true, []), (11, true, []), (12, true, []), (13, true, []), (14, true, []), (15, true, []), (16, true, []), (17, true, []), (18, true, []), (19, true, []), (20, true, [])] [[], [0], [0, 1], [0, 1, 2], [0, 1, 2, 3], [0, 1, 2, 3, 4], [0, 1, 2, 3, 4, 5], [0, 1, 2], [0, 1, 2, 3, 4, 5, 6, 7], [0, 1, 2, 3, 4, 5, 6, 7, 8], [0, 1, 2], [0, 1, 2, 10], [0, 1, 2, 3, 4, 5, 6, 7, 8, 9, 10, 11], [0, 1, 2, 3, 4, 5, 6, 7, 8, 9, 10, 11, 12], [0, 1, 2, 3, 4, 5, 6, 7, 8, 9, 10, 11, 12, 13], [0, 1, 2, 3, 4, 5, 6, 7, 8, 9, 10, 11, 12, 13, 14], [0, 1, 2, 3, 4, 5, 6, 7, 8, 9, 10, 11, 12, 13, 14], [0, 1, 2, 3, 4, 5, 6, 7, 8, 9, 10, 11, 12, 13, 14, 16], [0, 1, 2, 3, 4, 5, 6, 7, 8, 9, 10, 11, 12, 13, 14, 16, 17], [0, 1, 2, 3, 4, 5, 6, 7, 8, 9, 10, 11, 12, 13, 14, 15, 16, 17, 18], [0, 1, 2, 3, 4, 5, 6, 7, 8, 9, 10, 11, 12, 13, 14, 15, 16, 17, 18, 19]] MX (by kernel_rfl) ?_
          intro w1 hw1 hw2 hw3 hw4; replace hs := hs.redrawn hw1 hw2 hw3 hw4; clear hw1 hw2 hw3 hw4
          obtain ⟨w, rfl⟩ : ∃ w : World, w = w1 := ⟨_, rfl⟩
          refine D_q rfl rfl ?_
          refine s_move rfl rfl ?_
          refine D_qn ?_
          refine D_q rfl rfl ?_
          refine s_lss rfl rfl rfl ?_
          refine D_qn ?_
          refine D_q rfl rfl ?_
          refine s_move rfl rfl ?_
          refine WL_case (s := 84) rfl (fun hg84 => ?_) (fun hg84 => ?_)
          · skip
            try simp only [decide_eq_true_eq, decide_eq_false_iff_not, Bool.not_eq_true', Bool.not_eq_false', bne_iff_ne, bne_eq_false_iff_eq, ne_eq, ge_iff_le, gt_iff_lt, Bool.not_eq_true, Bool.not_eq_false] at hg84
            have hf : lf xs x.rule = none := by
              rcases hF with ⟨_, h⟩ | ⟨j, _, h, _⟩
              · exact h
              · omega
            refine D_qn ?_
            refine D_q rfl rfl ?_
            refine WL_skip rfl rfl rfl ?_
            refine D_qn ?_
            refine D_q rfl rfl ?_
            refine WL_skip rfl rfl rfl ?_
            refine D_qn ?_
            refine D_q rfl rfl ?_
            refine WL_skip rfl rfl rfl ?_
            refine D_qn ?_
            refine D_q rfl rfl ?_
            refine WL_skip rfl rfl rfl ?_
            refine D_qn ?_
            refine D_q rfl rfl ?_
            refine WL_skip rfl rfl rfl ?_
            refine D_qn ?_
            refine D_q rfl rfl ?_
            refine WL_skip rfl rfl rfl ?_
            refine D_qn ?_
            refine D_q rfl rfl ?_
            refine WL_skip rfl rfl rfl ?_
            refine D_qn ?_
            refine D_q rfl rfl ?_
            refine WL_skip rfl rfl rfl ?_
            refine D_qn ?_
            refine D_q rfl rfl ?_
            refine WL_skip rfl rfl rfl ?_
            refine D_qn ?_
            refine D_q rfl rfl ?_
            refine WL_skip rfl rfl rfl ?_
            refine D_qn ?_
            refine D_q rfl rfl ?_
            refine s_pick_t rfl rfl rfl ?_
            refine D_qn ?_
            refine D_q rfl rfl ?_
            refine s_move rfl rfl ?_
            refine D_qn ?_
            refine D_q rfl rfl ?_
            refine WL_skip rfl rfl rfl ?_
            refine D_qn ?_
            refine D_q rfl rfl ?_
            refine WL_skip rfl rfl rfl ?_
            refine D_qn ?_
            refine D_q rfl rfl ?_
            refine WL_skip rfl rfl rfl ?_
            refine D_qn ?_
            refine D_q rfl rfl ?_
            refine WL_skip rfl rfl rfl ?_
            refine D_qn ?_
            refine D_q rfl rfl ?_
            refine WL_skip rfl rfl rfl ?_
            refine D_qn ?_
            refine D_q rfl rfl ?_
            refine s_pick_t rfl rfl rfl ?_
            refine D_qn ?_
            refine D_nil ?_
            refine n_then ?_
            refine W_cond_t rfl ?_
            refine W_seq ?_
            refine W_region ?_
            refine s_assign rfl rfl ?_
            refine WL_nil ?_
            refine n_then ?_
            refine W_ret ?_
            refine r_then ?_
            first
              | exact end1 rfl rfl (fin (applyE_bad (.inl ‹_›)) (by decide) hs.tail)
              | exact end1 rfl rfl (fin (applyE_bad (.inr (by omega))) (by decide) hs.tail)
              | exact end1 rfl rfl (fin (applyE_g1 hval htk ‹_› ‹_›) (by decide) hs.tail)
              | exact end1 rfl rfl (fin (applyE_c15n hval htk ‹_› hf) (by decide) hs.tail)
              | exact end1 rfl rfl (fin (applyE_g15 hval htk ‹_› ‹_› hf (by omega)) (by decide) hs.tail.tail)
              | exact end1 rfl rfl (fin (applyE_c15 hval htk ‹_› hf (by rintro ⟨rfl, h⟩; first | omega | simp_all)) (by decide) hs.tail)
              | (have hE := applyE_g0n (f := lf xs) hval htk hc28 hc33 hf
                 refine end1 rfl rfl ⟨_, St.left (L := (p, Blk 29 [.slice ta' (xs.length + 1) tc', .slice ka ks.length kc]) :: (Lt' ++ (Lc ++ rblks ks))) (M := Lv) (by simpa using hs.tail.tail), by rw [hE], ks, ?_, fun _ => rfl, fun h => absurd h.2 (by simp [hc28])⟩
                 rw [applyF, if_pos ⟨hE, hc28⟩]
                 exact ⟨xs ++ [x], _, _, Lt', Lc, rfl, (lf_push x hf).symm, by simpa [lcells, Lz.cells] using hO', hO2, hC, by simp; omega, by omega, by omega⟩)
              | (have hE := applyE_g0 (f := lf xs) hval htk hc28 hc33 hf (by omega)
                 refine end1 rfl rfl ⟨_, St.left (L := (p, Blk 29 [.slice (some ⟨gb, 0, none⟩) xs.length _, .slice ka ks.length kc]) :: (gb, Blk 34 (lcells (xs.set j x) ++ sp)) :: (Lc ++ rblks ks)) (M := Lv) (by simpa using hs.tail.tail), by rw [hE], ks, ?_, fun _ => rfl, fun h => absurd h.2 (by simp [hc28])⟩
                 rw [applyF, if_pos ⟨hE, hc28⟩]
                 refine ⟨xs.set j x, _, _, [_], Lc, rfl, (lf_set hj hyr hno).symm, ?_, hO2, hC, by simp; omega, by omega, by omega⟩
                 rw [List.length_set]
                 exact own_cells hO (by omega) (by rw [flat_length Lz.cells_length, flat_length Lz.cells_length, List.length_set]))
              | (have hyx : y = x := by cases x; cases y; simp_all
                 have hE := applyE_c0 (f := lf xs) hval htk hc28 hf ⟨hyx, by rw [hyx]; omega⟩
                 refine end1 rfl rfl ⟨_, hs.tail.tail, by rw [hE], ks ++ [⟨.slice va bs.length vc, bs, Lv⟩], ?_, fun h => absurd ⟨hE, hc28⟩ h, fun _ => ⟨_, rfl, rfl⟩⟩
                 rw [applyF, if_neg (by simp [hc28])]
                 refine ⟨xs, _, _, [_], Lt', by rw [rblks_snoc]; rfl, rfl, hO, by simpa [rvals] using hO', ?_, by omega, by simp; omega, by omega⟩
                 intro d hd'; rcases List.mem_append.1 hd' with h | h
                 · exact hC d h
                 · simp at h; subst h; exact ⟨hv, hval.2.2.2.2.1⟩)
          · skip
            try simp only [decide_eq_true_eq, decide_eq_false_iff_not, Bool.not_eq_true', Bool.not_eq_false', bne_iff_ne, bne_eq_false_iff_eq, ne_eq, ge_iff_le, gt_iff_lt, Bool.not_eq_true, Bool.not_eq_false] at hg84
            obtain ⟨j, y, rfl, hj, hf, hyr, hno⟩ : ∃ (j : Nat) (y : Lz), i = (j : Int) ∧ xs[j]? = some y ∧ lf xs x.rule = some y ∧ y.rule = x.rule ∧ ∀ (k : Nat) (z : Lz), k < j → xs[k]? = some z → z.rule ≠ x.rule := by
              rcases hF with ⟨h, _⟩ | h
              · omega
              · exact h
            have hjl : j < xs.length := (List.getElem?_eq_some_iff.1 hj).1
            obtain ⟨gb, gc, sp, hgv, hgc, rfl⟩ := hO.block (by omega)
            cases hgv
            have cc : ∀ o u, o < 4 → y.cells[o]? = some u → (lcells xs ++ sp)[0 + (j : Int).toNat * 4 + o]? = some u := fun o u ho hu => flat_at' Lz.cells_length ho hj hu
            simp only [List.cons_append, List.nil_append] at hs
            refine D_qn ?_
            refine D_q rfl rfl ?_
            refine WL_take rfl ?_
            refine s_move rfl rfl ?_
            refine D_qn ?_
            refine D_q rfl rfl ?_
            refine WL_take rfl ?_
            refine s_nilCheck rfl rfl ?_
            refine D_qn ?_
            refine D_q rfl rfl ?_
            refine WL_take rfl ?_
            refine s_fieldAddr rfl rfl (FA29_0 _ _) ?_
            refine D_qn ?_
            refine D_q rfl rfl ?_
            refine WL_take rfl ?_
            first
              | refine s_load Try.isAgg26 rfl rfl (hs.cell (k := 0) rfl rfl) ?_
              | refine s_load Try.isAgg26 rfl rfl (hs.cell (k := 1) rfl rfl) ?_
              | refine s_load Try.isAgg26 rfl rfl (hs.cell (k := 2) rfl rfl) ?_
              | refine s_load Try.isAgg26 rfl rfl (hs.cell (k := 3) rfl rfl) ?_
            refine D_qn ?_
            refine D_q rfl rfl ?_
            refine WL_take rfl ?_
            refine s_move rfl rfl ?_
            refine D_qn ?_
            refine D_q rfl rfl ?_
            refine WL_take rfl ?_
            (refine s_indexAddr El26 rfl rfl rfl ?hx ?_; case hx => (constructor <;> first | omega | (simp; omega)))
            refine D_qn ?_
            refine D_q rfl rfl ?_
            refine WL_take rfl ?_
            refine s_load_4 Try.isAgg34 Try.sizeOf34 rfl rfl (hs.cell (k := 2) rfl (cc 0 _ (by omega) rfl)) (hs.cell (k := 2) rfl (cc 1 _ (by omega) rfl)) (hs.cell (k := 2) rfl (cc 2 _ (by omega) rfl)) (hs.cell (k := 2) rfl (cc 3 _ (by omega) rfl)) ?_
            refine D_qn ?_
            refine D_q rfl rfl ?_
            refine WL_take rfl ?_
            refine s_fieldAddr rfl rfl (FA37_1 _ _) ?_
            refine D_qn ?_
            refine D_q rfl rfl ?_
            refine WL_take rfl ?_
            first
              | refine s_loadW Try.isAgg34 Try.sizeOf34 rfl rfl hs (kk := 0) rfl rfl ?_
              | refine s_loadW Try.isAgg34 Try.sizeOf34 rfl rfl hs (kk := 1) rfl rfl ?_
              | refine s_loadW Try.isAgg34 Try.sizeOf34 rfl rfl hs (kk := 2) rfl rfl ?_
              | refine s_loadW Try.isAgg34 Try.sizeOf34 rfl rfl hs (kk := 3) rfl rfl ?_
              | refine s_load_4 Try.isAgg34 Try.sizeOf34 rfl rfl (by first | exact hs.cell (k := 0) rfl rfl | exact hs.cell (k := 1) rfl rfl | exact hs.cell (k := 2) rfl rfl | exact hs.cell (k := 3) rfl rfl) (by first | exact hs.cell (k := 0) rfl rfl | exact hs.cell (k := 1) rfl rfl | exact hs.cell (k := 2) rfl rfl | exact hs.cell (k := 3) rfl rfl) (by first | exact hs.cell (k := 0) rfl rfl | exact hs.cell (k := 1) rfl rfl | exact hs.cell (k := 2) rfl rfl | exact hs.cell (k := 3) rfl rfl) (by first | exact hs.cell (k := 0) rfl rfl | exact hs.cell (k := 1) rfl rfl | exact hs.cell (k := 2) rfl rfl | exact hs.cell (k := 3) rfl rfl) ?_
            refine D_qn ?_
            refine D_q rfl rfl ?_
            refine WL_take rfl ?_
            refine s_neq_agg EG34 rfl rfl rfl (SE34 _ _ _ _ _ _ _ _) ?_
            refine D_qn ?_
            refine D_q rfl rfl ?_
            refine s_pick_f rfl rfl rfl ?_
            refine D_qn ?_
            refine D_q rfl rfl ?_
            refine s_move rfl rfl ?_
            refine WL_case (s := 96) rfl (fun hg96 => ?_) (fun hg96 => ?_)
            · skip
              try simp only [decide_eq_true_eq, decide_eq_false_iff_not, Bool.not_eq_true', Bool.not_eq_false', bne_iff_ne, bne_eq_false_iff_eq, ne_eq, ge_iff_le, gt_iff_lt, Bool.not_eq_true, Bool.not_eq_false] at hg96
              refine D_qn ?_
              refine D_q rfl rfl ?_
              refine WL_skip rfl rfl rfl ?_
              refine D_qn ?_
              refine D_q rfl rfl ?_
              refine WL_skip rfl rfl rfl ?_
              refine D_qn ?_
              refine D_q rfl rfl ?_
              refine WL_skip rfl rfl rfl ?_
              refine D_qn ?_
              refine D_q rfl rfl ?_
              refine WL_skip rfl rfl rfl ?_
              refine D_qn ?_
              refine D_q rfl rfl ?_
              refine WL_skip rfl rfl rfl ?_
              refine D_qn ?_
              refine D_q rfl rfl ?_
              refine s_pick_t rfl rfl rfl ?_
              refine D_qn ?_
              refine D_nil ?_
              refine n_then ?_
              refine W_cond_t rfl ?_
              refine W_seq ?_
              refine W_region ?_
              refine s_assign rfl rfl ?_
              refine WL_nil ?_
              refine n_then ?_
              refine W_ret ?_
              refine r_then ?_
              first
                | exact end1 rfl rfl (fin (applyE_bad (.inl ‹_›)) (by decide) hs.tail)
                | exact end1 rfl rfl (fin (applyE_bad (.inr (by omega))) (by decide) hs.tail)
                | exact end1 rfl rfl (fin (applyE_g1 hval htk ‹_› ‹_›) (by decide) hs.tail)
                | exact end1 rfl rfl (fin (applyE_c15n hval htk ‹_› hf) (by decide) hs.tail)
                | exact end1 rfl rfl (fin (applyE_g15 hval htk ‹_› ‹_› hf (by omega)) (by decide) hs.tail.tail)
                | exact end1 rfl rfl (fin (applyE_c15 hval htk ‹_› hf (by rintro ⟨rfl, h⟩; first | omega | simp_all)) (by decide) hs.tail)
                | (have hE := applyE_g0n (f := lf xs) hval htk hc28 hc33 hf
                   refine end1 rfl rfl ⟨_, St.left (L := (p, Blk 29 [.slice ta' (xs.length + 1) tc', .slice ka ks.length kc]) :: (Lt' ++ (Lc ++ rblks ks))) (M := Lv) (by simpa using hs.tail.tail), by rw [hE], ks, ?_, fun _ => rfl, fun h => absurd h.2 (by simp [hc28])⟩
                   rw [applyF, if_pos ⟨hE, hc28⟩]
                   exact ⟨xs ++ [x], _, _, Lt', Lc, rfl, (lf_push x hf).symm, by simpa [lcells, Lz.cells] using hO', hO2, hC, by simp; omega, by omega, by omega⟩)
                | (have hE := applyE_g0 (f := lf xs) hval htk hc28 hc33 hf (by omega)
                   refine end1 rfl rfl ⟨_, St.left (L := (p, Blk 29 [.slice (some ⟨gb, 0, none⟩) xs.length _, .slice ka ks.length kc]) :: (gb, Blk 34 (lcells (xs.set j x) ++ sp)) :: (Lc ++ rblks ks)) (M := Lv) (by simpa using hs.tail.tail), by rw [hE], ks, ?_, fun _ => rfl, fun h => absurd h.2 (by simp [hc28])⟩
                   rw [applyF, if_pos ⟨hE, hc28⟩]
                   refine ⟨xs.set j x, _, _, [_], Lc, rfl, (lf_set hj hyr hno).symm, ?_, hO2, hC, by simp; omega, by omega, by omega⟩
                   rw [List.length_set]
                   exact own_cells hO (by omega) (by rw [flat_length Lz.cells_length, flat_length Lz.cells_length, List.length_set]))
                | (have hyx : y = x := by cases x; cases y; simp_all
                   have hE := applyE_c0 (f := lf xs) hval htk hc28 hf ⟨hyx, by rw [hyx]; omega⟩
                   refine end1 rfl rfl ⟨_, hs.tail.tail, by rw [hE], ks ++ [⟨.slice va bs.length vc, bs, Lv⟩], ?_, fun h => absurd ⟨hE, hc28⟩ h, fun _ => ⟨_, rfl, rfl⟩⟩
                   rw [applyF, if_neg (by simp [hc28])]
                   refine ⟨xs, _, _, [_], Lt', by rw [rblks_snoc]; rfl, rfl, hO, by simpa [rvals] using hO', ?_, by omega, by simp; omega, by omega⟩
                   intro d hd'; rcases List.mem_append.1 hd' with h | h
                   · exact hC d h
                   · simp at h; subst h; exact ⟨hv, hval.2.2.2.2.1⟩)
            · skip
              try simp only [decide_eq_true_eq, decide_eq_false_iff_not, Bool.not_eq_true', Bool.not_eq_false', bne_iff_ne, bne_eq_false_iff_eq, ne_eq, ge_iff_le, gt_iff_lt, Bool.not_eq_true, Bool.not_eq_false] at hg96
              refine D_qn ?_
              refine D_q rfl rfl ?_
              refine WL_take rfl ?_
              refine s_move rfl rfl ?_
              refine D_qn ?_
              refine D_q rfl rfl ?_
              refine WL_take rfl ?_
              refine s_fieldAddr rfl rfl (FA37_1 _ _) ?_
              refine D_qn ?_
              refine D_q rfl rfl ?_
              refine WL_take rfl ?_
              refine s_fieldAddr rfl rfl (FA34_3 _ _) ?_
              refine D_qn ?_
              refine D_q rfl rfl ?_
              refine WL_take rfl ?_
              first
                | refine s_load Try.isAgg3 rfl rfl (hs.cell (k := 0) rfl rfl) ?_
                | refine s_load Try.isAgg3 rfl rfl (hs.cell (k := 1) rfl rfl) ?_
                | refine s_load Try.isAgg3 rfl rfl (hs.cell (k := 2) rfl rfl) ?_
                | refine s_load Try.isAgg3 rfl rfl (hs.cell (k := 3) rfl rfl) ?_
              refine D_qn ?_
              refine D_q rfl rfl ?_
              refine WL_take rfl ?_
              refine s_geq rfl rfl rfl ?_
              refine D_qn ?_
              refine D_q rfl rfl ?_
              refine s_pick_f rfl rfl rfl ?_
              refine D_qn ?_
              refine D_nil ?_
              refine n_then ?_
              refine W_cond rfl (fun hc102 => ?_) (fun hc102 => ?_)
              · skip
                try simp only [decide_eq_true_eq, decide_eq_false_iff_not, Bool.not_eq_true', Bool.not_eq_false', bne_iff_ne, bne_eq_false_iff_eq, ne_eq, ge_iff_le, gt_iff_lt, Bool.not_eq_true, Bool.not_eq_false] at hc102
                refine W_seq ?_
                refine W_region ?_
                refine s_assign rfl rfl ?_
                refine WL_nil ?_
                refine n_then ?_
                refine W_ret ?_
                refine r_then ?_
                first
                  | exact end1 rfl rfl (fin (applyE_bad (.inl ‹_›)) (by decide) hs.tail)
                  | exact end1 rfl rfl (fin (applyE_bad (.inr (by omega))) (by decide) hs.tail)
                  | exact end1 rfl rfl (fin (applyE_g1 hval htk ‹_› ‹_›) (by decide) hs.tail)
                  | exact end1 rfl rfl (fin (applyE_c15n hval htk ‹_› hf) (by decide) hs.tail)
                  | exact end1 rfl rfl (fin (applyE_g15 hval htk ‹_› ‹_› hf (by omega)) (by decide) hs.tail.tail)
                  | exact end1 rfl rfl (fin (applyE_c15 hval htk ‹_› hf (by rintro ⟨rfl, h⟩; first | omega | simp_all)) (by decide) hs.tail)
                  | (have hE := applyE_g0n (f := lf xs) hval htk hc28 hc33 hf
                     refine end1 rfl rfl ⟨_, St.left (L := (p, Blk 29 [.slice ta' (xs.length + 1) tc', .slice ka ks.length kc]) :: (Lt' ++ (Lc ++ rblks ks))) (M := Lv) (by simpa using hs.tail.tail), by rw [hE], ks, ?_, fun _ => rfl, fun h => absurd h.2 (by simp [hc28])⟩
                     rw [applyF, if_pos ⟨hE, hc28⟩]
                     exact ⟨xs ++ [x], _, _, Lt', Lc, rfl, (lf_push x hf).symm, by simpa [lcells, Lz.cells] using hO', hO2, hC, by simp; omega, by omega, by omega⟩)
                  | (have hE := applyE_g0 (f := lf xs) hval htk hc28 hc33 hf (by omega)
                     refine end1 rfl rfl ⟨_, St.left (L := (p, Blk 29 [.slice (some ⟨gb, 0, none⟩) xs.length _, .slice ka ks.length kc]) :: (gb, Blk 34 (lcells (xs.set j x) ++ sp)) :: (Lc ++ rblks ks)) (M := Lv) (by simpa using hs.tail.tail), by rw [hE], ks, ?_, fun _ => rfl, fun h => absurd h.2 (by simp [hc28])⟩
                     rw [applyF, if_pos ⟨hE, hc28⟩]
                     refine ⟨xs.set j x, _, _, [_], Lc, rfl, (lf_set hj hyr hno).symm, ?_, hO2, hC, by simp; omega, by omega, by omega⟩
                     rw [List.length_set]
                     exact own_cells hO (by omega) (by rw [flat_length Lz.cells_length, flat_length Lz.cells_length, List.length_set]))
                  | (have hyx : y = x := by cases x; cases y; simp_all
                     have hE := applyE_c0 (f := lf xs) hval htk hc28 hf ⟨hyx, by rw [hyx]; omega⟩
                     refine end1 rfl rfl ⟨_, hs.tail.tail, by rw [hE], ks ++ [⟨.slice va bs.length vc, bs, Lv⟩], ?_, fun h => absurd ⟨hE, hc28⟩ h, fun _ => ⟨_, rfl, rfl⟩⟩
                     rw [applyF, if_neg (by simp [hc28])]
                     refine ⟨xs, _, _, [_], Lt', by rw [rblks_snoc]; rfl, rfl, hO, by simpa [rvals] using hO', ?_, by omega, by simp; omega, by omega⟩
                     intro d hd'; rcases List.mem_append.1 hd' with h | h
                     · exact hC d h
                     · simp at h; subst h; exact ⟨hv, hval.2.2.2.2.1⟩)
              · skip
                try simp only [decide_eq_true_eq, decide_eq_false_iff_not, Bool.not_eq_true', Bool.not_eq_false', bne_iff_ne, bne_eq_false_iff_eq, ne_eq, ge_iff_le, gt_iff_lt, Bool.not_eq_true, Bool.not_eq_false] at hc102
                refine W_skip ?_
                refine n_then ?_
                refine W_seq ?_
                refine W_draw [(0, true, []), (1, true, []), (2, true, []), (3, true, []), (4, true, []), (5, true, []), (6, true, []), (7, false, [0, 1, 2, 3, 4]), (8, false, [0]), (9, true, []), (10, true, []), (11, false, [])] [[], [], [1], [1, 2], [1, 2, 3], [], [5], [5, 6], [1, 2, 3, 4, 5, 6, 7], [0, 1, 2, 3, 4, 5, 6, 7, 8], [0, 1, 2, 3, 4, 5, 6, 7, 8, 9], [0, 1, 2, 3, 4, 5, 6, 7, 8, 9, 10]] MX (by kernel_rfl) ?_
                intro w1 hw1 hw2 hw3 hw4; replace hs := hs.redrawn hw1 hw2 hw3 hw4; clear hw1 hw2 hw3 hw4
                obtain ⟨w, rfl⟩ : ∃ w : World, w = w1 := ⟨_, rfl⟩
                refine D_q rfl rfl ?_
                refine s_move rfl rfl ?_
                refine D_qn ?_
                refine D_q rfl rfl ?_
                refine s_move rfl rfl ?_
                refine D_qn ?_
                refine D_q rfl rfl ?_
                refine s_nilCheck rfl rfl ?_
                refine D_qn ?_
                refine D_q rfl rfl ?_
                refine s_fieldAddr rfl rfl (FA29_1 _ _) ?_
                refine D_qn ?_
                refine D_q rfl rfl ?_
                first
                  | refine s_load Try.isAgg27 rfl rfl (hs.cell (k := 0) rfl rfl) ?_
                  | refine s_load Try.isAgg27 rfl rfl (hs.cell (k := 1) rfl rfl) ?_
                  | refine s_load Try.isAgg27 rfl rfl (hs.cell (k := 2) rfl rfl) ?_
                  | refine s_load Try.isAgg27 rfl rfl (hs.cell (k := 3) rfl rfl) ?_
                refine D_qn ?_
                refine D_q rfl rfl ?_
                refine s_fieldAddr rfl rfl (FA37_2 _ _) ?_
                refine D_qn ?_
                refine D_q rfl rfl ?_
                first
                  | refine s_load Try.isAgg35 rfl rfl (hs.cell (k := 0) rfl rfl) ?_
                  | refine s_load Try.isAgg35 rfl rfl (hs.cell (k := 1) rfl rfl) ?_
                  | refine s_load Try.isAgg35 rfl rfl (hs.cell (k := 2) rfl rfl) ?_
                  | refine s_load Try.isAgg35 rfl rfl (hs.cell (k := 3) rfl rfl) ?_
                refine D_qn ?_
                refine D_e rfl ?_
                refine s_buildSlice rfl rfl (BS27_1 _ _ _) hs ?_; clear hs; intro b110 w hs
                refine D_en ?re ?_
                case re =>
                  refine Reks_cons rfl rfl rfl rfl ?_ ?_
                  · skip
                    refine s_move rfl rfl ?_
                    exact Rek_end rfl
                  refine Reks_cons rfl rfl rfl rfl ?_ ?_
                  · skip
                    refine s_move rfl rfl ?_
                    exact Rek_end rfl
                  refine Reks_cons rfl rfl rfl rfl ?_ ?_
                  · skip
                    refine s_nilCheck rfl rfl ?_
                    exact Rek_end rfl
                  refine Reks_cons rfl rfl rfl rfl ?_ ?_
                  · skip
                    refine s_fieldAddr rfl rfl (FA29_1 _ _) ?_
                    exact Rek_end rfl
                  refine Reks_cons rfl rfl rfl rfl ?_ ?_
                  · skip
                    first
                      | refine s_load Try.isAgg27 rfl rfl (hs.cell (k := 0) rfl rfl) ?_
                      | refine s_load Try.isAgg27 rfl rfl (hs.cell (k := 1) rfl rfl) ?_
                      | refine s_load Try.isAgg27 rfl rfl (hs.cell (k := 2) rfl rfl) ?_
                      | refine s_load Try.isAgg27 rfl rfl (hs.cell (k := 3) rfl rfl) ?_
                    exact Rek_end rfl
                  exact Reks_nil
                refine D_e rfl ?_
                refine s_appendM (M := [_, _, _, _]) (Lv := Lc) (X := rblks ks ++ Lv) El27 rfl rfl rfl hO2 (by simp only [List.cons_append, List.nil_append, List.append_assoc]; exact hs) (hs.sl (k := 0) (ds := [_]) rfl (Nat.le_refl _) (by intro j u hj; rw [Nat.zero_add]; exact hj)) rfl (by simp [Value.oneCell']) (by omega) ?_
                clear hs; intro tv' w Lt' hO' hs
                obtain ⟨tl', tc', ta', rfl, rfl⟩ := hO'.form
                simp only [List.cons_append, List.nil_append] at hs
                refine D_en ?re ?_
                case re =>
                  refine Reks_cons rfl rfl rfl rfl ?_ ?_
                  · skip
                    refine s_move rfl rfl ?_
                    exact Rek_end rfl
                  exact Reks_nil
                refine D_q rfl rfl ?_
                refine s_nilCheck rfl rfl ?_
                refine D_qn ?_
                refine D_q rfl rfl ?_
                refine s_fieldAddr rfl rfl (FA29_1 _ _) ?_
                refine D_qn ?_
                refine D_e rfl ?_
                first
                  | refine s_storeB Try.sizeOf27 rfl rfl rfl hs (kk := 0) rfl rfl ?_
                  | refine s_storeB Try.sizeOf27 rfl rfl rfl hs (kk := 1) rfl rfl ?_
                  | refine s_storeB Try.sizeOf27 rfl rfl rfl hs (kk := 2) rfl rfl ?_
                  | refine s_storeB Try.sizeOf27 rfl rfl rfl hs (kk := 3) rfl rfl ?_
                clear hs; intro w hs; try simp only [List.set_cons_zero, List.set_cons_succ, splice, List.take_succ_cons, List.take_zero, List.drop_succ_cons, List.drop_zero, List.nil_append, List.cons_append, List.length_cons, List.length_nil, Nat.reduceAdd, List.append_assoc] at hs
                refine D_en ?re ?_
                case re =>
                  exact Reks_nil
                refine D_nil ?_
                refine n_then ?_
                refine W_seq ?_
                refine W_region ?_
                refine s_assign rfl rfl ?_
                refine WL_nil ?_
                refine n_then ?_
                refine W_ret ?_
                first
                  | exact end1 rfl rfl (fin (applyE_bad (.inl ‹_›)) (by decide) hs.tail)
                  | exact end1 rfl rfl (fin (applyE_bad (.inr (by omega))) (by decide) hs.tail)
                  | exact end1 rfl rfl (fin (applyE_g1 hval htk ‹_› ‹_›) (by decide) hs.tail)
                  | exact end1 rfl rfl (fin (applyE_c15n hval htk ‹_› hf) (by decide) hs.tail)
                  | exact end1 rfl rfl (fin (applyE_g15 hval htk ‹_› ‹_› hf (by omega)) (by decide) hs.tail.tail)
                  | exact end1 rfl rfl (fin (applyE_c15 hval htk ‹_› hf (by rintro ⟨rfl, h⟩; first | omega | simp_all)) (by decide) hs.tail)
                  | (have hE := applyE_g0n (f := lf xs) hval htk hc28 hc33 hf
                     refine end1 rfl rfl ⟨_, St.left (L := (p, Blk 29 [.slice ta' (xs.length + 1) tc', .slice ka ks.length kc]) :: (Lt' ++ (Lc ++ rblks ks))) (M := Lv) (by simpa using hs.tail.tail), by rw [hE], ks, ?_, fun _ => rfl, fun h => absurd h.2 (by simp [hc28])⟩
                     rw [applyF, if_pos ⟨hE, hc28⟩]
                     exact ⟨xs ++ [x], _, _, Lt', Lc, rfl, (lf_push x hf).symm, by simpa [lcells, Lz.cells] using hO', hO2, hC, by simp; omega, by omega, by omega⟩)
                  | (have hE := applyE_g0 (f := lf xs) hval htk hc28 hc33 hf (by omega)
                     refine end1 rfl rfl ⟨_, St.left (L := (p, Blk 29 [.slice (some ⟨gb, 0, none⟩) xs.length _, .slice ka ks.length kc]) :: (gb, Blk 34 (lcells (xs.set j x) ++ sp)) :: (Lc ++ rblks ks)) (M := Lv) (by simpa using hs.tail.tail), by rw [hE], ks, ?_, fun _ => rfl, fun h => absurd h.2 (by simp [hc28])⟩
                     rw [applyF, if_pos ⟨hE, hc28⟩]
                     refine ⟨xs.set j x, _, _, [_], Lc, rfl, (lf_set hj hyr hno).symm, ?_, hO2, hC, by simp; omega, by omega, by omega⟩
                     rw [List.length_set]
                     exact own_cells hO (by omega) (by rw [flat_length Lz.cells_length, flat_length Lz.cells_length, List.length_set]))
                  | (have hyx : y = x := by cases x; cases y; simp_all
                     have hE := applyE_c0 (f := lf xs) hval htk hc28 hf ⟨hyx, by rw [hyx]; omega⟩
                     refine end1 rfl rfl ⟨_, hs.tail.tail, by rw [hE], ks ++ [⟨.slice va bs.length vc, bs, Lv⟩], ?_, fun h => absurd ⟨hE, hc28⟩ h, fun _ => ⟨_, rfl, rfl⟩⟩
                     rw [applyF, if_neg (by simp [hc28])]
                     refine ⟨xs, _, _, [_], Lt', by rw [rblks_snoc]; rfl, rfl, hO, by simpa [rvals] using hO', ?_, by omega, by simp; omega, by omega⟩
                     intro d hd'; rcases List.mem_append.1 hd' with h | h
                     · exact hC d h
                     · simp at h; subst h; exact ⟨hv, hval.2.2.2.2.1⟩)
/-! entries -/
theorem plain_ok (g : Bool) (x : Lz) (a : Option Addr) (n c : Nat) (w0 : World) :
    Ret Try.prog 18 [.agg #[.bool g, .string x.rule, .int .i64 x.holder, .int .i64 x.token, .int .i64 x.til, .slice a n c]].toArray w0 fun r w' => Fwd [] w0 w' ∧ r = .agg #[.bool g, .string x.rule, .int .i64 x.holder, .int .i64 x.token, .int .i64 x.til, .slice a n c] := by
  refine Ret_start fun w hs => ?_
  refine Ret_of Try.func18 rfl Try.ntmps18 rfl ?_
  refine W_seq ?_
  refine W_region ?_
  first | refine s_box rfl rfl hs ?_ | refine s_box1 rfl rfl rfl hs ?_
  clear hs; intro b1 w hs
  refine s_alloc rfl AL37 hs ?_; clear hs; intro b2 w hs
  refine WL_nil ?_
  refine n_then ?_
  refine W_seq ?_
  refine W_region ?_
  refine s_fieldAddr rfl rfl (FA41_0 _ _) ?_
  first
    | refine s_load Try.isAgg4 rfl rfl (hs.cell (k := 0) rfl rfl) ?_
    | refine s_load Try.isAgg4 rfl rfl (hs.cell (k := 1) rfl rfl) ?_
    | refine s_load Try.isAgg4 rfl rfl (hs.cell (k := 2) rfl rfl) ?_
  refine s_fieldAddr rfl rfl (FA41_1 _ _) ?_
  first
    | refine s_loadW Try.isAgg34 Try.sizeOf34 rfl rfl hs (kk := 0) rfl rfl ?_
    | refine s_loadW Try.isAgg34 Try.sizeOf34 rfl rfl hs (kk := 1) rfl rfl ?_
    | refine s_loadW Try.isAgg34 Try.sizeOf34 rfl rfl hs (kk := 2) rfl rfl ?_
    | refine s_load_4 Try.isAgg34 Try.sizeOf34 rfl rfl (by first | exact hs.cell (k := 0) rfl rfl | exact hs.cell (k := 1) rfl rfl | exact hs.cell (k := 2) rfl rfl) (by first | exact hs.cell (k := 0) rfl rfl | exact hs.cell (k := 1) rfl rfl | exact hs.cell (k := 2) rfl rfl) (by first | exact hs.cell (k := 0) rfl rfl | exact hs.cell (k := 1) rfl rfl | exact hs.cell (k := 2) rfl rfl) (by first | exact hs.cell (k := 0) rfl rfl | exact hs.cell (k := 1) rfl rfl | exact hs.cell (k := 2) rfl rfl) ?_
  refine s_fieldAddr rfl rfl (FA41_2 _ _) ?_
  first
    | refine s_load Try.isAgg35 rfl rfl (hs.cell (k := 0) rfl rfl) ?_
    | refine s_load Try.isAgg35 rfl rfl (hs.cell (k := 1) rfl rfl) ?_
    | refine s_load Try.isAgg35 rfl rfl (hs.cell (k := 2) rfl rfl) ?_
  refine s_build rfl rfl (BD37_0_1_2 _ _ _ _ _ _ _ _) ?_
  first
    | refine s_storeW Try.sizeOf37 rfl rfl rfl rfl hs (kk := 0) rfl rfl ?_
    | refine s_storeW Try.sizeOf37 rfl rfl rfl rfl hs (kk := 1) rfl rfl ?_
    | refine s_storeW Try.sizeOf37 rfl rfl rfl rfl hs (kk := 2) rfl rfl ?_
    | refine s_storeAB Try.sizeOf37 rfl rfl rfl rfl hs (kk := 0) rfl rfl ?_
    | refine s_storeAB Try.sizeOf37 rfl rfl rfl rfl hs (kk := 1) rfl rfl ?_
    | refine s_storeAB Try.sizeOf37 rfl rfl rfl rfl hs (kk := 2) rfl rfl ?_
  clear hs; intro w hs; try simp only [List.set_cons_zero, List.set_cons_succ, splice, List.take_succ_cons, List.take_zero, List.drop_succ_cons, List.drop_zero, List.nil_append, List.cons_append, List.length_cons, List.length_nil, Nat.reduceAdd, List.append_assoc] at hs
  refine WL_nil ?_
  refine n_then ?_
  refine W_ret ?_
  refine end1 rfl (resOk_block Try.isAgg37 Try.sizeOf37 hs rfl (kk := 0) rfl rfl) ?_
  exact ⟨hs.fwd, rfl⟩
theorem same_ok (g h : Bool) (x y : Lz) (va vb : Value) (bs cs : List Int) (w0 : World) (ha : Sl w0 va bs.length (u8s bs)) (hb : Sl w0 vb cs.length (u8s cs)) (hl : bs.length ≤ 4611686018427387904) :
    Ret Try.prog 17 [.agg #[.bool g, .string x.rule, .int .i64 x.holder, .int .i64 x.token, .int .i64 x.til, va], .agg #[.bool h, .string y.rule, .int .i64 y.holder, .int .i64 y.token, .int .i64 y.til, vb]].toArray w0 fun r w' => Fwd [] w0 w' ∧ r = .bool (decide (g = h ∧ x = y ∧ bs = cs)) := by
  obtain ⟨aa, ac, rfl, _⟩ := ha.len_le
  obtain ⟨ba, bc, rfl, _⟩ := hb.len_le
  refine Ret_start fun w hs => ?_
  refine Ret_of Try.func17 rfl Try.ntmps17 rfl ?_
  refine W_seq ?_
  refine W_region ?_
  first | refine s_box rfl rfl hs ?_ | refine s_box1 rfl rfl rfl hs ?_
  clear hs; intro b2 w hs
  first | refine s_box rfl rfl hs ?_ | refine s_box1 rfl rfl rfl hs ?_
  clear hs; intro b3 w hs
  refine s_assign rfl rfl ?_
  refine WL_nil ?_
  refine n_then ?_
  refine W_seq ?_
  refine W_region ?_
  refine s_fieldAddr rfl rfl (FA37_0 _ _) ?_
  first
    | refine s_load Try.isAgg4 rfl rfl (hs.cell (k := 0) rfl rfl) ?_
    | refine s_load Try.isAgg4 rfl rfl (hs.cell (k := 1) rfl rfl) ?_
    | refine s_load Try.isAgg4 rfl rfl (hs.cell (k := 2) rfl rfl) ?_
  refine s_fieldAddr rfl rfl (FA37_0 _ _) ?_
  first
    | refine s_load Try.isAgg4 rfl rfl (hs.cell (k := 0) rfl rfl) ?_
    | refine s_load Try.isAgg4 rfl rfl (hs.cell (k := 1) rfl rfl) ?_
    | refine s_load Try.isAgg4 rfl rfl (hs.cell (k := 2) rfl rfl) ?_
  refine s_eql_bool Try.underlying4 rfl rfl rfl ?_
  refine s_move rfl rfl ?_
  refine WL_case (s := 10) rfl (fun hg10 => ?_) (fun hg10 => ?_)
  · skip
    try simp only [decide_eq_true_eq, decide_eq_false_iff_not, beq_iff_eq, beq_eq_false_iff_ne, ne_eq] at hg10
    refine WL_take rfl ?_
    refine s_fieldAddr rfl rfl (FA37_1 _ _) ?_
    refine WL_take rfl ?_
    first
      | refine s_loadW Try.isAgg34 Try.sizeOf34 rfl rfl hs (kk := 0) rfl rfl ?_
      | refine s_loadW Try.isAgg34 Try.sizeOf34 rfl rfl hs (kk := 1) rfl rfl ?_
      | refine s_loadW Try.isAgg34 Try.sizeOf34 rfl rfl hs (kk := 2) rfl rfl ?_
      | refine s_load_4 Try.isAgg34 Try.sizeOf34 rfl rfl (by first | exact hs.cell (k := 0) rfl rfl | exact hs.cell (k := 1) rfl rfl | exact hs.cell (k := 2) rfl rfl) (by first | exact hs.cell (k := 0) rfl rfl | exact hs.cell (k := 1) rfl rfl | exact hs.cell (k := 2) rfl rfl) (by first | exact hs.cell (k := 0) rfl rfl | exact hs.cell (k := 1) rfl rfl | exact hs.cell (k := 2) rfl rfl) (by first | exact hs.cell (k := 0) rfl rfl | exact hs.cell (k := 1) rfl rfl | exact hs.cell (k := 2) rfl rfl) ?_
    refine WL_take rfl ?_
    refine s_fieldAddr rfl rfl (FA37_1 _ _) ?_
    refine WL_take rfl ?_
    first
      | refine s_loadW Try.isAgg34 Try.sizeOf34 rfl rfl hs (kk := 0) rfl rfl ?_
      | refine s_loadW Try.isAgg34 Try.sizeOf34 rfl rfl hs (kk := 1) rfl rfl ?_
      | refine s_loadW Try.isAgg34 Try.sizeOf34 rfl rfl hs (kk := 2) rfl rfl ?_
      | refine s_load_4 Try.isAgg34 Try.sizeOf34 rfl rfl (by first | exact hs.cell (k := 0) rfl rfl | exact hs.cell (k := 1) rfl rfl | exact hs.cell (k := 2) rfl rfl) (by first | exact hs.cell (k := 0) rfl rfl | exact hs.cell (k := 1) rfl rfl | exact hs.cell (k := 2) rfl rfl) (by first | exact hs.cell (k := 0) rfl rfl | exact hs.cell (k := 1) rfl rfl | exact hs.cell (k := 2) rfl rfl) (by first | exact hs.cell (k := 0) rfl rfl | exact hs.cell (k := 1) rfl rfl | exact hs.cell (k := 2) rfl rfl) ?_
    refine WL_take rfl ?_
    refine s_eql_agg EG34 rfl rfl rfl (SE34 _ _ _ _ _ _ _ _) ?_
    refine s_pick_t rfl rfl rfl ?_
    refine s_move rfl rfl ?_
    refine WL_case (s := 17) rfl (fun hg17 => ?_) (fun hg17 => ?_)
    · skip
      try simp only [decide_eq_true_eq, decide_eq_false_iff_not, beq_iff_eq, beq_eq_false_iff_ne, ne_eq] at hg17
      refine WL_take rfl ?_
      refine s_fieldAddr rfl rfl (FA37_2 _ _) ?_
      refine WL_take rfl ?_
      first
        | refine s_load Try.isAgg35 rfl rfl (hs.cell (k := 0) rfl rfl) ?_
        | refine s_load Try.isAgg35 rfl rfl (hs.cell (k := 1) rfl rfl) ?_
        | refine s_load Try.isAgg35 rfl rfl (hs.cell (k := 2) rfl rfl) ?_
      refine WL_take rfl ?_
      refine s_fieldAddr rfl rfl (FA37_2 _ _) ?_
      refine WL_take rfl ?_
      first
        | refine s_load Try.isAgg35 rfl rfl (hs.cell (k := 0) rfl rfl) ?_
        | refine s_load Try.isAgg35 rfl rfl (hs.cell (k := 1) rfl rfl) ?_
        | refine s_load Try.isAgg35 rfl rfl (hs.cell (k := 2) rfl rfl) ?_
      refine WL_take rfl ?_
      refine s_call Try.call29 rfl rfl (sameBytes_ok _ _ bs cs w (ha.fwd0 hs.fwd) (hb.fwd0 hs.fwd) hl) ?_
      rintro r w ⟨hst, rfl⟩
      replace hs := hs.fwd1 hst
      clear hst
      refine s_pick_t rfl rfl rfl ?_
      refine s_assign rfl rfl ?_
      refine WL_nil ?_
      refine n_then ?_
      refine W_ret ?_
      refine end1 rfl rfl ⟨hs.fwd, congrArg Value.bool ?_⟩
      first
        | (symm; rw [decide_eq_false_iff_not]; rintro ⟨rfl, rfl, rfl⟩; simp_all; done)
        | (have hxy : x = y := by cases x; cases y; simp_all
           rw [decide_eq_decide]; simp_all)
    · skip
      try simp only [decide_eq_true_eq, decide_eq_false_iff_not, beq_iff_eq, beq_eq_false_iff_ne, ne_eq] at hg17
      refine WL_skip rfl rfl rfl ?_
      refine WL_skip rfl rfl rfl ?_
      refine WL_skip rfl rfl rfl ?_
      refine WL_skip rfl rfl rfl ?_
      refine WL_skip rfl rfl rfl ?_
      refine s_pick_f rfl rfl rfl ?_
      refine s_assign rfl rfl ?_
      refine WL_nil ?_
      refine n_then ?_
      refine W_ret ?_
      refine end1 rfl rfl ⟨hs.fwd, congrArg Value.bool ?_⟩
      first
        | (symm; rw [decide_eq_false_iff_not]; rintro ⟨rfl, rfl, rfl⟩; simp_all; done)
        | (have hxy : x = y := by cases x; cases y; simp_all
           rw [decide_eq_decide]; simp_all)
  · skip
    try simp only [decide_eq_true_eq, decide_eq_false_iff_not, beq_iff_eq, beq_eq_false_iff_ne, ne_eq] at hg10
    refine WL_skip rfl rfl rfl ?_
    refine WL_skip rfl rfl rfl ?_
    refine WL_skip rfl rfl rfl ?_
    refine WL_skip rfl rfl rfl ?_
    refine WL_skip rfl rfl rfl ?_
    refine s_pick_f rfl rfl rfl ?_
    refine s_move rfl rfl ?_
    refine WL_skip rfl rfl rfl ?_
    refine WL_skip rfl rfl rfl ?_
    refine WL_skip rfl rfl rfl ?_
    refine WL_skip rfl rfl rfl ?_
    refine WL_skip rfl rfl rfl ?_
    refine s_pick_f rfl rfl rfl ?_
    refine s_assign rfl rfl ?_
    refine WL_nil ?_
    refine n_then ?_
    refine W_ret ?_
    refine end1 rfl rfl ⟨hs.fwd, congrArg Value.bool ?_⟩
    first
      | (symm; rw [decide_eq_false_iff_not]; rintro ⟨rfl, rfl, rfl⟩; simp_all; done)
      | (have hxy : x = y := by cases x; cases y; simp_all
         rw [decide_eq_decide]; simp_all)
theorem short_ok (s : ByteArray) (m : Nat) (w0 : World) : Ret Try.prog 14 [.string s, .int .i64 (m : Int)].toArray w0 fun r w' => w' = w0 ∧ ∃ s', r = .string s' ∧ s'.size ≤ m := by
  refine Ret_of Try.func14 rfl Try.ntmps14 rfl ?_
  refine W_seq ?_
  refine W_region ?_
  refine s_assign rfl rfl ?_
  refine WL_nil ?_
  refine n_then ?_
  refine W_seq ?_
  refine W_seq ?_
  refine W_region ?_
  refine s_move rfl rfl ?_
  refine s_len rfl rfl (LN9 _ _) ?_
  refine s_move rfl rfl ?_
  refine s_gtr rfl rfl rfl ?_
  refine WL_nil ?_
  refine n_then ?_
  refine W_cond rfl (fun hc8 => ?_) (fun hc8 => ?_)
  · skip
    simp only [decide_eq_true_eq, decide_eq_false_iff_not, gt_iff_lt] at hc8
    refine W_seq ?_
    refine W_region ?_
    refine s_move rfl rfl ?_
    refine s_move rfl rfl ?_
    (refine s_slice_Sh Try.underlying9 rfl rfl rfl ?hx ?_; case hx => (constructor <;> omega))
    refine s_assign rfl rfl ?_
    refine WL_nil ?_
    refine n_then ?_
    refine W_ret ?_
    refine r_then ?_
    first
      | exact end1 rfl rfl ⟨rfl, _, rfl, by rw [ByteArray.size_extract]; omega⟩
      | exact end1 rfl rfl ⟨rfl, s, rfl, by omega⟩
  · skip
    simp only [decide_eq_true_eq, decide_eq_false_iff_not, gt_iff_lt] at hc8
    refine W_skip ?_
    refine n_then ?_
    refine W_seq ?_
    refine W_region ?_
    refine s_move rfl rfl ?_
    refine s_assign rfl rfl ?_
    refine WL_nil ?_
    refine n_then ?_
    refine W_ret ?_
    first
      | exact end1 rfl rfl ⟨rfl, _, rfl, by rw [ByteArray.size_extract]; omega⟩
      | exact end1 rfl rfl ⟨rfl, s, rfl, by omega⟩
set_option maxHeartbeats 1000000 in
theorem bent_ok (g : Bool) (x : Lz) (v : Value) (bs : List Int) (at_ n : Int) (s : ByteArray) (Lv : Hp) (w0 : World) (hv : RdS v bs.length (u8s bs) Lv) (hvf : ∃ a m c, v = .slice a m c) (hat : isI64 at_) :
    Ret Try.prog 13 [.agg #[.bool g, .string x.rule, .int .i64 x.holder, .int .i64 x.token, .int .i64 x.til, v], .int .i64 at_, .int .i64 n, .string s].toArray w0 fun r w' => ∃ (Ln : Hp) (g' : Bool) (x' : Lz) (v' : Value) (bs' : List Int), r = .agg #[.bool g', .string x'.rule, .int .i64 x'.holder, .int .i64 x'.token, .int .i64 x'.til, v'] ∧ RdS v' bs'.length (u8s bs') (Ln ++ Lv) ∧ (∃ a m c, v' = .slice a m c) ∧ St [] w0 w' Ln ∧ (bs' = bs ∨ bs'.length = s.size) := by
  obtain ⟨va, vn, vc, rfl⟩ := hvf
  have har := aroundV_range (m := at_) (q := 6) (by omega)
  refine Ret_start fun w hs => ?_
  refine Ret_of Try.func13 rfl Try.ntmps13 rfl ?_
  refine W_seq ?_
  refine W_region ?_
  first | refine s_box rfl rfl hs ?_ | refine s_box1 rfl rfl rfl hs ?_
  clear hs; intro b4 w hs
  refine s_alloc rfl AL37 hs ?_; clear hs; intro b8 w hs
  refine WL_nil ?_
  refine n_then ?_
  refine W_seq ?_
  refine W_seq ?_
  refine W_region ?_
  refine s_move rfl rfl ?_
  refine s_call Try.call10 rfl rfl (around_ok at_ 6 w (by omega) hat) ?_
  rintro r w1 ⟨hw1, rfl⟩
  rw [hw1]; clear hw1 w1
  refine WL_nil ?_
  refine n_then ?_
  refine W_block ?_
  refine W_seq ?_
  refine W_region ?_
  refine s_eql rfl rfl rfl ?_
  refine s_assign rfl rfl ?_
  refine WL_nil ?_
  refine n_then ?_
  refine W_cond rfl (fun hc14 => ?_) (fun hc14 => ?_)
  · skip
    refine W_region ?_
    refine s_fieldAddr rfl rfl (FA37_0 _ _) ?_
    first
      | refine s_load Try.isAgg4 rfl rfl (hs.cell (k := 0) rfl rfl) ?_
      | refine s_load Try.isAgg4 rfl rfl (hs.cell (k := 1) rfl rfl) ?_
      | refine s_load Try.isAgg4 rfl rfl (hs.cell (k := 2) rfl rfl) ?_
    refine s_not rfl rfl ?_
    refine s_fieldAddr rfl rfl (FA37_0 _ _) ?_
    first
      | refine s_storeB Try.sizeOf4 rfl rfl rfl hs (kk := 0) rfl rfl ?_
      | refine s_storeB Try.sizeOf4 rfl rfl rfl hs (kk := 1) rfl rfl ?_
      | refine s_storeB Try.sizeOf4 rfl rfl rfl hs (kk := 2) rfl rfl ?_
    clear hs; intro w hs; try simp only [List.set_cons_zero, List.set_cons_succ, splice, List.take_succ_cons, List.take_zero, List.drop_succ_cons, List.drop_zero, List.nil_append, List.cons_append, List.length_cons, List.length_nil, Nat.reduceAdd, List.append_assoc] at hs
    refine WL_nil ?_
    refine n_blk ?_
    refine n_then ?_
    refine W_seq ?_
    refine W_region ?_
    first
      | refine s_loadW Try.isAgg37 Try.sizeOf37 rfl rfl hs (kk := 0) rfl rfl ?_
      | refine s_loadW Try.isAgg37 Try.sizeOf37 rfl rfl hs (kk := 1) rfl rfl ?_
      | refine s_loadW Try.isAgg37 Try.sizeOf37 rfl rfl hs (kk := 2) rfl rfl ?_
      | refine s_load_6 Try.isAgg37 Try.sizeOf37 rfl rfl (by first | exact hs.cell (k := 0) rfl rfl | exact hs.cell (k := 1) rfl rfl | exact hs.cell (k := 2) rfl rfl) (by first | exact hs.cell (k := 0) rfl rfl | exact hs.cell (k := 1) rfl rfl | exact hs.cell (k := 2) rfl rfl) (by first | exact hs.cell (k := 0) rfl rfl | exact hs.cell (k := 1) rfl rfl | exact hs.cell (k := 2) rfl rfl) (by first | exact hs.cell (k := 0) rfl rfl | exact hs.cell (k := 1) rfl rfl | exact hs.cell (k := 2) rfl rfl) (by first | exact hs.cell (k := 0) rfl rfl | exact hs.cell (k := 1) rfl rfl | exact hs.cell (k := 2) rfl rfl) (by first | exact hs.cell (k := 0) rfl rfl | exact hs.cell (k := 1) rfl rfl | exact hs.cell (k := 2) rfl rfl) ?_
    first
      | refine s_storeW Try.sizeOf37 rfl rfl rfl rfl hs (kk := 0) rfl rfl ?_
      | refine s_storeW Try.sizeOf37 rfl rfl rfl rfl hs (kk := 1) rfl rfl ?_
      | refine s_storeW Try.sizeOf37 rfl rfl rfl rfl hs (kk := 2) rfl rfl ?_
      | refine s_storeAB Try.sizeOf37 rfl rfl rfl rfl hs (kk := 0) rfl rfl ?_
      | refine s_storeAB Try.sizeOf37 rfl rfl rfl rfl hs (kk := 1) rfl rfl ?_
      | refine s_storeAB Try.sizeOf37 rfl rfl rfl rfl hs (kk := 2) rfl rfl ?_
    clear hs; intro w hs; try simp only [List.set_cons_zero, List.set_cons_succ, splice, List.take_succ_cons, List.take_zero, List.drop_succ_cons, List.drop_zero, List.nil_append, List.cons_append, List.length_cons, List.length_nil, Nat.reduceAdd, List.append_assoc] at hs
    refine WL_nil ?_
    refine n_then ?_
    refine W_ret ?_
    first
      | (refine end1 rfl (resOk_block Try.isAgg37 Try.sizeOf37 hs rfl (kk := 0) rfl rfl) ?_
         first
           | exact ⟨[], _, ⟨s, x.holder, x.token, x.til⟩, _, bs, rfl, hv, ⟨_, _, _, rfl⟩, hs.tail.tail, .inl rfl⟩
           | exact ⟨[], _, ⟨x.rule, n, x.token, x.til⟩, _, bs, rfl, hv, ⟨_, _, _, rfl⟩, hs.tail.tail, .inl rfl⟩
           | exact ⟨[], _, ⟨x.rule, x.holder, n, x.til⟩, _, bs, rfl, hv, ⟨_, _, _, rfl⟩, hs.tail.tail, .inl rfl⟩
           | exact ⟨[], _, ⟨x.rule, x.holder, x.token, n⟩, _, bs, rfl, hv, ⟨_, _, _, rfl⟩, hs.tail.tail, .inl rfl⟩
           | exact ⟨[], _, x, _, bs, rfl, hv, ⟨_, _, _, rfl⟩, hs.tail.tail, .inl rfl⟩)
      | (refine end1 rfl (resOk_block Try.isAgg37 Try.sizeOf37 hs rfl (kk := 1) rfl rfl) ?_
         exact ⟨[_], _, x, _, bytesOf s, rfl, rds_more hrd [] Lv, ⟨_, _, _, rfl⟩, St.left (L := [_]) hs, .inr rfl⟩)
  · skip
    refine W_seq ?_
    refine W_region ?_
    refine s_eql rfl rfl rfl ?_
    refine s_assign rfl rfl ?_
    refine WL_nil ?_
    refine n_then ?_
    refine W_cond rfl (fun hc20 => ?_) (fun hc20 => ?_)
    · skip
      refine W_region ?_
      refine s_move rfl rfl ?_
      refine s_fieldAddr rfl rfl (FA37_1 _ _) ?_
      refine s_fieldAddr rfl rfl (FA34_0 _ _) ?_
      first
        | refine s_storeB Try.sizeOf9 rfl rfl rfl hs (kk := 0) rfl rfl ?_
        | refine s_storeB Try.sizeOf9 rfl rfl rfl hs (kk := 1) rfl rfl ?_
        | refine s_storeB Try.sizeOf9 rfl rfl rfl hs (kk := 2) rfl rfl ?_
      clear hs; intro w hs; try simp only [List.set_cons_zero, List.set_cons_succ, splice, List.take_succ_cons, List.take_zero, List.drop_succ_cons, List.drop_zero, List.nil_append, List.cons_append, List.length_cons, List.length_nil, Nat.reduceAdd, List.append_assoc] at hs
      refine WL_nil ?_
      refine n_blk ?_
      refine n_then ?_
      refine W_seq ?_
      refine W_region ?_
      first
        | refine s_loadW Try.isAgg37 Try.sizeOf37 rfl rfl hs (kk := 0) rfl rfl ?_
        | refine s_loadW Try.isAgg37 Try.sizeOf37 rfl rfl hs (kk := 1) rfl rfl ?_
        | refine s_loadW Try.isAgg37 Try.sizeOf37 rfl rfl hs (kk := 2) rfl rfl ?_
        | refine s_load_6 Try.isAgg37 Try.sizeOf37 rfl rfl (by first | exact hs.cell (k := 0) rfl rfl | exact hs.cell (k := 1) rfl rfl | exact hs.cell (k := 2) rfl rfl) (by first | exact hs.cell (k := 0) rfl rfl | exact hs.cell (k := 1) rfl rfl | exact hs.cell (k := 2) rfl rfl) (by first | exact hs.cell (k := 0) rfl rfl | exact hs.cell (k := 1) rfl rfl | exact hs.cell (k := 2) rfl rfl) (by first | exact hs.cell (k := 0) rfl rfl | exact hs.cell (k := 1) rfl rfl | exact hs.cell (k := 2) rfl rfl) (by first | exact hs.cell (k := 0) rfl rfl | exact hs.cell (k := 1) rfl rfl | exact hs.cell (k := 2) rfl rfl) (by first | exact hs.cell (k := 0) rfl rfl | exact hs.cell (k := 1) rfl rfl | exact hs.cell (k := 2) rfl rfl) ?_
      first
        | refine s_storeW Try.sizeOf37 rfl rfl rfl rfl hs (kk := 0) rfl rfl ?_
        | refine s_storeW Try.sizeOf37 rfl rfl rfl rfl hs (kk := 1) rfl rfl ?_
        | refine s_storeW Try.sizeOf37 rfl rfl rfl rfl hs (kk := 2) rfl rfl ?_
        | refine s_storeAB Try.sizeOf37 rfl rfl rfl rfl hs (kk := 0) rfl rfl ?_
        | refine s_storeAB Try.sizeOf37 rfl rfl rfl rfl hs (kk := 1) rfl rfl ?_
        | refine s_storeAB Try.sizeOf37 rfl rfl rfl rfl hs (kk := 2) rfl rfl ?_
      clear hs; intro w hs; try simp only [List.set_cons_zero, List.set_cons_succ, splice, List.take_succ_cons, List.take_zero, List.drop_succ_cons, List.drop_zero, List.nil_append, List.cons_append, List.length_cons, List.length_nil, Nat.reduceAdd, List.append_assoc] at hs
      refine WL_nil ?_
      refine n_then ?_
      refine W_ret ?_
      first
        | (refine end1 rfl (resOk_block Try.isAgg37 Try.sizeOf37 hs rfl (kk := 0) rfl rfl) ?_
           first
             | exact ⟨[], _, ⟨s, x.holder, x.token, x.til⟩, _, bs, rfl, hv, ⟨_, _, _, rfl⟩, hs.tail.tail, .inl rfl⟩
             | exact ⟨[], _, ⟨x.rule, n, x.token, x.til⟩, _, bs, rfl, hv, ⟨_, _, _, rfl⟩, hs.tail.tail, .inl rfl⟩
             | exact ⟨[], _, ⟨x.rule, x.holder, n, x.til⟩, _, bs, rfl, hv, ⟨_, _, _, rfl⟩, hs.tail.tail, .inl rfl⟩
             | exact ⟨[], _, ⟨x.rule, x.holder, x.token, n⟩, _, bs, rfl, hv, ⟨_, _, _, rfl⟩, hs.tail.tail, .inl rfl⟩
             | exact ⟨[], _, x, _, bs, rfl, hv, ⟨_, _, _, rfl⟩, hs.tail.tail, .inl rfl⟩)
        | (refine end1 rfl (resOk_block Try.isAgg37 Try.sizeOf37 hs rfl (kk := 1) rfl rfl) ?_
           exact ⟨[_], _, x, _, bytesOf s, rfl, rds_more hrd [] Lv, ⟨_, _, _, rfl⟩, St.left (L := [_]) hs, .inr rfl⟩)
    · skip
      refine W_seq ?_
      refine W_region ?_
      refine s_eql rfl rfl rfl ?_
      refine s_assign rfl rfl ?_
      refine WL_nil ?_
      refine n_then ?_
      refine W_cond rfl (fun hc25 => ?_) (fun hc25 => ?_)
      · skip
        refine W_region ?_
        refine s_move rfl rfl ?_
        refine s_fieldAddr rfl rfl (FA37_1 _ _) ?_
        refine s_fieldAddr rfl rfl (FA34_1 _ _) ?_
        first
          | refine s_storeB Try.sizeOf3 rfl rfl rfl hs (kk := 0) rfl rfl ?_
          | refine s_storeB Try.sizeOf3 rfl rfl rfl hs (kk := 1) rfl rfl ?_
          | refine s_storeB Try.sizeOf3 rfl rfl rfl hs (kk := 2) rfl rfl ?_
        clear hs; intro w hs; try simp only [List.set_cons_zero, List.set_cons_succ, splice, List.take_succ_cons, List.take_zero, List.drop_succ_cons, List.drop_zero, List.nil_append, List.cons_append, List.length_cons, List.length_nil, Nat.reduceAdd, List.append_assoc] at hs
        refine WL_nil ?_
        refine n_blk ?_
        refine n_then ?_
        refine W_seq ?_
        refine W_region ?_
        first
          | refine s_loadW Try.isAgg37 Try.sizeOf37 rfl rfl hs (kk := 0) rfl rfl ?_
          | refine s_loadW Try.isAgg37 Try.sizeOf37 rfl rfl hs (kk := 1) rfl rfl ?_
          | refine s_loadW Try.isAgg37 Try.sizeOf37 rfl rfl hs (kk := 2) rfl rfl ?_
          | refine s_load_6 Try.isAgg37 Try.sizeOf37 rfl rfl (by first | exact hs.cell (k := 0) rfl rfl | exact hs.cell (k := 1) rfl rfl | exact hs.cell (k := 2) rfl rfl) (by first | exact hs.cell (k := 0) rfl rfl | exact hs.cell (k := 1) rfl rfl | exact hs.cell (k := 2) rfl rfl) (by first | exact hs.cell (k := 0) rfl rfl | exact hs.cell (k := 1) rfl rfl | exact hs.cell (k := 2) rfl rfl) (by first | exact hs.cell (k := 0) rfl rfl | exact hs.cell (k := 1) rfl rfl | exact hs.cell (k := 2) rfl rfl) (by first | exact hs.cell (k := 0) rfl rfl | exact hs.cell (k := 1) rfl rfl | exact hs.cell (k := 2) rfl rfl) (by first | exact hs.cell (k := 0) rfl rfl | exact hs.cell (k := 1) rfl rfl | exact hs.cell (k := 2) rfl rfl) ?_
        first
          | refine s_storeW Try.sizeOf37 rfl rfl rfl rfl hs (kk := 0) rfl rfl ?_
          | refine s_storeW Try.sizeOf37 rfl rfl rfl rfl hs (kk := 1) rfl rfl ?_
          | refine s_storeW Try.sizeOf37 rfl rfl rfl rfl hs (kk := 2) rfl rfl ?_
          | refine s_storeAB Try.sizeOf37 rfl rfl rfl rfl hs (kk := 0) rfl rfl ?_
          | refine s_storeAB Try.sizeOf37 rfl rfl rfl rfl hs (kk := 1) rfl rfl ?_
          | refine s_storeAB Try.sizeOf37 rfl rfl rfl rfl hs (kk := 2) rfl rfl ?_
        clear hs; intro w hs; try simp only [List.set_cons_zero, List.set_cons_succ, splice, List.take_succ_cons, List.take_zero, List.drop_succ_cons, List.drop_zero, List.nil_append, List.cons_append, List.length_cons, List.length_nil, Nat.reduceAdd, List.append_assoc] at hs
        refine WL_nil ?_
        refine n_then ?_
        refine W_ret ?_
        first
          | (refine end1 rfl (resOk_block Try.isAgg37 Try.sizeOf37 hs rfl (kk := 0) rfl rfl) ?_
             first
               | exact ⟨[], _, ⟨s, x.holder, x.token, x.til⟩, _, bs, rfl, hv, ⟨_, _, _, rfl⟩, hs.tail.tail, .inl rfl⟩
               | exact ⟨[], _, ⟨x.rule, n, x.token, x.til⟩, _, bs, rfl, hv, ⟨_, _, _, rfl⟩, hs.tail.tail, .inl rfl⟩
               | exact ⟨[], _, ⟨x.rule, x.holder, n, x.til⟩, _, bs, rfl, hv, ⟨_, _, _, rfl⟩, hs.tail.tail, .inl rfl⟩
               | exact ⟨[], _, ⟨x.rule, x.holder, x.token, n⟩, _, bs, rfl, hv, ⟨_, _, _, rfl⟩, hs.tail.tail, .inl rfl⟩
               | exact ⟨[], _, x, _, bs, rfl, hv, ⟨_, _, _, rfl⟩, hs.tail.tail, .inl rfl⟩)
          | (refine end1 rfl (resOk_block Try.isAgg37 Try.sizeOf37 hs rfl (kk := 1) rfl rfl) ?_
             exact ⟨[_], _, x, _, bytesOf s, rfl, rds_more hrd [] Lv, ⟨_, _, _, rfl⟩, St.left (L := [_]) hs, .inr rfl⟩)
      · skip
        refine W_seq ?_
        refine W_region ?_
        refine s_eql rfl rfl rfl ?_
        refine s_assign rfl rfl ?_
        refine WL_nil ?_
        refine n_then ?_
        refine W_cond rfl (fun hc30 => ?_) (fun hc30 => ?_)
        · skip
          refine W_region ?_
          refine s_move rfl rfl ?_
          refine s_fieldAddr rfl rfl (FA37_1 _ _) ?_
          refine s_fieldAddr rfl rfl (FA34_2 _ _) ?_
          first
            | refine s_storeB Try.sizeOf3 rfl rfl rfl hs (kk := 0) rfl rfl ?_
            | refine s_storeB Try.sizeOf3 rfl rfl rfl hs (kk := 1) rfl rfl ?_
            | refine s_storeB Try.sizeOf3 rfl rfl rfl hs (kk := 2) rfl rfl ?_
          clear hs; intro w hs; try simp only [List.set_cons_zero, List.set_cons_succ, splice, List.take_succ_cons, List.take_zero, List.drop_succ_cons, List.drop_zero, List.nil_append, List.cons_append, List.length_cons, List.length_nil, Nat.reduceAdd, List.append_assoc] at hs
          refine WL_nil ?_
          refine n_blk ?_
          refine n_then ?_
          refine W_seq ?_
          refine W_region ?_
          first
            | refine s_loadW Try.isAgg37 Try.sizeOf37 rfl rfl hs (kk := 0) rfl rfl ?_
            | refine s_loadW Try.isAgg37 Try.sizeOf37 rfl rfl hs (kk := 1) rfl rfl ?_
            | refine s_loadW Try.isAgg37 Try.sizeOf37 rfl rfl hs (kk := 2) rfl rfl ?_
            | refine s_load_6 Try.isAgg37 Try.sizeOf37 rfl rfl (by first | exact hs.cell (k := 0) rfl rfl | exact hs.cell (k := 1) rfl rfl | exact hs.cell (k := 2) rfl rfl) (by first | exact hs.cell (k := 0) rfl rfl | exact hs.cell (k := 1) rfl rfl | exact hs.cell (k := 2) rfl rfl) (by first | exact hs.cell (k := 0) rfl rfl | exact hs.cell (k := 1) rfl rfl | exact hs.cell (k := 2) rfl rfl) (by first | exact hs.cell (k := 0) rfl rfl | exact hs.cell (k := 1) rfl rfl | exact hs.cell (k := 2) rfl rfl) (by first | exact hs.cell (k := 0) rfl rfl | exact hs.cell (k := 1) rfl rfl | exact hs.cell (k := 2) rfl rfl) (by first | exact hs.cell (k := 0) rfl rfl | exact hs.cell (k := 1) rfl rfl | exact hs.cell (k := 2) rfl rfl) ?_
          first
            | refine s_storeW Try.sizeOf37 rfl rfl rfl rfl hs (kk := 0) rfl rfl ?_
            | refine s_storeW Try.sizeOf37 rfl rfl rfl rfl hs (kk := 1) rfl rfl ?_
            | refine s_storeW Try.sizeOf37 rfl rfl rfl rfl hs (kk := 2) rfl rfl ?_
            | refine s_storeAB Try.sizeOf37 rfl rfl rfl rfl hs (kk := 0) rfl rfl ?_
            | refine s_storeAB Try.sizeOf37 rfl rfl rfl rfl hs (kk := 1) rfl rfl ?_
            | refine s_storeAB Try.sizeOf37 rfl rfl rfl rfl hs (kk := 2) rfl rfl ?_
          clear hs; intro w hs; try simp only [List.set_cons_zero, List.set_cons_succ, splice, List.take_succ_cons, List.take_zero, List.drop_succ_cons, List.drop_zero, List.nil_append, List.cons_append, List.length_cons, List.length_nil, Nat.reduceAdd, List.append_assoc] at hs
          refine WL_nil ?_
          refine n_then ?_
          refine W_ret ?_
          first
            | (refine end1 rfl (resOk_block Try.isAgg37 Try.sizeOf37 hs rfl (kk := 0) rfl rfl) ?_
               first
                 | exact ⟨[], _, ⟨s, x.holder, x.token, x.til⟩, _, bs, rfl, hv, ⟨_, _, _, rfl⟩, hs.tail.tail, .inl rfl⟩
                 | exact ⟨[], _, ⟨x.rule, n, x.token, x.til⟩, _, bs, rfl, hv, ⟨_, _, _, rfl⟩, hs.tail.tail, .inl rfl⟩
                 | exact ⟨[], _, ⟨x.rule, x.holder, n, x.til⟩, _, bs, rfl, hv, ⟨_, _, _, rfl⟩, hs.tail.tail, .inl rfl⟩
                 | exact ⟨[], _, ⟨x.rule, x.holder, x.token, n⟩, _, bs, rfl, hv, ⟨_, _, _, rfl⟩, hs.tail.tail, .inl rfl⟩
                 | exact ⟨[], _, x, _, bs, rfl, hv, ⟨_, _, _, rfl⟩, hs.tail.tail, .inl rfl⟩)
            | (refine end1 rfl (resOk_block Try.isAgg37 Try.sizeOf37 hs rfl (kk := 1) rfl rfl) ?_
               exact ⟨[_], _, x, _, bytesOf s, rfl, rds_more hrd [] Lv, ⟨_, _, _, rfl⟩, St.left (L := [_]) hs, .inr rfl⟩)
        · skip
          refine W_seq ?_
          refine W_region ?_
          refine s_eql rfl rfl rfl ?_
          refine s_assign rfl rfl ?_
          refine WL_nil ?_
          refine n_then ?_
          refine W_cond rfl (fun hc35 => ?_) (fun hc35 => ?_)
          · skip
            refine W_region ?_
            refine s_move rfl rfl ?_
            refine s_fieldAddr rfl rfl (FA37_1 _ _) ?_
            refine s_fieldAddr rfl rfl (FA34_3 _ _) ?_
            first
              | refine s_storeB Try.sizeOf3 rfl rfl rfl hs (kk := 0) rfl rfl ?_
              | refine s_storeB Try.sizeOf3 rfl rfl rfl hs (kk := 1) rfl rfl ?_
              | refine s_storeB Try.sizeOf3 rfl rfl rfl hs (kk := 2) rfl rfl ?_
            clear hs; intro w hs; try simp only [List.set_cons_zero, List.set_cons_succ, splice, List.take_succ_cons, List.take_zero, List.drop_succ_cons, List.drop_zero, List.nil_append, List.cons_append, List.length_cons, List.length_nil, Nat.reduceAdd, List.append_assoc] at hs
            refine WL_nil ?_
            refine n_blk ?_
            refine n_then ?_
            refine W_seq ?_
            refine W_region ?_
            first
              | refine s_loadW Try.isAgg37 Try.sizeOf37 rfl rfl hs (kk := 0) rfl rfl ?_
              | refine s_loadW Try.isAgg37 Try.sizeOf37 rfl rfl hs (kk := 1) rfl rfl ?_
              | refine s_loadW Try.isAgg37 Try.sizeOf37 rfl rfl hs (kk := 2) rfl rfl ?_
              | refine s_load_6 Try.isAgg37 Try.sizeOf37 rfl rfl (by first | exact hs.cell (k := 0) rfl rfl | exact hs.cell (k := 1) rfl rfl | exact hs.cell (k := 2) rfl rfl) (by first | exact hs.cell (k := 0) rfl rfl | exact hs.cell (k := 1) rfl rfl | exact hs.cell (k := 2) rfl rfl) (by first | exact hs.cell (k := 0) rfl rfl | exact hs.cell (k := 1) rfl rfl | exact hs.cell (k := 2) rfl rfl) (by first | exact hs.cell (k := 0) rfl rfl | exact hs.cell (k := 1) rfl rfl | exact hs.cell (k := 2) rfl rfl) (by first | exact hs.cell (k := 0) rfl rfl | exact hs.cell (k := 1) rfl rfl | exact hs.cell (k := 2) rfl rfl) (by first | exact hs.cell (k := 0) rfl rfl | exact hs.cell (k := 1) rfl rfl | exact hs.cell (k := 2) rfl rfl) ?_
            first
              | refine s_storeW Try.sizeOf37 rfl rfl rfl rfl hs (kk := 0) rfl rfl ?_
              | refine s_storeW Try.sizeOf37 rfl rfl rfl rfl hs (kk := 1) rfl rfl ?_
              | refine s_storeW Try.sizeOf37 rfl rfl rfl rfl hs (kk := 2) rfl rfl ?_
              | refine s_storeAB Try.sizeOf37 rfl rfl rfl rfl hs (kk := 0) rfl rfl ?_
              | refine s_storeAB Try.sizeOf37 rfl rfl rfl rfl hs (kk := 1) rfl rfl ?_
              | refine s_storeAB Try.sizeOf37 rfl rfl rfl rfl hs (kk := 2) rfl rfl ?_
            clear hs; intro w hs; try simp only [List.set_cons_zero, List.set_cons_succ, splice, List.take_succ_cons, List.take_zero, List.drop_succ_cons, List.drop_zero, List.nil_append, List.cons_append, List.length_cons, List.length_nil, Nat.reduceAdd, List.append_assoc] at hs
            refine WL_nil ?_
            refine n_then ?_
            refine W_ret ?_
            first
              | (refine end1 rfl (resOk_block Try.isAgg37 Try.sizeOf37 hs rfl (kk := 0) rfl rfl) ?_
                 first
                   | exact ⟨[], _, ⟨s, x.holder, x.token, x.til⟩, _, bs, rfl, hv, ⟨_, _, _, rfl⟩, hs.tail.tail, .inl rfl⟩
                   | exact ⟨[], _, ⟨x.rule, n, x.token, x.til⟩, _, bs, rfl, hv, ⟨_, _, _, rfl⟩, hs.tail.tail, .inl rfl⟩
                   | exact ⟨[], _, ⟨x.rule, x.holder, n, x.til⟩, _, bs, rfl, hv, ⟨_, _, _, rfl⟩, hs.tail.tail, .inl rfl⟩
                   | exact ⟨[], _, ⟨x.rule, x.holder, x.token, n⟩, _, bs, rfl, hv, ⟨_, _, _, rfl⟩, hs.tail.tail, .inl rfl⟩
                   | exact ⟨[], _, x, _, bs, rfl, hv, ⟨_, _, _, rfl⟩, hs.tail.tail, .inl rfl⟩)
              | (refine end1 rfl (resOk_block Try.isAgg37 Try.sizeOf37 hs rfl (kk := 1) rfl rfl) ?_
                 exact ⟨[_], _, x, _, bytesOf s, rfl, rds_more hrd [] Lv, ⟨_, _, _, rfl⟩, St.left (L := [_]) hs, .inr rfl⟩)
          · skip
            refine W_region ?_
            refine s_move rfl rfl ?_
            refine s_str_bytes Try.underlying9 Try.underlying35 Try.underlying5 rfl rfl hs ?_
            clear hs; intro b12 c12 o12 w hrd hs
            rw [← u8s_bytesOf, ← bytesOf_length] at hrd
            rw [← bytesOf_length]
            refine s_fieldAddr rfl rfl (FA37_2 _ _) ?_
            first
              | refine s_storeB Try.sizeOf35 rfl rfl rfl hs (kk := 0) rfl rfl ?_
              | refine s_storeB Try.sizeOf35 rfl rfl rfl hs (kk := 1) rfl rfl ?_
              | refine s_storeB Try.sizeOf35 rfl rfl rfl hs (kk := 2) rfl rfl ?_
            clear hs; intro w hs; try simp only [List.set_cons_zero, List.set_cons_succ, splice, List.take_succ_cons, List.take_zero, List.drop_succ_cons, List.drop_zero, List.nil_append, List.cons_append, List.length_cons, List.length_nil, Nat.reduceAdd, List.append_assoc] at hs
            refine WL_nil ?_
            refine n_blk ?_
            refine n_then ?_
            refine W_seq ?_
            refine W_region ?_
            first
              | refine s_loadW Try.isAgg37 Try.sizeOf37 rfl rfl hs (kk := 0) rfl rfl ?_
              | refine s_loadW Try.isAgg37 Try.sizeOf37 rfl rfl hs (kk := 1) rfl rfl ?_
              | refine s_loadW Try.isAgg37 Try.sizeOf37 rfl rfl hs (kk := 2) rfl rfl ?_
              | refine s_load_6 Try.isAgg37 Try.sizeOf37 rfl rfl (by first | exact hs.cell (k := 0) rfl rfl | exact hs.cell (k := 1) rfl rfl | exact hs.cell (k := 2) rfl rfl) (by first | exact hs.cell (k := 0) rfl rfl | exact hs.cell (k := 1) rfl rfl | exact hs.cell (k := 2) rfl rfl) (by first | exact hs.cell (k := 0) rfl rfl | exact hs.cell (k := 1) rfl rfl | exact hs.cell (k := 2) rfl rfl) (by first | exact hs.cell (k := 0) rfl rfl | exact hs.cell (k := 1) rfl rfl | exact hs.cell (k := 2) rfl rfl) (by first | exact hs.cell (k := 0) rfl rfl | exact hs.cell (k := 1) rfl rfl | exact hs.cell (k := 2) rfl rfl) (by first | exact hs.cell (k := 0) rfl rfl | exact hs.cell (k := 1) rfl rfl | exact hs.cell (k := 2) rfl rfl) ?_
            first
              | refine s_storeW Try.sizeOf37 rfl rfl rfl rfl hs (kk := 0) rfl rfl ?_
              | refine s_storeW Try.sizeOf37 rfl rfl rfl rfl hs (kk := 1) rfl rfl ?_
              | refine s_storeW Try.sizeOf37 rfl rfl rfl rfl hs (kk := 2) rfl rfl ?_
              | refine s_storeAB Try.sizeOf37 rfl rfl rfl rfl hs (kk := 0) rfl rfl ?_
              | refine s_storeAB Try.sizeOf37 rfl rfl rfl rfl hs (kk := 1) rfl rfl ?_
              | refine s_storeAB Try.sizeOf37 rfl rfl rfl rfl hs (kk := 2) rfl rfl ?_
            clear hs; intro w hs; try simp only [List.set_cons_zero, List.set_cons_succ, splice, List.take_succ_cons, List.take_zero, List.drop_succ_cons, List.drop_zero, List.nil_append, List.cons_append, List.length_cons, List.length_nil, Nat.reduceAdd, List.append_assoc] at hs
            refine WL_nil ?_
            refine n_then ?_
            refine W_ret ?_
            first
              | (refine end1 rfl (resOk_block Try.isAgg37 Try.sizeOf37 hs rfl (kk := 0) rfl rfl) ?_
                 first
                   | exact ⟨[], _, ⟨s, x.holder, x.token, x.til⟩, _, bs, rfl, hv, ⟨_, _, _, rfl⟩, hs.tail.tail, .inl rfl⟩
                   | exact ⟨[], _, ⟨x.rule, n, x.token, x.til⟩, _, bs, rfl, hv, ⟨_, _, _, rfl⟩, hs.tail.tail, .inl rfl⟩
                   | exact ⟨[], _, ⟨x.rule, x.holder, n, x.til⟩, _, bs, rfl, hv, ⟨_, _, _, rfl⟩, hs.tail.tail, .inl rfl⟩
                   | exact ⟨[], _, ⟨x.rule, x.holder, x.token, n⟩, _, bs, rfl, hv, ⟨_, _, _, rfl⟩, hs.tail.tail, .inl rfl⟩
                   | exact ⟨[], _, x, _, bs, rfl, hv, ⟨_, _, _, rfl⟩, hs.tail.tail, .inl rfl⟩)
              | (refine end1 rfl (resOk_block Try.isAgg37 Try.sizeOf37 hs rfl (kk := 1) rfl rfl) ?_
                 exact ⟨[_], _, x, _, bytesOf s, rfl, rds_more hrd [] Lv, ⟨_, _, _, rfl⟩, St.left (L := [_]) hs, .inr rfl⟩)
/-! lists of byte slices -/
theorem sameLists_ok (va vb : Value) (xs ys : List (Value × List Int)) (w0 : World) (ha : Sl w0 va xs.length (xs.map (·.1))) (hb : Sl w0 vb ys.length (ys.map (·.1)))
    (hx : ∀ x ∈ xs, Sl w0 x.1 x.2.length (u8s x.2) ∧ x.2.length ≤ 65536) (hy : ∀ y ∈ ys, Sl w0 y.1 y.2.length (u8s y.2)) (hl : xs.length ≤ 4611686018427387904) :
    Ret Try.prog 24 [va, vb].toArray w0 fun v w' => Fwd [] w0 w' ∧ v = .bool (decide (xs.map (·.2) = ys.map (·.2))) := by
  obtain ⟨a, ca, rfl, _⟩ := ha.len_le
  obtain ⟨b, cb, rfl, _⟩ := hb.len_le
  refine Ret_start fun w hs => ?_
  refine Ret_of Try.func24 rfl Try.ntmps24 rfl ?_
  refine W_seq ?_
  refine W_region ?_
  refine s_assign rfl rfl ?_
  refine WL_nil ?_
  refine n_then ?_
  refine W_seq ?_
  refine W_seq ?_
  refine W_region ?_
  refine s_move rfl rfl ?_
  refine s_len rfl rfl (LN27 _ _ _ _) ?_
  refine s_move rfl rfl ?_
  refine s_len rfl rfl (LN27 _ _ _ _) ?_
  refine s_neq rfl rfl rfl ?_
  refine WL_nil ?_
  refine n_then ?_
  refine W_cond rfl (fun hc10 => ?_) (fun hc10 => ?_)
  · skip
    simp only [decide_eq_true_eq, decide_eq_false_iff_not, bne_iff_ne, bne_eq_false_iff_eq, ne_eq, Bool.not_eq_true', Bool.not_eq_false'] at hc10
    refine W_seq ?_
    refine W_region ?_
    refine s_assign rfl rfl ?_
    refine WL_nil ?_
    refine n_then ?_
    refine W_ret ?_
    refine r_then ?_
    refine end1 rfl rfl ⟨hs.fwd, congrArg Value.bool ?_⟩
    first
      | (symm; rw [decide_eq_false_iff_not]; intro h; have := congrArg List.length h; simp at this; omega)
      | (symm; rw [decide_eq_false_iff_not]; intro h; exact hc26 (hm h))
      | (symm; rw [decide_eq_true_eq]; rw [List.take_of_length_le (by omega), List.take_of_length_le (by omega)] at htk; exact htk)
  · skip
    simp only [decide_eq_true_eq, decide_eq_false_iff_not, bne_iff_ne, bne_eq_false_iff_eq, ne_eq, Bool.not_eq_true', Bool.not_eq_false'] at hc10
    refine W_skip ?_
    refine n_then ?_
    refine W_seq ?_
    refine W_seq ?_
    refine W_region ?_
    refine s_assign rfl rfl ?_
    refine WL_nil ?_
    refine n_then ?_
    refine W_block ?_
    refine W_loop (σ := Nat) (fun k => [(0, .slice a xs.length ca), (1, .slice b ys.length cb), (5, .int .i64 (k : Int))]) (fun k w => St [] w0 w [] ∧ k ≤ xs.length ∧ (xs.take k).map (·.2) = (ys.take k).map (·.2)) (fun k => xs.length - k) 0 ⟨rfl, rfl, rfl, trivial⟩ ⟨hs, Nat.zero_le _, rfl⟩ ?_
    clear hs
    intro k w ⟨hs, hk, htk⟩
    refine W_seq ?_
    refine W_seq ?_
    refine W_region ?_
    refine s_move rfl rfl ?_
    refine s_move rfl rfl ?_
    refine s_len rfl rfl (LN27 _ _ _ _) ?_
    refine s_lss rfl rfl rfl ?_
    refine WL_nil ?_
    refine n_then ?_
    refine W_cond rfl (fun hc14 => ?_) (fun hc14 => ?_)
    · skip
      simp only [decide_eq_true_eq, decide_eq_false_iff_not, bne_iff_ne, bne_eq_false_iff_eq, ne_eq, Bool.not_eq_true', Bool.not_eq_false'] at hc14
      have hkl : k < xs.length := by omega
      have hkb : k < ys.length := by omega
      obtain ⟨b1, o1, hA1, hc1⟩ := ha.at (k := k) (u := xs[k].1) (by simp [hkl])
      obtain ⟨b2, o2, hA2, hc2⟩ := hb.at (k := k) (u := ys[k].1) (by simp [hkb])
      have hB1 : b1 < w0.heap.size := World.block_lt_of_cell? w0 _ hc1
      have hB2 : b2 < w0.heap.size := World.block_lt_of_cell? w0 _ hc2
      have hx1 := hx _ (List.getElem_mem hkl)
      have hy1 := hy _ (List.getElem_mem hkb)
      have ht1 : xs.take (k + 1) = xs.take k ++ [xs[k]] := List.take_succ_eq_append_getElem hkl
      have ht2 : ys.take (k + 1) = ys.take k ++ [ys[k]] := List.take_succ_eq_append_getElem hkb
      have hm : xs.map (·.2) = ys.map (·.2) → xs[k].2 = ys[k].2 := fun h => by
        have := congrArg (fun l => l[k]?) h
        simpa [hkl, hkb] using this
      generalize xs[k] = x at *
      generalize ys[k] = y at *
      refine W_skip ?_
      refine n_then ?_
      refine W_seq ?_
      refine W_block ?_
      refine W_seq ?_
      refine W_draw [(0, true, []), (1, true, []), (2, true, []), (3, true, []), (4, true, []), (5, true, []), (6, true, []), (7, true, []), (8, false, []), (9, true, [])] [[], [], [0, 1], [0, 1, 2], [], [], [4, 5], [4, 5, 6], [0, 1, 2, 3, 4, 5, 6, 7], [0, 1, 2, 3, 4, 5, 6, 7, 8]] MX (by kernel_rfl) ?_
      intro w1 hw1 hw2 hw3 hw4; replace hs := hs.redrawn hw1 hw2 hw3 hw4; clear hw1 hw2 hw3 hw4
      obtain ⟨w, rfl⟩ : ∃ w : World, w = w1 := ⟨_, rfl⟩
      refine D_q rfl rfl ?_
      refine s_move rfl rfl ?_
      refine D_qn ?_
      refine D_q rfl rfl ?_
      refine s_move rfl rfl ?_
      refine D_qn ?_
      refine D_q rfl rfl ?_
      (refine s_indexAddrO El27 rfl rfl rfl hA1 ?hx ?_; case hx => (constructor <;> omega))
      refine D_qn ?_
      refine D_q rfl rfl ?_
      refine s_load Try.isAgg35 rfl rfl ((hs.oldcell (a := ⟨b1, o1 + k, none⟩) hB1 (by simp)).trans hc1) ?_
      refine D_qn ?_
      refine D_q rfl rfl ?_
      refine s_move rfl rfl ?_
      refine D_qn ?_
      refine D_q rfl rfl ?_
      refine s_move rfl rfl ?_
      refine D_qn ?_
      refine D_q rfl rfl ?_
      (refine s_indexAddrO El27 rfl rfl rfl hA2 ?hx ?_; case hx => (constructor <;> omega))
      refine D_qn ?_
      refine D_q rfl rfl ?_
      refine s_load Try.isAgg35 rfl rfl ((hs.oldcell (a := ⟨b2, o2 + k, none⟩) hB2 (by simp)).trans hc2) ?_
      refine D_qn ?_
      refine D_e rfl ?_
      refine s_call Try.call29 rfl rfl (sameBytes_ok _ _ x.2 y.2 w (hx1.1.fwd0 hs.fwd) (hy1.fwd0 hs.fwd) (by omega)) ?_
      rintro r w ⟨hst, rfl⟩
      replace hs := hs.fwd1 hst
      clear hst
      refine D_en ?re ?_
      case re =>
        exact Reks_nil
      refine D_q rfl rfl ?_
      refine s_not rfl rfl ?_
      refine D_qn ?_
      refine D_nil ?_
      refine n_then ?_
      refine W_cond rfl (fun hc26 => ?_) (fun hc26 => ?_)
      · skip
        simp only [decide_eq_true_eq, decide_eq_false_iff_not, bne_iff_ne, bne_eq_false_iff_eq, ne_eq, Bool.not_eq_true', Bool.not_eq_false'] at hc26
        refine W_seq ?_
        refine W_region ?_
        refine s_assign rfl rfl ?_
        refine WL_nil ?_
        refine n_then ?_
        refine W_ret ?_
        refine r_blk ?_
        refine r_then ?_
        refine r_then ?_
        refine r_blk ?_
        refine r_then ?_
        refine end1 rfl rfl ⟨hs.fwd, congrArg Value.bool ?_⟩
        first
          | (symm; rw [decide_eq_false_iff_not]; intro h; have := congrArg List.length h; simp at this; omega)
          | (symm; rw [decide_eq_false_iff_not]; intro h; exact hc26 (hm h))
          | (symm; rw [decide_eq_true_eq]; rw [List.take_of_length_le (by omega), List.take_of_length_le (by omega)] at htk; exact htk)
      · skip
        simp only [decide_eq_true_eq, decide_eq_false_iff_not, bne_iff_ne, bne_eq_false_iff_eq, ne_eq, Bool.not_eq_true', Bool.not_eq_false'] at hc26
        refine W_skip ?_
        refine n_blk ?_
        refine n_then ?_
        refine W_region ?_
        refine s_move rfl rfl ?_
        first | (refine s_add' rfl rfl rfl ?hx ?_; case hx => (constructor <;> first | omega | (simp only; omega))) | refine s_add rfl rfl rfl ?_
        refine s_assign rfl rfl ?_
        refine WL_nil ?_
        refine n_loop ?_
        refine ⟨k + 1, ⟨rfl, rfl, rfl, trivial⟩, ⟨hs, by omega, ?_⟩, by omega⟩
        rw [ht1, ht2, List.map_append, List.map_append, htk, List.map_singleton, List.map_singleton, hc26]
    · skip
      simp only [decide_eq_true_eq, decide_eq_false_iff_not, bne_iff_ne, bne_eq_false_iff_eq, ne_eq, Bool.not_eq_true', Bool.not_eq_false'] at hc14
      refine W_exit ?_
      refine x_then ?_
      refine x_then ?_
      refine exit_hit ?_
      refine n_then ?_
      refine W_seq ?_
      refine W_region ?_
      refine s_assign rfl rfl ?_
      refine WL_nil ?_
      refine n_then ?_
      refine W_ret ?_
      refine end1 rfl rfl ⟨hs.fwd, congrArg Value.bool ?_⟩
      first
        | (symm; rw [decide_eq_false_iff_not]; intro h; have := congrArg List.length h; simp at this; omega)
        | (symm; rw [decide_eq_false_iff_not]; intro h; exact hc26 (hm h))
        | (symm; rw [decide_eq_true_eq]; rw [List.take_of_length_le (by omega), List.take_of_length_le (by omega)] at htk; exact htk)
end Go.Proofs.Ytofnocjopdgeaaa
