/- Contracts of package lease: Grant, Commands; of the generator; the example. -/
import Derived.Test.YtkobigdfijeajaaLeaB
set_option linter.unusedVariables false
set_option linter.unusedSimpArgs false
namespace Go.Proofs.Ytkobigdfijeajaa
open Go.SL
def tokN (f : ByteArray → Option Lz) (s : ByteArray) : Int := match f s with | some y => y.token | none => 0
def grantX (f : ByteArray → Option Lz) (s : ByteArray) (h t len : Int) : Lz := ⟨s, h, tokN f s + 1, t + len⟩
def grantE (f : ByteArray → Option Lz) (s : ByteArray) (h t len : Int) : Int :=
  if ¬ (0 ≤ t ∧ t ≤ 1048576) ∨ len < 1 ∨ 4096 < len then 1
  else if ¬ validP true (grantX f s h t len) 0 then 1
  else match f s with | some y => if t < y.til ∧ y.holder ≠ h then 15 else 0 | none => 0
def zeroLz : Lz := ⟨ByteArray.empty, 0, 0, 0⟩
set_option maxHeartbeats 1000000 in
theorem grant_ok (p : Nat) (f : ByteArray → Option Lz) (cs : List Cmd) (s : ByteArray) (h t len : Int) (L0 : Hp) (w0 : World) (hT : TabAt p f cs L0) (hs : St (ids L0) w0 w0 L0) (hB : ∀ y, f s = some y → 0 ≤ y.token ∧ y.token ≤ 1073741824) :
    Ret Try.prog 10 [.pointer (some ⟨p, 0, none⟩), .string s, .int .i64 h, .int .i64 t, .int .i64 len].toArray w0 fun r w' => ∃ L', St (ids L0) w0 w' L' ∧ L' = L0 ∧
      ∃ g x, r = .tuple #[.agg #[.bool g, .string x.rule, .int .i64 x.holder, .int .i64 x.token, .int .i64 x.til, .slice none 0 0], .int .i64 (grantE f s h t len)] ∧
        (grantE f s h t len = 0 → g = true ∧ x = grantX f s h t len ∧ validP true x 0) ∧ (grantE f s h t len ≠ 0 → g = false ∧ x = zeroLz) := by
  obtain ⟨m, o, cv, Lc, hL, hM, hO, hC⟩ := hT
  obtain ⟨y, kn, hgv, hkn, hy1, hy2⟩ := look f s
  have hyB : 0 ≤ y.token ∧ y.token ≤ 1073741824 := by
    cases kn
    · rw [(hy2 rfl).2]; simp
    · exact hB y (hy1 rfl)
  have hyt : tokN f s = y.token := by
    cases kn
    · rw [tokN, (hy2 rfl).1, (hy2 rfl).2]
    · rw [tokN, hy1 rfl]
  replace hs : St (ids L0) w0 w0 ((p, Blk 85 [.map (some m), cv]) :: (m, o) :: (Lc ++ cblks cs)) := by rw [hL] at hs ⊢; exact hs
  refine Ret_startL hs fun w hs => ?_
  refine Ret_of Try.func10 rfl Try.ntmps10 rfl ?_
  refine W_seq ?_
  refine W_region ?_
  refine s_alloc rfl AL35 hs ?_; clear hs; intro b10 w hs
  refine s_assign rfl rfl ?_
  refine WL_nil ?_
  refine n_then ?_
  refine W_seq ?_
  refine W_seq ?_
  refine W_region ?_
  refine s_move rfl rfl ?_
  refine s_call Try.call41 rfl rfl (isTick_ok t w) ?_
  rintro r w ⟨rfl, rfl⟩
  refine s_not rfl rfl ?_
  refine s_move rfl rfl ?_
  refine WL_case (s := 18) rfl (fun hg18 => ?_) (fun hg18 => ?_)
  · skip
    try simp only [decide_eq_true_eq, decide_eq_false_iff_not, Bool.not_eq_true', Bool.not_eq_false', bne_iff_ne, bne_eq_false_iff_eq, ne_eq] at hg18
    refine WL_skip rfl rfl rfl ?_
    refine WL_skip rfl rfl rfl ?_
    refine s_pick_t rfl rfl rfl ?_
    refine s_move rfl rfl ?_
    refine WL_skip rfl rfl rfl ?_
    refine WL_skip rfl rfl rfl ?_
    refine s_pick_t rfl rfl rfl ?_
    refine WL_nil ?_
    refine n_then ?_
    refine W_cond_t rfl ?_
    refine W_seq ?_
    refine W_region ?_
    refine s_build rfl rfl (BD35_ ) ?_
    first
      | refine s_storeW Try.sizeOf35 rfl rfl rfl rfl hs (kk := 0) rfl rfl ?_
    clear hs; intro w hs; try simp only [List.set_cons_zero, List.set_cons_succ, splice, List.take_succ_cons, List.take_zero, List.drop_succ_cons, List.drop_zero, List.nil_append, List.cons_append, List.length_cons, List.length_nil, Nat.reduceAdd, List.append_assoc] at hs
    refine s_assign rfl rfl ?_
    refine WL_nil ?_
    refine n_then ?_
    refine W_ret ?_
    refine r_then ?_
    first
      | (refine end2 rfl (resOk_block Try.isAgg35 Try.sizeOf35 hs rfl (kk := 0) rfl rfl) rfl ?_
         have hE : grantE f s h t len = 1 := by rw [grantE, if_pos (by omega)]
         exact ⟨_, hs.tail, hL.symm, false, zeroLz, by rw [hE]; rfl, fun h => by omega, fun _ => ⟨rfl, rfl⟩⟩)
  · skip
    try simp only [decide_eq_true_eq, decide_eq_false_iff_not, Bool.not_eq_true', Bool.not_eq_false', bne_iff_ne, bne_eq_false_iff_eq, ne_eq] at hg18
    refine WL_take rfl ?_
    refine s_move rfl rfl ?_
    refine WL_take rfl ?_
    refine s_lss rfl rfl rfl ?_
    refine s_pick_f rfl rfl rfl ?_
    refine s_move rfl rfl ?_
    refine WL_case (s := 22) rfl (fun hg22 => ?_) (fun hg22 => ?_)
    · skip
      try simp only [decide_eq_true_eq, decide_eq_false_iff_not, Bool.not_eq_true', Bool.not_eq_false', bne_iff_ne, bne_eq_false_iff_eq, ne_eq] at hg22
      refine WL_skip rfl rfl rfl ?_
      refine WL_skip rfl rfl rfl ?_
      refine s_pick_t rfl rfl rfl ?_
      refine WL_nil ?_
      refine n_then ?_
      refine W_cond_t rfl ?_
      refine W_seq ?_
      refine W_region ?_
      refine s_build rfl rfl (BD35_ ) ?_
      first
        | refine s_storeW Try.sizeOf35 rfl rfl rfl rfl hs (kk := 0) rfl rfl ?_
      clear hs; intro w hs; try simp only [List.set_cons_zero, List.set_cons_succ, splice, List.take_succ_cons, List.take_zero, List.drop_succ_cons, List.drop_zero, List.nil_append, List.cons_append, List.length_cons, List.length_nil, Nat.reduceAdd, List.append_assoc] at hs
      refine s_assign rfl rfl ?_
      refine WL_nil ?_
      refine n_then ?_
      refine W_ret ?_
      refine r_then ?_
      first
        | (refine end2 rfl (resOk_block Try.isAgg35 Try.sizeOf35 hs rfl (kk := 0) rfl rfl) rfl ?_
           have hE : grantE f s h t len = 1 := by rw [grantE, if_pos (by omega)]
           exact ⟨_, hs.tail, hL.symm, false, zeroLz, by rw [hE]; rfl, fun h => by omega, fun _ => ⟨rfl, rfl⟩⟩)
    · skip
      try simp only [decide_eq_true_eq, decide_eq_false_iff_not, Bool.not_eq_true', Bool.not_eq_false', bne_iff_ne, bne_eq_false_iff_eq, ne_eq] at hg22
      refine WL_take rfl ?_
      refine s_move rfl rfl ?_
      refine WL_take rfl ?_
      refine s_gtr rfl rfl rfl ?_
      refine s_pick_f rfl rfl rfl ?_
      refine WL_nil ?_
      refine n_then ?_
      refine W_cond rfl (fun hc25 => ?_) (fun hc25 => ?_)
      · skip
        try simp only [decide_eq_true_eq, decide_eq_false_iff_not, Bool.not_eq_true', Bool.not_eq_false', bne_iff_ne, bne_eq_false_iff_eq, ne_eq] at hc25
        refine W_seq ?_
        refine W_region ?_
        refine s_build rfl rfl (BD35_ ) ?_
        first
          | refine s_storeW Try.sizeOf35 rfl rfl rfl rfl hs (kk := 0) rfl rfl ?_
        clear hs; intro w hs; try simp only [List.set_cons_zero, List.set_cons_succ, splice, List.take_succ_cons, List.take_zero, List.drop_succ_cons, List.drop_zero, List.nil_append, List.cons_append, List.length_cons, List.length_nil, Nat.reduceAdd, List.append_assoc] at hs
        refine s_assign rfl rfl ?_
        refine WL_nil ?_
        refine n_then ?_
        refine W_ret ?_
        refine r_then ?_
        first
          | (refine end2 rfl (resOk_block Try.isAgg35 Try.sizeOf35 hs rfl (kk := 0) rfl rfl) rfl ?_
             have hE : grantE f s h t len = 1 := by rw [grantE, if_pos (by omega)]
             exact ⟨_, hs.tail, hL.symm, false, zeroLz, by rw [hE]; rfl, fun h => by omega, fun _ => ⟨rfl, rfl⟩⟩)
      · skip
        try simp only [decide_eq_true_eq, decide_eq_false_iff_not, Bool.not_eq_true', Bool.not_eq_false', bne_iff_ne, bne_eq_false_iff_eq, ne_eq] at hc25
        refine W_skip ?_
        refine n_then ?_
        refine W_seq ?_
        refine W_region ?_
        refine s_move rfl rfl ?_
        refine s_nilCheck rfl rfl ?_
        refine s_fieldAddr rfl rfl (FA85_0 _ _) ?_
        first
          | refine s_load Try.isAgg83 rfl rfl (hs.cell (k := 1) rfl rfl) ?_
        refine s_move rfl rfl ?_
        first
          | refine s_lookup2 Try.underlying83 Try.underlying9 ZV33 rfl rfl rfl hs (kk := 2) rfl hM hgv hkn ?_
        refine s_move rfl rfl ?_
        refine s_extract rfl rfl rfl ?_
        refine s_extract rfl rfl rfl ?_
        refine s_alloc rfl AL33 hs ?_; clear hs; intro b12 w hs
        first
          | refine s_storeW Try.sizeOf33 rfl rfl rfl rfl hs (kk := 0) rfl rfl ?_
        clear hs; intro w hs; try simp only [List.set_cons_zero, List.set_cons_succ, splice, List.take_succ_cons, List.take_zero, List.drop_succ_cons, List.drop_zero, List.nil_append, List.cons_append, List.length_cons, List.length_nil, Nat.reduceAdd, List.append_assoc] at hs
        refine s_assign rfl rfl ?_
        refine WL_nil ?_
        refine n_then ?_
        refine W_seq ?_
        refine W_region ?_
        refine s_move rfl rfl ?_
        refine s_move rfl rfl ?_
        refine s_fieldAddr rfl rfl (FA33_2 _ _) ?_
        first
          | refine s_load Try.isAgg3 rfl rfl (hs.cell (k := 0) rfl rfl) ?_
        first | (refine s_add' rfl rfl rfl ?hx ?_; case hx => (constructor <;> first | omega | (simp only; omega)))
        refine s_move rfl rfl ?_
        refine s_move rfl rfl ?_
        first | (refine s_add' rfl rfl rfl ?hx ?_; case hx => (constructor <;> first | omega | (simp only; omega)))
        refine s_build rfl rfl (BD33_0_1_2_3 _ _ _ _) ?_
        refine s_build rfl rfl (BD35_0_1 _ _ _ _ _) ?_
        refine s_alloc rfl AL35 hs ?_; clear hs; intro b14 w hs
        first
          | refine s_storeW Try.sizeOf35 rfl rfl rfl rfl hs (kk := 0) rfl rfl ?_
        clear hs; intro w hs; try simp only [List.set_cons_zero, List.set_cons_succ, splice, List.take_succ_cons, List.take_zero, List.drop_succ_cons, List.drop_zero, List.nil_append, List.cons_append, List.length_cons, List.length_nil, Nat.reduceAdd, List.append_assoc] at hs
        refine WL_nil ?_
        refine n_then ?_
        refine W_seq ?_
        refine W_seq ?_
        refine W_region ?_
        first
          | refine s_loadW Try.isAgg35 Try.sizeOf35 rfl rfl hs (kk := 0) rfl rfl ?_
        refine s_call Try.call42 rfl rfl (valid_ok true ⟨s, h, y.token + 1, t + len⟩ none 0 0 w) ?_
        rintro r w ⟨hst, rfl⟩
        replace hs := hs.fwd1 hst
        clear hst
        have hgx : grantX f s h t len = ⟨s, h, y.token + 1, t + len⟩ := by rw [grantX, hyt]
        refine s_not rfl rfl ?_
        refine WL_nil ?_
        refine n_then ?_
        refine W_cond rfl (fun hc48 => ?_) (fun hc48 => ?_)
        · skip
          try simp only [decide_eq_true_eq, decide_eq_false_iff_not, Bool.not_eq_true', Bool.not_eq_false', bne_iff_ne, bne_eq_false_iff_eq, ne_eq] at hc48
          refine W_seq ?_
          refine W_region ?_
          refine s_build rfl rfl (BD35_ ) ?_
          first
            | refine s_storeW Try.sizeOf35 rfl rfl rfl rfl hs (kk := 2) rfl rfl ?_
          clear hs; intro w hs; try simp only [List.set_cons_zero, List.set_cons_succ, splice, List.take_succ_cons, List.take_zero, List.drop_succ_cons, List.drop_zero, List.nil_append, List.cons_append, List.length_cons, List.length_nil, Nat.reduceAdd, List.append_assoc] at hs
          refine s_assign rfl rfl ?_
          refine WL_nil ?_
          refine n_then ?_
          refine W_ret ?_
          refine r_then ?_
          first
            | (refine end2 rfl (resOk_block Try.isAgg35 Try.sizeOf35 hs rfl (kk := 0) rfl rfl) rfl ?_
               have hE : grantE f s h t len = 1 := by rw [grantE, if_pos (by omega)]
               exact ⟨_, hs.tail, hL.symm, false, zeroLz, by rw [hE]; rfl, fun h => by omega, fun _ => ⟨rfl, rfl⟩⟩)
            | (refine end2 rfl (resOk_block Try.isAgg35 Try.sizeOf35 hs rfl (kk := 2) rfl rfl) rfl ?_
               refine ⟨_, hs.tail.tail.tail, hL.symm, ?_⟩
               first
                 | (have hE : grantE f s h t len = 1 := by rw [grantE, if_neg (by omega), hgx, if_pos ‹_›]
                    exact ⟨false, zeroLz, by rw [hE]; rfl, fun h => by omega, fun _ => ⟨rfl, rfl⟩⟩))
        · skip
          try simp only [decide_eq_true_eq, decide_eq_false_iff_not, Bool.not_eq_true', Bool.not_eq_false', bne_iff_ne, bne_eq_false_iff_eq, ne_eq] at hc48
          refine W_skip ?_
          refine n_then ?_
          refine W_seq ?_
          refine W_seq ?_
          refine W_region ?_
          refine s_move rfl rfl ?_
          refine s_move rfl rfl ?_
          refine WL_case (s := 51) rfl (fun hg51 => ?_) (fun hg51 => ?_)
          · skip
            try simp only [decide_eq_true_eq, decide_eq_false_iff_not, Bool.not_eq_true', Bool.not_eq_false', bne_iff_ne, bne_eq_false_iff_eq, ne_eq] at hg51
            refine WL_take rfl ?_
            refine s_fieldAddr rfl rfl (FA33_3 _ _) ?_
            refine WL_take rfl ?_
            first
              | refine s_load Try.isAgg3 rfl rfl (hs.cell (k := 1) rfl rfl) ?_
            refine WL_take rfl ?_
            refine s_move rfl rfl ?_
            refine WL_take rfl ?_
            refine s_gtr rfl rfl rfl ?_
            refine s_pick_t rfl rfl rfl ?_
            refine s_move rfl rfl ?_
            refine WL_case (s := 57) rfl (fun hg57 => ?_) (fun hg57 => ?_)
            · skip
              try simp only [decide_eq_true_eq, decide_eq_false_iff_not, Bool.not_eq_true', Bool.not_eq_false', bne_iff_ne, bne_eq_false_iff_eq, ne_eq] at hg57
              refine WL_take rfl ?_
              refine s_fieldAddr rfl rfl (FA33_1 _ _) ?_
              refine WL_take rfl ?_
              first
                | refine s_load Try.isAgg3 rfl rfl (hs.cell (k := 1) rfl rfl) ?_
              refine WL_take rfl ?_
              refine s_move rfl rfl ?_
              refine WL_take rfl ?_
              refine s_neq rfl rfl rfl ?_
              refine s_pick_t rfl rfl rfl ?_
              refine WL_nil ?_
              refine n_then ?_
              refine W_cond rfl (fun hc62 => ?_) (fun hc62 => ?_)
              · skip
                try simp only [decide_eq_true_eq, decide_eq_false_iff_not, Bool.not_eq_true', Bool.not_eq_false', bne_iff_ne, bne_eq_false_iff_eq, ne_eq] at hc62
                refine W_seq ?_
                refine W_region ?_
                refine s_build rfl rfl (BD35_ ) ?_
                first
                  | refine s_storeW Try.sizeOf35 rfl rfl rfl rfl hs (kk := 2) rfl rfl ?_
                clear hs; intro w hs; try simp only [List.set_cons_zero, List.set_cons_succ, splice, List.take_succ_cons, List.take_zero, List.drop_succ_cons, List.drop_zero, List.nil_append, List.cons_append, List.length_cons, List.length_nil, Nat.reduceAdd, List.append_assoc] at hs
                refine s_assign rfl rfl ?_
                refine WL_nil ?_
                refine n_then ?_
                refine W_ret ?_
                refine r_then ?_
                first
                  | (refine end2 rfl (resOk_block Try.isAgg35 Try.sizeOf35 hs rfl (kk := 0) rfl rfl) rfl ?_
                     have hE : grantE f s h t len = 1 := by rw [grantE, if_pos (by omega)]
                     exact ⟨_, hs.tail, hL.symm, false, zeroLz, by rw [hE]; rfl, fun h => by omega, fun _ => ⟨rfl, rfl⟩⟩)
                  | (refine end2 rfl (resOk_block Try.isAgg35 Try.sizeOf35 hs rfl (kk := 2) rfl rfl) rfl ?_
                     refine ⟨_, hs.tail.tail.tail, hL.symm, ?_⟩
                     first
                       | (have hE : grantE f s h t len = 15 := by rw [grantE, if_neg (by omega), hgx, if_neg (by simpa using ‹validP true _ 0›), hy1 ‹_›]; simp only; rw [if_pos ⟨by omega, ‹_›⟩]
                          exact ⟨false, zeroLz, by rw [hE]; rfl, fun h => by omega, fun _ => ⟨rfl, rfl⟩⟩))
              · skip
                try simp only [decide_eq_true_eq, decide_eq_false_iff_not, Bool.not_eq_true', Bool.not_eq_false', bne_iff_ne, bne_eq_false_iff_eq, ne_eq] at hc62
                refine W_skip ?_
                refine n_then ?_
                refine W_seq ?_
                refine W_region ?_
                first
                  | refine s_loadW Try.isAgg35 Try.sizeOf35 rfl rfl hs (kk := 0) rfl rfl ?_
                first
                  | refine s_storeW Try.sizeOf35 rfl rfl rfl rfl hs (kk := 2) rfl rfl ?_
                clear hs; intro w hs; try simp only [List.set_cons_zero, List.set_cons_succ, splice, List.take_succ_cons, List.take_zero, List.drop_succ_cons, List.drop_zero, List.nil_append, List.cons_append, List.length_cons, List.length_nil, Nat.reduceAdd, List.append_assoc] at hs
                refine s_assign rfl rfl ?_
                refine WL_nil ?_
                refine n_then ?_
                refine W_ret ?_
                first
                  | (refine end2 rfl (resOk_block Try.isAgg35 Try.sizeOf35 hs rfl (kk := 2) rfl rfl) rfl ?_
                     refine ⟨_, hs.tail.tail.tail, hL.symm, ?_⟩
                     first
                       | (have hE : grantE f s h t len = 0 := by
                            rw [grantE, if_neg (by omega), hgx, if_neg (by simpa using ‹validP true _ 0›)]
                            first
                              | (rw [hy1 ‹_›]; simp only; rw [if_neg (by omega)])
                          exact ⟨true, ⟨s, h, y.token + 1, t + len⟩, by rw [hE], fun _ => ⟨rfl, hgx.symm, ‹_›⟩, fun h => absurd hE h⟩))
            · skip
              try simp only [decide_eq_true_eq, decide_eq_false_iff_not, Bool.not_eq_true', Bool.not_eq_false', bne_iff_ne, bne_eq_false_iff_eq, ne_eq] at hg57
              refine WL_skip rfl rfl rfl ?_
              refine WL_skip rfl rfl rfl ?_
              refine WL_skip rfl rfl rfl ?_
              refine WL_skip rfl rfl rfl ?_
              refine s_pick_f rfl rfl rfl ?_
              refine WL_nil ?_
              refine n_then ?_
              refine W_cond_f rfl ?_
              refine W_skip ?_
              refine n_then ?_
              refine W_seq ?_
              refine W_region ?_
              first
                | refine s_loadW Try.isAgg35 Try.sizeOf35 rfl rfl hs (kk := 0) rfl rfl ?_
              first
                | refine s_storeW Try.sizeOf35 rfl rfl rfl rfl hs (kk := 2) rfl rfl ?_
              clear hs; intro w hs; try simp only [List.set_cons_zero, List.set_cons_succ, splice, List.take_succ_cons, List.take_zero, List.drop_succ_cons, List.drop_zero, List.nil_append, List.cons_append, List.length_cons, List.length_nil, Nat.reduceAdd, List.append_assoc] at hs
              refine s_assign rfl rfl ?_
              refine WL_nil ?_
              refine n_then ?_
              refine W_ret ?_
              first
                | (refine end2 rfl (resOk_block Try.isAgg35 Try.sizeOf35 hs rfl (kk := 2) rfl rfl) rfl ?_
                   refine ⟨_, hs.tail.tail.tail, hL.symm, ?_⟩
                   first
                     | (have hE : grantE f s h t len = 0 := by
                          rw [grantE, if_neg (by omega), hgx, if_neg (by simpa using ‹validP true _ 0›)]
                          first
                            | (rw [hy1 ‹_›]; simp only; rw [if_neg (by omega)])
                        exact ⟨true, ⟨s, h, y.token + 1, t + len⟩, by rw [hE], fun _ => ⟨rfl, hgx.symm, ‹_›⟩, fun h => absurd hE h⟩))
          · skip
            try simp only [decide_eq_true_eq, decide_eq_false_iff_not, Bool.not_eq_true', Bool.not_eq_false', bne_iff_ne, bne_eq_false_iff_eq, ne_eq] at hg51
            refine WL_skip rfl rfl rfl ?_
            refine WL_skip rfl rfl rfl ?_
            refine WL_skip rfl rfl rfl ?_
            refine WL_skip rfl rfl rfl ?_
            refine s_pick_f rfl rfl rfl ?_
            refine s_move rfl rfl ?_
            refine WL_skip rfl rfl rfl ?_
            refine WL_skip rfl rfl rfl ?_
            refine WL_skip rfl rfl rfl ?_
            refine WL_skip rfl rfl rfl ?_
            refine s_pick_f rfl rfl rfl ?_
            refine WL_nil ?_
            refine n_then ?_
            refine W_cond_f rfl ?_
            refine W_skip ?_
            refine n_then ?_
            refine W_seq ?_
            refine W_region ?_
            first
              | refine s_loadW Try.isAgg35 Try.sizeOf35 rfl rfl hs (kk := 0) rfl rfl ?_
            first
              | refine s_storeW Try.sizeOf35 rfl rfl rfl rfl hs (kk := 2) rfl rfl ?_
            clear hs; intro w hs; try simp only [List.set_cons_zero, List.set_cons_succ, splice, List.take_succ_cons, List.take_zero, List.drop_succ_cons, List.drop_zero, List.nil_append, List.cons_append, List.length_cons, List.length_nil, Nat.reduceAdd, List.append_assoc] at hs
            refine s_assign rfl rfl ?_
            refine WL_nil ?_
            refine n_then ?_
            refine W_ret ?_
            first
              | (refine end2 rfl (resOk_block Try.isAgg35 Try.sizeOf35 hs rfl (kk := 2) rfl rfl) rfl ?_
                 refine ⟨_, hs.tail.tail.tail, hL.symm, ?_⟩
                 first
                   | (have hE : grantE f s h t len = 0 := by
                        rw [grantE, if_neg (by omega), hgx, if_neg (by simpa using ‹validP true _ 0›)]
                        first
                          | (rw [(hy2 ‹_›).1]; done)
                      exact ⟨true, ⟨s, h, y.token + 1, t + len⟩, by rw [hE], fun _ => ⟨rfl, hgx.symm, ‹_›⟩, fun h => absurd hE h⟩))
def ruleS : Nat → ByteArray
  | 0 => ⟨#[104, 111, 116]⟩
  | 1 => ⟨#[99, 111, 108, 100]⟩
  | _ => ⟨#[97]⟩
theorem ruleS_at {j : Nat} (h : j < 3) : ([Value.string ⟨#[104, 111, 116]⟩, .string ⟨#[99, 111, 108, 100]⟩, .string ⟨#[97]⟩] : List Value)[0 + (j : Int).toNat]? = some (.string (ruleS j)) := by
  match j, h with
  | 0, _ => rfl
  | 1, _ => rfl
  | 2, _ => rfl
/-- what Made yields -/
def madeX (n : Int) : Lz := ⟨ruleS (aroundV n 1073741824 / 3 % 3).toNat, aroundV n 1073741824 / 9 % 3, 1 + aroundV n 1073741824 / 27 % 4, 1 + aroundV n 1073741824 / 108 % 20⟩
def madeG (n : Int) : Bool := aroundV n 1073741824 % 3 == 0
def madeC (n : Int) : List Int := if madeG n then [] else [IntKind.u8.wrap (aroundV n 1073741824), IntKind.u8.wrap (aroundV n 1073741824 / 256)]
theorem made_ok (n : Int) (w0 : World) (hn : isI64 n) :
    Ret Try.prog 23 [.int .i64 n].toArray w0 fun r w' => ∃ v L', r = .agg #[.bool (madeG n), .string (madeX n).rule, .int .i64 (madeX n).holder, .int .i64 (madeX n).token, .int .i64 (madeX n).til, v] ∧ OwnS 5 1 v (madeC n).length (u8s (madeC n)) L' ∧ St [] w0 w' L' := by
  refine Ret_start fun w hs => ?_
  have hr := aroundV_range (m := n) (q := 1073741824) (by omega)
  refine Ret_of Try.func23 rfl Try.ntmps23 rfl ?_
  refine W_seq ?_
  refine W_region ?_
  refine s_alloc rfl AL52 hs ?_; clear hs; intro b2 w hs
  refine WL_nil ?_
  refine n_then ?_
  refine W_seq ?_
  refine W_region ?_
  refine s_move rfl rfl ?_
  refine s_call Try.call25 rfl rfl (around_ok n 1073741824 w (by omega) hn) ?_
  rintro r w ⟨rfl, rfl⟩
  generalize hk : aroundV n 1073741824 = k at hr
  refine s_assign rfl rfl ?_
  refine WL_nil ?_
  refine n_then ?_
  refine W_seq ?_
  refine W_region ?_
  refine s_buildSlice rfl rfl (BS100_3 _ _ _) hs ?_; clear hs; intro b8 w hs
  refine s_assign rfl rfl ?_
  refine WL_nil ?_
  refine n_then ?_
  refine W_seq ?_
  refine W_region ?_
  refine s_move rfl rfl ?_
  first | (refine s_rem' rfl rfl rfl ?hx ?_; case hx => (refine ⟨?_, ?_⟩ <;> omega))
  refine s_eql rfl rfl rfl ?_
  refine s_move rfl rfl ?_
  refine s_move rfl rfl ?_
  first | (refine s_quo' rfl rfl rfl ?hx ?_; case hx => (refine ⟨?_, ?_, ?_⟩ <;> omega))
  first | (refine s_rem' rfl rfl rfl ?hx ?_; case hx => (refine ⟨?_, ?_⟩ <;> omega))
  obtain ⟨r3, hr3, hrr⟩ : ∃ r3 : Nat, r3 < 3 ∧ k / 3 % 3 = (r3 : Int) := ⟨(k / 3 % 3).toNat, by omega, by omega⟩
  rw [hrr]
  (refine s_indexAddr1 El100 rfl rfl rfl ?hx ?_; case hx => (constructor <;> omega))
  refine s_load Try.isAgg9 rfl rfl (hs.cell (k := 0) rfl (ruleS_at (by omega))) ?_
  refine s_move rfl rfl ?_
  first | (refine s_quo' rfl rfl rfl ?hx ?_; case hx => (refine ⟨?_, ?_, ?_⟩ <;> omega))
  first | (refine s_rem' rfl rfl rfl ?hx ?_; case hx => (refine ⟨?_, ?_⟩ <;> omega))
  refine s_move rfl rfl ?_
  first | (refine s_quo' rfl rfl rfl ?hx ?_; case hx => (refine ⟨?_, ?_, ?_⟩ <;> omega))
  first | (refine s_rem' rfl rfl rfl ?hx ?_; case hx => (refine ⟨?_, ?_⟩ <;> omega))
  first | (refine s_add' rfl rfl rfl ?hx ?_; case hx => (constructor <;> first | omega | (simp only; omega)))
  refine s_move rfl rfl ?_
  first | (refine s_quo' rfl rfl rfl ?hx ?_; case hx => (refine ⟨?_, ?_, ?_⟩ <;> omega))
  first | (refine s_rem' rfl rfl rfl ?hx ?_; case hx => (refine ⟨?_, ?_⟩ <;> omega))
  first | (refine s_add' rfl rfl rfl ?hx ?_; case hx => (constructor <;> first | omega | (simp only; omega)))
  refine s_build rfl rfl (BD33_0_1_2_3 _ _ _ _) ?_
  refine s_build rfl rfl (BD52_0_1 _ _ _ _ _) ?_
  refine s_alloc rfl AL52 hs ?_; clear hs; intro b5 w hs
  first
    | refine s_storeW Try.sizeOf52 rfl rfl rfl rfl hs (kk := 0) rfl rfl ?_
  clear hs; intro w hs; try simp only [List.set_cons_zero, List.set_cons_succ, splice, List.take_succ_cons, List.take_zero, List.drop_succ_cons, List.drop_zero, List.nil_append, List.cons_append, List.length_cons, List.length_nil, Nat.reduceAdd, List.append_assoc] at hs
  refine WL_nil ?_
  refine n_then ?_
  refine W_seq ?_
  refine W_seq ?_
  refine W_region ?_
  refine s_fieldAddr rfl rfl (FA52_0 _ _) ?_
  first
    | refine s_load Try.isAgg4 rfl rfl (hs.cell (k := 0) rfl rfl) ?_
  refine s_not rfl rfl ?_
  refine WL_nil ?_
  refine n_then ?_
  refine W_cond rfl (fun hc33 => ?_) (fun hc33 => ?_)
  · skip
    simp only [Bool.not_eq_true', Bool.not_eq_false'] at hc33
    refine W_region ?_
    refine s_move rfl rfl ?_
    refine s_convert rfl rfl (CV3_5 _) ?_
    refine s_move rfl rfl ?_
    first | (refine s_quo' rfl rfl rfl ?hx ?_; case hx => (refine ⟨?_, ?_, ?_⟩ <;> omega))
    refine s_convert rfl rfl (CV3_5 _) ?_
    refine s_buildSlice rfl rfl (BS22_2 _ _) hs ?_; clear hs; intro b39 w hs
    refine s_fieldAddr rfl rfl (FA52_2 _ _) ?_
    first
      | refine s_storeB Try.sizeOf22 rfl rfl rfl hs (kk := 1) rfl rfl ?_
    clear hs; intro w hs; try simp only [List.set_cons_zero, List.set_cons_succ, splice, List.take_succ_cons, List.take_zero, List.drop_succ_cons, List.drop_zero, List.nil_append, List.cons_append, List.length_cons, List.length_nil, Nat.reduceAdd, List.append_assoc] at hs
    refine WL_nil ?_
    refine n_then ?_
    refine W_seq ?_
    refine W_region ?_
    first
      | refine s_loadW Try.isAgg52 Try.sizeOf52 rfl rfl hs (kk := 1) rfl rfl ?_
    first
      | refine s_storeW Try.sizeOf52 rfl rfl rfl rfl hs (kk := 3) rfl rfl ?_
    clear hs; intro w hs; try simp only [List.set_cons_zero, List.set_cons_succ, splice, List.take_succ_cons, List.take_zero, List.drop_succ_cons, List.drop_zero, List.nil_append, List.cons_append, List.length_cons, List.length_nil, Nat.reduceAdd, List.append_assoc] at hs
    refine WL_nil ?_
    refine n_then ?_
    refine W_ret ?_
    first
      | (refine end1 rfl (resOk_block Try.isAgg52 Try.sizeOf52 hs rfl (kk := 3) rfl rfl) ?_
         have hG : madeG n = false := by rw [madeG, hk]; exact hc33
         refine ⟨.slice (some ⟨b39, 0, none⟩) 2 2, [_], ?_, ?_, St.left (L := [_]) hs⟩
         rotate_left
         · rw [madeC, if_neg (by simp [hG]), hk]; exact ⟨rfl, .inr ⟨b39, 2, [], rfl, Nat.le_refl _, by decide, rfl, rfl⟩⟩
         · rw [madeG, hk]; simp only [madeX, hk, hrr, Int.toNat_natCast])
  · skip
    simp only [Bool.not_eq_true', Bool.not_eq_false'] at hc33
    refine W_skip ?_
    refine n_then ?_
    refine W_seq ?_
    refine W_region ?_
    first
      | refine s_loadW Try.isAgg52 Try.sizeOf52 rfl rfl hs (kk := 0) rfl rfl ?_
    first
      | refine s_storeW Try.sizeOf52 rfl rfl rfl rfl hs (kk := 2) rfl rfl ?_
    clear hs; intro w hs; try simp only [List.set_cons_zero, List.set_cons_succ, splice, List.take_succ_cons, List.take_zero, List.drop_succ_cons, List.drop_zero, List.nil_append, List.cons_append, List.length_cons, List.length_nil, Nat.reduceAdd, List.append_assoc] at hs
    refine WL_nil ?_
    refine n_then ?_
    refine W_ret ?_
    first
      | (refine end1 rfl (resOk_block Try.isAgg52 Try.sizeOf52 hs rfl (kk := 2) rfl rfl) ?_
         have hG : madeG n = true := by rw [madeG, hk]; exact hc33
         refine ⟨.slice none 0 0, [], ?_, ?_, hs.tail.tail.tail⟩
         · rw [madeG, hk]; simp only [madeX, hk, hrr, Int.toNat_natCast]
         · rw [madeC, if_pos hG]; exact OwnS.nil _ _)
theorem of_ok (g : Bool) (x : Lz) (a : Option Addr) (n c : Nat) (w0 : World) :
    Ret Try.prog 22 [.agg #[.bool g, .string x.rule, .int .i64 x.holder, .int .i64 x.token, .int .i64 x.til, .slice a n c]].toArray w0 fun r w' => Fwd [] w0 w' ∧ r = .agg #[.bool g, .string x.rule, .int .i64 x.holder, .int .i64 x.token, .int .i64 x.til, .slice a n c] := by
  refine Ret_start fun w hs => ?_
  refine Ret_of Try.func22 rfl Try.ntmps22 rfl ?_
  refine W_seq ?_
  refine W_region ?_
  first | refine s_box rfl rfl hs ?_
  clear hs; intro b1 w hs
  refine s_alloc rfl AL35 hs ?_; clear hs; intro b2 w hs
  refine WL_nil ?_
  refine n_then ?_
  refine W_seq ?_
  refine W_region ?_
  refine s_fieldAddr rfl rfl (FA52_0 _ _) ?_
  first
    | refine s_load Try.isAgg4 rfl rfl (hs.cell (k := 1) rfl rfl) ?_
  refine s_fieldAddr rfl rfl (FA52_1 _ _) ?_
  first
    | refine s_load_4 Try.isAgg33 Try.sizeOf33 rfl rfl (by first | exact hs.cell (k := 0) rfl rfl | exact hs.cell (k := 1) rfl rfl | exact hs.cell (k := 2) rfl rfl) (by first | exact hs.cell (k := 0) rfl rfl | exact hs.cell (k := 1) rfl rfl | exact hs.cell (k := 2) rfl rfl) (by first | exact hs.cell (k := 0) rfl rfl | exact hs.cell (k := 1) rfl rfl | exact hs.cell (k := 2) rfl rfl) (by first | exact hs.cell (k := 0) rfl rfl | exact hs.cell (k := 1) rfl rfl | exact hs.cell (k := 2) rfl rfl) ?_
  refine s_fieldAddr rfl rfl (FA52_2 _ _) ?_
  first
    | refine s_load Try.isAgg22 rfl rfl (hs.cell (k := 1) rfl rfl) ?_
  refine s_build rfl rfl (BD35_0_1_2 _ _ _ _ _ _ _ _) ?_
  first
    | refine s_storeW Try.sizeOf35 rfl rfl rfl rfl hs (kk := 0) rfl rfl ?_
  clear hs; intro w hs; try simp only [List.set_cons_zero, List.set_cons_succ, splice, List.take_succ_cons, List.take_zero, List.drop_succ_cons, List.drop_zero, List.nil_append, List.cons_append, List.length_cons, List.length_nil, Nat.reduceAdd, List.append_assoc] at hs
  refine WL_nil ?_
  refine n_then ?_
  refine W_ret ?_
  refine end1 rfl (resOk_block Try.isAgg35 Try.sizeOf35 hs rfl (kk := 0) rfl rfl) ?_
  exact ⟨hs.fwd, rfl⟩
abbrev hot : ByteArray := ⟨#[104, 111, 116]⟩
def lf0 : ByteArray → Option Lz := fun _ => none
def lf1 : ByteArray → Option Lz := applyF lf0 true ⟨hot, 1, 1, 15⟩ 0 5
def lf2 : ByteArray → Option Lz := applyF lf1 true ⟨hot, 2, 2, 25⟩ 0 15
theorem lf1_hot : lf1 hot = some ⟨hot, 1, 1, 15⟩ := by decide +kernel
set_option maxHeartbeats 1000000 in
theorem lives_ok (w0 : World) : Ret Try.prog 19 [].toArray w0 fun r w' => Fwd [] w0 w' ∧ r = .bool true := by
  refine Ret_start fun w hs => ?_
  refine Ret_of Try.func19 rfl Try.ntmps19 rfl ?_
  refine W_seq ?_
  refine W_region ?_
  refine s_assign rfl rfl ?_
  refine WL_nil ?_
  refine n_then ?_
  refine W_seq ?_
  refine W_region ?_
  refine s_call Try.call7 rfl rfl (new_ok w) ?_
  rintro r w ⟨p, LT, rfl, hT, hst⟩
  replace hs := St.back0 hs hst
  simp only [List.append_nil] at hs
  clear hst
  refine s_assign rfl rfl ?_
  refine WL_nil ?_
  refine n_then ?_
  refine W_seq ?_
  refine W_seq ?_
  refine W_region ?_
  refine s_move rfl rfl ?_
  refine s_eql_ptr_nil Try.underlying23 rfl rfl rfl ?_
  refine WL_nil ?_
  refine n_then ?_
  refine W_cond_kf rfl (rfl) ?_
  refine W_skip ?_
  refine n_then ?_
  refine W_seq ?_
  refine W_region ?_
  refine s_move rfl rfl ?_
  refine s_callL (M := []) (L1 := LT) (X := []) Try.call10 rfl rfl (by simpa using hs) (fun h => grant_ok p lf0 [] hot 1 5 10 LT w hT h (by intro y hy; cases hy)) ?_
  clear hs; rintro v w LT2 ⟨rfl, g, x, rfl, hx1, hx2⟩ - hs
  obtain ⟨rfl, rfl, hxv⟩ := hx1 (by decide +kernel)
  rw [show grantE lf0 hot 1 5 10 = 0 by decide +kernel, show grantX lf0 hot 1 5 10 = ⟨hot, 1, 1, 15⟩ by decide +kernel] at *
  simp only [List.append_nil, List.nil_append] at hs
  clear hx1 hx2
  refine s_move rfl rfl ?_
  refine s_extract rfl rfl rfl ?_
  refine s_extract rfl rfl rfl ?_
  refine s_alloc rfl AL35 hs ?_; clear hs; intro b2 w hs
  first
    | refine s_storeW Try.sizeOf35 rfl rfl rfl rfl hs (kk := 0) rfl rfl ?_
  clear hs; intro w hs; try simp only [List.set_cons_zero, List.set_cons_succ, splice, List.take_succ_cons, List.take_zero, List.drop_succ_cons, List.drop_zero, List.nil_append, List.cons_append, List.length_cons, List.length_nil, Nat.reduceAdd, List.append_assoc] at hs
  refine s_assign rfl rfl ?_
  refine WL_nil ?_
  refine n_then ?_
  refine W_seq ?_
  refine W_region ?_
  refine s_move rfl rfl ?_
  first
    | refine s_loadW Try.isAgg35 Try.sizeOf35 rfl rfl hs (kk := 0) rfl rfl ?_
  refine s_callL (M := [_]) (L1 := LT2) (X := []) Try.call11 rfl rfl (by simpa using hs) (fun h => apply_ok p lf0 [] true ⟨hot, 1, 1, 15⟩ (.slice none 0 0) [] 5 LT2 w hT h ⟨none, 0, rfl, Nat.le_refl _, .inl rfl⟩ (by simp) (by intro a m c h; cases h)) ?_
  clear hs; rintro v w LT ⟨rfl, cs', hT, hc1, hc2⟩ - hs
  obtain rfl := hc1 (by simp)
  rw [show applyE lf0 true ⟨hot, 1, 1, 15⟩ ([] : List Int).length 5 = 0 by decide +kernel] at *
  simp only [List.append_nil, List.cons_append, List.nil_append] at hs
  replace hT : TabAt p lf1 [] LT := hT
  clear hc1 hc2
  refine s_assign rfl rfl ?_
  refine WL_nil ?_
  refine n_then ?_
  refine W_seq ?_
  refine W_region ?_
  refine s_move rfl rfl ?_
  refine s_callL (M := [_]) (L1 := LT) (X := []) Try.call18 rfl rfl (by simpa using hs) (fun h => holder_ok p lf1 [] hot 14 LT w hT h) ?_
  clear hs; rintro v w LT2 ⟨rfl, y, kn, rfl, hy1, hy2⟩ - hs
  have hkn : kn = true := by
    cases kn
    · exact absurd (hy2 rfl).1 (by decide +kernel)
    · rfl
  subst hkn
  obtain rfl : y = ⟨hot, 1, 1, 15⟩ := by have := (hy1 rfl).1; rw [lf1_hot] at this; cases this; rfl
  simp only [List.append_nil, List.cons_append, List.nil_append] at hs
  clear hy1 hy2
  refine s_move rfl rfl ?_
  refine s_extract rfl rfl rfl ?_
  refine s_extract rfl rfl rfl ?_
  refine s_alloc rfl AL33 hs ?_; clear hs; intro b5 w hs
  first
    | refine s_storeW Try.sizeOf33 rfl rfl rfl rfl hs (kk := 0) rfl rfl ?_
  clear hs; intro w hs; try simp only [List.set_cons_zero, List.set_cons_succ, splice, List.take_succ_cons, List.take_zero, List.drop_succ_cons, List.drop_zero, List.nil_append, List.cons_append, List.length_cons, List.length_nil, Nat.reduceAdd, List.append_assoc] at hs
  refine s_assign rfl rfl ?_
  refine WL_nil ?_
  refine n_then ?_
  refine W_seq ?_
  refine W_region ?_
  refine s_move rfl rfl ?_
  refine s_callL (M := [_, _]) (L1 := LT2) (X := []) Try.call10 rfl rfl (by simpa using hs) (fun h => grant_ok p lf1 [] hot 2 14 10 LT2 w hT h (by intro y hy; rw [lf1_hot] at hy; cases hy; decide)) ?_
  clear hs; rintro v w LT ⟨rfl, g, x, rfl, hx1, hx2⟩ - hs
  obtain ⟨rfl, rfl⟩ := hx2 (by decide +kernel)
  rw [show grantE lf1 hot 2 14 10 = 15 by decide +kernel] at *
  simp only [List.append_nil, List.cons_append, List.nil_append] at hs
  clear hx1 hx2
  refine s_move rfl rfl ?_
  refine s_extract rfl rfl rfl ?_
  refine s_extract rfl rfl rfl ?_
  refine s_alloc rfl AL35 hs ?_; clear hs; intro b7 w hs
  first
    | refine s_storeW Try.sizeOf35 rfl rfl rfl rfl hs (kk := 0) rfl rfl ?_
  clear hs; intro w hs; try simp only [List.set_cons_zero, List.set_cons_succ, splice, List.take_succ_cons, List.take_zero, List.drop_succ_cons, List.drop_zero, List.nil_append, List.cons_append, List.length_cons, List.length_nil, Nat.reduceAdd, List.append_assoc] at hs
  refine s_assign rfl rfl ?_
  refine WL_nil ?_
  refine n_then ?_
  refine W_seq ?_
  refine W_region ?_
  refine s_move rfl rfl ?_
  refine s_callL (M := [_, _, _]) (L1 := LT) (X := []) Try.call10 rfl rfl (by simpa using hs) (fun h => grant_ok p lf1 [] hot 2 15 10 LT w hT h (by intro y hy; rw [lf1_hot] at hy; cases hy; decide)) ?_
  clear hs; rintro v w LT2 ⟨rfl, g, x, rfl, hx1, hx2⟩ - hs
  obtain ⟨rfl, rfl, hxv⟩ := hx1 (by decide +kernel)
  rw [show grantE lf1 hot 2 15 10 = 0 by decide +kernel, show grantX lf1 hot 2 15 10 = ⟨hot, 2, 2, 25⟩ by decide +kernel] at *
  simp only [List.append_nil, List.cons_append, List.nil_append] at hs
  clear hx1 hx2
  refine s_move rfl rfl ?_
  refine s_extract rfl rfl rfl ?_
  refine s_extract rfl rfl rfl ?_
  refine s_alloc rfl AL35 hs ?_; clear hs; intro b9 w hs
  first
    | refine s_storeW Try.sizeOf35 rfl rfl rfl rfl hs (kk := 0) rfl rfl ?_
  clear hs; intro w hs; try simp only [List.set_cons_zero, List.set_cons_succ, splice, List.take_succ_cons, List.take_zero, List.drop_succ_cons, List.drop_zero, List.nil_append, List.cons_append, List.length_cons, List.length_nil, Nat.reduceAdd, List.append_assoc] at hs
  refine s_assign rfl rfl ?_
  refine WL_nil ?_
  refine n_then ?_
  refine W_seq ?_
  refine W_region ?_
  refine s_move rfl rfl ?_
  first
    | refine s_loadW Try.isAgg35 Try.sizeOf35 rfl rfl hs (kk := 0) rfl rfl ?_
  refine s_callL (M := [_, _, _, _]) (L1 := LT2) (X := []) Try.call11 rfl rfl (by simpa using hs) (fun h => apply_ok p lf1 [] true ⟨hot, 2, 2, 25⟩ (.slice none 0 0) [] 15 LT2 w hT h ⟨none, 0, rfl, Nat.le_refl _, .inl rfl⟩ (by simp) (by intro a m c h; cases h)) ?_
  clear hs; rintro v w LT ⟨rfl, cs', hT, hc1, hc2⟩ - hs
  obtain rfl := hc1 (by simp)
  rw [show applyE lf1 true ⟨hot, 2, 2, 25⟩ ([] : List Int).length 15 = 0 by decide +kernel] at *
  simp only [List.append_nil, List.cons_append, List.nil_append] at hs
  replace hT : TabAt p lf2 [] LT := hT
  clear hc1 hc2
  refine s_assign rfl rfl ?_
  refine WL_nil ?_
  refine n_then ?_
  refine W_seq ?_
  refine W_region ?_
  refine s_move rfl rfl ?_
  refine s_fieldAddr rfl rfl (FA35_1 _ _) ?_
  first
    | refine s_load_4 Try.isAgg33 Try.sizeOf33 rfl rfl (by first | exact hs.cell (k := 0) rfl rfl | exact hs.cell (k := 1) rfl rfl | exact hs.cell (k := 2) rfl rfl | exact hs.cell (k := 3) rfl rfl | exact hs.cell (k := 4) rfl rfl | exact hs.cell (k := 5) rfl rfl) (by first | exact hs.cell (k := 0) rfl rfl | exact hs.cell (k := 1) rfl rfl | exact hs.cell (k := 2) rfl rfl | exact hs.cell (k := 3) rfl rfl | exact hs.cell (k := 4) rfl rfl | exact hs.cell (k := 5) rfl rfl) (by first | exact hs.cell (k := 0) rfl rfl | exact hs.cell (k := 1) rfl rfl | exact hs.cell (k := 2) rfl rfl | exact hs.cell (k := 3) rfl rfl | exact hs.cell (k := 4) rfl rfl | exact hs.cell (k := 5) rfl rfl) (by first | exact hs.cell (k := 0) rfl rfl | exact hs.cell (k := 1) rfl rfl | exact hs.cell (k := 2) rfl rfl | exact hs.cell (k := 3) rfl rfl | exact hs.cell (k := 4) rfl rfl | exact hs.cell (k := 5) rfl rfl) ?_
  refine s_buildSlice rfl rfl (BS22_1 _) hs ?_; clear hs; intro b45 w hs
  refine s_build rfl rfl (BD35_1_2 _ _ _ _ _ _ _) ?_
  refine s_callL (M := [_, _, _, _, _]) (L1 := LT) (X := []) Try.call11 rfl rfl (by simpa using hs) (fun h => apply_ok p lf2 [] false ⟨hot, 1, 1, 15⟩ (.slice (some ⟨b45, 0, none⟩) 1 1) [1] 15 LT w hT h (hs.sl (k := 0) rfl (Nat.le_refl _) (by intro j u hj; rw [Nat.zero_add]; exact hj)) (by simp)
    (by intro a m c h _ h2; cases h; exact (List.nodup_cons.1 hs.nodup).1 (by simp [ids_append, ids, h2]))) ?_
  clear hs; rintro v w LT ⟨rfl, cs', hT, hc1, hc2⟩ - hs
  rw [show applyE lf2 false ⟨hot, 1, 1, 15⟩ ([1] : List Int).length 15 = 15 by decide +kernel] at *
  simp only [List.append_nil, List.cons_append, List.nil_append] at hs
  refine s_assign rfl rfl ?_
  refine WL_nil ?_
  refine n_then ?_
  refine W_seq ?_
  refine W_region ?_
  refine s_move rfl rfl ?_
  refine s_eql rfl rfl rfl ?_
  refine s_move rfl rfl ?_
  refine WL_know (s := 50) (c := true) rfl (rfl) ?_
  refine WL_take rfl ?_
  refine s_move rfl rfl ?_
  refine WL_take rfl ?_
  refine s_eql rfl rfl rfl ?_
  refine s_pick_t rfl rfl rfl ?_
  refine s_move rfl rfl ?_
  refine WL_know (s := 54) (c := true) rfl (rfl) ?_
  refine WL_take rfl ?_
  refine s_move rfl rfl ?_
  refine s_pick_t rfl rfl rfl ?_
  refine s_move rfl rfl ?_
  refine WL_know (s := 57) (c := true) rfl (rfl) ?_
  refine WL_take rfl ?_
  refine s_fieldAddr rfl rfl (FA33_1 _ _) ?_
  refine WL_take rfl ?_
  first
    | refine s_load Try.isAgg3 rfl rfl (hs.cell (k := 3) rfl rfl) ?_
  refine WL_take rfl ?_
  refine s_eql rfl rfl rfl ?_
  refine s_pick_t rfl rfl rfl ?_
  refine s_move rfl rfl ?_
  refine WL_know (s := 62) (c := true) rfl (rfl) ?_
  refine WL_take rfl ?_
  refine s_fieldAddr rfl rfl (FA35_1 _ _) ?_
  refine WL_take rfl ?_
  refine s_fieldAddr rfl rfl (FA33_2 _ _) ?_
  refine WL_take rfl ?_
  first
    | refine s_load Try.isAgg3 rfl rfl (hs.cell (k := 4) rfl rfl) ?_
  refine WL_take rfl ?_
  refine s_eql rfl rfl rfl ?_
  refine s_pick_t rfl rfl rfl ?_
  refine s_move rfl rfl ?_
  refine WL_know (s := 68) (c := true) rfl (rfl) ?_
  refine WL_take rfl ?_
  refine s_fieldAddr rfl rfl (FA35_1 _ _) ?_
  refine WL_take rfl ?_
  refine s_fieldAddr rfl rfl (FA33_3 _ _) ?_
  refine WL_take rfl ?_
  first
    | refine s_load Try.isAgg3 rfl rfl (hs.cell (k := 4) rfl rfl) ?_
  refine WL_take rfl ?_
  refine s_eql rfl rfl rfl ?_
  refine s_pick_t rfl rfl rfl ?_
  refine s_move rfl rfl ?_
  refine WL_know (s := 74) (c := true) rfl (rfl) ?_
  refine WL_take rfl ?_
  refine s_move rfl rfl ?_
  refine WL_take rfl ?_
  refine s_eql rfl rfl rfl ?_
  refine s_pick_t rfl rfl rfl ?_
  refine s_move rfl rfl ?_
  refine WL_know (s := 78) (c := true) rfl (rfl) ?_
  refine WL_take rfl ?_
  refine s_move rfl rfl ?_
  refine WL_take rfl ?_
  refine s_eql rfl rfl rfl ?_
  refine s_pick_t rfl rfl rfl ?_
  refine s_move rfl rfl ?_
  refine WL_know (s := 82) (c := true) rfl (rfl) ?_
  refine WL_take rfl ?_
  refine s_fieldAddr rfl rfl (FA35_1 _ _) ?_
  refine WL_take rfl ?_
  refine s_fieldAddr rfl rfl (FA33_2 _ _) ?_
  refine WL_take rfl ?_
  first
    | refine s_load Try.isAgg3 rfl rfl (hs.cell (k := 1) rfl rfl) ?_
  refine WL_take rfl ?_
  refine s_eql rfl rfl rfl ?_
  refine s_pick_t rfl rfl rfl ?_
  refine s_move rfl rfl ?_
  refine WL_know (s := 88) (c := true) rfl (rfl) ?_
  refine WL_take rfl ?_
  refine s_move rfl rfl ?_
  refine WL_take rfl ?_
  refine s_eql rfl rfl rfl ?_
  refine s_pick_t rfl rfl rfl ?_
  refine s_move rfl rfl ?_
  refine WL_know (s := 92) (c := true) rfl (rfl) ?_
  refine WL_take rfl ?_
  refine s_move rfl rfl ?_
  refine WL_take rfl ?_
  refine s_eql rfl rfl rfl ?_
  refine s_pick_t rfl rfl rfl ?_
  refine s_assign rfl rfl ?_
  refine WL_nil ?_
  refine n_then ?_
  refine W_ret ?_
  exact end1 rfl rfl ⟨hs.fwd, rfl⟩
end Go.Proofs.Ytkobigdfijeajaa
