/- Contracts of package lease: New, Holder, Apply. -/
import Derived.Test.YtkobigdfijeajaaLeaA
set_option linter.unusedVariables false
set_option linter.unusedSimpArgs false
namespace Go.Proofs.Ytkobigdfijeajaa
open Go.SL
/-- a command that was kept: its slice, its bytes, its blocks -/
structure Cmd where
  v : Value
  bs : List Int
  L : Hp
def Cmd.ok (c : Cmd) : Prop := OwnS 5 1 c.v c.bs.length (u8s c.bs) c.L ∧ c.bs.length ≤ 65536
def cvals (cs : List Cmd) : List Value := cs.map (·.v)
def cblks (cs : List Cmd) : Hp := cs.flatMap (·.L)
/-- the table at p -/
def TabAt (p : Nat) (f : ByteArray → Option Lz) (cs : List Cmd) (L : Hp) : Prop :=
  ∃ m o cv Lc, L = (p, Blk 85 [.map (some m), cv]) :: (m, o) :: (Lc ++ cblks cs) ∧ MapS o (fun s => (f s).map Lz.val) ∧ OwnS 22 1 cv cs.length (cvals cs) Lc ∧ ∀ c ∈ cs, c.ok
theorem new_ok (w0 : World) : Ret Try.prog 7 [].toArray w0 fun r w' => ∃ p L, r = .pointer (some ⟨p, 0, none⟩) ∧ TabAt p (fun _ => none) [] L ∧ St [] w0 w' L := by
  refine Ret_start fun w hs => ?_
  refine Ret_of Try.func7 rfl Try.ntmps7 rfl ?_
  refine W_seq ?_
  refine W_region ?_
  refine s_assign rfl rfl ?_
  refine WL_nil ?_
  refine n_then ?_
  refine W_seq ?_
  refine W_region ?_
  refine s_makeMap rfl hs ?_; clear hs; intro b1 w hs
  refine s_build rfl rfl (BD85_0 _) ?_
  first | refine s_box rfl rfl hs ?_
  clear hs; intro b3 w hs
  refine s_assign rfl rfl ?_
  refine WL_nil ?_
  refine n_then ?_
  refine W_ret ?_
  refine end1 rfl rfl ⟨b3, _, rfl, ⟨b1, _, _, [], ?_, MapS.empty 0, OwnS.nil _ _, by simp⟩, hs⟩
  simp [cblks]
theorem look (f : ByteArray → Option Lz) (s : ByteArray) : ∃ y kn, ((f s).map Lz.val).getD (.agg #[.string ByteArray.empty, .int .i64 0, .int .i64 0, .int .i64 0]) = .agg #[.string y.rule, .int .i64 y.holder, .int .i64 y.token, .int .i64 y.til] ∧ ((f s).map Lz.val).isSome = kn ∧
    (kn = true → f s = some y) ∧ (kn = false → f s = none ∧ y = ⟨ByteArray.empty, 0, 0, 0⟩) := by
  cases h : f s with
  | none => exact ⟨⟨ByteArray.empty, 0, 0, 0⟩, false, rfl, rfl, by simp, by simp⟩
  | some y => exact ⟨y, true, rfl, rfl, by simp, by simp⟩
def holderV (f : ByteArray → Option Lz) (s : ByteArray) (t : Int) : Option Lz := match f s with
  | some y => if y.til ≤ t then none else some y
  | none => none
theorem holder_ok (p : Nat) (f : ByteArray → Option Lz) (cs : List Cmd) (s : ByteArray) (t : Int) (L0 : Hp) (w0 : World) (hT : TabAt p f cs L0) (hs : St (ids L0) w0 w0 L0) :
    Ret Try.prog 18 [.pointer (some ⟨p, 0, none⟩), .string s, .int .i64 t].toArray w0 fun r w' => ∃ L', St (ids L0) w0 w' L' ∧ L' = L0 ∧
      ∃ y kn, r = .tuple #[.agg #[.string y.rule, .int .i64 y.holder, .int .i64 y.token, .int .i64 y.til], .bool kn] ∧ (kn = true → f s = some y ∧ t < y.til) ∧ (kn = false → holderV f s t = none ∧ y = ⟨ByteArray.empty, 0, 0, 0⟩) := by
  obtain ⟨m, o, cv, Lc, hL, hM, hO, hC⟩ := hT
  obtain ⟨y, kn, hgv, hkn, hy1, hy2⟩ := look f s
  replace hs : St (ids L0) w0 w0 ((p, Blk 85 [.map (some m), cv]) :: (m, o) :: (Lc ++ cblks cs)) := by rw [hL] at hs ⊢; exact hs
  refine Ret_startL hs fun w hs => ?_
  refine Ret_of Try.func18 rfl Try.ntmps18 rfl ?_
  refine W_seq ?_
  refine W_region ?_
  refine s_alloc rfl AL33 hs ?_; clear hs; intro b6 w hs
  refine s_assign rfl rfl ?_
  refine WL_nil ?_
  refine n_then ?_
  refine W_seq ?_
  refine W_region ?_
  refine s_move rfl rfl ?_
  refine s_nilCheck rfl rfl ?_
  refine s_fieldAddr rfl rfl (FA85_0 _ _) ?_
  first
    | refine s_load Try.isAgg83 rfl rfl (hs.cell (k := 1) rfl rfl) ?_
  refine s_move rfl rfl ?_
  first
    | refine s_lookup2 Try.underlying83 Try.underlying9 ZV33 rfl rfl rfl hs (kk := 2) rfl hM hgv hkn ?_
  refine s_move rfl rfl ?_
  refine s_extract rfl rfl rfl ?_
  refine s_extract rfl rfl rfl ?_
  refine s_alloc rfl AL33 hs ?_; clear hs; intro b8 w hs
  first
    | refine s_storeW Try.sizeOf33 rfl rfl rfl rfl hs (kk := 0) rfl rfl ?_
  clear hs; intro w hs; try simp only [List.set_cons_zero, List.set_cons_succ, splice, List.take_succ_cons, List.take_zero, List.drop_succ_cons, List.drop_zero, List.nil_append, List.cons_append, List.length_cons, List.length_nil, Nat.reduceAdd, List.append_assoc] at hs
  refine s_assign rfl rfl ?_
  refine WL_nil ?_
  refine n_then ?_
  refine W_seq ?_
  refine W_seq ?_
  refine W_region ?_
  refine s_move rfl rfl ?_
  refine s_not rfl rfl ?_
  refine s_move rfl rfl ?_
  refine WL_case (s := 21) rfl (fun hg21 => ?_) (fun hg21 => ?_)
  · skip
    simp only [decide_eq_true_eq, decide_eq_false_iff_not, Bool.not_eq_true', Bool.not_eq_false'] at hg21
    refine WL_skip rfl rfl rfl ?_
    refine WL_skip rfl rfl rfl ?_
    refine WL_skip rfl rfl rfl ?_
    refine WL_skip rfl rfl rfl ?_
    refine s_pick_t rfl rfl rfl ?_
    refine WL_nil ?_
    refine n_then ?_
    refine W_cond_t rfl ?_
    refine W_seq ?_
    refine W_region ?_
    refine s_build rfl rfl (BD33_ ) ?_
    first
      | refine s_storeW Try.sizeOf33 rfl rfl rfl rfl hs (kk := 1) rfl rfl ?_
    clear hs; intro w hs; try simp only [List.set_cons_zero, List.set_cons_succ, splice, List.take_succ_cons, List.take_zero, List.drop_succ_cons, List.drop_zero, List.nil_append, List.cons_append, List.length_cons, List.length_nil, Nat.reduceAdd, List.append_assoc] at hs
    refine s_assign rfl rfl ?_
    refine WL_nil ?_
    refine n_then ?_
    refine W_ret ?_
    refine r_then ?_
    refine end2 rfl (resOk_block Try.isAgg33 Try.sizeOf33 hs rfl (kk := 1) rfl rfl) rfl ?_
    refine ⟨_, hs.tail.tail, hL.symm, ?_⟩
    first
      | exact ⟨⟨ByteArray.empty, 0, 0, 0⟩, false, rfl, by simp, fun _ => ⟨by rw [holderV, (hy2 ‹_›).1], rfl⟩⟩
  · skip
    simp only [decide_eq_true_eq, decide_eq_false_iff_not, Bool.not_eq_true', Bool.not_eq_false'] at hg21
    refine WL_take rfl ?_
    refine s_fieldAddr rfl rfl (FA33_3 _ _) ?_
    refine WL_take rfl ?_
    first
      | refine s_load Try.isAgg3 rfl rfl (hs.cell (k := 0) rfl rfl) ?_
    refine WL_take rfl ?_
    refine s_move rfl rfl ?_
    refine WL_take rfl ?_
    refine s_leq rfl rfl rfl ?_
    refine s_pick_f rfl rfl rfl ?_
    refine WL_nil ?_
    refine n_then ?_
    refine W_cond rfl (fun hc26 => ?_) (fun hc26 => ?_)
    · skip
      simp only [decide_eq_true_eq, decide_eq_false_iff_not, Bool.not_eq_true', Bool.not_eq_false'] at hc26
      refine W_seq ?_
      refine W_region ?_
      refine s_build rfl rfl (BD33_ ) ?_
      first
        | refine s_storeW Try.sizeOf33 rfl rfl rfl rfl hs (kk := 1) rfl rfl ?_
      clear hs; intro w hs; try simp only [List.set_cons_zero, List.set_cons_succ, splice, List.take_succ_cons, List.take_zero, List.drop_succ_cons, List.drop_zero, List.nil_append, List.cons_append, List.length_cons, List.length_nil, Nat.reduceAdd, List.append_assoc] at hs
      refine s_assign rfl rfl ?_
      refine WL_nil ?_
      refine n_then ?_
      refine W_ret ?_
      refine r_then ?_
      refine end2 rfl (resOk_block Try.isAgg33 Try.sizeOf33 hs rfl (kk := 1) rfl rfl) rfl ?_
      refine ⟨_, hs.tail.tail, hL.symm, ?_⟩
      first
        | exact ⟨⟨ByteArray.empty, 0, 0, 0⟩, false, rfl, by simp, fun _ => ⟨by rw [holderV, hy1 ‹_›]; simp only; rw [if_pos (by omega)], rfl⟩⟩
    · skip
      simp only [decide_eq_true_eq, decide_eq_false_iff_not, Bool.not_eq_true', Bool.not_eq_false'] at hc26
      refine W_skip ?_
      refine n_then ?_
      refine W_seq ?_
      refine W_region ?_
      first
        | refine s_loadW Try.isAgg33 Try.sizeOf33 rfl rfl hs (kk := 0) rfl rfl ?_
      first
        | refine s_storeW Try.sizeOf33 rfl rfl rfl rfl hs (kk := 1) rfl rfl ?_
      clear hs; intro w hs; try simp only [List.set_cons_zero, List.set_cons_succ, splice, List.take_succ_cons, List.take_zero, List.drop_succ_cons, List.drop_zero, List.nil_append, List.cons_append, List.length_cons, List.length_nil, Nat.reduceAdd, List.append_assoc] at hs
      refine s_assign rfl rfl ?_
      refine WL_nil ?_
      refine n_then ?_
      refine W_ret ?_
      refine end2 rfl (resOk_block Try.isAgg33 Try.sizeOf33 hs rfl (kk := 1) rfl rfl) rfl ?_
      refine ⟨_, hs.tail.tail, hL.symm, ?_⟩
      first
        | exact ⟨y, true, rfl, fun _ => ⟨hy1 ‹_›, by omega⟩, by simp⟩
def applyE (f : ByteArray → Option Lz) (g : Bool) (x : Lz) (n : Nat) (t : Int) : Int :=
  if ¬ validP g x n ∨ ¬ (0 ≤ t ∧ t ≤ 1048576) then 1
  else if g = false then (match f x.rule with | some y => if y = x ∧ t < y.til then 0 else 15 | none => 15)
  else if x.til ≤ t then 1
  else match f x.rule with | some y => if x.token ≤ y.token ∨ (t < y.til ∧ y.holder ≠ x.holder) then 15 else 0 | none => 0
/-- the leases behind Apply -/
def applyF (f : ByteArray → Option Lz) (g : Bool) (x : Lz) (n : Nat) (t : Int) : ByteArray → Option Lz := if applyE f g x n t = 0 ∧ g = true then fun q => if q = x.rule then some x else f q else f
section
variable {f : ByteArray → Option Lz} {g : Bool} {x y : Lz} {n : Nat} {t : Int}
theorem applyE_bad (h : ¬ validP g x n ∨ ¬ (0 ≤ t ∧ t ≤ 1048576)) : applyE f g x n t = 1 := by rw [applyE, if_pos h]
theorem applyE_c15n (h1 : validP g x n) (h2 : 0 ≤ t ∧ t ≤ 1048576) (hg : g = false) (hf : f x.rule = none) : applyE f g x n t = 15 := by rw [applyE, if_neg (by simp [h1, h2]), if_pos hg, hf]
theorem applyE_c15 (h1 : validP g x n) (h2 : 0 ≤ t ∧ t ≤ 1048576) (hg : g = false) (hf : f x.rule = some y) (h : ¬ (y = x ∧ t < y.til)) : applyE f g x n t = 15 := by rw [applyE, if_neg (by simp [h1, h2]), if_pos hg, hf]; simp only; rw [if_neg h]
theorem applyE_c0 (h1 : validP g x n) (h2 : 0 ≤ t ∧ t ≤ 1048576) (hg : g = false) (hf : f x.rule = some y) (h : y = x ∧ t < y.til) : applyE f g x n t = 0 := by rw [applyE, if_neg (by simp [h1, h2]), if_pos hg, hf]; simp only; rw [if_pos h]
theorem applyE_g1 (h1 : validP g x n) (h2 : 0 ≤ t ∧ t ≤ 1048576) (hg : g = true) (h : x.til ≤ t) : applyE f g x n t = 1 := by rw [applyE, if_neg (by simp [h1, h2]), if_neg (by simp [hg]), if_pos h]
theorem applyE_g15 (h1 : validP g x n) (h2 : 0 ≤ t ∧ t ≤ 1048576) (hg : g = true) (h : ¬ x.til ≤ t) (hf : f x.rule = some y) (h3 : x.token ≤ y.token ∨ (t < y.til ∧ y.holder ≠ x.holder)) : applyE f g x n t = 15 := by rw [applyE, if_neg (by simp [h1, h2]), if_neg (by simp [hg]), if_neg h, hf]; simp only; rw [if_pos h3]
theorem applyE_g0 (h1 : validP g x n) (h2 : 0 ≤ t ∧ t ≤ 1048576) (hg : g = true) (h : ¬ x.til ≤ t) (hf : f x.rule = some y) (h3 : ¬ (x.token ≤ y.token ∨ (t < y.til ∧ y.holder ≠ x.holder))) : applyE f g x n t = 0 := by rw [applyE, if_neg (by simp [h1, h2]), if_neg (by simp [hg]), if_neg h, hf]; simp only; rw [if_neg h3]
theorem applyE_g0n (h1 : validP g x n) (h2 : 0 ≤ t ∧ t ≤ 1048576) (hg : g = true) (h : ¬ x.til ≤ t) (hf : f x.rule = none) : applyE f g x n t = 0 := by rw [applyE, if_neg (by simp [h1, h2]), if_neg (by simp [hg]), if_neg h, hf]
theorem app_err {N : Int} {p : Nat} {cs : List Cmd} {F : List Nat} {w0 w : World} {L' : Hp} (hE : applyE f g x n t = N) (hN : N ≠ 0) (hT : TabAt p f cs L') (hs : St F w0 w L') {bs : List Int} : ∃ L', St F w0 w L' ∧ Value.int .i64 N = .int .i64 (applyE f g x n t) ∧
    ∃ cs', TabAt p (applyF f g x n t) cs' L' ∧ (¬ (applyE f g x n t = 0 ∧ g = false) → cs' = cs) ∧ (applyE f g x n t = 0 ∧ g = false → ∃ c : Cmd, c.bs = bs ∧ cs' = cs ++ [c]) :=
  ⟨L', hs, by rw [hE], cs, by rw [applyF, if_neg (by rw [hE]; exact fun h => hN h.1)]; exact hT, fun _ => rfl, fun h => absurd (hE.symm.trans h.1) hN⟩
end
theorem cblks_append (a b : List Cmd) : cblks (a ++ b) = cblks a ++ cblks b := by simp [cblks]
set_option maxHeartbeats 4000000 in
theorem apply_ok (p : Nat) (f : ByteArray → Option Lz) (cs : List Cmd) (g : Bool) (x : Lz) (v : Value) (bs : List Int) (t : Int) (L0 : Hp) (w0 : World) (hT : TabAt p f cs L0) (hs : St (ids L0) w0 w0 L0)
    (hv : Sl w0 v bs.length (u8s bs)) (hcl : cs.length ≤ 4294967296) (hd : ∀ a m c, v = .slice (some a) m c → u8s bs ≠ [] → a.block ∉ ids L0) :
    Ret Try.prog 11 [.pointer (some ⟨p, 0, none⟩), .agg #[.bool g, .string x.rule, .int .i64 x.holder, .int .i64 x.token, .int .i64 x.til, v], .int .i64 t].toArray w0 fun r w' => ∃ L', St (ids L0) w0 w' L' ∧
      r = .int .i64 (applyE f g x bs.length t) ∧ ∃ cs', TabAt p (applyF f g x bs.length t) cs' L' ∧ (¬ (applyE f g x bs.length t = 0 ∧ g = false) → cs' = cs) ∧ (applyE f g x bs.length t = 0 ∧ g = false → ∃ c : Cmd, c.bs = bs ∧ cs' = cs ++ [c]) := by
  obtain ⟨m, o, cv, Lc, hL, hM, hO, hC⟩ := hT
  obtain ⟨y, kn, hgv, hkn, hy1, hy2⟩ := look f x.rule
  obtain ⟨a, c, rfl, hc⟩ := hv.len_le
  obtain ⟨cl, cc, ca, rfl, rfl⟩ := hO.form
  replace hs : St (ids L0) w0 w0 ((p, Blk 85 [.map (some m), .slice ca cs.length cc]) :: (m, o) :: (Lc ++ cblks cs)) := by rw [hL] at hs ⊢; exact hs
  refine Ret_startL hs fun w hs => ?_
  refine Ret_of Try.func11 rfl Try.ntmps11 rfl ?_
  refine W_seq ?_
  refine W_region ?_
  first | refine s_box rfl rfl hs ?_
  clear hs; intro b4 w hs
  refine s_assign rfl rfl ?_
  refine WL_nil ?_
  refine n_then ?_
  refine W_seq ?_
  refine W_seq ?_
  refine W_region ?_
  first
    | refine s_loadW Try.isAgg35 Try.sizeOf35 rfl rfl hs (kk := 0) rfl rfl ?_
  refine s_call Try.call42 rfl rfl (valid_ok g x a bs.length c w) ?_
  rintro r w ⟨hst, rfl⟩
  replace hs := hs.fwd1 hst
  clear hst
  refine s_not rfl rfl ?_
  refine s_move rfl rfl ?_
  refine WL_case (s := 12) rfl (fun hg12 => ?_) (fun hg12 => ?_)
  · skip
    try simp only [decide_eq_true_eq, decide_eq_false_iff_not, Bool.not_eq_true', Bool.not_eq_false', bne_iff_ne, bne_eq_false_iff_eq, ne_eq] at hg12
    refine WL_skip rfl rfl rfl ?_
    refine WL_skip rfl rfl rfl ?_
    refine WL_skip rfl rfl rfl ?_
    refine s_pick_t rfl rfl rfl ?_
    refine WL_nil ?_
    refine n_then ?_
    refine W_cond_t rfl ?_
    refine W_seq ?_
    refine W_region ?_
    refine s_assign rfl rfl ?_
    refine WL_nil ?_
    refine n_then ?_
    refine W_ret ?_
    refine r_then ?_
    first
      | exact end1 rfl rfl (app_err (applyE_bad (.inl ‹_›)) (by decide) ⟨m, o, _, Lc, rfl, hM, hO, hC⟩ hs.tail)
  · skip
    try simp only [decide_eq_true_eq, decide_eq_false_iff_not, Bool.not_eq_true', Bool.not_eq_false', bne_iff_ne, bne_eq_false_iff_eq, ne_eq] at hg12
    refine WL_take rfl ?_
    refine s_move rfl rfl ?_
    refine WL_take rfl ?_
    refine s_call Try.call41 rfl rfl (isTick_ok t w) ?_
    rintro r w ⟨rfl, rfl⟩
    refine WL_take rfl ?_
    refine s_not rfl rfl ?_
    refine s_pick_f rfl rfl rfl ?_
    refine WL_nil ?_
    refine n_then ?_
    refine W_cond rfl (fun hc16 => ?_) (fun hc16 => ?_)
    · skip
      try simp only [decide_eq_true_eq, decide_eq_false_iff_not, Bool.not_eq_true', Bool.not_eq_false', bne_iff_ne, bne_eq_false_iff_eq, ne_eq] at hc16
      refine W_seq ?_
      refine W_region ?_
      refine s_assign rfl rfl ?_
      refine WL_nil ?_
      refine n_then ?_
      refine W_ret ?_
      refine r_then ?_
      first
        | exact end1 rfl rfl (app_err (applyE_bad (.inr ‹_›)) (by decide) ⟨m, o, _, Lc, rfl, hM, hO, hC⟩ hs.tail)
    · skip
      try simp only [decide_eq_true_eq, decide_eq_false_iff_not, Bool.not_eq_true', Bool.not_eq_false', bne_iff_ne, bne_eq_false_iff_eq, ne_eq] at hc16
      refine W_skip ?_
      refine n_then ?_
      refine W_seq ?_
      refine W_draw [(0, true, []), (1, true, []), (2, true, []), (3, true, []), (4, true, []), (5, true, []), (6, true, []), (7, true, []), (8, true, []), (9, true, []), (10, true, []), (11, false, [0, 1, 2, 3, 4, 5, 6, 7, 8, 9, 10]), (12, false, [10]), (13, true, [])] [[], [0], [0, 1], [0, 1, 2], [], [4], [4, 5], [0, 1, 2, 3, 4, 5, 6], [0, 1, 2, 3, 4, 5, 6, 7], [0, 1, 2, 3, 4, 5, 6, 7, 8], [0, 1, 2, 3, 4, 5, 6, 7, 8], [], [0, 1, 2, 3, 4, 5, 6, 7, 8, 9, 11], [0, 1, 2, 3, 4, 5, 6, 7, 8, 9, 10, 11, 12]] MX (by kernel_rfl) ?_
      intro w1 hw1 hw2 hw3 hw4; replace hs := hs.redrawn hw1 hw2 hw3 hw4; clear hw1 hw2 hw3 hw4
      obtain ⟨w, rfl⟩ : ∃ w : World, w = w1 := ⟨_, rfl⟩
      refine D_q rfl rfl ?_
      refine s_move rfl rfl ?_
      refine D_qn ?_
      refine D_q rfl rfl ?_
      refine s_nilCheck rfl rfl ?_
      refine D_qn ?_
      refine D_q rfl rfl ?_
      refine s_fieldAddr rfl rfl (FA85_0 _ _) ?_
      refine D_qn ?_
      refine D_q rfl rfl ?_
      first
        | refine s_load Try.isAgg83 rfl rfl (hs.cell (k := 1) rfl rfl) ?_
      refine D_qn ?_
      refine D_q rfl rfl ?_
      refine s_fieldAddr rfl rfl (FA35_1 _ _) ?_
      refine D_qn ?_
      refine D_q rfl rfl ?_
      refine s_fieldAddr rfl rfl (FA33_0 _ _) ?_
      refine D_qn ?_
      refine D_q rfl rfl ?_
      first
        | refine s_load Try.isAgg9 rfl rfl (hs.cell (k := 0) rfl rfl) ?_
      refine D_qn ?_
      refine D_q rfl rfl ?_
      first
        | refine s_lookup2 Try.underlying83 Try.underlying9 ZV33 rfl rfl rfl hs (kk := 2) rfl hM hgv hkn ?_
      refine D_qn ?_
      refine D_q rfl rfl ?_
      refine s_move rfl rfl ?_
      refine D_qn ?_
      refine D_q rfl rfl ?_
      refine s_extract rfl rfl rfl ?_
      refine D_qn ?_
      refine D_q rfl rfl ?_
      refine s_extract rfl rfl rfl ?_
      refine D_qn ?_
      refine D_e rfl ?_
      refine s_alloc rfl AL33 hs ?_; clear hs; intro b7 w hs
      refine D_en ?re ?_
      case re =>
        refine Reks_cons rfl rfl rfl rfl ?_ ?_
        · skip
          refine s_move rfl rfl ?_
          exact Rek_end rfl
        refine Reks_cons rfl rfl rfl rfl ?_ ?_
        · skip
          refine s_nilCheck rfl rfl ?_
          exact Rek_end rfl
        refine Reks_cons rfl rfl rfl rfl ?_ ?_
        · skip
          refine s_fieldAddr rfl rfl (FA85_0 _ _) ?_
          exact Rek_end rfl
        refine Reks_cons rfl rfl rfl rfl ?_ ?_
        · skip
          first
            | refine s_load Try.isAgg83 rfl rfl (hs.cell (k := 2) rfl rfl) ?_
          exact Rek_end rfl
        refine Reks_cons rfl rfl rfl rfl ?_ ?_
        · skip
          refine s_fieldAddr rfl rfl (FA35_1 _ _) ?_
          exact Rek_end rfl
        refine Reks_cons rfl rfl rfl rfl ?_ ?_
        · skip
          refine s_fieldAddr rfl rfl (FA33_0 _ _) ?_
          exact Rek_end rfl
        refine Reks_cons rfl rfl rfl rfl ?_ ?_
        · skip
          first
            | refine s_load Try.isAgg9 rfl rfl (hs.cell (k := 1) rfl rfl) ?_
          exact Rek_end rfl
        refine Reks_cons rfl rfl rfl rfl ?_ ?_
        · skip
          first
            | refine s_lookup2 Try.underlying83 Try.underlying9 ZV33 rfl rfl rfl hs (kk := 3) rfl hM hgv hkn ?_
          exact Rek_end rfl
        refine Reks_cons rfl rfl rfl rfl ?_ ?_
        · skip
          refine s_move rfl rfl ?_
          exact Rek_end rfl
        refine Reks_cons rfl rfl rfl rfl ?_ ?_
        · skip
          refine s_extract rfl rfl rfl ?_
          exact Rek_end rfl
        refine Reks_cons rfl rfl rfl rfl ?_ ?_
        · skip
          refine s_extract rfl rfl rfl ?_
          exact Rek_end rfl
        exact Reks_nil
      refine D_e rfl ?_
      first
        | refine s_storeW Try.sizeOf33 rfl rfl rfl rfl hs (kk := 0) rfl rfl ?_
      clear hs; intro w hs; try simp only [List.set_cons_zero, List.set_cons_succ, splice, List.take_succ_cons, List.take_zero, List.drop_succ_cons, List.drop_zero, List.nil_append, List.cons_append, List.length_cons, List.length_nil, Nat.reduceAdd, List.append_assoc] at hs
      refine D_en ?re ?_
      case re =>
        refine Reks_cons rfl rfl rfl rfl ?_ ?_
        · skip
          refine s_extract rfl rfl rfl ?_
          exact Rek_end rfl
        exact Reks_nil
      refine D_q rfl rfl ?_
      refine s_assign rfl rfl ?_
      refine D_qn ?_
      refine D_nil ?_
      refine n_then ?_
      refine W_seq ?_
      refine W_seq ?_
      refine W_region ?_
      refine s_fieldAddr rfl rfl (FA35_0 _ _) ?_
      first
        | refine s_load Try.isAgg4 rfl rfl (hs.cell (k := 1) rfl rfl) ?_
      refine s_not rfl rfl ?_
      refine WL_nil ?_
      refine n_then ?_
      refine W_cond rfl (fun hc30 => ?_) (fun hc30 => ?_)
      · skip
        try simp only [decide_eq_true_eq, decide_eq_false_iff_not, Bool.not_eq_true', Bool.not_eq_false', bne_iff_ne, bne_eq_false_iff_eq, ne_eq] at hc30
        refine W_seq ?_
        refine W_seq ?_
        refine W_region ?_
        refine s_move rfl rfl ?_
        refine s_not rfl rfl ?_
        refine s_move rfl rfl ?_
        refine WL_case (s := 33) rfl (fun hg33 => ?_) (fun hg33 => ?_)
        · skip
          try simp only [decide_eq_true_eq, decide_eq_false_iff_not, Bool.not_eq_true', Bool.not_eq_false', bne_iff_ne, bne_eq_false_iff_eq, ne_eq] at hg33
          refine WL_skip rfl rfl rfl ?_
          refine WL_skip rfl rfl rfl ?_
          refine WL_skip rfl rfl rfl ?_
          refine WL_skip rfl rfl rfl ?_
          refine s_pick_t rfl rfl rfl ?_
          refine s_move rfl rfl ?_
          refine WL_skip rfl rfl rfl ?_
          refine WL_skip rfl rfl rfl ?_
          refine WL_skip rfl rfl rfl ?_
          refine WL_skip rfl rfl rfl ?_
          refine s_pick_t rfl rfl rfl ?_
          refine WL_nil ?_
          refine n_then ?_
          refine W_cond_t rfl ?_
          refine W_seq ?_
          refine W_region ?_
          refine s_assign rfl rfl ?_
          refine WL_nil ?_
          refine n_then ?_
          refine W_ret ?_
          refine r_then ?_
          refine r_then ?_
          first
            | exact end1 rfl rfl (app_err (applyE_c15n hg12 hc16 ‹_› (hy2 ‹_›).1) (by decide) ⟨m, o, _, Lc, rfl, hM, hO, hC⟩ hs.tail.tail)
        · skip
          try simp only [decide_eq_true_eq, decide_eq_false_iff_not, Bool.not_eq_true', Bool.not_eq_false', bne_iff_ne, bne_eq_false_iff_eq, ne_eq] at hg33
          refine WL_take rfl ?_
          first
            | refine s_loadW Try.isAgg33 Try.sizeOf33 rfl rfl hs (kk := 0) rfl rfl ?_
          refine WL_take rfl ?_
          refine s_fieldAddr rfl rfl (FA35_1 _ _) ?_
          refine WL_take rfl ?_
          first
            | refine s_load_4 Try.isAgg33 Try.sizeOf33 rfl rfl (by first | exact hs.cell (k := 0) rfl rfl | exact hs.cell (k := 1) rfl rfl | exact hs.cell (k := 2) rfl rfl | exact hs.cell (k := 3) rfl rfl | exact hs.cell (k := 4) rfl rfl) (by first | exact hs.cell (k := 0) rfl rfl | exact hs.cell (k := 1) rfl rfl | exact hs.cell (k := 2) rfl rfl | exact hs.cell (k := 3) rfl rfl | exact hs.cell (k := 4) rfl rfl) (by first | exact hs.cell (k := 0) rfl rfl | exact hs.cell (k := 1) rfl rfl | exact hs.cell (k := 2) rfl rfl | exact hs.cell (k := 3) rfl rfl | exact hs.cell (k := 4) rfl rfl) (by first | exact hs.cell (k := 0) rfl rfl | exact hs.cell (k := 1) rfl rfl | exact hs.cell (k := 2) rfl rfl | exact hs.cell (k := 3) rfl rfl | exact hs.cell (k := 4) rfl rfl) ?_
          refine WL_take rfl ?_
          refine s_neq_agg EG33 rfl rfl rfl (SE33 _ _ _ _ _ _ _ _) ?_
          refine s_pick_f rfl rfl rfl ?_
          refine s_move rfl rfl ?_
          refine WL_case (s := 39) rfl (fun hg39 => ?_) (fun hg39 => ?_)
          · skip
            try simp only [decide_eq_true_eq, decide_eq_false_iff_not, Bool.not_eq_true', Bool.not_eq_false', bne_iff_ne, bne_eq_false_iff_eq, ne_eq] at hg39
            refine WL_skip rfl rfl rfl ?_
            refine WL_skip rfl rfl rfl ?_
            refine WL_skip rfl rfl rfl ?_
            refine WL_skip rfl rfl rfl ?_
            refine s_pick_t rfl rfl rfl ?_
            refine WL_nil ?_
            refine n_then ?_
            refine W_cond_t rfl ?_
            refine W_seq ?_
            refine W_region ?_
            refine s_assign rfl rfl ?_
            refine WL_nil ?_
            refine n_then ?_
            refine W_ret ?_
            refine r_then ?_
            refine r_then ?_
            first
              | exact end1 rfl rfl (app_err (applyE_c15 hg12 hc16 ‹_› (hy1 ‹_›) (by rintro ⟨rfl, h⟩; first | omega | simp_all)) (by decide) ⟨m, o, _, Lc, rfl, hM, hO, hC⟩ hs.tail.tail)
          · skip
            try simp only [decide_eq_true_eq, decide_eq_false_iff_not, Bool.not_eq_true', Bool.not_eq_false', bne_iff_ne, bne_eq_false_iff_eq, ne_eq] at hg39
            refine WL_take rfl ?_
            refine s_fieldAddr rfl rfl (FA33_3 _ _) ?_
            refine WL_take rfl ?_
            first
              | refine s_load Try.isAgg3 rfl rfl (hs.cell (k := 0) rfl rfl) ?_
            refine WL_take rfl ?_
            refine s_move rfl rfl ?_
            refine WL_take rfl ?_
            refine s_leq rfl rfl rfl ?_
            refine s_pick_f rfl rfl rfl ?_
            refine WL_nil ?_
            refine n_then ?_
            refine W_cond rfl (fun hc44 => ?_) (fun hc44 => ?_)
            · skip
              try simp only [decide_eq_true_eq, decide_eq_false_iff_not, Bool.not_eq_true', Bool.not_eq_false', bne_iff_ne, bne_eq_false_iff_eq, ne_eq] at hc44
              refine W_seq ?_
              refine W_region ?_
              refine s_assign rfl rfl ?_
              refine WL_nil ?_
              refine n_then ?_
              refine W_ret ?_
              refine r_then ?_
              refine r_then ?_
              first
                | exact end1 rfl rfl (app_err (applyE_c15 hg12 hc16 ‹_› (hy1 ‹_›) (by rintro ⟨rfl, h⟩; first | omega | simp_all)) (by decide) ⟨m, o, _, Lc, rfl, hM, hO, hC⟩ hs.tail.tail)
            · skip
              try simp only [decide_eq_true_eq, decide_eq_false_iff_not, Bool.not_eq_true', Bool.not_eq_false', bne_iff_ne, bne_eq_false_iff_eq, ne_eq] at hc44
              refine W_skip ?_
              refine n_then ?_
              refine W_seq ?_
              refine W_draw [(0, true, []), (1, true, []), (2, true, []), (3, true, []), (4, true, []), (5, true, []), (6, true, []), (7, false, [0, 1, 2, 3, 4]), (8, false, [0, 1, 2, 3, 4]), (9, false, [0]), (10, true, []), (11, true, []), (12, false, [])] [[], [], [1], [1, 2], [1, 2, 3], [], [5], [5, 6], [5, 6, 7], [1, 2, 3, 4, 5, 6, 7, 8], [0, 1, 2, 3, 4, 5, 6, 7, 8, 9], [0, 1, 2, 3, 4, 5, 6, 7, 8, 9, 10], [0, 1, 2, 3, 4, 5, 6, 7, 8, 9, 10, 11]] MX (by kernel_rfl) ?_
              intro w1 hw1 hw2 hw3 hw4; replace hs := hs.redrawn hw1 hw2 hw3 hw4; clear hw1 hw2 hw3 hw4
              obtain ⟨w, rfl⟩ : ∃ w : World, w = w1 := ⟨_, rfl⟩
              refine D_q rfl rfl ?_
              refine s_move rfl rfl ?_
              refine D_qn ?_
              refine D_q rfl rfl ?_
              refine s_move rfl rfl ?_
              refine D_qn ?_
              refine D_q rfl rfl ?_
              refine s_nilCheck rfl rfl ?_
              refine D_qn ?_
              refine D_q rfl rfl ?_
              refine s_fieldAddr rfl rfl (FA85_1 _ _) ?_
              refine D_qn ?_
              refine D_q rfl rfl ?_
              first
                | refine s_load Try.isAgg41 rfl rfl (hs.cell (k := 2) rfl rfl) ?_
              refine D_qn ?_
              refine D_q rfl rfl ?_
              refine s_fieldAddr rfl rfl (FA35_2 _ _) ?_
              refine D_qn ?_
              refine D_q rfl rfl ?_
              first
                | refine s_load Try.isAgg22 rfl rfl (hs.cell (k := 1) rfl rfl) ?_
              refine D_qn ?_
              refine D_e rfl ?_
              refine s_call Try.call43 rfl rfl (clone_ok (.slice a bs.length c) bs w (hv.fwd hs.fwd hd) (by have := hg12.2.2.2.2.1; omega)) ?_
              rintro r w ⟨Lr, hr, hst⟩
              replace hs := St.back0 hs hst
              clear hst
              obtain ⟨_, tc9, ta9, rfl, rfl⟩ := hr.form
              replace hs := hs.swap
              simp only [List.cons_append, List.append_assoc] at hs
              refine D_en ?re ?_
              case re =>
                refine Reks_cons rfl rfl rfl rfl ?_ ?_
                · skip
                  refine s_move rfl rfl ?_
                  exact Rek_end rfl
                refine Reks_cons rfl rfl rfl rfl ?_ ?_
                · skip
                  refine s_move rfl rfl ?_
                  exact Rek_end rfl
                refine Reks_cons rfl rfl rfl rfl ?_ ?_
                · skip
                  refine s_nilCheck rfl rfl ?_
                  exact Rek_end rfl
                refine Reks_cons rfl rfl rfl rfl ?_ ?_
                · skip
                  refine s_fieldAddr rfl rfl (FA85_1 _ _) ?_
                  exact Rek_end rfl
                refine Reks_cons rfl rfl rfl rfl ?_ ?_
                · skip
                  first
                    | refine s_load Try.isAgg41 rfl rfl (hs.cell (k := 2) rfl rfl) ?_
                  exact Rek_end rfl
                exact Reks_nil
              refine D_e rfl ?_
              refine s_buildSlice rfl rfl (BS41_1 _ _ _) hs ?_; clear hs; intro b53 w hs
              refine D_en ?re ?_
              case re =>
                refine Reks_cons rfl rfl rfl rfl ?_ ?_
                · skip
                  refine s_move rfl rfl ?_
                  exact Rek_end rfl
                refine Reks_cons rfl rfl rfl rfl ?_ ?_
                · skip
                  refine s_move rfl rfl ?_
                  exact Rek_end rfl
                refine Reks_cons rfl rfl rfl rfl ?_ ?_
                · skip
                  refine s_nilCheck rfl rfl ?_
                  exact Rek_end rfl
                refine Reks_cons rfl rfl rfl rfl ?_ ?_
                · skip
                  refine s_fieldAddr rfl rfl (FA85_1 _ _) ?_
                  exact Rek_end rfl
                refine Reks_cons rfl rfl rfl rfl ?_ ?_
                · skip
                  first
                    | refine s_load Try.isAgg41 rfl rfl (hs.cell (k := 3) rfl rfl) ?_
                  exact Rek_end rfl
                exact Reks_nil
              refine D_e rfl ?_
              refine s_appendM (M := [_, _, _, _, _]) (Lv := Lc) (X := cblks cs ++ Lr) El41 rfl rfl rfl hO hs (hs.sl (k := 0) (ds := [_]) rfl (Nat.le_refl _) (by intro j u hj; rw [Nat.zero_add]; exact hj)) rfl (by simp [Value.oneCell']) (by omega) ?_
              clear hs; intro tv' w Lt' hO' hs
              obtain ⟨tl', tc', ta', rfl, rfl⟩ := hO'.form
              simp only [List.cons_append, List.nil_append] at hs
              refine D_en ?re ?_
              case re =>
                refine Reks_cons rfl rfl rfl rfl ?_ ?_
                · skip
                  refine s_move rfl rfl ?_
                  exact Rek_end rfl
                exact Reks_nil
              refine D_q rfl rfl ?_
              refine s_nilCheck rfl rfl ?_
              refine D_qn ?_
              refine D_q rfl rfl ?_
              refine s_fieldAddr rfl rfl (FA85_1 _ _) ?_
              refine D_qn ?_
              refine D_e rfl ?_
              first
                | refine s_storeB Try.sizeOf41 rfl rfl rfl hs (kk := 3) rfl rfl ?_
              clear hs; intro w hs; try simp only [List.set_cons_zero, List.set_cons_succ, splice, List.take_succ_cons, List.take_zero, List.drop_succ_cons, List.drop_zero, List.nil_append, List.cons_append, List.length_cons, List.length_nil, Nat.reduceAdd, List.append_assoc] at hs
              refine D_en ?re ?_
              case re =>
                exact Reks_nil
              refine D_nil ?_
              refine n_then ?_
              refine W_seq ?_
              refine W_region ?_
              refine s_assign rfl rfl ?_
              refine WL_nil ?_
              refine n_then ?_
              refine W_ret ?_
              refine r_then ?_
              first
                | (have hyx : y = x := by obtain ⟨h1, h2, h3, h4⟩ := hg39; cases x; cases y; simp_all
                   have hE := applyE_c0 hg12 hc16 ‹_› (hy1 ‹_›) ⟨hyx, by omega⟩
                   refine end1 rfl rfl ⟨_, hs.tail.tail.tail, by rw [hE], cs ++ [⟨.slice ta9 bs.length tc9, bs, Lr⟩], ⟨m, o, .slice ta' (cs.length + 1) tc', Lt', ?_, ?_, ?_, ?_⟩, fun h => absurd ⟨hE, ‹_›⟩ h, fun _ => ⟨_, rfl, rfl⟩⟩
                   · rw [cblks_append]; simp [cblks]
                   · rw [applyF, if_neg (by simp [hc30])]; exact hM
                   · simpa [cvals] using hO'
                   · intro d hd'; rcases List.mem_append.1 hd' with h | h
                     · exact hC d h
                     · simp at h; subst h; exact ⟨hr, hg12.2.2.2.2.1⟩)
      · skip
        try simp only [decide_eq_true_eq, decide_eq_false_iff_not, Bool.not_eq_true', Bool.not_eq_false', bne_iff_ne, bne_eq_false_iff_eq, ne_eq] at hc30
        refine W_skip ?_
        refine n_then ?_
        refine W_seq ?_
        refine W_seq ?_
        refine W_region ?_
        refine s_fieldAddr rfl rfl (FA35_1 _ _) ?_
        refine s_fieldAddr rfl rfl (FA33_3 _ _) ?_
        first
          | refine s_load Try.isAgg3 rfl rfl (hs.cell (k := 1) rfl rfl) ?_
        refine s_move rfl rfl ?_
        refine s_leq rfl rfl rfl ?_
        refine WL_nil ?_
        refine n_then ?_
        refine W_cond rfl (fun hc61 => ?_) (fun hc61 => ?_)
        · skip
          try simp only [decide_eq_true_eq, decide_eq_false_iff_not, Bool.not_eq_true', Bool.not_eq_false', bne_iff_ne, bne_eq_false_iff_eq, ne_eq] at hc61
          refine W_seq ?_
          refine W_region ?_
          refine s_assign rfl rfl ?_
          refine WL_nil ?_
          refine n_then ?_
          refine W_ret ?_
          refine r_then ?_
          first
            | exact end1 rfl rfl (app_err (applyE_g1 hg12 hc16 ‹_› ‹_›) (by decide) ⟨m, o, _, Lc, rfl, hM, hO, hC⟩ hs.tail.tail)
        · skip
          try simp only [decide_eq_true_eq, decide_eq_false_iff_not, Bool.not_eq_true', Bool.not_eq_false', bne_iff_ne, bne_eq_false_iff_eq, ne_eq] at hc61
          refine W_skip ?_
          refine n_then ?_
          refine W_seq ?_
          refine W_seq ?_
          refine W_region ?_
          refine s_move rfl rfl ?_
          refine s_move rfl rfl ?_
          refine WL_case (s := 63) rfl (fun hg63 => ?_) (fun hg63 => ?_)
          · skip
            try simp only [decide_eq_true_eq, decide_eq_false_iff_not, Bool.not_eq_true', Bool.not_eq_false', bne_iff_ne, bne_eq_false_iff_eq, ne_eq] at hg63
            refine WL_take rfl ?_
            refine s_fieldAddr rfl rfl (FA35_1 _ _) ?_
            refine WL_take rfl ?_
            refine s_fieldAddr rfl rfl (FA33_2 _ _) ?_
            refine WL_take rfl ?_
            first
              | refine s_load Try.isAgg3 rfl rfl (hs.cell (k := 1) rfl rfl) ?_
            refine WL_take rfl ?_
            refine s_fieldAddr rfl rfl (FA33_2 _ _) ?_
            refine WL_take rfl ?_
            first
              | refine s_load Try.isAgg3 rfl rfl (hs.cell (k := 0) rfl rfl) ?_
            refine WL_take rfl ?_
            refine s_leq rfl rfl rfl ?_
            refine WL_take rfl ?_
            refine s_move rfl rfl ?_
            refine WL_case (s := 70) rfl (fun hg70 => ?_) (fun hg70 => ?_)
            · skip
              try simp only [decide_eq_true_eq, decide_eq_false_iff_not, Bool.not_eq_true', Bool.not_eq_false', bne_iff_ne, bne_eq_false_iff_eq, ne_eq] at hg70
              refine WL_skip rfl rfl rfl ?_
              refine WL_skip rfl rfl rfl ?_
              refine WL_skip rfl rfl rfl ?_
              refine WL_skip rfl rfl rfl ?_
              refine WL_skip rfl rfl rfl ?_
              refine WL_skipU rfl rfl ?_
              refine WL_skipU rfl rfl ?_
              refine WL_skipU rfl rfl ?_
              refine WL_skipU rfl rfl ?_
              refine WL_skipU rfl rfl ?_
              refine WL_skipU rfl rfl ?_
              refine WL_skip rfl rfl rfl ?_
              refine WL_take rfl ?_
              refine s_pick_t rfl rfl rfl ?_
              refine s_pick_t rfl rfl rfl ?_
              refine WL_nil ?_
              refine n_then ?_
              refine W_cond_t rfl ?_
              refine W_seq ?_
              refine W_region ?_
              refine s_assign rfl rfl ?_
              refine WL_nil ?_
              refine n_then ?_
              refine W_ret ?_
              refine r_then ?_
              first
                | exact end1 rfl rfl (app_err (applyE_g15 hg12 hc16 ‹_› ‹_› (hy1 ‹_›) (by omega)) (by decide) ⟨m, o, _, Lc, rfl, hM, hO, hC⟩ hs.tail.tail)
            · skip
              try simp only [decide_eq_true_eq, decide_eq_false_iff_not, Bool.not_eq_true', Bool.not_eq_false', bne_iff_ne, bne_eq_false_iff_eq, ne_eq] at hg70
              refine WL_take rfl ?_
              refine s_fieldAddr rfl rfl (FA33_3 _ _) ?_
              refine WL_take rfl ?_
              first
                | refine s_load Try.isAgg3 rfl rfl (hs.cell (k := 0) rfl rfl) ?_
              refine WL_take rfl ?_
              refine s_move rfl rfl ?_
              refine WL_take rfl ?_
              refine s_gtr rfl rfl rfl ?_
              refine WL_take rfl ?_
              refine s_move rfl rfl ?_
              refine WL_case (s := 75) rfl (fun hg75 => ?_) (fun hg75 => ?_)
              · skip
                try simp only [decide_eq_true_eq, decide_eq_false_iff_not, Bool.not_eq_true', Bool.not_eq_false', bne_iff_ne, bne_eq_false_iff_eq, ne_eq] at hg75
                refine WL_take rfl ?_
                refine s_fieldAddr rfl rfl (FA33_1 _ _) ?_
                refine WL_take rfl ?_
                first
                  | refine s_load Try.isAgg3 rfl rfl (hs.cell (k := 0) rfl rfl) ?_
                refine WL_take rfl ?_
                refine s_fieldAddr rfl rfl (FA35_1 _ _) ?_
                refine WL_take rfl ?_
                refine s_fieldAddr rfl rfl (FA33_1 _ _) ?_
                refine WL_take rfl ?_
                first
                  | refine s_load Try.isAgg3 rfl rfl (hs.cell (k := 1) rfl rfl) ?_
                refine WL_take rfl ?_
                refine s_neq rfl rfl rfl ?_
                refine WL_take rfl ?_
                refine s_pick_t rfl rfl rfl ?_
                refine WL_take rfl ?_
                refine s_pick_f rfl rfl rfl ?_
                refine s_pick_t rfl rfl rfl ?_
                refine WL_nil ?_
                refine n_then ?_
                refine W_cond rfl (fun hc84 => ?_) (fun hc84 => ?_)
                · skip
                  try simp only [decide_eq_true_eq, decide_eq_false_iff_not, Bool.not_eq_true', Bool.not_eq_false', bne_iff_ne, bne_eq_false_iff_eq, ne_eq] at hc84
                  refine W_seq ?_
                  refine W_region ?_
                  refine s_assign rfl rfl ?_
                  refine WL_nil ?_
                  refine n_then ?_
                  refine W_ret ?_
                  refine r_then ?_
                  first
                    | exact end1 rfl rfl (app_err (applyE_g15 hg12 hc16 ‹_› ‹_› (hy1 ‹_›) (by omega)) (by decide) ⟨m, o, _, Lc, rfl, hM, hO, hC⟩ hs.tail.tail)
                · skip
                  try simp only [decide_eq_true_eq, decide_eq_false_iff_not, Bool.not_eq_true', Bool.not_eq_false', bne_iff_ne, bne_eq_false_iff_eq, ne_eq] at hc84
                  refine W_skip ?_
                  refine n_then ?_
                  refine W_seq ?_
                  refine W_draw [(0, true, []), (1, true, []), (2, true, []), (3, true, []), (4, true, []), (5, true, []), (6, true, []), (7, true, []), (8, true, []), (9, false, [])] [[], [0], [0, 1], [0, 1, 2], [], [4], [4, 5], [], [7], [0, 1, 2, 3, 4, 5, 6, 7, 8]] MX (by kernel_rfl) ?_
                  intro w1 hw1 hw2 hw3 hw4; replace hs := hs.redrawn hw1 hw2 hw3 hw4; clear hw1 hw2 hw3 hw4
                  obtain ⟨w, rfl⟩ : ∃ w : World, w = w1 := ⟨_, rfl⟩
                  refine D_q rfl rfl ?_
                  refine s_move rfl rfl ?_
                  refine D_qn ?_
                  refine D_q rfl rfl ?_
                  refine s_nilCheck rfl rfl ?_
                  refine D_qn ?_
                  refine D_q rfl rfl ?_
                  refine s_fieldAddr rfl rfl (FA85_0 _ _) ?_
                  refine D_qn ?_
                  refine D_q rfl rfl ?_
                  first
                    | refine s_load Try.isAgg83 rfl rfl (hs.cell (k := 2) rfl rfl) ?_
                  refine D_qn ?_
                  refine D_q rfl rfl ?_
                  refine s_fieldAddr rfl rfl (FA35_1 _ _) ?_
                  refine D_qn ?_
                  refine D_q rfl rfl ?_
                  refine s_fieldAddr rfl rfl (FA33_0 _ _) ?_
                  refine D_qn ?_
                  refine D_q rfl rfl ?_
                  first
                    | refine s_load Try.isAgg9 rfl rfl (hs.cell (k := 1) rfl rfl) ?_
                  refine D_qn ?_
                  refine D_q rfl rfl ?_
                  refine s_fieldAddr rfl rfl (FA35_1 _ _) ?_
                  refine D_qn ?_
                  refine D_q rfl rfl ?_
                  first
                    | refine s_load_4 Try.isAgg33 Try.sizeOf33 rfl rfl (by first | exact hs.cell (k := 0) rfl rfl | exact hs.cell (k := 1) rfl rfl | exact hs.cell (k := 2) rfl rfl | exact hs.cell (k := 3) rfl rfl | exact hs.cell (k := 4) rfl rfl) (by first | exact hs.cell (k := 0) rfl rfl | exact hs.cell (k := 1) rfl rfl | exact hs.cell (k := 2) rfl rfl | exact hs.cell (k := 3) rfl rfl | exact hs.cell (k := 4) rfl rfl) (by first | exact hs.cell (k := 0) rfl rfl | exact hs.cell (k := 1) rfl rfl | exact hs.cell (k := 2) rfl rfl | exact hs.cell (k := 3) rfl rfl | exact hs.cell (k := 4) rfl rfl) (by first | exact hs.cell (k := 0) rfl rfl | exact hs.cell (k := 1) rfl rfl | exact hs.cell (k := 2) rfl rfl | exact hs.cell (k := 3) rfl rfl | exact hs.cell (k := 4) rfl rfl) ?_
                  refine D_qn ?_
                  refine D_e rfl ?_
                  first
                    | refine s_mapUpdate Try.underlying83 Try.underlying9 rfl rfl rfl hs (kk := 3) rfl hM ?_
                  clear hs; intro w oM hM2 hs; try simp only [List.set_cons_zero, List.set_cons_succ, splice, List.take_succ_cons, List.take_zero, List.drop_succ_cons, List.drop_zero, List.nil_append, List.cons_append, List.length_cons, List.length_nil, Nat.reduceAdd, List.append_assoc] at hs
                  refine D_en ?re ?_
                  case re =>
                    exact Reks_nil
                  refine D_nil ?_
                  refine n_then ?_
                  refine W_seq ?_
                  refine W_region ?_
                  refine s_assign rfl rfl ?_
                  refine WL_nil ?_
                  refine n_then ?_
                  refine W_ret ?_
                  first
                    | (have hE : applyE f g x bs.length t = 0 := by
                         first
                           | exact applyE_g0 hg12 hc16 ‹_› ‹_› (hy1 ‹_›) (by omega)
                       refine end1 rfl rfl ⟨_, hs.tail.tail, by rw [hE], cs, ⟨m, oM, _, Lc, rfl, ?_, hO, hC⟩, fun _ => rfl, fun h => absurd h.2 (by simp [hc30])⟩
                       rw [applyF, if_pos ⟨hE, hc30⟩]
                       have hfe : (fun s => Option.map Lz.val ((fun q => if q = x.rule then some x else f q) s)) = fun q => if q = x.rule then some (.agg #[.string x.rule, .int .i64 x.holder, .int .i64 x.token, .int .i64 x.til]) else Option.map Lz.val (f q) := by
                         funext q; by_cases h : q = x.rule <;> simp [h, Lz.val]
                       rw [hfe]; exact hM2)
              · skip
                try simp only [decide_eq_true_eq, decide_eq_false_iff_not, Bool.not_eq_true', Bool.not_eq_false', bne_iff_ne, bne_eq_false_iff_eq, ne_eq] at hg75
                refine WL_skip rfl rfl rfl ?_
                refine WL_skip rfl rfl rfl ?_
                refine WL_skip rfl rfl rfl ?_
                refine WL_skip rfl rfl rfl ?_
                refine WL_skip rfl rfl rfl ?_
                refine WL_skip rfl rfl rfl ?_
                refine WL_take rfl ?_
                refine s_pick_f rfl rfl rfl ?_
                refine WL_take rfl ?_
                refine s_pick_f rfl rfl rfl ?_
                refine s_pick_t rfl rfl rfl ?_
                refine WL_nil ?_
                refine n_then ?_
                refine W_cond_f rfl ?_
                refine W_skip ?_
                refine n_then ?_
                refine W_seq ?_
                refine W_draw [(0, true, []), (1, true, []), (2, true, []), (3, true, []), (4, true, []), (5, true, []), (6, true, []), (7, true, []), (8, true, []), (9, false, [])] [[], [0], [0, 1], [0, 1, 2], [], [4], [4, 5], [], [7], [0, 1, 2, 3, 4, 5, 6, 7, 8]] MX (by kernel_rfl) ?_
                intro w1 hw1 hw2 hw3 hw4; replace hs := hs.redrawn hw1 hw2 hw3 hw4; clear hw1 hw2 hw3 hw4
                obtain ⟨w, rfl⟩ : ∃ w : World, w = w1 := ⟨_, rfl⟩
                refine D_q rfl rfl ?_
                refine s_move rfl rfl ?_
                refine D_qn ?_
                refine D_q rfl rfl ?_
                refine s_nilCheck rfl rfl ?_
                refine D_qn ?_
                refine D_q rfl rfl ?_
                refine s_fieldAddr rfl rfl (FA85_0 _ _) ?_
                refine D_qn ?_
                refine D_q rfl rfl ?_
                first
                  | refine s_load Try.isAgg83 rfl rfl (hs.cell (k := 2) rfl rfl) ?_
                refine D_qn ?_
                refine D_q rfl rfl ?_
                refine s_fieldAddr rfl rfl (FA35_1 _ _) ?_
                refine D_qn ?_
                refine D_q rfl rfl ?_
                refine s_fieldAddr rfl rfl (FA33_0 _ _) ?_
                refine D_qn ?_
                refine D_q rfl rfl ?_
                first
                  | refine s_load Try.isAgg9 rfl rfl (hs.cell (k := 1) rfl rfl) ?_
                refine D_qn ?_
                refine D_q rfl rfl ?_
                refine s_fieldAddr rfl rfl (FA35_1 _ _) ?_
                refine D_qn ?_
                refine D_q rfl rfl ?_
                first
                  | refine s_load_4 Try.isAgg33 Try.sizeOf33 rfl rfl (by first | exact hs.cell (k := 0) rfl rfl | exact hs.cell (k := 1) rfl rfl | exact hs.cell (k := 2) rfl rfl | exact hs.cell (k := 3) rfl rfl | exact hs.cell (k := 4) rfl rfl) (by first | exact hs.cell (k := 0) rfl rfl | exact hs.cell (k := 1) rfl rfl | exact hs.cell (k := 2) rfl rfl | exact hs.cell (k := 3) rfl rfl | exact hs.cell (k := 4) rfl rfl) (by first | exact hs.cell (k := 0) rfl rfl | exact hs.cell (k := 1) rfl rfl | exact hs.cell (k := 2) rfl rfl | exact hs.cell (k := 3) rfl rfl | exact hs.cell (k := 4) rfl rfl) (by first | exact hs.cell (k := 0) rfl rfl | exact hs.cell (k := 1) rfl rfl | exact hs.cell (k := 2) rfl rfl | exact hs.cell (k := 3) rfl rfl | exact hs.cell (k := 4) rfl rfl) ?_
                refine D_qn ?_
                refine D_e rfl ?_
                first
                  | refine s_mapUpdate Try.underlying83 Try.underlying9 rfl rfl rfl hs (kk := 3) rfl hM ?_
                clear hs; intro w oM hM2 hs; try simp only [List.set_cons_zero, List.set_cons_succ, splice, List.take_succ_cons, List.take_zero, List.drop_succ_cons, List.drop_zero, List.nil_append, List.cons_append, List.length_cons, List.length_nil, Nat.reduceAdd, List.append_assoc] at hs
                refine D_en ?re ?_
                case re =>
                  exact Reks_nil
                refine D_nil ?_
                refine n_then ?_
                refine W_seq ?_
                refine W_region ?_
                refine s_assign rfl rfl ?_
                refine WL_nil ?_
                refine n_then ?_
                refine W_ret ?_
                first
                  | (have hE : applyE f g x bs.length t = 0 := by
                       first
                         | exact applyE_g0 hg12 hc16 ‹_› ‹_› (hy1 ‹_›) (by omega)
                     refine end1 rfl rfl ⟨_, hs.tail.tail, by rw [hE], cs, ⟨m, oM, _, Lc, rfl, ?_, hO, hC⟩, fun _ => rfl, fun h => absurd h.2 (by simp [hc30])⟩
                     rw [applyF, if_pos ⟨hE, hc30⟩]
                     have hfe : (fun s => Option.map Lz.val ((fun q => if q = x.rule then some x else f q) s)) = fun q => if q = x.rule then some (.agg #[.string x.rule, .int .i64 x.holder, .int .i64 x.token, .int .i64 x.til]) else Option.map Lz.val (f q) := by
                       funext q; by_cases h : q = x.rule <;> simp [h, Lz.val]
                     rw [hfe]; exact hM2)
          · skip
            try simp only [decide_eq_true_eq, decide_eq_false_iff_not, Bool.not_eq_true', Bool.not_eq_false', bne_iff_ne, bne_eq_false_iff_eq, ne_eq] at hg63
            refine WL_skip rfl rfl rfl ?_
            refine WL_skip rfl rfl rfl ?_
            refine WL_skip rfl rfl rfl ?_
            refine WL_skip rfl rfl rfl ?_
            refine WL_skip rfl rfl rfl ?_
            refine WL_skip rfl rfl rfl ?_
            refine WL_skip rfl rfl rfl ?_
            refine WL_skipU rfl rfl ?_
            refine WL_skipU rfl rfl ?_
            refine WL_skipU rfl rfl ?_
            refine WL_skipU rfl rfl ?_
            refine WL_skipU rfl rfl ?_
            refine WL_skipU rfl rfl ?_
            refine WL_skipU rfl rfl ?_
            refine WL_skipU rfl rfl ?_
            refine WL_skipU rfl rfl ?_
            refine WL_skipU rfl rfl ?_
            refine WL_skipU rfl rfl ?_
            refine WL_skipU rfl rfl ?_
            refine WL_skip rfl rfl rfl ?_
            refine s_pick_f rfl rfl rfl ?_
            refine WL_nil ?_
            refine n_then ?_
            refine W_cond_f rfl ?_
            refine W_skip ?_
            refine n_then ?_
            refine W_seq ?_
            refine W_draw [(0, true, []), (1, true, []), (2, true, []), (3, true, []), (4, true, []), (5, true, []), (6, true, []), (7, true, []), (8, true, []), (9, false, [])] [[], [0], [0, 1], [0, 1, 2], [], [4], [4, 5], [], [7], [0, 1, 2, 3, 4, 5, 6, 7, 8]] MX (by kernel_rfl) ?_
            intro w1 hw1 hw2 hw3 hw4; replace hs := hs.redrawn hw1 hw2 hw3 hw4; clear hw1 hw2 hw3 hw4
            obtain ⟨w, rfl⟩ : ∃ w : World, w = w1 := ⟨_, rfl⟩
            refine D_q rfl rfl ?_
            refine s_move rfl rfl ?_
            refine D_qn ?_
            refine D_q rfl rfl ?_
            refine s_nilCheck rfl rfl ?_
            refine D_qn ?_
            refine D_q rfl rfl ?_
            refine s_fieldAddr rfl rfl (FA85_0 _ _) ?_
            refine D_qn ?_
            refine D_q rfl rfl ?_
            first
              | refine s_load Try.isAgg83 rfl rfl (hs.cell (k := 2) rfl rfl) ?_
            refine D_qn ?_
            refine D_q rfl rfl ?_
            refine s_fieldAddr rfl rfl (FA35_1 _ _) ?_
            refine D_qn ?_
            refine D_q rfl rfl ?_
            refine s_fieldAddr rfl rfl (FA33_0 _ _) ?_
            refine D_qn ?_
            refine D_q rfl rfl ?_
            first
              | refine s_load Try.isAgg9 rfl rfl (hs.cell (k := 1) rfl rfl) ?_
            refine D_qn ?_
            refine D_q rfl rfl ?_
            refine s_fieldAddr rfl rfl (FA35_1 _ _) ?_
            refine D_qn ?_
            refine D_q rfl rfl ?_
            first
              | refine s_load_4 Try.isAgg33 Try.sizeOf33 rfl rfl (by first | exact hs.cell (k := 0) rfl rfl | exact hs.cell (k := 1) rfl rfl | exact hs.cell (k := 2) rfl rfl | exact hs.cell (k := 3) rfl rfl | exact hs.cell (k := 4) rfl rfl) (by first | exact hs.cell (k := 0) rfl rfl | exact hs.cell (k := 1) rfl rfl | exact hs.cell (k := 2) rfl rfl | exact hs.cell (k := 3) rfl rfl | exact hs.cell (k := 4) rfl rfl) (by first | exact hs.cell (k := 0) rfl rfl | exact hs.cell (k := 1) rfl rfl | exact hs.cell (k := 2) rfl rfl | exact hs.cell (k := 3) rfl rfl | exact hs.cell (k := 4) rfl rfl) (by first | exact hs.cell (k := 0) rfl rfl | exact hs.cell (k := 1) rfl rfl | exact hs.cell (k := 2) rfl rfl | exact hs.cell (k := 3) rfl rfl | exact hs.cell (k := 4) rfl rfl) ?_
            refine D_qn ?_
            refine D_e rfl ?_
            first
              | refine s_mapUpdate Try.underlying83 Try.underlying9 rfl rfl rfl hs (kk := 3) rfl hM ?_
            clear hs; intro w oM hM2 hs; try simp only [List.set_cons_zero, List.set_cons_succ, splice, List.take_succ_cons, List.take_zero, List.drop_succ_cons, List.drop_zero, List.nil_append, List.cons_append, List.length_cons, List.length_nil, Nat.reduceAdd, List.append_assoc] at hs
            refine D_en ?re ?_
            case re =>
              exact Reks_nil
            refine D_nil ?_
            refine n_then ?_
            refine W_seq ?_
            refine W_region ?_
            refine s_assign rfl rfl ?_
            refine WL_nil ?_
            refine n_then ?_
            refine W_ret ?_
            first
              | (have hE : applyE f g x bs.length t = 0 := by
                   first
                     | exact applyE_g0n hg12 hc16 ‹_› ‹_› (hy2 ‹_›).1
                 refine end1 rfl rfl ⟨_, hs.tail.tail, by rw [hE], cs, ⟨m, oM, _, Lc, rfl, ?_, hO, hC⟩, fun _ => rfl, fun h => absurd h.2 (by simp [hc30])⟩
                 rw [applyF, if_pos ⟨hE, hc30⟩]
                 have hfe : (fun s => Option.map Lz.val ((fun q => if q = x.rule then some x else f q) s)) = fun q => if q = x.rule then some (.agg #[.string x.rule, .int .i64 x.holder, .int .i64 x.token, .int .i64 x.til]) else Option.map Lz.val (f q) := by
                   funext q; by_cases h : q = x.rule <;> simp [h, Lz.val]
                 rw [hfe]; exact hM2)
end Go.Proofs.Ytkobigdfijeajaa
