/- Frames in a row: what a scan is (plain); the reference's first. -/
import Derived.Test.YtkappdlbpilghaaGreatWaH
import Derived.Test.YtkappdlbpilghaaGreatRfR
set_option linter.unusedVariables false
set_option linter.unusedSimpArgs false
namespace Go.Proofs.YtkappdlbpilghaaGreat
open Go.SL
theorem frame_parse {mx : Nat → Nat → Nat} (hmx : IsMix mx) {n : Int} {x : List Int} (r : List Int) (hn : isI64 n) (hx : x.length ≤ 1048576) :
    rdRaw ⟨frameV mx n x ++ r, 0⟩ = (coreV n x, ⟨uvar (hashV mx (bytesOf sWal) (coreV n x)) ++ r, 0⟩) ∧ rdU ⟨uvar (hashV mx (bytesOf sWal) (coreV n x)) ++ r, 0⟩ = (hashV mx (bytesOf sWal) (coreV n x), ⟨r, 0⟩) ∧
    rdI ⟨coreV n x, 0⟩ = (n, ⟨uvar x.length ++ x, 0⟩) ∧ rdRaw ⟨uvar x.length ++ x, 0⟩ = (x, ⟨[], 0⟩) := by
  have hcl := coreV_len hn hx
  refine ⟨?_, rdU_uvar (hashV_lt hmx _ _), ?_, ?_⟩
  · rw [frameV, List.append_assoc, List.append_assoc]; exact rdRaw_uvar (by omega)
  · rw [coreV, List.append_assoc]; exact rdI_uvar hn
  · have := rdRaw_uvar (bs := x) (r := []) (by omega)
    rw [List.append_nil] at this; exact this
theorem frame_len {mx : Nat → Nat → Nat} {n : Int} {x : List Int} : x.length + 2 ≤ (frameV mx n x).length := by
  have h1 : 0 < (uvar (coreV n x).length).length := List.length_pos_iff.2 (uvar_ne _)
  have h2 : 0 < (uvar (hashV mx (bytesOf sWal) (coreV n x))).length := List.length_pos_iff.2 (uvar_ne _)
  have h3 : x.length ≤ (coreV n x).length := by rw [coreV]; simp only [List.length_append]; omega
  rw [frameV]; simp only [List.length_append]; omega
theorem frame_inj {mx : Nat → Nat → Nat} (hmx : IsMix mx) {n : Int} {x y r q : List Int} (hn : isI64 n) (hx : x.length ≤ 1048576) (hy : y.length ≤ 1048576) (h : frameV mx n x ++ r = frameV mx n y ++ q) : x = y ∧ r = q := by
  obtain ⟨a1, a2, a3, a4⟩ := frame_parse hmx r hn hx
  obtain ⟨b1, b2, b3, b4⟩ := frame_parse hmx q hn hy
  rw [h, b1] at a1
  have hc : coreV n y = coreV n x := congrArg Prod.fst a1
  have hr := congrArg Prod.snd a1
  simp only at hr
  rw [← hr, b2] at a2
  rw [← hc, b3] at a3
  have h3 := congrArg Prod.snd a3
  simp only at h3
  rw [← h3, b4] at a4
  have h4 := congrArg Prod.fst a4
  have h5 := congrArg (fun z => z.2.rest) a2
  exact ⟨h4.symm, h5.symm⟩
def framesV (mx : Nat → Nat → Nat) : Nat → List (List Int) → List Int
  | _, [] => []
  | n, x :: xs => frameV mx (n : Int) x ++ framesV mx (n + 1) xs
theorem framesV_snoc (mx : Nat → Nat → Nat) (xs : List (List Int)) (x : List Int) : ∀ n, framesV mx n (xs ++ [x]) = framesV mx n xs ++ frameV mx ((n + xs.length : Nat) : Int) x := by
  induction xs with
  | nil => intro n; simp [framesV]
  | cons y ys ih => intro n; rw [List.cons_append, framesV, framesV, ih, List.append_assoc, List.length_cons, show n + 1 + ys.length = n + (ys.length + 1) by omega]
theorem framesV_mem {mx : Nat → Nat → Nat} {xs : List (List Int)} : ∀ {n} {x}, x ∈ xs → x.length ≤ (framesV mx n xs).length := by
  induction xs with
  | nil => intro n x h; cases h
  | cons y ys ih =>
    intro n x h
    rw [framesV, List.length_append]
    rcases List.mem_cons.1 h with rfl | h
    · have := frame_len (mx := mx) (n := (n : Int)) (x := x); omega
    · have := ih (n := n + 1) h; omega
theorem framesV_cnt {mx : Nat → Nat → Nat} {xs : List (List Int)} : ∀ {n}, 2 * xs.length ≤ (framesV mx n xs).length := by
  induction xs with
  | nil => intro n; simp [framesV]
  | cons y ys ih => intro n; rw [framesV, List.length_append, List.length_cons]; have := frame_len (mx := mx) (n := (n : Int)) (x := y); have := ih (n := n + 1); omega
/-- no frame with this number is here -/
def noFrame (mx : Nat → Nat → Nat) (n : Nat) (bs : List Int) : Prop := ∀ y r, bs ≠ frameV mx (n : Int) y ++ r
/-- the records at the beginning of bs -/
def IsScan (mx : Nat → Nat → Nat) (n : Nat) (bs : List Int) (xs : List (List Int)) : Prop := ∃ r, bs = framesV mx n xs ++ r ∧ noFrame mx (n + xs.length) r
theorem scan_pre {mx : Nat → Nat → Nat} (hmx : IsMix mx) {xs : List (List Int)} : ∀ {n : Nat} {ys : List (List Int)} {q : List Int}, (framesV mx n xs ++ q).length ≤ 1048576 → n + xs.length ≤ 1048576 → IsScan mx n (framesV mx n xs ++ q) ys → ∃ zs, ys = xs ++ zs := by
  induction xs with
  | nil => intro n ys q _ _ _; exact ⟨ys, rfl⟩
  | cons x xs ih =>
    intro n ys q hl hn ⟨r, h, hno⟩
    cases ys with
    | nil => exact absurd (by rw [framesV, framesV, List.append_assoc] at h; exact h.symm) (hno x (framesV mx (n + 1) xs ++ q))
    | cons y ys =>
      have hx := framesV_mem (mx := mx) (n := n) (List.mem_cons_self (a := x) (l := xs))
      have hy := framesV_mem (mx := mx) (n := n) (List.mem_cons_self (a := y) (l := ys))
      have hyl : (framesV mx n (y :: ys)).length ≤ 1048576 := by have := congrArg List.length h; simp only [List.length_append] at this hl; omega
      have hxl : (framesV mx n (x :: xs)).length ≤ 1048576 := by simp only [List.length_append] at hl; omega
      have hcnt := framesV_cnt (mx := mx) (n := n) (xs := x :: xs)
      rw [List.length_cons] at hn
      rw [framesV, framesV, List.append_assoc, List.append_assoc] at h
      obtain ⟨rfl, h2⟩ := frame_inj hmx (by unfold isI64; omega) (by omega) (by omega) h
      have hnn : n + 1 + xs.length ≤ 1048576 := by omega
      obtain ⟨zs, rfl⟩ := ih (n := n + 1) (ys := ys) (q := q) (by rw [framesV] at hl; simp only [List.length_append] at hl ⊢; omega) hnn ⟨r, h2, by rw [List.length_cons, show n + (ys.length + 1) = n + 1 + ys.length by omega] at hno; exact hno⟩
      exact ⟨zs, rfl⟩
theorem scan_unique {mx : Nat → Nat → Nat} (hmx : IsMix mx) {bs : List Int} {xs ys : List (List Int)} (hl : bs.length ≤ 1048576) (h1 : IsScan mx 0 bs xs) (h2 : IsScan mx 0 bs ys) : xs = ys := by
  obtain ⟨r, e1, n1⟩ := id h1
  obtain ⟨q, e2, n2⟩ := id h2
  have c1 := framesV_cnt (mx := mx) (n := 0) (xs := xs)
  have c2 := framesV_cnt (mx := mx) (n := 0) (xs := ys)
  have l1 := congrArg List.length e1
  have l2 := congrArg List.length e2
  simp only [List.length_append] at l1 l2
  obtain ⟨zs, hz⟩ := scan_pre hmx (q := r) (by rw [← e1]; exact hl) (by omega) (by rw [← e1]; exact h2)
  obtain ⟨us, hu⟩ := scan_pre hmx (q := q) (by rw [← e2]; exact hl) (by omega) (by rw [← e2]; exact h1)
  have a1 := congrArg List.length hz
  have a2 := congrArg List.length hu
  simp only [List.length_append] at a1 a2
  have : zs = [] := List.eq_nil_of_length_eq_zero (by omega)
  rw [hz, this, List.append_nil]
theorem noFrame_nil (mx : Nat → Nat → Nat) (n : Nat) : noFrame mx n [] := by
  intro y r h
  have := congrArg List.length h
  have := frame_len (mx := mx) (n := (n : Int)) (x := y)
  simp only [List.length_append, List.length_nil] at *; omega
theorem new_apart {w0 w : World} {L Ls : Hp} {b : Nat} (hs : St [] w0 w L) (hb : b ∈ ids L) (hsrc : ∀ p ∈ Ls, w0.heap[p.1]? = some p.2) : b ∉ ids Ls := by
  intro h
  obtain ⟨o, ho⟩ := mem_ids.1 hb
  obtain ⟨o', ho'⟩ := mem_ids.1 h
  have h1 := (Array.getElem?_eq_some_iff.1 (hsrc _ ho')).1
  rcases hs.new _ ho with h2 | h2
  · cases h2
  · simp only at h1 h2; omega
theorem src_old {w0 w : World} {L Ls : Hp} (hs : St [] w0 w L) (hsrc : ∀ p ∈ Ls, w0.heap[p.1]? = some p.2) : ∀ p ∈ Ls, w.heap[p.1]? = some p.2 := fun p hp =>
  (hs.old (Array.getElem?_eq_some_iff.1 (hsrc p hp)).1 (by simp)).trans (hsrc p hp)
theorem src_fwd0 {w0 w : World} {Ls : Hp} (hf : Fwd [] w0 w) (hsrc : ∀ p ∈ Ls, w0.heap[p.1]? = some p.2) : ∀ p ∈ Ls, w.heap[p.1]? = some p.2 := fun p hp =>
  (hf.block p.1 (Array.getElem?_eq_some_iff.1 (hsrc p hp)).1 (by simp)).trans (hsrc p hp)
set_option maxHeartbeats 1000000 in
theorem fFirst_ok {mx : Nat → Nat → Nat} (hmx : IsMix mx) (n : Nat) (v : Value) (bs : List Int) (Ls : Hp) (w0 : World) (hv : RdS v bs.length (u8s bs) Ls) (hsrc : ∀ p ∈ Ls, w0.heap[p.1]? = some p.2) (hB : ∀ b ∈ bs, isB b) (hl : bs.length ≤ 1048576) (hn : n ≤ 1048576) :
    Ret Tryz.prog 45 [.int .i64 (n : Int), v].toArray w0 fun r w' => Fwd [] w0 w' ∧ ((∃ u x q, r = .tuple #[u, .bool true] ∧ bs = frameV mx (n : Int) x ++ q ∧ RdS u x.length (u8s x) Ls ∧ ∀ b ∈ x, isB b) ∨ (r = .tuple #[.slice none 0 0, .bool false] ∧ noFrame mx n bs)) := by
  have hnI : isI64 (n : Int) := by unfold isI64; omega
  obtain ⟨_, c, a, rfl, rfl⟩ := hv.form w0 hsrc
  obtain ⟨_, _, hac', hac⟩ := (hv.sl w0 hsrc).len_le
  cases hac'
  -- what is read
  have hm1 := rdRaw_mem (s := ⟨bs, 0⟩) (N := 1048576) (fun _ => ⟨hB, hl⟩)
  generalize hR1 : rdRaw ⟨bs, 0⟩ = R1 at hm1
  obtain ⟨core, s1⟩ := R1
  simp only at hm1
  generalize hR2 : rdI ⟨core, 0⟩ = R2
  obtain ⟨z2, s2⟩ := R2
  have hno : (∀ x q, bs = frameV mx (n : Int) x ++ q → s1.e = 0 ∧ (rdRaw s2).2.e = 0 ∧ (rdRaw s2).1 = x) := by
    intro x q h
    have hxl : x.length ≤ 1048576 := by have := frame_len (mx := mx) (n := (n : Int)) (x := x); have := congrArg List.length h; simp only [List.length_append] at this; omega
    obtain ⟨a1, a2, a3, a4⟩ := frame_parse hmx q hnI hxl
    rw [← h, hR1] at a1
    cases a1
    rw [hR2] at a3
    cases a3
    rw [a4]
    exact ⟨rfl, rfl, rfl⟩
  have hb2 : s2.e = 0 → (∀ b ∈ s2.rest, isB b) ∧ s2.rest.length ≤ 1048576 := by
    intro h
    have h2 : (rdI ⟨core, 0⟩).2 = s2 := by rw [hR2]
    obtain ⟨_, k, hk, h3⟩ := rdU_rest (s := ⟨core, 0⟩) (fun _ => hm1.1) (by rw [rdI] at h2; simp only at h2; rw [h2]; exact h)
    rw [rdI] at h2; simp only at h2
    rw [h2] at h3
    rw [h3]
    exact ⟨fun b hb => hm1.1 b (List.mem_of_mem_drop hb), by rw [List.length_drop]; have := hm1.2; simp only at *; omega⟩
  have hm3 := rdRaw_mem (s := s2) (N := 1048576) hb2
  generalize hR3 : rdRaw s2 = R3 at hm3 hno
  obtain ⟨x, s3⟩ := R3
  simp only at hm3 hno
  refine Ret_start fun w hs => ?_
  refine Ret_of Tryz.func45 rfl Tryz.ntmps45 rfl ?_
  refine W_seq ?_
  refine W_region ?_
  refine s_assign rfl rfl ?_
  refine s_assign rfl rfl ?_
  refine WL_nil ?_
  refine n_then ?_
  refine W_seq ?_
  refine W_region ?_
  refine s_move rfl rfl ?_
  refine s_build rfl rfl (BD99_0 _ _ _) ?_
  first | refine s_box rfl rfl hs ?_ | refine s_box1 rfl rfl rfl hs ?_
  clear hs; intro b13 w hs
  refine s_assign rfl rfl ?_
  refine WL_nil ?_
  refine n_then ?_
  refine W_seq ?_
  refine W_region ?_
  refine s_move rfl rfl ?_
  refine s_callL (M := []) (L1 := [_]) (X := []) Tryz.call64 rfl rfl hs (fun h => fRRaw_ok b13 ⟨bs, 0⟩ Ls _ w ⟨a, bs.length, c, rfl, ⟨fun _ => rfl, fun _ => hv, fun _ => hB, fun _ => by simp only; omega⟩⟩ h (src_old hs hsrc) (new_apart hs (by simp [ids]) hsrc)) ?_
  clear hs; rintro v1 w L1 ⟨⟨a1, n1, c1, rfl, hok1⟩, a2, c2, rfl, hrd1⟩ - hs
  rw [hR1] at hrd1 hok1 hs ⊢
  simp only [List.nil_append, List.append_nil] at hs hrd1 hok1
  refine s_assign rfl rfl ?_
  refine WL_nil ?_
  refine n_then ?_
  refine W_seq ?_
  refine W_region ?_
  refine s_move rfl rfl ?_
  refine s_build rfl rfl (BD99_0 _ _ _) ?_
  first | refine s_box rfl rfl hs ?_ | refine s_box1 rfl rfl rfl hs ?_
  clear hs; intro b18 w hs
  refine s_assign rfl rfl ?_
  refine WL_nil ?_
  refine n_then ?_
  refine W_seq ?_
  refine W_region ?_
  refine s_move rfl rfl ?_
  refine s_callL (M := []) (L1 := [_]) (X := [_]) Tryz.call65 rfl rfl hs (fun h => fRInt_ok b18 ⟨core, 0⟩ Ls _ w ⟨a2, core.length, c2, rfl, ⟨fun _ => rfl, fun _ => hrd1, fun _ => hm1.1, fun _ => by have := hm1.2; simp only; omega⟩⟩ h (src_old hs hsrc) (new_apart hs (by simp [ids]) hsrc)) ?_
  clear hs; rintro v2 w L2 ⟨hRf, rfl⟩ - hs
  rw [hR2] at hRf
  simp only [List.nil_append] at hs hRf
  refine WL_nil ?_
  refine n_then ?_
  refine W_seq ?_
  refine W_region ?_
  refine s_move rfl rfl ?_
  refine s_callL (M := []) (L1 := L2) (X := [_]) Tryz.call64 rfl rfl hs (fun h => fRRaw_ok b18 s2 Ls _ w hRf h (src_old hs hsrc) (new_apart hs (by rw [ids_append, hRf.ids]; simp) hsrc)) ?_
  clear hs; rintro v3 w L3 ⟨⟨a4, n4, c4, rfl, hok3⟩, a3, c3, rfl, hrd3⟩ - hs
  rw [hR3] at hrd3 hok3 hs ⊢
  simp only [List.nil_append, List.cons_append] at hs hrd3 hok3
  refine s_assign rfl rfl ?_
  refine WL_nil ?_
  refine n_then ?_
  refine W_seq ?_
  refine W_seq ?_
  refine W_region ?_
  refine s_move rfl rfl ?_
  refine s_nilCheck rfl rfl ?_
  refine s_fieldAddr rfl rfl (FA99_1 _ _) ?_
  first
    | refine s_load Tryz.isAgg30 rfl rfl (hs.cell (k := 0) rfl rfl) ?_
    | refine s_load Tryz.isAgg30 rfl rfl (hs.cell (k := 1) rfl rfl) ?_
    | refine s_load Tryz.isAgg30 rfl rfl (hs.cell (k := 2) rfl rfl) ?_
    | refine s_load Tryz.isAgg30 rfl rfl (hs.cell (k := 3) rfl rfl) ?_
  refine s_neq rfl rfl rfl ?_
  refine s_move rfl rfl ?_
  refine WL_case (s := 28) rfl (fun hg28 => ?_) (fun hg28 => ?_)
  · skip
    try simp only [decide_eq_true_eq, decide_eq_false_iff_not, bne_iff_ne, ne_eq, bne_eq_false_iff_eq] at hg28
    refine WL_skip rfl rfl rfl ?_
    refine WL_skip rfl rfl rfl ?_
    refine WL_skip rfl rfl rfl ?_
    refine WL_skip rfl rfl rfl ?_
    refine WL_skip rfl rfl rfl ?_
    refine s_pick_t rfl rfl rfl ?_
    refine WL_nil ?_
    refine n_then ?_
    refine W_cond_t rfl ?_
    refine W_seq ?_
    refine W_region ?_
    refine s_assign rfl rfl ?_
    refine s_assign rfl rfl ?_
    refine WL_nil ?_
    refine n_then ?_
    refine W_ret ?_
    refine r_then ?_
    first
      | exact end2 rfl rfl rfl ⟨hs.fwd, .inr ⟨rfl, fun y q h => absurd (hno y q h).1 ‹_›⟩⟩
      | exact end2 rfl rfl rfl ⟨hs.fwd, .inr ⟨rfl, fun y q h => absurd (hno y q h).2.1 ‹_›⟩⟩
      | (refine end2 rfl rfl rfl ⟨hs.fwd, .inr ⟨rfl, fun y q h => ?_⟩⟩
         obtain ⟨_, _, rfl⟩ := hno y q h
         have := congrArg List.length h
         simp only [List.length_append] at this
         omega)
      | (refine end2 rfl rfl rfl ⟨hs.fwd, .inr ⟨rfl, fun y q h => ?_⟩⟩
         obtain ⟨_, _, rfl⟩ := hno y q h
         have hne : ¬ frameV mx (n : Int) x = bs.take (frameV mx (n : Int) x).length := by simpa using hc51
         exact hne (by rw [h, List.take_left]))
      | (have heq : frameV mx (n : Int) x = bs.take (frameV mx (n : Int) x).length := by simpa using hc51
         refine end2 rfl rfl rfl ⟨hs.fwd, .inl ⟨_, x, bs.drop (frameV mx (n : Int) x).length, rfl, ?_, hrd3, hm3.1⟩⟩
         conv => lhs; rw [← List.take_append_drop (frameV mx (n : Int) x).length bs]
         rw [← heq])
  · skip
    try simp only [decide_eq_true_eq, decide_eq_false_iff_not, bne_iff_ne, ne_eq, bne_eq_false_iff_eq] at hg28
    refine WL_take rfl ?_
    refine s_move rfl rfl ?_
    refine WL_take rfl ?_
    refine s_nilCheck rfl rfl ?_
    refine WL_take rfl ?_
    refine s_fieldAddr rfl rfl (FA99_1 _ _) ?_
    refine WL_take rfl ?_
    first
      | refine s_load Tryz.isAgg30 rfl rfl (hs.cell (k := 0) rfl rfl) ?_
      | refine s_load Tryz.isAgg30 rfl rfl (hs.cell (k := 1) rfl rfl) ?_
      | refine s_load Tryz.isAgg30 rfl rfl (hs.cell (k := 2) rfl rfl) ?_
      | refine s_load Tryz.isAgg30 rfl rfl (hs.cell (k := 3) rfl rfl) ?_
    refine WL_take rfl ?_
    refine s_neq rfl rfl rfl ?_
    refine s_pick_f rfl rfl rfl ?_
    refine WL_nil ?_
    refine n_then ?_
    refine W_cond rfl (fun hc34 => ?_) (fun hc34 => ?_)
    · skip
      try simp only [decide_eq_true_eq, decide_eq_false_iff_not, bne_iff_ne, ne_eq, bne_eq_false_iff_eq] at hc34
      refine W_seq ?_
      refine W_region ?_
      refine s_assign rfl rfl ?_
      refine s_assign rfl rfl ?_
      refine WL_nil ?_
      refine n_then ?_
      refine W_ret ?_
      refine r_then ?_
      first
        | exact end2 rfl rfl rfl ⟨hs.fwd, .inr ⟨rfl, fun y q h => absurd (hno y q h).1 ‹_›⟩⟩
        | exact end2 rfl rfl rfl ⟨hs.fwd, .inr ⟨rfl, fun y q h => absurd (hno y q h).2.1 ‹_›⟩⟩
        | (refine end2 rfl rfl rfl ⟨hs.fwd, .inr ⟨rfl, fun y q h => ?_⟩⟩
           obtain ⟨_, _, rfl⟩ := hno y q h
           have := congrArg List.length h
           simp only [List.length_append] at this
           omega)
        | (refine end2 rfl rfl rfl ⟨hs.fwd, .inr ⟨rfl, fun y q h => ?_⟩⟩
           obtain ⟨_, _, rfl⟩ := hno y q h
           have hne : ¬ frameV mx (n : Int) x = bs.take (frameV mx (n : Int) x).length := by simpa using hc51
           exact hne (by rw [h, List.take_left]))
        | (have heq : frameV mx (n : Int) x = bs.take (frameV mx (n : Int) x).length := by simpa using hc51
           refine end2 rfl rfl rfl ⟨hs.fwd, .inl ⟨_, x, bs.drop (frameV mx (n : Int) x).length, rfl, ?_, hrd3, hm3.1⟩⟩
           conv => lhs; rw [← List.take_append_drop (frameV mx (n : Int) x).length bs]
           rw [← heq])
    · skip
      try simp only [decide_eq_true_eq, decide_eq_false_iff_not, bne_iff_ne, ne_eq, bne_eq_false_iff_eq] at hc34
      refine W_skip ?_
      refine n_then ?_
      refine W_seq ?_
      refine W_region ?_
      refine s_move rfl rfl ?_
      refine s_move rfl rfl ?_
      have he1 : s1.e = 0 := ‹_›
      have he3 : s3.e = 0 := ‹_›
      refine s_call Tryz.call37 rfl rfl (fFrame_ok hmx (n : Int) _ x w (hrd3.sl w (src_old hs hsrc)) hnI hm3.1 hm3.2) ?_
      rintro r w ⟨LF, hOF, hst⟩
      replace hs := St.back0 hs hst
      clear hst
      obtain ⟨_, cF, aF, rfl, rfl⟩ := hOF.form
      refine s_assign rfl rfl ?_
      refine WL_nil ?_
      refine n_then ?_
      refine W_seq ?_
      refine W_seq ?_
      refine W_region ?_
      refine s_move rfl rfl ?_
      refine s_len rfl rfl (LN39 _ _ _ _) ?_
      refine s_move rfl rfl ?_
      refine s_len rfl rfl (LN39 _ _ _ _) ?_
      refine s_gtr rfl rfl rfl ?_
      refine s_move rfl rfl ?_
      refine WL_case (s := 43) rfl (fun hg43 => ?_) (fun hg43 => ?_)
      · skip
        try simp only [decide_eq_true_eq, decide_eq_false_iff_not, bne_iff_ne, ne_eq, bne_eq_false_iff_eq] at hg43
        refine WL_skip rfl rfl rfl ?_
        refine WL_skip rfl rfl rfl ?_
        refine WL_skip rfl rfl rfl ?_
        refine WL_skip rfl rfl rfl ?_
        refine WL_skip rfl rfl rfl ?_
        refine WL_skip rfl rfl rfl ?_
        refine WL_skip rfl rfl rfl ?_
        refine s_pick_t rfl rfl rfl ?_
        refine WL_nil ?_
        refine n_then ?_
        refine W_cond_t rfl ?_
        refine W_seq ?_
        refine W_region ?_
        refine s_assign rfl rfl ?_
        refine s_assign rfl rfl ?_
        refine WL_nil ?_
        refine n_then ?_
        refine W_ret ?_
        refine r_then ?_
        first
          | exact end2 rfl rfl rfl ⟨hs.fwd, .inr ⟨rfl, fun y q h => absurd (hno y q h).1 ‹_›⟩⟩
          | exact end2 rfl rfl rfl ⟨hs.fwd, .inr ⟨rfl, fun y q h => absurd (hno y q h).2.1 ‹_›⟩⟩
          | (refine end2 rfl rfl rfl ⟨hs.fwd, .inr ⟨rfl, fun y q h => ?_⟩⟩
             obtain ⟨_, _, rfl⟩ := hno y q h
             have := congrArg List.length h
             simp only [List.length_append] at this
             omega)
          | (refine end2 rfl rfl rfl ⟨hs.fwd, .inr ⟨rfl, fun y q h => ?_⟩⟩
             obtain ⟨_, _, rfl⟩ := hno y q h
             have hne : ¬ frameV mx (n : Int) x = bs.take (frameV mx (n : Int) x).length := by simpa using hc51
             exact hne (by rw [h, List.take_left]))
          | (have heq : frameV mx (n : Int) x = bs.take (frameV mx (n : Int) x).length := by simpa using hc51
             refine end2 rfl rfl rfl ⟨hs.fwd, .inl ⟨_, x, bs.drop (frameV mx (n : Int) x).length, rfl, ?_, hrd3, hm3.1⟩⟩
             conv => lhs; rw [← List.take_append_drop (frameV mx (n : Int) x).length bs]
             rw [← heq])
      · skip
        try simp only [decide_eq_true_eq, decide_eq_false_iff_not, bne_iff_ne, ne_eq, bne_eq_false_iff_eq] at hg43
        refine WL_take rfl ?_
        refine s_move rfl rfl ?_
        refine WL_take rfl ?_
        refine s_move rfl rfl ?_
        refine WL_take rfl ?_
        refine s_move rfl rfl ?_
        refine WL_take rfl ?_
        refine s_len rfl rfl (LN39 _ _ _ _) ?_
        refine WL_take rfl ?_
        (refine s_slice_hi El39 rfl rfl rfl ?hx ?_; case hx => (constructor <;> omega))
        refine WL_take rfl ?_
        refine s_call Tryz.call20 rfl rfl (sameBytes_ok _ _ (frameV mx (n : Int) x) (bs.take (frameV mx (n : Int) x).length) w (hOF.sl hs) (by
          have := (hv.sl w (src_old hs hsrc)).take (k := (frameV mx (n : Int) x).length) (size := 1) (by omega) rfl
          rw [Nat.mul_one, ← List.map_take] at this
          rw [List.length_take, Nat.min_eq_left (by omega), Int.toNat_natCast]; exact this) (by omega)) ?_
        rintro r w ⟨hst, rfl⟩
        replace hs := hs.fwd1 hst
        clear hst
        refine WL_take rfl ?_
        refine s_not rfl rfl ?_
        refine s_pick_f rfl rfl rfl ?_
        refine WL_nil ?_
        refine n_then ?_
        refine W_cond rfl (fun hc51 => ?_) (fun hc51 => ?_)
        · skip
          try simp only [decide_eq_true_eq, decide_eq_false_iff_not, bne_iff_ne, ne_eq, bne_eq_false_iff_eq] at hc51
          refine W_seq ?_
          refine W_region ?_
          refine s_assign rfl rfl ?_
          refine s_assign rfl rfl ?_
          refine WL_nil ?_
          refine n_then ?_
          refine W_ret ?_
          refine r_then ?_
          first
            | exact end2 rfl rfl rfl ⟨hs.fwd, .inr ⟨rfl, fun y q h => absurd (hno y q h).1 ‹_›⟩⟩
            | exact end2 rfl rfl rfl ⟨hs.fwd, .inr ⟨rfl, fun y q h => absurd (hno y q h).2.1 ‹_›⟩⟩
            | (refine end2 rfl rfl rfl ⟨hs.fwd, .inr ⟨rfl, fun y q h => ?_⟩⟩
               obtain ⟨_, _, rfl⟩ := hno y q h
               have := congrArg List.length h
               simp only [List.length_append] at this
               omega)
            | (refine end2 rfl rfl rfl ⟨hs.fwd, .inr ⟨rfl, fun y q h => ?_⟩⟩
               obtain ⟨_, _, rfl⟩ := hno y q h
               have hne : ¬ frameV mx (n : Int) x = bs.take (frameV mx (n : Int) x).length := by simpa using hc51
               exact hne (by rw [h, List.take_left]))
            | (have heq : frameV mx (n : Int) x = bs.take (frameV mx (n : Int) x).length := by simpa using hc51
               refine end2 rfl rfl rfl ⟨hs.fwd, .inl ⟨_, x, bs.drop (frameV mx (n : Int) x).length, rfl, ?_, hrd3, hm3.1⟩⟩
               conv => lhs; rw [← List.take_append_drop (frameV mx (n : Int) x).length bs]
               rw [← heq])
        · skip
          try simp only [decide_eq_true_eq, decide_eq_false_iff_not, bne_iff_ne, ne_eq, bne_eq_false_iff_eq] at hc51
          refine W_skip ?_
          refine n_then ?_
          refine W_seq ?_
          refine W_region ?_
          refine s_move rfl rfl ?_
          refine s_assign rfl rfl ?_
          refine s_assign rfl rfl ?_
          refine WL_nil ?_
          refine n_then ?_
          refine W_ret ?_
          first
            | exact end2 rfl rfl rfl ⟨hs.fwd, .inr ⟨rfl, fun y q h => absurd (hno y q h).1 ‹_›⟩⟩
            | exact end2 rfl rfl rfl ⟨hs.fwd, .inr ⟨rfl, fun y q h => absurd (hno y q h).2.1 ‹_›⟩⟩
            | (refine end2 rfl rfl rfl ⟨hs.fwd, .inr ⟨rfl, fun y q h => ?_⟩⟩
               obtain ⟨_, _, rfl⟩ := hno y q h
               have := congrArg List.length h
               simp only [List.length_append] at this
               omega)
            | (refine end2 rfl rfl rfl ⟨hs.fwd, .inr ⟨rfl, fun y q h => ?_⟩⟩
               obtain ⟨_, _, rfl⟩ := hno y q h
               have hne : ¬ frameV mx (n : Int) x = bs.take (frameV mx (n : Int) x).length := by simpa using hc51
               exact hne (by rw [h, List.take_left]))
            | (have heq : frameV mx (n : Int) x = bs.take (frameV mx (n : Int) x).length := by simpa using hc51
               refine end2 rfl rfl rfl ⟨hs.fwd, .inl ⟨_, x, bs.drop (frameV mx (n : Int) x).length, rfl, ?_, hrd3, hm3.1⟩⟩
               conv => lhs; rw [← List.take_append_drop (frameV mx (n : Int) x).length bs]
               rw [← heq])
end Go.Proofs.YtkappdlbpilghaaGreat
