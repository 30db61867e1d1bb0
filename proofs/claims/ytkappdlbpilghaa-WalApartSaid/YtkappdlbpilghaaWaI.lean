/- Frames in a row: what a scan is (plain); the reference's first. -/
import Derived.Test.YtkappdlbpilghaaWaH
import Derived.Test.YtkappdlbpilghaaRfR
set_option linter.unusedVariables false
set_option linter.unusedSimpArgs false
namespace Go.Proofs.Ytkappdlbpilghaa
open Go.SL
theorem frame_parse {mx : Nat → Nat → Nat} (hmx : IsMix mx) {n : Int} {x : List Int} (r : List Int) (hn : isI64 n) (hx : x.length ≤ 1048576) :
    rdRaw ⟨frameV mx n x ++ r, 0⟩ = (coreV n x, ⟨uvar (hashV mx (bytesOf sWal) (coreV n x)) ++ r, 0⟩) ∧ rdU ⟨uvar (hashV mx (bytesOf sWal) (coreV n x)) ++ r, 0⟩ = (hashV mx (bytesOf sWal) (coreV n x), ⟨r, 0⟩) ∧
    rdI ⟨coreV n x, 0⟩ = (n, ⟨uvar x.length ++ x, 0⟩) ∧ rdRaw ⟨uvar x.length ++ x, 0⟩ = (x, ⟨[], 0⟩) := by
  have hcl := coreV_len hn hx
  refine ⟨?_, rdU_uvar (hashV_lt hmx _ _), ?_, ?_⟩
  · rw [frameV, List.append_assoc, List.append_assoc]; exact rdRaw_uvar (by omega)
  · rw [coreV, List.append_assoc]; exact rdI_uvar hn
  · have := rdRaw_uvar (bs := x) (r := []) (by omega)
    rw [List.append_nil] at this; exact this
theorem frame_len {mx : Nat → Nat → Nat} {n : Int} {x : List Int} : x.length + 2 ≤ (frameV mx n x).length := by
  have h1 : 0 < (uvar (coreV n x).length).length := List.length_pos_iff.2 (uvar_ne _)
  have h2 : 0 < (uvar (hashV mx (bytesOf sWal) (coreV n x))).length := List.length_pos_iff.2 (uvar_ne _)
  have h3 : x.length ≤ (coreV n x).length := by rw [coreV]; simp only [List.length_append]; omega
  rw [frameV]; simp only [List.length_append]; omega
theorem frame_inj {mx : Nat → Nat → Nat} (hmx : IsMix mx) {n : Int} {x y r q : List Int} (hn : isI64 n) (hx : x.length ≤ 1048576) (hy : y.length ≤ 1048576) (h : frameV mx n x ++ r = frameV mx n y ++ q) : x = y ∧ r = q := by
  obtain ⟨a1, a2, a3, a4⟩ := frame_parse hmx r hn hx
  obtain ⟨b1, b2, b3, b4⟩ := frame_parse hmx q hn hy
  rw [h, b1] at a1
  have hc : coreV n y = coreV n x := congrArg Prod.fst a1
  have hr := congrArg Prod.snd a1
  simp only at hr
  rw [← hr, b2] at a2
  rw [← hc, b3] at a3
  have h3 := congrArg Prod.snd a3
  simp only at h3
  rw [← h3, b4] at a4
  have h4 := congrArg Prod.fst a4
  have h5 := congrArg (fun z => z.2.rest) a2
  exact ⟨h4.symm, h5.symm⟩
def framesV (mx : Nat → Nat → Nat) : Nat → List (List Int) → List Int
  | _, [] => []
  | n, x :: xs => frameV mx (n : Int) x ++ framesV mx (n + 1) xs
theorem framesV_snoc (mx : Nat → Nat → Nat) (xs : List (List Int)) (x : List Int) : ∀ n, framesV mx n (xs ++ [x]) = framesV mx n xs ++ frameV mx ((n + xs.length : Nat) : Int) x := by
  induction xs with
  | nil => intro n; simp [framesV]
  | cons y ys ih => intro n; rw [List.cons_append, framesV, framesV, ih, List.append_assoc, List.length_cons, show n + 1 + ys.length = n + (ys.length + 1) by omega]
theorem framesV_mem {mx : Nat → Nat → Nat} {xs : List (List Int)} : ∀ {n} {x}, x ∈ xs → x.length ≤ (framesV mx n xs).length := by
  induction xs with
  | nil => intro n x h; cases h
  | cons y ys ih =>
    intro n x h
    rw [framesV, List.length_append]
    rcases List.mem_cons.1 h with rfl | h
    · have := frame_len (mx := mx) (n := (n : Int)) (x := x); omega
    · have := ih (n := n + 1) h; omega
theorem framesV_cnt {mx : Nat → Nat → Nat} {xs : List (List Int)} : ∀ {n}, 2 * xs.length ≤ (framesV mx n xs).length := by
  induction xs with
  | nil => intro n; simp [framesV]
  | cons y ys ih => intro n; rw [framesV, List.length_append, List.length_cons]; have := frame_len (mx := mx) (n := (n : Int)) (x := y); have := ih (n := n + 1); omega
/-- no frame with this number is here -/
def noFrame (mx : Nat → Nat → Nat) (n : Nat) (bs : List Int) : Prop := ∀ y r, bs ≠ frameV mx (n : Int) y ++ r
/-- the records at the beginning of bs -/
def IsScan (mx : Nat → Nat → Nat) (n : Nat) (bs : List Int) (xs : List (List Int)) : Prop := ∃ r, bs = framesV mx n xs ++ r ∧ noFrame mx (n + xs.length) r
theorem scan_pre {mx : Nat → Nat → Nat} (hmx : IsMix mx) {xs : List (List Int)} : ∀ {n : Nat} {ys : List (List Int)} {q : List Int}, (framesV mx n xs ++ q).length ≤ 1048576 → n + xs.length ≤ 1048576 → IsScan mx n (framesV mx n xs ++ q) ys → ∃ zs, ys = xs ++ zs := by
  induction xs with
  | nil => intro n ys q _ _ _; exact ⟨ys, rfl⟩
  | cons x xs ih =>
    intro n ys q hl hn ⟨r, h, hno⟩
    cases ys with
    | nil => exact absurd (by rw [framesV, framesV, List.append_assoc] at h; exact h.symm) (hno x (framesV mx (n + 1) xs ++ q))
    | cons y ys =>
      have hx := framesV_mem (mx := mx) (n := n) (List.mem_cons_self (a := x) (l := xs))
      have hy := framesV_mem (mx := mx) (n := n) (List.mem_cons_self (a := y) (l := ys))
      have hyl : (framesV mx n (y :: ys)).length ≤ 1048576 := by have := congrArg List.length h; simp only [List.length_append] at this hl; omega
      have hxl : (framesV mx n (x :: xs)).length ≤ 1048576 := by simp only [List.length_append] at hl; omega
      have hcnt := framesV_cnt (mx := mx) (n := n) (xs := x :: xs)
      rw [List.length_cons] at hn
      rw [framesV, framesV, List.append_assoc, List.append_assoc] at h
      obtain ⟨rfl, h2⟩ := frame_inj hmx (by unfold isI64; omega) (by omega) (by omega) h
      have hnn : n + 1 + xs.length ≤ 1048576 := by omega
      obtain ⟨zs, rfl⟩ := ih (n := n + 1) (ys := ys) (q := q) (by rw [framesV] at hl; simp only [List.length_append] at hl ⊢; omega) hnn ⟨r, h2, by rw [List.length_cons, show n + (ys.length + 1) = n + 1 + ys.length by omega] at hno; exact hno⟩
      exact ⟨zs, rfl⟩
theorem scan_unique {mx : Nat → Nat → Nat} (hmx : IsMix mx) {bs : List Int} {xs ys : List (List Int)} (hl : bs.length ≤ 1048576) (h1 : IsScan mx 0 bs xs) (h2 : IsScan mx 0 bs ys) : xs = ys := by
  obtain ⟨r, e1, n1⟩ := id h1
  obtain ⟨q, e2, n2⟩ := id h2
  have c1 := framesV_cnt (mx := mx) (n := 0) (xs := xs)
  have c2 := framesV_cnt (mx := mx) (n := 0) (xs := ys)
  have l1 := congrArg List.length e1
  have l2 := congrArg List.length e2
  simp only [List.length_append] at l1 l2
  obtain ⟨zs, hz⟩ := scan_pre hmx (q := r) (by rw [← e1]; exact hl) (by omega) (by rw [← e1]; exact h2)
  obtain ⟨us, hu⟩ := scan_pre hmx (q := q) (by rw [← e2]; exact hl) (by omega) (by rw [← e2]; exact h1)
  have a1 := congrArg List.length hz
  have a2 := congrArg List.length hu
  simp only [List.length_append] at a1 a2
  have : zs = [] := List.eq_nil_of_length_eq_zero (by omega)
  rw [hz, this, List.append_nil]
theorem noFrame_nil (mx : Nat → Nat → Nat) (n : Nat) : noFrame mx n [] := by
  intro y r h
  have := congrArg List.length h
  have := frame_len (mx := mx) (n := (n : Int)) (x := y)
  simp only [List.length_append, List.length_nil] at *; omega
theorem new_apart {w0 w : World} {L Ls : Hp} {b : Nat} (hs : St [] w0 w L) (hb : b ∈ ids L) (hsrc : ∀ p ∈ Ls, w0.heap[p.1]? = some p.2) : b ∉ ids Ls := by
  intro h
  obtain ⟨o, ho⟩ := mem_ids.1 hb
  obtain ⟨o', ho'⟩ := mem_ids.1 h
  have h1 := (Array.getElem?_eq_some_iff.1 (hsrc _ ho')).1
  rcases hs.new _ ho with h2 | h2
  · cases h2
  · simp only at h1 h2; omega
theorem src_old {w0 w : World} {L Ls : Hp} (hs : St [] w0 w L) (hsrc : ∀ p ∈ Ls, w0.heap[p.1]? = some p.2) : ∀ p ∈ Ls, w.heap[p.1]? = some p.2 := fun p hp =>
  (hs.old (Array.getElem?_eq_some_iff.1 (hsrc p hp)).1 (by simp)).trans (hsrc p hp)
theorem src_fwd0 {w0 w : World} {Ls : Hp} (hf : Fwd [] w0 w) (hsrc : ∀ p ∈ Ls, w0.heap[p.1]? = some p.2) : ∀ p ∈ Ls, w.heap[p.1]? = some p.2 := fun p hp =>
  (hf.block p.1 (Array.getElem?_eq_some_iff.1 (hsrc p hp)).1 (by simp)).trans (hsrc p hp)
end Go.Proofs.Ytkappdlbpilghaa
