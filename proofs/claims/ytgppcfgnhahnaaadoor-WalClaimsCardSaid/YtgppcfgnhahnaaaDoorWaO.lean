/- WalFrames. -/
import Derived.Test.YtgppcfgnhahnaaaDoorWaN
set_option linter.unusedVariables false
set_option linter.unusedSimpArgs false
namespace Go.Proofs.YtgppcfgnhahnaaaDoor
open Go.SL
theorem frame_len_le {mx : Nat → Nat → Nat} (hmx : IsMix mx) {n : Int} {x : List Int} (hn : isI64 n) (hx : x.length ≤ 1048576) : (frameV mx n x).length ≤ x.length + 40 := by
  have h1 := coreV_len hn hx
  have h2 := uvar_len10 (hashV_lt hmx (bytesOf sWal) (coreV n x))
  have h3 := uvar_len10 (n := (coreV n x).length) (by omega)
  rw [frameV]; simp only [List.length_append]; omega
theorem framesV_append (mx : Nat → Nat → Nat) (xs ys : List (List Int)) : ∀ n, framesV mx n (xs ++ ys) = framesV mx n xs ++ framesV mx (n + xs.length) ys := by
  induction xs with
  | nil => intro n; simp [framesV]
  | cons y r ih => intro n; rw [List.cons_append, framesV, framesV, ih, List.append_assoc, List.length_cons, show n + 1 + r.length = n + (r.length + 1) by omega]
theorem framesV_isB {mx : Nat → Nat → Nat} {xs : List (List Int)} (h : ∀ x ∈ xs, ∀ b ∈ x, isB b) : ∀ n, ∀ b ∈ framesV mx n xs, isB b := by
  induction xs with
  | nil => intro n b hb; cases hb
  | cons y r ih =>
    intro n b hb
    rw [framesV, List.mem_append] at hb
    rcases hb with hb | hb
    · exact frameV_isB (h y List.mem_cons_self) b hb
    · exact ih (fun x hx => h x (List.mem_cons_of_mem _ hx)) _ b hb
theorem framesV_le {mx : Nat → Nat → Nat} (hmx : IsMix mx) {xs : List (List Int)} {k : Nat} (hk : k ≤ 1048576) (h : ∀ x ∈ xs, x.length ≤ k) : ∀ n, n + xs.length ≤ 1048576 → (framesV mx n xs).length ≤ xs.length * (k + 40) := by
  induction xs with
  | nil => intro n _; simp [framesV]
  | cons y r ih =>
    intro n hn
    rw [List.length_cons] at hn
    have h1 := h y List.mem_cons_self
    have h2 := frame_len_le hmx (n := (n : Int)) (x := y) (by unfold isI64; omega) (by omega)
    have h3 := ih (fun x hx => h x (List.mem_cons_of_mem _ hx)) (n + 1) (by omega)
    rw [framesV, List.length_append, List.length_cons, Nat.add_mul]; omega
structure WfS where
  i : Nat
  v : Value
  L : Hp
theorem u8s_app (a b : List Int) : u8s (a ++ b) = u8s a ++ u8s b := by simp [u8s]
theorem Recs.x_take (rs : Recs) (k : Nat) : Recs.x (rs.take k) = (Recs.x rs).take k := by simp [Recs.x]
theorem Recs.v_take (rs : Recs) (k : Nat) : Recs.v (rs.take k) = (Recs.v rs).take k := by simp [Recs.v]
theorem Recs.x_append (rs qs : Recs) : Recs.x (rs ++ qs) = Recs.x rs ++ Recs.x qs := by simp [Recs.x]
end Go.Proofs.YtgppcfgnhahnaaaDoor
