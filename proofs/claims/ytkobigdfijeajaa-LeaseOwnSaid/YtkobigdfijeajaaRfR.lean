/- Contracts of the reference model's reader (as XWirH and XWirI, for seats without the whole of law02). -/
import Derived.Test.YtkobigdfijeajaaWirR
set_option linter.unusedVariables false
set_option linter.unusedSimpArgs false
namespace Go.Proofs.Ytkobigdfijeajaa
open Go.SL
/-- the model's reader at q: it reads in the blocks Ls -/
structure RfOk (s : RS) (a : Option Addr) (n c : Nat) (Ls : Hp) : Prop where
  len : s.e = 0 → n = s.rest.length
  sl : s.e = 0 → RdS (.slice a n c) n (u8s s.rest) Ls
  b : s.e = 0 → ∀ b ∈ s.rest, isB b
  small : s.e = 0 → s.rest.length ≤ 4294967296
theorem RdS_drop {b o n c k : Nat} {l : List Int} {Ls : Hp} (h : RdS (.slice (some ⟨b, o, none⟩) n c) n (u8s l) Ls) (hl : l.length = n) (hk : k ≤ n) :
    RdS (.slice (some ⟨b, (if c = k then o else o + k * 1), none⟩) (n - k) (c - k)) (n - k) (u8s (l.drop k)) Ls := by
  refine ⟨fun w hw => ?_, fun a m c' he hne => ?_⟩
  · have := (h.sl w hw).drop (size := 1) (k := k) (by simp [hl]) hk
    rw [Nat.mul_one, ← List.map_drop] at this
    rw [Nat.mul_one]; exact this
  · cases he
    exact h.inL ⟨b, o, none⟩ _ _ rfl (by intro h0; apply hne; rw [u8s, List.map_drop]; rw [u8s] at h0; rw [h0]; simp)
theorem RdS_take {n c k : Nat} {a : Option Addr} {l : List Int} {Ls : Hp} (h : RdS (.slice a n c) n (u8s l) Ls) (hk : k ≤ n) : RdS (.slice a k c) k (u8s (l.take k)) Ls := by
  refine ⟨fun w hw => ?_, fun a' m c' he hne => ?_⟩
  · have := (h.sl w hw).take (size := 1) (k := k) hk rfl
    rw [Nat.mul_one, ← List.map_take] at this; exact this
  · cases he
    exact h.inL _ _ _ rfl (by intro h0; apply hne; rw [u8s, List.map_take]; rw [u8s] at h0; rw [h0]; simp)
theorem src_kept {q : Nat} {Ls L0 L : Hp} {w0 w : World} (hF : ids L0 = [q]) (hsrc : ∀ p ∈ Ls, w0.heap[p.1]? = some p.2) (hq : q ∉ ids Ls) (h : St (ids L0) w0 w L) : ∀ p ∈ Ls, w.heap[p.1]? = some p.2 := fun p hp =>
  (h.old (Array.getElem?_eq_some_iff.1 (hsrc p hp)).1 (by rw [hF]; intro h1; simp at h1; exact hq (h1 ▸ mem_ids_of hp))).trans (hsrc p hp)
theorem src_fwd {q : Nat} {Ls : Hp} {w0 w : World} (hsrc : ∀ p ∈ Ls, w0.heap[p.1]? = some p.2) (hq : q ∉ ids Ls) (h : Fwd [q] w0 w) : ∀ p ∈ Ls, w.heap[p.1]? = some p.2 := fun p hp =>
  (h.block p.1 (Array.getElem?_eq_some_iff.1 (hsrc p hp)).1 (by intro h1; simp at h1; exact hq (h1 ▸ mem_ids_of hp))).trans (hsrc p hp)
end Go.Proofs.Ytkobigdfijeajaa
