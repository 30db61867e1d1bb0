/- DeclComposes and DeclReverses. -/
import Derived.Test.YtmjjdcfakkaiiaaDeC
set_option linter.unusedVariables false
set_option linter.unusedSimpArgs false
namespace Go.Proofs.Ytmjjdcfakkaiiaa
open Go.SL
def pLo (d : De) (s t lo : Int) : Int := if s ≤ t then lo + d.dn * (t - s) else lo - d.up * (s - t)
def pHi (d : De) (s t hi : Int) : Int := if s ≤ t then hi + d.up * (t - s) else hi - d.dn * (s - t)
theorem mul_small {a k : Int} (ha : -4 ≤ a ∧ a ≤ 4) (hk : 0 ≤ k ∧ k ≤ 1048576) : -4194304 ≤ a * k ∧ a * k ≤ 4194304 := by
  have hc : a = -4 ∨ a = -3 ∨ a = -2 ∨ a = -1 ∨ a = 0 ∨ a = 1 ∨ a = 2 ∨ a = 3 ∨ a = 4 := by omega
  rcases hc with h | h | h | h | h | h | h | h | h <;> subst h <;> omega
section
variable {d : De} (hg : GenOk d)
include hg
theorem spLo_eq {s t v : Int} (hs : 0 ≤ s ∧ s ≤ 1048576) (ht : 0 ≤ t ∧ t ≤ 1048576) (hv : -8589934592 ≤ v ∧ v ≤ 8589934592) : spLo d s t v = pLo d s t v := by
  have h1 := hg.dn; have h2 := hg.up
  unfold spLo pLo wr
  split
  · have h3 := mul_small (a := d.dn) (k := t - s) (by omega) (by omega)
    rw [IntWalk.i64_in (t - s) (by omega), IntWalk.i64_in (d.dn * (t - s)) (by omega), IntWalk.i64_in _ (by omega)]
  · have h3 := mul_small (a := d.up) (k := s - t) (by omega) (by omega)
    rw [IntWalk.i64_in (s - t) (by omega), IntWalk.i64_in (d.up * (s - t)) (by omega), IntWalk.i64_in _ (by omega)]
theorem spHi_eq {s t v : Int} (hs : 0 ≤ s ∧ s ≤ 1048576) (ht : 0 ≤ t ∧ t ≤ 1048576) (hv : -8589934592 ≤ v ∧ v ≤ 8589934592) : spHi d s t v = pHi d s t v := by
  have h1 := hg.dn; have h2 := hg.up
  unfold spHi pHi wr
  split
  · have h3 := mul_small (a := d.up) (k := t - s) (by omega) (by omega)
    rw [IntWalk.i64_in (t - s) (by omega), IntWalk.i64_in (d.up * (t - s)) (by omega), IntWalk.i64_in _ (by omega)]
  · have h3 := mul_small (a := d.dn) (k := s - t) (by omega) (by omega)
    rw [IntWalk.i64_in (s - t) (by omega), IntWalk.i64_in (d.dn * (s - t)) (by omega), IntWalk.i64_in _ (by omega)]
theorem pLo_range {s t v : Int} (hs : 0 ≤ s ∧ s ≤ 1048576) (ht : 0 ≤ t ∧ t ≤ 1048576) : v - 4194304 ≤ pLo d s t v ∧ pLo d s t v ≤ v + 4194304 := by
  have h1 := hg.dn; have h2 := hg.up
  unfold pLo
  split
  · have h3 := mul_small (a := d.dn) (k := t - s) (by omega) (by omega); omega
  · have h3 := mul_small (a := d.up) (k := s - t) (by omega) (by omega); omega
theorem pHi_range {s t v : Int} (hs : 0 ≤ s ∧ s ≤ 1048576) (ht : 0 ≤ t ∧ t ≤ 1048576) : v - 4194304 ≤ pHi d s t v ∧ pHi d s t v ≤ v + 4194304 := by
  have h1 := hg.dn; have h2 := hg.up
  unfold pHi
  split
  · have h3 := mul_small (a := d.up) (k := t - s) (by omega) (by omega); omega
  · have h3 := mul_small (a := d.dn) (k := s - t) (by omega) (by omega); omega
theorem composes {x y z p : Int} : ((x ≤ y ∧ y ≤ z) ∨ (y ≤ x ∧ z ≤ y) → pLo d y z (pLo d x y p) = pLo d x z p ∧ pHi d y z (pHi d x y p) = pHi d x z p) ∧ (pLo d y z (pLo d x y p) ≤ pLo d x z p ∧ pHi d x z p ≤ pHi d y z (pHi d x y p)) := by
  have h1 := hg.dn; have h2 := hg.up
  unfold pLo pHi
  generalize d.dn = dn at *
  generalize d.up = up at *
  have hc : dn = -3 ∨ dn = -2 ∨ dn = -1 ∨ dn = 0 ∨ dn = 1 := by omega
  have hu : up = -3 ∨ up = -2 ∨ up = -1 ∨ up = 0 ∨ up = 1 ∨ up = 2 ∨ up = 3 ∨ up = 4 := by omega
  rcases hc with h | h | h | h | h <;> subst h <;> rcases hu with h | h | h | h | h | h | h | h <;> subst h <;> first | omega | (split <;> split <;> split <;> refine ⟨fun _ => ⟨?_, ?_⟩, ?_, ?_⟩ <;> omega) | (split <;> split <;> split <;> refine ⟨fun _ => ⟨?_, ?_⟩, ?_, ?_⟩ <;> first | omega | skip)
theorem reverses {x y p q : Int} : (pLo d x y p ≤ q ↔ p ≤ pHi d y x q) ∧ (q ≤ pHi d x y p ↔ pLo d y x q ≤ p) := by
  have h1 := hg.dn; have h2 := hg.up
  unfold pLo pHi
  generalize d.dn = dn at *
  generalize d.up = up at *
  have hc : dn = -3 ∨ dn = -2 ∨ dn = -1 ∨ dn = 0 ∨ dn = 1 := by omega
  have hu : up = -3 ∨ up = -2 ∨ up = -1 ∨ up = 0 ∨ up = 1 ∨ up = 2 ∨ up = 3 ∨ up = 4 := by omega
  rcases hc with h | h | h | h | h <;> subst h <;> rcases hu with h | h | h | h | h | h | h | h <;> subst h <;> (split <;> split <;> omega)
end
end Go.Proofs.Ytmjjdcfakkaiiaa
