/- The example that every law of package disk asks for. -/
import Derived.Test.YtgppcfgnhahnaaaDoorDkH
set_option linter.unusedVariables false
set_option linter.unusedSimpArgs false
namespace Go.Proofs.YtgppcfgnhahnaaaDoor
open Go.SL
def lvA : Dk := (((newDk 100).app 3 [1, 2]).1.sync.1.app 3 [255]).1
theorem lv_facts : (lvA.crash [1] 7).readE 3 = 0 ∧ (lvA.crash [1] 7).readV 3 = [1, 2, 254] ∧ (lvA.crash [] 7).readE 3 = 0 ∧ (lvA.crash [] 7).readV 3 = [1, 2] ∧ (((lvA.crash [] 7).arm 0).app 1 []).2 = 18 ∧ (((lvA.crash [] 7).arm 0).app 1 []).1.readE 3 = 18 := by decide +kernel
/-- what is in front is no part of what is behind -/
theorem St_frontNot {F : List Nat} {w0 w : World} {A B : Hp} (hs : St F w0 w (A ++ B)) {b : Nat} (hb : b ∈ ids A) : b ∉ ids B := by
  have := hs.nodup
  rw [ids_append] at this
  exact fun h2 => (List.nodup_append.1 this).2.2 b hb b h2 rfl
theorem Sl_lit {F : List Nat} {w0 w : World} {L : Hp} {g m : Nat} {e : TypeId} {cs : List Value} (hs : St F w0 w ((g, Blk e cs) :: L)) (hm : m = cs.length) : Sl w (.slice (some ⟨g, 0, none⟩) m m) cs.length cs := by
  subst hm; exact hs.sl (k := 0) rfl (Nat.le_refl _) (by intro j u hj; rw [Nat.zero_add]; exact hj)
theorem RdS.apart {v : Value} {n : Nat} {cs : List Value} {L L0 : Hp} (h : RdS v n cs L) (hd : ∀ b ∈ ids L, b ∉ ids L0) : ∀ a m c, v = .slice (some a) m c → cs ≠ [] → a.block ∉ ids L0 := fun a m c he hne => hd _ (h.inL a m c he hne)
theorem ids_disj {F : List Nat} {w0 w : World} {A B C : Hp} (hs : St F w0 w (A ++ (B ++ C))) : (∀ b ∈ ids C, b ∉ ids A) ∧ (∀ b ∈ ids C, b ∉ ids B) ∧ (∀ b ∈ ids B, b ∉ ids A) := by
  have h := hs.nodup
  rw [ids_append, ids_append, List.nodup_append, List.nodup_append] at h
  obtain ⟨_, ⟨_, _, h2⟩, h1⟩ := h
  exact ⟨fun b hb ha => h1 b ha b (List.mem_append_right _ hb) rfl, fun b hb ha => h2 b ha b hb rfl, fun b hb ha => h1 b ha b (List.mem_append_left _ hb) rfl⟩
end Go.Proofs.YtgppcfgnhahnaaaDoor
