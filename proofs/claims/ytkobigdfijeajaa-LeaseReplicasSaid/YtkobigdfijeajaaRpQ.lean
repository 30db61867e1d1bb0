/- LeaseArguments. -/
import Derived.Test.YtkobigdfijeajaaRpP
import Derived.Test.YtkobigdfijeajaaCut
import Derived.Test.YtkobigdfijeajaaTree
set_option linter.unusedVariables false
set_option linter.unusedSimpArgs false
namespace Go.SL
end Go.SL
namespace Go.Proofs.Ytkobigdfijeajaa
open Go.SL
theorem u8wrap_isB (z : Int) : isB (IntKind.u8.wrap z) := by
  have : IntKind.u8.wrap z = z % 256 := by simp [IntKind.wrap, IntKind.bits, IntKind.signed]
  rw [this]; unfold isB; omega
theorem madeC_isB (n : Int) : ∀ b ∈ madeC n, isB b := by
  intro b hb
  rw [madeC] at hb
  split at hb
  · cases hb
  · simp only [List.mem_cons, List.not_mem_nil, or_false] at hb
    rcases hb with rfl | rfl <;> exact u8wrap_isB _
theorem ruleS_name {j : Nat} (h : j < 3) : nameP (ruleS j) := by
  match j, h with
  | 0, _ => decide +kernel
  | 1, _ => decide +kernel
  | 2, _ => decide +kernel
theorem made_valid (n : Int) : validP (madeG n) (madeX n) (madeC n).length := by
  have hr := aroundV_range (m := n) (q := 1073741824) (by omega)
  have hcl : (madeC n).length ≤ 2 := by rw [madeC]; split <;> simp
  refine ⟨ruleS_name (by omega), ?_, ?_, ?_, by omega, ?_⟩
  · simp only [madeX]; omega
  · simp only [madeX]; omega
  · simp only [madeX]; omega
  · rw [madeC]
    cases madeG n
    · exact .inl rfl
    · exact .inr rfl
def madeE (n : Int) : En := ⟨madeG n, madeX n, madeC n⟩
theorem madeE_ok (n : Int) : (madeE n).ok := ⟨made_valid n, madeC_isB n⟩
theorem rep_head {p : Nat} {R : Rp} {L : Hp} {w : World} (h : RepAt p R L) (ho : ∀ q ∈ L, w.heap[q.1]? = some q.2) : ∃ cs, w.heap[p]? = some (Blk 89 cs) ∧ cs[0]? = some (.int .i64 (R.id : Int)) ∧ cs[1]? = some (.int .i64 (R.mem : Int)) ∧ cs[2]? = some (.int .i64 (R.term : Int)) ∧ cs[4]? = some (.int .i64 (R.role : Int)) := by
  obtain ⟨lv, vv, av, es, LB, LP, LV, LA, rfl, _⟩ := h
  exact ⟨_, ho _ List.mem_cons_self, rfl, rfl, rfl, rfl⟩
theorem RepAt.ok {p : Nat} {R : Rp} {L : Hp} (h : RepAt p R L) : R.ok := by obtain ⟨lv, vv, av, es, LB, LP, LV, LA, rfl, _, _, _, _, h⟩ := h; exact h
theorem MsAt.form {r : Value} {ms : List Ms} {L : Hp} (h : MsAt r ms L) : ∃ a c, r = .slice a ms.length c := by
  obtain ⟨mm, LB, LP, rfl, hO, hM, rfl⟩ := h
  obtain ⟨tl, tc, ta, h1, h2⟩ := hO.form
  exact ⟨ta, tc, by rw [h1, h2, List.length_map]⟩
end Go.Proofs.Ytkobigdfijeajaa
