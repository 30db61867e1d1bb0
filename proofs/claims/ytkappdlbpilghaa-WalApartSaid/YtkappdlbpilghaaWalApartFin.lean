/-
  WalApart: for every input the law returns true, and each argument reads afterwards as it read before. No condition.
  The frame of this text follows the guide's own shell for a given statement; the walk is ours.
-/
import Derived.Test.YtkappdlbpilghaaRows
import Derived.Test.YtkappdlbpilghaaFin
import Derived.Test.YtkappdlbpilghaaWlE
import Derived.WalkKit
import Derived.ProofKit
import Derived.OpenShut
import Derived.ShutString
import Derived.ChangeOld
import Derived.Below
set_option linter.unusedVariables false
set_option linter.unusedSimpArgs false
namespace Go.Proofs.Ytkappdlbpilghaa.walApart
open Go.ChangeShapes Go.WideShapes Go.ChangeAt Go.RowKit
open Go.ChangeMaps (open_string shut_string)
theorem own : ownKnob Try.prog.godebug = none := by kernel_rfl
theorem laidOut : laidOutB Try.prog = true := by kernel_rfl
set_option maxRecDepth 100000 in
theorem lifted (os : Os) (started : os.Started) (H : Type) (enc : TypeId × Value → H) :
    ReturnsInHanded {} Try.checked os 4 .any (Rows.walApartSpec.pre6 enc Try.prog Try.f4 Rows.walApartRow.domain false) (Rows.walApartSpec.post enc Try.prog Try.f4 false true false false) := by
  refine returnsInHanded_of_change (C := Try.checked) own started (by kernel_rfl) Try.func4
    (ChangeSpec.witness6 (enc := enc) (C := Try.checked) false ⟨#[], #[.slice none 0 0, .slice none 0 0, .slice none 0 0], []⟩ 8 (by kernel_rfl) (by kernel_rfl) (by kernel_rfl) (by kernel_rfl)) ?_
  intro W base args ds gs before hval0 hW hcnd _
  have hval : ∀ (j : Nat) t v, Try.f4.params[j]? = some t → args[j]? = some v → Value.okWide Try.prog W .any base t v := hval0
  have hW' := hW
  obtain ⟨p, q, hA0, hV, rfl, hfz, hnd⟩ := hW
  have hA : DataW.TrodAll enc Try.prog W 0 (fun _ => true) true Try.f4.params.toList args.toList ds p := hA0
  rw [Try.params4] at hA hval
  obtain ⟨v0, vs0, d0, ds0, p0, q0, hargs, rfl, rfl, h0, r0⟩ := trodAll_cons hA
  obtain ⟨v1, vs1, d1, ds1, p1, q1, rfl, rfl, rfl, h1, r1⟩ := trodAll_cons r0
  obtain ⟨v2, vs2, d2, ds2, p2, q2, rfl, rfl, rfl, h2, r2⟩ := trodAll_cons r1
  obtain ⟨rfl, rfl, rfl⟩ := trodAll_nil r2
  obtain rfl : args = #[v0, v1, v2] := by cases args; simp_all
  obtain ⟨rfl, rfl⟩ := trodVars_none hV
  have k0 := h0
  have lt0 : ∀ x ∈ p0, x.block < W.heap.size := by obtain ⟨m, hm⟩ := k0; exact DataW.trod_lt m _ _ _ hm
  have k1 := h1
  have lt1 : ∀ x ∈ p1, x.block < W.heap.size := by obtain ⟨m, hm⟩ := k1; exact DataW.trod_lt m _ _ _ hm
  have k2 := h2
  have lt2 : ∀ x ∈ p2, x.block < W.heap.size := by obtain ⟨m, hm⟩ := k2; exact DataW.trod_lt m _ _ _ hm
  obtain ⟨a0, len0, cap0, rfl⟩ := okWide_slice Try.underlying22 (hval 0 22 v0 rfl rfl)
  obtain ⟨xs0, l0, s0, g0, m0⟩ : ∃ xs : List _, xs.length = len0 ∧ Go.SL.Sl W (.slice a0 len0 cap0) xs.length (xs.map (Value.int .i64)) ∧ (∀ z ∈ xs, (fun n => (Lit.int .i64 n).wf = true) z) ∧ len0 ≤ 9223372036854775807 := by
    obtain ⟨fuel, hf⟩ := h0
    exact Go.SL.sl_of_trod1 (Value.int .i64) (fun n => (Lit.int .i64 n).wf = true) Try.underlying22 (by kernel_rfl) (fun _ _ _ hy => by obtain ⟨z, h1, _, h3⟩ := DataW.trod_int Try.underlying3 hy; exact ⟨z, h1, h3⟩) hf
  obtain ⟨a1, len1, cap1, rfl⟩ := okWide_slice Try.underlying22 (hval 1 22 v1 rfl rfl)
  obtain ⟨xs1, l1, s1, g1, m1⟩ : ∃ xs : List _, xs.length = len1 ∧ Go.SL.Sl W (.slice a1 len1 cap1) xs.length (xs.map (Value.int .i64)) ∧ (∀ z ∈ xs, (fun n => (Lit.int .i64 n).wf = true) z) ∧ len1 ≤ 9223372036854775807 := by
    obtain ⟨fuel, hf⟩ := h1
    exact Go.SL.sl_of_trod1 (Value.int .i64) (fun n => (Lit.int .i64 n).wf = true) Try.underlying22 (by kernel_rfl) (fun _ _ _ hy => by obtain ⟨z, h1, _, h3⟩ := DataW.trod_int Try.underlying3 hy; exact ⟨z, h1, h3⟩) hf
  obtain ⟨a2, len2, cap2, rfl⟩ := okWide_slice Try.underlying33 (hval 2 33 v2 rfl rfl)
  obtain ⟨xs2, l2, s2, g2, m2⟩ : ∃ xs : List _, xs.length = len2 ∧ Go.SL.Sl W (.slice a2 len2 cap2) xs.length (xs.map (Value.int .u8)) ∧ (∀ z ∈ xs, (fun n => (Lit.int .u8 n).wf = true) z) ∧ len2 ≤ 9223372036854775807 := by
    obtain ⟨fuel, hf⟩ := h2
    exact Go.SL.sl_of_trod1 (Value.int .u8) (fun n => (Lit.int .u8 n).wf = true) Try.underlying33 (by kernel_rfl) (fun _ _ _ hy => by obtain ⟨z, h1, _, h3⟩ := DataW.trod_int Try.underlying5 hy; exact ⟨z, h1, h3⟩) hf
  clear hA0 hval0
  have walk : Calls Try.prog 4 #[.slice a0 len0 cap0, .slice a1 len1 cap1, .slice a2 len2 cap2] W fun e w' => e = .returned (.bool true) ∧ Below W.heap.size W w' := by
    exact Go.SL.calls_of_ret (walApart_ok _ _ _ xs0 xs1 xs2 W s0 (fun z hz => Go.SL.wf_i64 (g0 z hz)) s1 (fun z hz => Go.SL.wf_i64 (g1 z hz)) s2 (fun z hz => Go.SL.wf_u8 (g2 z hz)))
  refine walk.mono fun e W' ⟨he, bel⟩ => ?_
  subst he
  exact ⟨_, rfl, _, _, _, [], _, [], hW', trodAll_mk1 (shut_bool Try.underlying4 _), (trodAll_cons_mk (Below.trod laidOut (by kernel_rfl) (of_decide_eq_true (by kernel_rfl)) k0 bel lt0) (trodAll_cons_mk (Below.trod laidOut (by kernel_rfl) (of_decide_eq_true (by kernel_rfl)) k1 bel lt1) (trodAll_cons_mk (Below.trod laidOut (by kernel_rfl) (of_decide_eq_true (by kernel_rfl)) k2 bel lt2) trodAll_mk0))), rfl, bel.frame _, fun h => by cases h⟩
theorem over : Rows.walApartRow.holds Try.pinned (OpenSpec.ofChange Rows.walApartSpec) :=
  OpenClaim.holds_of_wide 4 Try.f4 rfl rfl rfl rfl rfl rfl rfl ⟨rfl, rfl, rfl, rfl, rfl⟩ rfl rfl rfl rfl rfl (by kernel_rfl) Try.func4 (by kernel_rfl)
    (of_decide_eq_true (by kernel_rfl)) (by unfold Func.isWrapper; first | (rw [if_pos (by decide +kernel)]; kernel_rfl) | (rw [if_neg (by decide +kernel)]; exact ⟨rfl, rfl⟩))
    (fun os started H enc _ => lifted os started H enc)
/-- the given statement -/
theorem proved : Rows.WalApartSaid := over
#print axioms proved
end Go.Proofs.Ytkappdlbpilghaa.walApart
