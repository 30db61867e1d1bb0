/-
  NetBlocks: for every input the law returns true, and each argument reads afterwards as it read before. No condition.
  The frame of this text follows the guide's own shell for a given statement; the walk is ours.
-/
import Derived.Test.YtgjjdlgbbgijgaaDoorRows
import Derived.Test.YtgjjdlgbbgijgaaDoorFin
import Derived.Test.YtgjjdlgbbgijgaaDoorDor
import Derived.Test.YtgjjdlgbbgijgaaDoorCards
import Derived.Test.YtgjjdlgbbgijgaaDoorTie
import Derived.SevenTiedAt
import Derived.LaidMore
import Derived.Stop.Joined
import Derived.Test.YtgjjdlgbbgijgaaDoorNetK
import Derived.WalkKit
import Derived.ProofKit
import Derived.OpenShut
import Derived.ShutString
import Derived.ChangeOld
import Derived.Below
set_option linter.unusedVariables false
set_option linter.unusedSimpArgs false
namespace Go.Proofs.YtgjjdlgbbgijgaaDoor.netBlocks
open Go.SL (laid_open laid_var array_ints array_pairs)
open Go.ChangeShapes Go.WideShapes Go.ChangeAt Go.RowKit
open Go.ChangeMaps (open_string shut_string)
theorem own : ownKnob Tryd.prog.godebug = none := by kernel_rfl
theorem laidOut : laidOutB Tryd.prog = true := by kernel_rfl
def laidL : List (String × DataW Unit) := [("intervalmon/codec.widths", Rows.laid_intervalmon_codec_widths), ("intervalmon/block.params", Rows.laid_intervalmon_block_params)]
/-- the door's own heap meets the condition -/
theorem door_met (os : Os) (args : Array Value) : laidMetH Tryd.prog laidL ((World.doorLaid Tryd.prog 400 os).forCall (fun _ _ => 0) ⟨#[], args, []⟩).memory :=
  laidMetH_of_parts3 (fuel := 8) (laidMet_of_run' 8 (by kernel_rfl) (by kernel_rfl)) (by kernel_rfl) (by kernel_rfl)
set_option maxRecDepth 100000 in
theorem lifted (os : Os) (started : os.Started) (H : Type) (enc : TypeId × Value → H) :
    ReturnsInHanded {} Tryd.checked os 3 .any (fun w args => (Rows.netBlocksSpec.pre enc Tryd.prog Tryd.f3 [] false w args ∧ laidMetH Tryd.prog laidL w) ∧ sizedMet enc Tryd.prog Tryd.f3 (OpenSpec.ofChange Rows.netBlocksSpec) false w args)
      (Rows.netBlocksSpec.post enc Tryd.prog Tryd.f3 false true false false) := by
  refine returnsInHanded_of_change_and (C := Tryd.checked) (X := fun w _ => laidMetH Tryd.prog laidL w) (fun _ _ _ hh h => h.of_heap hh) own started (by kernel_rfl) Tryd.func3
    (ChangeSpec.witness_shaped (enc := enc) (C := Tryd.checked) (os := os) (X := fun w _ => laidMetH Tryd.prog laidL w) false (World.doorLaid Tryd.prog 400 os) #[.slice none 0 0, .slice none 0 0, .slice none 0 0] 8 rfl (World.shaped_of_RefB (by kernel_rfl) (by kernel_rfl)) (by kernel_rfl) (by kernel_rfl) (by kernel_rfl) (door_met os _)) ?_
  intro W base args ds gs before hval0 hW hcnd hz hL _
  have hval : ∀ (j : Nat) t v, Tryd.f3.params[j]? = some t → args[j]? = some v → Value.okWide Tryd.prog W .any base t v := hval0
  have hW' := hW
  obtain ⟨p, q, hA0, hV, rfl, hfz, hnd⟩ := hW
  have hA : DataW.TrodAll enc Tryd.prog W 0 (fun _ => true) true Tryd.f3.params.toList args.toList ds p := hA0
  rw [Tryd.params3] at hA hval hz
  obtain ⟨v0, vs0, d0, ds0, p0, q0, hargs, rfl, rfl, h0, r0⟩ := trodAll_cons hA
  obtain ⟨v1, vs1, d1, ds1, p1, q1, rfl, rfl, rfl, h1, r1⟩ := trodAll_cons r0
  obtain ⟨v2, vs2, d2, ds2, p2, q2, rfl, rfl, rfl, h2, r2⟩ := trodAll_cons r1
  obtain ⟨rfl, rfl, rfl⟩ := trodAll_nil r2
  obtain rfl : args = #[v0, v1, v2] := by cases args; simp_all
  obtain ⟨rfl, rfl⟩ := trodVars_none hV
  have k0 := h0
  have lt0 : ∀ x ∈ p0, x.block < W.heap.size := by obtain ⟨m, hm⟩ := k0; exact DataW.trod_lt m _ _ _ hm
  have k1 := h1
  have lt1 : ∀ x ∈ p1, x.block < W.heap.size := by obtain ⟨m, hm⟩ := k1; exact DataW.trod_lt m _ _ _ hm
  have k2 := h2
  have lt2 : ∀ x ∈ p2, x.block < W.heap.size := by obtain ⟨m, hm⟩ := k2; exact DataW.trod_lt m _ _ _ hm
  obtain ⟨a0, len0, cap0, rfl⟩ := okWide_slice Tryd.underlying22 (hval 0 22 v0 rfl rfl)
  obtain ⟨xs0, l0, s0, g0, m0⟩ : ∃ xs : List _, xs.length = len0 ∧ Go.SL.Sl W (.slice a0 len0 cap0) xs.length (xs.map (Value.int .i64)) ∧ (∀ z ∈ xs, (fun n => (Lit.int .i64 n).wf = true) z) ∧ len0 ≤ 9223372036854775807 := by
    obtain ⟨fuel, hf⟩ := h0
    exact Go.SL.sl_of_trod1 (Value.int .i64) (fun n => (Lit.int .i64 n).wf = true) Tryd.underlying22 (by kernel_rfl) (fun _ _ _ hy => by obtain ⟨z, h1, _, h3⟩ := DataW.trod_int Tryd.underlying3 hy; exact ⟨z, h1, h3⟩) hf
  obtain ⟨a1, len1, cap1, rfl⟩ := okWide_slice Tryd.underlying22 (hval 1 22 v1 rfl rfl)
  obtain ⟨xs1, l1, s1, g1, m1⟩ : ∃ xs : List _, xs.length = len1 ∧ Go.SL.Sl W (.slice a1 len1 cap1) xs.length (xs.map (Value.int .i64)) ∧ (∀ z ∈ xs, (fun n => (Lit.int .i64 n).wf = true) z) ∧ len1 ≤ 9223372036854775807 := by
    obtain ⟨fuel, hf⟩ := h1
    exact Go.SL.sl_of_trod1 (Value.int .i64) (fun n => (Lit.int .i64 n).wf = true) Tryd.underlying22 (by kernel_rfl) (fun _ _ _ hy => by obtain ⟨z, h1, _, h3⟩ := DataW.trod_int Tryd.underlying3 hy; exact ⟨z, h1, h3⟩) hf
  obtain ⟨a2, len2, cap2, rfl⟩ := okWide_slice Tryd.underlying22 (hval 2 22 v2 rfl rfl)
  obtain ⟨xs2, l2, s2, g2, m2⟩ : ∃ xs : List _, xs.length = len2 ∧ Go.SL.Sl W (.slice a2 len2 cap2) xs.length (xs.map (Value.int .i64)) ∧ (∀ z ∈ xs, (fun n => (Lit.int .i64 n).wf = true) z) ∧ len2 ≤ 9223372036854775807 := by
    obtain ⟨fuel, hf⟩ := h2
    exact Go.SL.sl_of_trod1 (Value.int .i64) (fun n => (Lit.int .i64 n).wf = true) Tryd.underlying22 (by kernel_rfl) (fun _ _ _ hy => by obtain ⟨z, h1, _, h3⟩ := DataW.trod_int Tryd.underlying3 hy; exact ⟨z, h1, h3⟩) hf
  have hzz := List.all_eq_true.1 hz
  have lw0 : len0 * 8 ≤ 140737488351232 := by obtain ⟨fuel, hf⟩ := h0; exact Go.SL.len_of_weights Tryd.underlying22 (by kernel_rfl) hf (fun x hx => of_decide_eq_true (hzz x (List.mem_append_left _ hx)))
  have lw1 : len1 * 8 ≤ 140737488351232 := by obtain ⟨fuel, hf⟩ := h1; exact Go.SL.len_of_weights Tryd.underlying22 (by kernel_rfl) hf (fun x hx => of_decide_eq_true (hzz x (List.mem_append_right _ (List.mem_append_left _ hx))))
  have lw2 : len2 * 8 ≤ 140737488351232 := by obtain ⟨fuel, hf⟩ := h2; exact Go.SL.len_of_weights Tryd.underlying22 (by kernel_rfl) hf (fun x hx => of_decide_eq_true (hzz x (List.mem_append_right _ (List.mem_append_right _ (List.mem_append_left _ hx)))))
  clear hA0 hval0 hz hzz
  obtain ⟨ps, hLV⟩ := laid_open (by kernel_rfl) hL
  obtain ⟨cs0, f0, p0, q0, hc0, hd0, hLV⟩ := laid_var (g := 1) (t := 98) (by kernel_rfl) (by kernel_rfl) hLV
  have hWd : Wd W := by
    have hr := array_ints (ks := [0, 4, 8, 16, 32, 64]) Tryd.underlying98 Tryd.underlying3 (by kernel_rfl) hd0
    intro j hj
    rw [hc0]
    match j, hj with
    | 0, _ => exact hr 0 _ rfl
    | 1, _ => exact hr 1 _ rfl
    | 2, _ => exact hr 2 _ rfl
    | 3, _ => exact hr 3 _ rfl
    | 4, _ => exact hr 4 _ rfl
    | 5, _ => exact hr 5 _ rfl
  obtain ⟨cs1, f1, p1, q1, hc1, hd1, hLV⟩ := laid_var (g := 0) (t := 86) (by kernel_rfl) (by kernel_rfl) hLV
  have hPm : Pm W := by
    have hr := array_pairs (ks := [(0, 0), (1, 1073741824), (0, 1073741824), (1, 4096), (0, 1048576)]) Tryd.underlying86 Tryd.underlying85 Tryd.underlying3 (by kernel_rfl) (by kernel_rfl) hd1
    intro j hj
    rw [hc1]
    match j, hj with
    | 0, _ => exact (hr 0 _ rfl).1
    | 1, _ => exact (hr 0 _ rfl).2
    | 2, _ => exact (hr 1 _ rfl).1
    | 3, _ => exact (hr 1 _ rfl).2
    | 4, _ => exact (hr 2 _ rfl).1
    | 5, _ => exact (hr 2 _ rfl).2
    | 6, _ => exact (hr 3 _ rfl).1
    | 7, _ => exact (hr 3 _ rfl).2
    | 8, _ => exact (hr 4 _ rfl).1
    | 9, _ => exact (hr 4 _ rfl).2
  have walk : Calls Tryd.prog 3 #[.slice a0 len0 cap0, .slice a1 len1 cap1, .slice a2 len2 cap2] W fun e w' => e = .returned (.bool true) ∧ Below W.heap.size W w' := by
    exact Go.SL.calls_of_ret (netBlocks_ok _ _ _ xs0 xs1 xs2 W hWd hPm s0 (fun z hz => Go.SL.wf_i64 (g0 z hz)) s1 (fun z hz => Go.SL.wf_i64 (g1 z hz)) (by omega) s2 (fun z hz => Go.SL.wf_i64 (g2 z hz)))
  refine walk.mono fun e W' ⟨he, bel⟩ => ?_
  subst he
  exact ⟨_, rfl, _, _, _, [], _, [], hW', trodAll_mk1 (shut_bool Tryd.underlying4 _), (trodAll_cons_mk (Below.trod laidOut (by kernel_rfl) (of_decide_eq_true (by kernel_rfl)) k0 bel lt0) (trodAll_cons_mk (Below.trod laidOut (by kernel_rfl) (of_decide_eq_true (by kernel_rfl)) k1 bel lt1) (trodAll_cons_mk (Below.trod laidOut (by kernel_rfl) (of_decide_eq_true (by kernel_rfl)) k2 bel lt2) trodAll_mk0))), rfl, bel.frame _, fun h => by cases h⟩
theorem over : Rows.netBlocksRow.holds Tryd.pinned (OpenSpec.ofChange Rows.netBlocksSpec) :=
  OpenClaim.holds_of_wide 3 Tryd.f3 rfl rfl rfl rfl rfl rfl rfl ⟨rfl, rfl, rfl, rfl, rfl⟩ rfl rfl rfl rfl rfl (by kernel_rfl) Tryd.func3 (by kernel_rfl)
    (of_decide_eq_true (by kernel_rfl)) (by unfold Func.isWrapper; first | (rw [if_pos (by decide +kernel)]; kernel_rfl) | (rw [if_neg (by decide +kernel)]; exact ⟨rfl, rfl⟩))
    (fun os started H enc _ => lifted os started H enc)
/-- the given statement: the row's card, its listed variables tied to the program's text -/
theorem proved : Rows.NetBlocksCardSaid :=
  Claim7.holds_tied_plain_at .later [] [.data, .data] true (true, "6a717e7550fdd87c5b57b922dbfd7a3e31e646ea83d276ee6a2488fb6eced4e5") false
    over (fun _ h => by cases h) (by kernel_rfl) (fun _ h => by cases h) netBlocks_row_tie rfl ⟨rfl, rfl⟩ (by kernel_rfl) rfl
    (fun f fn hf hfn => by
      obtain rfl : f = 3 := Option.some.inj ((show Tryd.prog.funcNamed "intervalmon/intervalmonlaw32.NetBlocks" = some 3 by kernel_rfl).symm.trans hf) |>.symm
      obtain rfl : fn = Tryd.f3 := (Option.some.inj (Tryd.func3.symm.trans hfn)).symm
      exact ⟨by kernel_rfl, fun j t ht => by
        rw [Tryd.params3] at ht
        have hm : t ∈ [22, 22, 22] := by simpa using Array.mem_of_getElem? ht
        have hall : ([22, 22, 22].all fun u => !Tryd.prog.wantsStandIn u) = true := by kernel_rfl
        exact (show Tryd.prog.wantsStandIn t = false by simpa using List.all_eq_true.1 hall t hm)⟩)
    (by kernel_rfl)
#print axioms proved
end Go.Proofs.YtgjjdlgbbgijgaaDoor.netBlocks
