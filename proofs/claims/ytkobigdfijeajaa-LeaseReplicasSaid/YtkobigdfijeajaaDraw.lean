/- A region that draws its order, walked once: quiet operations first, the others in their own order; behind each of these the floating quiet ones are asked again. No program in sight. -/
import Derived.Test.YtkobigdfijeajaaHops
import Derived.StillTail
set_option linter.unusedVariables false
set_option linter.unusedSimpArgs false
namespace Go.SL
section
variable {P : Program} {ops : Array Oper}
/-- in state a, in world w, the operation leaves v in its temporary and does nothing else -/
def YAt (P : Program) (ops : Array Oper) (o : Oper) (v : Value) (a : Act) (w : World) : Prop :=
  (Region.wanted o (yielded ops a.tmps) = true ∧ (execOp a.eval o).run P w = .ok (.value v) w) ∨ (Region.wanted o (yielded ops a.tmps) = false ∧ v = undef)
theorem YAt.of_same {o : Oper} {v : Value} {a a' : Act} {w : World} (h : YAt P ops o v a w) (he : execOp a'.eval o = execOp a.eval o)
    (hw : Region.wanted o (yielded ops a'.tmps) = Region.wanted o (yielded ops a.tmps)) : YAt P ops o v a' w := by
  unfold YAt at *
  rw [he, hw]; exact h
/-- only the normal end counts -/
def onlyN (K : Act → World → Prop) : Exit → Act → World → Prop
  | .normal, a, w => K a w
  | _, _, _ => False
theorem YAt.wpOp {i : Nat} {o : Oper} {v : Value} {a : Act} {w : World} {Q : Exit → Act → World → Prop} {K : Act → World → Prop} (hi : ops[i]? = some o) (hy : YAt P ops o v a w) (h : K (a.put o.dst v) w) : wpOp P ops Q i K a w := by
  unfold Go.wpOp
  simp only [hi]
  rcases hy with ⟨hw, hv⟩ | ⟨hw, rfl⟩
  · simp only [hw, if_true, Oper.wp, hv, Oper.upon]; exact .inl h
  · simp only [hw, Bool.false_eq_true, if_false]; exact h
theorem wp_post {o : Oper} {a : Act} {w : World} {K : Act → World → Prop} {Q0 Q : Exit → Act → World → Prop} (h0 : ∀ e a w, e ≠ .normal → ¬ Q0 e a w) (h : o.wp P a w K Q0) : o.wp P a w K Q := by
  have hp : ∀ c a w, ¬ Q0 (.panic c) a w := fun c a w => h0 _ a w (by simp)
  have hg : ∀ a w, ¬ Q0 .outgrown a w := fun a w => h0 _ a w (by simp)
  unfold Oper.wp at *
  generalize (execOp a.eval o).run P w = r at *
  cases r with
  | ok nx w' =>
    cases nx <;> simp only [Oper.upon] at h ⊢ <;> first
      | exact h
      | (refine Calls.mono h fun e w'' he => ?_; cases e <;> first | exact he | exact (hp _ _ _ he).elim | (obtain ⟨_, _, hh⟩ := he; exact (hg _ _ hh).elim))
  | halt x w' => cases x <;> simp only [Oper.upon] at h ⊢ <;> exact (hp _ _ _ h).elim
theorem onlyN_not {N : Act → World → Prop} : ∀ e a w, e ≠ .normal → ¬ onlyN N e a w := fun e a w hne h => by cases e <;> first | exact hne rfl | exact h
theorem wpOp_post {i : Nat} {a : Act} {w : World} {K : Act → World → Prop} {Q0 Q : Exit → Act → World → Prop} (h0 : ∀ e a w, e ≠ .normal → ¬ Q0 e a w) (h : wpOp P ops Q0 i K a w) : wpOp P ops Q i K a w := by
  unfold Go.wpOp at *
  cases ho : ops[i]? with
  | none => simp only [ho] at h ⊢; exact h
  | some o =>
    simp only [ho] at h ⊢
    split
    · rename_i hw
      simp only [hw, if_true] at h
      rcases h with h | ⟨_, _, _, hh⟩
      · exact .inl (wp_post h0 h)
      · exact (h0 _ _ _ (by simp) hh).elim
    · rename_i hw
      simp only [hw] at h
      exact h
/-- an operation that is apart from oi: it does the same where oi's value is not there yet -/
theorem wpOp_shift {j : Nat} {oi oj : Oper} {v : Value} {N K : Act → World → Prop} {a : Act} {w : World} (hj : ops[j]? = some oj) (hap : oi.apart ops oj = true) (hsj : ∀ cs b, oj.op ≠ .select cs b)
    (h : wpOp P ops (onlyN N) j K (a.put oi.dst v) w) : wpOp P ops (onlyN N) j (fun a' w' => K (a'.put oi.dst v) w' ∧ ∃ u, a'.tmps = (a.put oj.dst u).tmps) a w := by
  obtain ⟨h1, h2, h3⟩ := Oper.apart_spec hap
  unfold Go.wpOp at *
  simp only [hj] at *
  rw [wanted_put oj a oi.dst v h1] at h
  split
  · rename_i hw
    simp only [hw, if_true] at h
    rcases h with h | ⟨_, _, _, hh⟩
    case inr => exact hh.elim
    refine .inl ?_
    unfold Oper.wp at *
    rw [execOp_put oj hsj a oi.dst v h1] at h
    generalize (execOp a.eval oj).run P w = r at *
    cases r with
    | ok nx w' =>
      cases nx <;> simp only [Oper.upon] at h ⊢
      case value u => exact ⟨by rw [← Act.put_comm a v u h2]; exact h, u, rfl⟩
      case skip => exact ⟨by rw [← Act.put_comm a v undef h2]; exact h, _, rfl⟩
      case defer dd =>
        refine ⟨?_, undef, ?_⟩
        · rw [← Act.put_comm _ v undef h2, ← Act.put_defers]; exact h
        · cases oj.dst <;> rfl
      case enter f args =>
        refine Calls.mono h fun e w'' he => ?_
        cases e with
        | returned u => exact ⟨by rw [← Act.put_comm a v u h2]; exact he, u, rfl⟩
        | panicked c => exact he.elim
        | outgrown => exact he
      case row row args => exact Rows.mono h fun u w'' he => ⟨by rw [← Act.put_comm a v u h2]; exact he, u, rfl⟩
    | halt x w' => cases x <;> simp only [Oper.upon] at h ⊢; exact h.elim
  · rename_i hw
    simp only [hw] at h
    exact ⟨by rw [← Act.put_comm a v undef h2]; exact h, _, rfl⟩

/-! ### paths -/
def Closed (ops : Array Oper) (listed : Array Bool) : Prop :=
  ∀ (j : Nat) (oj : Oper), ops[j]? = some oj → listed.getD j false = true → ∀ e ∈ oj.after, Region.binds .any e = true → listed.getD e.on false = true
theorem Closed.set {listed : Array Bool} {i : Nat} (hc : Closed ops listed) (hi : i ∈ Region.ready .any ops listed) : Closed ops (listed.setIfInBounds i true) := by
  obtain ⟨_, oi, hoi, hall⟩ := mem_ready.1 hi
  intro j oj hj hl e he hb
  by_cases hij : i = j
  · subst hij
    have : oj = oi := Option.some.inj (hj.symm.trans hoi)
    subst this
    exact getD_set_true (hall e he hb)
  · rw [getD_set_ne false hij] at hl
    exact getD_set_true (hc j oj hj hl e he hb)

/-- 'bf k j': k must have come before j -/
def BfOk (ops : Array Oper) (bf : Nat → Nat → Bool) : Prop :=
  ∀ (listed : Array Bool), Closed ops listed → ∀ (k j : Nat) (oj : Oper), ops[j]? = some oj → (∀ e ∈ oj.after, Region.binds .any e = true → listed.getD e.on false = true) → bf k j = true → listed.getD k false = true
/-- a table of what comes before what, and its check -/
def tb (T : List (List Nat)) (k j : Nat) : Bool := (T.getD j []).contains k
def okT (ops : Array Oper) (T : List (List Nat)) : Bool := (List.range ops.size).all fun j => (T.getD j []).all fun k => match ops[j]? with
  | none => false
  | some oj => oj.after.any fun e => Region.binds .any e && decide (e.on < j) && (e.on == k || (T.getD e.on []).contains k)
theorem okT_ok {T : List (List Nat)} (h : okT ops T = true) : BfOk ops (tb T) := by
  intro listed hc k j
  induction j using Nat.strongRecOn with
  | _ j ih =>
    intro oj hj hall hk
    have hlt : j < ops.size := (Array.getElem?_eq_some_iff.1 hj).1
    have h1 := List.all_eq_true.1 h j (List.mem_range.2 hlt)
    have h2 := List.all_eq_true.1 h1 k (by simpa [tb] using hk)
    simp only [hj] at h2
    obtain ⟨e, he, hb⟩ := Array.any_eq_true'.1 h2
    simp only [Bool.and_eq_true, Bool.or_eq_true, beq_iff_eq, decide_eq_true_eq] at hb
    have hl := hall e he hb.1.1
    rcases hb.2 with h3 | h3
    · rw [← h3]; exact hl
    · have hlt2 : e.on < ops.size := by omega
      have ho : ops[e.on]? = some ops[e.on] := Array.getElem?_eq_getElem hlt2
      exact ih e.on hb.1.2 ops[e.on] ho (hc e.on _ ho hl) h3

/-! ### every order, with what is to be asked again -/
def slotV (a : Act) : Option Nat → Value
  | some d => a.tmps.getD d undef
  | none => undef
/-- the quiet ones R that need not have come before j are asked again -/
def Rech (P : Program) (ops : Array Oper) (bf : Nat → Nat → Bool) (R : List Nat) (j : Nat) (a : Act) (w : World) : Prop :=
  ∀ k ∈ R, bf k j = false → ∀ o, ops[k]? = some o → YAt P ops o (slotV a o.dst) a w
def wpAnyR (P : Program) (ops : Array Oper) (bf : Nat → Nat → Bool) (qk : Nat → Bool) (N : Act → World → Prop) (R : List Nat) : Nat → Array Bool → Act → World → Prop
  | 0, listed, a, w => Region.ready .any ops listed = [] ∧ N a w
  | fuel + 1, listed, a, w =>
    (Region.ready .any ops listed = [] → N a w) ∧
    ∀ j ∈ Region.ready .any ops listed,
      if qk j = true then ∃ o u, ops[j]? = some o ∧ YAt P ops o u a w ∧ wpAnyR P ops bf qk N R fuel (listed.setIfInBounds j true) (a.put o.dst u) w
      else wpOp P ops (onlyN N) j (fun a' w' => Rech P ops bf R j a' w' ∧ wpAnyR P ops bf qk N R fuel (listed.setIfInBounds j true) a' w') a w
theorem wpAny_of_R {bf : Nat → Nat → Bool} {qk : Nat → Bool} {N : Act → World → Prop} {R : List Nat} {Q : Exit → Act → World → Prop} (hQ : ∀ a w, N a w → Q .normal a w) : ∀ (fuel : Nat) (listed : Array Bool) (a : Act) (w : World),
    wpAnyR P ops bf qk N R fuel listed a w → wpAny P .any ops Q fuel listed a w
  | 0, _, _, _, h => ⟨h.1, hQ _ _ h.2⟩
  | fuel + 1, listed, a, w, h => ⟨fun h0 => hQ _ _ (h.1 h0), fun j hj => by
      have h1 := h.2 j hj
      by_cases hq : qk j = true
      · rw [if_pos hq] at h1
        obtain ⟨o, u, ho, hy, hk⟩ := h1
        exact hy.wpOp ho (wpAny_of_R hQ fuel _ _ _ hk)
      · rw [if_neg hq] at h1
        exact wpOp_mono (fun a' w' hh => wpAny_of_R hQ fuel _ a' w' hh.2) (wpOp_post onlyN_not h1)⟩
/-- the temporary of k is neither read nor written by i's *result*: i's result may be put in or taken out -/
def fwdOk (ops : Array Oper) (i k : Oper) : Bool := match i.dst with
  | some d => !(k.looksAt ops).contains d && k.dst != some d
  | none => true
theorem fwdOk_spec {i k : Oper} (h : fwdOk ops i k = true) : (∀ d, i.dst = some d → d ∉ k.looksAt ops) ∧ (∀ d, i.dst = some d → k.dst ≠ some d) := by
  refine ⟨fun d hd => ?_, fun d hd => ?_⟩ <;> simp [fwdOk, hd] at h
  · exact h.1
  · exact h.2
theorem slotV_put {a : Act} {x y : Option Nat} (v : Value) (h : ∀ d, x = some d → y ≠ some d) : slotV (a.put x v) y = slotV a y := by
  cases x with
  | none => rfl
  | some d =>
    cases y with
    | none => rfl
    | some e =>
      have hne : d ≠ e := fun he => h d rfl (he ▸ rfl)
      simp [slotV, Act.put, Array.getElem?_setIfInBounds_ne hne]
theorem YAt_unput {k : Oper} {a : Act} {x : Option Nat} {v u : Value} {w : World} (hs : ∀ cs b, k.op ≠ .select cs b) (h : ∀ d, x = some d → d ∉ k.looksAt ops) (hy : YAt P ops k u (a.put x v) w) : YAt P ops k u a w :=
  hy.of_same (execOp_put k hs a x v h).symm (wanted_put k a x v h).symm
theorem YAt_put {k : Oper} {a : Act} {x : Option Nat} {v u : Value} {w : World} (hs : ∀ cs b, k.op ≠ .select cs b) (h : ∀ d, x = some d → d ∉ k.looksAt ops) (hy : YAt P ops k u a w) : YAt P ops k u (a.put x v) w :=
  hy.of_same (execOp_put k hs a x v h) (wanted_put k a x v h)
theorem wpAnyR_first {bf : Nat → Nat → Bool} (hbfo : BfOk ops bf) {qk : Nat → Bool} {N : Act → World → Prop} {R : List Nat} {i : Nat} {oi : Oper} {v : Value} (hi : ops[i]? = some oi) (hq : qk i = true) (hsel : ∀ (j : Nat) (o : Oper) cs b, ops[j]? = some o → o.op ≠ .select cs b)
    (hdst : oi.dst.isSome = true) (hself : ∀ d, oi.dst = some d → d ∉ oi.looksAt ops) (hR : ∀ k ∈ R, ∀ o, ops[k]? = some o → fwdOk ops oi o = true) :
    ∀ (fuel : Nat) (listed : Array Bool) (a : Act) (w : World), Closed ops listed → (∀ d, oi.dst = some d → d < a.tmps.size) →
      (∀ j oj, ops[j]? = some oj → j ≠ i → listed.getD j true = false → (∀ e ∈ oj.after, Region.binds .any e = true → e.on ≠ i) → oi.apart ops oj = true) →
      i ∈ Region.ready .any ops listed → YAt P ops oi v a w →
      wpAnyR P ops bf qk N (i :: R) fuel (listed.setIfInBounds i true) (a.put oi.dst v) w → wpAnyR P ops bf qk N R (fuel + 1) listed a w := by
  intro fuel
  -- what is asked again of 'i :: R' serves for R
  have weaken : ∀ (fuel : Nat) (listed : Array Bool) (a : Act) (w : World), wpAnyR P ops bf qk N (i :: R) fuel listed a w → wpAnyR P ops bf qk N R fuel listed a w := by
    intro fuel
    induction fuel with
    | zero => intro listed a w h; exact h
    | succ fuel ih =>
      intro listed a w h
      refine ⟨h.1, fun j hj => ?_⟩
      have h1 := h.2 j hj
      by_cases hqj : qk j = true
      · rw [if_pos hqj] at h1 ⊢
        obtain ⟨o, u, ho, hy, hk⟩ := h1
        exact ⟨o, u, ho, hy, ih _ _ _ hk⟩
      · rw [if_neg hqj] at h1 ⊢
        exact wpOp_mono (fun a' w' hh => ⟨fun k hk => hh.1 k (List.mem_cons_of_mem _ hk), ih _ _ _ hh.2⟩) h1
  induction fuel with
  | zero =>
    intro listed a w _ _ _ hr hy H
    refine ⟨fun h => (by rw [h] at hr; cases hr), fun j hj => ?_⟩
    by_cases hji : j = i
    · subst hji; rw [if_pos hq]; exact ⟨oi, v, hi, hy, H⟩
    · have := ready_mono hj hji
      rw [H.1] at this
      cases this
  | succ fuel ih =>
    intro listed a w hcl hsz hfree hr hy H
    refine ⟨fun h => (by rw [h] at hr; cases hr), fun j hj => ?_⟩
    by_cases hji : j = i
    · subst hji; rw [if_pos hq]; exact ⟨oi, v, hi, hy, weaken _ _ _ _ H⟩
    · have h1 := H.2 j (ready_mono hj hji)
      obtain ⟨hjun, oj, hoj, hall⟩ := mem_ready.1 hj
      have hun := (mem_ready.1 hr).1
      have hnl : listed.getD i false = false := by
        rcases Nat.lt_or_ge i listed.size with h' | h'
        · simp [h'] at hun ⊢; exact hun
        · simp [Array.getElem?_eq_none h']
      have hnot : ∀ e ∈ oj.after, Region.binds .any e = true → e.on ≠ i := fun e he hb heq => by
        have h1 := hall e he hb
        rw [heq, hnl] at h1; cases h1
      have hap := hfree j oj hoj hji hjun hnot
      obtain ⟨ap1, ap2, ap3⟩ := Oper.apart_spec hap
      have hfree' : ∀ k ok, ops[k]? = some ok → k ≠ i → (listed.setIfInBounds j true).getD k true = false →
          (∀ e ∈ ok.after, Region.binds .any e = true → e.on ≠ i) → oi.apart ops ok = true := fun k ok hk hki hunk hno => by
        refine hfree k ok hk hki ?_ hno
        by_cases hjk : j = k
        · subst hjk; exact hjun
        · rw [getD_set_ne true hjk] at hunk; exact hunk
      have hbf : bf i j = false := by
        cases hb : bf i j with
        | false => rfl
        | true => have := hbfo listed hcl i j oj hoj hall hb; rw [hnl] at this; cases this
      by_cases hqj : qk j = true
      · rw [if_pos hqj] at h1 ⊢
        obtain ⟨o, u, ho, hyj, hk⟩ := h1
        have : o = oj := Option.some.inj (ho.symm.trans hoj)
        subst this
        refine ⟨o, u, ho, YAt_unput (fun cs b => hsel j o cs b ho) ap1 hyj, ?_⟩
        refine ih (listed.setIfInBounds j true) (a.put o.dst u) w (hcl.set hj) (by cases o.dst <;> simpa [Act.put] using hsz) hfree' (ready_mono hr (Ne.symm hji)) (YAt_put (fun cs b => hsel i oi cs b hi) ap3 hy) ?_
        rw [Array.setIfInBounds_comm _ _ hji, ← Act.put_comm a v u ap2]
        exact hk
      · rw [if_neg hqj] at h1 ⊢
        refine wpOp_mono (fun a' w' hh => ?_) (wpOp_shift hoj hap (fun cs b => hsel j oj cs b hoj) h1)
        obtain ⟨⟨hre, hk⟩, u, hu⟩ := hh
        have hsz' : ∀ d, oi.dst = some d → d < a'.tmps.size := by
          intro d hd
          rw [hu]
          cases oj.dst <;> simpa [Act.put] using hsz d hd
        have hval : slotV (a'.put oi.dst v) oi.dst = v := by
          cases hd : oi.dst with
          | none => rw [hd] at hdst; cases hdst
          | some d => simp [slotV, Act.put, hsz' d hd]
        have hyi : YAt P ops oi v a' w' := by
          have h2 := hre i (List.mem_cons_self) hbf oi hi
          rw [hval] at h2
          exact YAt_unput (fun cs b => hsel i oi cs b hi) hself h2
        refine ⟨fun k hkR hb o ho => ?_, ih (listed.setIfInBounds j true) a' w' (hcl.set hj) hsz' hfree' (ready_mono hr (Ne.symm hji)) hyi ?_⟩
        · have h2 := hre k (List.mem_cons_of_mem _ hkR) hb o ho
          obtain ⟨f1, f2⟩ := fwdOk_spec (hR k hkR o ho)
          rw [slotV_put v f2] at h2
          exact YAt_unput (fun cs b => hsel k o cs b ho) f1 h2
        · rw [Array.setIfInBounds_comm _ _ hji]
          exact hk

/-! ### one order -/
abbrev Ord := List (Nat × Bool × List Nat)
def wO (P : Program) (ops : Array Oper) (n : Nat) (N : Act → World → Prop) : Ord → Act → World → Prop
  | [], a, w => N a w
  | (i, true, _) :: r, a, w => ∃ o v, ops[i]? = some o ∧ YAt P ops o v a w ∧ wO P ops n N r (a.put o.dst v) w
  | (i, false, fl) :: r, a, w => wpOp P ops (onlyN N) i (fun a' w' => a'.tmps.size = n ∧ (∀ k ∈ fl, ∀ o, ops[k]? = some o → YAt P ops o (slotV a' o.dst) a' w') ∧ wO P ops n N r a' w') a w
def qkOf (r : Ord) (i : Nat) : Bool := r.any fun x => x.1 == i && x.2.1
/-- of the pending ones, those that need not have come before every one that is left -/
def keepP (ops : Array Oper) (bf : Nat → Nat → Bool) (listed : Array Bool) (pend : List Nat) : List Nat := pend.filter fun k => !((List.range ops.size).all fun j => listed.getD j true || bf k j)
theorem wpAnyR_drop {bf : Nat → Nat → Bool} {qk : Nat → Bool} {N : Act → World → Prop} {R R' : List Nat} : ∀ (fuel : Nat) (listed : Array Bool) (a : Act) (w : World),
    (∀ k ∈ R, k ∈ R' ∨ ∀ j, j < ops.size → listed.getD j true = false → bf k j = true) → wpAnyR P ops bf qk N R' fuel listed a w → wpAnyR P ops bf qk N R fuel listed a w
  | 0, _, _, _, _, h => h
  | fuel + 1, listed, a, w, hR, h => by
    refine ⟨h.1, fun j hj => ?_⟩
    have h1 := h.2 j hj
    obtain ⟨hun, o, ho, _⟩ := mem_ready.1 hj
    have hlt : j < ops.size := (Array.getElem?_eq_some_iff.1 ho).1
    have hR' : ∀ k ∈ R, k ∈ R' ∨ ∀ i, i < ops.size → (listed.setIfInBounds j true).getD i true = false → bf k i = true := by
      intro k hk
      rcases hR k hk with h | h
      · exact .inl h
      · refine .inr fun i hi hl => h i hi ?_
        by_cases hij : j = i
        · subst hij; exact hun
        · rw [getD_set_ne true hij] at hl; exact hl
    by_cases hqj : qk j = true
    · rw [if_pos hqj] at h1 ⊢
      obtain ⟨o, u, ho, hy, hk⟩ := h1
      exact ⟨o, u, ho, hy, wpAnyR_drop fuel _ _ _ hR' hk⟩
    · rw [if_neg hqj] at h1 ⊢
      refine wpOp_mono (fun a' w' hh => ⟨fun k hk hb => ?_, wpAnyR_drop fuel _ _ _ hR' hh.2⟩) h1
      rcases hR k hk with h | h
      · exact hh.1 k h hb
      · rw [h j hlt hun] at hb; cases hb
theorem keepP_spec {bf : Nat → Nat → Bool} {listed : Array Bool} {R : List Nat} : ∀ k ∈ R, k ∈ keepP ops bf listed R ∨ ∀ j, j < ops.size → listed.getD j true = false → bf k j = true := by
  intro k hk
  by_cases h : ((List.range ops.size).all fun j => listed.getD j true || bf k j) = true
  · right
    intro j hj hl
    have := List.all_eq_true.1 h j (List.mem_range.2 hj)
    rw [hl] at this
    simpa using this
  · left
    exact List.mem_filter.2 ⟨hk, by simpa using h⟩
def chk (ops : Array Oper) (bf : Nat → Nat → Bool) (n : Nat) (qk : Nat → Bool) : Ord → Array Bool → List Nat → Bool
  | [], listed, _ => (Region.ready .any ops listed).isEmpty
  | (i, true, _) :: r, listed, pend => (Region.ready .any ops listed).contains i && Region.free .any ops listed i && qk i &&
      (match ops[i]? with
       | some oi => (match oi.dst with | some d => decide (d < n) && !(oi.looksAt ops).contains d | none => false) && (keepP ops bf listed pend).all (fun k => match ops[k]? with | some o => fwdOk ops oi o | none => true)
       | none => false) && chk ops bf n qk r (listed.setIfInBounds i true) (i :: keepP ops bf listed pend)
  | (i, false, fl) :: r, listed, pend => (Region.ready .any ops listed == [i]) && !qk i && pend.all (fun k => bf k i || fl.contains k) && chk ops bf n qk r (listed.setIfInBounds i true) pend
theorem put_size (a : Act) (x : Option Nat) (v : Value) : (a.put x v).tmps.size = a.tmps.size := by cases x <;> simp [Act.put]
theorem wO_R {bf : Nat → Nat → Bool} (hbfo : BfOk ops bf) {n : Nat} {qk : Nat → Bool} {N : Act → World → Prop} (hsel : Region.noSelect ops = true) : ∀ (r : Ord) (listed : Array Bool) (R : List Nat) (a : Act) (w : World), chk ops bf n qk r listed R = true → Closed ops listed → a.tmps.size = n →
    wO P ops n N r a w → wpAnyR P ops bf qk N R r.length listed a w
  | [], listed, R, a, w, hc, _, _, h => ⟨by simpa [chk] using hc, h⟩
  | (i, true, fl) :: r, listed, R, a, w, hc, hcl, hsz, h => by
    obtain ⟨o, v, ho, hy, hk⟩ := h
    simp only [chk, ho, Bool.and_eq_true] at hc
    obtain ⟨⟨⟨⟨c1, c2⟩, c3⟩, c4, c5⟩, c6⟩ := hc
    cases hd : o.dst with
    | none => rw [hd] at c4; cases c4
    | some d =>
      rw [hd] at c4
      simp only [Bool.and_eq_true, decide_eq_true_eq, Bool.not_eq_true'] at c4
      have hr : i ∈ Region.ready .any ops listed := by simpa using c1
      refine wpAnyR_drop (R' := keepP ops bf listed R) _ _ _ _ keepP_spec ?_
      refine wpAnyR_first hbfo ho c3 (Region.noSelect_spec hsel) (by rw [hd]; rfl) ?_ ?_ r.length listed a w hcl ?_ (Region.free_spec ho c2) hr hy ?_
      · intro d' hd'
        rw [hd] at hd'; cases hd'
        simpa using c4.2
      · intro k hk o' ho'
        have := List.all_eq_true.1 c5 k hk
        simp only [ho'] at this
        exact this
      · intro d' hd'
        rw [hd] at hd'; cases hd'
        rw [hsz]; exact c4.1
      · exact wO_R hbfo hsel r _ (i :: keepP ops bf listed R) _ w c6 (hcl.set hr) (by rw [put_size]; exact hsz) hk
  | (i, false, fl) :: r, listed, R, a, w, hc, hcl, hsz, h => by
    simp only [chk, Bool.and_eq_true] at hc
    obtain ⟨⟨⟨c1, c2⟩, c3⟩, c4⟩ := hc
    have hr : Region.ready .any ops listed = [i] := by simpa using c1
    refine ⟨fun h0 => (by rw [hr] at h0; cases h0), fun j hj => ?_⟩
    have hji : j = i := by rw [hr] at hj; simpa using hj
    subst hji
    have hq : ¬ qk j = true := by simpa using c2
    rw [if_neg hq]
    refine wpOp_mono (fun a' w' hh => ⟨fun k hk hb o ho => ?_, wO_R hbfo hsel r _ R a' w' c4 (hcl.set hj) hh.1 hh.2.2⟩) h
    have := List.all_eq_true.1 c3 k hk
    rw [hb] at this
    exact hh.2.1 k (by simpa using this) o ho
end

/-! ### the same over short frames -/
section
variable {P : Program} {n : Nat} {ops : Array Oper} {Q : Post} {l : Fr} {w : World}
/-- operations that yield a value or do not return -/
def vk : Op → Bool
  | .move _ | .assign _ | .pick .. | .load .. | .nilCheck _ | .binOp .. | .unOp .. | .convert .. | .fieldAddr .. | .field .. | .indexAddr .. | .index .. | .slice .. | .extract .. | .lookup .. | .build .. => true
  | .call { callee := .builtin .len, .. } | .call { callee := .builtin .min, .. } | .call { callee := .builtin .max, .. } => true
  | _ => false
theorem andThen_inv {α β : Type} {r : Result α} {f : α → World → Result β} {b : β} {w' : World} (h : r.andThen f = .ok b w') : ∃ a w1, r = .ok a w1 ∧ f a w1 = .ok b w' := by
  cases r with
  | ok a w1 => exact ⟨a, w1, rfl, h⟩
  | halt x w1 => simp [Result.andThen] at h
theorem vk_value {o : Oper} {ρ : Operand → Value} {nx : Next} {w' : World} (hv : vk o.op = true) (h : (execOp ρ o).run P w = .ok nx w') : ∃ v, nx = .value v := by
  have key : ∀ (s : Sem Value), (do pure (Next.value (← s)) : Sem Next).run P w = .ok nx w' → ∃ v, nx = .value v := by
    intro s hs
    simp only [Sem.run_bind] at hs
    cases hr : s.run P w with
    | ok a w1 => rw [hr] at hs; simp at hs; exact ⟨a, hs.1.symm⟩
    | halt x w1 => rw [hr] at hs; simp [Result.andThen] at hs
  obtain ⟨dst, op, ty, pos, aft, gd⟩ := o
  cases op <;> simp only [vk, Bool.false_eq_true] at hv <;> simp only [execOp] at h
  case move x => simp at h; exact ⟨_, h.1.symm⟩
  case assign x => simp at h; exact ⟨_, h.1.symm⟩
  case pick c a b =>
    simp only [Sem.run_bind] at h
    cases hr : (asBool (ρ c)).run P w with
    | ok a w1 => rw [hr] at h; simp at h; exact ⟨_, h.1.symm⟩
    | halt x w1 => rw [hr] at h; simp [Result.andThen] at h
  case nilCheck x =>
    have hp : ∀ (e : RuntimeError), e = .nilDeref → (runtimePanic e : Sem Next).run P w ≠ .ok nx w' := by
      rintro e rfl
      simp [runtimePanic, program, goPanic, Sem.run, Bind.bind, Sem.bind]
    split at h
    · exact (hp _ rfl h).elim
    · exact (hp _ rfl h).elim
    · exact (hp _ rfl h).elim
    · split at h
      · exact (hp _ rfl h).elim
      · simp only [Sem.run_bind] at h
        obtain ⟨a1, w1, _, h⟩ := andThen_inv h
        obtain ⟨a2, w2, _, h⟩ := andThen_inv h
        by_cases hb : (a2 != some false) = true
        · rw [if_pos hb, Sem.run_bind] at h
          obtain ⟨a3, w3, h3, _⟩ := andThen_inv h
          simp [unsupported, Sem.run] at h3
        · rw [if_neg hb] at h; simp at h; exact ⟨_, h.1.symm⟩
      · simp at h; exact ⟨_, h.1.symm⟩
    · simp at h; exact ⟨_, h.1.symm⟩
  case call c =>
    obtain ⟨callee, args, ts⟩ := c
    cases callee with
    | value f => simp at hv
    | invoke r m => simp at hv
    | builtin b =>
      cases b <;> simp at hv <;> (simp only [resolve, Sem.run_bind, Sem.run_pure, Result.andThen_ok, invoke, builtin] at h; (obtain ⟨a1, w1, _, h⟩ := andThen_inv h; simp at h; exact ⟨_, h.1.symm⟩))
  all_goals exact key _ h
def qq (M : Fr → World → Prop) : Post
  | .normal, l, w => M l w
  | _, _, _ => False
theorem lift_qq_not {M : Fr → World → Prop} {D : List Deferred} : ∀ e a w, e ≠ .normal → ¬ lift n (qq M) D e a w := fun e a w hne ⟨l, _, h⟩ => by cases e <;> first | exact hne rfl | exact h
theorem WL_single {o : Oper} {M : Fr → World → Prop} {a : Act} (hv : vk o.op = true) (h : WL P n ops (qq M) [o] l w) (ha : Agr n l a) :
    ∃ v w', ((Region.wanted o (yielded ops a.tmps) = true ∧ (execOp a.eval o).run P w = .ok (.value v) w') ∨ (Region.wanted o (yielded ops a.tmps) = false ∧ v = undef ∧ w' = w)) ∧ ∃ l', Agr n l' (a.put o.dst v) ∧ M l' w' := by
  have h1 := h a ha
  simp only [wpList] at h1
  by_cases hw : Region.wanted o (yielded ops a.tmps) = true
  · rw [if_pos hw] at h1
    rcases h1 with h1 | ⟨_, _, _, hh⟩
    case inr => exact (lift_qq_not _ _ _ (by simp) hh).elim
    unfold Oper.wp at h1
    cases hr : (execOp a.eval o).run P w with
    | ok nx w' =>
      obtain ⟨v, rfl⟩ := vk_value hv hr
      rw [hr] at h1
      simp only [Oper.upon] at h1
      obtain ⟨l', h2, h3⟩ := h1
      exact ⟨v, w', .inl ⟨hw, rfl⟩, l', h2.1, h3⟩
    | halt x w' =>
      rw [hr] at h1
      cases x <;> simp only [Oper.upon] at h1
      exact (lift_qq_not _ _ _ (by simp) h1).elim
  · rw [if_neg hw] at h1
    obtain ⟨l', h2, h3⟩ := h1
    exact ⟨undef, w, .inr ⟨by simpa using hw, rfl, rfl⟩, l', h2.1, h3⟩
/-- the quiet one k yields, in this frame and world, what its slot holds -/
def Rek (P : Program) (n : Nat) (ops : Array Oper) (k : Nat) (l : Fr) (w : World) : Prop :=
  ∃ o d v, ops[k]? = some o ∧ vk o.op = true ∧ o.dst = some d ∧ get l d = some v ∧ WL P n ops (qq fun l' w' => w' = w ∧ get l' d = some v) [o] l w
def Reks (P : Program) (n : Nat) (ops : Array Oper) : List Nat → Fr → World → Prop
  | [], _, _ => True
  | k :: r, l, w => Rek P n ops k l w ∧ Reks P n ops r l w
def WD (P : Program) (n : Nat) (ops : Array Oper) (Q : Post) : Ord → Fr → World → Prop
  | [], l, w => Q .normal l w
  | (i, true, _) :: r, l, w => ∃ o, ops[i]? = some o ∧ vk o.op = true ∧ WL P n ops (qq fun l' w' => w' = w ∧ WD P n ops Q r l' w) [o] l w
  | (i, false, fl) :: r, l, w => ∃ o, ops[i]? = some o ∧ WL P n ops (qq fun l' w' => Reks P n ops fl l' w' ∧ WD P n ops Q r l' w') [o] l w
theorem Reks.mem {k : Nat} : ∀ {fl : List Nat}, Reks P n ops fl l w → k ∈ fl → Rek P n ops k l w
  | _ :: _, h, hm => by
    rcases List.mem_cons.1 hm with rfl | hm
    · exact h.1
    · exact Reks.mem h.2 hm
theorem Rek.yat {k : Nat} {a : Act} (h : Rek P n ops k l w) (ha : Agr n l a) : ∀ o, ops[k]? = some o → YAt P ops o (slotV a o.dst) a w := by
  intro o ho
  obtain ⟨o', d, v, ho', hvk, hd, hg, hw⟩ := h
  have : o' = o := Option.some.inj (ho'.symm.trans ho)
  subst this
  obtain ⟨u, w', hy, l', hl', hw', hgl⟩ := WL_single hvk hw ha
  have h1 := ha.vals d v hg
  have h2 := hl'.vals d v hgl
  have hlt : d < a.tmps.size := (Array.getElem?_eq_some_iff.1 h1).1
  have huv : u = v := by
    rw [hd] at h2
    simpa [Act.put, hlt] using h2
  have hs : slotV a o'.dst = v := by rw [hd]; simp [slotV, h1]
  rw [hs]
  subst huv
  subst hw'
  rcases hy with ⟨y1, y2⟩ | ⟨y1, y2, _⟩
  · exact .inl ⟨y1, y2⟩
  · exact .inr ⟨y1, y2⟩
theorem put_dfs (a : Act) (x : Option Nat) (v : Value) : (a.put x v).defers = a.defers := by cases x <;> rfl
theorem WD_wO {D : List Deferred} : ∀ (r : Ord) (l : Fr) (w : World) (a : Act), Agr n l a → a.defers = D → WD P n ops Q r l w → wO P ops n (fun a w => lift n Q D .normal a w) r a w
  | [], l, w, a, ha, hD, h => ⟨l, ⟨ha, hD⟩, h⟩
  | (i, true, fl) :: r, l, w, a, ha, hD, h => by
    obtain ⟨o, ho, hvk, hw⟩ := h
    obtain ⟨v, w', hy, l', hl', hw', hk⟩ := WL_single hvk hw ha
    subst hw'
    refine ⟨o, v, ho, ?_, WD_wO r l' _ _ hl' ((put_dfs _ _ _).trans hD) hk⟩
    rcases hy with ⟨y1, y2⟩ | ⟨y1, y2, _⟩
    · exact .inl ⟨y1, y2⟩
    · exact .inr ⟨y1, y2⟩
  | (i, false, fl) :: r, l, w, a, ha, hD, h => by
    obtain ⟨o, ho, hw⟩ := h
    have h1 := hw a ha
    rw [hD] at h1
    have h2 : wpOp P ops (lift n (qq fun l' w' => Reks P n ops fl l' w' ∧ WD P n ops Q r l' w') D) i (fun a' w' => lift n (qq fun l' w' => Reks P n ops fl l' w' ∧ WD P n ops Q r l' w') D .normal a' w') a w := by
      unfold wpOp
      simp only [ho]
      simp only [wpList] at h1
      exact h1
    refine wpOp_mono (fun a' w' hh => ?_) (wpOp_post lift_qq_not h2)
    obtain ⟨l', ⟨hl', hD'⟩, hre, hk⟩ := hh
    exact ⟨hl'.size, fun k hkm o' ho' => (hre.mem hkm).yat hl' o' ho', WD_wO r l' w' a' hl' hD' hk⟩
/-- THE RULE: a region that draws its order, in the one order 'r' -/
theorem W_draw {id : Nat} {os : List Oper} (r : Ord) (T : List (List Nat)) (hm : P.follows .mixedOrders = true) (hc : (Region.noSelect os.toArray && (r.length == os.toArray.size) && okT os.toArray T && chk os.toArray (tb T) n (qkOf r) r (Array.replicate os.toArray.size false) []) = true)
    (h : ∀ w', w'.heap = w.heap → w'.os = w.os → w'.tape = w.tape → w'.output = w.output → WD P n os.toArray Q r l w') : W P n (.region id os.toArray true) Q l w := by
  intro a ha
  simp only [Bool.and_eq_true, beq_iff_eq] at hc
  obtain ⟨⟨⟨c1, c2⟩, c0⟩, c3⟩ := hc
  refine wp_region_any hm ?_
  have hcl : Closed os.toArray (Array.replicate os.toArray.size false) := by
    intro j oj hj hl
    rw [getD_replicate_false] at hl; cases hl
  have h1 := wO_R (okT_ok c0) c1 r _ [] a _ c3 hcl ha.size (WD_wO r l { w with drawn := w.drawn + 1 } a ha rfl (h _ rfl rfl rfl rfl))
  rw [c2] at h1
  exact wpAny_of_R (fun a w hh => hh) _ _ _ _ h1
theorem St.redrawn {F : List Nat} {w0 w w' : World} {L : Hp} (h : St F w0 w L) (h1 : w'.heap = w.heap) (h2 : w'.os = w.os) (h3 : w'.tape = w.tape) (h4 : w'.output = w.output) : St F w0 w' L :=
  ⟨⟨h2.trans h.fwd.os, h3.trans h.fwd.tape, h4.trans h.fwd.output, by rw [h1]; exact h.fwd.size, fun k hk hF => by rw [h1]; exact h.fwd.block k hk hF⟩, h.nodup, fun p hp => by rw [h1]; exact h.own p hp, h.new⟩
theorem D_nil (h : Q .normal l w) : WD P n ops Q [] l w := h
theorem D_q {i : Nat} {o : Oper} {r : Ord} {fl : List Nat} (ho : ops[i]? = some o) (hv : vk o.op = true) (h : WL P n ops (qq fun l' w' => w' = w ∧ WD P n ops Q r l' w) [o] l w) : WD P n ops Q ((i, true, fl) :: r) l w := ⟨o, ho, hv, h⟩
theorem D_qn {r : Ord} (h : WD P n ops Q r l w) : WL P n ops (qq fun l' w' => w' = w ∧ WD P n ops Q r l' w) [] l w := WL_nil ⟨rfl, h⟩
theorem D_e {i : Nat} {o : Oper} {r : Ord} {fl : List Nat} (ho : ops[i]? = some o) (h : WL P n ops (qq fun l' w' => Reks P n ops fl l' w' ∧ WD P n ops Q r l' w') [o] l w) : WD P n ops Q ((i, false, fl) :: r) l w := ⟨o, ho, h⟩
theorem D_en {r : Ord} {fl : List Nat} (hr : Reks P n ops fl l w) (h : WD P n ops Q r l w) : WL P n ops (qq fun l' w' => Reks P n ops fl l' w' ∧ WD P n ops Q r l' w') [] l w := WL_nil ⟨hr, h⟩
theorem Reks_nil : Reks P n ops [] l w := trivial
theorem Reks_cons {k d : Nat} {o : Oper} {v : Value} {fl : List Nat} (ho : ops[k]? = some o) (hv : vk o.op = true) (hd : o.dst = some d) (hg : get l d = some v) (hw : WL P n ops (qq fun l' w' => w' = w ∧ get l' d = some v) [o] l w)
    (hr : Reks P n ops fl l w) : Reks P n ops (k :: fl) l w := ⟨⟨o, d, v, ho, hv, hd, hg, hw⟩, hr⟩
theorem Rek_end {d : Nat} {v : Value} (h : get l d = some v) : WL P n ops (qq fun l' w' => w' = w ∧ get l' d = some v) [] l w := WL_nil ⟨rfl, h⟩
end
end Go.SL
