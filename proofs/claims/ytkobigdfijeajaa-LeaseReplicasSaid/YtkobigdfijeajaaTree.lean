/- A region that draws its order where several operations that change memory may come next: every choice is walked. No program in sight. -/
import Derived.Test.YtkobigdfijeajaaDraw
set_option linter.unusedVariables false
set_option linter.unusedSimpArgs false
namespace Go.SL
inductive OT where
  | nil : OT
  | q : Nat → OT → OT
  | e : Nat → List Nat → OT → OT → OT
namespace OT
def len : OT → Nat
  | nil => 0
  | q _ r => r.len + 1
  | e _ _ r _ => r.len + 1
def heads : OT → List Nat
  | nil => []
  | q _ _ => []
  | e i _ _ alt => i :: alt.heads
def isNil : OT → Bool
  | nil => true
  | _ => false
end OT
section
variable {P : Program} {ops : Array Oper}
def wT (P : Program) (ops : Array Oper) (n : Nat) (N : Act → World → Prop) : Bool → OT → Act → World → Prop
  | b, .nil, a, w => b = true ∨ N a w
  | _, .q i r, a, w => ∃ o v, ops[i]? = some o ∧ YAt P ops o v a w ∧ wT P ops n N false r (a.put o.dst v) w
  | _, .e i fl r alt, a, w => wpOp P ops (onlyN N) i (fun a' w' => a'.tmps.size = n ∧ (∀ k ∈ fl, ∀ o, ops[k]? = some o → YAt P ops o (slotV a' o.dst) a' w') ∧ wT P ops n N false r a' w') a w ∧ wT P ops n N true alt a w
def chkT (ops : Array Oper) (bf : Nat → Nat → Bool) (n : Nat) (qk : Nat → Bool) : Bool → OT → Array Bool → List Nat → Bool
  | b, .nil, listed, _ => b || (Region.ready .any ops listed).isEmpty
  | b, .q i r, listed, pend => !b && (Region.ready .any ops listed).contains i && Region.free .any ops listed i && qk i &&
      (match ops[i]? with
       | some oi => (match oi.dst with | some d => decide (d < n) && !(oi.looksAt ops).contains d | none => false) && (keepP ops bf listed pend).all (fun k => match ops[k]? with | some o => fwdOk ops oi o | none => true)
       | none => false) && chkT ops bf n qk false r (listed.setIfInBounds i true) (i :: keepP ops bf listed pend)
  | b, .e i fl r alt, listed, pend => (b || ((Region.ready .any ops listed).all (fun j => (i :: alt.heads).contains j) && !(Region.ready .any ops listed).isEmpty)) && !qk i && (Region.ready .any ops listed).contains i && pend.all (fun k => bf k i || fl.contains k) &&
      chkT ops bf n qk false r (listed.setIfInBounds i true) pend && (alt.isNil || alt.len == r.len + 1) && chkT ops bf n qk true alt listed pend
theorem chain {bf : Nat → Nat → Bool} {n : Nat} {qk : Nat → Bool} {N : Act → World → Prop} {listed : Array Bool} {R : List Nat} {a : Act} {w : World} {j m : Nat} : ∀ (t : OT) (b : Bool), chkT ops bf n qk b t listed R = true → wT P ops n N b t a w → j ∈ t.heads → t.len = m →
    ∃ (fl : List Nat) (r : OT), r.len + 1 = m ∧ ¬ qk j = true ∧ j ∈ Region.ready .any ops listed ∧ (∀ k ∈ R, bf k j = true ∨ k ∈ fl) ∧ chkT ops bf n qk false r (listed.setIfInBounds j true) R = true ∧
      wpOp P ops (onlyN N) j (fun a' w' => a'.tmps.size = n ∧ (∀ k ∈ fl, ∀ o, ops[k]? = some o → YAt P ops o (slotV a' o.dst) a' w') ∧ wT P ops n N false r a' w') a w
  | .nil, _, _, _, hj, _ => by simp [OT.heads] at hj
  | .q _ _, _, _, _, hj, _ => by simp [OT.heads] at hj
  | .e i fl r alt, b, hc, hw, hj, hm => by
    simp only [chkT, Bool.and_eq_true] at hc
    obtain ⟨⟨⟨⟨⟨⟨c0, c1⟩, c2⟩, c3⟩, c4⟩, c5⟩, c6⟩ := hc
    rcases List.mem_cons.1 hj with rfl | hj'
    · refine ⟨fl, r, hm, by simpa using c1, by simpa using c2, fun k hk => ?_, c4, hw.1⟩
      have := List.all_eq_true.1 c3 k hk
      simpa using this
    · refine chain alt true c6 hw.2 hj' ?_
      cases alt with
      | nil => simp [OT.heads] at hj'
      | q _ _ => simp [OT.heads] at hj'
      | e _ _ r' _ =>
        simp [OT.isNil] at c5
        rw [c5]; exact hm
theorem wT_R {bf : Nat → Nat → Bool} (hbfo : BfOk ops bf) {n : Nat} {qk : Nat → Bool} {N : Act → World → Prop} (hsel : Region.noSelect ops = true) : ∀ (m : Nat) (t : OT) (listed : Array Bool) (R : List Nat) (a : Act) (w : World), t.len = m → chkT ops bf n qk false t listed R = true → Closed ops listed → a.tmps.size = n →
    wT P ops n N false t a w → wpAnyR P ops bf qk N R m listed a w
  | m, .nil, listed, R, a, w, hm, hc, _, _, h => by
    subst hm
    exact ⟨by simpa [chkT] using hc, by simpa [wT] using h⟩
  | 0, .q _ _, _, _, _, _, hm, _, _, _, _ => by simp [OT.len] at hm
  | 0, .e _ _ _ _, _, _, _, _, hm, _, _, _, _ => by simp [OT.len] at hm
  | m + 1, .q i r, listed, R, a, w, hm, hc, hcl, hsz, h => by
    obtain ⟨o, v, ho, hy, hk⟩ := h
    simp only [chkT, ho, Bool.and_eq_true] at hc
    obtain ⟨⟨⟨⟨⟨_, c1⟩, c2⟩, c3⟩, c4, c5⟩, c6⟩ := hc
    have hlen : r.len = m := by simpa [OT.len] using hm
    cases hd : o.dst with
    | none => rw [hd] at c4; cases c4
    | some d =>
      rw [hd] at c4
      simp only [Bool.and_eq_true, decide_eq_true_eq, Bool.not_eq_true'] at c4
      have hr : i ∈ Region.ready .any ops listed := by simpa using c1
      refine wpAnyR_drop (R' := keepP ops bf listed R) _ _ _ _ keepP_spec ?_
      refine wpAnyR_first hbfo ho c3 (Region.noSelect_spec hsel) (by rw [hd]; rfl) ?_ ?_ m listed a w hcl ?_ (Region.free_spec ho c2) hr hy ?_
      · intro d' hd'
        rw [hd] at hd'; cases hd'
        simpa using c4.2
      · intro k hk o' ho'
        have := List.all_eq_true.1 c5 k hk
        simp only [ho'] at this
        exact this
      · intro d' hd'
        rw [hd] at hd'; cases hd'
        rw [hsz]; exact c4.1
      · exact wT_R hbfo hsel m r _ (i :: keepP ops bf listed R) _ w hlen c6 (hcl.set hr) (by rw [put_size]; exact hsz) hk
  | m + 1, .e i fl r alt, listed, R, a, w, hm, hc, hcl, hsz, h => by
    have hc' := hc
    simp only [chkT, Bool.and_eq_true, Bool.false_or] at hc'
    obtain ⟨⟨⟨⟨⟨⟨⟨c0, c00⟩, c1⟩, c2⟩, c3⟩, c4⟩, c5⟩, c6⟩ := hc'
    refine ⟨fun h0 => (by rw [h0] at c00; simp at c00), fun j hj => ?_⟩
    have hjh : j ∈ (OT.e i fl r alt).heads := by
      have := List.all_eq_true.1 c0 j hj
      simpa [OT.heads] using this
    obtain ⟨fl', r', hl', hq, hjr, hR', hck, hop⟩ := chain _ false hc h hjh hm
    rw [if_neg hq]
    refine wpOp_mono (fun a' w' hh => ⟨fun k hk hb o ho => ?_, wT_R hbfo hsel m r' _ R a' w' (by omega) hck (hcl.set hjr) hh.1 hh.2.2⟩) hop
    rcases hR' k hk with h1 | h1
    · rw [hb] at h1; cases h1
    · exact hh.2.1 k h1 o ho
end
section
variable {P : Program} {n : Nat} {ops : Array Oper} {Q : Post} {l : Fr} {w : World}
def WT (P : Program) (n : Nat) (ops : Array Oper) (Q : Post) : Bool → OT → Fr → World → Prop
  | b, .nil, l, w => b = true ∨ Q .normal l w
  | _, .q i r, l, w => ∃ o, ops[i]? = some o ∧ vk o.op = true ∧ WL P n ops (qq fun l' w' => w' = w ∧ WT P n ops Q false r l' w) [o] l w
  | _, .e i fl r alt, l, w => (∃ o, ops[i]? = some o ∧ WL P n ops (qq fun l' w' => Reks P n ops fl l' w' ∧ WT P n ops Q false r l' w') [o] l w) ∧ WT P n ops Q true alt l w
theorem WT_wT {D : List Deferred} : ∀ (t : OT) (b : Bool) (l : Fr) (w : World) (a : Act), Agr n l a → a.defers = D → WT P n ops Q b t l w → wT P ops n (fun a w => lift n Q D .normal a w) b t a w
  | .nil, b, l, w, a, ha, hD, h => h.elim .inl fun h => .inr ⟨l, ⟨ha, hD⟩, h⟩
  | .q i r, b, l, w, a, ha, hD, h => by
    obtain ⟨o, ho, hvk, hw⟩ := h
    obtain ⟨v, w', hy, l', hl', hw', hk⟩ := WL_single hvk hw ha
    subst hw'
    refine ⟨o, v, ho, ?_, WT_wT r false l' _ _ hl' ((put_dfs _ _ _).trans hD) hk⟩
    rcases hy with ⟨y1, y2⟩ | ⟨y1, y2, _⟩
    · exact .inl ⟨y1, y2⟩
    · exact .inr ⟨y1, y2⟩
  | .e i fl r alt, b, l, w, a, ha, hD, h => by
    obtain ⟨⟨o, ho, hw⟩, halt⟩ := h
    refine ⟨?_, WT_wT alt true l w a ha hD halt⟩
    have h1 := hw a ha
    rw [hD] at h1
    have h2 : wpOp P ops (lift n (qq fun l' w' => Reks P n ops fl l' w' ∧ WT P n ops Q false r l' w') D) i (fun a' w' => lift n (qq fun l' w' => Reks P n ops fl l' w' ∧ WT P n ops Q false r l' w') D .normal a' w') a w := by
      unfold wpOp
      simp only [ho]
      simp only [wpList] at h1
      exact h1
    refine wpOp_mono (fun a' w' hh => ?_) (wpOp_post lift_qq_not h2)
    obtain ⟨l', ⟨hl', hD'⟩, hre, hk⟩ := hh
    exact ⟨hl'.size, fun k hkm o' ho' => (hre.mem hkm).yat hl' o' ho', WT_wT r false l' w' a' hl' hD' hk⟩
/-- THE RULE -/
theorem W_tree {id : Nat} {os : List Oper} (t : OT) (qs : List Nat) (T : List (List Nat)) (hm : P.follows .mixedOrders = true) (hc : (Region.noSelect os.toArray && (t.len == os.toArray.size) && okT os.toArray T && chkT os.toArray (tb T) n (fun i => qs.contains i) false t (Array.replicate os.toArray.size false) []) = true)
    (h : ∀ w', w'.heap = w.heap → w'.os = w.os → w'.tape = w.tape → w'.output = w.output → WT P n os.toArray Q false t l w') : W P n (.region id os.toArray true) Q l w := by
  intro a ha
  simp only [Bool.and_eq_true, beq_iff_eq] at hc
  obtain ⟨⟨⟨c1, c2⟩, c0⟩, c3⟩ := hc
  refine wp_region_any hm ?_
  have hcl : Closed os.toArray (Array.replicate os.toArray.size false) := by
    intro j oj hj hl
    rw [getD_replicate_false] at hl; cases hl
  have h1 := wT_R (okT_ok c0) c1 _ t _ [] a _ c2 c3 hcl ha.size (WT_wT t false l { w with drawn := w.drawn + 1 } a ha rfl (h _ rfl rfl rfl rfl))
  exact wpAny_of_R (fun a w hh => hh) _ _ _ _ h1
theorem T_nil (h : Q .normal l w) : WT P n ops Q false .nil l w := .inr h
theorem T_alt0 : WT P n ops Q true .nil l w := .inl rfl
theorem T_q {i : Nat} {o : Oper} {r : OT} (ho : ops[i]? = some o) (hv : vk o.op = true) (h : WL P n ops (qq fun l' w' => w' = w ∧ WT P n ops Q false r l' w) [o] l w) : WT P n ops Q false (.q i r) l w := ⟨o, ho, hv, h⟩
theorem T_qn {r : OT} (h : WT P n ops Q false r l w) : WL P n ops (qq fun l' w' => w' = w ∧ WT P n ops Q false r l' w) [] l w := WL_nil ⟨rfl, h⟩
theorem T_e {b : Bool} {i : Nat} {o : Oper} {r alt : OT} {fl : List Nat} (ho : ops[i]? = some o) (h : WL P n ops (qq fun l' w' => Reks P n ops fl l' w' ∧ WT P n ops Q false r l' w') [o] l w) (ha : WT P n ops Q true alt l w) : WT P n ops Q b (.e i fl r alt) l w := ⟨⟨o, ho, h⟩, ha⟩
theorem T_en {r : OT} {fl : List Nat} (hr : Reks P n ops fl l w) (h : WT P n ops Q false r l w) : WL P n ops (qq fun l' w' => Reks P n ops fl l' w' ∧ WT P n ops Q false r l' w') [] l w := WL_nil ⟨hr, h⟩
end
end Go.SL
