/- Functions that defer one call: the code up to it, the call, what is behind it, the end. No program in sight. -/
import Derived.Test.YtgppcfgnhahnaaaDoorRng
import Derived.Defers
set_option linter.unusedVariables false
set_option linter.unusedSimpArgs false
namespace Go.SL
abbrev PostD := Deferred → Post
def liftD (n : Nat) (Q0 : Post) (Q1 : PostD) : Exit → Act → World → Prop := fun e a w => ∃ l, Agr n l a ∧ ((a.defers = [] ∧ Q0 e l w) ∨ ∃ dd, a.defers = [dd] ∧ Q1 dd e l w)
/-- code in which a call may be deferred: what holds at its ends, without one and with one -/
def WDf (P : Program) (n : Nat) (c : Code) (Q0 : Post) (Q1 : PostD) (l : Fr) (w : World) : Prop := ∀ a, Agr n l a → a.defers = [] → c.wp P (liftD n Q0 Q1) a w
def WLD (P : Program) (n : Nat) (ops : Array Oper) (Q0 : Post) (Q1 : PostD) (rest : List Oper) (l : Fr) (w : World) : Prop := ∀ a, Agr n l a → a.defers = [] → wpList P ops (liftD n Q0 Q1) rest a w
section
variable {P : Program} {n : Nat} {Q0 : Post} {Q1 : PostD} {l : Fr} {w : World} {ops : Array Oper} {rest : List Oper} {ty : Nat} {pos : String} {aft : Array Edge}
theorem WDf_seq {x y : Code} (h : W P n x (thenQ (WDf P n y Q0 Q1) Q0) l w) : WDf P n (.seq x y) Q0 Q1 l w := fun a ha hd =>
  wp_seq (wp_mono (h a ha) fun e a' w' ⟨l', h1, h2⟩ => by
    have hd' : a'.defers = [] := h1.2.trans hd
    cases e with
    | normal => exact h2 a' h1.1 hd'
    | _ => exact ⟨l', h1.1, .inl ⟨hd', h2⟩⟩)
/-- the region that defers, and what is behind it -/
theorem WDf_reg {id : Nat} {os : List Oper} {y : Code} (h : WLD P n os.toArray (fun _ _ _ => False) (fun dd e l w => e = .normal ∧ W P n y (Q1 dd) l w) os l w) : WDf P n (.seq (.region id os.toArray false) y) Q0 Q1 l w := fun a ha hd =>
  wp_seq (wp_mono (wp_region_lit (h a ha hd)) fun e a' w' ⟨l', h1, h2⟩ => by
    rcases h2 with ⟨_, h2⟩ | ⟨dd, hdd, he, h2⟩
    · exact h2.elim
    · subst he
      refine wp_mono (h2 a' h1) fun e2 a2 w2 ⟨l2, h3, h4⟩ => ?_
      exact ⟨l2, h3.1, .inr ⟨dd, h3.2.trans hdd, h4⟩⟩)
theorem WLD_next (h : WLD P n ops Q0 Q1 rest l w) : WL P n ops (qq fun l' w' => WLD P n ops Q0 Q1 rest l' w') [] l w := WL_nil h
theorem WLD_step {o : Oper} (h : WL P n ops (qq fun l' w' => WLD P n ops Q0 Q1 rest l' w') [o] l w) : WLD P n ops Q0 Q1 (o :: rest) l w := by
  intro a ha hd
  have h1 := h a ha
  simp only [wpList] at h1 ⊢
  split
  · rename_i hw
    rw [if_pos hw] at h1
    rcases h1 with h1 | ⟨_, _, _, hh⟩
    · refine .inl (Oper.wp_mono ?_ (wp_post lift_qq_not h1))
      rintro a' w' ⟨l', ⟨h2, h3⟩, h4⟩
      exact h4 a' h2 (h3.trans hd)
    · exact (lift_qq_not _ _ _ (by simp) hh).elim
  · rename_i hw
    rw [if_neg hw] at h1
    obtain ⟨l', ⟨h2, h3⟩, h4⟩ := h1
    exact h4 _ h2 (h3.trans hd)
/-- the deferring itself: a closure without arguments -/
theorem s_defer {x : Operand} {fn : Fn} {cap : Array Value} {ts : Array TypeId} (hx : ev l x = some (.func fn #[] cap)) (k : Q1 ⟨.fn fn cap, #[]⟩ .normal l w) :
    WLD P n ops Q0 Q1 [⟨none, .defer { callee := .value x, args := #[], argTypes := ts }, ty, pos, aft, none⟩] l w := fun a ha hd =>
  wpList_plain rfl fun K hK => by
    unfold Oper.wp
    have : (execOp a.eval ⟨none, .defer { callee := .value x, args := #[], argTypes := ts }, ty, pos, aft, none⟩).run P w = .ok (.defer ⟨.fn fn cap, #[]⟩) w := by
      simp [execOp, resolve, ha.eval hx, Deferred.ofValue]
    rw [this]
    refine hK _ _ ?_
    refine wpList_nil ⟨l, ⟨ha.size, ha.vals⟩, .inr ⟨⟨.fn fn cap, #[]⟩, ?_, k⟩⟩
    simp [Act.put, hd]
/-- a deferred call that returns -/
def RetD (P : Program) (f : FuncId) (args : Array Value) (w : World) (R : Value → World → Prop) : Prop := CallsD P f args .returning w fun e u' w' => u' = .returning ∧ ∃ v, e = .returned v ∧ R v w'
theorem RetD_of {f : FuncId} {fn : Func} {c : Code} {vs : List Value} {R : Value → World → Prop}
    (hf : P.funcs[f]? = some fn) (hb : fn.body = some c) (hn : fn.ntmps = n) (hle : Nat.ble vs.length n = true) (h : W P n c (endQ P fn n R) (slots vs 0) w) : RetD P f vs.toArray w R := by
  refine callsD_of_wp hf hb (wp_mono (h _ ?_) ?_)
  · have hle' : vs.length ≤ n := Nat.le_of_ble_eq_true hle
    refine ⟨by simp [hn]; omega, fun t v ht => ?_⟩
    obtain ⟨_, h2⟩ := get_slots vs 0 t ht
    have hlt : t < vs.length := by
      rcases Nat.lt_or_ge t vs.length with h | h
      · exact h
      · simp [List.getElem?_eq_none h] at h2
    simp [Array.getElem?_append, hlt]
    simpa [hlt] using h2
  · rintro e a w' ⟨l, ⟨ha, hdf⟩, hq⟩
    cases e with
    | normal => obtain ⟨v, h1, h2⟩ := hq a ha; exact ⟨hdf, v, h1, v, rfl, h2⟩
    | ret => obtain ⟨v, h1, h2⟩ := hq a ha; exact ⟨hdf, v, h1, v, rfl, h2⟩
    | _ => exact hq.elim
/-- at the end of a function with a deferred call: the call returns, then the results are read -/
def endD (P : Program) (fn : Func) (n : Nat) (R : Value → World → Prop) : PostD := fun dd e l w =>
  (e = .normal ∨ e = .ret) ∧ ∃ fv cap f args, dd.target = .fn fv cap ∧ (invoke dd.target dd.args).run P w = .ok (.enter f args) w ∧
    RetD P f args w fun _ w' => ∀ a, Agr n l a → ∃ v, (results fn a.tmps).run P w' = .ok v w' ∧ R v w'
theorem Ret_ofD {f : FuncId} {fn : Func} {c : Code} {vs : List Value} {R : Value → World → Prop}
    (hf : P.funcs[f]? = some fn) (hb : fn.body = some c) (hn : fn.ntmps = n) (hle : Nat.ble vs.length n = true)
    (h : WDf P n c (endQ P fn n R) (endD P fn n R) (slots vs 0) w) : Ret P f vs.toArray w R := by
  refine calls_of_wp_defers hf hb (wp_mono (h _ ?_ rfl) ?_)
  · have hle' : vs.length ≤ n := Nat.le_of_ble_eq_true hle
    refine ⟨by simp [hn]; omega, fun t v ht => ?_⟩
    obtain ⟨_, h2⟩ := get_slots vs 0 t ht
    have hlt : t < vs.length := by
      rcases Nat.lt_or_ge t vs.length with h | h
      · exact h
      · simp [List.getElem?_eq_none h] at h2
    simp [Array.getElem?_append, hlt]
    simpa [hlt] using h2
  · rintro e a w' ⟨l, ha, ⟨hd, hq⟩ | ⟨dd, hd, he, fv, cap, g, args, ht, hi, hr⟩⟩
    · cases e with
      | normal => obtain ⟨v, h1, h2⟩ := hq a ha; simp only [bodyPostD, hd, Leaves]; exact ⟨v, h1, v, rfl, h2⟩
      | ret => obtain ⟨v, h1, h2⟩ := hq a ha; simp only [bodyPostD, hd, Leaves]; exact ⟨v, h1, v, rfl, h2⟩
      | _ => exact hq.elim
    · have hL : Leaves P fn a.tmps (fun e w' => ∃ v, e = .returned v ∧ R v w') a.defers .returning w' := by
        rw [hd]
        refine ⟨by simp, fv, cap, g, args, ht, hi, CallsD.mono hr ?_⟩
        rintro e2 u2 w2 ⟨rfl, v, rfl, hv⟩
        obtain ⟨u, h1, h2⟩ := hv a ha
        exact ⟨u, h1, u, rfl, h2⟩
      rcases he with rfl | rfl
      · exact hL
      · exact hL
end
end Go.SL
