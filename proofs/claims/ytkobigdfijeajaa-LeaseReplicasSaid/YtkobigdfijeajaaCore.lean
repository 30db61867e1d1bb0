/- Frames as short lists of slots, rules of code and of single operations, an affine heap assertion 'St'. No program in sight. -/
import Derived.Orders
import Derived.Tactics
import Derived.Laws.AppendOwn
import Derived.Laws.OwnMore
import Derived.Laws.MakeOwn
import Derived.KernelRfl
import Derived.IntWalk
set_option linter.unusedVariables false
set_option linter.unusedSimpArgs false
namespace Go.SL

theorem beqF {a b : Nat} : Nat.beq a b = false ↔ a ≠ b := by rw [← Bool.not_eq_true, Nat.beq_eq]
/-! ### Frames -/
abbrev Fr := List (Nat × Value)
def get : Fr → Nat → Option Value
  | [], _ => none
  | (s, v) :: r, t => bif Nat.beq s t then some v else get r t
def ev (l : Fr) : Operand → Option Value
  | .tmp t => get l t
  | .const v => some v
  | .global g => some (.pointer (some ⟨g, 0, none⟩))
  | .func f => some (.func (.func f) #[] #[])
structure Agr (n : Nat) (l : Fr) (a : Act) : Prop where
  size : a.tmps.size = n
  vals : ∀ t v, get l t = some v → a.tmps[t]? = some v
theorem Agr.eval {n : Nat} {l : Fr} {a : Act} {x : Operand} {v : Value} (h : Agr n l a) (hx : ev l x = some v) : a.eval x = v := by
  cases x with
  | tmp t => have := h.vals t v hx; simp [Act.eval, Array.getD_eq_getD_getElem?, this]
  | const u => simpa [ev, Act.eval] using hx
  | global g => simpa [ev, Act.eval] using hx
  | func f => simpa [ev, Act.eval] using hx
theorem Agr.put {n d : Nat} {l : Fr} {a : Act} (h : Agr n l a) (hd : Nat.blt d n = true) (v : Value) : Agr n ((d, v) :: l) (a.put (some d) v) := by
  have hlt : d < n := by simpa [Nat.blt_eq] using hd
  refine ⟨by simp [Act.put, h.size], fun t u ht => ?_⟩
  simp only [get] at ht
  by_cases e : d = t
  · subst e
    simp at ht
    subst ht
    simp [Act.put, h.size, hlt]
  · have : Nat.beq d t = false := beqF.2 e
    rw [this] at ht
    simp at ht
    simp [Act.put, Array.getElem?_setIfInBounds_ne e, h.vals t u ht]
/-- every slot of the first frame is there in the second -/
def Sub : Fr → Fr → Prop
  | [], _ => True
  | (t, v) :: r, l => get l t = some v ∧ Sub r l
theorem Sub.get {l l' : Fr} (h : Sub l l') : ∀ t v, SL.get l t = some v → SL.get l' t = some v := by
  induction l with
  | nil => intro t v ht; simp [SL.get] at ht
  | cons p r ih =>
    obtain ⟨s, u⟩ := p
    obtain ⟨h1, h2⟩ := h
    intro t v ht
    simp only [SL.get] at ht
    by_cases e : s = t
    · subst e; simp at ht; subst ht; exact h1
    · have : Nat.beq s t = false := beqF.2 e
      rw [this] at ht; exact ih h2 t v (by simpa using ht)
theorem Agr.sub {n : Nat} {l l' : Fr} {a : Act} (h : Agr n l' a) (hs : Sub l l') : Agr n l a := ⟨h.size, fun t v ht => h.vals t v (hs.get t v ht)⟩

/-! ### Code -/
abbrev Post := Exit → Fr → World → Prop
/-- the deferred calls of the activation are D, and stay so -/
def lift (n : Nat) (Q : Post) (D : List Deferred) : Exit → Act → World → Prop := fun e a w => ∃ l, (Agr n l a ∧ a.defers = D) ∧ Q e l w
def W (P : Program) (n : Nat) (c : Code) (Q : Post) (l : Fr) (w : World) : Prop := ∀ a, Agr n l a → c.wp P (lift n Q a.defers) a w
def thenQ (next : Fr → World → Prop) (Q : Post) : Post
  | .normal, l, w => next l w
  | e, l, w => Q e l w
def inBlk (id : Nat) (Q : Post) : Post
  | .exit id', l, w => if id' = id then Q .normal l w else Q (.exit id') l w
  | e, l, w => Q e l w
section
variable {P : Program} {n : Nat} {Q : Post} {l : Fr} {w : World}
theorem W_sub {c : Code} {l' : Fr} (hs : Sub l' l) (h : W P n c Q l' w) : W P n c Q l w := fun a ha => h a (ha.sub hs)
theorem W_mono {c : Code} {Q' : Post} (hq : ∀ e l w, Q e l w → Q' e l w) (h : W P n c Q l w) : W P n c Q' l w :=
  fun a ha => wp_mono (h a ha) fun e a' w' ⟨l', h1, h2⟩ => ⟨l', h1, hq e l' w' h2⟩
theorem W_seq {x y : Code} (h : W P n x (thenQ (W P n y Q) Q) l w) : W P n (.seq x y) Q l w := fun a ha =>
  wp_seq (wp_mono (h a ha) fun e a' w' ⟨l', h1, h2⟩ => by
    cases e with
    | normal => have h3 := h2 a' h1.1; rw [h1.2] at h3; exact h3
    | _ => exact ⟨l', h1, h2⟩)
/-- a cut: what holds behind the first part is said by 'M' -/
theorem W_seq_cut {x y : Code} (M : Fr → World → Prop) (h : W P n x (thenQ M Q) l w) (k : ∀ l' w', M l' w' → W P n y Q l' w') : W P n (.seq x y) Q l w :=
  W_seq (W_mono (fun e l' w' hh => by cases e <;> first | exact k l' w' hh | exact hh) h)
theorem W_skip (h : Q .normal l w) : W P n .skip Q l w := fun a ha => wp_skip ⟨l, ⟨ha, rfl⟩, h⟩
theorem W_ret (h : Q .ret l w) : W P n .ret Q l w := fun a ha => wp_ret ⟨l, ⟨ha, rfl⟩, h⟩
theorem W_exit {id : Nat} (h : Q (.exit id) l w) : W P n (.exit id) Q l w := fun a ha => wp_exit ⟨l, ⟨ha, rfl⟩, h⟩
theorem W_block {id : Nat} {c : Code} (h : W P n c (inBlk id Q) l w) : W P n (.block id c) Q l w := fun a ha =>
  wp_block (wp_mono (h a ha) fun e a' w' ⟨l', h1, h2⟩ => by
    cases e with
    | exit id' =>
      simp only [inBlk] at h2
      simp only [Exit.inBlock]
      split
      · rename_i e; rw [if_pos e] at h2; exact ⟨l', h1, h2⟩
      · rename_i e; rw [if_neg e] at h2; exact ⟨l', h1, h2⟩
    | _ => exact ⟨l', h1, h2⟩)
theorem W_cond {c : Operand} {x y : Code} {t : Bool} (hc : ev l c = some (.bool t)) (ht : t = true → W P n x Q l w) (hf : t = false → W P n y Q l w) : W P n (.cond c x y) Q l w :=
  fun a ha => wp_cond_split (ha.eval hc) (fun e => ht e a ha) (fun e => hf e a ha)
theorem W_cond_t {c : Operand} {x y : Code} (hc : ev l c = some (.bool true)) (ht : W P n x Q l w) : W P n (.cond c x y) Q l w :=
  fun a ha => wp_cond_true (ha.eval hc) (ht a ha)
theorem W_cond_f {c : Operand} {x y : Code} (hc : ev l c = some (.bool false)) (hf : W P n y Q l w) : W P n (.cond c x y) Q l w :=
  fun a ha => wp_cond_false (ha.eval hc) (hf a ha)
/-- a loop: a state s of whatever type, the frame at its head, what holds, a measure -/
theorem W_loop {c : Code} {σ : Type} (fr : σ → Fr) (I : σ → World → Prop) (μ : σ → Nat) (s0 : σ) (h0 : Sub (fr s0) l) (hI : I s0 w)
    (round : ∀ s w, I s w → W P n c (thenQ (fun l' w' => ∃ s', Sub (fr s') l' ∧ I s' w' ∧ μ s' < μ s) Q) (fr s) w) : W P n (.loop c) Q l w := by
  intro a ha b k cs
  generalize hD : a.defers = D
  have key : ∀ (m : Nat) (s : σ) (a : Act) (w : World), μ s = m → Agr n (fr s) a → a.defers = D → I s w →
      ∃ e a' w', lift n Q D e a' w' ∧ Arrives P (lone (b.at a (.code c :: .inLoop c :: k)) cs w) b k cs e a' w' := by
    intro m
    induction m using Nat.strongRecOn with
    | _ m ih =>
      intro s a w hm ha hD hI
      obtain ⟨e, a₁, w₁, ⟨l₁, hl₁, hq⟩, harr⟩ := round s w hI a ha b (.inLoop c :: k) cs
      rw [hD] at hl₁
      cases e with
      | normal =>
        obtain ⟨s', hsub, hI', hlt⟩ := hq
        obtain ⟨e₂, a₂, w₂, hq₂, harr₂⟩ := ih (μ s') (hm ▸ hlt) s' a₁ w₁ rfl (hl₁.1.sub hsub) hl₁.2 hI'
        exact ⟨e₂, a₂, w₂, hq₂, .of_steps (Steps.trans harr (.one step_inLoop)) harr₂⟩
      | exit id => exact ⟨_, a₁, w₁, ⟨l₁, hl₁, hq⟩, .pass (x := .inLoop c) rfl (fun _ _ => .inl (by simp)) harr⟩
      | goto l => exact ⟨_, a₁, w₁, ⟨l₁, hl₁, hq⟩, .pass (x := .inLoop c) rfl (fun _ _ => .inl (by simp)) harr⟩
      | ret => exact ⟨_, a₁, w₁, ⟨l₁, hl₁, hq⟩, .pass (x := .inLoop c) rfl (fun _ _ => .inl (by simp)) harr⟩
      | panic ch => exact ⟨_, a₁, w₁, ⟨l₁, hl₁, hq⟩, .pass (x := .inLoop c) rfl (fun _ _ => .inl (by simp)) harr⟩
      | outgrown => exact ⟨_, a₁, w₁, ⟨l₁, hl₁, hq⟩, .pass (x := .inLoop c) rfl (fun _ _ => .inl (by simp)) harr⟩
  obtain ⟨e, a', w', hq, harr⟩ := key _ s0 a w rfl (ha.sub h0) hD hI
  exact ⟨e, a', w', hq, .of_steps (.one step_loop) harr⟩
theorem n_then {y : Code} {Q' : Post} (h : W P n y Q l w) : thenQ (W P n y Q) Q' .normal l w := h
theorem n_loop {nx : Fr → World → Prop} {Q' : Post} (h : nx l w) : thenQ nx Q' .normal l w := h
theorem n_blk {id : Nat} (h : Q .normal l w) : inBlk id Q .normal l w := h
theorem x_then {nx : Fr → World → Prop} {id : Nat} (h : Q (.exit id) l w) : thenQ nx Q (.exit id) l w := h
theorem r_then {nx : Fr → World → Prop} (h : Q .ret l w) : thenQ nx Q .ret l w := h
theorem r_blk {id : Nat} (h : Q .ret l w) : inBlk id Q .ret l w := h
theorem W_cond_kt {c : Operand} {x y : Code} {t : Bool} (hc : ev l c = some (.bool t)) (hb : t = true) (ht : W P n x Q l w) : W P n (.cond c x y) Q l w := W_cond_t (hb ▸ hc) ht
theorem W_cond_kf {c : Operand} {x y : Code} {t : Bool} (hc : ev l c = some (.bool t)) (hb : t = false) (hf : W P n y Q l w) : W P n (.cond c x y) Q l w := W_cond_f (hb ▸ hc) hf
theorem exit_hit {id : Nat} (h : Q .normal l w) : inBlk id Q (.exit id) l w := by simp only [inBlk, if_true]; exact h
theorem exit_miss {id id' : Nat} (hn : Nat.beq id' id = false) (h : Q (.exit id') l w) : inBlk id Q (.exit id') l w := by
  have : id' ≠ id := beqF.1 hn
  simp only [inBlk, if_neg this]; exact h
end

/-! ### Calls: a function that returns -/
/-- the call returns, and 'R' holds of what it returns and leaves -/
def Ret (P : Program) (f : FuncId) (args : Array Value) (w : World) (R : Value → World → Prop) : Prop :=
  Calls P f args w fun e w' => ∃ v, e = .returned v ∧ R v w'
theorem Ret.mono {P : Program} {f : FuncId} {args : Array Value} {w : World} {R R' : Value → World → Prop} (h : Ret P f args w R) (hr : ∀ v w', R v w' → R' v w') : Ret P f args w R' :=
  Calls.mono h fun _ _ ⟨v, he, hv⟩ => ⟨v, he, hr _ _ hv⟩
/-- what is to hold at a function's end -/
def endQ (P : Program) (fn : Func) (n : Nat) (R : Value → World → Prop) : Post
  | .normal, l, w | .ret, l, w => ∀ a, Agr n l a → ∃ v, (results fn a.tmps).run P w = .ok v w ∧ R v w
  | _, _, _ => False
def slots : List Value → Nat → Fr
  | [], _ => []
  | v :: r, k => (k, v) :: slots r (k + 1)
theorem get_slots {v : Value} : ∀ (vs : List Value) (k t : Nat), get (slots vs k) t = some v → k ≤ t ∧ vs[t - k]? = some v
  | [], _, _, h => by simp [slots, get] at h
  | u :: r, k, t, h => by
    simp only [slots, get] at h
    by_cases e : k = t
    · subst e; simp at h; subst h; simp
    · rw [beqF.2 e] at h
      obtain ⟨h1, h2⟩ := get_slots r (k + 1) t (by simpa using h)
      refine ⟨by omega, ?_⟩
      have : t - k = (t - (k + 1)) + 1 := by omega
      rw [this]; simpa using h2
theorem Ret_of {P : Program} {f : FuncId} {fn : Func} {c : Code} {n : Nat} {vs : List Value} {w : World} {R : Value → World → Prop}
    (hf : P.funcs[f]? = some fn) (hb : fn.body = some c) (hn : fn.ntmps = n) (hle : Nat.ble vs.length n = true) (h : W P n c (endQ P fn n R) (slots vs 0) w) : Ret P f vs.toArray w R := by
  refine calls_of_wp hf hb (wp_mono (h _ ?_) ?_)
  · have hle' : vs.length ≤ n := Nat.le_of_ble_eq_true hle
    refine ⟨by simp [hn]; omega, fun t v ht => ?_⟩
    obtain ⟨_, h2⟩ := get_slots vs 0 t ht
    have hlt : t < vs.length := by
      rcases Nat.lt_or_ge t vs.length with h | h
      · exact h
      · simp [List.getElem?_eq_none h] at h2
    simp [Array.getElem?_append, hlt] 
    simpa [hlt] using h2
  · rintro e a w' ⟨l, ⟨ha, hdf⟩, hq⟩
    cases e with
    | normal => obtain ⟨v, h1, h2⟩ := hq a ha; exact ⟨hdf, v, h1, v, rfl, h2⟩
    | ret => obtain ⟨v, h1, h2⟩ := hq a ha; exact ⟨hdf, v, h1, v, rfl, h2⟩
    | _ => exact hq.elim
end Go.SL
