/- Ranges over a function: code in a round, the iterator's call of yield, the statement, the function around it. No program in sight. -/
import Derived.Test.YtgjjdlgbbgijgaaDoorLib
import Derived.RangeFuncRecord
import Derived.RangeFuncSeq
import Derived.OrdersIn
import Derived.TacticsIn
set_option linter.unusedVariables false
set_option linter.unusedSimpArgs false
namespace Go.SL
section
variable {P : Program} {n : Nat} {ops : Array Oper} {Q : Post} {l : Fr} {w : World}
def isDef : Op → Bool
  | .defer _ => true
  | _ => false
def noDef (os : List Oper) : Bool := os.all fun o => !isDef o.op
theorem noDef_op {o : Oper} (h : isDef o.op = false) : ∀ c, o.op ≠ .defer c := fun c hc => by rw [hc] at h; cases h
theorem noDef_mem {os : List Oper} (h : noDef os = true) {o : Oper} (ho : o ∈ os) : ∀ c, o.op ≠ .defer c := noDef_op (by simpa using List.all_eq_true.1 h o ho)
/-- the wide fence, for code in a round or in a function -/
abbrev wideAt (ro : Option Nat) : Fence := { Fence.wide with round := ro }
theorem rows_wide {row : String} {args : Array Value} {R : Value → World → Prop} (ro : Option Nat) (h : Rows P row args w R) : RowsIn (wideAt ro) 0 P row args w R := fun c cs _ =>
  let ⟨v, w', r, s⟩ := h c cs
  ⟨v, w', r, (stepsIn_wide.2 s)⟩
theorem calls_wide {f : FuncId} {args : Array Value} {R : Ending → World → Prop} (ro : Option Nat) (h : Calls P f args w R) : CallsIn (wideAt ro) 0 P f args w R := (callsIn_wide (n := 0)).2 h
theorem op_in {ro : Option Nat} {o : Oper} {a : Act} {K : Act → World → Prop} {Q0 : Exit → Act → World → Prop} (hd : ∀ c, o.op ≠ .defer c) (h : o.wp P a w K Q0) : o.wpIn (wideAt ro) 0 P a w K Q0 := by
  refine ⟨fun _ _ => trivial, ?_⟩
  show o.uponIn (wideAt ro) 0 P a K Q0 ((o.semAt ro a.eval).run P w)
  rw [Oper.semAt_eq ro a.eval o hd]
  have hdep : (wideAt ro).depth.isSome = true → 1 ≤ 0 := fun h => by cases h
  unfold Oper.wp at h
  generalize (execOp a.eval o).run P w = r at *
  cases r with
  | ok nx w' =>
    cases nx <;> simp only [Oper.upon] at h <;> simp only [Oper.uponIn] <;> first
      | exact h
      | exact ⟨hdep, calls_wide ro h⟩
      | exact ⟨hdep, rows_wide ro h⟩
  | halt x w' => cases x <;> simp only [Oper.upon] at h <;> simp only [Oper.uponIn] <;> exact h
theorem list_in {ro : Option Nat} {Q0 : Exit → Act → World → Prop} (hQ : ∀ a w, ¬ Q0 .outgrown a w) : ∀ (rest : List Oper) (a : Act) (w : World), noDef rest = true → wpList P ops Q0 rest a w → wpListIn (wideAt ro) 0 P ops Q0 rest a w
  | [], _, _, _, h => h
  | o :: rest, a, w, hn, h => by
    have h1 : ∀ c, o.op ≠ .defer c := noDef_mem hn List.mem_cons_self
    have h2 : noDef rest = true := by simp only [noDef, List.all_cons, Bool.and_eq_true] at hn; exact hn.2
    simp only [wpList] at h
    simp only [wpListIn]
    split
    · rename_i hw
      rw [if_pos hw] at h
      rcases h with h | ⟨_, _, _, hh⟩
      · exact Oper.wpIn_mono (fun a w hk => list_in hQ rest a w h2 hk) (op_in h1 h)
      · exact (hQ _ _ hh).elim
    · rename_i hw
      rw [if_neg hw] at h
      exact ⟨fun _ _ => trivial, list_in hQ rest _ w h2 h⟩
theorem opAt_in {ro : Option Nat} {i : Nat} {a : Act} {K : Act → World → Prop} {Q0 : Exit → Act → World → Prop} (hQ : ∀ a w, ¬ Q0 .outgrown a w) (hd : ∀ o, ops[i]? = some o → ∀ c, o.op ≠ .defer c) (h : wpOp P ops Q0 i K a w) : wpOpIn (wideAt ro) 0 P ops Q0 i K a w := by
  unfold wpOp at h
  unfold wpOpIn
  cases ho : ops[i]? with
  | none => simp only [ho] at h ⊢; exact h
  | some o =>
    simp only [ho] at h ⊢
    split
    · rename_i hw
      rw [if_pos hw] at h
      rcases h with h | ⟨_, _, _, hh⟩
      · exact op_in (hd o ho) h
      · exact (hQ _ _ hh).elim
    · rename_i hw
      rw [if_neg hw] at h
      exact ⟨fun _ _ => trivial, h⟩
theorem any_in {ro : Option Nat} {Q0 : Exit → Act → World → Prop} (hQ : ∀ a w, ¬ Q0 .outgrown a w) (hd : ∀ (i : Nat) o, ops[i]? = some o → ∀ c, o.op ≠ .defer c) : ∀ (fuel : Nat) (listed : Array Bool) (a : Act) (w : World),
    wpAny P .any ops Q0 fuel listed a w → wpAnyIn (wideAt ro) 0 P .any ops Q0 fuel listed a w
  | 0, _, _, _, h => h
  | fuel + 1, listed, a, w, h => ⟨h.1, fun i hi => wpOpIn_mono (fun a w hk => any_in hQ hd fuel _ a w hk) (opAt_in hQ (hd i) (h.2 i hi))⟩

/-! ### code in a round (it ends normally) -/
def WR (P : Program) (lp n : Nat) (c : Code) (M : Fr → World → Prop) (l : Fr) (w : World) : Prop := ∀ a, Agr n l a → c.wpIn (wideAt (some lp)) 0 P (lift n (qq M) a.defers) a w
theorem q_n {M : Fr → World → Prop} (h : M l w) : qq M .normal l w := h
variable {lp : Nat} {M : Fr → World → Prop}
theorem R_seq {x y : Code} (h : WR P lp n x (WR P lp n y M) l w) : WR P lp n (.seq x y) M l w := fun a ha =>
  wpIn_seq (wpIn_mono (h a ha) fun e a' w' ⟨l', h1, h2⟩ => by
    cases e with
    | normal => have h3 := h2 a' h1.1; rw [h1.2] at h3; exact h3
    | _ => exact h2.elim)
theorem R_block {id : Nat} {c : Code} (h : WR P lp n c M l w) : WR P lp n (.block id c) M l w := fun a ha =>
  wpIn_block (wpIn_mono (h a ha) fun e a' w' ⟨l', h1, h2⟩ => by
    cases e with
    | normal => exact ⟨l', h1, h2⟩
    | _ => exact h2.elim)
theorem R_skip (h : qq M .normal l w) : WR P lp n .skip M l w := fun a ha => wpIn_skip ⟨l, ⟨ha, rfl⟩, h⟩
theorem R_cond {c : Operand} {x y : Code} {t : Bool} (hc : ev l c = some (.bool t)) (ht : t = true → WR P lp n x M l w) (hf : t = false → WR P lp n y M l w) : WR P lp n (.cond c x y) M l w :=
  fun a ha => wpIn_cond_split (ha.eval hc) (fun e => ht e a ha) (fun e => hf e a ha)
theorem R_cond_t {c : Operand} {x y : Code} (hc : ev l c = some (.bool true)) (ht : WR P lp n x M l w) : WR P lp n (.cond c x y) M l w := fun a ha => wpIn_cond_true (ha.eval hc) (ht a ha)
theorem R_cond_f {c : Operand} {x y : Code} (hc : ev l c = some (.bool false)) (hf : WR P lp n y M l w) : WR P lp n (.cond c x y) M l w := fun a ha => wpIn_cond_false (ha.eval hc) (hf a ha)
theorem lift_qq_out {D : List Deferred} : ∀ a w, ¬ lift n (qq M) D .outgrown a w := fun a w => lift_qq_not _ a w (by simp)
theorem R_region {id : Nat} {os : List Oper} (hd : noDef os = true) (h : WL P n os.toArray (qq M) os l w) : WR P lp n (.region id os.toArray false) M l w := fun a ha =>
  wpIn_region_lit (list_in lift_qq_out os a w hd (h a ha))
theorem R_draw {id : Nat} {os : List Oper} (r : Ord) (T : List (List Nat)) (hm : P.follows .mixedOrders = true) (hc : (Region.noSelect os.toArray && (r.length == os.toArray.size) && okT os.toArray T && chk os.toArray (tb T) n (qkOf r) r (Array.replicate os.toArray.size false) []) = true) (hd : noDef os = true)
    (h : ∀ w', w'.heap = w.heap → w'.os = w.os → w'.tape = w.tape → w'.output = w.output → WD P n os.toArray (qq M) r l w') : WR P lp n (.region id os.toArray true) M l w := by
  intro a ha
  simp only [Bool.and_eq_true, beq_iff_eq] at hc
  obtain ⟨⟨⟨c1, c2⟩, c0⟩, c3⟩ := hc
  refine wpIn_region_any hm ?_
  have hcl : Closed os.toArray (Array.replicate os.toArray.size false) := by
    intro j oj hj hl
    rw [getD_replicate_false] at hl; cases hl
  have h1 := wO_R (okT_ok c0) c1 r _ [] a _ c3 hcl ha.size (WD_wO r l { w with drawn := w.drawn + 1 } a ha rfl (h _ rfl rfl rfl rfl))
  rw [c2] at h1
  refine any_in lift_qq_out (fun i o ho => noDef_mem hd (List.mem_of_getElem? (by simpa using ho))) _ _ _ _ (wpAny_of_R (fun a w hh => hh) _ _ _ _ h1)

theorem R_eq {c c' : Code} (h : c = c') (k : WR P lp n c' M l w) : WR P lp n c M l w := h ▸ k

/-! ### the record -/
abbrev lrec (st : LoopState) (fn : FuncId) (tm : Array Value) (ps : Array Tmp) (assign body : Code) (D : Nat) : Loop := { state := st, pending := none, fn := fn, tmps := tm, params := ps, assign := assign, body := body, defers := D }
theorem St.putObj {F : List Nat} {w0 : World} {L : Hp} {b : Nat} {o : Obj} (h : St F w0 w ((b, o) :: L)) (o' : Obj) : St F w0 (w.putObj b o') ((b, o') :: L) := by
  exact h.setObj (k := 0) rfl o'
/-- one round -/
theorem round_St {F : List Nat} {w0 : World} {L : Hp} {fn p D : Nat} {tm : Array Value} {assign body : Code} {v : Value} {R : World → Prop}
    (hs : St F w0 w ((lp, .loop (lrec .ready fn tm #[p] assign body D)) :: L)) (hp : Nat.blt p n = true) (hA : Agr n l ⟨tm, []⟩)
    (h : WR P lp n assign (fun l1 w1 => St F w0 w1 ((lp, .loop (lrec .ready fn tm #[p] assign body D)) :: L) ∧
      ∀ w2, St F w0 w2 ((lp, .loop (lrec .busy fn tm #[p] assign body D)) :: L) → WR P lp n body (fun _ w3 => ∃ L', St F w0 w3 ((lp, .loop (lrec .busy fn tm #[p] assign body D)) :: L') ∧
        ∀ w4, St F w0 w4 ((lp, .loop (lrec .ready fn tm #[p] assign body D)) :: L') → R w4) l1 w2) ((p, v) :: l) w) :
    YieldAt Fence.wide 0 P lp #[v] w (fun e w' => e = .returned (.bool true) ∧ R w') := by
  refine ⟨fn, _, assign, body, run_yield (hs.at (k := 0) rfl) rfl, roundIn_of_wpIn trivial ?_⟩
  have h0 := h _ (hA.put hp v)
  have he : ({ tmps := (#[p].zip #[v]).foldl (fun tmps (t, a) => tmps.setIfInBounds t a) tm, defers := [] } : Act) = (⟨tm, []⟩ : Act).put (some p) v := by simp [Act.put]
  show assign.wpIn _ _ _ _ ({ tmps := (#[p].zip #[v]).foldl (fun tmps (t, a) => tmps.setIfInBounds t a) tm, defers := [] } : Act) w
  rw [he]
  refine wpIn_mono h0 ?_
  rintro e a1 w1 ⟨l1, ⟨ha1, hd1⟩, hq⟩
  cases e with
  | normal =>
    obtain ⟨hs1, hb⟩ := hq
    refine ⟨_, run_beginRound (hs1.at (k := 0) rfl) rfl, ?_⟩
    refine wpIn_mono (hb _ (hs1.putObj _) _ ha1) ?_
    rintro e a2 w2 ⟨l2, _, hq2⟩
    cases e with
    | normal =>
      obtain ⟨L', hs2, hk⟩ := hq2
      exact ⟨_, _, run_endRound none (hs2.at (k := 0) rfl), rfl, hk _ (hs2.putObj _)⟩
    | _ => exact hq2.elim
  | _ => exact hq.elim

/-! ### the iterator: a region with a call of yield -/
def WLI (P : Program) (n : Nat) (ops : Array Oper) (Q : Post) (rest : List Oper) (l : Fr) (w : World) : Prop := ∀ a, Agr n l a → wpListIn Fence.wide 0 P ops (lift n Q a.defers) rest a w
variable {rest : List Oper} {d ty : Nat} {pos : String} {aft : Array Edge}
theorem I_region {id : Nat} {os : List Oper} (h : WLI P n os.toArray Q os l w) : W P n (.region id os.toArray false) Q l w := fun a ha => (wpIn_wide (n := 0)).1 (wpIn_region_lit (h a ha))
theorem I_nil (h : Q .normal l w) : WLI P n ops Q [] l w := fun a ha => wpListIn_nil ⟨l, ⟨ha, rfl⟩, h⟩
theorem I_next (h : WLI P n ops Q rest l w) : WL P n ops (qq fun l' w' => WLI P n ops Q rest l' w') [] l w := WL_nil h
theorem I_step {o : Oper} (hd : isDef o.op = false) (h : WL P n ops (qq fun l' w' => WLI P n ops Q rest l' w') [o] l w) : WLI P n ops Q (o :: rest) l w := by
  intro a ha
  have h1 := h a ha
  simp only [wpList] at h1
  simp only [wpListIn]
  split
  · rename_i hw
    rw [if_pos hw] at h1
    rcases h1 with h1 | ⟨_, _, _, hh⟩
    · refine Oper.wpIn_mono ?_ (op_in (ro := none) (noDef_op hd) (wp_post lift_qq_not h1))
      rintro a' w' ⟨l', ⟨h2, h3⟩, h4⟩
      have h5 := h4 a' h2
      rw [h3] at h5
      exact h5
    · exact (lift_qq_not _ _ _ (by simp) hh).elim
  · rename_i hw
    rw [if_neg hw] at h1
    obtain ⟨l', ⟨h2, h3⟩, h4⟩ := h1
    have h5 := h4 _ h2
    rw [h3] at h5
    exact ⟨fun _ _ => trivial, h5⟩
theorem I_yield {x : Operand} {xs : List Operand} {vs : List Value} {ts : Array TypeId} {R : World → Prop} (hd : Nat.blt d n = true) (hf : ev l x = some (.func (.yield lp) #[] #[])) (hx : evs l xs = some vs)
    (hy : YieldAt Fence.wide 0 P lp vs.toArray w (fun e w' => e = .returned (.bool true) ∧ R w')) (k : ∀ w', R w' → WLI P n ops Q rest ((d, .bool true) :: l) w') :
    WLI P n ops Q (⟨some d, .call { callee := .value x, args := xs.toArray, argTypes := ts }, ty, pos, aft, none⟩ :: rest) l w := fun a ha =>
  wpListIn_plain rfl fun K hK => by
    obtain ⟨fn, tmps, assign, body, hrun, hround⟩ := hy
    refine ⟨fun _ _ => trivial, ?_⟩
    have : (execOp a.eval ⟨some d, .call { callee := .value x, args := xs.toArray, argTypes := ts }, ty, pos, aft, none⟩).run P w = .ok (.round lp fn tmps assign body) w := by
      simp [execOp, resolve, evs_eval ha hx, ha.eval hf, Deferred.ofValue, invoke, hrun]
    rw [Oper.semAt_eq _ a.eval _ (noDef_op rfl), this]
    refine ⟨fun h => (by cases h), RoundIn.mono hround ?_⟩
    rintro e w' ⟨rfl, hR⟩
    exact hK _ _ (k w' hR _ (ha.put hd _))

theorem s_max {x y : Operand} {t u : Nat} {kd : IntKind} {p q : Int} (hd : Nat.blt d n = true) (hx : ev l x = some (.int kd p)) (hy : ev l y = some (.int kd q)) (k : WL P n ops Q rest ((d, .int kd (if p < q then q else p)) :: l) w) :
    WL P n ops Q (⟨some d, .call { callee := .builtin .max, args := #[x, y], argTypes := #[t, u] }, ty, pos, aft, none⟩ :: rest) l w :=
  WL_val hd (fun a ha => by simp [execOp, resolve, invoke, builtin, ha.eval hx, ha.eval hy, Builtin.max_, Builtin.max2]) k

/-! ### a function with such a loop -/
def WM (P : Program) (n : Nat) (c : Code) (Q : List Deferred → Post) (D : List Deferred) (l : Fr) (w : World) : Prop :=
  ∀ a, Agr n l a → a.defers = D → c.wp P (fun e a' w' => ∃ l', Agr n l' a' ∧ Q a'.defers e l' w') a w
variable {QM : List Deferred → Post} {D : List Deferred}
theorem M_W {c : Code} (h : W P n c (QM D) l w) : WM P n c QM D l w := fun a ha hD => wp_mono (h a ha) fun e a' w' ⟨l', ⟨h1, h2⟩, h3⟩ => ⟨l', h1, by rw [h2, hD]; exact h3⟩
theorem M_seq {x y : Code} (h : WM P n x (fun D' => thenQ (WM P n y QM D') (QM D')) D l w) : WM P n (.seq x y) QM D l w := fun a ha hD =>
  wp_seq (wp_mono (h a ha hD) fun e a' w' ⟨l', h1, h2⟩ => by
    cases e with
    | normal => exact h2 a' h1 rfl
    | _ => exact ⟨l', h1, h2⟩)
theorem M_block {id : Nat} {c : Code} (h : WM P n c (fun D' => inBlk id (QM D')) D l w) : WM P n (.block id c) QM D l w := fun a ha hD =>
  wp_block (wp_mono (h a ha hD) fun e a' w' ⟨l', h1, h2⟩ => by
    cases e with
    | exit id' =>
      simp only [inBlk] at h2
      simp only [Exit.inBlock]
      split
      · rename_i e; rw [if_pos e] at h2; exact ⟨l', h1, h2⟩
      · rename_i e; rw [if_neg e] at h2; exact ⟨l', h1, h2⟩
    | _ => exact ⟨l', h1, h2⟩)
abbrev mark (D : Nat) : List Deferred := [{ target := .collected D, args := #[] }]
theorem M_range {F : List Nat} {w0 : World} {L : Hp} {g : Operand} {ps : Array Tmp} {assign body : Code} {f : Nat} {fi ca : List Value} (hcall : ∀ args w, (callFunc f args).run P w = .ok (.enter f args) w)
    (hg : ev l g = some (.func (.func f) fi.toArray ca.toArray)) (hs : St F w0 w L)
    (h : ∀ fn tm D w1 asg bo, asg = assign → bo = body → Agr n l ⟨tm, []⟩ → St F w0 w1 ((D + 1, .loop (lrec .ready fn tm ps asg bo D)) :: (D, .deferred (some [])) :: L) →
      Ret P f (fi ++ [Value.func (.yield (D + 1)) #[] #[]] ++ ca).toArray w1 fun _ w2 => ∃ L', St F w0 w2 ((D + 1, .loop (lrec .ready fn tm ps asg bo D)) :: (D, .deferred (some [])) :: L') ∧
        ∀ w3, St F w0 w3 ((D, .deferred (some [])) :: L') → QM (mark D) .normal l w3) : WM P n (.rangeFunc g ps assign body) QM [] l w := by
  intro a ha hD
  refine (wpIn_wide (n := 0)).1 (wpIn_rangeFunc fun fn _ => ?_)
  have hA : Agr n l ⟨a.tmps, []⟩ := ⟨ha.size, ha.vals⟩
  have hs1 := (hs.alloc (.deferred (some []))).alloc (.loop (lrec .ready fn a.tmps ps assign body w.heap.size))
  rw [World.size_alloc] at hs1
  generalize hW : (w.alloc (.deferred (some []))).alloc (.loop (lrec .ready fn a.tmps ps assign body w.heap.size)) = W1 at hs1
  have h1 := h fn a.tmps w.heap.size _ assign body rfl rfl hA hs1
  have hE := run_enterLoop_outer (P := P) (w := w) fn a.tmps ps assign body
  rw [hW] at hE
  refine ⟨w.heap.size + 1, mark w.heap.size, W1, { target := .fn (.func f) ca.toArray, args := (fi ++ [Value.func (.yield (w.heap.size + 1)) #[] #[]]).toArray }, W1, f, (fi ++ [Value.func (.yield (w.heap.size + 1)) #[] #[]] ++ ca).toArray, W1, hE, ?_, fun _ _ => trivial, ?_, fun h => (by cases h), calls_wide none (Calls.mono h1 ?_)⟩
  · have hc : ∀ v, a.eval (.const v) = v := fun _ => rfl
    simp [resolve, ha.eval hg, Deferred.ofValue, hc]
  · simp [invoke, hcall]
  · rintro e w2 ⟨v, rfl, L', hs2, hk⟩
    refine ⟨none, _, run_endLoop (hs2.at (k := 0) rfl) (by simp), ?_⟩
    refine ⟨l, ⟨ha.size, ha.vals⟩, ?_⟩
    show QM ([{ target := .collected w.heap.size, args := #[] }] ++ a.defers) .normal l _
    rw [hD]
    exact hk _ (hs2.putObj _).tail
def endM (P : Program) (fn : Func) (n : Nat) (R : Value → World → Prop) (D : List Deferred) : Post := fun e l w =>
  (D = [] ∧ endQ P fn n R e l w) ∨ ∃ b, D = mark b ∧ w.heap[b]? = some (.deferred (some [])) ∧ endQ P fn n R e l (w.putObj b (.deferred none))
theorem M_end0 {fn : Func} {R : Value → World → Prop} {e : Exit} (h : endQ P fn n R e l w) : endM P fn n R [] e l w := .inl ⟨rfl, h⟩
theorem M_end {fn : Func} {R : Value → World → Prop} {e : Exit} {F : List Nat} {w0 : World} {L : Hp} {b : Nat} (hs : St F w0 w ((b, .deferred (some [])) :: L)) (h : ∀ w', St F w0 w' L → endQ P fn n R e l w') : endM P fn n R (mark b) e l w :=
  .inr ⟨b, rfl, hs.at (k := 0) rfl, h _ (hs.putObj _).tail⟩
theorem Ret_ofM {f : FuncId} {fn : Func} {c : Code} {vs : List Value} {R : Value → World → Prop}
    (hf : P.funcs[f]? = some fn) (hb : fn.body = some c) (hn : fn.ntmps = n) (hle : Nat.ble vs.length n = true) (h : WM P n c (endM P fn n R) [] (slots vs 0) w) : Ret P f vs.toArray w R := by
  refine (callsIn_wide (n := 0)).1 (callsIn_of_wp_marks hf hb trivial ((wpIn_wide (n := 0)).2 (wp_mono (h _ ?_ rfl) ?_)))
  · have hle' : vs.length ≤ n := Nat.le_of_ble_eq_true hle
    refine ⟨by simp [hn]; omega, fun t v ht => ?_⟩
    obtain ⟨_, h2⟩ := get_slots vs 0 t ht
    have hlt : t < vs.length := by
      rcases Nat.lt_or_ge t vs.length with h | h
      · exact h
      · simp [List.getElem?_eq_none h] at h2
    simp [Array.getElem?_append, hlt] 
    simpa [hlt] using h2
  · rintro e a w' ⟨l, ha, hq⟩
    rcases hq with ⟨hD, hq⟩ | ⟨b, hD, hh, hq⟩
    · cases e with
      | normal => obtain ⟨v, h1, h2⟩ := hq a ha; show LeavesInM _ _ _ _ _ _ a.defers _ _; rw [hD]; exact ⟨v, h1, v, rfl, h2⟩
      | ret => obtain ⟨v, h1, h2⟩ := hq a ha; show LeavesInM _ _ _ _ _ _ a.defers _ _; rw [hD]; exact ⟨v, h1, v, rfl, h2⟩
      | _ => exact hq.elim
    · cases e with
      | normal =>
        obtain ⟨v, h1, h2⟩ := hq a ha
        show LeavesInM _ _ _ _ _ _ a.defers _ _
        rw [hD]
        exact ⟨by simp, .inl ⟨b, _, rfl, run_takeDeferred hh, v, h1, v, rfl, h2⟩⟩
      | ret =>
        obtain ⟨v, h1, h2⟩ := hq a ha
        show LeavesInM _ _ _ _ _ _ a.defers _ _
        rw [hD]
        exact ⟨by simp, .inl ⟨b, _, rfl, run_takeDeferred hh, v, h1, v, rfl, h2⟩⟩
      | _ => exact hq.elim
end
end Go.SL
