/- Maps with string keys, ranges over strings, function values, strings, comparisons of structs. No program in sight. -/
import Derived.Test.YtkobigdfijeajaaHopt
import Derived.Laws.StructEq
import Derived.Laws.RangeAny
import Derived.Laws.IdiomStrings
set_option linter.unusedVariables false
set_option linter.unusedSimpArgs false
namespace Go.SL
theorem toList_inj' {a b : ByteArray} : a.toList = b.toList ↔ a = b := by
  constructor
  · intro h
    have ha : a.data.toList = b.data.toList := by simpa [ByteArray.toList_eq] using h
    cases a; cases b; congr 1; exact Array.toList_inj.1 ha
  · rintro rfl; rfl
theorem beqL (p q : ByteArray) : (p.toList == q.toList) = decide (p = q) := by
  by_cases h : p = q
  · subst h; simp
  · simp [h, toList_inj']
theorem beqB (p q : ByteArray) : (p == q) = decide (p = q) := by rw [beq_toListBytes, beqL]

/-! ### maps with string keys -/
def ent (e : ByteArray × Value × Nat) : MapEntry := ⟨.string e.1, e.2.1, e.2.2⟩
def fnd (s : ByteArray) : List (ByteArray × Value × Nat) → Nat → Option (Nat × Value)
  | [], _ => none
  | e :: r, i => if s = e.1 then some (i, e.2.1) else fnd s r (i + 1)
def upd (s : ByteArray) (v : Value) : List (ByteArray × Value × Nat) → List (ByteArray × Value × Nat)
  | [] => []
  | e :: r => if s = e.1 then (s, v, e.2.2) :: r else e :: upd s v r
/-- a map that reads as f -/
def MapS (o : Obj) (f : ByteArray → Option Value) : Prop :=
  ∃ es c, o = .map (es.map ent).toArray c ∧ ∀ s, (fnd s es 0).map (·.2) = f s
theorem findNow_ent (s : ByteArray) (es : List (ByteArray × Value × Nat)) (i : Nat) : Instr.findNow .string (.string s) (es.map ent) i = some (fnd s es i) := by
  induction es generalizing i with
  | nil => rfl
  | cons e r ih =>
    simp only [List.map_cons, Instr.findNow, ent, Instr.sameNow, fnd, beqB]
    by_cases h : s = e.1
    · simp [h]
    · simp only [h, decide_false, if_false]; exact ih (i + 1)
theorem fnd_ge {s : ByteArray} {v : Value} {j : Nat} : ∀ {es : List (ByteArray × Value × Nat)} {i : Nat}, fnd s es i = some (j, v) → i ≤ j
  | e :: r, i, h => by
    simp only [fnd] at h
    split at h
    · simp at h; omega
    · have := fnd_ge h; omega
theorem fnd_upd {s : ByteArray} {v v0 : Value} {j : Nat} : ∀ {es : List (ByteArray × Value × Nat)} {i : Nat}, fnd s es i = some (j, v0) →
    ∃ e, (es.map ent)[j - i]? = some e ∧ e.key = .string s ∧ (es.map ent).modify (j - i) (fun e => { e with key := .string s, val := v }) = (upd s v es).map ent
  | e :: r, i, h => by
    simp only [fnd] at h
    split at h
    · rename_i hs
      simp at h
      obtain ⟨rfl, rfl⟩ := h
      exact ⟨ent e, by simp, by simp [ent, hs], by simp [upd, hs, ent]⟩
    · rename_i hs
      have hle := fnd_ge h
      obtain ⟨e', h1, h2, h3⟩ := fnd_upd (v := v) h
      have : j - i = (j - (i + 1)) + 1 := by omega
      refine ⟨e', by rw [this]; simpa using h1, h2, ?_⟩
      rw [this, List.map_cons, List.modify_succ_cons, h3]; simp [upd, hs]
theorem upd_at (s : ByteArray) (v : Value) (es : List (ByteArray × Value × Nat)) (i k : Nat) (t : ByteArray) (h : (fnd s es k).isSome) : (fnd t (upd s v es) i).map (·.2) = if t = s then some v else (fnd t es i).map (·.2) := by
  induction es generalizing i k with
  | nil => simp [fnd] at h
  | cons e r ih =>
    by_cases hs : s = e.1
    · subst hs
      by_cases ht : t = e.1
      · simp [upd, fnd, ht]
      · simp [upd, fnd, ht]
    · have hr : (fnd s r (k + 1)).isSome := by simpa [fnd, hs] using h
      simp only [upd, hs, if_false, fnd]
      by_cases ht : t = e.1
      · have : t ≠ s := fun h => hs (h ▸ ht)
        simp [ht, Ne.symm hs]
      · simp only [ht, if_false]; exact ih (i + 1) (k + 1) hr
theorem fnd_push (es : List (ByteArray × Value × Nat)) (s t : ByteArray) (v : Value) (c i k : Nat) (h : fnd s es k = none) : (fnd t (es ++ [(s, v, c)]) i).map (·.2) = if t = s then some v else (fnd t es i).map (·.2) := by
  induction es generalizing i k with
  | nil => by_cases ht : t = s <;> simp [fnd, ht]
  | cons e r ih =>
    have hs : s ≠ e.1 := by intro hs; simp [fnd, hs] at h
    have hr : fnd s r (k + 1) = none := by simpa [fnd, hs] using h
    simp only [List.cons_append, fnd]
    by_cases ht : t = e.1
    · have : t ≠ s := fun h => hs (h ▸ ht)
      simp [ht, Ne.symm hs]
    · simp only [ht, if_false]; exact ih (i + 1) (k + 1) hr
section
variable {P : Program} {n : Nat} {ops : Array Oper} {Q : Post} {l : Fr} {w : World} {rest : List Oper} {d ty : Nat} {pos : String} {aft : Array Edge} {F : List Nat} {w0 : World} {L : Hp}
theorem MapS.empty (c : Nat) : MapS (.map #[] c) (fun _ => none) := ⟨[], c, rfl, fun _ => rfl⟩
theorem checkKey_str {kt : Nat} {s : ByteArray} (hk : P.underlying kt = some .string) (b : Bool) (w : World) : (Instr.checkKey b 10000 kt (.string s)).run P w = .ok () w := by
  have h : ∀ m, (Instr.checkKey b (m + 1) kt (.string s)).run P w = .ok () w := fun m => by simp [Instr.checkKey, run_underlying hk]
  exact h 9999
theorem run_lookup_S {t kt et r : Nat} {s : ByteArray} {o : Obj} {f : ByteArray → Option Value} {z : Value} (hu : P.underlying t = some (.map kt et)) (hk : P.underlying kt = some .string) (hz : ∀ w, (zeroValue et).run P w = .ok z w)
    (ho : w.heap[r]? = some o) (hm : MapS o f) : (Instr.lookup t (.map (some r)) (.string s) true).run P w = .ok (.tuple #[(f s).getD z, .bool (f s).isSome]) w := by
  obtain ⟨es, c, rfl, hf⟩ := hm
  have := hf s
  simp only [Instr.lookup, Sem.run_bind, run_underlying hu, Result.andThen_ok, getObj, Sem.run, ho, Result.andThen, Instr.findKey, checkKey_str hk, run_underlying hk, List.toList_toArray, findNow_ent]
  cases hq : fnd s es 0 with
  | none => rw [hq] at this; simp only [Option.map_none] at this; simp [← this, hz, findNow_ent, hq]
  | some p => rw [hq] at this; obtain ⟨i, v⟩ := p; simp only [Option.map_some] at this; simp [← this, findNow_ent, hq]
theorem s_makeMap {t : Nat} (hd : Nat.blt d n = true) (hs : St F w0 w L) (k : ∀ b w', St F w0 w' ((b, .map #[] 0) :: L) → WL P n ops Q rest ((d, .map (some b)) :: l) w') :
    WL P n ops Q (⟨some d, .makeMap t none, ty, pos, aft, none⟩ :: rest) l w := WL_val hd (fun a ha => by simp [execOp, Instr.makeMap, newObj, Sem.run]) (k _ _ (hs.alloc _))
theorem s_lookup {t kt et r kk : Nat} {x y : Operand} {s : ByteArray} {o : Obj} {f : ByteArray → Option Value} {z : Value} (hu : P.underlying t = some (.map kt et)) (hk : P.underlying kt = some .string) (hz : ∀ w, (zeroValue et).run P w = .ok z w)
    (hd : Nat.blt d n = true) (hx : ev l x = some (.map (some r))) (hy : ev l y = some (.string s)) (hs : St F w0 w L) (hkk : L[kk]? = some (r, o)) (hm : MapS o f)
    (k : WL P n ops Q rest ((d, .tuple #[(f s).getD z, .bool (f s).isSome]) :: l) w) : WL P n ops Q (⟨some d, .lookup t x y true, ty, pos, aft, none⟩ :: rest) l w :=
  WL_val hd (fun a ha => by simp [execOp, ha.eval hx, ha.eval hy, run_lookup_S hu hk hz (hs.at hkk) hm]) k
theorem St.setObj (h : St F w0 w L) {k b : Nat} {o : Obj} (hk : L[k]? = some (b, o)) (o' : Obj) : St F w0 { w with heap := w.heap.setIfInBounds b o' } (L.set k (b, o')) := by
  have hb : b < w.heap.size := (Array.getElem?_eq_some_iff.1 (h.at hk)).1
  exact h.write hk rfl rfl rfl (by simp) (by simp [hb]) (fun j hj => by simp [Array.getElem?_setIfInBounds_ne (Ne.symm hj)])
theorem s_mapUpdate {t kt et r kk : Nat} {x y z : Operand} {s : ByteArray} {o : Obj} {v : Value} {f : ByteArray → Option Value} (hu : P.underlying t = some (.map kt et)) (hk : P.underlying kt = some .string)
    (hx : ev l x = some (.map (some r))) (hy : ev l y = some (.string s)) (hz : ev l z = some v) (hs : St F w0 w L) (hkk : L[kk]? = some (r, o)) (hm : MapS o f)
    (k : ∀ w' o', MapS o' (fun q => if q = s then some v else f q) → St F w0 w' (L.set kk (r, o')) → WL P n ops Q rest l w') : WL P n ops Q (⟨none, .mapUpdate t x y z, ty, pos, aft, none⟩ :: rest) l w := by
  obtain ⟨es, c, rfl, hf⟩ := hm
  have hat := hs.at hkk
  cases hq : fnd s es 0 with
  | none =>
    refine WL_skip0 (w' := { w with heap := w.heap.setIfInBounds r (.map ((es ++ [(s, v, c)]).map ent).toArray (c + 1)) }) (fun a ha => ?_) (k _ _ ?_ (hs.setObj hkk _))
    · simp only [execOp, ha.eval hx, ha.eval hy, ha.eval hz, Instr.mapUpdate, Sem.run_bind, run_underlying hu, Result.andThen_ok, getObj, Go.setObj, Sem.run, hat, Result.andThen, Instr.findKey, checkKey_str hk, run_underlying hk, List.toList_toArray, findNow_ent, hq]
      simp [ent, findNow_ent, hq, Go.setObj, Sem.run, hat]
    · exact ⟨_, _, rfl, fun q => by rw [fnd_push es s q v c 0 0 hq, hf q]⟩
  | some p =>
    obtain ⟨i, v0⟩ := p
    obtain ⟨e, h1, h2, h3⟩ := fnd_upd (v := v) hq
    simp only [Nat.sub_zero] at h1 h3
    refine WL_skip0 (w' := { w with heap := w.heap.setIfInBounds r (.map ((upd s v es).map ent).toArray c) }) (fun a ha => ?_) (k _ _ ?_ (hs.setObj hkk _))
    · have h4 : ((es.map ent).toArray[i]?) = some e := by simpa using h1
      have h5 : Instr.sameBits 10000 (.string s) (.string s) = true := by simp [Instr.sameBits, beqB]
      simp only [execOp, ha.eval hx, ha.eval hy, ha.eval hz, Instr.mapUpdate, Sem.run_bind, run_underlying hu, Result.andThen_ok, getObj, Go.setObj, Sem.run, hat, Result.andThen, Instr.findKey, checkKey_str hk, run_underlying hk, List.toList_toArray, findNow_ent, hq, h4, Option.map_some, Option.getD_some, h2, Instr.keyThatStays, h5, if_true, Sem.run_pure]
      congr 3
      apply congrArg (fun x => Obj.map x c)
      apply Array.toList_inj.1
      simp only [Array.toList_modify, List.toList_toArray]
      exact h3
    · exact ⟨_, _, rfl, fun q => by rw [upd_at s v es 0 0 q (by rw [hq]; rfl), hf q]⟩

theorem St.swap {A B : Hp} (h : St F w0 w (A ++ B)) : St F w0 w (B ++ A) := h.perm List.perm_append_comm
/-! ### ranges over a string -/
theorem s_range_str {t : Nat} {x : Operand} {s : ByteArray} (hu : P.underlying t = some .string) (hd : Nat.blt d n = true) (hx : ev l x = some (.string s)) (hs : St F w0 w L)
    (k : ∀ b w', St F w0 w' ((b, .stringIter s 0) :: L) → WL P n ops Q rest ((d, .pointer (some ⟨b, 0, none⟩)) :: l) w') : WL P n ops Q (⟨some d, .range t x, ty, pos, aft, none⟩ :: rest) l w :=
  WL_val hd (fun a ha => by simp [execOp, ha.eval hx, Instr.range, run_underlying hu, newObj, Sem.run]) (k _ _ (hs.alloc _))
theorem s_next_str {x : Operand} {s : ByteArray} {b p kk : Nat} (hd : Nat.blt d n = true) (hx : ev l x = some (.pointer (some ⟨b, 0, none⟩))) (hs : St F w0 w L) (hkk : L[kk]? = some (b, .stringIter s p)) (hp : p < s.size)
    (k : ∀ w', St F w0 w' (L.set kk (b, .stringIter s (p + (Utf8.decode s p).2))) → WL P n ops Q rest ((d, .tuple #[.bool true, .int .i64 p, .int .i32 (Utf8.decode s p).1]) :: l) w') :
    WL P n ops Q (⟨some d, .next x true, ty, pos, aft, none⟩ :: rest) l w := by
  have hat := hs.at hkk
  exact WL_val hd (fun a ha => by simp [execOp, ha.eval hx, Instr.next, getObj, Go.setObj, Sem.run, hat, hp, goInt]) (k _ (hs.setObj hkk _))
theorem s_next_end {x : Operand} {s : ByteArray} {b p kk : Nat} (hd : Nat.blt d n = true) (hx : ev l x = some (.pointer (some ⟨b, 0, none⟩))) (hs : St F w0 w L) (hkk : L[kk]? = some (b, .stringIter s p)) (hp : s.size ≤ p)
    (k : WL P n ops Q rest ((d, .tuple #[.bool false]) :: l) w) : WL P n ops Q (⟨some d, .next x true, ty, pos, aft, none⟩ :: rest) l w := by
  have hat := hs.at hkk
  have hp' : ¬ p < s.size := by omega
  exact WL_val hd (fun a ha => by simp [execOp, ha.eval hx, Instr.next, getObj, Sem.run, hat, hp']) k

/-! ### function values -/
theorem s_makeFunc {f : Fn} {xs ys : List Operand} {us vs : List Value} (hd : Nat.blt d n = true) (hx : evs l xs = some us) (hy : evs l ys = some vs) (k : WL P n ops Q rest ((d, .func f us.toArray vs.toArray) :: l) w) :
    WL P n ops Q (⟨some d, .makeFunc f xs.toArray ys.toArray, ty, pos, aft, none⟩ :: rest) l w := WL_val hd (fun a ha => by simp [execOp, Instr.makeFunc, evs_eval ha hx, evs_eval ha hy]) k
theorem s_callV {f : Nat} {x : Operand} {xs : List Operand} {vs fi ca : List Value} {ts : Array TypeId} {R : Value → World → Prop} (hcall : ∀ args w, (callFunc f args).run P w = .ok (.enter f args) w) (hd : Nat.blt d n = true) (hf : ev l x = some (.func (.func f) fi.toArray ca.toArray)) (hx : evs l xs = some vs)
    (hc : Ret P f (fi ++ vs ++ ca).toArray w R) (k : ∀ v w', R v w' → WL P n ops Q rest ((d, v) :: l) w') :
    WL P n ops Q (⟨some d, .call { callee := .value x, args := xs.toArray, argTypes := ts }, ty, pos, aft, none⟩ :: rest) l w := fun a ha =>
  wpList_plain rfl fun K hK => by
    unfold Oper.wp
    have : (execOp a.eval ⟨some d, .call { callee := .value x, args := xs.toArray, argTypes := ts }, ty, pos, aft, none⟩).run P w = .ok (.enter f (fi ++ vs ++ ca).toArray) w := by
      simp [execOp, resolve, evs_eval ha hx, ha.eval hf, Deferred.ofValue, invoke, hcall]
    rw [this]
    refine Calls.mono hc ?_
    rintro e w' ⟨v, rfl, hv⟩
    exact hK _ _ (k v w' hv _ (ha.put hd v))
/-! ### structs -/
theorem eqF_nil {dd : Nat} {xs ys : Array Value} : (Op.eqFields dd xs ys []).run P w = .ok true w := by simp [Op.eqFields]
theorem eqF_cons {f : Field} {fs : List Field} {dd : Nat} {xs ys : Array Value} {a b : Value} {r q : Bool} (hn : f.name ≠ "_") (ha : ∀ w, (part f.type xs f.offset).run P w = .ok a w) (hb : ∀ w, (part f.type ys f.offset).run P w = .ok b w)
    (hr : ∀ w, (Op.equalIn dd f.type a b).run P w = .ok r w) (hq : ∀ w, (Op.eqFields dd xs ys fs).run P w = .ok q w) : (Op.eqFields dd xs ys (f :: fs)).run P w = .ok (r && q) w := by
  simp only [Op.eqFields, hn, ne_eq, not_false_eq_true, if_true, Sem.run_bind, ha, hb, hr, Result.andThen_ok]
  cases r <;> simp [hq]
theorem s_eql_agg {x y : Operand} {t t' : Nat} {xs ys : List Value} {b : Bool} (hg : P.eqGuardType P.depth t = false) (hd : Nat.blt d n = true) (hx : ev l x = some (.agg xs.toArray)) (hy : ev l y = some (.agg ys.toArray)) (h : ∀ w, (Op.equalIn 10000 t (.agg xs.toArray) (.agg ys.toArray)).run P w = .ok b w)
    (k : WL P n ops Q rest ((d, .bool b) :: l) w) : WL P n ops Q (⟨some d, .binOp .eql t x y t', ty, pos, aft, none⟩ :: rest) l w := WL_val hd (fun a ha => by
      simp only [execOp, ha.eval hx, ha.eval hy, Sem.run_bind, run_eqGuard_agg w _ t _ _ _ _ hg, run_eql_struct, h, Result.andThen_ok, Sem.run_pure]) k
theorem s_neq_agg {x y : Operand} {t t' : Nat} {xs ys : List Value} {b : Bool} (hg : P.eqGuardType P.depth t = false) (hd : Nat.blt d n = true) (hx : ev l x = some (.agg xs.toArray)) (hy : ev l y = some (.agg ys.toArray)) (h : ∀ w, (Op.equalIn 10000 t (.agg xs.toArray) (.agg ys.toArray)).run P w = .ok b w)
    (k : WL P n ops Q rest ((d, .bool (!b)) :: l) w) : WL P n ops Q (⟨some d, .binOp .neq t x y t', ty, pos, aft, none⟩ :: rest) l w := WL_val hd (fun a ha => by
      simp only [execOp, ha.eval hx, ha.eval hy, Sem.run_bind, run_eqGuard_agg w _ t _ _ _ _ hg, run_neq_struct, h, Result.andThen_ok, Sem.run_pure]) k

theorem equalIn_slice_nil {t e m c : Nat} {a : Option Addr} (hu : P.underlying t = some (.slice e)) (dd : Nat) (w : World) : (Op.equalIn (dd + 1) t (.slice a m c) (.slice none 0 0)).run P w = .ok a.isNone w := by
  cases a <;> simp [Op.equalIn, run_underlying hu]
theorem s_eql_slice_nil {x y : Operand} {t e t' m c : Nat} {a : Option Addr} (hu : P.underlying t = some (.slice e)) (hd : Nat.blt d n = true) (hx : ev l x = some (.slice a m c)) (hy : ev l y = some (.slice none 0 0)) (k : WL P n ops Q rest ((d, .bool a.isNone) :: l) w) :
    WL P n ops Q (⟨some d, .binOp .eql t x y t', ty, pos, aft, none⟩ :: rest) l w := WL_val hd (fun ac ha => by
      simp only [execOp, ha.eval hx, ha.eval hy, eqGuard, binOp, Sem.run_bind]
      have := eql_of (equalIn_slice_nil (m := m) (c := c) (a := a) hu 9999 w)
      simp [this]) k
theorem s_lookup2 {t kt et r kk : Nat} {x y : Operand} {s : ByteArray} {o : Obj} {f : ByteArray → Option Value} {z v : Value} {b : Bool} (hu : P.underlying t = some (.map kt et)) (hk : P.underlying kt = some .string) (hz : ∀ w, (zeroValue et).run P w = .ok z w)
    (hd : Nat.blt d n = true) (hx : ev l x = some (.map (some r))) (hy : ev l y = some (.string s)) (hs : St F w0 w L) (hkk : L[kk]? = some (r, o)) (hm : MapS o f) (hv : (f s).getD z = v) (hb : (f s).isSome = b)
    (k : WL P n ops Q rest ((d, .tuple #[v, .bool b]) :: l) w) : WL P n ops Q (⟨some d, .lookup t x y true, ty, pos, aft, none⟩ :: rest) l w :=
  s_lookup hu hk hz hd hx hy hs hkk hm (by rw [hv, hb]; exact k)

/-! ### strings -/
/-- append the bytes of a string -/
theorem s_appendStr {x y : Operand} {t u e bytes m : Nat} {zs cs : List Value} {v : Value} {s : ByteArray} {Lv M X : Hp} (el : El P t e zs 1 bytes) (hu : P.underlying u = some .string) (hd : Nat.blt d n = true) (hx : ev l x = some v) (hy : ev l y = some (.string s))
    (hv : OwnS e 1 v m cs Lv) (hs : St F w0 w (M ++ (Lv ++ X))) (h63 : m + s.size ≤ 9223372036854775807 ∧ (m + s.size) * bytes ≤ 140737488355328)
    (k : ∀ v' w' Lv', OwnS e 1 v' (m + s.size) (cs ++ s.data.toList.map fun b => Value.int .u8 b.toNat) Lv' → St F w0 w' (M ++ (Lv' ++ X)) → WL P n ops Q rest ((d, v') :: l) w') :
    WL P n ops Q (⟨some d, .call { callee := .builtin .append, args := #[x, y], argTypes := #[t, u] }, ty, pos, aft, none⟩ :: rest) l w := by
  obtain ⟨v', w', Lv', hr, ho, hst⟩ := run_append_S (ty := ty) el hv hs.pull (Src.str hu s) (by rw [Nat.mul_one, List.length_map, Array.length_toList]; rfl) (by intro c hc; obtain ⟨b, _, rfl⟩ := List.mem_map.1 hc; rfl) h63.1 h63.2
  exact WL_val hd (fun a ha => by simp [execOp, resolve, invoke, builtin, ha.eval hx, ha.eval hy, hr]) (k v' w' Lv' ho hst.pull)
/-- a slice that is read alone: its blocks -/
structure RdS (v : Value) (n : Nat) (cs : List Value) (L : Hp) : Prop where
  sl : ∀ w : World, (∀ p ∈ L, w.heap[p.1]? = some p.2) → Sl w v n cs
  inL : ∀ a m c, v = .slice (some a) m c → cs ≠ [] → a.block ∈ ids L
theorem OwnS.rdS {e size m : Nat} {v : Value} {cs : List Value} {Lv : Hp} (h : OwnS e size v m cs Lv) : RdS v m cs Lv := by
  refine ⟨fun w hw => ?_, fun a m' c he hne => ?_⟩
  · refine h.sl (F := ids Lv) (w0 := w) (M := []) ⟨Fwd.refl _ _, ?_, by simpa using hw, fun x hx => .inl (mem_ids_of (by simpa using hx))⟩
    rcases h.2 with ⟨_, _, rfl⟩ | ⟨g, cap, sp, _, _, _, _, rfl⟩ <;> simp [ids]
  · rcases h.2 with ⟨_, h2, _⟩ | ⟨g, cap, sp, h1, _, _, _, rfl⟩
    · exact absurd (List.eq_nil_of_length_eq_zero (by rw [h.1, h2]; simp)) hne
    · rw [he] at h1; cases h1; simp [ids]
theorem RdS.nil : RdS (.slice none 0 0) 0 [] [] := ⟨fun _ _ => ⟨none, 0, rfl, Nat.le_refl _, .inl rfl⟩, fun a m c h => by cases h⟩
theorem RdS.form {v : Value} {m : Nat} {cs : List Value} {Lv : Hp} (h : RdS v m cs Lv) (w : World) (hw : ∀ p ∈ Lv, w.heap[p.1]? = some p.2) : ∃ tl tc ta, v = .slice ta tl tc ∧ tl = m := by
  obtain ⟨a, c, h1, _⟩ := h.sl w hw; exact ⟨m, c, a, h1, rfl⟩
end
end Go.SL
