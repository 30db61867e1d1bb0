/- Maps with int keys: lookup, update, delete, len, range. No program in sight. -/
import Derived.Test.YtkobigdfijeajaaLib
import Derived.Maps.RangeRun
set_option linter.unusedVariables false
set_option linter.unusedSimpArgs false
namespace Go.SL
open Go.ChangeMaps (setBlock)
abbrev IEs := List (Int × Value × Nat)
abbrev KVs := List (Int × Value)
def entI (e : Int × Value × Nat) : MapEntry := ⟨.int .i64 e.1, e.2.1, e.2.2⟩
def kv (e : Int × Value × Nat) : Int × Value := (e.1, e.2.1)
def fndI (k : Int) : IEs → Nat → Option (Nat × Value)
  | [], _ => none
  | e :: r, i => if k = e.1 then some (i, e.2.1) else fndI k r (i + 1)
def lookI (k : Int) : KVs → Option Value
  | [] => none
  | e :: r => if k = e.1 then some e.2 else lookI k r
def updI (k : Int) (v : Value) : KVs → KVs
  | [] => [(k, v)]
  | e :: r => if k = e.1 then (k, v) :: r else e :: updI k v r
theorem lookI_upd (k : Int) (v : Value) (es : KVs) (q : Int) : lookI q (updI k v es) = if q = k then some v else lookI q es := by
  induction es with
  | nil => simp [updI, lookI]
  | cons e r ih =>
    rw [updI]
    split
    · rename_i h; subst h
      by_cases hq : q = e.1 <;> simp [lookI, hq]
    · rename_i h
      rw [lookI, lookI, ih]
      by_cases hq : q = e.1
      · have : q ≠ k := fun h2 => h (h2 ▸ hq)
        simp [hq, Ne.symm h]
      · simp [hq]
theorem lookI_mem {k : Int} {v : Value} {es : KVs} (h : lookI k es = some v) : (k, v) ∈ es := by
  induction es with
  | nil => cases h
  | cons e r ih =>
    rw [lookI] at h
    split at h
    · rename_i hk; cases h; rw [hk]; exact List.mem_cons_self
    · exact List.mem_cons_of_mem _ (ih h)
theorem lookI_of_mem {k : Int} {v : Value} {es : KVs} (hn : (es.map Prod.fst).Nodup) (h : (k, v) ∈ es) : lookI k es = some v := by
  induction es with
  | nil => cases h
  | cons e r ih =>
    rw [List.map_cons, List.nodup_cons] at hn
    rw [lookI]
    rcases List.mem_cons.1 h with h | h
    · rw [← h]; simp
    · have : k ≠ e.1 := fun hk => hn.1 (hk ▸ List.mem_map_of_mem (f := Prod.fst) h)
      rw [if_neg this]; exact ih hn.2 h
theorem keys_upd (k : Int) (v : Value) (es : KVs) : (updI k v es).map Prod.fst = if k ∈ es.map Prod.fst then es.map Prod.fst else es.map Prod.fst ++ [k] := by
  induction es with
  | nil => simp [updI]
  | cons e r ih =>
    rw [updI]
    split
    · rename_i h; simp [h]
    · rename_i h
      rw [List.map_cons, ih]
      by_cases h2 : k ∈ r.map Prod.fst
      · rw [if_pos h2, if_pos (by simp [h2]), List.map_cons]
      · rw [if_neg h2, if_neg (by simp only [List.map_cons, List.mem_cons, not_or]; exact ⟨h, h2⟩)]; rfl
theorem nodup_upd {k : Int} {v : Value} {es : KVs} (hn : (es.map Prod.fst).Nodup) : ((updI k v es).map Prod.fst).Nodup := by
  rw [keys_upd]
  split
  · exact hn
  · rename_i h
    rw [List.nodup_append]
    exact ⟨hn, by simp, fun a ha b hb => by simp at hb; subst hb; exact fun e => h (e ▸ ha)⟩
theorem nodup_inj {α β : Type} {f : α → β} {l : List α} (h : (l.map f).Nodup) {a b : α} (ha : a ∈ l) (hb : b ∈ l) (e : f a = f b) : a = b := by
  induction l with
  | nil => cases ha
  | cons c r ih =>
    rw [List.map_cons, List.nodup_cons] at h
    rcases List.mem_cons.1 ha with h1 | h1
    · rcases List.mem_cons.1 hb with h2 | h2
      · rw [h1, h2]
      · exact absurd (by rw [← h1, e]; exact List.mem_map_of_mem h2) h.1
    · rcases List.mem_cons.1 hb with h2 | h2
      · exact absurd (by rw [← h2, ← e]; exact List.mem_map_of_mem h1) h.1
      · exact ih h.2 h1 h2
/-- a map with int keys: its entries, in whatever order -/
def MapI (o : Obj) (es : KVs) : Prop :=
  ∃ ies : IEs, ∃ c, o = .map (ies.map entI).toArray c ∧ es = ies.map kv ∧ (ies.map (·.2.2)).Nodup ∧ (∀ e ∈ ies, e.2.2 < c) ∧ (es.map Prod.fst).Nodup
theorem MapI.empty : MapI (.map #[] 0) [] := ⟨[], 0, rfl, rfl, by simp, by simp, by simp⟩
theorem MapI.keys {o : Obj} {es : KVs} (h : MapI o es) : (es.map Prod.fst).Nodup := by obtain ⟨_, _, _, _, _, _, h⟩ := h; exact h
theorem findNow_I (k : Int) (es : IEs) (i : Nat) : Instr.findNow (.int .i64) (.int .i64 k) (es.map entI) i = some (fndI k es i) := by
  induction es generalizing i with
  | nil => rfl
  | cons e r ih =>
    simp only [List.map_cons, Instr.findNow, entI, Instr.sameNow, fndI, if_true]
    by_cases h : k = e.1
    · simp [h]
    · simp only [h, if_false, beq_iff_eq, show (k == e.1) = false by simp [h]]; exact ih (i + 1)
theorem fndI_look (k : Int) (es : IEs) (i : Nat) : (fndI k es i).map (·.2) = lookI k (es.map kv) := by
  induction es generalizing i with
  | nil => rfl
  | cons e r ih =>
    rw [fndI, List.map_cons, lookI]
    by_cases h : k = e.1
    · simp [h, kv]
    · simp only [h, kv, if_false]; exact ih (i + 1)
theorem fndI_ge {k : Int} {v : Value} {j : Nat} : ∀ {es : IEs} {i : Nat}, fndI k es i = some (j, v) → i ≤ j
  | e :: r, i, h => by
    simp only [fndI] at h
    split at h
    · simp at h; omega
    · have := fndI_ge h; omega
theorem fndI_upd {k : Int} {v v0 : Value} {j : Nat} : ∀ {es : IEs} {i : Nat}, fndI k es i = some (j, v0) →
    ∃ (e : MapEntry) (es' : IEs), (es.map entI)[j - i]? = some e ∧ e.key = .int .i64 k ∧ (es.map entI).modify (j - i) (fun e => { e with key := .int .i64 k, val := v }) = es'.map entI ∧ es'.map kv = updI k v (es.map kv) ∧ es'.map (·.2.2) = es.map (·.2.2)
  | e :: r, i, h => by
    simp only [fndI] at h
    split at h
    · rename_i hk
      simp at h
      obtain ⟨rfl, rfl⟩ := h
      exact ⟨entI e, (k, v, e.2.2) :: r, by simp, by simp [entI, hk], by simp [entI], by simp [updI, kv, hk], by simp⟩
    · rename_i hk
      have hle := fndI_ge h
      obtain ⟨e', es', h1, h2, h3, h4, h5⟩ := fndI_upd (v := v) h
      have : j - i = (j - (i + 1)) + 1 := by omega
      refine ⟨e', e :: es', by rw [this]; simpa using h1, h2, ?_, ?_, ?_⟩
      · rw [this, List.map_cons, List.modify_succ_cons, h3, List.map_cons]
      · rw [List.map_cons, List.map_cons, updI, if_neg (by simpa [kv] using hk), h4]
      · simp [h5]
theorem fndI_push {k : Int} {v : Value} : ∀ {es : IEs} {i : Nat}, fndI k es i = none → ∀ c, (es ++ [(k, v, c)]).map kv = updI k v (es.map kv)
  | [], _, _, c => rfl
  | e :: r, i, h, c => by
    have hk : k ≠ e.1 := by intro hk; simp [fndI, hk] at h
    have hr : fndI k r (i + 1) = none := by simpa [fndI, hk] using h
    rw [List.cons_append, List.map_cons, List.map_cons, updI, if_neg (by simpa [kv] using hk), fndI_push hr c]
section
variable {P : Program} {n : Nat} {ops : Array Oper} {Q : Post} {l : Fr} {w : World} {rest : List Oper} {d ty : Nat} {pos : String} {aft : Array Edge} {F : List Nat} {w0 : World} {L : Hp}
theorem checkKey_int {kt : Nat} {kd : IntKind} {z : Int} (hk : P.underlying kt = some (.int kd)) (b : Bool) (w : World) : (Instr.checkKey b 10000 kt (.int kd z)).run P w = .ok () w := by
  have h : ∀ m, (Instr.checkKey b (m + 1) kt (.int kd z)).run P w = .ok () w := fun m => by simp [Instr.checkKey, run_underlying hk]
  exact h 9999
theorem s_lookupI {t kt et r kk : Nat} {x y : Operand} {z : Int} {o : Obj} {es : KVs} {zv : Value} (hu : P.underlying t = some (.map kt et)) (hk : P.underlying kt = some (.int .i64)) (hz : ∀ w, (zeroValue et).run P w = .ok zv w)
    (hd : Nat.blt d n = true) (hx : ev l x = some (.map (some r))) (hy : ev l y = some (.int .i64 z)) (hs : St F w0 w L) (hkk : L[kk]? = some (r, o)) (hm : MapI o es)
    (k : WL P n ops Q rest ((d, (lookI z es).getD zv) :: l) w) : WL P n ops Q (⟨some d, .lookup t x y false, ty, pos, aft, none⟩ :: rest) l w := by
  obtain ⟨ies, c, rfl, rfl, _⟩ := hm
  have ho := hs.at hkk
  have hf := fndI_look z ies 0
  refine WL_val hd (fun a ha => ?_) k
  simp only [execOp, ha.eval hx, ha.eval hy, Instr.lookup, Sem.run_bind, run_underlying hu, Result.andThen_ok, getObj, Sem.run, ho, Result.andThen, Instr.findKey, checkKey_int hk, run_underlying hk, List.toList_toArray, findNow_I]
  cases hq : fndI z ies 0 with
  | none => rw [hq] at hf; simp only [Option.map_none] at hf; simp [← hf, hz, findNow_I, hq]
  | some p => rw [hq] at hf; obtain ⟨i, v⟩ := p; simp only [Option.map_some] at hf; simp [← hf, findNow_I, hq]
theorem s_mapUpdateI {t kt et r kk : Nat} {x y z : Operand} {s : Int} {o : Obj} {v : Value} {es : KVs} (hu : P.underlying t = some (.map kt et)) (hk : P.underlying kt = some (.int .i64))
    (hx : ev l x = some (.map (some r))) (hy : ev l y = some (.int .i64 s)) (hz : ev l z = some v) (hs : St F w0 w L) (hkk : L[kk]? = some (r, o)) (hm : MapI o es)
    (k : ∀ w' o', MapI o' (updI s v es) → St F w0 w' (L.set kk (r, o')) → WL P n ops Q rest l w') : WL P n ops Q (⟨none, .mapUpdate t x y z, ty, pos, aft, none⟩ :: rest) l w := by
  have hkeys := hm.keys
  obtain ⟨ies, c, rfl, rfl, hst, hlt, _⟩ := hm
  have hat := hs.at hkk
  cases hq : fndI s ies 0 with
  | none =>
    refine WL_skip0 (w' := { w with heap := w.heap.setIfInBounds r (.map ((ies ++ [(s, v, c)]).map entI).toArray (c + 1)) }) (fun a ha => ?_) (k _ _ ?_ (hs.setObj hkk _))
    · simp only [execOp, ha.eval hx, ha.eval hy, ha.eval hz, Instr.mapUpdate, Sem.run_bind, run_underlying hu, Result.andThen_ok, getObj, Go.setObj, Sem.run, hat, Result.andThen, Instr.findKey, checkKey_int hk, run_underlying hk, List.toList_toArray, findNow_I, hq]
      simp [entI, findNow_I, hq, Go.setObj, Sem.run, hat]
    · refine ⟨_, _, rfl, (fndI_push hq c).symm, ?_, ?_, nodup_upd hkeys⟩
      · rw [List.map_append, List.nodup_append]
        refine ⟨hst, by simp, fun a ha b hb => ?_⟩
        simp at hb; subst hb
        obtain ⟨e, he, rfl⟩ := List.mem_map.1 ha
        have := hlt e he; omega
      · intro e he
        rcases List.mem_append.1 he with he | he
        · have := hlt e he; omega
        · simp at he; subst he; simp
  | some p =>
    obtain ⟨i, v0⟩ := p
    obtain ⟨e, es', h1, h2, h3, h6, h7⟩ := fndI_upd (v := v) hq
    simp only [Nat.sub_zero] at h1 h3
    refine WL_skip0 (w' := { w with heap := w.heap.setIfInBounds r (.map (es'.map entI).toArray c) }) (fun a ha => ?_) (k _ _ ?_ (hs.setObj hkk _))
    · have h4 : ((ies.map entI).toArray[i]?) = some e := by simpa using h1
      have h5 : Instr.sameBits 10000 (.int .i64 s) (.int .i64 s) = true := by simp [Instr.sameBits]
      simp only [execOp, ha.eval hx, ha.eval hy, ha.eval hz, Instr.mapUpdate, Sem.run_bind, run_underlying hu, Result.andThen_ok, getObj, Go.setObj, Sem.run, hat, Result.andThen, Instr.findKey, checkKey_int hk, run_underlying hk, List.toList_toArray, findNow_I, hq, h4, Option.map_some, Option.getD_some, h2, Instr.keyThatStays, h5, if_true, Sem.run_pure]
      congr 3
      apply congrArg (fun x => Obj.map x c)
      apply Array.toList_inj.1
      simp only [Array.toList_modify, List.toList_toArray]
      exact h3
    · refine ⟨es', c, rfl, h6.symm, by rw [h7]; exact hst, fun e he => ?_, nodup_upd hkeys⟩
      have : e.2.2 ∈ es'.map (·.2.2) := List.mem_map_of_mem he
      rw [h7] at this
      obtain ⟨e', he', h8⟩ := List.mem_map.1 this
      rw [← h8]; exact hlt e' he'
theorem s_lenI {t kt et r kk : Nat} {x : Operand} {o : Obj} {es : KVs} (hu : P.underlying t = some (.map kt et)) (hd : Nat.blt d n = true) (hx : ev l x = some (.map (some r))) (hs : St F w0 w L) (hkk : L[kk]? = some (r, o)) (hm : MapI o es)
    (k : WL P n ops Q rest ((d, .int .i64 (es.length : Int)) :: l) w) : WL P n ops Q (⟨some d, .call { callee := .builtin .len, args := #[x], argTypes := #[t] }, ty, pos, aft, none⟩ :: rest) l w := by
  obtain ⟨ies, c, rfl, rfl, _⟩ := hm
  have hat := hs.at hkk
  refine WL_val hd (fun a ha => ?_) k
  simp [execOp, resolve, invoke, builtin, ha.eval hx, Builtin.len_, run_underlying hu, getObj, Sem.run, hat, Result.andThen, goInt]
/-! ### ranges over a map -/
/-- the iterator it over the map m whose object is o: what is still to come -/
def ItI (m : Nat) (o it : Obj) (todo : KVs) : Prop :=
  ∃ (ies : IEs) (c since : Nat) (seen : Array Nat) (c0 : Nat), o = .map (ies.map entI).toArray c ∧ it = .mapIter (some m) since seen c0 ∧ (ies.map (·.2.2)).Nodup ∧ (∀ e ∈ ies, e.2.2 < since) ∧ since ≤ c0 ∧ since ≤ c ∧ (ies.map (·.1)).Nodup ∧
    todo = (ies.filter fun e => !seen.contains e.2.2).map kv
/-- the entry that the last step gave -/
def ItC (m : Nat) (o it : Obj) (key : Int) (v : Value) : Prop :=
  ∃ (ies : IEs) (c since : Nat) (seen : Array Nat) (e : Int × Value × Nat), o = .map (ies.map entI).toArray c ∧ it = .mapIter (some m) since (seen.push e.2.2) c ∧ (ies.map (·.2.2)).Nodup ∧ e ∈ ies ∧ e.1 = key ∧ e.2.1 = v
theorem s_rangeI {t kt et m kk : Nat} {x : Operand} {o : Obj} {es : KVs} (hu : P.underlying t = some (.map kt et)) (hd : Nat.blt d n = true) (hx : ev l x = some (.map (some m))) (hs : St F w0 w L) (hkk : L[kk]? = some (m, o)) (hm : MapI o es)
    (k : ∀ b it w', ItI m o it es → St F w0 w' ((b, it) :: L) → WL P n ops Q rest ((d, .pointer (some ⟨b, 0, none⟩)) :: l) w') : WL P n ops Q (⟨some d, .range t x, ty, pos, aft, none⟩ :: rest) l w := by
  obtain ⟨ies, c, rfl, rfl, hst, hlt, hkn⟩ := hm
  have hat := hs.at hkk
  refine WL_val hd (fun a ha => ?_) (k w.heap.size (.mapIter (some m) c #[] c) (w.alloc (.mapIter (some m) c #[] c)) ⟨ies, c, c, #[], c, rfl, rfl, hst, hlt, Nat.le_refl _, Nat.le_refl _, ?_, ?_⟩ (hs.alloc _))
  · simp [execOp, ha.eval hx, Instr.range, run_underlying hu, getObj, newObj, Sem.run, hat, Result.andThen]
  · rw [List.map_map] at hkn; exact hkn
  · congr 1; symm; exact List.filter_eq_self.2 (fun _ _ => by simp)
theorem s_nextI {m r km kr : Nat} {x : Operand} {o it : Obj} {todo : KVs} (hd : Nat.blt d n = true) (hx : ev l x = some (.pointer (some ⟨r, 0, none⟩))) (hs : St F w0 w L) (hkm : L[km]? = some (m, o)) (hkr : L[kr]? = some (r, it)) (hI : ItI m o it todo)
    (k0 : todo = [] → WL P n ops Q rest ((d, .tuple #[.bool false]) :: l) w)
    (k1 : ∀ key v w' it', (key, v) ∈ todo → ItI m o it' (todo.filter fun e => !decide (e.1 = key)) → ItC m o it' key v → (todo.filter fun e => !decide (e.1 = key)).length < todo.length → St F w0 w' (L.set kr (r, it')) → WL P n ops Q rest ((d, .tuple #[.bool true, .int .i64 key, v]) :: l) w') :
    WL P n ops Q (⟨some d, .next x false, ty, pos, aft, none⟩ :: rest) l w := by
  obtain ⟨ies, c, since, seen, c0, rfl, rfl, hst, hlt, hsc, hsk, hkn, rfl⟩ := hI
  have hmat := hs.at hkm
  have hrat := hs.at hkr
  have hold : ∀ y ∈ (ies.map entI).toArray.toList, y.born < since := by
    intro y hy
    simp only [List.toList_toArray, List.mem_map] at hy
    obtain ⟨e, he, rfl⟩ := hy
    exact hlt e he
  have hleft : (leftOf (ies.map entI).toArray seen).toList = (ies.filter fun e => !seen.contains e.2.2).map entI := by
    unfold leftOf
    simp only [List.filter_toArray, List.filter_map]
    rfl
  rcases run_next_at (P := P) w ty r m since c0 seen (ies.map entI).toArray c hrat hmat hold hsc with ⟨h0, hrun⟩ | ⟨e, he, w1, hal, hrun⟩
  · refine WL_val hd (fun a ha => by simp [execOp, ha.eval hx, hrun]) (k0 ?_)
    have h1 : (leftOf (ies.map entI).toArray seen).toList = [] := List.eq_nil_of_length_eq_zero (by simpa using h0)
    rw [hleft] at h1
    rw [List.map_eq_nil_iff.1 h1]; rfl
  · rw [hleft] at he
    obtain ⟨q, hq, rfl⟩ := List.mem_map.1 he
    have hq2 := List.mem_filter.1 hq
    have hrun' : (Instr.next (.pointer (some ⟨r, 0, none⟩)) false ty).run P w = .ok (.tuple #[.bool true, .int .i64 q.1, q.2.1]) (setBlock w1 r (.mapIter (some m) since (seen.push q.2.2) c)) := hrun
    have hst1 : St F w0 w1 L := by
      rcases hal with rfl | rfl
      · exact hs
      · exact hs.drew
    have hfil : (ies.filter fun e => !(seen.push q.2.2).contains e.2.2).map kv = ((ies.filter fun e => !seen.contains e.2.2).map kv).filter fun e => !decide (e.1 = q.1) := by
      rw [List.filter_map, List.filter_filter]
      congr 1
      apply List.filter_congr
      intro y hy
      have hyq : (y.2.2 = q.2.2) ↔ (y.1 = q.1) := by
        constructor
        · intro h; have := nodup_inj hst hy hq2.1 h; rw [this]
        · intro h; have := nodup_inj hkn hy hq2.1 h; rw [this]
      simp only [Array.contains_push, Function.comp, kv]
      by_cases h9 : y.1 = q.1
      · have := hyq.2 h9
        simp [h9, this]
      · have h10 : y.2.2 ≠ q.2.2 := fun h => h9 (hyq.1 h)
        have h11 : (y.2.2 == q.2.2) = false := by simp [h10]
        have h12 : (q.2.2 == y.2.2) = false := by simp [Ne.symm h10]
        simp [h9, h11, h12]
    refine WL_val hd (fun a ha => by simp [execOp, ha.eval hx, hrun', setBlock]) (k1 q.1 q.2.1 _ (.mapIter (some m) since (seen.push q.2.2) c) ?_ ⟨ies, c, since, seen.push q.2.2, c, rfl, rfl, hst, hlt, hsk, hsk, hkn, hfil.symm⟩ ⟨ies, c, since, seen, q, rfl, rfl, hst, hq2.1, rfl, rfl⟩ ?_ (hst1.setObj hkr _))
    · exact List.mem_map.2 ⟨q, hq, rfl⟩
    · have hmem : kv q ∈ (ies.filter fun e => !seen.contains e.2.2).map kv := List.mem_map_of_mem hq
      rw [← List.countP_eq_length_filter]
      have h1 : ∀ (T : KVs), kv q ∈ T → T.countP (fun e => !decide (e.1 = q.1)) < T.length := by
        intro T
        induction T with
        | nil => intro h; cases h
        | cons a T ih =>
          intro h
          rw [List.countP_cons, List.length_cons]
          have hle := List.countP_le_length (p := fun e : Int × Value => !decide (e.1 = q.1)) (l := T)
          rcases List.mem_cons.1 h with h | h
          · rw [if_neg (by rw [← h]; simp [kv])]; omega
          · have := ih h; split <;> omega
      exact h1 _ hmem
theorem s_entryI {m r km kr : Nat} {x : Operand} {o it : Obj} {key : Int} {v : Value} (hd : Nat.blt d n = true) (hx : ev l x = some (.pointer (some ⟨r, 0, none⟩))) (hs : St F w0 w L) (hkm : L[km]? = some (m, o)) (hkr : L[kr]? = some (r, it)) (hC : ItC m o it key v)
    (k : WL P n ops Q rest ((d, .tuple #[.int .i64 key, v]) :: l) w) : WL P n ops Q (⟨some d, .entry x, ty, pos, aft, none⟩ :: rest) l w := by
  obtain ⟨ies, c, since, seen, e, rfl, rfl, hst, he, rfl, rfl⟩ := hC
  have hrun := run_entry_at (P := P) w r m since seen (ies.map entI).toArray c (entI e) (hs.at hkr) (hs.at hkm) (by simpa using List.mem_map_of_mem (f := entI) he) (by rw [List.toList_toArray, List.map_map]; exact hst)
  have hrun' : (Instr.entry (.pointer (some ⟨r, 0, none⟩))).run P w = .ok (.tuple #[.int .i64 e.1, e.2.1]) w := hrun
  exact WL_val hd (fun a ha => by simp [execOp, ha.eval hx, hrun']) k
end
end Go.SL
