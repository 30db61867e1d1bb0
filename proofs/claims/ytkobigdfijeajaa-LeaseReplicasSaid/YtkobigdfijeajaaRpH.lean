/- A replica: lead. -/
import Derived.Test.YtkobigdfijeajaaRpG
set_option linter.unusedVariables false
set_option linter.unusedSimpArgs false
namespace Go.SL
section
variable {P : Program} {n : Nat} {ops : Array Oper} {Q : Post} {l : Fr} {w : World} {rest : List Oper} {d ty : Nat} {pos : String} {aft : Array Edge} {F : List Nat} {w0 : World} {L : Hp}
theorem s_max {x y : Operand} {t u : Nat} {kd : IntKind} {p q : Int} (hd : Nat.blt d n = true) (hx : ev l x = some (.int kd p)) (hy : ev l y = some (.int kd q)) (k : WL P n ops Q rest ((d, .int kd (if p < q then q else p)) :: l) w) :
    WL P n ops Q (⟨some d, .call { callee := .builtin .max, args := #[x, y], argTypes := #[t, u] }, ty, pos, aft, none⟩ :: rest) l w :=
  WL_val hd (fun a ha => by simp [execOp, resolve, invoke, builtin, ha.eval hx, ha.eval hy, Builtin.max_, Builtin.max2]) k
theorem s_lookupI2 {t kt et r kk : Nat} {x y : Operand} {z : Int} {o : Obj} {es : KVs} {zv v : Value} {b : Bool} (hu : P.underlying t = some (.map kt et)) (hk : P.underlying kt = some (.int .i64)) (hz : ∀ w, (zeroValue et).run P w = .ok zv w)
    (hd : Nat.blt d n = true) (hx : ev l x = some (.map (some r))) (hy : ev l y = some (.int .i64 z)) (hs : St F w0 w L) (hkk : L[kk]? = some (r, o)) (hm : MapI o es) (hv : (lookI z es).getD zv = v) (hb : (lookI z es).isSome = b)
    (k : WL P n ops Q rest ((d, .tuple #[v, .bool b]) :: l) w) : WL P n ops Q (⟨some d, .lookup t x y true, ty, pos, aft, none⟩ :: rest) l w := by
  obtain ⟨ies, c, rfl, rfl, _⟩ := hm
  subst hv hb
  have ho := hs.at hkk
  have hf := fndI_look z ies 0
  refine WL_val hd (fun a ha => ?_) k
  simp only [execOp, ha.eval hx, ha.eval hy, Instr.lookup, Sem.run_bind, run_underlying hu, Result.andThen_ok, getObj, Sem.run, ho, Result.andThen, Instr.findKey, checkKey_int hk, run_underlying hk, List.toList_toArray, findNow_I]
  cases hq : fndI z ies 0 with
  | none => rw [hq] at hf; simp only [Option.map_none] at hf; simp [← hf, hz, findNow_I, hq]
  | some p => rw [hq] at hf; obtain ⟨i, v⟩ := p; simp only [Option.map_some] at hf; simp [← hf, findNow_I, hq]
theorem s_lookupI2n {t kt et : Nat} {x y : Operand} {z : Int} {zv : Value} (hu : P.underlying t = some (.map kt et)) (hk : P.underlying kt = some (.int .i64)) (hz : ∀ w, (zeroValue et).run P w = .ok zv w)
    (hd : Nat.blt d n = true) (hx : ev l x = some (.map none)) (hy : ev l y = some (.int .i64 z))
    (k : WL P n ops Q rest ((d, .tuple #[zv, .bool false]) :: l) w) : WL P n ops Q (⟨some d, .lookup t x y true, ty, pos, aft, none⟩ :: rest) l w :=
  WL_val hd (fun a ha => by simp [execOp, ha.eval hx, ha.eval hy, Instr.lookup, Sem.run_bind, run_underlying hu, Instr.findKey, checkKey_int hk, run_underlying hk, Instr.findNow, hz]) k
end
end Go.SL
namespace Go.Proofs.Ytkobigdfijeajaa
open Go.SL
def Rp.heard (R : Rp) (m : Mg) : Rp := { R.adopt m.lterm m.log with n := max R.n m.n }
def Rp.crown (R : Rp) : Rp := { R with n := if R.mem < 2 then R.log.length else min R.n R.log.length, role := 2, lterm := R.term, acks := fun _ => 0 }
def Rp.lead (R : Rp) : Option Mg → Rp
  | none => R.crown
  | some m => (R.heard m).crown
theorem Rp.heard_same (R : Rp) (m : Mg) : (R.heard m).id = R.id ∧ (R.heard m).mem = R.mem ∧ (R.heard m).term = R.term ∧ (R.heard m).role = R.role := by
  unfold heard adopt; split <;> exact ⟨rfl, rfl, rfl, rfl⟩
/-- the state of the loop in front of member i; f voted, if it is a member -/
def rA (R : Rp) (m : Mg) (f i : Nat) : Rp := if f < i then R.heard m else R
def lvA (R : Rp) (m : Mg) (f i : Nat) (lv lv' : Value) : Value := if f < i ∧ R.takes m.lterm m.log then lv' else lv
theorem rA_same (R : Rp) (m : Mg) (f i : Nat) : (rA R m f i).id = R.id ∧ (rA R m f i).mem = R.mem ∧ (rA R m f i).term = R.term ∧ (rA R m f i).role = R.role := by
  unfold rA; split
  · exact R.heard_same m
  · exact ⟨rfl, rfl, rfl, rfl⟩
theorem rA_step {R : Rp} {m : Mg} {f i : Nat} (h : i ≠ f) : rA R m f (i + 1) = rA R m f i := by
  unfold rA; simp only [show (f < i + 1) ↔ (f < i) from by omega]
theorem lvA_step {R : Rp} {m : Mg} {f i : Nat} {lv lv' : Value} (h : i ≠ f) : lvA R m f (i + 1) lv lv' = lvA R m f i lv lv' := by
  unfold lvA; simp only [show (f < i + 1) ↔ (f < i) from by omega]
theorem lvA_form (R : Rp) (m : Mg) (f i : Nat) (la la' : Option Addr) (lc lc' : Nat) : ∃ qa qc, lvA R m f i (.slice la R.log.length lc) (.slice la' m.log.length lc') = .slice qa (rA R m f i).log.length qc := by
  unfold lvA rA Rp.heard Rp.adopt
  by_cases h1 : f < i
  · by_cases h2 : R.takes m.lterm m.log
    · rw [if_pos ⟨h1, h2⟩, if_pos h1, if_pos h2]; exact ⟨_, _, rfl⟩
    · rw [if_neg (fun h => h2 h.2), if_pos h1, if_neg h2]; exact ⟨_, _, rfl⟩
  · rw [if_neg (fun h => h1 h.1), if_neg h1]; exact ⟨_, _, rfl⟩
theorem crown_ok {R : Rp} {m : Mg} {f i : Nat} (hok : R.ok) (hm : m.ok) : (rA R m f i).crown.ok := by
  obtain ⟨m1, m2, m3, m4, m5, m6, m7⟩ := hm
  have key : ∀ A : Rp, A.id = R.id → A.mem = R.mem → A.term = R.term → A.log.length ≤ 1000 → (∀ e ∈ A.log, e.ok) → A.crown.ok := fun A h1 h2 h3 h4 h5 => by
    have hn : A.crown.n ≤ A.log.length := by
      show (if A.mem < 2 then A.log.length else min A.n A.log.length) ≤ A.log.length
      split <;> omega
    exact ⟨by show 1 ≤ A.mem; rw [h2]; exact hok.m1, by show A.mem ≤ 3; rw [h2]; exact hok.m3, by show A.id < A.mem; rw [h1, h2]; exact hok.id, by show A.term ≤ _; rw [h3]; exact hok.term, by show A.term ≤ _; rw [h3]; exact hok.term, Nat.le_refl _, h4, hn, h5⟩
  obtain ⟨h1, h2, h3, _⟩ := rA_same R m f i
  refine key _ h1 h2 h3 ?_ ?_
  · unfold rA Rp.heard Rp.adopt; split
    · split
      · exact m6
      · exact hok.log
    · exact hok.log
  · unfold rA Rp.heard Rp.adopt; split
    · split
      · exact m7
      · exact hok.es
    · exact hok.es
structure LdS where
  i : Nat
set_option maxHeartbeats 4000000 in
theorem lead_ok (p : Nat) (R : Rp) (f : Nat) (m : Mg) (lv : Value) (vb : Nat) (o : Obj) (kvs : KVs) (ax : Option Nat) (es : List Em) (LB LP : Hp) (lv' : Value) (es' : List Em) (LB' LP' L0 : Hp) (w0 : World)
    (hL : L0 = (p, Blk 89 (rpCells R lv (.map (some vb)) (.map ax))) :: (LB ++ (LP ++ ((vb, o) :: (LB' ++ LP')))))
    (hlog : LogAt R.log lv es LB LP) (hM : MapI o kvs) (hkv : ∀ i : Nat, i < R.mem → lookI (i : Int) kvs = if i = f then some (.agg (mesCells m f lv').toArray) else none)
    (hkm : ∀ e ∈ kvs, isMes e.2) (hlog' : LogAt m.log lv' es' LB' LP') (hm : m.ok) (hok : R.ok) (hs : St (ids L0) w0 w0 L0) :
    Ret Try.prog 39 [.pointer (some ⟨p, 0, none⟩)].toArray w0 fun r w' => ∃ L', St (ids L0) w0 w' L' ∧ ∃ Lr LQ, L' = LQ ++ Lr ∧ RepAt p (R.lead (if f < R.mem then some m else none)) LQ ∧ MsAt r ((R.lead (if f < R.mem then some m else none)).others (R.lead (if f < R.mem then some m else none)).spreadM) Lr := by
  obtain ⟨la, lc, rfl, hel⟩ := hlog.form
  obtain ⟨la', lc', rfl, hel'⟩ := hlog'.form
  have hm0 := hm
  obtain ⟨m1, m2, m3, m4, m5, m6, m7⟩ := hm
  have hm3 := hok.m3
  revert hs
  generalize ids L0 = F
  rw [hL]
  obtain ⟨X, hX⟩ : ∃ X, X = LB ++ (LP ++ ((vb, o) :: (LB' ++ LP'))) := ⟨_, rfl⟩
  rw [← hX]
  have hvb : ∃ X1 X2, X = X1 ++ ((vb, o) :: X2) := ⟨LB ++ LP, LB' ++ LP', by rw [hX]; simp⟩
  intro hs
  refine Ret_startL hs fun w hs => ?_
  refine Ret_of Try.func39 rfl Try.ntmps39 rfl ?_
  refine W_seq ?_
  refine W_region ?_
  refine s_assign rfl rfl ?_
  refine WL_nil ?_
  refine n_then ?_
  refine W_seq ?_
  refine W_seq ?_
  refine W_region ?_
  refine s_move rfl rfl ?_
  refine s_nilCheck rfl rfl ?_
  refine s_fieldAddr rfl rfl (FA89_1 _ _) ?_
  first
    | refine s_load Try.isAgg3 rfl rfl (hs.cell (k := 0) rfl rfl) ?_
    | refine s_load Try.isAgg3 rfl rfl (hs.cell (k := 1) rfl rfl) ?_
    | refine s_load Try.isAgg3 rfl rfl (hs.cell (k := 2) rfl rfl) ?_
  refine s_move rfl rfl ?_
  refine WL_nil ?_
  refine n_then ?_
  refine W_block ?_
  refine W_loop (σ := LdS) (fun s => [(0, .pointer (some ⟨p, 0, none⟩)), (9, .int .i64 (R.mem : Int)), (10, .int .i64 (s.i : Int))])
    (fun s w => St F w0 w ((p, Blk 89 (rpCells (rA R m f s.i) (lvA R m f s.i (.slice la R.log.length lc) (.slice la' m.log.length lc')) (.map (some vb)) (.map ax))) :: X) ∧ s.i ≤ R.mem) (fun s => R.mem - s.i) ⟨0⟩ ⟨rfl, rfl, rfl, trivial⟩ ⟨by rw [rA, lvA, if_neg (by simp), if_neg (by simp)]; exact hs, Nat.zero_le _⟩ ?_
  clear hs
  rintro ⟨i⟩ w ⟨hs, hi⟩
  simp only at hs hi ⊢
  obtain ⟨qa, qc, hq⟩ := lvA_form R m f i la la' lc lc'
  rw [hq] at hs
  unfold rpCells at hs
  refine W_seq ?_
  refine W_region ?_
  refine s_lss rfl rfl rfl ?_
  refine WL_nil ?_
  refine n_then ?_
  refine W_seq ?_
  refine W_cond rfl (fun hc11 => ?_) (fun hc11 => ?_)
  · skip
    try simp only [decide_eq_true_eq, decide_eq_false_iff_not, gt_iff_lt, beq_iff_eq, beq_eq_false_iff_ne, ne_eq] at hc11
    have hil : i < R.mem := by omega
    have hlk := hkv i hil
    obtain ⟨b, k0, fr, t0, lt0, n0, e0, a0, len0, c0, hv0, hb0, hcase⟩ : ∃ (b : Bool) (k0 fr t0 lt0 n0 e0 : Int) (a0 : Option Addr) (len0 c0 : Nat), (lookI (i : Int) kvs).getD (.agg #[.int .i64 0, .int .i64 0, .int .i64 0, .int .i64 0, .int .i64 0, .int .i64 0, .slice none 0 0]) = .agg #[.int .i64 k0, .int .i64 fr, .int .i64 t0, .int .i64 lt0, .int .i64 n0, .int .i64 e0, .slice a0 len0 c0] ∧ (lookI (i : Int) kvs).isSome = b ∧ ((b = true ∧ i = f ∧ lt0 = (m.lterm : Int) ∧ n0 = (m.n : Int) ∧ a0 = la' ∧ len0 = m.log.length ∧ c0 = lc') ∨ (b = false ∧ i ≠ f)) := by
      rw [hlk]
      by_cases hif : i = f
      · rw [if_pos hif]; exact ⟨true, _, _, _, _, _, _, _, _, _, rfl, rfl, .inl ⟨rfl, hif, rfl, rfl, rfl, rfl, rfl⟩⟩
      · rw [if_neg hif]; exact ⟨false, _, _, _, _, _, _, _, _, _, rfl, rfl, .inr ⟨rfl, hif⟩⟩
    clear hlk
    refine W_skip ?_
    refine n_then ?_
    refine W_seq ?_
    refine W_block ?_
    refine W_seq ?_
    refine W_region ?_
    refine s_move rfl rfl ?_
    refine s_assign rfl rfl ?_
    refine WL_nil ?_
    refine n_then ?_
    refine W_seq ?_
    refine W_region ?_
    refine s_move rfl rfl ?_
    refine s_nilCheck rfl rfl ?_
    refine s_fieldAddr rfl rfl (FA89_7 _ _) ?_
    first
      | refine s_load Try.isAgg86 rfl rfl (hs.cell (k := 0) rfl rfl) ?_
      | refine s_load Try.isAgg86 rfl rfl (hs.cell (k := 1) rfl rfl) ?_
      | refine s_load Try.isAgg86 rfl rfl (hs.cell (k := 2) rfl rfl) ?_
    refine s_move rfl rfl ?_
    obtain ⟨X1, X2, hXX⟩ := hvb
    refine s_lookupI2 (kk := X1.length + 1) Try.underlying86 Try.underlying3 ZV94 rfl rfl rfl hs (by rw [hXX, List.getElem?_cons_succ, List.getElem?_append_right (Nat.le_refl _), Nat.sub_self]; rfl) hM hv0 hb0 ?_
    refine s_move rfl rfl ?_
    refine s_extract rfl rfl rfl ?_
    refine s_extract rfl rfl rfl ?_
    refine s_alloc rfl AL94 hs ?_; clear hs; intro b4 w hs
    first
      | refine s_storeW Try.sizeOf94 rfl rfl rfl rfl hs (kk := 0) rfl rfl ?_
      | refine s_storeW Try.sizeOf94 rfl rfl rfl rfl hs (kk := 1) rfl rfl ?_
      | refine s_storeW Try.sizeOf94 rfl rfl rfl rfl hs (kk := 2) rfl rfl ?_
      | refine s_storeAB Try.sizeOf94 rfl rfl rfl rfl hs (kk := 0) rfl rfl ?_
      | refine s_storeAB Try.sizeOf94 rfl rfl rfl rfl hs (kk := 1) rfl rfl ?_
      | refine s_storeAB Try.sizeOf94 rfl rfl rfl rfl hs (kk := 2) rfl rfl ?_
    clear hs; intro w hs; try simp only [List.set_cons_zero, List.set_cons_succ, splice, List.take_succ_cons, List.take_zero, List.drop_succ_cons, List.drop_zero, List.nil_append, List.cons_append, List.length_cons, List.length_nil, Nat.reduceAdd, List.append_assoc] at hs
    refine s_assign rfl rfl ?_
    refine WL_nil ?_
    refine n_then ?_
    refine W_seq ?_
    refine W_seq ?_
    refine W_region ?_
    refine s_move rfl rfl ?_
    refine s_not rfl rfl ?_
    refine WL_nil ?_
    refine n_then ?_
    refine W_cond rfl (fun hc23 => ?_) (fun hc23 => ?_)
    · skip
      try simp only [decide_eq_true_eq, decide_eq_false_iff_not, gt_iff_lt, beq_iff_eq, beq_eq_false_iff_ne, ne_eq] at hc23
      refine W_exit ?_
      refine x_then ?_
      refine exit_hit ?_
      refine n_then ?_
      refine W_region ?_
      first | (refine s_add' rfl rfl rfl ?hx ?_; case hx => (constructor <;> first | omega | (simp only; omega))) | refine s_add rfl rfl rfl ?_
      refine s_move rfl rfl ?_
      refine WL_nil ?_
      refine n_loop ?_
      rcases hcase with ⟨rfl, rfl, rfl, rfl, rfl, rfl, rfl⟩ | ⟨rfl, hne⟩
      · first
          | (exact absurd hc23 (by decide))
          | (have r1 : rA R m i i = R := if_neg (by omega)
             have r2 : lvA R m i i (.slice la R.log.length lc) (.slice a0 m.log.length c0) = .slice la R.log.length lc := if_neg (by omega)
             rw [r1, r2] at hq
             have r4 : qa = la ∧ qc = lc := by injection hq with h1 h2 h3; exact ⟨h1.symm, h3.symm⟩
             obtain ⟨rfl, rfl⟩ := r4
             have hmx : (if (R.n : Int) < (m.n : Int) then (m.n : Int) else (R.n : Int)) = ((max R.n m.n : Nat) : Int) := by split <;> omega
             simp only [r1, hmx] at *
             refine ⟨⟨i + 1⟩, ⟨rfl, rfl, rfl, trivial⟩, ⟨?_, by simp only; omega⟩, by simp only; omega⟩
             simp only
             replace hs := hs.tail
             first
               | (have ht : R.takes m.lterm m.log := by unfold Rp.takes; omega
                  rw [rA, if_pos (by omega), lvA, if_pos ⟨by omega, ht⟩, Rp.heard, Rp.adopt, if_pos ht]; exact hs)
               | (have ht : ¬ R.takes m.lterm m.log := by unfold Rp.takes; omega
                  rw [rA, if_pos (by omega), lvA, if_neg (fun h => ht h.2), Rp.heard, Rp.adopt, if_neg ht]; exact hs))
      · first
          | (exfalso; simp at hc23; done)
          | (refine ⟨⟨i + 1⟩, ⟨rfl, rfl, rfl, trivial⟩, ⟨?_, by simp only; omega⟩, by simp only; omega⟩
             simp only
             rw [rA_step hne, lvA_step hne, hq]
             exact hs.tail)
    · skip
      try simp only [decide_eq_true_eq, decide_eq_false_iff_not, gt_iff_lt, beq_iff_eq, beq_eq_false_iff_ne, ne_eq] at hc23
      refine W_skip ?_
      refine n_then ?_
      refine W_seq ?_
      refine W_seq ?_
      refine W_draw [(0, true, []), (1, true, []), (2, true, []), (3, true, []), (4, true, []), (5, true, []), (6, true, []), (7, true, []), (8, true, []), (9, true, []), (10, true, []), (11, true, []), (12, true, []), (13, true, []), (14, true, []), (15, true, []), (16, true, []), (17, true, []), (18, true, []), (19, true, []), (20, true, []), (21, true, []), (22, true, []), (23, true, []), (24, true, []), (25, true, []), (26, true, [])] [[], [0], [], [2], [2, 3], [2, 3, 4], [0, 1, 2, 3, 4, 5], [0, 1, 2, 3, 4, 5, 6], [0, 1, 2, 3, 4, 5, 6, 7], [0, 1, 2, 3, 4, 5, 6, 7, 8], [0, 1, 2, 3, 4, 5, 6, 7], [0, 1, 2, 3, 4, 5, 6, 7, 10], [0, 1, 2, 3, 4, 5, 6, 7, 10, 11], [0, 1, 2, 3, 4, 5, 6, 7, 10, 11, 12], [0, 1, 2, 3, 4, 5, 6, 7, 8, 9, 10, 11, 12, 13], [0, 1, 2, 3, 4, 5, 6, 7, 8, 9, 10, 11, 12, 13, 14], [0, 1, 2, 3, 4, 5, 6, 7, 8, 9, 10, 11, 12, 13, 14, 15], [0, 1, 2, 3, 4, 5, 6, 7, 8, 9, 10, 11, 12, 13, 14, 15, 16], [0, 1, 2, 3, 4, 5, 6, 7, 8, 9, 10, 11, 12, 13, 14, 15, 16, 17], [0, 1, 2, 3, 4, 5, 6, 7, 8, 9, 10, 11, 12, 13, 14, 15], [0, 1, 2, 3, 4, 5, 6, 7, 8, 9, 10, 11, 12, 13, 14, 15, 19], [0, 1, 2, 3, 4, 5, 6, 7, 8, 9, 10, 11, 12, 13, 14, 15, 19, 20], [0, 1, 2, 3, 4, 5, 6, 7, 8, 9, 10, 11, 12, 13, 14, 15, 19, 20, 21], [0, 1, 2, 3, 4, 5, 6, 7, 8, 9, 10, 11, 12, 13, 14, 15, 19, 20, 21, 22], [0, 1, 2, 3, 4, 5, 6, 7, 8, 9, 10, 11, 12, 13, 14, 15, 16, 17, 18, 19, 20, 21, 22, 23], [0, 1, 2, 3, 4, 5, 6, 7, 8, 9, 10, 11, 12, 13, 14, 15, 16, 17, 18, 19, 20, 21, 22, 23, 24], [0, 1, 2, 3, 4, 5, 6, 7, 8, 9, 10, 11, 12, 13, 14, 15, 16, 17, 18, 19, 20, 21, 22, 23, 24, 25]] MX (by kernel_rfl) ?_
      intro w1 hw1 hw2 hw3 hw4; replace hs := hs.redrawn hw1 hw2 hw3 hw4; clear hw1 hw2 hw3 hw4
      obtain ⟨w, rfl⟩ : ∃ w : World, w = w1 := ⟨_, rfl⟩
      refine D_q rfl rfl ?_
      refine s_fieldAddr rfl rfl (FA94_3 _ _) ?_
      refine D_qn ?_
      refine D_q rfl rfl ?_
      first
        | refine s_load Try.isAgg3 rfl rfl (hs.cell (k := 0) rfl rfl) ?_
        | refine s_load Try.isAgg3 rfl rfl (hs.cell (k := 1) rfl rfl) ?_
        | refine s_load Try.isAgg3 rfl rfl (hs.cell (k := 2) rfl rfl) ?_
      refine D_qn ?_
      refine D_q rfl rfl ?_
      refine s_move rfl rfl ?_
      refine D_qn ?_
      refine D_q rfl rfl ?_
      refine s_nilCheck rfl rfl ?_
      refine D_qn ?_
      refine D_q rfl rfl ?_
      refine s_fieldAddr rfl rfl (FA89_3 _ _) ?_
      refine D_qn ?_
      refine D_q rfl rfl ?_
      first
        | refine s_load Try.isAgg3 rfl rfl (hs.cell (k := 0) rfl rfl) ?_
        | refine s_load Try.isAgg3 rfl rfl (hs.cell (k := 1) rfl rfl) ?_
        | refine s_load Try.isAgg3 rfl rfl (hs.cell (k := 2) rfl rfl) ?_
      refine D_qn ?_
      refine D_q rfl rfl ?_
      refine s_gtr rfl rfl rfl ?_
      refine D_qn ?_
      refine D_q rfl rfl ?_
      refine s_move rfl rfl ?_
      refine WL_case (s := 31) rfl (fun hg31 => ?_) (fun hg31 => ?_)
      · skip
        try simp only [decide_eq_true_eq, decide_eq_false_iff_not, gt_iff_lt, beq_iff_eq, beq_eq_false_iff_ne, ne_eq] at hg31
        refine D_qn ?_
        refine D_q rfl rfl ?_
        refine WL_skip rfl rfl rfl ?_
        refine D_qn ?_
        refine D_q rfl rfl ?_
        refine WL_skip rfl rfl rfl ?_
        refine D_qn ?_
        refine D_q rfl rfl ?_
        refine WL_skip rfl rfl rfl ?_
        refine D_qn ?_
        refine D_q rfl rfl ?_
        refine WL_skip rfl rfl rfl ?_
        refine D_qn ?_
        refine D_q rfl rfl ?_
        refine WL_skip rfl rfl rfl ?_
        refine D_qn ?_
        refine D_q rfl rfl ?_
        refine WL_skip rfl rfl rfl ?_
        refine D_qn ?_
        refine D_q rfl rfl ?_
        refine WL_skip rfl rfl rfl ?_
        refine D_qn ?_
        refine D_q rfl rfl ?_
        refine WL_skip rfl rfl rfl ?_
        refine D_qn ?_
        refine D_q rfl rfl ?_
        refine WL_skipU rfl rfl ?_
        refine D_qn ?_
        refine D_q rfl rfl ?_
        refine WL_skipU rfl rfl ?_
        refine D_qn ?_
        refine D_q rfl rfl ?_
        refine WL_skipU rfl rfl ?_
        refine D_qn ?_
        refine D_q rfl rfl ?_
        refine WL_skipU rfl rfl ?_
        refine D_qn ?_
        refine D_q rfl rfl ?_
        refine WL_skipU rfl rfl ?_
        refine D_qn ?_
        refine D_q rfl rfl ?_
        refine WL_skipU rfl rfl ?_
        refine D_qn ?_
        refine D_q rfl rfl ?_
        refine WL_skipU rfl rfl ?_
        refine D_qn ?_
        refine D_q rfl rfl ?_
        refine WL_skipU rfl rfl ?_
        refine D_qn ?_
        refine D_q rfl rfl ?_
        refine WL_skipU rfl rfl ?_
        refine D_qn ?_
        refine D_q rfl rfl ?_
        refine WL_skip rfl rfl rfl ?_
        refine D_qn ?_
        refine D_q rfl rfl ?_
        refine s_pick_t rfl rfl rfl ?_
        refine D_qn ?_
        refine D_nil ?_
        refine n_then ?_
        refine W_cond_t rfl ?_
        refine W_draw [(0, true, []), (1, true, []), (2, true, []), (3, true, []), (4, true, []), (5, true, []), (6, true, []), (7, true, []), (8, false, [1, 4, 5]), (9, true, []), (10, true, []), (11, false, [])] [[], [], [], [2], [], [4], [0, 2, 3], [0, 2, 3, 6], [0, 2, 3, 6, 7], [0, 1, 2, 3, 4, 5, 6, 7, 8], [0, 1, 2, 3, 4, 5, 6, 7, 8, 9], [0, 1, 2, 3, 4, 5, 6, 7, 8, 9, 10]] MX (by kernel_rfl) ?_
        intro w1 hw1 hw2 hw3 hw4; replace hs := hs.redrawn hw1 hw2 hw3 hw4; clear hw1 hw2 hw3 hw4
        obtain ⟨w, rfl⟩ : ∃ w : World, w = w1 := ⟨_, rfl⟩
        refine D_q rfl rfl ?_
        refine s_move rfl rfl ?_
        refine D_qn ?_
        refine D_q rfl rfl ?_
        refine s_move rfl rfl ?_
        refine D_qn ?_
        refine D_q rfl rfl ?_
        refine s_fieldAddr rfl rfl (FA94_6 _ _) ?_
        refine D_qn ?_
        refine D_q rfl rfl ?_
        first
          | refine s_load Try.isAgg43 rfl rfl (hs.cell (k := 0) rfl rfl) ?_
          | refine s_load Try.isAgg43 rfl rfl (hs.cell (k := 1) rfl rfl) ?_
          | refine s_load Try.isAgg43 rfl rfl (hs.cell (k := 2) rfl rfl) ?_
        refine D_qn ?_
        refine D_q rfl rfl ?_
        refine s_fieldAddr rfl rfl (FA94_3 _ _) ?_
        refine D_qn ?_
        refine D_q rfl rfl ?_
        first
          | refine s_load Try.isAgg3 rfl rfl (hs.cell (k := 0) rfl rfl) ?_
          | refine s_load Try.isAgg3 rfl rfl (hs.cell (k := 1) rfl rfl) ?_
          | refine s_load Try.isAgg3 rfl rfl (hs.cell (k := 2) rfl rfl) ?_
        refine D_qn ?_
        refine D_q rfl rfl ?_
        refine s_nilCheck rfl rfl ?_
        refine D_qn ?_
        refine D_q rfl rfl ?_
        refine s_fieldAddr rfl rfl (FA89_5 _ _) ?_
        refine D_qn ?_
        refine D_e rfl ?_
        first
          | refine s_storeB Try.sizeOf43 rfl rfl rfl hs (kk := 0) rfl rfl ?_
          | refine s_storeB Try.sizeOf43 rfl rfl rfl hs (kk := 1) rfl rfl ?_
          | refine s_storeB Try.sizeOf43 rfl rfl rfl hs (kk := 2) rfl rfl ?_
        clear hs; intro w hs; try simp only [List.set_cons_zero, List.set_cons_succ, splice, List.take_succ_cons, List.take_zero, List.drop_succ_cons, List.drop_zero, List.nil_append, List.cons_append, List.length_cons, List.length_nil, Nat.reduceAdd, List.append_assoc] at hs
        refine D_en ?re ?_
        case re =>
          refine Reks_cons rfl rfl rfl rfl ?_ ?_
          · skip
            refine s_move rfl rfl ?_
            exact Rek_end rfl
          refine Reks_cons rfl rfl rfl rfl ?_ ?_
          · skip
            refine s_fieldAddr rfl rfl (FA94_3 _ _) ?_
            exact Rek_end rfl
          refine Reks_cons rfl rfl rfl rfl ?_ ?_
          · skip
            first
              | refine s_load Try.isAgg3 rfl rfl (hs.cell (k := 0) rfl rfl) ?_
              | refine s_load Try.isAgg3 rfl rfl (hs.cell (k := 1) rfl rfl) ?_
              | refine s_load Try.isAgg3 rfl rfl (hs.cell (k := 2) rfl rfl) ?_
            exact Rek_end rfl
          exact Reks_nil
        refine D_q rfl rfl ?_
        refine s_nilCheck rfl rfl ?_
        refine D_qn ?_
        refine D_q rfl rfl ?_
        refine s_fieldAddr rfl rfl (FA89_3 _ _) ?_
        refine D_qn ?_
        refine D_e rfl ?_
        first
          | refine s_storeB Try.sizeOf3 rfl rfl rfl hs (kk := 0) rfl rfl ?_
          | refine s_storeB Try.sizeOf3 rfl rfl rfl hs (kk := 1) rfl rfl ?_
          | refine s_storeB Try.sizeOf3 rfl rfl rfl hs (kk := 2) rfl rfl ?_
        clear hs; intro w hs; try simp only [List.set_cons_zero, List.set_cons_succ, splice, List.take_succ_cons, List.take_zero, List.drop_succ_cons, List.drop_zero, List.nil_append, List.cons_append, List.length_cons, List.length_nil, Nat.reduceAdd, List.append_assoc] at hs
        refine D_en ?re ?_
        case re =>
          exact Reks_nil
        refine D_nil ?_
        refine n_then ?_
        refine W_draw [(0, true, []), (1, true, []), (2, true, []), (3, true, []), (4, true, []), (5, true, []), (6, true, []), (7, true, []), (8, true, []), (9, true, []), (10, false, [])] [[], [], [1], [1, 2], [1, 2, 3], [], [5], [1, 2, 3, 4, 5, 6], [0, 1, 2, 3, 4, 5, 6, 7], [0, 1, 2, 3, 4, 5, 6, 7, 8], [0, 1, 2, 3, 4, 5, 6, 7, 8, 9]] MX (by kernel_rfl) ?_
        intro w1 hw1 hw2 hw3 hw4; replace hs := hs.redrawn hw1 hw2 hw3 hw4; clear hw1 hw2 hw3 hw4
        obtain ⟨w, rfl⟩ : ∃ w : World, w = w1 := ⟨_, rfl⟩
        refine D_q rfl rfl ?_
        refine s_move rfl rfl ?_
        refine D_qn ?_
        refine D_q rfl rfl ?_
        refine s_move rfl rfl ?_
        refine D_qn ?_
        refine D_q rfl rfl ?_
        refine s_nilCheck rfl rfl ?_
        refine D_qn ?_
        refine D_q rfl rfl ?_
        refine s_fieldAddr rfl rfl (FA89_6 _ _) ?_
        refine D_qn ?_
        refine D_q rfl rfl ?_
        first
          | refine s_load Try.isAgg3 rfl rfl (hs.cell (k := 0) rfl rfl) ?_
          | refine s_load Try.isAgg3 rfl rfl (hs.cell (k := 1) rfl rfl) ?_
          | refine s_load Try.isAgg3 rfl rfl (hs.cell (k := 2) rfl rfl) ?_
        refine D_qn ?_
        refine D_q rfl rfl ?_
        refine s_fieldAddr rfl rfl (FA94_4 _ _) ?_
        refine D_qn ?_
        refine D_q rfl rfl ?_
        first
          | refine s_load Try.isAgg3 rfl rfl (hs.cell (k := 0) rfl rfl) ?_
          | refine s_load Try.isAgg3 rfl rfl (hs.cell (k := 1) rfl rfl) ?_
          | refine s_load Try.isAgg3 rfl rfl (hs.cell (k := 2) rfl rfl) ?_
        refine D_qn ?_
        refine D_q rfl rfl ?_
        refine s_max rfl rfl rfl ?_
        refine D_qn ?_
        refine D_q rfl rfl ?_
        refine s_nilCheck rfl rfl ?_
        refine D_qn ?_
        refine D_q rfl rfl ?_
        refine s_fieldAddr rfl rfl (FA89_6 _ _) ?_
        refine D_qn ?_
        refine D_e rfl ?_
        first
          | refine s_storeB Try.sizeOf3 rfl rfl rfl hs (kk := 0) rfl rfl ?_
          | refine s_storeB Try.sizeOf3 rfl rfl rfl hs (kk := 1) rfl rfl ?_
          | refine s_storeB Try.sizeOf3 rfl rfl rfl hs (kk := 2) rfl rfl ?_
        clear hs; intro w hs; try simp only [List.set_cons_zero, List.set_cons_succ, splice, List.take_succ_cons, List.take_zero, List.drop_succ_cons, List.drop_zero, List.nil_append, List.cons_append, List.length_cons, List.length_nil, Nat.reduceAdd, List.append_assoc] at hs
        refine D_en ?re ?_
        case re =>
          exact Reks_nil
        refine D_nil ?_
        refine n_blk ?_
        refine n_then ?_
        refine W_region ?_
        first | (refine s_add' rfl rfl rfl ?hx ?_; case hx => (constructor <;> first | omega | (simp only; omega))) | refine s_add rfl rfl rfl ?_
        refine s_move rfl rfl ?_
        refine WL_nil ?_
        refine n_loop ?_
        rcases hcase with ⟨rfl, rfl, rfl, rfl, rfl, rfl, rfl⟩ | ⟨rfl, hne⟩
        · first
            | (exact absurd hc23 (by decide))
            | (have r1 : rA R m i i = R := if_neg (by omega)
               have r2 : lvA R m i i (.slice la R.log.length lc) (.slice a0 m.log.length c0) = .slice la R.log.length lc := if_neg (by omega)
               rw [r1, r2] at hq
               have r4 : qa = la ∧ qc = lc := by injection hq with h1 h2 h3; exact ⟨h1.symm, h3.symm⟩
               obtain ⟨rfl, rfl⟩ := r4
               have hmx : (if (R.n : Int) < (m.n : Int) then (m.n : Int) else (R.n : Int)) = ((max R.n m.n : Nat) : Int) := by split <;> omega
               simp only [r1, hmx] at *
               refine ⟨⟨i + 1⟩, ⟨rfl, rfl, rfl, trivial⟩, ⟨?_, by simp only; omega⟩, by simp only; omega⟩
               simp only
               replace hs := hs.tail
               first
                 | (have ht : R.takes m.lterm m.log := by unfold Rp.takes; omega
                    rw [rA, if_pos (by omega), lvA, if_pos ⟨by omega, ht⟩, Rp.heard, Rp.adopt, if_pos ht]; exact hs)
                 | (have ht : ¬ R.takes m.lterm m.log := by unfold Rp.takes; omega
                    rw [rA, if_pos (by omega), lvA, if_neg (fun h => ht h.2), Rp.heard, Rp.adopt, if_neg ht]; exact hs))
        · first
            | (exfalso; simp at hc23; done)
            | (refine ⟨⟨i + 1⟩, ⟨rfl, rfl, rfl, trivial⟩, ⟨?_, by simp only; omega⟩, by simp only; omega⟩
               simp only
               rw [rA_step hne, lvA_step hne, hq]
               exact hs.tail)
      · skip
        try simp only [decide_eq_true_eq, decide_eq_false_iff_not, gt_iff_lt, beq_iff_eq, beq_eq_false_iff_ne, ne_eq] at hg31
        refine D_qn ?_
        refine D_q rfl rfl ?_
        refine WL_take rfl ?_
        refine s_fieldAddr rfl rfl (FA94_3 _ _) ?_
        refine D_qn ?_
        refine D_q rfl rfl ?_
        refine WL_take rfl ?_
        first
          | refine s_load Try.isAgg3 rfl rfl (hs.cell (k := 0) rfl rfl) ?_
          | refine s_load Try.isAgg3 rfl rfl (hs.cell (k := 1) rfl rfl) ?_
          | refine s_load Try.isAgg3 rfl rfl (hs.cell (k := 2) rfl rfl) ?_
        refine D_qn ?_
        refine D_q rfl rfl ?_
        refine WL_take rfl ?_
        refine s_move rfl rfl ?_
        refine D_qn ?_
        refine D_q rfl rfl ?_
        refine WL_take rfl ?_
        refine s_nilCheck rfl rfl ?_
        refine D_qn ?_
        refine D_q rfl rfl ?_
        refine WL_take rfl ?_
        refine s_fieldAddr rfl rfl (FA89_3 _ _) ?_
        refine D_qn ?_
        refine D_q rfl rfl ?_
        refine WL_take rfl ?_
        first
          | refine s_load Try.isAgg3 rfl rfl (hs.cell (k := 0) rfl rfl) ?_
          | refine s_load Try.isAgg3 rfl rfl (hs.cell (k := 1) rfl rfl) ?_
          | refine s_load Try.isAgg3 rfl rfl (hs.cell (k := 2) rfl rfl) ?_
        refine D_qn ?_
        refine D_q rfl rfl ?_
        refine WL_take rfl ?_
        refine s_eql rfl rfl rfl ?_
        refine D_qn ?_
        refine D_q rfl rfl ?_
        refine WL_take rfl ?_
        refine s_move rfl rfl ?_
        refine WL_case (s := 39) rfl (fun hg39 => ?_) (fun hg39 => ?_)
        · skip
          try simp only [decide_eq_true_eq, decide_eq_false_iff_not, gt_iff_lt, beq_iff_eq, beq_eq_false_iff_ne, ne_eq] at hg39
          refine D_qn ?_
          refine D_q rfl rfl ?_
          refine WL_take rfl ?_
          refine s_fieldAddr rfl rfl (FA94_6 _ _) ?_
          refine D_qn ?_
          refine D_q rfl rfl ?_
          refine WL_take rfl ?_
          first
            | refine s_load Try.isAgg43 rfl rfl (hs.cell (k := 0) rfl rfl) ?_
            | refine s_load Try.isAgg43 rfl rfl (hs.cell (k := 1) rfl rfl) ?_
            | refine s_load Try.isAgg43 rfl rfl (hs.cell (k := 2) rfl rfl) ?_
          refine D_qn ?_
          refine D_q rfl rfl ?_
          refine WL_take rfl ?_
          refine s_len rfl rfl (LN43 _ _ _ _) ?_
          refine D_qn ?_
          refine D_q rfl rfl ?_
          refine WL_take rfl ?_
          refine s_move rfl rfl ?_
          refine D_qn ?_
          refine D_q rfl rfl ?_
          refine WL_take rfl ?_
          refine s_nilCheck rfl rfl ?_
          refine D_qn ?_
          refine D_q rfl rfl ?_
          refine WL_take rfl ?_
          refine s_fieldAddr rfl rfl (FA89_5 _ _) ?_
          refine D_qn ?_
          refine D_q rfl rfl ?_
          refine WL_take rfl ?_
          first
            | refine s_load Try.isAgg43 rfl rfl (hs.cell (k := 0) rfl rfl) ?_
            | refine s_load Try.isAgg43 rfl rfl (hs.cell (k := 1) rfl rfl) ?_
            | refine s_load Try.isAgg43 rfl rfl (hs.cell (k := 2) rfl rfl) ?_
          refine D_qn ?_
          refine D_q rfl rfl ?_
          refine WL_take rfl ?_
          refine s_len rfl rfl (LN43 _ _ _ _) ?_
          refine D_qn ?_
          refine D_q rfl rfl ?_
          refine WL_take rfl ?_
          refine s_gtr rfl rfl rfl ?_
          refine D_qn ?_
          refine D_q rfl rfl ?_
          refine WL_take rfl ?_
          refine s_pick_t rfl rfl rfl ?_
          refine D_qn ?_
          refine D_q rfl rfl ?_
          refine s_pick_f rfl rfl rfl ?_
          refine D_qn ?_
          refine D_nil ?_
          refine n_then ?_
          refine W_cond rfl (fun hc50 => ?_) (fun hc50 => ?_)
          · skip
            try simp only [decide_eq_true_eq, decide_eq_false_iff_not, gt_iff_lt, beq_iff_eq, beq_eq_false_iff_ne, ne_eq] at hc50
            refine W_draw [(0, true, []), (1, true, []), (2, true, []), (3, true, []), (4, true, []), (5, true, []), (6, true, []), (7, true, []), (8, false, [1, 4, 5]), (9, true, []), (10, true, []), (11, false, [])] [[], [], [], [2], [], [4], [0, 2, 3], [0, 2, 3, 6], [0, 2, 3, 6, 7], [0, 1, 2, 3, 4, 5, 6, 7, 8], [0, 1, 2, 3, 4, 5, 6, 7, 8, 9], [0, 1, 2, 3, 4, 5, 6, 7, 8, 9, 10]] MX (by kernel_rfl) ?_
            intro w1 hw1 hw2 hw3 hw4; replace hs := hs.redrawn hw1 hw2 hw3 hw4; clear hw1 hw2 hw3 hw4
            obtain ⟨w, rfl⟩ : ∃ w : World, w = w1 := ⟨_, rfl⟩
            refine D_q rfl rfl ?_
            refine s_move rfl rfl ?_
            refine D_qn ?_
            refine D_q rfl rfl ?_
            refine s_move rfl rfl ?_
            refine D_qn ?_
            refine D_q rfl rfl ?_
            refine s_fieldAddr rfl rfl (FA94_6 _ _) ?_
            refine D_qn ?_
            refine D_q rfl rfl ?_
            first
              | refine s_load Try.isAgg43 rfl rfl (hs.cell (k := 0) rfl rfl) ?_
              | refine s_load Try.isAgg43 rfl rfl (hs.cell (k := 1) rfl rfl) ?_
              | refine s_load Try.isAgg43 rfl rfl (hs.cell (k := 2) rfl rfl) ?_
            refine D_qn ?_
            refine D_q rfl rfl ?_
            refine s_fieldAddr rfl rfl (FA94_3 _ _) ?_
            refine D_qn ?_
            refine D_q rfl rfl ?_
            first
              | refine s_load Try.isAgg3 rfl rfl (hs.cell (k := 0) rfl rfl) ?_
              | refine s_load Try.isAgg3 rfl rfl (hs.cell (k := 1) rfl rfl) ?_
              | refine s_load Try.isAgg3 rfl rfl (hs.cell (k := 2) rfl rfl) ?_
            refine D_qn ?_
            refine D_q rfl rfl ?_
            refine s_nilCheck rfl rfl ?_
            refine D_qn ?_
            refine D_q rfl rfl ?_
            refine s_fieldAddr rfl rfl (FA89_5 _ _) ?_
            refine D_qn ?_
            refine D_e rfl ?_
            first
              | refine s_storeB Try.sizeOf43 rfl rfl rfl hs (kk := 0) rfl rfl ?_
              | refine s_storeB Try.sizeOf43 rfl rfl rfl hs (kk := 1) rfl rfl ?_
              | refine s_storeB Try.sizeOf43 rfl rfl rfl hs (kk := 2) rfl rfl ?_
            clear hs; intro w hs; try simp only [List.set_cons_zero, List.set_cons_succ, splice, List.take_succ_cons, List.take_zero, List.drop_succ_cons, List.drop_zero, List.nil_append, List.cons_append, List.length_cons, List.length_nil, Nat.reduceAdd, List.append_assoc] at hs
            refine D_en ?re ?_
            case re =>
              refine Reks_cons rfl rfl rfl rfl ?_ ?_
              · skip
                refine s_move rfl rfl ?_
                exact Rek_end rfl
              refine Reks_cons rfl rfl rfl rfl ?_ ?_
              · skip
                refine s_fieldAddr rfl rfl (FA94_3 _ _) ?_
                exact Rek_end rfl
              refine Reks_cons rfl rfl rfl rfl ?_ ?_
              · skip
                first
                  | refine s_load Try.isAgg3 rfl rfl (hs.cell (k := 0) rfl rfl) ?_
                  | refine s_load Try.isAgg3 rfl rfl (hs.cell (k := 1) rfl rfl) ?_
                  | refine s_load Try.isAgg3 rfl rfl (hs.cell (k := 2) rfl rfl) ?_
                exact Rek_end rfl
              exact Reks_nil
            refine D_q rfl rfl ?_
            refine s_nilCheck rfl rfl ?_
            refine D_qn ?_
            refine D_q rfl rfl ?_
            refine s_fieldAddr rfl rfl (FA89_3 _ _) ?_
            refine D_qn ?_
            refine D_e rfl ?_
            first
              | refine s_storeB Try.sizeOf3 rfl rfl rfl hs (kk := 0) rfl rfl ?_
              | refine s_storeB Try.sizeOf3 rfl rfl rfl hs (kk := 1) rfl rfl ?_
              | refine s_storeB Try.sizeOf3 rfl rfl rfl hs (kk := 2) rfl rfl ?_
            clear hs; intro w hs; try simp only [List.set_cons_zero, List.set_cons_succ, splice, List.take_succ_cons, List.take_zero, List.drop_succ_cons, List.drop_zero, List.nil_append, List.cons_append, List.length_cons, List.length_nil, Nat.reduceAdd, List.append_assoc] at hs
            refine D_en ?re ?_
            case re =>
              exact Reks_nil
            refine D_nil ?_
            refine n_then ?_
            refine W_draw [(0, true, []), (1, true, []), (2, true, []), (3, true, []), (4, true, []), (5, true, []), (6, true, []), (7, true, []), (8, true, []), (9, true, []), (10, false, [])] [[], [], [1], [1, 2], [1, 2, 3], [], [5], [1, 2, 3, 4, 5, 6], [0, 1, 2, 3, 4, 5, 6, 7], [0, 1, 2, 3, 4, 5, 6, 7, 8], [0, 1, 2, 3, 4, 5, 6, 7, 8, 9]] MX (by kernel_rfl) ?_
            intro w1 hw1 hw2 hw3 hw4; replace hs := hs.redrawn hw1 hw2 hw3 hw4; clear hw1 hw2 hw3 hw4
            obtain ⟨w, rfl⟩ : ∃ w : World, w = w1 := ⟨_, rfl⟩
            refine D_q rfl rfl ?_
            refine s_move rfl rfl ?_
            refine D_qn ?_
            refine D_q rfl rfl ?_
            refine s_move rfl rfl ?_
            refine D_qn ?_
            refine D_q rfl rfl ?_
            refine s_nilCheck rfl rfl ?_
            refine D_qn ?_
            refine D_q rfl rfl ?_
            refine s_fieldAddr rfl rfl (FA89_6 _ _) ?_
            refine D_qn ?_
            refine D_q rfl rfl ?_
            first
              | refine s_load Try.isAgg3 rfl rfl (hs.cell (k := 0) rfl rfl) ?_
              | refine s_load Try.isAgg3 rfl rfl (hs.cell (k := 1) rfl rfl) ?_
              | refine s_load Try.isAgg3 rfl rfl (hs.cell (k := 2) rfl rfl) ?_
            refine D_qn ?_
            refine D_q rfl rfl ?_
            refine s_fieldAddr rfl rfl (FA94_4 _ _) ?_
            refine D_qn ?_
            refine D_q rfl rfl ?_
            first
              | refine s_load Try.isAgg3 rfl rfl (hs.cell (k := 0) rfl rfl) ?_
              | refine s_load Try.isAgg3 rfl rfl (hs.cell (k := 1) rfl rfl) ?_
              | refine s_load Try.isAgg3 rfl rfl (hs.cell (k := 2) rfl rfl) ?_
            refine D_qn ?_
            refine D_q rfl rfl ?_
            refine s_max rfl rfl rfl ?_
            refine D_qn ?_
            refine D_q rfl rfl ?_
            refine s_nilCheck rfl rfl ?_
            refine D_qn ?_
            refine D_q rfl rfl ?_
            refine s_fieldAddr rfl rfl (FA89_6 _ _) ?_
            refine D_qn ?_
            refine D_e rfl ?_
            first
              | refine s_storeB Try.sizeOf3 rfl rfl rfl hs (kk := 0) rfl rfl ?_
              | refine s_storeB Try.sizeOf3 rfl rfl rfl hs (kk := 1) rfl rfl ?_
              | refine s_storeB Try.sizeOf3 rfl rfl rfl hs (kk := 2) rfl rfl ?_
            clear hs; intro w hs; try simp only [List.set_cons_zero, List.set_cons_succ, splice, List.take_succ_cons, List.take_zero, List.drop_succ_cons, List.drop_zero, List.nil_append, List.cons_append, List.length_cons, List.length_nil, Nat.reduceAdd, List.append_assoc] at hs
            refine D_en ?re ?_
            case re =>
              exact Reks_nil
            refine D_nil ?_
            refine n_blk ?_
            refine n_then ?_
            refine W_region ?_
            first | (refine s_add' rfl rfl rfl ?hx ?_; case hx => (constructor <;> first | omega | (simp only; omega))) | refine s_add rfl rfl rfl ?_
            refine s_move rfl rfl ?_
            refine WL_nil ?_
            refine n_loop ?_
            rcases hcase with ⟨rfl, rfl, rfl, rfl, rfl, rfl, rfl⟩ | ⟨rfl, hne⟩
            · first
                | (exact absurd hc23 (by decide))
                | (have r1 : rA R m i i = R := if_neg (by omega)
                   have r2 : lvA R m i i (.slice la R.log.length lc) (.slice a0 m.log.length c0) = .slice la R.log.length lc := if_neg (by omega)
                   rw [r1, r2] at hq
                   have r4 : qa = la ∧ qc = lc := by injection hq with h1 h2 h3; exact ⟨h1.symm, h3.symm⟩
                   obtain ⟨rfl, rfl⟩ := r4
                   have hmx : (if (R.n : Int) < (m.n : Int) then (m.n : Int) else (R.n : Int)) = ((max R.n m.n : Nat) : Int) := by split <;> omega
                   simp only [r1, hmx] at *
                   refine ⟨⟨i + 1⟩, ⟨rfl, rfl, rfl, trivial⟩, ⟨?_, by simp only; omega⟩, by simp only; omega⟩
                   simp only
                   replace hs := hs.tail
                   first
                     | (have ht : R.takes m.lterm m.log := by unfold Rp.takes; omega
                        rw [rA, if_pos (by omega), lvA, if_pos ⟨by omega, ht⟩, Rp.heard, Rp.adopt, if_pos ht]; exact hs)
                     | (have ht : ¬ R.takes m.lterm m.log := by unfold Rp.takes; omega
                        rw [rA, if_pos (by omega), lvA, if_neg (fun h => ht h.2), Rp.heard, Rp.adopt, if_neg ht]; exact hs))
            · first
                | (exfalso; simp at hc23; done)
                | (refine ⟨⟨i + 1⟩, ⟨rfl, rfl, rfl, trivial⟩, ⟨?_, by simp only; omega⟩, by simp only; omega⟩
                   simp only
                   rw [rA_step hne, lvA_step hne, hq]
                   exact hs.tail)
          · skip
            try simp only [decide_eq_true_eq, decide_eq_false_iff_not, gt_iff_lt, beq_iff_eq, beq_eq_false_iff_ne, ne_eq] at hc50
            refine W_skip ?_
            refine n_then ?_
            refine W_draw [(0, true, []), (1, true, []), (2, true, []), (3, true, []), (4, true, []), (5, true, []), (6, true, []), (7, true, []), (8, true, []), (9, true, []), (10, false, [])] [[], [], [1], [1, 2], [1, 2, 3], [], [5], [1, 2, 3, 4, 5, 6], [0, 1, 2, 3, 4, 5, 6, 7], [0, 1, 2, 3, 4, 5, 6, 7, 8], [0, 1, 2, 3, 4, 5, 6, 7, 8, 9]] MX (by kernel_rfl) ?_
            intro w1 hw1 hw2 hw3 hw4; replace hs := hs.redrawn hw1 hw2 hw3 hw4; clear hw1 hw2 hw3 hw4
            obtain ⟨w, rfl⟩ : ∃ w : World, w = w1 := ⟨_, rfl⟩
            refine D_q rfl rfl ?_
            refine s_move rfl rfl ?_
            refine D_qn ?_
            refine D_q rfl rfl ?_
            refine s_move rfl rfl ?_
            refine D_qn ?_
            refine D_q rfl rfl ?_
            refine s_nilCheck rfl rfl ?_
            refine D_qn ?_
            refine D_q rfl rfl ?_
            refine s_fieldAddr rfl rfl (FA89_6 _ _) ?_
            refine D_qn ?_
            refine D_q rfl rfl ?_
            first
              | refine s_load Try.isAgg3 rfl rfl (hs.cell (k := 0) rfl rfl) ?_
              | refine s_load Try.isAgg3 rfl rfl (hs.cell (k := 1) rfl rfl) ?_
              | refine s_load Try.isAgg3 rfl rfl (hs.cell (k := 2) rfl rfl) ?_
            refine D_qn ?_
            refine D_q rfl rfl ?_
            refine s_fieldAddr rfl rfl (FA94_4 _ _) ?_
            refine D_qn ?_
            refine D_q rfl rfl ?_
            first
              | refine s_load Try.isAgg3 rfl rfl (hs.cell (k := 0) rfl rfl) ?_
              | refine s_load Try.isAgg3 rfl rfl (hs.cell (k := 1) rfl rfl) ?_
              | refine s_load Try.isAgg3 rfl rfl (hs.cell (k := 2) rfl rfl) ?_
            refine D_qn ?_
            refine D_q rfl rfl ?_
            refine s_max rfl rfl rfl ?_
            refine D_qn ?_
            refine D_q rfl rfl ?_
            refine s_nilCheck rfl rfl ?_
            refine D_qn ?_
            refine D_q rfl rfl ?_
            refine s_fieldAddr rfl rfl (FA89_6 _ _) ?_
            refine D_qn ?_
            refine D_e rfl ?_
            first
              | refine s_storeB Try.sizeOf3 rfl rfl rfl hs (kk := 0) rfl rfl ?_
              | refine s_storeB Try.sizeOf3 rfl rfl rfl hs (kk := 1) rfl rfl ?_
              | refine s_storeB Try.sizeOf3 rfl rfl rfl hs (kk := 2) rfl rfl ?_
            clear hs; intro w hs; try simp only [List.set_cons_zero, List.set_cons_succ, splice, List.take_succ_cons, List.take_zero, List.drop_succ_cons, List.drop_zero, List.nil_append, List.cons_append, List.length_cons, List.length_nil, Nat.reduceAdd, List.append_assoc] at hs
            refine D_en ?re ?_
            case re =>
              exact Reks_nil
            refine D_nil ?_
            refine n_blk ?_
            refine n_then ?_
            refine W_region ?_
            first | (refine s_add' rfl rfl rfl ?hx ?_; case hx => (constructor <;> first | omega | (simp only; omega))) | refine s_add rfl rfl rfl ?_
            refine s_move rfl rfl ?_
            refine WL_nil ?_
            refine n_loop ?_
            rcases hcase with ⟨rfl, rfl, rfl, rfl, rfl, rfl, rfl⟩ | ⟨rfl, hne⟩
            · first
                | (exact absurd hc23 (by decide))
                | (have r1 : rA R m i i = R := if_neg (by omega)
                   have r2 : lvA R m i i (.slice la R.log.length lc) (.slice a0 m.log.length c0) = .slice la R.log.length lc := if_neg (by omega)
                   rw [r1, r2] at hq
                   have r4 : qa = la ∧ qc = lc := by injection hq with h1 h2 h3; exact ⟨h1.symm, h3.symm⟩
                   obtain ⟨rfl, rfl⟩ := r4
                   have hmx : (if (R.n : Int) < (m.n : Int) then (m.n : Int) else (R.n : Int)) = ((max R.n m.n : Nat) : Int) := by split <;> omega
                   simp only [r1, hmx] at *
                   refine ⟨⟨i + 1⟩, ⟨rfl, rfl, rfl, trivial⟩, ⟨?_, by simp only; omega⟩, by simp only; omega⟩
                   simp only
                   replace hs := hs.tail
                   first
                     | (have ht : R.takes m.lterm m.log := by unfold Rp.takes; omega
                        rw [rA, if_pos (by omega), lvA, if_pos ⟨by omega, ht⟩, Rp.heard, Rp.adopt, if_pos ht]; exact hs)
                     | (have ht : ¬ R.takes m.lterm m.log := by unfold Rp.takes; omega
                        rw [rA, if_pos (by omega), lvA, if_neg (fun h => ht h.2), Rp.heard, Rp.adopt, if_neg ht]; exact hs))
            · first
                | (exfalso; simp at hc23; done)
                | (refine ⟨⟨i + 1⟩, ⟨rfl, rfl, rfl, trivial⟩, ⟨?_, by simp only; omega⟩, by simp only; omega⟩
                   simp only
                   rw [rA_step hne, lvA_step hne, hq]
                   exact hs.tail)
        · skip
          try simp only [decide_eq_true_eq, decide_eq_false_iff_not, gt_iff_lt, beq_iff_eq, beq_eq_false_iff_ne, ne_eq] at hg39
          refine D_qn ?_
          refine D_q rfl rfl ?_
          refine WL_skip rfl rfl rfl ?_
          refine D_qn ?_
          refine D_q rfl rfl ?_
          refine WL_skip rfl rfl rfl ?_
          refine D_qn ?_
          refine D_q rfl rfl ?_
          refine WL_skip rfl rfl rfl ?_
          refine D_qn ?_
          refine D_q rfl rfl ?_
          refine WL_skip rfl rfl rfl ?_
          refine D_qn ?_
          refine D_q rfl rfl ?_
          refine WL_skip rfl rfl rfl ?_
          refine D_qn ?_
          refine D_q rfl rfl ?_
          refine WL_skip rfl rfl rfl ?_
          refine D_qn ?_
          refine D_q rfl rfl ?_
          refine WL_skip rfl rfl rfl ?_
          refine D_qn ?_
          refine D_q rfl rfl ?_
          refine WL_skip rfl rfl rfl ?_
          refine D_qn ?_
          refine D_q rfl rfl ?_
          refine WL_skip rfl rfl rfl ?_
          refine D_qn ?_
          refine D_q rfl rfl ?_
          refine WL_take rfl ?_
          refine s_pick_f rfl rfl rfl ?_
          refine D_qn ?_
          refine D_q rfl rfl ?_
          refine s_pick_f rfl rfl rfl ?_
          refine D_qn ?_
          refine D_nil ?_
          refine n_then ?_
          refine W_cond_f rfl ?_
          refine W_skip ?_
          refine n_then ?_
          refine W_draw [(0, true, []), (1, true, []), (2, true, []), (3, true, []), (4, true, []), (5, true, []), (6, true, []), (7, true, []), (8, true, []), (9, true, []), (10, false, [])] [[], [], [1], [1, 2], [1, 2, 3], [], [5], [1, 2, 3, 4, 5, 6], [0, 1, 2, 3, 4, 5, 6, 7], [0, 1, 2, 3, 4, 5, 6, 7, 8], [0, 1, 2, 3, 4, 5, 6, 7, 8, 9]] MX (by kernel_rfl) ?_
          intro w1 hw1 hw2 hw3 hw4; replace hs := hs.redrawn hw1 hw2 hw3 hw4; clear hw1 hw2 hw3 hw4
          obtain ⟨w, rfl⟩ : ∃ w : World, w = w1 := ⟨_, rfl⟩
          refine D_q rfl rfl ?_
          refine s_move rfl rfl ?_
          refine D_qn ?_
          refine D_q rfl rfl ?_
          refine s_move rfl rfl ?_
          refine D_qn ?_
          refine D_q rfl rfl ?_
          refine s_nilCheck rfl rfl ?_
          refine D_qn ?_
          refine D_q rfl rfl ?_
          refine s_fieldAddr rfl rfl (FA89_6 _ _) ?_
          refine D_qn ?_
          refine D_q rfl rfl ?_
          first
            | refine s_load Try.isAgg3 rfl rfl (hs.cell (k := 0) rfl rfl) ?_
            | refine s_load Try.isAgg3 rfl rfl (hs.cell (k := 1) rfl rfl) ?_
            | refine s_load Try.isAgg3 rfl rfl (hs.cell (k := 2) rfl rfl) ?_
          refine D_qn ?_
          refine D_q rfl rfl ?_
          refine s_fieldAddr rfl rfl (FA94_4 _ _) ?_
          refine D_qn ?_
          refine D_q rfl rfl ?_
          first
            | refine s_load Try.isAgg3 rfl rfl (hs.cell (k := 0) rfl rfl) ?_
            | refine s_load Try.isAgg3 rfl rfl (hs.cell (k := 1) rfl rfl) ?_
            | refine s_load Try.isAgg3 rfl rfl (hs.cell (k := 2) rfl rfl) ?_
          refine D_qn ?_
          refine D_q rfl rfl ?_
          refine s_max rfl rfl rfl ?_
          refine D_qn ?_
          refine D_q rfl rfl ?_
          refine s_nilCheck rfl rfl ?_
          refine D_qn ?_
          refine D_q rfl rfl ?_
          refine s_fieldAddr rfl rfl (FA89_6 _ _) ?_
          refine D_qn ?_
          refine D_e rfl ?_
          first
            | refine s_storeB Try.sizeOf3 rfl rfl rfl hs (kk := 0) rfl rfl ?_
            | refine s_storeB Try.sizeOf3 rfl rfl rfl hs (kk := 1) rfl rfl ?_
            | refine s_storeB Try.sizeOf3 rfl rfl rfl hs (kk := 2) rfl rfl ?_
          clear hs; intro w hs; try simp only [List.set_cons_zero, List.set_cons_succ, splice, List.take_succ_cons, List.take_zero, List.drop_succ_cons, List.drop_zero, List.nil_append, List.cons_append, List.length_cons, List.length_nil, Nat.reduceAdd, List.append_assoc] at hs
          refine D_en ?re ?_
          case re =>
            exact Reks_nil
          refine D_nil ?_
          refine n_blk ?_
          refine n_then ?_
          refine W_region ?_
          first | (refine s_add' rfl rfl rfl ?hx ?_; case hx => (constructor <;> first | omega | (simp only; omega))) | refine s_add rfl rfl rfl ?_
          refine s_move rfl rfl ?_
          refine WL_nil ?_
          refine n_loop ?_
          rcases hcase with ⟨rfl, rfl, rfl, rfl, rfl, rfl, rfl⟩ | ⟨rfl, hne⟩
          · first
              | (exact absurd hc23 (by decide))
              | (have r1 : rA R m i i = R := if_neg (by omega)
                 have r2 : lvA R m i i (.slice la R.log.length lc) (.slice a0 m.log.length c0) = .slice la R.log.length lc := if_neg (by omega)
                 rw [r1, r2] at hq
                 have r4 : qa = la ∧ qc = lc := by injection hq with h1 h2 h3; exact ⟨h1.symm, h3.symm⟩
                 obtain ⟨rfl, rfl⟩ := r4
                 have hmx : (if (R.n : Int) < (m.n : Int) then (m.n : Int) else (R.n : Int)) = ((max R.n m.n : Nat) : Int) := by split <;> omega
                 simp only [r1, hmx] at *
                 refine ⟨⟨i + 1⟩, ⟨rfl, rfl, rfl, trivial⟩, ⟨?_, by simp only; omega⟩, by simp only; omega⟩
                 simp only
                 replace hs := hs.tail
                 first
                   | (have ht : R.takes m.lterm m.log := by unfold Rp.takes; omega
                      rw [rA, if_pos (by omega), lvA, if_pos ⟨by omega, ht⟩, Rp.heard, Rp.adopt, if_pos ht]; exact hs)
                   | (have ht : ¬ R.takes m.lterm m.log := by unfold Rp.takes; omega
                      rw [rA, if_pos (by omega), lvA, if_neg (fun h => ht h.2), Rp.heard, Rp.adopt, if_neg ht]; exact hs))
          · first
              | (exfalso; simp at hc23; done)
              | (refine ⟨⟨i + 1⟩, ⟨rfl, rfl, rfl, trivial⟩, ⟨?_, by simp only; omega⟩, by simp only; omega⟩
                 simp only
                 rw [rA_step hne, lvA_step hne, hq]
                 exact hs.tail)
  · skip
    try simp only [decide_eq_true_eq, decide_eq_false_iff_not, gt_iff_lt, beq_iff_eq, beq_eq_false_iff_ne, ne_eq] at hc11
    refine W_exit ?_
    refine x_then ?_
    refine x_then ?_
    refine exit_hit ?_
    refine n_then ?_
    refine W_seq ?_
    refine W_draw [(0, true, []), (1, true, []), (2, true, []), (3, true, []), (4, true, []), (5, true, []), (6, true, []), (7, true, []), (8, true, []), (9, true, []), (10, true, []), (11, true, []), (12, true, []), (13, false, [])] [[], [], [1], [1, 2], [1, 2, 3], [], [5], [5, 6], [5, 6, 7], [5, 6, 7, 8], [1, 2, 3, 4, 5, 6, 7, 8, 9], [0, 1, 2, 3, 4, 5, 6, 7, 8, 9, 10], [0, 1, 2, 3, 4, 5, 6, 7, 8, 9, 10, 11], [0, 1, 2, 3, 4, 5, 6, 7, 8, 9, 10, 11, 12]] MX (by kernel_rfl) ?_
    intro w1 hw1 hw2 hw3 hw4; replace hs := hs.redrawn hw1 hw2 hw3 hw4; clear hw1 hw2 hw3 hw4
    obtain ⟨w, rfl⟩ : ∃ w : World, w = w1 := ⟨_, rfl⟩
    refine D_q rfl rfl ?_
    refine s_move rfl rfl ?_
    refine D_qn ?_
    refine D_q rfl rfl ?_
    refine s_move rfl rfl ?_
    refine D_qn ?_
    refine D_q rfl rfl ?_
    refine s_nilCheck rfl rfl ?_
    refine D_qn ?_
    refine D_q rfl rfl ?_
    refine s_fieldAddr rfl rfl (FA89_6 _ _) ?_
    refine D_qn ?_
    refine D_q rfl rfl ?_
    first
      | refine s_load Try.isAgg3 rfl rfl (hs.cell (k := 0) rfl rfl) ?_
      | refine s_load Try.isAgg3 rfl rfl (hs.cell (k := 1) rfl rfl) ?_
      | refine s_load Try.isAgg3 rfl rfl (hs.cell (k := 2) rfl rfl) ?_
    refine D_qn ?_
    refine D_q rfl rfl ?_
    refine s_move rfl rfl ?_
    refine D_qn ?_
    refine D_q rfl rfl ?_
    refine s_nilCheck rfl rfl ?_
    refine D_qn ?_
    refine D_q rfl rfl ?_
    refine s_fieldAddr rfl rfl (FA89_5 _ _) ?_
    refine D_qn ?_
    refine D_q rfl rfl ?_
    first
      | refine s_load Try.isAgg43 rfl rfl (hs.cell (k := 0) rfl rfl) ?_
      | refine s_load Try.isAgg43 rfl rfl (hs.cell (k := 1) rfl rfl) ?_
      | refine s_load Try.isAgg43 rfl rfl (hs.cell (k := 2) rfl rfl) ?_
    refine D_qn ?_
    refine D_q rfl rfl ?_
    refine s_len rfl rfl (LN43 _ _ _ _) ?_
    refine D_qn ?_
    refine D_q rfl rfl ?_
    refine s_min rfl rfl rfl ?_
    refine D_qn ?_
    refine D_q rfl rfl ?_
    refine s_nilCheck rfl rfl ?_
    refine D_qn ?_
    refine D_q rfl rfl ?_
    refine s_fieldAddr rfl rfl (FA89_6 _ _) ?_
    refine D_qn ?_
    refine D_e rfl ?_
    first
      | refine s_storeB Try.sizeOf3 rfl rfl rfl hs (kk := 0) rfl rfl ?_
      | refine s_storeB Try.sizeOf3 rfl rfl rfl hs (kk := 1) rfl rfl ?_
      | refine s_storeB Try.sizeOf3 rfl rfl rfl hs (kk := 2) rfl rfl ?_
    clear hs; intro w hs; try simp only [List.set_cons_zero, List.set_cons_succ, splice, List.take_succ_cons, List.take_zero, List.drop_succ_cons, List.drop_zero, List.nil_append, List.cons_append, List.length_cons, List.length_nil, Nat.reduceAdd, List.append_assoc] at hs
    refine D_en ?re ?_
    case re =>
      exact Reks_nil
    refine D_nil ?_
    refine n_then ?_
    refine W_seq ?_
    refine W_region ?_
    refine s_move rfl rfl ?_
    refine s_move rfl rfl ?_
    refine s_move rfl rfl ?_
    refine s_nilCheck rfl rfl ?_
    refine s_fieldAddr rfl rfl (FA89_2 _ _) ?_
    first
      | refine s_load Try.isAgg3 rfl rfl (hs.cell (k := 0) rfl rfl) ?_
      | refine s_load Try.isAgg3 rfl rfl (hs.cell (k := 1) rfl rfl) ?_
      | refine s_load Try.isAgg3 rfl rfl (hs.cell (k := 2) rfl rfl) ?_
    refine s_nilCheck rfl rfl ?_
    refine s_fieldAddr rfl rfl (FA89_4 _ _) ?_
    first
      | refine s_storeB Try.sizeOf3 rfl rfl rfl hs (kk := 0) rfl rfl ?_
      | refine s_storeB Try.sizeOf3 rfl rfl rfl hs (kk := 1) rfl rfl ?_
      | refine s_storeB Try.sizeOf3 rfl rfl rfl hs (kk := 2) rfl rfl ?_
    clear hs; intro w hs; try simp only [List.set_cons_zero, List.set_cons_succ, splice, List.take_succ_cons, List.take_zero, List.drop_succ_cons, List.drop_zero, List.nil_append, List.cons_append, List.length_cons, List.length_nil, Nat.reduceAdd, List.append_assoc] at hs
    refine s_nilCheck rfl rfl ?_
    refine s_fieldAddr rfl rfl (FA89_3 _ _) ?_
    first
      | refine s_storeB Try.sizeOf3 rfl rfl rfl hs (kk := 0) rfl rfl ?_
      | refine s_storeB Try.sizeOf3 rfl rfl rfl hs (kk := 1) rfl rfl ?_
      | refine s_storeB Try.sizeOf3 rfl rfl rfl hs (kk := 2) rfl rfl ?_
    clear hs; intro w hs; try simp only [List.set_cons_zero, List.set_cons_succ, splice, List.take_succ_cons, List.take_zero, List.drop_succ_cons, List.drop_zero, List.nil_append, List.cons_append, List.length_cons, List.length_nil, Nat.reduceAdd, List.append_assoc] at hs
    refine WL_nil ?_
    refine n_then ?_
    refine W_seq ?_
    refine W_region ?_
    refine s_move rfl rfl ?_
    refine s_makeMap rfl hs ?_; clear hs; intro b96 w hs
    refine s_nilCheck rfl rfl ?_
    refine s_fieldAddr rfl rfl (FA89_8 _ _) ?_
    first
      | refine s_storeB Try.sizeOf87 rfl rfl rfl hs (kk := 0) rfl rfl ?_
      | refine s_storeB Try.sizeOf87 rfl rfl rfl hs (kk := 1) rfl rfl ?_
      | refine s_storeB Try.sizeOf87 rfl rfl rfl hs (kk := 2) rfl rfl ?_
    clear hs; intro w hs; try simp only [List.set_cons_zero, List.set_cons_succ, splice, List.take_succ_cons, List.take_zero, List.drop_succ_cons, List.drop_zero, List.nil_append, List.cons_append, List.length_cons, List.length_nil, Nat.reduceAdd, List.append_assoc] at hs
    refine WL_nil ?_
    refine n_then ?_
    refine W_seq ?_
    refine W_seq ?_
    refine W_region ?_
    refine s_move rfl rfl ?_
    obtain rfl : i = R.mem := by omega
    obtain ⟨q1, q2, q3, q4⟩ := rA_same R m f R.mem
    have hcok := crown_ok (f := f) (i := R.mem) hok hm0
    have hlead : R.lead (if f < R.mem then some m else none) = (rA R m f R.mem).crown := by
      unfold rA; split <;> rfl
    have hfin : ∃ esF LBF LPF LX, LogAt (rA R m f R.mem).log (.slice qa (rA R m f R.mem).log.length qc) esF LBF LPF ∧ X.Perm (LBF ++ (LPF ++ ((vb, o) :: LX))) := by
      by_cases h : f < R.mem ∧ R.takes m.lterm m.log
      · rw [lvA, if_pos h] at hq
        have e : (rA R m f R.mem).log = m.log := by rw [rA, if_pos h.1, Rp.heard, Rp.adopt, if_pos h.2]
        rw [← hq, e]
        refine ⟨es', LB', LP', LB ++ LP, hlog', ?_⟩
        rw [hX]
        have := (List.perm_append_comm (l₁ := LB ++ LP) (l₂ := (vb, o) :: (LB' ++ LP')))
        simp only [List.append_assoc] at this
        refine this.trans ?_
        have h2 := (List.perm_middle (a := (vb, o)) (l₁ := LB' ++ LP') (l₂ := LB ++ LP)).symm
        simp only [List.append_assoc, List.cons_append] at h2 ⊢
        exact h2
      · rw [lvA, if_neg h] at hq
        have e : (rA R m f R.mem).log = R.log := by
          unfold rA Rp.heard Rp.adopt
          split
          · rw [if_neg (fun h2 => h ⟨by assumption, h2⟩)]
          · rfl
        rw [← hq, e]
        exact ⟨es, LB, LP, LB' ++ LP', hlog, by rw [hX]⟩
    rw [hlead]
    clear hq hlead hkv hlog hlog'
    generalize rA R m f R.mem = A at hs q1 q2 q3 q4 hcok hfin ⊢
    obtain ⟨esF, LBF, LPF, LX, hlogF, hpm⟩ := hfin
    refine s_call Try.call38 rfl rfl (majority_ok p _ A.mem 1 w (hs.at (k := 1) rfl) rfl (by omega)) ?_
    rintro r w ⟨hst, rfl⟩
    replace hs := hs.back0 hst
    clear hst
    simp only [List.nil_append] at hs
    refine WL_nil ?_
    refine n_then ?_
    refine W_cond rfl (fun hc100 => ?_) (fun hc100 => ?_)
    · skip
      try simp only [decide_eq_true_eq, decide_eq_false_iff_not, gt_iff_lt, beq_iff_eq, beq_eq_false_iff_ne, ne_eq] at hc100
      refine W_region ?_
      refine s_move rfl rfl ?_
      refine s_move rfl rfl ?_
      refine s_nilCheck rfl rfl ?_
      refine s_fieldAddr rfl rfl (FA89_5 _ _) ?_
      first
        | refine s_load Try.isAgg43 rfl rfl (hs.cell (k := 0) rfl rfl) ?_
        | refine s_load Try.isAgg43 rfl rfl (hs.cell (k := 1) rfl rfl) ?_
        | refine s_load Try.isAgg43 rfl rfl (hs.cell (k := 2) rfl rfl) ?_
      refine s_len rfl rfl (LN43 _ _ _ _) ?_
      refine s_nilCheck rfl rfl ?_
      refine s_fieldAddr rfl rfl (FA89_6 _ _) ?_
      first
        | refine s_storeB Try.sizeOf3 rfl rfl rfl hs (kk := 0) rfl rfl ?_
        | refine s_storeB Try.sizeOf3 rfl rfl rfl hs (kk := 1) rfl rfl ?_
        | refine s_storeB Try.sizeOf3 rfl rfl rfl hs (kk := 2) rfl rfl ?_
      clear hs; intro w hs; try simp only [List.set_cons_zero, List.set_cons_succ, splice, List.take_succ_cons, List.take_zero, List.drop_succ_cons, List.drop_zero, List.nil_append, List.cons_append, List.length_cons, List.length_nil, Nat.reduceAdd, List.append_assoc] at hs
      refine WL_nil ?_
      refine n_then ?_
      refine W_seq ?_
      refine W_region ?_
      refine s_move rfl rfl ?_
      have hs2 := St.reord [[_], [_], LBF, LPF, [_], LX] [1, 2, 3, 4, 0] [5] (by simpa [cat] using hs.perm ((hpm.cons _).cons _)) rfl
      simp only [List.map_cons, List.map_nil, List.getD_cons_zero, List.getD_cons_succ, cat] at hs2
      have hRF : RepAt p A.crown ((p, Blk 89 (rpCells A.crown (.slice qa A.log.length qc) (.map (some vb)) (.map (some b96)))) :: (LBF ++ (LPF ++ ([(vb, o)] ++ [(b96, .map #[] 0)])))) :=
        ⟨_, _, _, esF, LBF, LPF, _, _, rfl, hlogF, .inr ⟨vb, o, kvs, rfl, rfl, hM, hkm, fun h => absurd h (by simp [Rp.crown])⟩, fun _ => ⟨b96, _, [], rfl, rfl, MapI.empty, ⟨nofun, fun _ _ => rfl⟩⟩, ⟨_, rfl⟩, hcok⟩
      replace hs : St F w0 w ((p, Blk 89 (rpCells A.crown (.slice qa A.log.length qc) (.map (some vb)) (.map (some b96)))) :: (LBF ++ (LPF ++ ([(vb, o)] ++ [(b96, .map #[] 0)])))) := by
        first
          | (have hn : ((A.crown.n : Nat) : Int) = (A.log.length : Int) := by
               show (((if A.mem < 2 then A.log.length else min A.n A.log.length : Nat)) : Int) = _
               rw [if_pos (by omega)]
             unfold rpCells; rw [hn]; simpa [Rp.crown] using hs2)
          | (have hn : ((A.crown.n : Nat) : Int) = (if (A.log.length : Int) < (A.n : Int) then (A.log.length : Int) else (A.n : Int)) := by
               show (((if A.mem < 2 then A.log.length else min A.n A.log.length : Nat)) : Int) = _
               rw [if_neg (by omega)]; split <;> omega
             unfold rpCells; rw [hn]; simpa [Rp.crown] using hs2)
      refine s_call Try.call37 rfl rfl (spread_ok p A.crown _ w hRF hs.own) ?_
      rintro r w ⟨Lr, hMs, hst⟩
      replace hs := (hs.back0 hst).swap (A := Lr)
      clear hst
      refine s_assign rfl rfl ?_
      refine WL_nil ?_
      refine n_then ?_
      refine W_ret ?_
      exact end1 rfl rfl ⟨_, hs, Lr, _, rfl, hRF, hMs⟩
    · skip
      try simp only [decide_eq_true_eq, decide_eq_false_iff_not, gt_iff_lt, beq_iff_eq, beq_eq_false_iff_ne, ne_eq] at hc100
      refine W_skip ?_
      refine n_then ?_
      refine W_seq ?_
      refine W_region ?_
      refine s_move rfl rfl ?_
      have hs2 := St.reord [[_], [_], LBF, LPF, [_], LX] [1, 2, 3, 4, 0] [5] (by simpa [cat] using hs.perm ((hpm.cons _).cons _)) rfl
      simp only [List.map_cons, List.map_nil, List.getD_cons_zero, List.getD_cons_succ, cat] at hs2
      have hRF : RepAt p A.crown ((p, Blk 89 (rpCells A.crown (.slice qa A.log.length qc) (.map (some vb)) (.map (some b96)))) :: (LBF ++ (LPF ++ ([(vb, o)] ++ [(b96, .map #[] 0)])))) :=
        ⟨_, _, _, esF, LBF, LPF, _, _, rfl, hlogF, .inr ⟨vb, o, kvs, rfl, rfl, hM, hkm, fun h => absurd h (by simp [Rp.crown])⟩, fun _ => ⟨b96, _, [], rfl, rfl, MapI.empty, ⟨nofun, fun _ _ => rfl⟩⟩, ⟨_, rfl⟩, hcok⟩
      replace hs : St F w0 w ((p, Blk 89 (rpCells A.crown (.slice qa A.log.length qc) (.map (some vb)) (.map (some b96)))) :: (LBF ++ (LPF ++ ([(vb, o)] ++ [(b96, .map #[] 0)])))) := by
        first
          | (have hn : ((A.crown.n : Nat) : Int) = (A.log.length : Int) := by
               show (((if A.mem < 2 then A.log.length else min A.n A.log.length : Nat)) : Int) = _
               rw [if_pos (by omega)]
             unfold rpCells; rw [hn]; simpa [Rp.crown] using hs2)
          | (have hn : ((A.crown.n : Nat) : Int) = (if (A.log.length : Int) < (A.n : Int) then (A.log.length : Int) else (A.n : Int)) := by
               show (((if A.mem < 2 then A.log.length else min A.n A.log.length : Nat)) : Int) = _
               rw [if_neg (by omega)]; split <;> omega
             unfold rpCells; rw [hn]; simpa [Rp.crown] using hs2)
      refine s_call Try.call37 rfl rfl (spread_ok p A.crown _ w hRF hs.own) ?_
      rintro r w ⟨Lr, hMs, hst⟩
      replace hs := (hs.back0 hst).swap (A := Lr)
      clear hst
      refine s_assign rfl rfl ?_
      refine WL_nil ?_
      refine n_then ?_
      refine W_ret ?_
      exact end1 rfl rfl ⟨_, hs, Lr, _, rfl, hRF, hMs⟩
end Go.Proofs.Ytkobigdfijeajaa
