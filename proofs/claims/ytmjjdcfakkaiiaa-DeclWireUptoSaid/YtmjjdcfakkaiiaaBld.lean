/- Pointers through unsafe.Pointer, functions that the model stands in for, and contracts of strings.Builder. -/
import Derived.Test.YtmjjdcfakkaiiaaStr
import Derived.Lib.UnsafeStr
import Derived.Lib.Builder
import Derived.Laws.Externs
set_option linter.unusedVariables false
set_option linter.unusedSimpArgs false
namespace Go.SL
section
variable {P : Program} {n : Nat} {ops : Array Oper} {Q : Post} {l : Fr} {w : World} {rest : List Oper} {d ty : Nat} {pos : String} {aft : Array Edge} {F : List Nat} {w0 : World} {L : Hp}
theorem s_convW {x : Operand} {t t' : Nat} {v v' : Value} (hd : Nat.blt d n = true) (hx : ev l x = some v) (h : (convert t t' v).run P w = .ok v' w) (k : WL P n ops Q rest ((d, v') :: l) w) :
    WL P n ops Q (⟨some d, .convert t t' x, ty, pos, aft, none⟩ :: rest) l w := WL_val hd (fun a ha => by simp [execOp, ha.eval hx, h]) k
theorem s_callX {f : Nat} {xs : List Operand} {vs : List Value} {ts : Array TypeId} {v : Value} (hd : Nat.blt d n = true) (hx : evs l xs = some vs) (h : (callFunc f vs.toArray).run P w = .ok (.value v) w) (k : WL P n ops Q rest ((d, v) :: l) w) :
    WL P n ops Q (⟨some d, .call { callee := .value (.func f), args := xs.toArray, argTypes := ts }, ty, pos, aft, none⟩ :: rest) l w := fun a ha =>
  wpList_plain rfl fun K hK => by
    unfold Oper.wp
    have : (execOp a.eval ⟨some d, .call { callee := .value (.func f), args := xs.toArray, argTypes := ts }, ty, pos, aft, none⟩).run P w = .ok (.value v) w := by
      simp [execOp, resolve, evs_eval ha hx, Act.eval, Deferred.ofValue, invoke, h]
    rw [this]
    exact hK _ _ (k _ (ha.put hd v))
theorem s_neq_same {x y : Operand} {t t' e : Nat} {a : Addr} {j : TypeInfo} (hu : P.underlying t = some (.pointer e)) (hj : P.info? e = some j) (hd : Nat.blt d n = true) (hx : ev l x = some (.pointer (some a))) (hy : ev l y = some (.pointer (some a))) (k : WL P n ops Q rest ((d, .bool false) :: l) w) :
    WL P n ops Q (⟨some d, .binOp .neq t x y t', ty, pos, aft, none⟩ :: rest) l w := WL_val hd (fun ac ha => by
      have h := Lib.run_neq_ptr_same (P := P) w a hu hj
      simp [execOp, ha.eval hx, ha.eval hy, eqGuard, h]) k
theorem St.shape {kk b e : Nat} {cs : List Value} (hs : St F w0 w L) (hk : L[kk]? = some (b, Blk e cs)) : w.shape? b = some (e, cs.length) := by
  have hb := hs.at hk
  simp [World.shape?, hb]
theorem s_sliceData {x : Operand} {ts : Array TypeId} {a : Addr} {m c : Nat} (hd : Nat.blt d n = true) (hx : ev l x = some (.slice (some a) m c)) (hc : c ≠ 0) (k : WL P n ops Q rest ((d, .pointer (some a)) :: l) w) :
    WL P n ops Q (⟨some d, .call { callee := .builtin .unsafeSliceData, args := #[x], argTypes := ts }, ty, pos, aft, none⟩ :: rest) l w := WL_val hd (fun ac ha => by
      have h := Lib.run_unsafeSliceData_row (P := P) w ts ty a m c hc
      simp [execOp, resolve, invoke, builtin, ha.eval hx, h]) k
theorem s_unsafeString {x y : Operand} {pt it e g kk : Nat} {cs : List Value} {bs : List UInt8} (hp : P.underlying pt = some (.pointer e)) (hc : P.cellsOf e = 1) (hd : Nat.blt d n = true) (hx : ev l x = some (.pointer (some ⟨g, 0, none⟩))) (hy : ev l y = some (.int .i64 (bs.length : Int)))
    (hs : St F w0 w L) (hk : L[kk]? = some (g, Blk e cs)) (hcs : ∀ (j : Nat) (z : UInt8), bs[j]? = some z → cs[j]? = some (.int .u8 (z.toNat : Int))) (h0 : bs ≠ []) (h63 : bs.length ≤ 9223372036854775807)
    (k : ∀ o w', St F w0 w' (L.set kk (g, o)) → WL P n ops Q rest ((d, .string ⟨bs.toArray⟩) :: l) w') :
    WL P n ops Q (⟨some d, .call { callee := .builtin .unsafeString, args := #[x, y], argTypes := #[pt, it] }, ty, pos, aft, none⟩ :: rest) l w := by
  have hb := hs.at hk
  have hl : bs.length ≤ cs.length := by
    rcases Nat.eq_zero_or_pos bs.length with h | h
    · omega
    · have h1 := hcs (bs.length - 1) (bs[bs.length - 1]'(by omega)) (by rw [List.getElem?_eq_getElem])
      have := (List.getElem?_eq_some_iff.1 h1).1
      omega
  have hr := Lib.run_unsafeString_row (P := P) w pt it ty e hp hc g cs.length (hs.shape hk) bs h0 hl h63 (fun j z hz => by
    rw [Addr.add_lit, Nat.zero_add, cell_of_row w g j cs.toArray e (0, 0) hb]
    simpa using hcs j z hz)
  have hn0 : bs.length ≠ 0 := by simpa using h0
  have hw : (w.freeze ⟨g, 0, none⟩ bs.length).heap[g]? = some (.cells cs.toArray e (0, 0 + bs.length)) := by
    simp [World.freeze, hn0, Array.getElem?_modify, hb]
  refine WL_val (w' := w.freeze ⟨g, 0, none⟩ bs.length) hd (fun a ha => by simp [execOp, resolve, invoke, builtin, ha.eval hx, ha.eval hy, hr]) (k (.cells cs.toArray e (0, 0 + bs.length)) _ (hs.write hk (by simp [World.freeze, hn0]) (by simp [World.freeze, hn0]) (by simp [World.freeze, hn0]) (by simp [World.freeze, hn0]) hw (fun j hj => by simp [World.freeze, hn0, Array.getElem?_modify, Ne.symm hj])))
end
end Go.SL
namespace Go.Proofs.Ytmjjdcfakkaiiaa
open Go.SL
/-- the builder at p: its bytes -/
def BuAt (p : Nat) (bs : List Int) (L : Hp) : Prop := ∃ q v Lb, L = (p, Blk 102 [.pointer q, v]) :: Lb ∧ (q = none ∨ q = some ⟨p, 0, none⟩) ∧ OwnS 5 1 v bs.length (u8s bs) Lb
theorem bu_new (p : Nat) : BuAt p [] [(p, Blk 102 [.pointer none, .slice none 0 0])] := ⟨none, _, [], rfl, .inl rfl, OwnS.nil _ _⟩
theorem noEscape (x : Value) (w : World) : (callFunc 68 [x].toArray).run Try.prog w = .ok (.value x) w := by
  rw [run_callFunc_extern Try.func68 (by kernel_rfl) (by kernel_rfl) (by kernel_rfl) (e := Extern.AbiNoEscape.same) (by kernel_rfl), Lib.run_noEscape]; rfl
theorem builderInfo : Try.prog.info? 102 = some Try.t102 := by kernel_rfl
theorem builderLies : liesAt Try.prog Try.prog.depth 102 (2 / Try.prog.cellsOf 102) 0 102 1 = true := by kernel_rfl
theorem byteCell : Try.prog.cellsOf 5 = 1 := by kernel_rfl
theorem copyCheck_ok (p : Nat) (bs : List Int) (L0 : Hp) (w0 : World) (hB : BuAt p bs L0) (hs : St (ids L0) w0 w0 L0) :
    Ret Try.prog 67 [.pointer (some ⟨p, 0, none⟩)].toArray w0 fun r w' => ∃ L', St (ids L0) w0 w' L' ∧ BuAt p bs L' ∧ r = .tuple #[] := by
  obtain ⟨q, v, Lb, hL, hq, hO⟩ := hB
  replace hs : St (ids L0) w0 w0 ((p, Blk 102 [.pointer q, v]) :: Lb) := by rw [hL] at hs ⊢; exact hs
  refine Ret_startL hs fun w hs => ?_
  refine Ret_of Try.func67 rfl Try.ntmps67 rfl ?_
  refine W_seq ?_
  refine W_region ?_
  refine s_move rfl rfl ?_
  refine s_nilCheck rfl rfl ?_
  refine s_fieldAddr rfl rfl (FA102_0 _ _) ?_
  first
    | refine s_load Try.isAgg100 rfl rfl (hs.cell (k := 0) rfl rfl) ?_
    | refine s_load Try.isAgg100 rfl rfl (hs.cell (k := 1) rfl rfl) ?_
  rcases hq with hq | hq 
  · skip
    subst hq
    refine s_eql_nil_nil Try.underlying100 rfl rfl rfl ?_
    refine WL_nil ?_
    refine n_then ?_
    refine W_cond_kt rfl (rfl) ?_
    refine W_region ?_
    refine s_move rfl rfl ?_
    refine s_move rfl rfl ?_
    refine s_convW rfl rfl (Lib.run_to_unsafe w ⟨p, 0, none⟩ Try.underlying100 Try.underlying110 builderInfo (by decide) (hs.shape (kk := 0) rfl) (by simp)) ?_
    refine s_callX rfl rfl (noEscape _ w) ?_
    refine s_convW rfl rfl (Lib.run_from_unsafe w ⟨p, 0, none⟩ Try.underlying110 Try.underlying100 builderInfo (hs.shape (kk := 0) rfl) builderLies) ?_
    refine s_nilCheck rfl rfl ?_
    refine s_fieldAddr rfl rfl (FA102_0 _ _) ?_
    first
      | refine s_storeB Try.sizeOf100 rfl rfl rfl hs (kk := 0) rfl rfl ?_
      | refine s_storeB Try.sizeOf100 rfl rfl rfl hs (kk := 1) rfl rfl ?_
    clear hs; intro w hs; try simp only [List.set_cons_zero, List.set_cons_succ, splice, List.take_succ_cons, List.take_zero, List.drop_succ_cons, List.drop_zero, List.nil_append, List.cons_append, List.length_cons, List.length_nil, Nat.reduceAdd, List.append_assoc] at hs
    refine WL_nil ?_
    exact end0' rfl ⟨_, hs, ⟨_, v, Lb, rfl, .inr rfl, hO⟩, rfl⟩
  · skip
    subst hq
    refine s_eql_ptr_nil Try.underlying100 rfl rfl rfl ?_
    refine WL_nil ?_
    refine n_then ?_
    refine W_cond_kf rfl (rfl) ?_
    refine W_seq ?_
    refine W_region ?_
    refine s_move rfl rfl ?_
    refine s_nilCheck rfl rfl ?_
    refine s_fieldAddr rfl rfl (FA102_0 _ _) ?_
    first
      | refine s_load Try.isAgg100 rfl rfl (hs.cell (k := 0) rfl rfl) ?_
      | refine s_load Try.isAgg100 rfl rfl (hs.cell (k := 1) rfl rfl) ?_
    refine s_move rfl rfl ?_
    refine s_neq_same Try.underlying100 builderInfo rfl rfl rfl ?_
    refine WL_nil ?_
    refine n_then ?_
    refine W_cond_kf rfl (rfl) ?_
    refine W_skip ?_
    exact end0' rfl ⟨_, hs, ⟨_, v, Lb, rfl, .inr rfl, hO⟩, rfl⟩
theorem buByte_ok (p : Nat) (bs : List Int) (c : Int) (L0 : Hp) (w0 : World) (hB : BuAt p bs L0) (hs : St (ids L0) w0 w0 L0) (hl : bs.length ≤ 1099511627776) :
    Ret Try.prog 64 [.pointer (some ⟨p, 0, none⟩), .int .u8 c].toArray w0 fun r w' => ∃ L', St (ids L0) w0 w' L' ∧ BuAt p (bs ++ [c]) L' := by
  refine Ret_startL hs fun w hs => ?_
  refine Ret_of Try.func64 rfl Try.ntmps64 rfl ?_
  refine W_seq ?_
  refine W_region ?_
  refine s_assign rfl rfl ?_
  refine WL_nil ?_
  refine n_then ?_
  refine W_seq ?_
  refine W_region ?_
  refine s_move rfl rfl ?_
  refine s_callL (M := []) (L1 := L0) (X := []) Try.call67 rfl rfl (by simpa using hs) (fun h => copyCheck_ok p bs _ w hB h) ?_
  clear hs; rintro v w L9 ⟨hB2, rfl⟩ - hs
  simp only [List.nil_append, List.append_nil] at hs
  obtain ⟨q, v, Lb, rfl, hq, hO⟩ := hB2
  obtain ⟨_, vc, va, rfl, rfl⟩ := hO.form
  refine WL_nil ?_
  refine n_then ?_
  refine W_seq ?_
  refine W_region ?_
  refine s_move rfl rfl ?_
  refine s_move rfl rfl ?_
  refine s_nilCheck rfl rfl ?_
  refine s_fieldAddr rfl rfl (FA102_1 _ _) ?_
  first
    | refine s_load Try.isAgg46 rfl rfl (hs.cell (k := 0) rfl rfl) ?_
    | refine s_load Try.isAgg46 rfl rfl (hs.cell (k := 1) rfl rfl) ?_
    | refine s_load Try.isAgg46 rfl rfl (hs.cell (k := 2) rfl rfl) ?_
  refine s_move rfl rfl ?_
  refine s_buildSlice rfl rfl (BS46_1 _) hs ?_; clear hs; intro b13 w hs
  refine s_appendM (M := [_, _]) (X := []) El46 rfl rfl rfl hO (by simpa using hs) (hs.sl (k := 0) (ds := [_]) rfl (Nat.le_refl _) (by intro j u hj; rw [Nat.zero_add]; exact hj)) rfl (by simp [Value.oneCell']) (by omega) ?_
  clear hs; intro v' w Lv' hO' hs
  obtain ⟨_, tc', ta', rfl, rfl⟩ := hO'.form
  simp only [List.cons_append, List.nil_append, List.append_nil] at hs
  refine s_nilCheck rfl rfl ?_
  refine s_fieldAddr rfl rfl (FA102_1 _ _) ?_
  first
    | refine s_storeB Try.sizeOf46 rfl rfl rfl hs (kk := 0) rfl rfl ?_
    | refine s_storeB Try.sizeOf46 rfl rfl rfl hs (kk := 1) rfl rfl ?_
    | refine s_storeB Try.sizeOf46 rfl rfl rfl hs (kk := 2) rfl rfl ?_
  clear hs; intro w hs; try simp only [List.set_cons_zero, List.set_cons_succ, splice, List.take_succ_cons, List.take_zero, List.drop_succ_cons, List.drop_zero, List.nil_append, List.cons_append, List.length_cons, List.length_nil, Nat.reduceAdd, List.append_assoc] at hs
  refine WL_nil ?_
  refine n_then ?_
  refine W_seq ?_
  refine W_region ?_
  refine s_assign rfl rfl ?_
  refine WL_nil ?_
  refine n_then ?_
  refine W_ret ?_
  exact end1 rfl rfl ⟨_, hs.tail, ⟨q, _, Lv', rfl, hq, by simpa using hO'⟩⟩
theorem buString_ok (p : Nat) (bs : List Int) (L0 : Hp) (w0 : World) (hB : BuAt p bs L0) (hs : St (ids L0) w0 w0 L0) (hb : ∀ b ∈ bs, isB b) (h0 : bs ≠ []) (hl : bs.length ≤ 1099511627776) :
    Ret Try.prog 66 [.pointer (some ⟨p, 0, none⟩)].toArray w0 fun r w' => ∃ L', St (ids L0) w0 w' L' ∧ r = .string ⟨(bs.map fun b => UInt8.ofNat b.toNat).toArray⟩ := by
  obtain ⟨q, v, Lb, hL, hq, hO⟩ := hB
  have hpos : 0 < bs.length := List.length_pos_iff.2 h0
  obtain ⟨g, gc, sp, rfl, hgc, rfl⟩ := hO.block hpos
  replace hs : St (ids L0) w0 w0 ((p, Blk 102 [.pointer q, .slice (some ⟨g, 0, none⟩) bs.length gc]) :: [(g, Blk 5 (u8s bs ++ sp))]) := by rw [hL] at hs ⊢; exact hs
  refine Ret_startL hs fun w hs => ?_
  refine Ret_of Try.func66 rfl Try.ntmps66 rfl ?_
  refine W_seq ?_
  refine W_region ?_
  refine s_assign rfl rfl ?_
  refine WL_nil ?_
  refine n_then ?_
  refine W_seq ?_
  refine W_draw [(0, true, []), (1, true, []), (2, true, []), (3, true, []), (5, true, []), (6, true, []), (7, true, []), (8, true, []), (9, true, []), (4, false, [5, 6, 7, 8, 9]), (10, false, []), (11, true, [])] [[], [0], [0, 1], [0, 1, 2], [0, 1, 2, 3], [], [5], [5, 6], [5, 6, 7], [5, 6, 7, 8], [0, 1, 2, 3, 4, 5, 6, 7, 8, 9], [0, 1, 2, 3, 4, 5, 6, 7, 8, 9, 10]] MX (by kernel_rfl) ?_
  intro w1 hw1 hw2 hw3 hw4; replace hs := hs.redrawn hw1 hw2 hw3 hw4; clear hw1 hw2 hw3 hw4
  obtain ⟨w, rfl⟩ : ∃ w : World, w = w1 := ⟨_, rfl⟩
  refine D_q rfl rfl ?_
  refine s_move rfl rfl ?_
  refine D_qn ?_
  refine D_q rfl rfl ?_
  refine s_nilCheck rfl rfl ?_
  refine D_qn ?_
  refine D_q rfl rfl ?_
  refine s_fieldAddr rfl rfl (FA102_1 _ _) ?_
  refine D_qn ?_
  refine D_q rfl rfl ?_
  first
    | refine s_load Try.isAgg46 rfl rfl (hs.cell (k := 0) rfl rfl) ?_
    | refine s_load Try.isAgg46 rfl rfl (hs.cell (k := 1) rfl rfl) ?_
  refine D_qn ?_
  refine D_q rfl rfl ?_
  refine s_move rfl rfl ?_
  refine D_qn ?_
  refine D_q rfl rfl ?_
  refine s_nilCheck rfl rfl ?_
  refine D_qn ?_
  refine D_q rfl rfl ?_
  refine s_fieldAddr rfl rfl (FA102_1 _ _) ?_
  refine D_qn ?_
  refine D_q rfl rfl ?_
  first
    | refine s_load Try.isAgg46 rfl rfl (hs.cell (k := 0) rfl rfl) ?_
    | refine s_load Try.isAgg46 rfl rfl (hs.cell (k := 1) rfl rfl) ?_
  refine D_qn ?_
  refine D_q rfl rfl ?_
  refine s_len rfl rfl (LN46 _ _ _ _) ?_
  refine D_qn ?_
  refine D_e rfl ?_
  (refine s_sliceData rfl rfl ?hx ?_; case hx => omega)
  refine D_en ?re ?_
  case re =>
    refine Reks_cons rfl rfl rfl rfl ?_ ?_
    · skip
      refine s_move rfl rfl ?_
      exact Rek_end rfl
    refine Reks_cons rfl rfl rfl rfl ?_ ?_
    · skip
      refine s_nilCheck rfl rfl ?_
      exact Rek_end rfl
    refine Reks_cons rfl rfl rfl rfl ?_ ?_
    · skip
      refine s_fieldAddr rfl rfl (FA102_1 _ _) ?_
      exact Rek_end rfl
    refine Reks_cons rfl rfl rfl rfl ?_ ?_
    · skip
      first
        | refine s_load Try.isAgg46 rfl rfl (hs.cell (k := 0) rfl rfl) ?_
        | refine s_load Try.isAgg46 rfl rfl (hs.cell (k := 1) rfl rfl) ?_
      exact Rek_end rfl
    refine Reks_cons rfl rfl rfl rfl ?_ ?_
    · skip
      refine s_len rfl rfl (LN46 _ _ _ _) ?_
      exact Rek_end rfl
    exact Reks_nil
  refine D_e rfl ?_
  refine s_unsafeString (bs := bs.map fun b => UInt8.ofNat b.toNat) Try.underlying109 byteCell rfl rfl (by rw [List.length_map]; rfl) hs (kk := 1) rfl ?hcs (by simpa using h0) (by rw [List.length_map]; omega) ?_
  case hcs =>
    intro j z hz
    rw [List.getElem?_map, Option.map_eq_some_iff] at hz
    obtain ⟨b, hb1, rfl⟩ := hz
    have hlt := (List.getElem?_eq_some_iff.1 hb1).1
    have hbB := hb b (List.mem_of_getElem? hb1)
    unfold isB at hbB
    rw [List.getElem?_append_left (by simpa using hlt), List.getElem?_map, hb1]
    simp only [Option.map_some, UInt8.toNat_ofNat']
    congr 2; omega
  clear hs; intro o w hs
  refine D_en ?re ?_
  case re =>
    exact Reks_nil
  refine D_q rfl rfl ?_
  refine s_assign rfl rfl ?_
  refine D_qn ?_
  refine D_nil ?_
  refine n_then ?_
  refine W_ret ?_
  exact end1 rfl rfl ⟨_, hs, rfl⟩
end Go.Proofs.Ytmjjdcfakkaiiaa
