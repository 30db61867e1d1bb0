/- A replica: Receive. -/
import Derived.Test.YtkobigdfijeajaaRpN
set_option linter.unusedVariables false
set_option linter.unusedSimpArgs false
namespace Go.SL
section
variable {P : Program} {n : Nat} {ops : Array Oper} {Q : Post} {l : Fr} {w : World} {rest : List Oper} {d ty : Nat} {pos : String} {aft : Array Edge}
theorem s_indexAddrA {x y : Operand} {t e len b o : Nat} {kd : IntKind} {i : Int} (hu : P.underlying t = some (.array len e)) (hsz : ∀ w, (sizeOf e).run P w = .ok 1 w) (hd : Nat.blt d n = true) (hx : ev l x = some (.pointer (some ⟨b, o, none⟩))) (hy : ev l y = some (.int kd i)) (h : 0 ≤ i ∧ i < len)
    (k : WL P n ops Q rest ((d, .pointer (some ⟨b, o + i.toNat, none⟩)) :: l) w) : WL P n ops Q (⟨some d, .indexAddr t x y, ty, pos, aft, none⟩ :: rest) l w := WL_val hd (fun a ha => by
      simp [execOp, ha.eval hx, ha.eval hy, Instr.indexAt, asIntOf, run_underlying hu, Instr.sureAddr, h.1, h.2, hsz, Addr.add_lit]) k
end
end Go.SL
namespace Go.Proofs.Ytkobigdfijeajaa
open Go.SL
theorem fUnd : Try.prog.underlying 103 = some (.array 4 92) := by kernel_rfl
theorem fSz (w : World) : (sizeOf 92).run Try.prog w = .ok 1 w := by kernel_rfl
theorem fAgg (w : World) : (isAgg 92).run Try.prog w = .ok false w := by kernel_rfl
theorem fArr (w : World) : (sizeOf 103).run Try.prog w = .ok 4 w := by kernel_rfl
def hdv (p k : Nat) : Value := .func (.func k) #[.pointer (some ⟨p, 0, none⟩)] #[]
theorem fBuild (a b c d p : Nat) (w : World) : (Instr.build 103 #[(0, hdv p a), (1, hdv p b), (2, hdv p c), (3, hdv p d)]).run Try.prog w = .ok (.agg #[hdv p a, hdv p b, hdv p c, hdv p d]) w := by kernel_rfl
def Rp.recv (R : Rp) (m : Mg) (frm : Nat) : Rp × List Ms := if m.kind = 0 then R.ask m frm else if m.kind = 1 then R.vote m else if m.kind = 2 then R.write m frm else R.ack m frm
def hdl : Nat → FuncId
  | 0 => 48
  | 1 => 49
  | 2 => 50
  | _ => 51
theorem hdl_call : ∀ k args w, (callFunc (hdl k) args).run Try.prog w = .ok (.enter (hdl k) args) w
  | 0, a, w => Try.call48 a w
  | 1, a, w => Try.call49 a w
  | 2, a, w => Try.call50 a w
  | _ + 3, a, w => Try.call51 a w
theorem hdl_ok (p : Nat) (R : Rp) (L0 : Hp) (m : Mg) (frm : Nat) (lv' : Value) (es' : List Em) (LB' LP' L1 : Hp) (w0 : World) (hR : RepAt p R L0) (hlog' : LogAt m.log lv' es' LB' LP') (hm : m.ok) (hfm : frm < R.mem) (hfi : frm ≠ R.id) (hL1 : L1 = L0 ++ (LB' ++ LP')) (hs : St (ids L1) w0 w0 L1) :
    Ret Try.prog (hdl m.kind) [.pointer (some ⟨p, 0, none⟩), .agg (mesCells m frm lv').toArray].toArray w0 fun r w' => ∃ L', St (ids L1) w0 w' L' ∧ ∃ Lr LQ, L' = LQ ++ Lr ∧ RepAt p (R.recv m frm).1 LQ ∧ MsAt r (R.recv m frm).2 Lr := by
  have hk := hm.1
  rcases hkd : m.kind with _ | _ | _ | _ | k
  · rw [Rp.recv, if_pos hkd]; exact ask_ok p R L0 m frm lv' es' LB' LP' L1 w0 hR hlog' hm hL1 hs
  · rw [Rp.recv, if_neg (by omega), if_pos hkd]; exact vote_ok p R L0 m frm lv' es' LB' LP' L1 w0 hR hlog' hm hfm hL1 hs
  · rw [Rp.recv, if_neg (by omega), if_neg (by omega), if_pos hkd]; exact write_ok p R L0 m frm lv' es' LB' LP' L1 w0 hR hlog' hm hL1 hs
  · rw [Rp.recv, if_neg (by omega), if_neg (by omega), if_neg (by omega)]; exact ack_ok p R L0 m frm lv' es' LB' LP' L1 w0 hR hlog' hm hfm hfi hL1 hs
  · omega
set_option maxHeartbeats 4000000 in
theorem receive_ok (p : Nat) (R : Rp) (L0 : Hp) (m : Mg) (frm : Nat) (v : Value) (w0 : World) (hR : RepAt p R L0) (hv : Sl w0 v (mesB m).length (u8s (mesB m))) (hap : ∀ a n c, v = .slice (some a) n c → u8s (mesB m) ≠ [] → a.block ∉ ids L0) (hm : m.ok) (hfm : frm < R.mem) (hfi : frm ≠ R.id) (hs : St (ids L0) w0 w0 L0) :
    Ret Try.prog 24 [.pointer (some ⟨p, 0, none⟩), .agg #[.int .i64 (frm : Int), .int .i64 (R.id : Int), v]].toArray w0 fun r w' => ∃ L', St (ids L0) w0 w' L' ∧ ∃ Lr LQ, L' = LQ ++ Lr ∧ RepAt p (R.recv m frm).1 LQ ∧ MsAt r (R.recv m frm).2 Lr := by
  have hR0 := hR
  obtain ⟨lv, vv, av, es, LB, LP, LV, LA, hL, hlog, hvo, hac, hav, hok⟩ := hR
  obtain ⟨la, lc, rfl, hel⟩ := hlog.form
  obtain ⟨vx, rfl⟩ := hvo.val
  obtain ⟨ax, rfl⟩ := hav
  obtain ⟨va, vc, rfl, hvc⟩ := hv.len_le
  have hm0 := hm
  obtain ⟨m1, m2, m3, m4, m5, m6, m7⟩ := hm
  revert hap
  revert hs
  generalize ids L0 = F
  rw [hL]
  intro hs hap
  unfold rpCells at hs
  refine Ret_startL hs fun w hs => ?_
  refine Ret_of Try.func24 rfl Try.ntmps24 rfl ?_
  refine W_seq ?_
  refine W_region ?_
  first | refine s_box rfl rfl hs ?_
  clear hs; intro b3 w hs
  refine s_assign rfl rfl ?_
  refine WL_nil ?_
  refine n_then ?_
  refine W_seq ?_
  refine W_seq ?_
  refine W_draw [(0, true, []), (1, true, []), (2, true, []), (3, true, []), (4, true, []), (5, true, []), (6, true, []), (7, true, []), (8, true, []), (9, true, []), (10, true, []), (11, true, []), (12, true, []), (13, true, []), (14, true, []), (15, true, []), (16, true, []), (17, true, []), (18, true, []), (19, true, []), (20, true, []), (21, true, []), (22, true, []), (23, true, []), (24, true, []), (25, true, []), (26, true, []), (27, true, []), (28, true, []), (29, true, [])] [[], [0], [], [2], [2, 3], [2, 3, 4], [0, 1, 2, 3, 4, 5], [0, 1, 2, 3, 4, 5, 6], [0, 1, 2, 3, 4, 5, 6, 7], [0, 1, 2, 3, 4, 5, 6, 7, 8], [0, 1, 2, 3, 4, 5, 6, 7], [0, 1, 2, 3, 4, 5, 6, 7, 10], [0, 1, 2, 3, 4, 5, 6, 7, 10, 11], [0, 1, 2, 3, 4, 5, 6, 7, 10, 11, 12], [0, 1, 2, 3, 4, 5, 6, 7, 8, 9, 10, 11, 12, 13], [0, 1, 2, 3, 4, 5, 6, 7, 8, 9, 10, 11, 12, 13, 14], [0, 1, 2, 3, 4, 5, 6, 7, 8, 9, 10, 11, 12, 13, 14, 15], [0, 1, 2, 3, 4, 5, 6, 7, 8, 9, 10, 11, 12, 13, 14, 15, 16], [0, 1, 2, 3, 4, 5, 6, 7, 8, 9, 10, 11, 12, 13, 14, 15, 16, 17], [0, 1, 2, 3, 4, 5, 6, 7, 8, 9, 10, 11, 12, 13, 14, 15, 16, 17, 18], [0, 1, 2, 3, 4, 5, 6, 7, 8, 9, 10, 11, 12, 13, 14, 15, 16, 17, 18, 19], [0, 1, 2, 3, 4, 5, 6, 7, 8, 9, 10, 11, 12, 13, 14, 15, 16, 17, 18, 19, 20], [0, 1, 2, 3, 4, 5, 6, 7, 8, 9, 10, 11, 12, 13, 14, 15, 16, 17, 18, 19, 20, 21], [0, 1, 2, 3, 4, 5, 6, 7, 8, 9, 10, 11, 12, 13, 14, 15, 16, 17, 18, 19, 20, 21, 22], [0, 1, 2, 3, 4, 5, 6, 7, 8, 9, 10, 11, 12, 13, 14, 15, 16, 17, 18, 19, 20, 21], [0, 1, 2, 3, 4, 5, 6, 7, 8, 9, 10, 11, 12, 13, 14, 15, 16, 17, 18, 19, 20, 21, 24], [0, 1, 2, 3, 4, 5, 6, 7, 8, 9, 10, 11, 12, 13, 14, 15, 16, 17, 18, 19, 20, 21, 24, 25], [0, 1, 2, 3, 4, 5, 6, 7, 8, 9, 10, 11, 12, 13, 14, 15, 16, 17, 18, 19, 20, 21, 24, 25, 26], [0, 1, 2, 3, 4, 5, 6, 7, 8, 9, 10, 11, 12, 13, 14, 15, 16, 17, 18, 19, 20, 21, 22, 23, 24, 25, 26, 27], [0, 1, 2, 3, 4, 5, 6, 7, 8, 9, 10, 11, 12, 13, 14, 15, 16, 17, 18, 19, 20, 21, 22, 23, 24, 25, 26, 27, 28]] MX (by kernel_rfl) ?_
  intro w1 hw1 hw2 hw3 hw4; replace hs := hs.redrawn hw1 hw2 hw3 hw4; clear hw1 hw2 hw3 hw4
  obtain ⟨w, rfl⟩ : ∃ w : World, w = w1 := ⟨_, rfl⟩
  refine D_q rfl rfl ?_
  refine s_fieldAddr rfl rfl (FA56_1 _ _) ?_
  refine D_qn ?_
  refine D_q rfl rfl ?_
  first
    | refine s_load Try.isAgg3 rfl rfl (hs.cell (k := 0) rfl rfl) ?_
  refine D_qn ?_
  refine D_q rfl rfl ?_
  refine s_move rfl rfl ?_
  refine D_qn ?_
  refine D_q rfl rfl ?_
  refine s_nilCheck rfl rfl ?_
  refine D_qn ?_
  refine D_q rfl rfl ?_
  refine s_fieldAddr rfl rfl (FA89_0 _ _) ?_
  refine D_qn ?_
  refine D_q rfl rfl ?_
  first
    | refine s_load Try.isAgg3 rfl rfl (hs.cell (k := 1) rfl rfl) ?_
  refine D_qn ?_
  refine D_q rfl rfl ?_
  refine s_neq rfl rfl rfl ?_
  refine D_qn ?_
  refine D_q rfl rfl ?_
  refine s_move rfl rfl ?_
  refine WL_know (s := 15) (c := false) rfl ((by simp)) ?_
  refine D_qn ?_
  refine D_q rfl rfl ?_
  refine WL_take rfl ?_
  refine s_fieldAddr rfl rfl (FA56_0 _ _) ?_
  refine D_qn ?_
  refine D_q rfl rfl ?_
  refine WL_take rfl ?_
  first
    | refine s_load Try.isAgg3 rfl rfl (hs.cell (k := 0) rfl rfl) ?_
  refine D_qn ?_
  refine D_q rfl rfl ?_
  refine WL_take rfl ?_
  refine s_move rfl rfl ?_
  refine D_qn ?_
  refine D_q rfl rfl ?_
  refine WL_take rfl ?_
  refine s_nilCheck rfl rfl ?_
  refine D_qn ?_
  refine D_q rfl rfl ?_
  refine WL_take rfl ?_
  refine s_fieldAddr rfl rfl (FA89_0 _ _) ?_
  refine D_qn ?_
  refine D_q rfl rfl ?_
  refine WL_take rfl ?_
  first
    | refine s_load Try.isAgg3 rfl rfl (hs.cell (k := 1) rfl rfl) ?_
  refine D_qn ?_
  refine D_q rfl rfl ?_
  refine WL_take rfl ?_
  refine s_eql rfl rfl rfl ?_
  refine D_qn ?_
  refine D_q rfl rfl ?_
  refine s_pick_f rfl rfl rfl ?_
  refine D_qn ?_
  refine D_q rfl rfl ?_
  refine s_move rfl rfl ?_
  refine WL_know (s := 24) (c := false) rfl ((by simp; omega)) ?_
  refine D_qn ?_
  refine D_q rfl rfl ?_
  refine WL_take rfl ?_
  refine s_fieldAddr rfl rfl (FA56_0 _ _) ?_
  refine D_qn ?_
  refine D_q rfl rfl ?_
  refine WL_take rfl ?_
  first
    | refine s_load Try.isAgg3 rfl rfl (hs.cell (k := 0) rfl rfl) ?_
  refine D_qn ?_
  refine D_q rfl rfl ?_
  refine WL_take rfl ?_
  refine s_lss rfl rfl rfl ?_
  refine D_qn ?_
  refine D_q rfl rfl ?_
  refine s_pick_f rfl rfl rfl ?_
  refine D_qn ?_
  refine D_q rfl rfl ?_
  refine s_move rfl rfl ?_
  refine WL_know (s := 29) (c := false) rfl ((by simp)) ?_
  refine D_qn ?_
  refine D_q rfl rfl ?_
  refine WL_take rfl ?_
  refine s_fieldAddr rfl rfl (FA56_0 _ _) ?_
  refine D_qn ?_
  refine D_q rfl rfl ?_
  refine WL_take rfl ?_
  first
    | refine s_load Try.isAgg3 rfl rfl (hs.cell (k := 0) rfl rfl) ?_
  refine D_qn ?_
  refine D_q rfl rfl ?_
  refine WL_take rfl ?_
  refine s_move rfl rfl ?_
  refine D_qn ?_
  refine D_q rfl rfl ?_
  refine WL_take rfl ?_
  refine s_nilCheck rfl rfl ?_
  refine D_qn ?_
  refine D_q rfl rfl ?_
  refine WL_take rfl ?_
  refine s_fieldAddr rfl rfl (FA89_1 _ _) ?_
  refine D_qn ?_
  refine D_q rfl rfl ?_
  refine WL_take rfl ?_
  first
    | refine s_load Try.isAgg3 rfl rfl (hs.cell (k := 1) rfl rfl) ?_
  refine D_qn ?_
  refine D_q rfl rfl ?_
  refine WL_take rfl ?_
  refine s_geq rfl rfl rfl ?_
  refine D_qn ?_
  refine D_q rfl rfl ?_
  refine s_pick_f rfl rfl rfl ?_
  refine D_qn ?_
  refine D_nil ?_
  refine n_then ?_
  refine W_cond_kf rfl ((by simp; omega)) ?_
  refine W_skip ?_
  refine n_then ?_
  refine W_seq ?_
  refine W_region ?_
  refine s_fieldAddr rfl rfl (FA56_2 _ _) ?_
  first
    | refine s_load Try.isAgg22 rfl rfl (hs.cell (k := 0) rfl rfl) ?_
  refine s_call Try.call47 rfl rfl (mDecode_ok m _ w (hv.fwd hs.fwd hap) hm0) ?_
  rintro r w ⟨lv', es', LB', LP', rfl, hlog', hst⟩
  replace hs := (hs.back0 hst).swap (A := LB' ++ LP')
  clear hst
  obtain ⟨la', lc', rfl, hel'⟩ := hlog'.form
  simp only [mesCells, List.cons_append, List.append_assoc] at hs ⊢
  refine s_move rfl rfl ?_
  refine s_extract rfl rfl rfl ?_
  refine s_extract rfl rfl rfl ?_
  refine s_alloc rfl AL94 hs ?_; clear hs; intro b5 w hs
  first
    | refine s_storeW Try.sizeOf94 rfl rfl rfl rfl hs (kk := 0) rfl rfl ?_
  clear hs; intro w hs; try simp only [List.set_cons_zero, List.set_cons_succ, splice, List.take_succ_cons, List.take_zero, List.drop_succ_cons, List.drop_zero, List.nil_append, List.cons_append, List.length_cons, List.length_nil, Nat.reduceAdd, List.append_assoc] at hs
  refine s_assign rfl rfl ?_
  refine WL_nil ?_
  refine n_then ?_
  refine W_seq ?_
  refine W_seq ?_
  refine W_region ?_
  refine s_move rfl rfl ?_
  refine s_not rfl rfl ?_
  refine WL_nil ?_
  refine n_then ?_
  refine W_cond_kf rfl (rfl) ?_
  refine W_skip ?_
  refine n_then ?_
  refine W_seq ?_
  refine W_region ?_
  refine s_fieldAddr rfl rfl (FA56_0 _ _) ?_
  first
    | refine s_load Try.isAgg3 rfl rfl (hs.cell (k := 1) rfl rfl) ?_
  refine s_fieldAddr rfl rfl (FA94_1 _ _) ?_
  first
    | refine s_storeB Try.sizeOf3 rfl rfl rfl hs (kk := 0) rfl rfl ?_
  clear hs; intro w hs; try simp only [List.set_cons_zero, List.set_cons_succ, splice, List.take_succ_cons, List.take_zero, List.drop_succ_cons, List.drop_zero, List.nil_append, List.cons_append, List.length_cons, List.length_nil, Nat.reduceAdd, List.append_assoc] at hs
  refine WL_nil ?_
  refine n_then ?_
  refine W_seq ?_
  refine W_region ?_
  refine s_move rfl rfl ?_
  refine s_makeFunc rfl rfl rfl ?_
  refine s_move rfl rfl ?_
  refine s_makeFunc rfl rfl rfl ?_
  refine s_move rfl rfl ?_
  refine s_makeFunc rfl rfl rfl ?_
  refine s_move rfl rfl ?_
  refine s_makeFunc rfl rfl rfl ?_
  refine s_build rfl rfl (fBuild 48 49 50 51 p) ?_
  refine s_alloc rfl AL103 hs ?_; clear hs; intro b7 w hs
  refine s_storeW fArr rfl rfl rfl rfl hs (kk := 0) rfl rfl ?_
  clear hs; intro w hs; simp only [List.set_cons_zero] at hs
  refine WL_nil ?_
  refine n_then ?_
  refine W_seq ?_
  refine W_draw [(0, true, []), (1, true, []), (2, true, []), (3, true, []), (4, true, []), (5, false, []), (6, true, [])] [[], [0], [0, 1], [0, 1, 2], [], [0, 1, 2, 3, 4], [0, 1, 2, 3, 4, 5]] MX (by kernel_rfl) ?_
  intro w1 hw1 hw2 hw3 hw4; replace hs := hs.redrawn hw1 hw2 hw3 hw4; clear hw1 hw2 hw3 hw4
  obtain ⟨w, rfl⟩ : ∃ w : World, w = w1 := ⟨_, rfl⟩
  refine D_q rfl rfl ?_
  refine s_fieldAddr rfl rfl (FA94_0 _ _) ?_
  refine D_qn ?_
  refine D_q rfl rfl ?_
  first
    | refine s_load Try.isAgg3 rfl rfl (hs.cell (k := 1) rfl rfl) ?_
  refine D_qn ?_
  refine D_q rfl rfl ?_
  (refine s_indexAddrA fUnd fSz rfl rfl rfl ?hx ?_; case hx => (constructor <;> omega))
  refine D_qn ?_
  refine D_q rfl rfl ?_
  have hcl : ∀ k, k < 4 → ([hdv p 48, hdv p 49, hdv p 50, hdv p 51] : List Value)[0 + ((k : Nat) : Int).toNat]? = some (hdv p (hdl k)) := fun k hk => by
    rcases k with _ | _ | _ | _ | k
    · rfl
    · rfl
    · rfl
    · rfl
    · omega
  refine s_load fAgg rfl rfl (hs.cell (k := 0) rfl (hcl _ m1)) ?_
  refine D_qn ?_
  refine D_q rfl rfl ?_
  first
    | refine s_loadW Try.isAgg94 Try.sizeOf94 rfl rfl hs (kk := 1) rfl rfl ?_
  refine D_qn ?_
  refine D_e rfl ?_
  replace hs : St F w0 w ((L0 ++ (LB' ++ LP')) ++ []) := by rw [hL]; simpa [rpCells] using hs.tail.tail.tail
  refine s_callV (hdl_call m.kind) rfl rfl rfl (hdl_ok p R L0 m frm (.slice la' m.log.length lc') es' LB' LP' _ w hR0 hlog' hm0 hfm hfi rfl hs.lend) ?_
  rintro r w ⟨L9, hst, Lr, LQ, rfl, hRQ, hMs⟩
  replace hs := hs.back hst
  clear hst
  rw [List.append_nil] at hs
  refine D_en ?re ?_
  case re =>
    exact Reks_nil
  refine D_q rfl rfl ?_
  refine s_assign rfl rfl ?_
  refine D_qn ?_
  refine D_nil ?_
  refine n_then ?_
  refine W_ret ?_
  exact end1 rfl rfl ⟨LQ ++ Lr, hs, Lr, LQ, rfl, hRQ, hMs⟩
end Go.Proofs.Ytkobigdfijeajaa
