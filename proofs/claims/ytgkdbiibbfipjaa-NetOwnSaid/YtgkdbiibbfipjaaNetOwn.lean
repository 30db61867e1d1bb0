/- NetOwn: later changes of the bytes that were sent or of those that were taken do not affect messages in transit: the law returns true for every input. -/
import Derived.Test.YtgkdbiibbfipjaaNetE
set_option linter.unusedVariables false
set_option linter.unusedSimpArgs false
namespace Go.Proofs.Ytgkdbiibbfipjaa
open Go.SL
theorem u8s_append (a b : List Int) : u8s (a ++ b) = u8s a ++ u8s b := by simp [u8s]
theorem netOwn_ok (v : Value) (zs : List Int) (w0 : World) (hv : Sl w0 v zs.length (u8s zs)) :
    Ret Try.prog 8 [v].toArray w0 fun r w' => Fwd [] w0 w' ∧ r = .bool true := by
  obtain ⟨ow, how⟩ : ∃ ow, ow = zs.take 50 ++ [1] := ⟨_, rfl⟩
  have hol : ow.length = min zs.length 50 + 1 := by rw [how]; simp [Nat.min_comm]
  have hol2 : min zs.length 50 ≤ 50 := Nat.min_le_right _ _
  refine Ret_start fun w hs => ?_
  refine Ret_of Try.func8 rfl Try.ntmps8 rfl ?_
  refine W_seq ?_
  refine W_region ?_
  refine s_assign rfl rfl ?_
  refine WL_nil ?_
  refine n_then ?_
  refine W_seq ?_
  refine W_region ?_
  refine s_call Try.call25 rfl rfl (new_ok 2 w (by omega)) ?_
  rintro r w (⟨_, _, p, LN, rfl, hN, hst⟩ | ⟨h, _⟩)
  case inr => exact absurd ⟨by omega, by omega⟩ h
  replace hs : St [] w0 w (LN ++ []) := St.back0 hs hst
  replace hN : NetAt p [0, 0] [] LN := hN
  clear hst
  refine s_move rfl rfl ?_
  refine s_extract rfl rfl rfl ?_
  refine s_extract rfl rfl rfl ?_
  refine s_assign rfl rfl ?_
  refine s_assign rfl rfl ?_
  refine WL_nil ?_
  refine n_then ?_
  refine W_seq ?_
  refine W_seq ?_
  refine W_region ?_
  refine s_move rfl rfl ?_
  refine s_eql_ptr_nil Try.underlying23 rfl rfl rfl ?_
  refine s_move rfl rfl ?_
  refine WL_know (s := 18) (c := false) rfl (rfl) ?_
  refine WL_take rfl ?_
  refine s_move rfl rfl ?_
  refine WL_take rfl ?_
  refine s_neq rfl rfl rfl ?_
  refine s_pick_f rfl rfl rfl ?_
  refine WL_nil ?_
  refine n_then ?_
  refine W_cond_kf rfl (rfl) ?_
  refine W_skip ?_
  refine n_then ?_
  refine W_seq ?_
  refine W_region ?_
  refine s_move rfl rfl ?_
  refine s_call Try.call28 rfl rfl (few_ok v zs 50 w (hv.fwd0 hs.fwd) (by omega)) ?_
  rintro r w ⟨Lr, hO, hst⟩
  replace hs := St.back0 hs hst
  clear hst
  refine s_buildSlice rfl rfl (BS30_1 _) hs ?_; clear hs; intro b24 w hs
  refine s_appendM (M := [_]) (X := LN ++ []) El30 rfl rfl rfl hO hs (hs.sl (k := 0) (ds := u8s [1]) rfl (Nat.le_refl _) (by intro j u hj; rw [Nat.zero_add]; exact hj)) rfl (u8s_one _) (by omega) ?_
  clear hs hO; intro v' w Lo hO hs
  replace hs := hs.tail
  rw [← u8s_append, ← how, ← hol] at hO
  obtain ⟨g, cap, sp, rfl, hcap, rfl⟩ := hO.block (by omega)
  simp only [List.cons_append, List.nil_append] at hs
  clear hO
  refine s_assign rfl rfl ?_
  refine WL_nil ?_
  refine n_then ?_
  refine W_seq ?_
  refine W_region ?_
  refine s_buildSlice rfl rfl (BS30_0 ) hs ?_; clear hs; intro b26 w hs
  refine s_move rfl rfl ?_
  refine s_appendM (M := []) (Lv := [_]) (X := (g, Blk 5 (u8s ow ++ sp)) :: (LN ++ [])) (cs := []) El30 rfl rfl rfl ⟨rfl, Or.inr ⟨_, 0, [], rfl, by omega, by simp [maxLen], rfl, rfl⟩⟩ hs (hs.sl (k := 1) (ds := u8s ow) rfl hcap (by intro j u hj; rw [Nat.zero_add, List.getElem?_append_left (List.getElem?_eq_some_iff.1 hj).1]; exact hj)) (by simp) (u8s_one _) (by omega) ?_
  clear hs; intro v' w Ls hO hs
  simp only [List.nil_append, Nat.zero_add] at hO hs
  obtain ⟨g2, cap2, sp2, rfl, hcap2, rfl⟩ := hO.block (by omega)
  simp only [List.cons_append, List.nil_append] at hs
  clear hO
  refine s_assign rfl rfl ?_
  refine WL_nil ?_
  refine n_then ?_
  refine W_seq ?_
  refine W_region ?_
  refine s_move rfl rfl ?_
  refine s_move rfl rfl ?_
  refine s_build rfl rfl (BD32_1_2 _ _ _ _) ?_
  have hE : sendE [0, 0] [] 0 1 ow = 0 := by rw [sendE, if_neg (by simp; omega), if_neg (by simp)]
  refine s_callL (M := [_, _]) (L1 := LN) (X := []) Try.call12 rfl rfl hs (fun h => send_ok p [0, 0] [] 0 1 _ ow LN w hN h (hs.sl (k := 0) (ds := u8s ow) rfl hcap2 (by intro j u hj; rw [Nat.zero_add, List.getElem?_append_left (List.getElem?_eq_some_iff.1 hj).1]; exact hj)) (by simp) (fun a m c he _ => by cases he; exact hs.notin (M := [_, _]) (by simp [ids]))) ?_
  clear hs; rintro v w LN ⟨rfl, ms, hN, -, hms⟩ - hs
  obtain ⟨b1, rfl⟩ := hms hE
  simp only [List.cons_append, List.nil_append] at hs hN
  obtain ⟨x0, hx0⟩ : ∃ x0 : Int, (u8s ow ++ sp2)[0]? = some (.int .u8 x0) := by
    cases ow with
    | nil => simp at hol
    | cons a r => exact ⟨a, rfl⟩
  refine WL_nil ?_
  refine n_then ?_
  refine W_seq ?_
  refine W_region ?_
  refine s_move rfl rfl ?_
  refine s_move rfl rfl ?_
  (refine s_indexAddr1 El30 rfl rfl rfl ?hx ?_; case hx => (constructor <;> first | omega | (simp; omega)))
  refine s_load Try.isAgg5 rfl rfl (hs.cell (k := 0) (fz := (0, 0)) rfl hx0) ?_
  refine s_add rfl rfl rfl ?_
  (refine s_indexAddr1 El30 rfl rfl rfl ?hx ?_; case hx => (constructor <;> first | omega | (simp; omega)))
  refine s_store Try.sizeOf5 rfl rfl rfl hs (kk := 0) rfl (by simp; omega) ?_
  clear hs; intro w hs
  simp only [List.set_cons_zero] at hs
  replace hs := hs.tail
  refine WL_nil ?_
  refine n_then ?_
  refine W_seq ?_
  refine W_region ?_
  refine s_move rfl rfl ?_
  refine s_callL (M := [_]) (L1 := LN) (X := []) Try.call17 rfl rfl hs (fun h => copy_yes p [0, 0] _ 0 LN w hN h (by simp) (by simp) (by simp; omega)) ?_
  clear hs; intro v w LN h _ hs
  obtain ⟨h, _⟩ | ⟨_, rfl, m, b3, hm, hN⟩ := h
  case inl => exact absurd h (by simp)
  obtain rfl : m = ⟨0, 1, b1, ow⟩ := by simpa using hm.symm
  clear hm
  simp only [List.cons_append, List.nil_append] at hs hN
  refine WL_nil ?_
  refine n_then ?_
  refine W_seq ?_
  refine W_region ?_
  refine s_move rfl rfl ?_
  refine s_callL (M := [_]) (L1 := LN) (X := []) Try.call14 rfl rfl hs (fun h => take_yes p [0, 0] _ 0 LN w hN h (by simp) (by simp) _ (by simp; rfl) (by simp)) ?_
  clear hs; intro v w LN h _ hs
  obtain ⟨h, _⟩ | ⟨_, rfl, L1, rfl, hN⟩ := h
  case inl => exact absurd rfl h
  simp only [List.cons_append, List.nil_append, Msg.blk] at hs
  simp only [Msg.cells]
  simp at hN
  refine s_move rfl rfl ?_
  refine s_extract rfl rfl rfl ?_
  refine s_extract rfl rfl rfl ?_
  refine s_alloc rfl AL32 hs ?_; clear hs; intro b7 w hs
  first
    | refine s_storeW Try.sizeOf32 rfl rfl rfl rfl hs (kk := 0) rfl rfl ?_
    | refine s_storeW Try.sizeOf32 rfl rfl rfl rfl hs (kk := 1) rfl rfl ?_
    | refine s_storeW Try.sizeOf32 rfl rfl rfl rfl hs (kk := 2) rfl rfl ?_
    | refine s_storeW Try.sizeOf32 rfl rfl rfl rfl hs (kk := 3) rfl rfl ?_
    | refine s_storeW Try.sizeOf32 rfl rfl rfl rfl hs (kk := 4) rfl rfl ?_
    | refine s_storeW Try.sizeOf32 rfl rfl rfl rfl hs (kk := 5) rfl rfl ?_
    | refine s_storeW Try.sizeOf32 rfl rfl rfl rfl hs (kk := 6) rfl rfl ?_
    | refine s_storeW Try.sizeOf32 rfl rfl rfl rfl hs (kk := 7) rfl rfl ?_
    | refine s_storeW Try.sizeOf32 rfl rfl rfl rfl hs (kk := 8) rfl rfl ?_
    | refine s_storeW Try.sizeOf32 rfl rfl rfl rfl hs (kk := 9) rfl rfl ?_
    | refine s_storeAB Try.sizeOf32 rfl rfl rfl rfl hs (kk := 0) rfl rfl ?_
    | refine s_storeAB Try.sizeOf32 rfl rfl rfl rfl hs (kk := 1) rfl rfl ?_
    | refine s_storeAB Try.sizeOf32 rfl rfl rfl rfl hs (kk := 2) rfl rfl ?_
    | refine s_storeAB Try.sizeOf32 rfl rfl rfl rfl hs (kk := 3) rfl rfl ?_
    | refine s_storeAB Try.sizeOf32 rfl rfl rfl rfl hs (kk := 4) rfl rfl ?_
    | refine s_storeAB Try.sizeOf32 rfl rfl rfl rfl hs (kk := 5) rfl rfl ?_
    | refine s_storeAB Try.sizeOf32 rfl rfl rfl rfl hs (kk := 6) rfl rfl ?_
    | refine s_storeAB Try.sizeOf32 rfl rfl rfl rfl hs (kk := 7) rfl rfl ?_
    | refine s_storeAB Try.sizeOf32 rfl rfl rfl rfl hs (kk := 8) rfl rfl ?_
    | refine s_storeAB Try.sizeOf32 rfl rfl rfl rfl hs (kk := 9) rfl rfl ?_
  clear hs; intro w hs; try simp only [List.set_cons_zero, List.set_cons_succ, splice, List.take_succ_cons, List.take_zero, List.drop_succ_cons, List.drop_zero, List.nil_append, List.cons_append, List.length_cons, List.length_nil, Nat.reduceAdd, List.append_assoc] at hs
  refine s_assign rfl rfl ?_
  refine WL_nil ?_
  refine n_then ?_
  refine W_seq ?_
  refine W_seq ?_
  refine W_region ?_
  refine s_move rfl rfl ?_
  refine s_neq rfl rfl rfl ?_
  refine s_move rfl rfl ?_
  refine WL_know (s := 48) (c := false) rfl (rfl) ?_
  refine WL_take rfl ?_
  refine s_fieldAddr rfl rfl (FA32_2 _ _) ?_
  refine WL_take rfl ?_
  first
    | refine s_load Try.isAgg30 rfl rfl (hs.cell (k := 0) rfl rfl) ?_
    | refine s_load Try.isAgg30 rfl rfl (hs.cell (k := 1) rfl rfl) ?_
    | refine s_load Try.isAgg30 rfl rfl (hs.cell (k := 2) rfl rfl) ?_
    | refine s_load Try.isAgg30 rfl rfl (hs.cell (k := 3) rfl rfl) ?_
    | refine s_load Try.isAgg30 rfl rfl (hs.cell (k := 4) rfl rfl) ?_
    | refine s_load Try.isAgg30 rfl rfl (hs.cell (k := 5) rfl rfl) ?_
    | refine s_load Try.isAgg30 rfl rfl (hs.cell (k := 6) rfl rfl) ?_
    | refine s_load Try.isAgg30 rfl rfl (hs.cell (k := 7) rfl rfl) ?_
    | refine s_load Try.isAgg30 rfl rfl (hs.cell (k := 8) rfl rfl) ?_
    | refine s_load Try.isAgg30 rfl rfl (hs.cell (k := 9) rfl rfl) ?_
  refine WL_take rfl ?_
  refine s_move rfl rfl ?_
  refine WL_take rfl ?_
  refine s_call Try.call29 rfl rfl (sameBytes_ok _ _ ow ow w (hs.sl (k := 2) (ds := u8s ow) rfl (Nat.le_refl _) (by intro j u hj; rw [Nat.zero_add]; exact hj)) (hs.sl (k := 1) (ds := u8s ow) rfl hcap (by intro j u hj; rw [Nat.zero_add, List.getElem?_append_left (List.getElem?_eq_some_iff.1 hj).1]; exact hj)) (by omega)) ?_
  rintro r w ⟨hst, rfl⟩
  replace hs := hs.fwd1 hst
  clear hst
  refine WL_take rfl ?_
  refine s_not rfl rfl ?_
  refine s_pick_f rfl rfl rfl ?_
  refine WL_nil ?_
  refine n_then ?_
  refine W_cond_kf rfl ((by simp)) ?_
  refine W_skip ?_
  refine n_then ?_
  refine W_seq ?_
  refine W_seq ?_
  refine W_region ?_
  refine s_assign rfl rfl ?_
  refine WL_nil ?_
  refine n_then ?_
  refine W_block ?_
  refine W_loop (σ := Nat × List Value) (fun s => [(3, .pointer (some ⟨p, 0, none⟩)), (5, .slice (some ⟨g, 0, none⟩) ow.length cap), (7, .pointer (some ⟨b7, 0, none⟩)), (9, .int .i64 (s.1 : Int))])
    (fun s w => St [] w0 w ((b7, Blk 32 [.int .i64 0, .int .i64 1, .slice (some ⟨b1, 0, none⟩) ow.length ow.length]) :: (g, Blk 5 (u8s ow ++ sp)) :: (b1, Blk 5 s.2) :: (L1 ++ [])) ∧ s.2.length = ow.length ∧ s.1 ≤ ow.length)
    (fun s => ow.length - s.1) (0, u8s ow) ⟨rfl, rfl, rfl, rfl, trivial⟩ ⟨hs, by simp, Nat.zero_le _⟩ ?_
  clear hs
  rintro ⟨k, c⟩ w ⟨hs, hcl, hk⟩
  simp only at hs hcl hk
  refine W_seq ?_
  refine W_seq ?_
  refine W_region ?_
  refine s_move rfl rfl ?_
  refine s_fieldAddr rfl rfl (FA32_2 _ _) ?_
  first
    | refine s_load Try.isAgg30 rfl rfl (hs.cell (k := 0) rfl rfl) ?_
    | refine s_load Try.isAgg30 rfl rfl (hs.cell (k := 1) rfl rfl) ?_
    | refine s_load Try.isAgg30 rfl rfl (hs.cell (k := 2) rfl rfl) ?_
    | refine s_load Try.isAgg30 rfl rfl (hs.cell (k := 3) rfl rfl) ?_
    | refine s_load Try.isAgg30 rfl rfl (hs.cell (k := 4) rfl rfl) ?_
    | refine s_load Try.isAgg30 rfl rfl (hs.cell (k := 5) rfl rfl) ?_
    | refine s_load Try.isAgg30 rfl rfl (hs.cell (k := 6) rfl rfl) ?_
    | refine s_load Try.isAgg30 rfl rfl (hs.cell (k := 7) rfl rfl) ?_
    | refine s_load Try.isAgg30 rfl rfl (hs.cell (k := 8) rfl rfl) ?_
    | refine s_load Try.isAgg30 rfl rfl (hs.cell (k := 9) rfl rfl) ?_
  refine s_len rfl rfl (LN30 _ _ _ _) ?_
  refine s_lss rfl rfl rfl ?_
  refine WL_nil ?_
  refine n_then ?_
  refine W_cond rfl (fun hc59 => ?_) (fun hc59 => ?_)
  · skip
    simp only [decide_eq_true_eq, decide_eq_false_iff_not] at hc59
    refine W_skip ?_
    refine n_then ?_
    refine W_seq ?_
    refine W_block ?_
    refine W_region ?_
    refine s_fieldAddr rfl rfl (FA32_2 _ _) ?_
    first
      | refine s_load Try.isAgg30 rfl rfl (hs.cell (k := 0) rfl rfl) ?_
      | refine s_load Try.isAgg30 rfl rfl (hs.cell (k := 1) rfl rfl) ?_
      | refine s_load Try.isAgg30 rfl rfl (hs.cell (k := 2) rfl rfl) ?_
      | refine s_load Try.isAgg30 rfl rfl (hs.cell (k := 3) rfl rfl) ?_
      | refine s_load Try.isAgg30 rfl rfl (hs.cell (k := 4) rfl rfl) ?_
      | refine s_load Try.isAgg30 rfl rfl (hs.cell (k := 5) rfl rfl) ?_
      | refine s_load Try.isAgg30 rfl rfl (hs.cell (k := 6) rfl rfl) ?_
      | refine s_load Try.isAgg30 rfl rfl (hs.cell (k := 7) rfl rfl) ?_
      | refine s_load Try.isAgg30 rfl rfl (hs.cell (k := 8) rfl rfl) ?_
      | refine s_load Try.isAgg30 rfl rfl (hs.cell (k := 9) rfl rfl) ?_
    refine s_move rfl rfl ?_
    (refine s_indexAddr1 El30 rfl rfl rfl ?hx ?_; case hx => (constructor <;> first | omega | (simp; omega)))
    refine s_store Try.sizeOf5 rfl rfl rfl hs (kk := 2) rfl (by simp; omega) ?_
    clear hs; intro w hs
    simp only [List.set_cons_zero, List.set_cons_succ] at hs
    refine WL_nil ?_
    refine n_blk ?_
    refine n_then ?_
    refine W_region ?_
    refine s_move rfl rfl ?_
    first | (refine s_add' rfl rfl rfl ?hx ?_; case hx => (constructor <;> omega)) | refine s_add rfl rfl rfl ?_
    refine s_assign rfl rfl ?_
    refine WL_nil ?_
    refine n_loop ?_
    exact ⟨(k + 1, _), ⟨rfl, rfl, rfl, rfl, trivial⟩, ⟨hs, by simpa using hcl, by show k + 1 ≤ _; omega⟩, by show _ - (k + 1) < _; omega⟩
  · skip
    simp only [decide_eq_true_eq, decide_eq_false_iff_not] at hc59
    refine W_exit ?_
    refine x_then ?_
    refine x_then ?_
    refine exit_hit ?_
    refine n_then ?_
    refine W_seq ?_
    refine W_region ?_
    refine s_move rfl rfl ?_
    refine s_callL (M := [_, _, _]) (L1 := L1) (X := []) Try.call14 rfl rfl hs (fun h => take_yes p [0, 0] _ 0 L1 w hN h (by simp) (by simp) _ (by simp; rfl) (by simp)) ?_
    clear hs; intro v w LN h _ hs
    obtain ⟨h, _⟩ | ⟨_, rfl, L2, rfl, hN⟩ := h
    case inl => exact absurd rfl h
    simp only [List.cons_append, List.nil_append, Msg.blk] at hs
    simp only [Msg.cells]
    refine s_move rfl rfl ?_
    refine s_extract rfl rfl rfl ?_
    refine s_extract rfl rfl rfl ?_
    refine s_alloc rfl AL32 hs ?_; clear hs; intro b10 w hs
    first
      | refine s_storeW Try.sizeOf32 rfl rfl rfl rfl hs (kk := 0) rfl rfl ?_
      | refine s_storeW Try.sizeOf32 rfl rfl rfl rfl hs (kk := 1) rfl rfl ?_
      | refine s_storeW Try.sizeOf32 rfl rfl rfl rfl hs (kk := 2) rfl rfl ?_
      | refine s_storeW Try.sizeOf32 rfl rfl rfl rfl hs (kk := 3) rfl rfl ?_
      | refine s_storeW Try.sizeOf32 rfl rfl rfl rfl hs (kk := 4) rfl rfl ?_
      | refine s_storeW Try.sizeOf32 rfl rfl rfl rfl hs (kk := 5) rfl rfl ?_
      | refine s_storeW Try.sizeOf32 rfl rfl rfl rfl hs (kk := 6) rfl rfl ?_
      | refine s_storeW Try.sizeOf32 rfl rfl rfl rfl hs (kk := 7) rfl rfl ?_
      | refine s_storeW Try.sizeOf32 rfl rfl rfl rfl hs (kk := 8) rfl rfl ?_
      | refine s_storeW Try.sizeOf32 rfl rfl rfl rfl hs (kk := 9) rfl rfl ?_
      | refine s_storeAB Try.sizeOf32 rfl rfl rfl rfl hs (kk := 0) rfl rfl ?_
      | refine s_storeAB Try.sizeOf32 rfl rfl rfl rfl hs (kk := 1) rfl rfl ?_
      | refine s_storeAB Try.sizeOf32 rfl rfl rfl rfl hs (kk := 2) rfl rfl ?_
      | refine s_storeAB Try.sizeOf32 rfl rfl rfl rfl hs (kk := 3) rfl rfl ?_
      | refine s_storeAB Try.sizeOf32 rfl rfl rfl rfl hs (kk := 4) rfl rfl ?_
      | refine s_storeAB Try.sizeOf32 rfl rfl rfl rfl hs (kk := 5) rfl rfl ?_
      | refine s_storeAB Try.sizeOf32 rfl rfl rfl rfl hs (kk := 6) rfl rfl ?_
      | refine s_storeAB Try.sizeOf32 rfl rfl rfl rfl hs (kk := 7) rfl rfl ?_
      | refine s_storeAB Try.sizeOf32 rfl rfl rfl rfl hs (kk := 8) rfl rfl ?_
      | refine s_storeAB Try.sizeOf32 rfl rfl rfl rfl hs (kk := 9) rfl rfl ?_
    clear hs; intro w hs; try simp only [List.set_cons_zero, List.set_cons_succ, splice, List.take_succ_cons, List.take_zero, List.drop_succ_cons, List.drop_zero, List.nil_append, List.cons_append, List.length_cons, List.length_nil, Nat.reduceAdd, List.append_assoc] at hs
    refine s_assign rfl rfl ?_
    refine WL_nil ?_
    refine n_then ?_
    refine W_seq ?_
    refine W_region ?_
    refine s_move rfl rfl ?_
    refine s_eql rfl rfl rfl ?_
    refine s_move rfl rfl ?_
    refine WL_know (s := 73) (c := true) rfl ((by first | rfl | simp)) ?_
    refine WL_take rfl ?_
    refine s_fieldAddr rfl rfl (FA32_2 _ _) ?_
    refine WL_take rfl ?_
    first
      | refine s_load Try.isAgg30 rfl rfl (hs.cell (k := 0) rfl rfl) ?_
      | refine s_load Try.isAgg30 rfl rfl (hs.cell (k := 1) rfl rfl) ?_
      | refine s_load Try.isAgg30 rfl rfl (hs.cell (k := 2) rfl rfl) ?_
      | refine s_load Try.isAgg30 rfl rfl (hs.cell (k := 3) rfl rfl) ?_
      | refine s_load Try.isAgg30 rfl rfl (hs.cell (k := 4) rfl rfl) ?_
      | refine s_load Try.isAgg30 rfl rfl (hs.cell (k := 5) rfl rfl) ?_
      | refine s_load Try.isAgg30 rfl rfl (hs.cell (k := 6) rfl rfl) ?_
      | refine s_load Try.isAgg30 rfl rfl (hs.cell (k := 7) rfl rfl) ?_
      | refine s_load Try.isAgg30 rfl rfl (hs.cell (k := 8) rfl rfl) ?_
      | refine s_load Try.isAgg30 rfl rfl (hs.cell (k := 9) rfl rfl) ?_
    refine WL_take rfl ?_
    refine s_move rfl rfl ?_
    refine WL_take rfl ?_
    refine s_call Try.call29 rfl rfl (sameBytes_ok _ _ ow ow w (hs.sl (k := 4) (ds := u8s ow) rfl (Nat.le_refl _) (by intro j u hj; rw [Nat.zero_add]; exact hj)) (hs.sl (k := 2) (ds := u8s ow) rfl hcap (by intro j u hj; rw [Nat.zero_add, List.getElem?_append_left (List.getElem?_eq_some_iff.1 hj).1]; exact hj)) (by omega)) ?_
    rintro r w ⟨hst, rfl⟩
    replace hs := hs.fwd1 hst
    clear hst
    refine s_pick_t rfl rfl rfl ?_
    refine s_move rfl rfl ?_
    refine WL_know (s := 79) (c := true) rfl ((by first | rfl | simp)) ?_
    refine WL_take rfl ?_
    refine s_call Try.call24 rfl rfl (lives_ok w) ?_
    rintro r w ⟨hst, rfl⟩
    replace hs := hs.fwd1 hst
    clear hst
    refine s_pick_t rfl rfl rfl ?_
    refine s_assign rfl rfl ?_
    refine WL_nil ?_
    refine n_then ?_
    refine W_ret ?_
    exact end1 rfl rfl ⟨hs.fwd, rfl⟩
end Go.Proofs.Ytgkdbiibbfipjaa
