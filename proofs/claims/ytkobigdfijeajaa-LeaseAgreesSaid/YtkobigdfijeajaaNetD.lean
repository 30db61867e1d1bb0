/- Contracts of package net. -/
import Derived.Test.YtkobigdfijeajaaLib
set_option linter.unusedVariables false
set_option linter.unusedSimpArgs false
namespace Go.Proofs.Ytkobigdfijeajaa
open Go.SL
/-- a message in transit: its numbers, the block of its bytes, its bytes -/
structure Msg where
  f : Int
  t : Int
  b : Nat
  bs : List Int
def Msg.cells (m : Msg) : List Value := [.int .i64 m.f, .int .i64 m.t, .slice (some ⟨m.b, 0, none⟩) m.bs.length m.bs.length]
def Msg.blk (m : Msg) : Nat × Obj := (m.b, Blk 5 (u8s m.bs))
def mcells (ms : List Msg) : List Value := ms.flatMap Msg.cells
def mblks (ms : List Msg) : Hp := ms.map Msg.blk
/-- the network at p: the groups, the messages; its blocks -/
def NetAt (p : Nat) (gs : List Int) (ms : List Msg) (L : Hp) : Prop :=
  ∃ g tv Lt, L = (p, Blk 112 [.slice (some ⟨g, 0, none⟩) gs.length gs.length, tv]) :: (g, Blk 3 (i64s gs)) :: (Lt ++ mblks ms) ∧ OwnS 56 3 tv ms.length (mcells ms) Lt
theorem netNew_ok (k : Int) (w0 : World) (hk : -9223372036854775808 ≤ k ∧ k ≤ 9223372036854775807) :
    Ret Try.prog 32 [.int .i64 k].toArray w0 fun r w' => (1 ≤ k ∧ k ≤ 16 ∧ ∃ p L, r = .tuple #[.pointer (some ⟨p, 0, none⟩), .int .i64 0] ∧ NetAt p (List.replicate k.toNat 0) [] L ∧ St [] w0 w' L) ∨
      (¬ (1 ≤ k ∧ k ≤ 16) ∧ r = .tuple #[.pointer none, .int .i64 1] ∧ Fwd [] w0 w') := by
  refine Ret_start fun w hs => ?_
  refine Ret_of Try.func32 rfl Try.ntmps32 rfl ?_
  refine W_seq ?_
  refine W_region ?_
  refine s_assign rfl rfl ?_
  refine s_assign rfl rfl ?_
  refine WL_nil ?_
  refine n_then ?_
  refine W_seq ?_
  refine W_seq ?_
  refine W_region ?_
  refine s_move rfl rfl ?_
  refine s_lss rfl rfl rfl ?_
  refine s_move rfl rfl ?_
  refine WL_case (s := 6) rfl (fun hg6 => ?_) (fun hg6 => ?_)
  · skip
    simp only [decide_eq_true_eq, decide_eq_false_iff_not] at hg6
    refine WL_skip rfl rfl rfl ?_
    refine WL_skip rfl rfl rfl ?_
    refine s_pick_t rfl rfl rfl ?_
    refine WL_nil ?_
    refine n_then ?_
    refine W_cond_t rfl ?_
    refine W_seq ?_
    refine W_region ?_
    refine s_assign rfl rfl ?_
    refine s_assign rfl rfl ?_
    refine WL_nil ?_
    refine n_then ?_
    refine W_ret ?_
    refine r_then ?_
    refine end2 rfl rfl rfl ?_
    first
      | exact Or.inr ⟨by omega, rfl, hs.fwd⟩
      | (refine Or.inl ⟨by omega, by omega, b13, _, rfl, ⟨b11, _, [], ?_, OwnS.nil _ _⟩, hs⟩
         simp [mblks, made_one, Blk])
  · skip
    simp only [decide_eq_true_eq, decide_eq_false_iff_not] at hg6
    refine WL_take rfl ?_
    refine s_move rfl rfl ?_
    refine WL_take rfl ?_
    refine s_gtr rfl rfl rfl ?_
    refine s_pick_f rfl rfl rfl ?_
    refine WL_nil ?_
    refine n_then ?_
    refine W_cond rfl (fun hc9 => ?_) (fun hc9 => ?_)
    · skip
      simp only [decide_eq_true_eq, decide_eq_false_iff_not] at hc9
      refine W_seq ?_
      refine W_region ?_
      refine s_assign rfl rfl ?_
      refine s_assign rfl rfl ?_
      refine WL_nil ?_
      refine n_then ?_
      refine W_ret ?_
      refine r_then ?_
      refine end2 rfl rfl rfl ?_
      first
        | exact Or.inr ⟨by omega, rfl, hs.fwd⟩
        | (refine Or.inl ⟨by omega, by omega, b13, _, rfl, ⟨b11, _, [], ?_, OwnS.nil _ _⟩, hs⟩
           simp [mblks, made_one, Blk])
    · skip
      simp only [decide_eq_true_eq, decide_eq_false_iff_not] at hc9
      refine W_skip ?_
      refine n_then ?_
      refine W_seq ?_
      refine W_region ?_
      refine s_move rfl rfl ?_
      refine s_makeSlice El58 rfl rfl rfl ?hx hs ?_
      case hx => (refine ⟨?_, ?_, ?_, ?_⟩ <;> omega)
      clear hs; intro b11 w hs
      refine s_build rfl rfl (BD112_0 _ _ _) ?_
      first | refine s_box rfl rfl hs ?_ | refine s_box1 rfl rfl rfl hs ?_
      clear hs; intro b13 w hs
      refine s_assign rfl rfl ?_
      refine s_assign rfl rfl ?_
      refine WL_nil ?_
      refine n_then ?_
      refine W_ret ?_
      refine end2 rfl rfl rfl ?_
      first
        | exact Or.inr ⟨by omega, rfl, hs.fwd⟩
        | (refine Or.inl ⟨by omega, by omega, b13, _, rfl, ⟨b11, _, [], ?_, OwnS.nil _ _⟩, hs⟩
           simp [mblks, made_one, Blk])
theorem netSep_ok (f t : Int) (v : Value) (bs : List Int) (w0 : World) (hv : Sl w0 v bs.length (u8s bs)) (hl : bs.length ≤ 4294967296) :
    Ret Try.prog 77 [.agg #[.int .i64 f, .int .i64 t, v]].toArray w0 fun r w' => ∃ m : Msg, m.f = f ∧ m.t = t ∧ m.bs = bs ∧ r = .agg m.cells.toArray ∧ St [] w0 w' [m.blk] := by
  obtain ⟨a, c, rfl, hc⟩ := hv.len_le
  refine Ret_start fun w hs => ?_
  refine Ret_of Try.func77 rfl Try.ntmps77 rfl ?_
  refine W_seq ?_
  refine W_region ?_
  first | refine s_box rfl rfl hs ?_ | refine s_box1 rfl rfl rfl hs ?_
  clear hs; intro b1 w hs
  refine s_alloc rfl AL56 hs ?_; clear hs; intro b2 w hs
  refine WL_nil ?_
  refine n_then ?_
  refine W_seq ?_
  refine W_region ?_
  refine s_fieldAddr rfl rfl (FA56_2 _ _) ?_
  first
    | refine s_load Try.isAgg22 rfl rfl (hs.cell (k := 0) rfl rfl) ?_
    | refine s_load Try.isAgg22 rfl rfl (hs.cell (k := 1) rfl rfl) ?_
    | refine s_load Try.isAgg22 rfl rfl (hs.cell (k := 2) rfl rfl) ?_
    | refine s_load Try.isAgg22 rfl rfl (hs.cell (k := 3) rfl rfl) ?_
    | refine s_load Try.isAgg22 rfl rfl (hs.cell (k := 4) rfl rfl) ?_
    | refine s_load Try.isAgg22 rfl rfl (hs.cell (k := 5) rfl rfl) ?_
    | refine s_load Try.isAgg22 rfl rfl (hs.cell (k := 6) rfl rfl) ?_
    | refine s_load Try.isAgg22 rfl rfl (hs.cell (k := 7) rfl rfl) ?_
    | refine s_load Try.isAgg22 rfl rfl (hs.cell (k := 8) rfl rfl) ?_
    | refine s_load Try.isAgg22 rfl rfl (hs.cell (k := 9) rfl rfl) ?_
  refine s_len rfl rfl (LN22 _ _ _ _) ?_
  refine s_makeSlice El22 rfl rfl rfl ?hx hs ?_
  case hx => (refine ⟨?_, ?_, ?_, ?_⟩ <;> omega)
  clear hs; intro b7 w hs
  refine s_assign rfl rfl ?_
  refine WL_nil ?_
  refine n_then ?_
  refine W_seq ?_
  refine W_region ?_
  refine s_move rfl rfl ?_
  refine s_fieldAddr rfl rfl (FA56_2 _ _) ?_
  first
    | refine s_load Try.isAgg22 rfl rfl (hs.cell (k := 0) rfl rfl) ?_
    | refine s_load Try.isAgg22 rfl rfl (hs.cell (k := 1) rfl rfl) ?_
    | refine s_load Try.isAgg22 rfl rfl (hs.cell (k := 2) rfl rfl) ?_
    | refine s_load Try.isAgg22 rfl rfl (hs.cell (k := 3) rfl rfl) ?_
    | refine s_load Try.isAgg22 rfl rfl (hs.cell (k := 4) rfl rfl) ?_
    | refine s_load Try.isAgg22 rfl rfl (hs.cell (k := 5) rfl rfl) ?_
    | refine s_load Try.isAgg22 rfl rfl (hs.cell (k := 6) rfl rfl) ?_
    | refine s_load Try.isAgg22 rfl rfl (hs.cell (k := 7) rfl rfl) ?_
    | refine s_load Try.isAgg22 rfl rfl (hs.cell (k := 8) rfl rfl) ?_
    | refine s_load Try.isAgg22 rfl rfl (hs.cell (k := 9) rfl rfl) ?_
  have hsl := hv.fwd0 hs.fwd
  refine s_copy El22 rfl rfl rfl hs (kk := 0) rfl hsl (by simp) (u8s_one _) (by omega) (by simp [made_length]) ?_
  clear hs; intro w hs
  have hsp : splice (made [.int .u8 0] (bs.length : Int).toNat) 0 (u8s bs) = u8s bs := by simp [splice, made_length]
  rw [hsp] at hs
  simp only [List.set_cons_zero, Int.toNat_natCast] at hs
  refine WL_nil ?_
  refine n_then ?_
  refine W_seq ?_
  refine W_region ?_
  refine s_move rfl rfl ?_
  refine s_fieldAddr rfl rfl (FA56_2 _ _) ?_
  first
    | refine s_storeB Try.sizeOf22 rfl rfl rfl hs (kk := 0) rfl rfl ?_
    | refine s_storeB Try.sizeOf22 rfl rfl rfl hs (kk := 1) rfl rfl ?_
    | refine s_storeB Try.sizeOf22 rfl rfl rfl hs (kk := 2) rfl rfl ?_
    | refine s_storeB Try.sizeOf22 rfl rfl rfl hs (kk := 3) rfl rfl ?_
    | refine s_storeB Try.sizeOf22 rfl rfl rfl hs (kk := 4) rfl rfl ?_
    | refine s_storeB Try.sizeOf22 rfl rfl rfl hs (kk := 5) rfl rfl ?_
    | refine s_storeB Try.sizeOf22 rfl rfl rfl hs (kk := 6) rfl rfl ?_
    | refine s_storeB Try.sizeOf22 rfl rfl rfl hs (kk := 7) rfl rfl ?_
    | refine s_storeB Try.sizeOf22 rfl rfl rfl hs (kk := 8) rfl rfl ?_
    | refine s_storeB Try.sizeOf22 rfl rfl rfl hs (kk := 9) rfl rfl ?_
  clear hs; intro w hs; try simp only [List.set_cons_zero, List.set_cons_succ, splice, List.take_succ_cons, List.take_zero, List.drop_succ_cons, List.drop_zero, List.nil_append, List.cons_append, List.length_cons, List.length_nil, Nat.reduceAdd, List.append_assoc] at hs
  refine WL_nil ?_
  refine n_then ?_
  refine W_seq ?_
  refine W_region ?_
  first
    | refine s_loadW Try.isAgg56 Try.sizeOf56 rfl rfl hs (kk := 0) rfl rfl ?_
    | refine s_loadW Try.isAgg56 Try.sizeOf56 rfl rfl hs (kk := 1) rfl rfl ?_
    | refine s_loadW Try.isAgg56 Try.sizeOf56 rfl rfl hs (kk := 2) rfl rfl ?_
    | refine s_loadW Try.isAgg56 Try.sizeOf56 rfl rfl hs (kk := 3) rfl rfl ?_
    | refine s_loadW Try.isAgg56 Try.sizeOf56 rfl rfl hs (kk := 4) rfl rfl ?_
    | refine s_loadW Try.isAgg56 Try.sizeOf56 rfl rfl hs (kk := 5) rfl rfl ?_
    | refine s_loadW Try.isAgg56 Try.sizeOf56 rfl rfl hs (kk := 6) rfl rfl ?_
    | refine s_loadW Try.isAgg56 Try.sizeOf56 rfl rfl hs (kk := 7) rfl rfl ?_
    | refine s_loadW Try.isAgg56 Try.sizeOf56 rfl rfl hs (kk := 8) rfl rfl ?_
    | refine s_loadW Try.isAgg56 Try.sizeOf56 rfl rfl hs (kk := 9) rfl rfl ?_
    | refine s_load_3 Try.isAgg56 Try.sizeOf56 rfl rfl (by first | exact hs.cell (k := 0) rfl rfl | exact hs.cell (k := 1) rfl rfl | exact hs.cell (k := 2) rfl rfl | exact hs.cell (k := 3) rfl rfl | exact hs.cell (k := 4) rfl rfl | exact hs.cell (k := 5) rfl rfl | exact hs.cell (k := 6) rfl rfl | exact hs.cell (k := 7) rfl rfl | exact hs.cell (k := 8) rfl rfl | exact hs.cell (k := 9) rfl rfl) (by first | exact hs.cell (k := 0) rfl rfl | exact hs.cell (k := 1) rfl rfl | exact hs.cell (k := 2) rfl rfl | exact hs.cell (k := 3) rfl rfl | exact hs.cell (k := 4) rfl rfl | exact hs.cell (k := 5) rfl rfl | exact hs.cell (k := 6) rfl rfl | exact hs.cell (k := 7) rfl rfl | exact hs.cell (k := 8) rfl rfl | exact hs.cell (k := 9) rfl rfl) (by first | exact hs.cell (k := 0) rfl rfl | exact hs.cell (k := 1) rfl rfl | exact hs.cell (k := 2) rfl rfl | exact hs.cell (k := 3) rfl rfl | exact hs.cell (k := 4) rfl rfl | exact hs.cell (k := 5) rfl rfl | exact hs.cell (k := 6) rfl rfl | exact hs.cell (k := 7) rfl rfl | exact hs.cell (k := 8) rfl rfl | exact hs.cell (k := 9) rfl rfl) ?_
  first
    | refine s_storeW Try.sizeOf56 rfl rfl rfl rfl hs (kk := 0) rfl rfl ?_
    | refine s_storeW Try.sizeOf56 rfl rfl rfl rfl hs (kk := 1) rfl rfl ?_
    | refine s_storeW Try.sizeOf56 rfl rfl rfl rfl hs (kk := 2) rfl rfl ?_
    | refine s_storeW Try.sizeOf56 rfl rfl rfl rfl hs (kk := 3) rfl rfl ?_
    | refine s_storeW Try.sizeOf56 rfl rfl rfl rfl hs (kk := 4) rfl rfl ?_
    | refine s_storeW Try.sizeOf56 rfl rfl rfl rfl hs (kk := 5) rfl rfl ?_
    | refine s_storeW Try.sizeOf56 rfl rfl rfl rfl hs (kk := 6) rfl rfl ?_
    | refine s_storeW Try.sizeOf56 rfl rfl rfl rfl hs (kk := 7) rfl rfl ?_
    | refine s_storeW Try.sizeOf56 rfl rfl rfl rfl hs (kk := 8) rfl rfl ?_
    | refine s_storeW Try.sizeOf56 rfl rfl rfl rfl hs (kk := 9) rfl rfl ?_
    | refine s_storeAB Try.sizeOf56 rfl rfl rfl rfl hs (kk := 0) rfl rfl ?_
    | refine s_storeAB Try.sizeOf56 rfl rfl rfl rfl hs (kk := 1) rfl rfl ?_
    | refine s_storeAB Try.sizeOf56 rfl rfl rfl rfl hs (kk := 2) rfl rfl ?_
    | refine s_storeAB Try.sizeOf56 rfl rfl rfl rfl hs (kk := 3) rfl rfl ?_
    | refine s_storeAB Try.sizeOf56 rfl rfl rfl rfl hs (kk := 4) rfl rfl ?_
    | refine s_storeAB Try.sizeOf56 rfl rfl rfl rfl hs (kk := 5) rfl rfl ?_
    | refine s_storeAB Try.sizeOf56 rfl rfl rfl rfl hs (kk := 6) rfl rfl ?_
    | refine s_storeAB Try.sizeOf56 rfl rfl rfl rfl hs (kk := 7) rfl rfl ?_
    | refine s_storeAB Try.sizeOf56 rfl rfl rfl rfl hs (kk := 8) rfl rfl ?_
    | refine s_storeAB Try.sizeOf56 rfl rfl rfl rfl hs (kk := 9) rfl rfl ?_
  clear hs; intro w hs; try simp only [List.set_cons_zero, List.set_cons_succ, splice, List.take_succ_cons, List.take_zero, List.drop_succ_cons, List.drop_zero, List.nil_append, List.cons_append, List.length_cons, List.length_nil, Nat.reduceAdd, List.append_assoc] at hs
  refine WL_nil ?_
  refine n_then ?_
  refine W_ret ?_
  refine end1 rfl (resOk_block Try.isAgg56 Try.sizeOf56 hs rfl (kk := 1) rfl rfl) ?_
  exact ⟨⟨f, t, b7, bs⟩, rfl, rfl, rfl, rfl, St.left (L := [_]) hs⟩
theorem mcells_append (a b : List Msg) : mcells (a ++ b) = mcells a ++ mcells b := by simp [mcells]
theorem mblks_append (a b : List Msg) : mblks (a ++ b) = mblks a ++ mblks b := by simp [mblks]
theorem cells_one (m : Msg) : ∀ c ∈ m.cells, c.oneCell' = true := by simp [Msg.cells, Value.oneCell']
/-- what Send answers -/
def sendE (gs : List Int) (ms : List Msg) (f t : Int) (bs : List Int) : Int :=
  if f < 0 ∨ (gs.length : Int) ≤ f ∨ t < 0 ∨ (gs.length : Int) ≤ t ∨ 65536 < (bs.length : Int) then 1 else if 1000 ≤ (ms.length : Int) then 4 else 0
theorem send_ok (p : Nat) (gs : List Int) (ms : List Msg) (f t : Int) (v : Value) (bs : List Int) (L0 : Hp) (w0 : World) (hN : NetAt p gs ms L0) (hs : St (ids L0) w0 w0 L0) (hv : Sl w0 v bs.length (u8s bs)) (hm : ms.length ≤ 1000) (hd : ∀ a m c, v = .slice (some a) m c → u8s bs ≠ [] → a.block ∉ ids L0) :
    Ret Try.prog 75 [.pointer (some ⟨p, 0, none⟩), .agg #[.int .i64 f, .int .i64 t, v]].toArray w0 fun r w' => ∃ L', St (ids L0) w0 w' L' ∧ r = .int .i64 (sendE gs ms f t bs) ∧
      ∃ ms', NetAt p gs ms' L' ∧ (sendE gs ms f t bs ≠ 0 → ms' = ms) ∧ (sendE gs ms f t bs = 0 → ∃ b, ms' = ms ++ [⟨f, t, b, bs⟩]) := by
  obtain ⟨g, tv, Lt, hL, hO⟩ := hN
  obtain ⟨a, c, rfl, hc⟩ := hv.len_le
  obtain ⟨tl, tc, ta, rfl, rfl⟩ := hO.form
  replace hs : St (ids L0) w0 w0 ((p, Blk 112 [.slice (some ⟨g, 0, none⟩) gs.length gs.length, .slice ta ms.length tc]) :: (g, Blk 3 (i64s gs)) :: (Lt ++ mblks ms)) := by rw [hL] at hs ⊢; exact hs
  refine Ret_startL hs fun w hs => ?_
  refine Ret_of Try.func75 rfl Try.ntmps75 rfl ?_
  refine W_seq ?_
  refine W_region ?_
  first | refine s_box rfl rfl hs ?_ | refine s_box1 rfl rfl rfl hs ?_
  clear hs; intro b3 w hs
  refine s_assign rfl rfl ?_
  refine WL_nil ?_
  refine n_then ?_
  refine W_seq ?_
  refine W_region ?_
  refine s_move rfl rfl ?_
  refine s_nilCheck rfl rfl ?_
  refine s_fieldAddr rfl rfl (FA112_0 _ _) ?_
  first
    | refine s_load Try.isAgg58 rfl rfl (hs.cell (k := 0) rfl rfl) ?_
    | refine s_load Try.isAgg58 rfl rfl (hs.cell (k := 1) rfl rfl) ?_
    | refine s_load Try.isAgg58 rfl rfl (hs.cell (k := 2) rfl rfl) ?_
    | refine s_load Try.isAgg58 rfl rfl (hs.cell (k := 3) rfl rfl) ?_
    | refine s_load Try.isAgg58 rfl rfl (hs.cell (k := 4) rfl rfl) ?_
    | refine s_load Try.isAgg58 rfl rfl (hs.cell (k := 5) rfl rfl) ?_
    | refine s_load Try.isAgg58 rfl rfl (hs.cell (k := 6) rfl rfl) ?_
    | refine s_load Try.isAgg58 rfl rfl (hs.cell (k := 7) rfl rfl) ?_
    | refine s_load Try.isAgg58 rfl rfl (hs.cell (k := 8) rfl rfl) ?_
    | refine s_load Try.isAgg58 rfl rfl (hs.cell (k := 9) rfl rfl) ?_
  refine s_len rfl rfl (LN58 _ _ _ _) ?_
  refine s_assign rfl rfl ?_
  refine WL_nil ?_
  refine n_then ?_
  refine W_seq ?_
  refine W_seq ?_
  refine W_region ?_
  refine s_fieldAddr rfl rfl (FA56_0 _ _) ?_
  first
    | refine s_load Try.isAgg3 rfl rfl (hs.cell (k := 0) rfl rfl) ?_
    | refine s_load Try.isAgg3 rfl rfl (hs.cell (k := 1) rfl rfl) ?_
    | refine s_load Try.isAgg3 rfl rfl (hs.cell (k := 2) rfl rfl) ?_
    | refine s_load Try.isAgg3 rfl rfl (hs.cell (k := 3) rfl rfl) ?_
    | refine s_load Try.isAgg3 rfl rfl (hs.cell (k := 4) rfl rfl) ?_
    | refine s_load Try.isAgg3 rfl rfl (hs.cell (k := 5) rfl rfl) ?_
    | refine s_load Try.isAgg3 rfl rfl (hs.cell (k := 6) rfl rfl) ?_
    | refine s_load Try.isAgg3 rfl rfl (hs.cell (k := 7) rfl rfl) ?_
    | refine s_load Try.isAgg3 rfl rfl (hs.cell (k := 8) rfl rfl) ?_
    | refine s_load Try.isAgg3 rfl rfl (hs.cell (k := 9) rfl rfl) ?_
  refine s_lss rfl rfl rfl ?_
  refine s_move rfl rfl ?_
  refine WL_case (s := 14) rfl (fun hg14 => ?_) (fun hg14 => ?_)
  · skip
    simp only [decide_eq_true_eq, decide_eq_false_iff_not] at hg14
    refine WL_skip rfl rfl rfl ?_
    refine WL_skip rfl rfl rfl ?_
    refine WL_skip rfl rfl rfl ?_
    refine WL_skip rfl rfl rfl ?_
    refine s_pick_t rfl rfl rfl ?_
    refine s_move rfl rfl ?_
    refine WL_skip rfl rfl rfl ?_
    refine WL_skip rfl rfl rfl ?_
    refine WL_skip rfl rfl rfl ?_
    refine s_pick_t rfl rfl rfl ?_
    refine s_move rfl rfl ?_
    refine WL_skip rfl rfl rfl ?_
    refine WL_skip rfl rfl rfl ?_
    refine WL_skip rfl rfl rfl ?_
    refine WL_skip rfl rfl rfl ?_
    refine s_pick_t rfl rfl rfl ?_
    refine s_move rfl rfl ?_
    refine WL_skip rfl rfl rfl ?_
    refine WL_skip rfl rfl rfl ?_
    refine WL_skip rfl rfl rfl ?_
    refine WL_skip rfl rfl rfl ?_
    refine s_pick_t rfl rfl rfl ?_
    refine WL_nil ?_
    refine n_then ?_
    refine W_cond_t rfl ?_
    refine W_seq ?_
    refine W_region ?_
    refine s_assign rfl rfl ?_
    refine WL_nil ?_
    refine n_then ?_
    refine W_ret ?_
    refine r_then ?_
    refine end1 rfl rfl ?_
    first
      | exact ⟨_, hs.tail, by rw [sendE, if_pos (by omega)], ms, ⟨g, _, Lt, rfl, hO⟩, fun _ => rfl, fun h => by rw [sendE, if_pos (by omega)] at h; omega⟩
      | exact ⟨_, hs.tail, by rw [sendE, if_neg (by omega), if_pos (by omega)], ms, ⟨g, _, Lt, rfl, hO⟩, fun _ => rfl, fun h => by rw [sendE, if_neg (by omega), if_pos (by omega)] at h; omega⟩
      | (have hE : sendE gs ms m.f m.t m.bs = 0 := by rw [sendE, if_neg (by omega), if_neg (by omega)]
         refine ⟨_, St.reord [[_], [m.blk], [_], [_], [_], Lt', mblks ms] [3, 4, 5, 6, 1] [0, 2] hs rfl, by rw [hE], ms ++ [m], ⟨g, .slice ta' (ms.length + 1) tc', Lt', ?_, ?_⟩, fun h => absurd hE h, fun _ => ⟨m.b, rfl⟩⟩
         · simp [cat, mblks]
         · simpa [mcells] using hO')
  · skip
    simp only [decide_eq_true_eq, decide_eq_false_iff_not] at hg14
    refine WL_take rfl ?_
    refine s_fieldAddr rfl rfl (FA56_0 _ _) ?_
    refine WL_take rfl ?_
    first
      | refine s_load Try.isAgg3 rfl rfl (hs.cell (k := 0) rfl rfl) ?_
      | refine s_load Try.isAgg3 rfl rfl (hs.cell (k := 1) rfl rfl) ?_
      | refine s_load Try.isAgg3 rfl rfl (hs.cell (k := 2) rfl rfl) ?_
      | refine s_load Try.isAgg3 rfl rfl (hs.cell (k := 3) rfl rfl) ?_
      | refine s_load Try.isAgg3 rfl rfl (hs.cell (k := 4) rfl rfl) ?_
      | refine s_load Try.isAgg3 rfl rfl (hs.cell (k := 5) rfl rfl) ?_
      | refine s_load Try.isAgg3 rfl rfl (hs.cell (k := 6) rfl rfl) ?_
      | refine s_load Try.isAgg3 rfl rfl (hs.cell (k := 7) rfl rfl) ?_
      | refine s_load Try.isAgg3 rfl rfl (hs.cell (k := 8) rfl rfl) ?_
      | refine s_load Try.isAgg3 rfl rfl (hs.cell (k := 9) rfl rfl) ?_
    refine WL_take rfl ?_
    refine s_move rfl rfl ?_
    refine WL_take rfl ?_
    refine s_geq rfl rfl rfl ?_
    refine s_pick_f rfl rfl rfl ?_
    refine s_move rfl rfl ?_
    refine WL_case (s := 20) rfl (fun hg20 => ?_) (fun hg20 => ?_)
    · skip
      simp only [decide_eq_true_eq, decide_eq_false_iff_not] at hg20
      refine WL_skip rfl rfl rfl ?_
      refine WL_skip rfl rfl rfl ?_
      refine WL_skip rfl rfl rfl ?_
      refine s_pick_t rfl rfl rfl ?_
      refine s_move rfl rfl ?_
      refine WL_skip rfl rfl rfl ?_
      refine WL_skip rfl rfl rfl ?_
      refine WL_skip rfl rfl rfl ?_
      refine WL_skip rfl rfl rfl ?_
      refine s_pick_t rfl rfl rfl ?_
      refine s_move rfl rfl ?_
      refine WL_skip rfl rfl rfl ?_
      refine WL_skip rfl rfl rfl ?_
      refine WL_skip rfl rfl rfl ?_
      refine WL_skip rfl rfl rfl ?_
      refine s_pick_t rfl rfl rfl ?_
      refine WL_nil ?_
      refine n_then ?_
      refine W_cond_t rfl ?_
      refine W_seq ?_
      refine W_region ?_
      refine s_assign rfl rfl ?_
      refine WL_nil ?_
      refine n_then ?_
      refine W_ret ?_
      refine r_then ?_
      refine end1 rfl rfl ?_
      first
        | exact ⟨_, hs.tail, by rw [sendE, if_pos (by omega)], ms, ⟨g, _, Lt, rfl, hO⟩, fun _ => rfl, fun h => by rw [sendE, if_pos (by omega)] at h; omega⟩
        | exact ⟨_, hs.tail, by rw [sendE, if_neg (by omega), if_pos (by omega)], ms, ⟨g, _, Lt, rfl, hO⟩, fun _ => rfl, fun h => by rw [sendE, if_neg (by omega), if_pos (by omega)] at h; omega⟩
        | (have hE : sendE gs ms m.f m.t m.bs = 0 := by rw [sendE, if_neg (by omega), if_neg (by omega)]
           refine ⟨_, St.reord [[_], [m.blk], [_], [_], [_], Lt', mblks ms] [3, 4, 5, 6, 1] [0, 2] hs rfl, by rw [hE], ms ++ [m], ⟨g, .slice ta' (ms.length + 1) tc', Lt', ?_, ?_⟩, fun h => absurd hE h, fun _ => ⟨m.b, rfl⟩⟩
           · simp [cat, mblks]
           · simpa [mcells] using hO')
    · skip
      simp only [decide_eq_true_eq, decide_eq_false_iff_not] at hg20
      refine WL_take rfl ?_
      refine s_fieldAddr rfl rfl (FA56_1 _ _) ?_
      refine WL_take rfl ?_
      first
        | refine s_load Try.isAgg3 rfl rfl (hs.cell (k := 0) rfl rfl) ?_
        | refine s_load Try.isAgg3 rfl rfl (hs.cell (k := 1) rfl rfl) ?_
        | refine s_load Try.isAgg3 rfl rfl (hs.cell (k := 2) rfl rfl) ?_
        | refine s_load Try.isAgg3 rfl rfl (hs.cell (k := 3) rfl rfl) ?_
        | refine s_load Try.isAgg3 rfl rfl (hs.cell (k := 4) rfl rfl) ?_
        | refine s_load Try.isAgg3 rfl rfl (hs.cell (k := 5) rfl rfl) ?_
        | refine s_load Try.isAgg3 rfl rfl (hs.cell (k := 6) rfl rfl) ?_
        | refine s_load Try.isAgg3 rfl rfl (hs.cell (k := 7) rfl rfl) ?_
        | refine s_load Try.isAgg3 rfl rfl (hs.cell (k := 8) rfl rfl) ?_
        | refine s_load Try.isAgg3 rfl rfl (hs.cell (k := 9) rfl rfl) ?_
      refine WL_take rfl ?_
      refine s_lss rfl rfl rfl ?_
      refine s_pick_f rfl rfl rfl ?_
      refine s_move rfl rfl ?_
      refine WL_case (s := 25) rfl (fun hg25 => ?_) (fun hg25 => ?_)
      · skip
        simp only [decide_eq_true_eq, decide_eq_false_iff_not] at hg25
        refine WL_skip rfl rfl rfl ?_
        refine WL_skip rfl rfl rfl ?_
        refine WL_skip rfl rfl rfl ?_
        refine WL_skip rfl rfl rfl ?_
        refine s_pick_t rfl rfl rfl ?_
        refine s_move rfl rfl ?_
        refine WL_skip rfl rfl rfl ?_
        refine WL_skip rfl rfl rfl ?_
        refine WL_skip rfl rfl rfl ?_
        refine WL_skip rfl rfl rfl ?_
        refine s_pick_t rfl rfl rfl ?_
        refine WL_nil ?_
        refine n_then ?_
        refine W_cond_t rfl ?_
        refine W_seq ?_
        refine W_region ?_
        refine s_assign rfl rfl ?_
        refine WL_nil ?_
        refine n_then ?_
        refine W_ret ?_
        refine r_then ?_
        refine end1 rfl rfl ?_
        first
          | exact ⟨_, hs.tail, by rw [sendE, if_pos (by omega)], ms, ⟨g, _, Lt, rfl, hO⟩, fun _ => rfl, fun h => by rw [sendE, if_pos (by omega)] at h; omega⟩
          | exact ⟨_, hs.tail, by rw [sendE, if_neg (by omega), if_pos (by omega)], ms, ⟨g, _, Lt, rfl, hO⟩, fun _ => rfl, fun h => by rw [sendE, if_neg (by omega), if_pos (by omega)] at h; omega⟩
          | (have hE : sendE gs ms m.f m.t m.bs = 0 := by rw [sendE, if_neg (by omega), if_neg (by omega)]
             refine ⟨_, St.reord [[_], [m.blk], [_], [_], [_], Lt', mblks ms] [3, 4, 5, 6, 1] [0, 2] hs rfl, by rw [hE], ms ++ [m], ⟨g, .slice ta' (ms.length + 1) tc', Lt', ?_, ?_⟩, fun h => absurd hE h, fun _ => ⟨m.b, rfl⟩⟩
             · simp [cat, mblks]
             · simpa [mcells] using hO')
      · skip
        simp only [decide_eq_true_eq, decide_eq_false_iff_not] at hg25
        refine WL_take rfl ?_
        refine s_fieldAddr rfl rfl (FA56_1 _ _) ?_
        refine WL_take rfl ?_
        first
          | refine s_load Try.isAgg3 rfl rfl (hs.cell (k := 0) rfl rfl) ?_
          | refine s_load Try.isAgg3 rfl rfl (hs.cell (k := 1) rfl rfl) ?_
          | refine s_load Try.isAgg3 rfl rfl (hs.cell (k := 2) rfl rfl) ?_
          | refine s_load Try.isAgg3 rfl rfl (hs.cell (k := 3) rfl rfl) ?_
          | refine s_load Try.isAgg3 rfl rfl (hs.cell (k := 4) rfl rfl) ?_
          | refine s_load Try.isAgg3 rfl rfl (hs.cell (k := 5) rfl rfl) ?_
          | refine s_load Try.isAgg3 rfl rfl (hs.cell (k := 6) rfl rfl) ?_
          | refine s_load Try.isAgg3 rfl rfl (hs.cell (k := 7) rfl rfl) ?_
          | refine s_load Try.isAgg3 rfl rfl (hs.cell (k := 8) rfl rfl) ?_
          | refine s_load Try.isAgg3 rfl rfl (hs.cell (k := 9) rfl rfl) ?_
        refine WL_take rfl ?_
        refine s_move rfl rfl ?_
        refine WL_take rfl ?_
        refine s_geq rfl rfl rfl ?_
        refine s_pick_f rfl rfl rfl ?_
        refine s_move rfl rfl ?_
        refine WL_case (s := 31) rfl (fun hg31 => ?_) (fun hg31 => ?_)
        · skip
          simp only [decide_eq_true_eq, decide_eq_false_iff_not] at hg31
          refine WL_skip rfl rfl rfl ?_
          refine WL_skip rfl rfl rfl ?_
          refine WL_skip rfl rfl rfl ?_
          refine WL_skip rfl rfl rfl ?_
          refine s_pick_t rfl rfl rfl ?_
          refine WL_nil ?_
          refine n_then ?_
          refine W_cond_t rfl ?_
          refine W_seq ?_
          refine W_region ?_
          refine s_assign rfl rfl ?_
          refine WL_nil ?_
          refine n_then ?_
          refine W_ret ?_
          refine r_then ?_
          refine end1 rfl rfl ?_
          first
            | exact ⟨_, hs.tail, by rw [sendE, if_pos (by omega)], ms, ⟨g, _, Lt, rfl, hO⟩, fun _ => rfl, fun h => by rw [sendE, if_pos (by omega)] at h; omega⟩
            | exact ⟨_, hs.tail, by rw [sendE, if_neg (by omega), if_pos (by omega)], ms, ⟨g, _, Lt, rfl, hO⟩, fun _ => rfl, fun h => by rw [sendE, if_neg (by omega), if_pos (by omega)] at h; omega⟩
            | (have hE : sendE gs ms m.f m.t m.bs = 0 := by rw [sendE, if_neg (by omega), if_neg (by omega)]
               refine ⟨_, St.reord [[_], [m.blk], [_], [_], [_], Lt', mblks ms] [3, 4, 5, 6, 1] [0, 2] hs rfl, by rw [hE], ms ++ [m], ⟨g, .slice ta' (ms.length + 1) tc', Lt', ?_, ?_⟩, fun h => absurd hE h, fun _ => ⟨m.b, rfl⟩⟩
               · simp [cat, mblks]
               · simpa [mcells] using hO')
        · skip
          simp only [decide_eq_true_eq, decide_eq_false_iff_not] at hg31
          refine WL_take rfl ?_
          refine s_fieldAddr rfl rfl (FA56_2 _ _) ?_
          refine WL_take rfl ?_
          first
            | refine s_load Try.isAgg22 rfl rfl (hs.cell (k := 0) rfl rfl) ?_
            | refine s_load Try.isAgg22 rfl rfl (hs.cell (k := 1) rfl rfl) ?_
            | refine s_load Try.isAgg22 rfl rfl (hs.cell (k := 2) rfl rfl) ?_
            | refine s_load Try.isAgg22 rfl rfl (hs.cell (k := 3) rfl rfl) ?_
            | refine s_load Try.isAgg22 rfl rfl (hs.cell (k := 4) rfl rfl) ?_
            | refine s_load Try.isAgg22 rfl rfl (hs.cell (k := 5) rfl rfl) ?_
            | refine s_load Try.isAgg22 rfl rfl (hs.cell (k := 6) rfl rfl) ?_
            | refine s_load Try.isAgg22 rfl rfl (hs.cell (k := 7) rfl rfl) ?_
            | refine s_load Try.isAgg22 rfl rfl (hs.cell (k := 8) rfl rfl) ?_
            | refine s_load Try.isAgg22 rfl rfl (hs.cell (k := 9) rfl rfl) ?_
          refine WL_take rfl ?_
          refine s_len rfl rfl (LN22 _ _ _ _) ?_
          refine WL_take rfl ?_
          refine s_gtr rfl rfl rfl ?_
          refine s_pick_f rfl rfl rfl ?_
          refine WL_nil ?_
          refine n_then ?_
          refine W_cond rfl (fun hc36 => ?_) (fun hc36 => ?_)
          · skip
            simp only [decide_eq_true_eq, decide_eq_false_iff_not] at hc36
            refine W_seq ?_
            refine W_region ?_
            refine s_assign rfl rfl ?_
            refine WL_nil ?_
            refine n_then ?_
            refine W_ret ?_
            refine r_then ?_
            refine end1 rfl rfl ?_
            first
              | exact ⟨_, hs.tail, by rw [sendE, if_pos (by omega)], ms, ⟨g, _, Lt, rfl, hO⟩, fun _ => rfl, fun h => by rw [sendE, if_pos (by omega)] at h; omega⟩
              | exact ⟨_, hs.tail, by rw [sendE, if_neg (by omega), if_pos (by omega)], ms, ⟨g, _, Lt, rfl, hO⟩, fun _ => rfl, fun h => by rw [sendE, if_neg (by omega), if_pos (by omega)] at h; omega⟩
              | (have hE : sendE gs ms m.f m.t m.bs = 0 := by rw [sendE, if_neg (by omega), if_neg (by omega)]
                 refine ⟨_, St.reord [[_], [m.blk], [_], [_], [_], Lt', mblks ms] [3, 4, 5, 6, 1] [0, 2] hs rfl, by rw [hE], ms ++ [m], ⟨g, .slice ta' (ms.length + 1) tc', Lt', ?_, ?_⟩, fun h => absurd hE h, fun _ => ⟨m.b, rfl⟩⟩
                 · simp [cat, mblks]
                 · simpa [mcells] using hO')
          · skip
            simp only [decide_eq_true_eq, decide_eq_false_iff_not] at hc36
            refine W_skip ?_
            refine n_then ?_
            refine W_seq ?_
            refine W_seq ?_
            refine W_region ?_
            refine s_move rfl rfl ?_
            refine s_nilCheck rfl rfl ?_
            refine s_fieldAddr rfl rfl (FA112_1 _ _) ?_
            first
              | refine s_load Try.isAgg29 rfl rfl (hs.cell (k := 0) rfl rfl) ?_
              | refine s_load Try.isAgg29 rfl rfl (hs.cell (k := 1) rfl rfl) ?_
              | refine s_load Try.isAgg29 rfl rfl (hs.cell (k := 2) rfl rfl) ?_
              | refine s_load Try.isAgg29 rfl rfl (hs.cell (k := 3) rfl rfl) ?_
              | refine s_load Try.isAgg29 rfl rfl (hs.cell (k := 4) rfl rfl) ?_
              | refine s_load Try.isAgg29 rfl rfl (hs.cell (k := 5) rfl rfl) ?_
              | refine s_load Try.isAgg29 rfl rfl (hs.cell (k := 6) rfl rfl) ?_
              | refine s_load Try.isAgg29 rfl rfl (hs.cell (k := 7) rfl rfl) ?_
              | refine s_load Try.isAgg29 rfl rfl (hs.cell (k := 8) rfl rfl) ?_
              | refine s_load Try.isAgg29 rfl rfl (hs.cell (k := 9) rfl rfl) ?_
            refine s_len rfl rfl (LN29 _ _ _ _) ?_
            refine s_geq rfl rfl rfl ?_
            refine WL_nil ?_
            refine n_then ?_
            refine W_cond rfl (fun hc42 => ?_) (fun hc42 => ?_)
            · skip
              simp only [decide_eq_true_eq, decide_eq_false_iff_not] at hc42
              refine W_seq ?_
              refine W_region ?_
              refine s_assign rfl rfl ?_
              refine WL_nil ?_
              refine n_then ?_
              refine W_ret ?_
              refine r_then ?_
              refine end1 rfl rfl ?_
              first
                | exact ⟨_, hs.tail, by rw [sendE, if_pos (by omega)], ms, ⟨g, _, Lt, rfl, hO⟩, fun _ => rfl, fun h => by rw [sendE, if_pos (by omega)] at h; omega⟩
                | exact ⟨_, hs.tail, by rw [sendE, if_neg (by omega), if_pos (by omega)], ms, ⟨g, _, Lt, rfl, hO⟩, fun _ => rfl, fun h => by rw [sendE, if_neg (by omega), if_pos (by omega)] at h; omega⟩
                | (have hE : sendE gs ms m.f m.t m.bs = 0 := by rw [sendE, if_neg (by omega), if_neg (by omega)]
                   refine ⟨_, St.reord [[_], [m.blk], [_], [_], [_], Lt', mblks ms] [3, 4, 5, 6, 1] [0, 2] hs rfl, by rw [hE], ms ++ [m], ⟨g, .slice ta' (ms.length + 1) tc', Lt', ?_, ?_⟩, fun h => absurd hE h, fun _ => ⟨m.b, rfl⟩⟩
                   · simp [cat, mblks]
                   · simpa [mcells] using hO')
            · skip
              simp only [decide_eq_true_eq, decide_eq_false_iff_not] at hc42
              refine W_skip ?_
              refine n_then ?_
              refine W_seq ?_
              refine W_draw [(0, true, []), (1, true, []), (2, true, []), (3, true, []), (4, true, []), (5, true, []), (6, false, [0, 1, 2, 3, 4]), (7, false, [0, 1, 2, 3, 4]), (8, false, [0]), (9, true, []), (10, true, []), (11, false, [])] [[], [], [1], [1, 2], [1, 2, 3], [], [5], [5, 6], [1, 2, 3, 4, 5, 6, 7], [0, 1, 2, 3, 4, 5, 6, 7, 8], [0, 1, 2, 3, 4, 5, 6, 7, 8, 9], [0, 1, 2, 3, 4, 5, 6, 7, 8, 9, 10]] MX (by kernel_rfl) ?_
              intro w1 hw1 hw2 hw3 hw4; replace hs := hs.redrawn hw1 hw2 hw3 hw4; clear hw1 hw2 hw3 hw4
              obtain ⟨w, rfl⟩ : ∃ w : World, w = w1 := ⟨_, rfl⟩
              refine D_q rfl rfl ?_
              refine s_move rfl rfl ?_
              refine D_qn ?_
              refine D_q rfl rfl ?_
              refine s_move rfl rfl ?_
              refine D_qn ?_
              refine D_q rfl rfl ?_
              refine s_nilCheck rfl rfl ?_
              refine D_qn ?_
              refine D_q rfl rfl ?_
              refine s_fieldAddr rfl rfl (FA112_1 _ _) ?_
              refine D_qn ?_
              refine D_q rfl rfl ?_
              first
                | refine s_load Try.isAgg29 rfl rfl (hs.cell (k := 0) rfl rfl) ?_
                | refine s_load Try.isAgg29 rfl rfl (hs.cell (k := 1) rfl rfl) ?_
                | refine s_load Try.isAgg29 rfl rfl (hs.cell (k := 2) rfl rfl) ?_
                | refine s_load Try.isAgg29 rfl rfl (hs.cell (k := 3) rfl rfl) ?_
                | refine s_load Try.isAgg29 rfl rfl (hs.cell (k := 4) rfl rfl) ?_
                | refine s_load Try.isAgg29 rfl rfl (hs.cell (k := 5) rfl rfl) ?_
                | refine s_load Try.isAgg29 rfl rfl (hs.cell (k := 6) rfl rfl) ?_
                | refine s_load Try.isAgg29 rfl rfl (hs.cell (k := 7) rfl rfl) ?_
                | refine s_load Try.isAgg29 rfl rfl (hs.cell (k := 8) rfl rfl) ?_
                | refine s_load Try.isAgg29 rfl rfl (hs.cell (k := 9) rfl rfl) ?_
              refine D_qn ?_
              refine D_q rfl rfl ?_
              first
                | refine s_loadW Try.isAgg56 Try.sizeOf56 rfl rfl hs (kk := 0) rfl rfl ?_
                | refine s_loadW Try.isAgg56 Try.sizeOf56 rfl rfl hs (kk := 1) rfl rfl ?_
                | refine s_loadW Try.isAgg56 Try.sizeOf56 rfl rfl hs (kk := 2) rfl rfl ?_
                | refine s_loadW Try.isAgg56 Try.sizeOf56 rfl rfl hs (kk := 3) rfl rfl ?_
                | refine s_loadW Try.isAgg56 Try.sizeOf56 rfl rfl hs (kk := 4) rfl rfl ?_
                | refine s_loadW Try.isAgg56 Try.sizeOf56 rfl rfl hs (kk := 5) rfl rfl ?_
                | refine s_loadW Try.isAgg56 Try.sizeOf56 rfl rfl hs (kk := 6) rfl rfl ?_
                | refine s_loadW Try.isAgg56 Try.sizeOf56 rfl rfl hs (kk := 7) rfl rfl ?_
                | refine s_loadW Try.isAgg56 Try.sizeOf56 rfl rfl hs (kk := 8) rfl rfl ?_
                | refine s_loadW Try.isAgg56 Try.sizeOf56 rfl rfl hs (kk := 9) rfl rfl ?_
                | refine s_load_3 Try.isAgg56 Try.sizeOf56 rfl rfl (by first | exact hs.cell (k := 0) rfl rfl | exact hs.cell (k := 1) rfl rfl | exact hs.cell (k := 2) rfl rfl | exact hs.cell (k := 3) rfl rfl | exact hs.cell (k := 4) rfl rfl | exact hs.cell (k := 5) rfl rfl | exact hs.cell (k := 6) rfl rfl | exact hs.cell (k := 7) rfl rfl | exact hs.cell (k := 8) rfl rfl | exact hs.cell (k := 9) rfl rfl) (by first | exact hs.cell (k := 0) rfl rfl | exact hs.cell (k := 1) rfl rfl | exact hs.cell (k := 2) rfl rfl | exact hs.cell (k := 3) rfl rfl | exact hs.cell (k := 4) rfl rfl | exact hs.cell (k := 5) rfl rfl | exact hs.cell (k := 6) rfl rfl | exact hs.cell (k := 7) rfl rfl | exact hs.cell (k := 8) rfl rfl | exact hs.cell (k := 9) rfl rfl) (by first | exact hs.cell (k := 0) rfl rfl | exact hs.cell (k := 1) rfl rfl | exact hs.cell (k := 2) rfl rfl | exact hs.cell (k := 3) rfl rfl | exact hs.cell (k := 4) rfl rfl | exact hs.cell (k := 5) rfl rfl | exact hs.cell (k := 6) rfl rfl | exact hs.cell (k := 7) rfl rfl | exact hs.cell (k := 8) rfl rfl | exact hs.cell (k := 9) rfl rfl) ?_
              refine D_qn ?_
              refine D_e rfl ?_
              refine s_call Try.call77 rfl rfl (netSep_ok f t (.slice a bs.length c) bs w (hv.fwd hs.fwd hd) (by omega)) ?_
              rintro r w ⟨m, rfl, rfl, rfl, rfl, hst⟩
              replace hs := St.back0 hs hst
              simp only [List.cons_append, List.nil_append] at hs
              clear hst
              refine D_en ?re ?_
              case re =>
                refine Reks_cons rfl rfl rfl rfl ?_ ?_
                · skip
                  refine s_move rfl rfl ?_
                  exact Rek_end rfl
                refine Reks_cons rfl rfl rfl rfl ?_ ?_
                · skip
                  refine s_move rfl rfl ?_
                  exact Rek_end rfl
                refine Reks_cons rfl rfl rfl rfl ?_ ?_
                · skip
                  refine s_nilCheck rfl rfl ?_
                  exact Rek_end rfl
                refine Reks_cons rfl rfl rfl rfl ?_ ?_
                · skip
                  refine s_fieldAddr rfl rfl (FA112_1 _ _) ?_
                  exact Rek_end rfl
                refine Reks_cons rfl rfl rfl rfl ?_ ?_
                · skip
                  first
                    | refine s_load Try.isAgg29 rfl rfl (hs.cell (k := 0) rfl rfl) ?_
                    | refine s_load Try.isAgg29 rfl rfl (hs.cell (k := 1) rfl rfl) ?_
                    | refine s_load Try.isAgg29 rfl rfl (hs.cell (k := 2) rfl rfl) ?_
                    | refine s_load Try.isAgg29 rfl rfl (hs.cell (k := 3) rfl rfl) ?_
                    | refine s_load Try.isAgg29 rfl rfl (hs.cell (k := 4) rfl rfl) ?_
                    | refine s_load Try.isAgg29 rfl rfl (hs.cell (k := 5) rfl rfl) ?_
                    | refine s_load Try.isAgg29 rfl rfl (hs.cell (k := 6) rfl rfl) ?_
                    | refine s_load Try.isAgg29 rfl rfl (hs.cell (k := 7) rfl rfl) ?_
                    | refine s_load Try.isAgg29 rfl rfl (hs.cell (k := 8) rfl rfl) ?_
                    | refine s_load Try.isAgg29 rfl rfl (hs.cell (k := 9) rfl rfl) ?_
                  exact Rek_end rfl
                exact Reks_nil
              refine D_e rfl ?_
              refine s_buildSlice rfl rfl (BS29_1 _ _ _) hs ?_; clear hs; intro b50 w hs
              refine D_en ?re ?_
              case re =>
                refine Reks_cons rfl rfl rfl rfl ?_ ?_
                · skip
                  refine s_move rfl rfl ?_
                  exact Rek_end rfl
                refine Reks_cons rfl rfl rfl rfl ?_ ?_
                · skip
                  refine s_move rfl rfl ?_
                  exact Rek_end rfl
                refine Reks_cons rfl rfl rfl rfl ?_ ?_
                · skip
                  refine s_nilCheck rfl rfl ?_
                  exact Rek_end rfl
                refine Reks_cons rfl rfl rfl rfl ?_ ?_
                · skip
                  refine s_fieldAddr rfl rfl (FA112_1 _ _) ?_
                  exact Rek_end rfl
                refine Reks_cons rfl rfl rfl rfl ?_ ?_
                · skip
                  first
                    | refine s_load Try.isAgg29 rfl rfl (hs.cell (k := 0) rfl rfl) ?_
                    | refine s_load Try.isAgg29 rfl rfl (hs.cell (k := 1) rfl rfl) ?_
                    | refine s_load Try.isAgg29 rfl rfl (hs.cell (k := 2) rfl rfl) ?_
                    | refine s_load Try.isAgg29 rfl rfl (hs.cell (k := 3) rfl rfl) ?_
                    | refine s_load Try.isAgg29 rfl rfl (hs.cell (k := 4) rfl rfl) ?_
                    | refine s_load Try.isAgg29 rfl rfl (hs.cell (k := 5) rfl rfl) ?_
                    | refine s_load Try.isAgg29 rfl rfl (hs.cell (k := 6) rfl rfl) ?_
                    | refine s_load Try.isAgg29 rfl rfl (hs.cell (k := 7) rfl rfl) ?_
                    | refine s_load Try.isAgg29 rfl rfl (hs.cell (k := 8) rfl rfl) ?_
                    | refine s_load Try.isAgg29 rfl rfl (hs.cell (k := 9) rfl rfl) ?_
                  exact Rek_end rfl
                exact Reks_nil
              refine D_e rfl ?_
              refine s_appendM (M := [_, _, _, _, _]) El29 rfl rfl rfl hO hs (hs.sl (k := 0) (ds := m.cells) rfl (Nat.le_refl _) (by intro j u hj; rw [Nat.zero_add]; exact hj)) rfl (cells_one m) (by omega) ?_
              clear hs; intro tv' w Lt' hO' hs
              simp only [List.cons_append, List.nil_append] at hs
              obtain ⟨tl', tc', ta', rfl, rfl⟩ := hO'.form
              refine D_en ?re ?_
              case re =>
                refine Reks_cons rfl rfl rfl rfl ?_ ?_
                · skip
                  refine s_move rfl rfl ?_
                  exact Rek_end rfl
                exact Reks_nil
              refine D_q rfl rfl ?_
              refine s_nilCheck rfl rfl ?_
              refine D_qn ?_
              refine D_q rfl rfl ?_
              refine s_fieldAddr rfl rfl (FA112_1 _ _) ?_
              refine D_qn ?_
              refine D_e rfl ?_
              first
                | refine s_storeB Try.sizeOf29 rfl rfl rfl hs (kk := 0) rfl rfl ?_
                | refine s_storeB Try.sizeOf29 rfl rfl rfl hs (kk := 1) rfl rfl ?_
                | refine s_storeB Try.sizeOf29 rfl rfl rfl hs (kk := 2) rfl rfl ?_
                | refine s_storeB Try.sizeOf29 rfl rfl rfl hs (kk := 3) rfl rfl ?_
                | refine s_storeB Try.sizeOf29 rfl rfl rfl hs (kk := 4) rfl rfl ?_
                | refine s_storeB Try.sizeOf29 rfl rfl rfl hs (kk := 5) rfl rfl ?_
                | refine s_storeB Try.sizeOf29 rfl rfl rfl hs (kk := 6) rfl rfl ?_
                | refine s_storeB Try.sizeOf29 rfl rfl rfl hs (kk := 7) rfl rfl ?_
                | refine s_storeB Try.sizeOf29 rfl rfl rfl hs (kk := 8) rfl rfl ?_
                | refine s_storeB Try.sizeOf29 rfl rfl rfl hs (kk := 9) rfl rfl ?_
              clear hs; intro w hs; try simp only [List.set_cons_zero, List.set_cons_succ, splice, List.take_succ_cons, List.take_zero, List.drop_succ_cons, List.drop_zero, List.nil_append, List.cons_append, List.length_cons, List.length_nil, Nat.reduceAdd, List.append_assoc] at hs
              refine D_en ?re ?_
              case re =>
                exact Reks_nil
              refine D_nil ?_
              refine n_then ?_
              refine W_seq ?_
              refine W_region ?_
              refine s_assign rfl rfl ?_
              refine WL_nil ?_
              refine n_then ?_
              refine W_ret ?_
              refine end1 rfl rfl ?_
              first
                | exact ⟨_, hs.tail, by rw [sendE, if_pos (by omega)], ms, ⟨g, _, Lt, rfl, hO⟩, fun _ => rfl, fun h => by rw [sendE, if_pos (by omega)] at h; omega⟩
                | exact ⟨_, hs.tail, by rw [sendE, if_neg (by omega), if_pos (by omega)], ms, ⟨g, _, Lt, rfl, hO⟩, fun _ => rfl, fun h => by rw [sendE, if_neg (by omega), if_pos (by omega)] at h; omega⟩
                | (have hE : sendE gs ms m.f m.t m.bs = 0 := by rw [sendE, if_neg (by omega), if_neg (by omega)]
                   refine ⟨_, St.reord [[_], [m.blk], [_], [_], [_], Lt', mblks ms] [3, 4, 5, 6, 1] [0, 2] hs rfl, by rw [hE], ms ++ [m], ⟨g, .slice ta' (ms.length + 1) tc', Lt', ?_, ?_⟩, fun h => absurd hE h, fun _ => ⟨m.b, rfl⟩⟩
                   · simp [cat, mblks]
                   · simpa [mcells] using hO')
theorem mcells_at {m : Msg} {j : Nat} (hj : j < 3) : ∀ {ms : List Msg} {k : Nat}, ms[k]? = some m → (mcells ms)[k * 3 + j]? = m.cells[j]?
  | a :: r, 0, h => by
    simp at h; subst h
    have : mcells (a :: r) = a.cells ++ mcells r := rfl
    rw [this, List.getElem?_append_left (by simp [Msg.cells]; omega)]; simp
  | a :: r, k + 1, h => by
    have : mcells (a :: r) = a.cells ++ mcells r := rfl
    rw [this, List.getElem?_append_right (by simp [Msg.cells]; omega)]
    have h2 := mcells_at hj (ms := r) (k := k) (by simpa using h)
    rw [← h2]; congr 1; simp [Msg.cells]; omega
theorem element_ok (v : Value) (ms : List Msg) (i : Int) (w0 : World) (hv : Sl w0 v ms.length (mcells ms)) :
    Ret Try.prog 76 [v, .int .i64 i].toArray w0 fun r w' => Fwd [] w0 w' ∧
      ((∃ m, 0 ≤ i ∧ ms[i.toNat]? = some m ∧ r = .tuple #[.agg m.cells.toArray, .bool true]) ∨
       (¬ (0 ≤ i ∧ i < ms.length) ∧ r = .tuple #[.agg #[.int .i64 0, .int .i64 0, .slice none 0 0], .bool false])) := by
  obtain ⟨a, c, rfl, hc⟩ := hv.len_le
  refine Ret_start fun w hs => ?_
  refine Ret_of Try.func76 rfl Try.ntmps76 rfl ?_
  refine W_seq ?_
  refine W_region ?_
  refine s_alloc rfl AL56 hs ?_; clear hs; intro b4 w hs
  refine s_assign rfl rfl ?_
  refine WL_nil ?_
  refine n_then ?_
  refine W_seq ?_
  refine W_seq ?_
  refine W_region ?_
  refine s_move rfl rfl ?_
  refine s_lss rfl rfl rfl ?_
  refine s_move rfl rfl ?_
  refine WL_case (s := 9) rfl (fun hg9 => ?_) (fun hg9 => ?_)
  · skip
    simp only [decide_eq_true_eq, decide_eq_false_iff_not] at hg9
    refine WL_skip rfl rfl rfl ?_
    refine WL_skip rfl rfl rfl ?_
    refine WL_skip rfl rfl rfl ?_
    refine WL_skip rfl rfl rfl ?_
    refine s_pick_t rfl rfl rfl ?_
    refine WL_nil ?_
    refine n_then ?_
    refine W_cond_t rfl ?_
    refine W_seq ?_
    refine W_region ?_
    refine s_alloc rfl AL56 hs ?_; clear hs; intro b6 w hs
    refine WL_nil ?_
    refine n_then ?_
    refine W_seq ?_
    refine W_region ?_
    first
      | refine s_loadW Try.isAgg56 Try.sizeOf56 rfl rfl hs (kk := 0) rfl rfl ?_
      | refine s_loadW Try.isAgg56 Try.sizeOf56 rfl rfl hs (kk := 1) rfl rfl ?_
      | refine s_loadW Try.isAgg56 Try.sizeOf56 rfl rfl hs (kk := 2) rfl rfl ?_
      | refine s_loadW Try.isAgg56 Try.sizeOf56 rfl rfl hs (kk := 3) rfl rfl ?_
      | refine s_loadW Try.isAgg56 Try.sizeOf56 rfl rfl hs (kk := 4) rfl rfl ?_
      | refine s_loadW Try.isAgg56 Try.sizeOf56 rfl rfl hs (kk := 5) rfl rfl ?_
      | refine s_loadW Try.isAgg56 Try.sizeOf56 rfl rfl hs (kk := 6) rfl rfl ?_
      | refine s_loadW Try.isAgg56 Try.sizeOf56 rfl rfl hs (kk := 7) rfl rfl ?_
      | refine s_loadW Try.isAgg56 Try.sizeOf56 rfl rfl hs (kk := 8) rfl rfl ?_
      | refine s_loadW Try.isAgg56 Try.sizeOf56 rfl rfl hs (kk := 9) rfl rfl ?_
      | refine s_load_3 Try.isAgg56 Try.sizeOf56 rfl rfl (by first | exact hs.cell (k := 0) rfl rfl | exact hs.cell (k := 1) rfl rfl | exact hs.cell (k := 2) rfl rfl | exact hs.cell (k := 3) rfl rfl | exact hs.cell (k := 4) rfl rfl | exact hs.cell (k := 5) rfl rfl | exact hs.cell (k := 6) rfl rfl | exact hs.cell (k := 7) rfl rfl | exact hs.cell (k := 8) rfl rfl | exact hs.cell (k := 9) rfl rfl) (by first | exact hs.cell (k := 0) rfl rfl | exact hs.cell (k := 1) rfl rfl | exact hs.cell (k := 2) rfl rfl | exact hs.cell (k := 3) rfl rfl | exact hs.cell (k := 4) rfl rfl | exact hs.cell (k := 5) rfl rfl | exact hs.cell (k := 6) rfl rfl | exact hs.cell (k := 7) rfl rfl | exact hs.cell (k := 8) rfl rfl | exact hs.cell (k := 9) rfl rfl) (by first | exact hs.cell (k := 0) rfl rfl | exact hs.cell (k := 1) rfl rfl | exact hs.cell (k := 2) rfl rfl | exact hs.cell (k := 3) rfl rfl | exact hs.cell (k := 4) rfl rfl | exact hs.cell (k := 5) rfl rfl | exact hs.cell (k := 6) rfl rfl | exact hs.cell (k := 7) rfl rfl | exact hs.cell (k := 8) rfl rfl | exact hs.cell (k := 9) rfl rfl) ?_
    first
      | refine s_storeW Try.sizeOf56 rfl rfl rfl rfl hs (kk := 0) rfl rfl ?_
      | refine s_storeW Try.sizeOf56 rfl rfl rfl rfl hs (kk := 1) rfl rfl ?_
      | refine s_storeW Try.sizeOf56 rfl rfl rfl rfl hs (kk := 2) rfl rfl ?_
      | refine s_storeW Try.sizeOf56 rfl rfl rfl rfl hs (kk := 3) rfl rfl ?_
      | refine s_storeW Try.sizeOf56 rfl rfl rfl rfl hs (kk := 4) rfl rfl ?_
      | refine s_storeW Try.sizeOf56 rfl rfl rfl rfl hs (kk := 5) rfl rfl ?_
      | refine s_storeW Try.sizeOf56 rfl rfl rfl rfl hs (kk := 6) rfl rfl ?_
      | refine s_storeW Try.sizeOf56 rfl rfl rfl rfl hs (kk := 7) rfl rfl ?_
      | refine s_storeW Try.sizeOf56 rfl rfl rfl rfl hs (kk := 8) rfl rfl ?_
      | refine s_storeW Try.sizeOf56 rfl rfl rfl rfl hs (kk := 9) rfl rfl ?_
      | refine s_storeAB Try.sizeOf56 rfl rfl rfl rfl hs (kk := 0) rfl rfl ?_
      | refine s_storeAB Try.sizeOf56 rfl rfl rfl rfl hs (kk := 1) rfl rfl ?_
      | refine s_storeAB Try.sizeOf56 rfl rfl rfl rfl hs (kk := 2) rfl rfl ?_
      | refine s_storeAB Try.sizeOf56 rfl rfl rfl rfl hs (kk := 3) rfl rfl ?_
      | refine s_storeAB Try.sizeOf56 rfl rfl rfl rfl hs (kk := 4) rfl rfl ?_
      | refine s_storeAB Try.sizeOf56 rfl rfl rfl rfl hs (kk := 5) rfl rfl ?_
      | refine s_storeAB Try.sizeOf56 rfl rfl rfl rfl hs (kk := 6) rfl rfl ?_
      | refine s_storeAB Try.sizeOf56 rfl rfl rfl rfl hs (kk := 7) rfl rfl ?_
      | refine s_storeAB Try.sizeOf56 rfl rfl rfl rfl hs (kk := 8) rfl rfl ?_
      | refine s_storeAB Try.sizeOf56 rfl rfl rfl rfl hs (kk := 9) rfl rfl ?_
    clear hs; intro w hs; try simp only [List.set_cons_zero, List.set_cons_succ, splice, List.take_succ_cons, List.take_zero, List.drop_succ_cons, List.drop_zero, List.nil_append, List.cons_append, List.length_cons, List.length_nil, Nat.reduceAdd, List.append_assoc] at hs
    refine s_assign rfl rfl ?_
    refine WL_nil ?_
    refine n_then ?_
    refine W_ret ?_
    refine r_then ?_
    first
      | (refine end2 rfl (resOk_block Try.isAgg56 Try.sizeOf56 hs rfl (kk := 1) rfl rfl) rfl ?_
         exact ⟨hs.fwd, Or.inr ⟨by omega, rfl⟩⟩)
      | (refine end2 rfl (resOk_block Try.isAgg56 Try.sizeOf56 hs rfl (kk := 0) rfl rfl) rfl ?_
         exact ⟨hs.fwd, Or.inl ⟨_, by omega, hm, rfl⟩⟩)
  · skip
    simp only [decide_eq_true_eq, decide_eq_false_iff_not] at hg9
    refine WL_take rfl ?_
    refine s_move rfl rfl ?_
    refine WL_take rfl ?_
    refine s_move rfl rfl ?_
    refine WL_take rfl ?_
    refine s_len rfl rfl (LN29 _ _ _ _) ?_
    refine WL_take rfl ?_
    refine s_geq rfl rfl rfl ?_
    refine s_pick_f rfl rfl rfl ?_
    refine WL_nil ?_
    refine n_then ?_
    refine W_cond rfl (fun hc14 => ?_) (fun hc14 => ?_)
    · skip
      simp only [decide_eq_true_eq, decide_eq_false_iff_not] at hc14
      refine W_seq ?_
      refine W_region ?_
      refine s_alloc rfl AL56 hs ?_; clear hs; intro b6 w hs
      refine WL_nil ?_
      refine n_then ?_
      refine W_seq ?_
      refine W_region ?_
      first
        | refine s_loadW Try.isAgg56 Try.sizeOf56 rfl rfl hs (kk := 0) rfl rfl ?_
        | refine s_loadW Try.isAgg56 Try.sizeOf56 rfl rfl hs (kk := 1) rfl rfl ?_
        | refine s_loadW Try.isAgg56 Try.sizeOf56 rfl rfl hs (kk := 2) rfl rfl ?_
        | refine s_loadW Try.isAgg56 Try.sizeOf56 rfl rfl hs (kk := 3) rfl rfl ?_
        | refine s_loadW Try.isAgg56 Try.sizeOf56 rfl rfl hs (kk := 4) rfl rfl ?_
        | refine s_loadW Try.isAgg56 Try.sizeOf56 rfl rfl hs (kk := 5) rfl rfl ?_
        | refine s_loadW Try.isAgg56 Try.sizeOf56 rfl rfl hs (kk := 6) rfl rfl ?_
        | refine s_loadW Try.isAgg56 Try.sizeOf56 rfl rfl hs (kk := 7) rfl rfl ?_
        | refine s_loadW Try.isAgg56 Try.sizeOf56 rfl rfl hs (kk := 8) rfl rfl ?_
        | refine s_loadW Try.isAgg56 Try.sizeOf56 rfl rfl hs (kk := 9) rfl rfl ?_
        | refine s_load_3 Try.isAgg56 Try.sizeOf56 rfl rfl (by first | exact hs.cell (k := 0) rfl rfl | exact hs.cell (k := 1) rfl rfl | exact hs.cell (k := 2) rfl rfl | exact hs.cell (k := 3) rfl rfl | exact hs.cell (k := 4) rfl rfl | exact hs.cell (k := 5) rfl rfl | exact hs.cell (k := 6) rfl rfl | exact hs.cell (k := 7) rfl rfl | exact hs.cell (k := 8) rfl rfl | exact hs.cell (k := 9) rfl rfl) (by first | exact hs.cell (k := 0) rfl rfl | exact hs.cell (k := 1) rfl rfl | exact hs.cell (k := 2) rfl rfl | exact hs.cell (k := 3) rfl rfl | exact hs.cell (k := 4) rfl rfl | exact hs.cell (k := 5) rfl rfl | exact hs.cell (k := 6) rfl rfl | exact hs.cell (k := 7) rfl rfl | exact hs.cell (k := 8) rfl rfl | exact hs.cell (k := 9) rfl rfl) (by first | exact hs.cell (k := 0) rfl rfl | exact hs.cell (k := 1) rfl rfl | exact hs.cell (k := 2) rfl rfl | exact hs.cell (k := 3) rfl rfl | exact hs.cell (k := 4) rfl rfl | exact hs.cell (k := 5) rfl rfl | exact hs.cell (k := 6) rfl rfl | exact hs.cell (k := 7) rfl rfl | exact hs.cell (k := 8) rfl rfl | exact hs.cell (k := 9) rfl rfl) ?_
      first
        | refine s_storeW Try.sizeOf56 rfl rfl rfl rfl hs (kk := 0) rfl rfl ?_
        | refine s_storeW Try.sizeOf56 rfl rfl rfl rfl hs (kk := 1) rfl rfl ?_
        | refine s_storeW Try.sizeOf56 rfl rfl rfl rfl hs (kk := 2) rfl rfl ?_
        | refine s_storeW Try.sizeOf56 rfl rfl rfl rfl hs (kk := 3) rfl rfl ?_
        | refine s_storeW Try.sizeOf56 rfl rfl rfl rfl hs (kk := 4) rfl rfl ?_
        | refine s_storeW Try.sizeOf56 rfl rfl rfl rfl hs (kk := 5) rfl rfl ?_
        | refine s_storeW Try.sizeOf56 rfl rfl rfl rfl hs (kk := 6) rfl rfl ?_
        | refine s_storeW Try.sizeOf56 rfl rfl rfl rfl hs (kk := 7) rfl rfl ?_
        | refine s_storeW Try.sizeOf56 rfl rfl rfl rfl hs (kk := 8) rfl rfl ?_
        | refine s_storeW Try.sizeOf56 rfl rfl rfl rfl hs (kk := 9) rfl rfl ?_
        | refine s_storeAB Try.sizeOf56 rfl rfl rfl rfl hs (kk := 0) rfl rfl ?_
        | refine s_storeAB Try.sizeOf56 rfl rfl rfl rfl hs (kk := 1) rfl rfl ?_
        | refine s_storeAB Try.sizeOf56 rfl rfl rfl rfl hs (kk := 2) rfl rfl ?_
        | refine s_storeAB Try.sizeOf56 rfl rfl rfl rfl hs (kk := 3) rfl rfl ?_
        | refine s_storeAB Try.sizeOf56 rfl rfl rfl rfl hs (kk := 4) rfl rfl ?_
        | refine s_storeAB Try.sizeOf56 rfl rfl rfl rfl hs (kk := 5) rfl rfl ?_
        | refine s_storeAB Try.sizeOf56 rfl rfl rfl rfl hs (kk := 6) rfl rfl ?_
        | refine s_storeAB Try.sizeOf56 rfl rfl rfl rfl hs (kk := 7) rfl rfl ?_
        | refine s_storeAB Try.sizeOf56 rfl rfl rfl rfl hs (kk := 8) rfl rfl ?_
        | refine s_storeAB Try.sizeOf56 rfl rfl rfl rfl hs (kk := 9) rfl rfl ?_
      clear hs; intro w hs; try simp only [List.set_cons_zero, List.set_cons_succ, splice, List.take_succ_cons, List.take_zero, List.drop_succ_cons, List.drop_zero, List.nil_append, List.cons_append, List.length_cons, List.length_nil, Nat.reduceAdd, List.append_assoc] at hs
      refine s_assign rfl rfl ?_
      refine WL_nil ?_
      refine n_then ?_
      refine W_ret ?_
      refine r_then ?_
      first
        | (refine end2 rfl (resOk_block Try.isAgg56 Try.sizeOf56 hs rfl (kk := 1) rfl rfl) rfl ?_
           exact ⟨hs.fwd, Or.inr ⟨by omega, rfl⟩⟩)
        | (refine end2 rfl (resOk_block Try.isAgg56 Try.sizeOf56 hs rfl (kk := 0) rfl rfl) rfl ?_
           exact ⟨hs.fwd, Or.inl ⟨_, by omega, hm, rfl⟩⟩)
    · skip
      simp only [decide_eq_true_eq, decide_eq_false_iff_not] at hc14
      have hil : i.toNat < ms.length := by omega
      have hm : ms[i.toNat]? = some ms[i.toNat] := by simp [hil]
      obtain ⟨b1, o1, hA1, hc0⟩ := hv.at (k := i.toNat * 3 + 0) (mcells_at (by omega) hm)
      obtain ⟨b2, o2, hA2, hc1⟩ := hv.at (k := i.toNat * 3 + 1) (mcells_at (by omega) hm)
      obtain ⟨b3, o3, hA3, hc2⟩ := hv.at (k := i.toNat * 3 + 2) (mcells_at (by omega) hm)
      have e1 := hA1.symm.trans hA2
      have e2 := hA1.symm.trans hA3
      simp only [Option.some.injEq, Addr.mk.injEq, and_true] at e1 e2
      obtain ⟨rfl, rfl⟩ := e1
      obtain ⟨rfl, rfl⟩ := e2
      have hB : b1 < w0.heap.size := World.block_lt_of_cell? w0 _ hc0
      refine W_skip ?_
      refine n_then ?_
      refine W_seq ?_
      refine W_region ?_
      refine s_move rfl rfl ?_
      refine s_move rfl rfl ?_
      (refine s_indexAddrP El29 rfl rfl rfl hA1 ?hx ?_; case hx => (constructor <;> omega))
      refine s_load_3 Try.isAgg56 Try.sizeOf56 rfl rfl ((hs.oldcell hB (by simp)).trans hc0) ((hs.oldcell hB (by simp)).trans hc1) ((hs.oldcell hB (by simp)).trans hc2) ?_
      first
        | refine s_storeW Try.sizeOf56 rfl rfl rfl rfl hs (kk := 0) rfl rfl ?_
        | refine s_storeW Try.sizeOf56 rfl rfl rfl rfl hs (kk := 1) rfl rfl ?_
        | refine s_storeW Try.sizeOf56 rfl rfl rfl rfl hs (kk := 2) rfl rfl ?_
        | refine s_storeW Try.sizeOf56 rfl rfl rfl rfl hs (kk := 3) rfl rfl ?_
        | refine s_storeW Try.sizeOf56 rfl rfl rfl rfl hs (kk := 4) rfl rfl ?_
        | refine s_storeW Try.sizeOf56 rfl rfl rfl rfl hs (kk := 5) rfl rfl ?_
        | refine s_storeW Try.sizeOf56 rfl rfl rfl rfl hs (kk := 6) rfl rfl ?_
        | refine s_storeW Try.sizeOf56 rfl rfl rfl rfl hs (kk := 7) rfl rfl ?_
        | refine s_storeW Try.sizeOf56 rfl rfl rfl rfl hs (kk := 8) rfl rfl ?_
        | refine s_storeW Try.sizeOf56 rfl rfl rfl rfl hs (kk := 9) rfl rfl ?_
        | refine s_storeAB Try.sizeOf56 rfl rfl rfl rfl hs (kk := 0) rfl rfl ?_
        | refine s_storeAB Try.sizeOf56 rfl rfl rfl rfl hs (kk := 1) rfl rfl ?_
        | refine s_storeAB Try.sizeOf56 rfl rfl rfl rfl hs (kk := 2) rfl rfl ?_
        | refine s_storeAB Try.sizeOf56 rfl rfl rfl rfl hs (kk := 3) rfl rfl ?_
        | refine s_storeAB Try.sizeOf56 rfl rfl rfl rfl hs (kk := 4) rfl rfl ?_
        | refine s_storeAB Try.sizeOf56 rfl rfl rfl rfl hs (kk := 5) rfl rfl ?_
        | refine s_storeAB Try.sizeOf56 rfl rfl rfl rfl hs (kk := 6) rfl rfl ?_
        | refine s_storeAB Try.sizeOf56 rfl rfl rfl rfl hs (kk := 7) rfl rfl ?_
        | refine s_storeAB Try.sizeOf56 rfl rfl rfl rfl hs (kk := 8) rfl rfl ?_
        | refine s_storeAB Try.sizeOf56 rfl rfl rfl rfl hs (kk := 9) rfl rfl ?_
      clear hs; intro w hs; try simp only [List.set_cons_zero, List.set_cons_succ, splice, List.take_succ_cons, List.take_zero, List.drop_succ_cons, List.drop_zero, List.nil_append, List.cons_append, List.length_cons, List.length_nil, Nat.reduceAdd, List.append_assoc] at hs
      refine s_assign rfl rfl ?_
      refine WL_nil ?_
      refine n_then ?_
      refine W_ret ?_
      first
        | (refine end2 rfl (resOk_block Try.isAgg56 Try.sizeOf56 hs rfl (kk := 1) rfl rfl) rfl ?_
           exact ⟨hs.fwd, Or.inr ⟨by omega, rfl⟩⟩)
        | (refine end2 rfl (resOk_block Try.isAgg56 Try.sizeOf56 hs rfl (kk := 0) rfl rfl) rfl ?_
           exact ⟨hs.fwd, Or.inl ⟨_, by omega, hm, rfl⟩⟩)
end Go.Proofs.Ytkobigdfijeajaa

/- Contracts of package net, further. -/
namespace Go.Proofs.Ytkobigdfijeajaa
open Go.SL
/-- slices.Delete of one element -/
theorem delete_ok (v : Value) (n : Nat) (cs : List Value) (Lv : Hp) (i : Int) (w0 : World) (hO : OwnS 56 3 v n cs Lv) (hs : St (ids Lv) w0 w0 Lv) (h1 : ∀ c ∈ cs, c.oneCell' = true) (hi : 0 ≤ i ∧ i < n) (hn : n ≤ 4294967296) :
    Ret Try.prog 78 [v, .int .i64 i, .int .i64 (i + 1)].toArray w0 fun r w' => ∃ L', St (ids Lv) w0 w' L' ∧
      OwnS 56 3 r (n - 1) (cs.take (i.toNat * 3) ++ cs.drop ((i.toNat + 1) * 3)) L' := by
  obtain ⟨hlen, hO⟩ := hO
  rcases hO with ⟨⟨_, rfl⟩, rfl, rfl⟩ | ⟨g, cap, sp, rfl, hcap, hmx, hl, hL⟩
  · exfalso; omega
  obtain ⟨k, rfl⟩ : ∃ k : Nat, i = k := ⟨i.toNat, by omega⟩
  have hkn : k < n := by omega
  replace hs : St (ids Lv) w0 w0 [(g, Blk 56 (cs ++ sp))] := by rw [hL] at hs ⊢; exact hs
  have hcap2 : (cs ++ sp).length = cap * 3 := hl
  have hlen2 : cs.length + sp.length = cap * 3 := by simpa using hl
  refine Ret_startL hs fun w hs => ?_
  refine Ret_of Try.func78 rfl Try.ntmps78 rfl ?_
  refine W_seq ?_
  refine W_region ?_
  refine s_assign rfl rfl ?_
  refine WL_nil ?_
  refine n_then ?_
  refine W_seq ?_
  refine W_region ?_
  refine s_move rfl rfl ?_
  refine s_move rfl rfl ?_
  refine s_move rfl rfl ?_
  refine s_move rfl rfl ?_
  refine s_len rfl rfl (LN29 _ _ _ _) ?_
  (refine s_slice_lhm El29 rfl rfl rfl rfl rfl ?hx ?_; case hx => (refine ⟨?_, ?_, ?_, ?_⟩ <;> omega))
  intro vdummy
  refine WL_nil ?_
  refine n_then ?_
  refine W_seq ?_
  refine W_seq ?_
  refine W_region ?_
  refine s_move rfl rfl ?_
  refine s_move rfl rfl ?_
  refine s_eql rfl rfl rfl ?_
  refine WL_nil ?_
  refine n_then ?_
  refine W_cond_kf rfl (by simp; omega) ?_
  refine W_skip ?_
  refine n_then ?_
  refine W_seq ?_
  refine W_region ?_
  refine s_move rfl rfl ?_
  refine s_len rfl rfl (LN29 _ _ _ _) ?_
  refine s_assign rfl rfl ?_
  refine WL_nil ?_
  refine n_then ?_
  refine W_seq ?_
  refine W_draw [(0, true, []), (1, true, []), (2, true, []), (3, true, []), (4, true, []), (5, true, []), (6, false, []), (7, true, [])] [[], [], [0, 1], [], [], [3, 4], [0, 1, 2, 3, 4, 5], [0, 1, 2, 3, 4, 5, 6]] MX (by kernel_rfl) ?_
  intro w1 hw1 hw2 hw3 hw4; replace hs := hs.redrawn hw1 hw2 hw3 hw4; clear hw1 hw2 hw3 hw4
  obtain ⟨w, rfl⟩ : ∃ w : World, w = w1 := ⟨_, rfl⟩
  refine D_q rfl rfl ?_
  refine s_move rfl rfl ?_
  refine D_qn ?_
  refine D_q rfl rfl ?_
  refine s_move rfl rfl ?_
  refine D_qn ?_
  refine D_q rfl rfl ?_
  (refine s_slice_hi El29 rfl rfl rfl ?hx ?_; case hx => (constructor <;> omega))
  refine D_qn ?_
  refine D_q rfl rfl ?_
  refine s_move rfl rfl ?_
  refine D_qn ?_
  refine D_q rfl rfl ?_
  refine s_move rfl rfl ?_
  refine D_qn ?_
  refine D_q rfl rfl ?_
  (refine s_slice_lo El29 rfl rfl rfl ?hx ?_; case hx => (constructor <;> omega))
  refine D_qn ?_
  refine D_e rfl ?_
  have hsl : Sl w (.slice (some ⟨g, if cap = ((k : Int) + 1).toNat then 0 else 0 + ((k : Int) + 1).toNat * 3, none⟩) (n - ((k : Int) + 1).toNat) (cap - ((k : Int) + 1).toNat)) (n - ((k : Int) + 1).toNat) (cs.drop ((k + 1) * 3)) := by
    have ek : ((k : Int) + 1).toNat = k + 1 := by omega
    rw [ek]
    by_cases hck : cap = k + 1
    · have : cs.drop ((k + 1) * 3) = [] := List.drop_eq_nil_of_le (by omega)
      rw [this]
      exact ⟨_, _, rfl, by omega, .inl rfl⟩
    · rw [if_neg hck]
      refine hs.sl (k := 0) rfl (by omega) (fun j u hj => ?_)
      have hj2 : j < (cs.drop ((k + 1) * 3)).length := (List.getElem?_eq_some_iff.1 hj).1
      rw [List.getElem?_drop] at hj
      rw [List.getElem?_append_left (by simp at hj2; omega), ← hj]; congr 1; omega
  have ek : ((k : Int) + 1).toNat = k + 1 := by omega
  have ek2 : (k : Int).toNat = k := by omega
  refine s_append_in El29 rfl rfl rfl hs (kk := 0) rfl hsl (by simp; omega) (fun c hc => h1 c (List.mem_of_mem_drop hc)) (by omega) (by simp; omega) ?_
  clear hs hsl; intro w hs
  obtain ⟨A, hA⟩ : ∃ A, A = cs.take (k * 3) ++ cs.drop ((k + 1) * 3) := ⟨_, rfl⟩
  have hAl : A.length = (n - 1) * 3 := by rw [hA]; simp; omega
  obtain ⟨R1, hR, hRl⟩ : ∃ R1, List.take ((k : Int).toNat * 3) (cs ++ sp) ++ List.drop ((k + 1) * 3) cs ++ List.drop ((k : Int).toNat * 3 + (List.drop ((k + 1) * 3) cs).length) (cs ++ sp) = A ++ R1 ∧ R1.length = cap * 3 - (n - 1) * 3 := by
    refine ⟨_, by rw [hA, ek2, List.take_append_of_le_length (by omega)], ?_⟩
    simp; omega
  rw [hR] at hs
  simp only [List.set_cons_zero] at hs
  have en : (k : Int).toNat + (n - ((k : Int) + 1).toNat) = n - 1 := by omega
  rw [en]
  refine D_en ?re ?_
  case re =>
    exact Reks_nil
  refine D_q rfl rfl ?_
  refine s_assign rfl rfl ?_
  refine D_qn ?_
  refine D_nil ?_
  refine n_then ?_
  refine W_seq ?_
  refine W_region ?_
  refine s_move rfl rfl ?_
  refine s_move rfl rfl ?_
  refine s_len rfl rfl (LN29 _ _ _ _) ?_
  refine s_move rfl rfl ?_
  (refine s_slice_lh El29 rfl rfl rfl rfl ?hx ?_; case hx => (refine ⟨?_, ?_, ?_⟩ <;> omega))
  have e1 : ((n - 1 : Nat) : Int).toNat = n - 1 := by omega
  have e2 : (n : Int).toNat - ((n - 1 : Nat) : Int).toNat = 1 := by omega
  rw [e2, e1, if_neg (by omega), Nat.zero_add]
  refine s_clear El29 rfl hs (kk := 0) rfl (by simp [Value.oneCell']) (by simp; omega) ?_
  clear hs; intro w hs
  have hsp : splice (A ++ R1) ((n - 1) * 3) (made [.int .i64 0, .int .i64 0, .slice none 0 0] 1) = A ++ ([.int .i64 0, .int .i64 0, .slice none 0 0] ++ R1.drop 3) := by
    simp only [splice, made, List.append_nil]
    rw [← hAl, List.take_left, List.drop_append, List.append_assoc]
    congr 2
    simp [List.drop_eq_nil_of_le]
  rw [hsp] at hs
  simp only [List.set_cons_zero] at hs
  refine WL_nil ?_
  refine n_then ?_
  refine W_seq ?_
  refine W_region ?_
  refine s_move rfl rfl ?_
  refine s_assign rfl rfl ?_
  refine WL_nil ?_
  refine n_then ?_
  refine W_ret ?_
  refine end1 rfl rfl ⟨_, hs, ?_⟩
  rw [ek2, ← hA]
  refine ⟨hAl, Or.inr ⟨g, cap, _, rfl, by omega, hmx, ?_, rfl⟩⟩
  simp; omega
theorem mcells_one (ms : List Msg) : ∀ c ∈ mcells ms, c.oneCell' = true := by
  intro c hc
  obtain ⟨m, _, h⟩ := List.mem_flatMap.1 hc
  exact cells_one m c h
theorem mcells_take (ms : List Msg) (k : Nat) : mcells (ms.take k) = (mcells ms).take (k * 3) := by
  induction ms generalizing k with
  | nil => simp [mcells]
  | cons m r ih =>
    cases k with
    | zero => simp [mcells]
    | succ k =>
      have e : mcells (m :: r) = m.cells ++ mcells r := rfl
      have e2 : mcells ((m :: r).take (k + 1)) = m.cells ++ mcells (r.take k) := rfl
      have h3 : m.cells.length = 3 := rfl
      rw [e, e2, ih, List.take_append, List.take_of_length_le (l := m.cells) (by omega), h3]
      congr 2; omega
theorem mcells_drop (ms : List Msg) (k : Nat) : mcells (ms.drop k) = (mcells ms).drop (k * 3) := by
  induction ms generalizing k with
  | nil => simp [mcells]
  | cons m r ih =>
    cases k with
    | zero => simp
    | succ k =>
      have e : mcells (m :: r) = m.cells ++ mcells r := rfl
      have h3 : m.cells.length = 3 := rfl
      have h4 : List.drop ((k + 1) * 3) m.cells = [] := List.drop_eq_nil_of_le (by omega)
      rw [List.drop_succ_cons, ih, e, List.drop_append, h4, List.nil_append, h3]
      congr 1; omega
theorem mcells_erase (ms : List Msg) (k : Nat) : mcells (ms.eraseIdx k) = (mcells ms).take (k * 3) ++ (mcells ms).drop ((k + 1) * 3) := by
  rw [List.eraseIdx_eq_take_drop_succ, mcells_append, mcells_take, mcells_drop]
theorem mblks_split {ms : List Msg} {k : Nat} {m : Msg} (h : ms[k]? = some m) : mblks ms = mblks (ms.take k) ++ (m.blk :: mblks (ms.drop (k + 1))) := by
  obtain ⟨hk, rfl⟩ := List.getElem?_eq_some_iff.1 h
  have : ms = ms.take k ++ ms[k] :: ms.drop (k + 1) := by
    rw [← List.drop_eq_getElem_cons hk, List.take_append_drop]
  rw (occs := .pos [1]) [this, mblks_append]; rfl
theorem mblks_erase (ms : List Msg) (k : Nat) : mblks (ms.eraseIdx k) = mblks (ms.take k) ++ mblks (ms.drop (k + 1)) := by
  rw [List.eraseIdx_eq_take_drop_succ, mblks_append]

/-! ### Copy -/
theorem copy_no (p : Nat) (gs : List Int) (ms : List Msg) (i : Int) (L0 : Hp) (w0 : World) (hN : NetAt p gs ms L0) (hs : St (ids L0) w0 w0 L0) (hin : ¬ (0 ≤ i ∧ i < ms.length)) :
    Ret Try.prog 58 [.pointer (some ⟨p, 0, none⟩), .int .i64 i].toArray w0 fun r w' => ∃ L', St (ids L0) w0 w' L' ∧ r = .int .i64 9 ∧ NetAt p gs ms L' := by
  obtain ⟨g, tv, Lt, hL, hO⟩ := hN
  obtain ⟨tl, tc, ta, rfl, rfl⟩ := hO.form
  replace hs : St (ids L0) w0 w0 ((p, Blk 112 [.slice (some ⟨g, 0, none⟩) gs.length gs.length, .slice ta ms.length tc]) :: (g, Blk 3 (i64s gs)) :: (Lt ++ mblks ms)) := by rw [hL] at hs ⊢; exact hs
  refine Ret_startL hs fun w hs => ?_
  refine Ret_of Try.func58 rfl Try.ntmps58 rfl ?_
  refine W_seq ?_
  refine W_region ?_
  refine s_assign rfl rfl ?_
  refine WL_nil ?_
  refine n_then ?_
  refine W_seq ?_
  refine W_region ?_
  refine s_move rfl rfl ?_
  refine s_nilCheck rfl rfl ?_
  refine s_fieldAddr rfl rfl (FA112_1 _ _) ?_
  first
    | refine s_load Try.isAgg29 rfl rfl (hs.cell (k := 0) rfl rfl) ?_
    | refine s_load Try.isAgg29 rfl rfl (hs.cell (k := 1) rfl rfl) ?_
    | refine s_load Try.isAgg29 rfl rfl (hs.cell (k := 2) rfl rfl) ?_
    | refine s_load Try.isAgg29 rfl rfl (hs.cell (k := 3) rfl rfl) ?_
    | refine s_load Try.isAgg29 rfl rfl (hs.cell (k := 4) rfl rfl) ?_
    | refine s_load Try.isAgg29 rfl rfl (hs.cell (k := 5) rfl rfl) ?_
    | refine s_load Try.isAgg29 rfl rfl (hs.cell (k := 6) rfl rfl) ?_
    | refine s_load Try.isAgg29 rfl rfl (hs.cell (k := 7) rfl rfl) ?_
    | refine s_load Try.isAgg29 rfl rfl (hs.cell (k := 8) rfl rfl) ?_
    | refine s_load Try.isAgg29 rfl rfl (hs.cell (k := 9) rfl rfl) ?_
  refine s_move rfl rfl ?_
  refine s_call Try.call76 rfl rfl (element_ok _ ms i w (hO.slM (M := [_, _]) hs)) ?_
  rintro r w ⟨hst, h⟩
  obtain ⟨m, h1, hm, rfl⟩ | ⟨_, rfl⟩ := h
  case inl => exact absurd ⟨h1, (by have := (List.getElem?_eq_some_iff.1 hm).1; omega)⟩ hin
  replace hs := hs.fwd1 hst
  clear hst
  refine s_move rfl rfl ?_
  refine s_extract rfl rfl rfl ?_
  refine s_extract rfl rfl rfl ?_
  refine s_alloc rfl AL56 hs ?_; clear hs; intro b5 w hs
  first
    | refine s_storeW Try.sizeOf56 rfl rfl rfl rfl hs (kk := 0) rfl rfl ?_
    | refine s_storeW Try.sizeOf56 rfl rfl rfl rfl hs (kk := 1) rfl rfl ?_
    | refine s_storeW Try.sizeOf56 rfl rfl rfl rfl hs (kk := 2) rfl rfl ?_
    | refine s_storeW Try.sizeOf56 rfl rfl rfl rfl hs (kk := 3) rfl rfl ?_
    | refine s_storeW Try.sizeOf56 rfl rfl rfl rfl hs (kk := 4) rfl rfl ?_
    | refine s_storeW Try.sizeOf56 rfl rfl rfl rfl hs (kk := 5) rfl rfl ?_
    | refine s_storeW Try.sizeOf56 rfl rfl rfl rfl hs (kk := 6) rfl rfl ?_
    | refine s_storeW Try.sizeOf56 rfl rfl rfl rfl hs (kk := 7) rfl rfl ?_
    | refine s_storeW Try.sizeOf56 rfl rfl rfl rfl hs (kk := 8) rfl rfl ?_
    | refine s_storeW Try.sizeOf56 rfl rfl rfl rfl hs (kk := 9) rfl rfl ?_
    | refine s_storeAB Try.sizeOf56 rfl rfl rfl rfl hs (kk := 0) rfl rfl ?_
    | refine s_storeAB Try.sizeOf56 rfl rfl rfl rfl hs (kk := 1) rfl rfl ?_
    | refine s_storeAB Try.sizeOf56 rfl rfl rfl rfl hs (kk := 2) rfl rfl ?_
    | refine s_storeAB Try.sizeOf56 rfl rfl rfl rfl hs (kk := 3) rfl rfl ?_
    | refine s_storeAB Try.sizeOf56 rfl rfl rfl rfl hs (kk := 4) rfl rfl ?_
    | refine s_storeAB Try.sizeOf56 rfl rfl rfl rfl hs (kk := 5) rfl rfl ?_
    | refine s_storeAB Try.sizeOf56 rfl rfl rfl rfl hs (kk := 6) rfl rfl ?_
    | refine s_storeAB Try.sizeOf56 rfl rfl rfl rfl hs (kk := 7) rfl rfl ?_
    | refine s_storeAB Try.sizeOf56 rfl rfl rfl rfl hs (kk := 8) rfl rfl ?_
    | refine s_storeAB Try.sizeOf56 rfl rfl rfl rfl hs (kk := 9) rfl rfl ?_
  clear hs; intro w hs; try simp only [List.set_cons_zero, List.set_cons_succ, splice, List.take_succ_cons, List.take_zero, List.drop_succ_cons, List.drop_zero, List.nil_append, List.cons_append, List.length_cons, List.length_nil, Nat.reduceAdd, List.append_assoc] at hs
  refine s_assign rfl rfl ?_
  refine WL_nil ?_
  refine n_then ?_
  refine W_seq ?_
  refine W_seq ?_
  refine W_region ?_
  refine s_move rfl rfl ?_
  refine s_not rfl rfl ?_
  refine WL_nil ?_
  refine n_then ?_
  refine W_cond_kt rfl (rfl) ?_
  refine W_seq ?_
  refine W_region ?_
  refine s_assign rfl rfl ?_
  refine WL_nil ?_
  refine n_then ?_
  refine W_ret ?_
  refine r_then ?_
  exact end1 rfl rfl ⟨_, hs.tail, rfl, g, _, Lt, rfl, hO⟩
theorem copy_yes (p : Nat) (gs : List Int) (ms : List Msg) (i : Int) (L0 : Hp) (w0 : World) (hN : NetAt p gs ms L0) (hs : St (ids L0) w0 w0 L0) (hin : 0 ≤ i ∧ i < ms.length) (hml : ms.length ≤ 1000) (hbl : ∀ m ∈ ms, m.bs.length ≤ 65536) :
    Ret Try.prog 58 [.pointer (some ⟨p, 0, none⟩), .int .i64 i].toArray w0 fun r w' => ∃ L', St (ids L0) w0 w' L' ∧
      ((1000 ≤ ms.length ∧ r = .int .i64 4 ∧ NetAt p gs ms L') ∨ (ms.length < 1000 ∧ r = .int .i64 0 ∧ ∃ m b, ms[i.toNat]? = some m ∧ NetAt p gs (ms ++ [⟨m.f, m.t, b, m.bs⟩]) L')) := by
  obtain ⟨g, tv, Lt, hL, hO⟩ := hN
  obtain ⟨tl, tc, ta, rfl, rfl⟩ := hO.form
  replace hs : St (ids L0) w0 w0 ((p, Blk 112 [.slice (some ⟨g, 0, none⟩) gs.length gs.length, .slice ta ms.length tc]) :: (g, Blk 3 (i64s gs)) :: (Lt ++ mblks ms)) := by rw [hL] at hs ⊢; exact hs
  refine Ret_startL hs fun w hs => ?_
  refine Ret_of Try.func58 rfl Try.ntmps58 rfl ?_
  refine W_seq ?_
  refine W_region ?_
  refine s_assign rfl rfl ?_
  refine WL_nil ?_
  refine n_then ?_
  refine W_seq ?_
  refine W_region ?_
  refine s_move rfl rfl ?_
  refine s_nilCheck rfl rfl ?_
  refine s_fieldAddr rfl rfl (FA112_1 _ _) ?_
  first
    | refine s_load Try.isAgg29 rfl rfl (hs.cell (k := 0) rfl rfl) ?_
    | refine s_load Try.isAgg29 rfl rfl (hs.cell (k := 1) rfl rfl) ?_
    | refine s_load Try.isAgg29 rfl rfl (hs.cell (k := 2) rfl rfl) ?_
    | refine s_load Try.isAgg29 rfl rfl (hs.cell (k := 3) rfl rfl) ?_
    | refine s_load Try.isAgg29 rfl rfl (hs.cell (k := 4) rfl rfl) ?_
    | refine s_load Try.isAgg29 rfl rfl (hs.cell (k := 5) rfl rfl) ?_
    | refine s_load Try.isAgg29 rfl rfl (hs.cell (k := 6) rfl rfl) ?_
    | refine s_load Try.isAgg29 rfl rfl (hs.cell (k := 7) rfl rfl) ?_
    | refine s_load Try.isAgg29 rfl rfl (hs.cell (k := 8) rfl rfl) ?_
    | refine s_load Try.isAgg29 rfl rfl (hs.cell (k := 9) rfl rfl) ?_
  refine s_move rfl rfl ?_
  refine s_call Try.call76 rfl rfl (element_ok _ ms i w (hO.slM (M := [_, _]) hs)) ?_
  rintro r w ⟨hst, h⟩
  obtain ⟨m, _, hm, rfl⟩ | ⟨h, _⟩ := h
  case inr => exact absurd hin h
  replace hs := hs.fwd1 hst
  clear hst
  simp only [Msg.cells]
  have hmem := List.mem_of_getElem? hm
  refine s_move rfl rfl ?_
  refine s_extract rfl rfl rfl ?_
  refine s_extract rfl rfl rfl ?_
  refine s_alloc rfl AL56 hs ?_; clear hs; intro b5 w hs
  first
    | refine s_storeW Try.sizeOf56 rfl rfl rfl rfl hs (kk := 0) rfl rfl ?_
    | refine s_storeW Try.sizeOf56 rfl rfl rfl rfl hs (kk := 1) rfl rfl ?_
    | refine s_storeW Try.sizeOf56 rfl rfl rfl rfl hs (kk := 2) rfl rfl ?_
    | refine s_storeW Try.sizeOf56 rfl rfl rfl rfl hs (kk := 3) rfl rfl ?_
    | refine s_storeW Try.sizeOf56 rfl rfl rfl rfl hs (kk := 4) rfl rfl ?_
    | refine s_storeW Try.sizeOf56 rfl rfl rfl rfl hs (kk := 5) rfl rfl ?_
    | refine s_storeW Try.sizeOf56 rfl rfl rfl rfl hs (kk := 6) rfl rfl ?_
    | refine s_storeW Try.sizeOf56 rfl rfl rfl rfl hs (kk := 7) rfl rfl ?_
    | refine s_storeW Try.sizeOf56 rfl rfl rfl rfl hs (kk := 8) rfl rfl ?_
    | refine s_storeW Try.sizeOf56 rfl rfl rfl rfl hs (kk := 9) rfl rfl ?_
    | refine s_storeAB Try.sizeOf56 rfl rfl rfl rfl hs (kk := 0) rfl rfl ?_
    | refine s_storeAB Try.sizeOf56 rfl rfl rfl rfl hs (kk := 1) rfl rfl ?_
    | refine s_storeAB Try.sizeOf56 rfl rfl rfl rfl hs (kk := 2) rfl rfl ?_
    | refine s_storeAB Try.sizeOf56 rfl rfl rfl rfl hs (kk := 3) rfl rfl ?_
    | refine s_storeAB Try.sizeOf56 rfl rfl rfl rfl hs (kk := 4) rfl rfl ?_
    | refine s_storeAB Try.sizeOf56 rfl rfl rfl rfl hs (kk := 5) rfl rfl ?_
    | refine s_storeAB Try.sizeOf56 rfl rfl rfl rfl hs (kk := 6) rfl rfl ?_
    | refine s_storeAB Try.sizeOf56 rfl rfl rfl rfl hs (kk := 7) rfl rfl ?_
    | refine s_storeAB Try.sizeOf56 rfl rfl rfl rfl hs (kk := 8) rfl rfl ?_
    | refine s_storeAB Try.sizeOf56 rfl rfl rfl rfl hs (kk := 9) rfl rfl ?_
  clear hs; intro w hs; try simp only [List.set_cons_zero, List.set_cons_succ, splice, List.take_succ_cons, List.take_zero, List.drop_succ_cons, List.drop_zero, List.nil_append, List.cons_append, List.length_cons, List.length_nil, Nat.reduceAdd, List.append_assoc] at hs
  refine s_assign rfl rfl ?_
  refine WL_nil ?_
  refine n_then ?_
  refine W_seq ?_
  refine W_seq ?_
  refine W_region ?_
  refine s_move rfl rfl ?_
  refine s_not rfl rfl ?_
  refine WL_nil ?_
  refine n_then ?_
  refine W_cond_kf rfl (rfl) ?_
  refine W_skip ?_
  refine n_then ?_
  refine W_seq ?_
  refine W_seq ?_
  refine W_region ?_
  refine s_move rfl rfl ?_
  refine s_nilCheck rfl rfl ?_
  refine s_fieldAddr rfl rfl (FA112_1 _ _) ?_
  first
    | refine s_load Try.isAgg29 rfl rfl (hs.cell (k := 0) rfl rfl) ?_
    | refine s_load Try.isAgg29 rfl rfl (hs.cell (k := 1) rfl rfl) ?_
    | refine s_load Try.isAgg29 rfl rfl (hs.cell (k := 2) rfl rfl) ?_
    | refine s_load Try.isAgg29 rfl rfl (hs.cell (k := 3) rfl rfl) ?_
    | refine s_load Try.isAgg29 rfl rfl (hs.cell (k := 4) rfl rfl) ?_
    | refine s_load Try.isAgg29 rfl rfl (hs.cell (k := 5) rfl rfl) ?_
    | refine s_load Try.isAgg29 rfl rfl (hs.cell (k := 6) rfl rfl) ?_
    | refine s_load Try.isAgg29 rfl rfl (hs.cell (k := 7) rfl rfl) ?_
    | refine s_load Try.isAgg29 rfl rfl (hs.cell (k := 8) rfl rfl) ?_
    | refine s_load Try.isAgg29 rfl rfl (hs.cell (k := 9) rfl rfl) ?_
  refine s_len rfl rfl (LN29 _ _ _ _) ?_
  refine s_geq rfl rfl rfl ?_
  refine WL_nil ?_
  refine n_then ?_
  refine W_cond rfl (fun hc23 => ?_) (fun hc23 => ?_)
  · skip
    simp only [decide_eq_true_eq, decide_eq_false_iff_not] at hc23
    refine W_seq ?_
    refine W_region ?_
    refine s_assign rfl rfl ?_
    refine WL_nil ?_
    refine n_then ?_
    refine W_ret ?_
    refine r_then ?_
    refine end1 rfl rfl ?_
    first
      | exact ⟨_, hs.tail, Or.inl ⟨by omega, rfl, g, _, Lt, rfl, hO⟩⟩
      | (have hm' : m' = ⟨m.f, m.t, m'.b, m.bs⟩ := by rw [← hf, ← ht, ← hb]
         refine ⟨_, St.reord [[_], [m'.blk], [_], [_], [_], Lt', mblks ms] [3, 4, 5, 6, 1] [0, 2] hs rfl, Or.inr ⟨by omega, rfl, m, m'.b, hm, g, .slice ta' (ms.length + 1) tc', Lt', ?_, ?_⟩⟩
         · rw [← hm']; simp [cat, mblks]
         · rw [← hm']; simpa [mcells] using hO')
  · skip
    simp only [decide_eq_true_eq, decide_eq_false_iff_not] at hc23
    refine W_skip ?_
    refine n_then ?_
    refine W_seq ?_
    refine W_draw [(0, true, []), (1, true, []), (2, true, []), (3, true, []), (4, true, []), (5, true, []), (6, false, [0, 1, 2, 3, 4]), (7, false, [0, 1, 2, 3, 4]), (8, false, [0]), (9, true, []), (10, true, []), (11, false, [])] [[], [], [1], [1, 2], [1, 2, 3], [], [5], [5, 6], [1, 2, 3, 4, 5, 6, 7], [0, 1, 2, 3, 4, 5, 6, 7, 8], [0, 1, 2, 3, 4, 5, 6, 7, 8, 9], [0, 1, 2, 3, 4, 5, 6, 7, 8, 9, 10]] MX (by kernel_rfl) ?_
    intro w1 hw1 hw2 hw3 hw4; replace hs := hs.redrawn hw1 hw2 hw3 hw4; clear hw1 hw2 hw3 hw4
    obtain ⟨w, rfl⟩ : ∃ w : World, w = w1 := ⟨_, rfl⟩
    refine D_q rfl rfl ?_
    refine s_move rfl rfl ?_
    refine D_qn ?_
    refine D_q rfl rfl ?_
    refine s_move rfl rfl ?_
    refine D_qn ?_
    refine D_q rfl rfl ?_
    refine s_nilCheck rfl rfl ?_
    refine D_qn ?_
    refine D_q rfl rfl ?_
    refine s_fieldAddr rfl rfl (FA112_1 _ _) ?_
    refine D_qn ?_
    refine D_q rfl rfl ?_
    first
      | refine s_load Try.isAgg29 rfl rfl (hs.cell (k := 0) rfl rfl) ?_
      | refine s_load Try.isAgg29 rfl rfl (hs.cell (k := 1) rfl rfl) ?_
      | refine s_load Try.isAgg29 rfl rfl (hs.cell (k := 2) rfl rfl) ?_
      | refine s_load Try.isAgg29 rfl rfl (hs.cell (k := 3) rfl rfl) ?_
      | refine s_load Try.isAgg29 rfl rfl (hs.cell (k := 4) rfl rfl) ?_
      | refine s_load Try.isAgg29 rfl rfl (hs.cell (k := 5) rfl rfl) ?_
      | refine s_load Try.isAgg29 rfl rfl (hs.cell (k := 6) rfl rfl) ?_
      | refine s_load Try.isAgg29 rfl rfl (hs.cell (k := 7) rfl rfl) ?_
      | refine s_load Try.isAgg29 rfl rfl (hs.cell (k := 8) rfl rfl) ?_
      | refine s_load Try.isAgg29 rfl rfl (hs.cell (k := 9) rfl rfl) ?_
    refine D_qn ?_
    refine D_q rfl rfl ?_
    first
      | refine s_loadW Try.isAgg56 Try.sizeOf56 rfl rfl hs (kk := 0) rfl rfl ?_
      | refine s_loadW Try.isAgg56 Try.sizeOf56 rfl rfl hs (kk := 1) rfl rfl ?_
      | refine s_loadW Try.isAgg56 Try.sizeOf56 rfl rfl hs (kk := 2) rfl rfl ?_
      | refine s_loadW Try.isAgg56 Try.sizeOf56 rfl rfl hs (kk := 3) rfl rfl ?_
      | refine s_loadW Try.isAgg56 Try.sizeOf56 rfl rfl hs (kk := 4) rfl rfl ?_
      | refine s_loadW Try.isAgg56 Try.sizeOf56 rfl rfl hs (kk := 5) rfl rfl ?_
      | refine s_loadW Try.isAgg56 Try.sizeOf56 rfl rfl hs (kk := 6) rfl rfl ?_
      | refine s_loadW Try.isAgg56 Try.sizeOf56 rfl rfl hs (kk := 7) rfl rfl ?_
      | refine s_loadW Try.isAgg56 Try.sizeOf56 rfl rfl hs (kk := 8) rfl rfl ?_
      | refine s_loadW Try.isAgg56 Try.sizeOf56 rfl rfl hs (kk := 9) rfl rfl ?_
      | refine s_load_3 Try.isAgg56 Try.sizeOf56 rfl rfl (by first | exact hs.cell (k := 0) rfl rfl | exact hs.cell (k := 1) rfl rfl | exact hs.cell (k := 2) rfl rfl | exact hs.cell (k := 3) rfl rfl | exact hs.cell (k := 4) rfl rfl | exact hs.cell (k := 5) rfl rfl | exact hs.cell (k := 6) rfl rfl | exact hs.cell (k := 7) rfl rfl | exact hs.cell (k := 8) rfl rfl | exact hs.cell (k := 9) rfl rfl) (by first | exact hs.cell (k := 0) rfl rfl | exact hs.cell (k := 1) rfl rfl | exact hs.cell (k := 2) rfl rfl | exact hs.cell (k := 3) rfl rfl | exact hs.cell (k := 4) rfl rfl | exact hs.cell (k := 5) rfl rfl | exact hs.cell (k := 6) rfl rfl | exact hs.cell (k := 7) rfl rfl | exact hs.cell (k := 8) rfl rfl | exact hs.cell (k := 9) rfl rfl) (by first | exact hs.cell (k := 0) rfl rfl | exact hs.cell (k := 1) rfl rfl | exact hs.cell (k := 2) rfl rfl | exact hs.cell (k := 3) rfl rfl | exact hs.cell (k := 4) rfl rfl | exact hs.cell (k := 5) rfl rfl | exact hs.cell (k := 6) rfl rfl | exact hs.cell (k := 7) rfl rfl | exact hs.cell (k := 8) rfl rfl | exact hs.cell (k := 9) rfl rfl) ?_
    refine D_qn ?_
    refine D_e rfl ?_
    have hsl : Sl w (.slice (some ⟨m.b, 0, none⟩) m.bs.length m.bs.length) m.bs.length (u8s m.bs) := by
      have hs2 := hs
      rw [mblks_split hm] at hs2
      have hs3 : St (ids L0) w0 w [m.blk] := St.reord [[_], [_], [_], Lt, mblks (ms.take i.toNat), [m.blk], mblks (ms.drop (i.toNat + 1))] [5] [0, 1, 2, 3, 4, 6] hs2 rfl
      exact hs3.sl (k := 0) (cs := u8s m.bs) (fz := (0, 0)) rfl (Nat.le_refl _) (fun j u hj => by rw [Nat.zero_add]; exact hj)
    refine s_call Try.call77 rfl rfl (netSep_ok m.f m.t _ m.bs w hsl (by have := hbl m hmem; omega)) ?_
    rintro r w ⟨m', hf, ht, hb, rfl, hst⟩
    replace hs := St.back0 hs hst
    simp only [List.cons_append, List.nil_append] at hs
    clear hst hsl
    refine D_en ?re ?_
    case re =>
      refine Reks_cons rfl rfl rfl rfl ?_ ?_
      · skip
        refine s_move rfl rfl ?_
        exact Rek_end rfl
      refine Reks_cons rfl rfl rfl rfl ?_ ?_
      · skip
        refine s_move rfl rfl ?_
        exact Rek_end rfl
      refine Reks_cons rfl rfl rfl rfl ?_ ?_
      · skip
        refine s_nilCheck rfl rfl ?_
        exact Rek_end rfl
      refine Reks_cons rfl rfl rfl rfl ?_ ?_
      · skip
        refine s_fieldAddr rfl rfl (FA112_1 _ _) ?_
        exact Rek_end rfl
      refine Reks_cons rfl rfl rfl rfl ?_ ?_
      · skip
        first
          | refine s_load Try.isAgg29 rfl rfl (hs.cell (k := 0) rfl rfl) ?_
          | refine s_load Try.isAgg29 rfl rfl (hs.cell (k := 1) rfl rfl) ?_
          | refine s_load Try.isAgg29 rfl rfl (hs.cell (k := 2) rfl rfl) ?_
          | refine s_load Try.isAgg29 rfl rfl (hs.cell (k := 3) rfl rfl) ?_
          | refine s_load Try.isAgg29 rfl rfl (hs.cell (k := 4) rfl rfl) ?_
          | refine s_load Try.isAgg29 rfl rfl (hs.cell (k := 5) rfl rfl) ?_
          | refine s_load Try.isAgg29 rfl rfl (hs.cell (k := 6) rfl rfl) ?_
          | refine s_load Try.isAgg29 rfl rfl (hs.cell (k := 7) rfl rfl) ?_
          | refine s_load Try.isAgg29 rfl rfl (hs.cell (k := 8) rfl rfl) ?_
          | refine s_load Try.isAgg29 rfl rfl (hs.cell (k := 9) rfl rfl) ?_
        exact Rek_end rfl
      exact Reks_nil
    refine D_e rfl ?_
    refine s_buildSlice rfl rfl (BS29_1 _ _ _) hs ?_; clear hs; intro b31 w hs
    refine D_en ?re ?_
    case re =>
      refine Reks_cons rfl rfl rfl rfl ?_ ?_
      · skip
        refine s_move rfl rfl ?_
        exact Rek_end rfl
      refine Reks_cons rfl rfl rfl rfl ?_ ?_
      · skip
        refine s_move rfl rfl ?_
        exact Rek_end rfl
      refine Reks_cons rfl rfl rfl rfl ?_ ?_
      · skip
        refine s_nilCheck rfl rfl ?_
        exact Rek_end rfl
      refine Reks_cons rfl rfl rfl rfl ?_ ?_
      · skip
        refine s_fieldAddr rfl rfl (FA112_1 _ _) ?_
        exact Rek_end rfl
      refine Reks_cons rfl rfl rfl rfl ?_ ?_
      · skip
        first
          | refine s_load Try.isAgg29 rfl rfl (hs.cell (k := 0) rfl rfl) ?_
          | refine s_load Try.isAgg29 rfl rfl (hs.cell (k := 1) rfl rfl) ?_
          | refine s_load Try.isAgg29 rfl rfl (hs.cell (k := 2) rfl rfl) ?_
          | refine s_load Try.isAgg29 rfl rfl (hs.cell (k := 3) rfl rfl) ?_
          | refine s_load Try.isAgg29 rfl rfl (hs.cell (k := 4) rfl rfl) ?_
          | refine s_load Try.isAgg29 rfl rfl (hs.cell (k := 5) rfl rfl) ?_
          | refine s_load Try.isAgg29 rfl rfl (hs.cell (k := 6) rfl rfl) ?_
          | refine s_load Try.isAgg29 rfl rfl (hs.cell (k := 7) rfl rfl) ?_
          | refine s_load Try.isAgg29 rfl rfl (hs.cell (k := 8) rfl rfl) ?_
          | refine s_load Try.isAgg29 rfl rfl (hs.cell (k := 9) rfl rfl) ?_
        exact Rek_end rfl
      exact Reks_nil
    refine D_e rfl ?_
    refine s_appendM (M := [_, _, _, _, _]) El29 rfl rfl rfl hO hs (hs.sl (k := 0) (ds := m'.cells) rfl (Nat.le_refl _) (by intro j u hj; rw [Nat.zero_add]; exact hj)) rfl (cells_one m') (by omega) ?_
    clear hs; intro tv' w Lt' hO' hs
    simp only [List.cons_append, List.nil_append] at hs
    obtain ⟨tl', tc', ta', rfl, rfl⟩ := hO'.form
    refine D_en ?re ?_
    case re =>
      refine Reks_cons rfl rfl rfl rfl ?_ ?_
      · skip
        refine s_move rfl rfl ?_
        exact Rek_end rfl
      exact Reks_nil
    refine D_q rfl rfl ?_
    refine s_nilCheck rfl rfl ?_
    refine D_qn ?_
    refine D_q rfl rfl ?_
    refine s_fieldAddr rfl rfl (FA112_1 _ _) ?_
    refine D_qn ?_
    refine D_e rfl ?_
    first
      | refine s_storeB Try.sizeOf29 rfl rfl rfl hs (kk := 0) rfl rfl ?_
      | refine s_storeB Try.sizeOf29 rfl rfl rfl hs (kk := 1) rfl rfl ?_
      | refine s_storeB Try.sizeOf29 rfl rfl rfl hs (kk := 2) rfl rfl ?_
      | refine s_storeB Try.sizeOf29 rfl rfl rfl hs (kk := 3) rfl rfl ?_
      | refine s_storeB Try.sizeOf29 rfl rfl rfl hs (kk := 4) rfl rfl ?_
      | refine s_storeB Try.sizeOf29 rfl rfl rfl hs (kk := 5) rfl rfl ?_
      | refine s_storeB Try.sizeOf29 rfl rfl rfl hs (kk := 6) rfl rfl ?_
      | refine s_storeB Try.sizeOf29 rfl rfl rfl hs (kk := 7) rfl rfl ?_
      | refine s_storeB Try.sizeOf29 rfl rfl rfl hs (kk := 8) rfl rfl ?_
      | refine s_storeB Try.sizeOf29 rfl rfl rfl hs (kk := 9) rfl rfl ?_
    clear hs; intro w hs; try simp only [List.set_cons_zero, List.set_cons_succ, splice, List.take_succ_cons, List.take_zero, List.drop_succ_cons, List.drop_zero, List.nil_append, List.cons_append, List.length_cons, List.length_nil, Nat.reduceAdd, List.append_assoc] at hs
    refine D_en ?re ?_
    case re =>
      exact Reks_nil
    refine D_nil ?_
    refine n_then ?_
    refine W_seq ?_
    refine W_region ?_
    refine s_assign rfl rfl ?_
    refine WL_nil ?_
    refine n_then ?_
    refine W_ret ?_
    refine end1 rfl rfl ?_
    first
      | exact ⟨_, hs.tail, Or.inl ⟨by omega, rfl, g, _, Lt, rfl, hO⟩⟩
      | (have hm' : m' = ⟨m.f, m.t, m'.b, m.bs⟩ := by rw [← hf, ← ht, ← hb]
         refine ⟨_, St.reord [[_], [m'.blk], [_], [_], [_], Lt', mblks ms] [3, 4, 5, 6, 1] [0, 2] hs rfl, Or.inr ⟨by omega, rfl, m, m'.b, hm, g, .slice ta' (ms.length + 1) tc', Lt', ?_, ?_⟩⟩
         · rw [← hm']; simp [cat, mblks]
         · rw [← hm']; simpa [mcells] using hO')
/-! ### Drop -/
theorem drop_no (p : Nat) (gs : List Int) (ms : List Msg) (i : Int) (L0 : Hp) (w0 : World) (hN : NetAt p gs ms L0) (hs : St (ids L0) w0 w0 L0) (hin : ¬ (0 ≤ i ∧ i < ms.length)) :
    Ret Try.prog 59 [.pointer (some ⟨p, 0, none⟩), .int .i64 i].toArray w0 fun r w' => ∃ L', St (ids L0) w0 w' L' ∧ r = .int .i64 9 ∧ NetAt p gs ms L' := by
  obtain ⟨g, tv, Lt, hL, hO⟩ := hN
  obtain ⟨tl, tc, ta, rfl, rfl⟩ := hO.form
  replace hs : St (ids L0) w0 w0 ((p, Blk 112 [.slice (some ⟨g, 0, none⟩) gs.length gs.length, .slice ta ms.length tc]) :: (g, Blk 3 (i64s gs)) :: (Lt ++ mblks ms)) := by rw [hL] at hs ⊢; exact hs
  refine Ret_startL hs fun w hs => ?_
  refine Ret_of Try.func59 rfl Try.ntmps59 rfl ?_
  refine W_seq ?_
  refine W_region ?_
  refine s_assign rfl rfl ?_
  refine WL_nil ?_
  refine n_then ?_
  refine W_seq ?_
  refine W_seq ?_
  refine W_region ?_
  refine s_move rfl rfl ?_
  refine s_nilCheck rfl rfl ?_
  refine s_fieldAddr rfl rfl (FA112_1 _ _) ?_
  first
    | refine s_load Try.isAgg29 rfl rfl (hs.cell (k := 0) rfl rfl) ?_
    | refine s_load Try.isAgg29 rfl rfl (hs.cell (k := 1) rfl rfl) ?_
    | refine s_load Try.isAgg29 rfl rfl (hs.cell (k := 2) rfl rfl) ?_
    | refine s_load Try.isAgg29 rfl rfl (hs.cell (k := 3) rfl rfl) ?_
    | refine s_load Try.isAgg29 rfl rfl (hs.cell (k := 4) rfl rfl) ?_
    | refine s_load Try.isAgg29 rfl rfl (hs.cell (k := 5) rfl rfl) ?_
    | refine s_load Try.isAgg29 rfl rfl (hs.cell (k := 6) rfl rfl) ?_
    | refine s_load Try.isAgg29 rfl rfl (hs.cell (k := 7) rfl rfl) ?_
    | refine s_load Try.isAgg29 rfl rfl (hs.cell (k := 8) rfl rfl) ?_
    | refine s_load Try.isAgg29 rfl rfl (hs.cell (k := 9) rfl rfl) ?_
  refine s_move rfl rfl ?_
  refine s_call Try.call76 rfl rfl (element_ok _ ms i w (hO.slM (M := [_, _]) hs)) ?_
  rintro r w ⟨hst, h⟩
  obtain ⟨m, h1, hm, rfl⟩ | ⟨_, rfl⟩ := h
  case inl => exact absurd ⟨h1, (by have := (List.getElem?_eq_some_iff.1 hm).1; omega)⟩ hin
  replace hs := hs.fwd1 hst
  clear hst
  refine s_move rfl rfl ?_
  refine s_extract rfl rfl rfl ?_
  refine s_extract rfl rfl rfl ?_
  refine s_alloc rfl AL56 hs ?_; clear hs; intro b5 w hs
  first
    | refine s_storeW Try.sizeOf56 rfl rfl rfl rfl hs (kk := 0) rfl rfl ?_
    | refine s_storeW Try.sizeOf56 rfl rfl rfl rfl hs (kk := 1) rfl rfl ?_
    | refine s_storeW Try.sizeOf56 rfl rfl rfl rfl hs (kk := 2) rfl rfl ?_
    | refine s_storeW Try.sizeOf56 rfl rfl rfl rfl hs (kk := 3) rfl rfl ?_
    | refine s_storeW Try.sizeOf56 rfl rfl rfl rfl hs (kk := 4) rfl rfl ?_
    | refine s_storeW Try.sizeOf56 rfl rfl rfl rfl hs (kk := 5) rfl rfl ?_
    | refine s_storeW Try.sizeOf56 rfl rfl rfl rfl hs (kk := 6) rfl rfl ?_
    | refine s_storeW Try.sizeOf56 rfl rfl rfl rfl hs (kk := 7) rfl rfl ?_
    | refine s_storeW Try.sizeOf56 rfl rfl rfl rfl hs (kk := 8) rfl rfl ?_
    | refine s_storeW Try.sizeOf56 rfl rfl rfl rfl hs (kk := 9) rfl rfl ?_
    | refine s_storeAB Try.sizeOf56 rfl rfl rfl rfl hs (kk := 0) rfl rfl ?_
    | refine s_storeAB Try.sizeOf56 rfl rfl rfl rfl hs (kk := 1) rfl rfl ?_
    | refine s_storeAB Try.sizeOf56 rfl rfl rfl rfl hs (kk := 2) rfl rfl ?_
    | refine s_storeAB Try.sizeOf56 rfl rfl rfl rfl hs (kk := 3) rfl rfl ?_
    | refine s_storeAB Try.sizeOf56 rfl rfl rfl rfl hs (kk := 4) rfl rfl ?_
    | refine s_storeAB Try.sizeOf56 rfl rfl rfl rfl hs (kk := 5) rfl rfl ?_
    | refine s_storeAB Try.sizeOf56 rfl rfl rfl rfl hs (kk := 6) rfl rfl ?_
    | refine s_storeAB Try.sizeOf56 rfl rfl rfl rfl hs (kk := 7) rfl rfl ?_
    | refine s_storeAB Try.sizeOf56 rfl rfl rfl rfl hs (kk := 8) rfl rfl ?_
    | refine s_storeAB Try.sizeOf56 rfl rfl rfl rfl hs (kk := 9) rfl rfl ?_
  clear hs; intro w hs; try simp only [List.set_cons_zero, List.set_cons_succ, splice, List.take_succ_cons, List.take_zero, List.drop_succ_cons, List.drop_zero, List.nil_append, List.cons_append, List.length_cons, List.length_nil, Nat.reduceAdd, List.append_assoc] at hs
  refine s_assign rfl rfl ?_
  refine WL_nil ?_
  refine n_then ?_
  refine W_seq ?_
  refine W_region ?_
  refine s_move rfl rfl ?_
  refine s_not rfl rfl ?_
  refine WL_nil ?_
  refine n_then ?_
  refine W_cond_kt rfl (rfl) ?_
  refine W_seq ?_
  refine W_region ?_
  refine s_assign rfl rfl ?_
  refine WL_nil ?_
  refine n_then ?_
  refine W_ret ?_
  refine r_then ?_
  exact end1 rfl rfl ⟨_, hs.tail, rfl, g, _, Lt, rfl, hO⟩
theorem drop_yes (p : Nat) (gs : List Int) (ms : List Msg) (i : Int) (L0 : Hp) (w0 : World) (hN : NetAt p gs ms L0) (hs : St (ids L0) w0 w0 L0) (hin : 0 ≤ i ∧ i < ms.length) (hml : ms.length ≤ 1000) :
    Ret Try.prog 59 [.pointer (some ⟨p, 0, none⟩), .int .i64 i].toArray w0 fun r w' => ∃ L', St (ids L0) w0 w' L' ∧ r = .int .i64 0 ∧ NetAt p gs (ms.eraseIdx i.toNat) L' := by
  obtain ⟨g, tv, Lt, hL, hO⟩ := hN
  obtain ⟨tl, tc, ta, rfl, rfl⟩ := hO.form
  replace hs : St (ids L0) w0 w0 ((p, Blk 112 [.slice (some ⟨g, 0, none⟩) gs.length gs.length, .slice ta ms.length tc]) :: (g, Blk 3 (i64s gs)) :: (Lt ++ mblks ms)) := by rw [hL] at hs ⊢; exact hs
  refine Ret_startL hs fun w hs => ?_
  refine Ret_of Try.func59 rfl Try.ntmps59 rfl ?_
  refine W_seq ?_
  refine W_region ?_
  refine s_assign rfl rfl ?_
  refine WL_nil ?_
  refine n_then ?_
  refine W_seq ?_
  refine W_seq ?_
  refine W_region ?_
  refine s_move rfl rfl ?_
  refine s_nilCheck rfl rfl ?_
  refine s_fieldAddr rfl rfl (FA112_1 _ _) ?_
  first
    | refine s_load Try.isAgg29 rfl rfl (hs.cell (k := 0) rfl rfl) ?_
    | refine s_load Try.isAgg29 rfl rfl (hs.cell (k := 1) rfl rfl) ?_
    | refine s_load Try.isAgg29 rfl rfl (hs.cell (k := 2) rfl rfl) ?_
    | refine s_load Try.isAgg29 rfl rfl (hs.cell (k := 3) rfl rfl) ?_
    | refine s_load Try.isAgg29 rfl rfl (hs.cell (k := 4) rfl rfl) ?_
    | refine s_load Try.isAgg29 rfl rfl (hs.cell (k := 5) rfl rfl) ?_
    | refine s_load Try.isAgg29 rfl rfl (hs.cell (k := 6) rfl rfl) ?_
    | refine s_load Try.isAgg29 rfl rfl (hs.cell (k := 7) rfl rfl) ?_
    | refine s_load Try.isAgg29 rfl rfl (hs.cell (k := 8) rfl rfl) ?_
    | refine s_load Try.isAgg29 rfl rfl (hs.cell (k := 9) rfl rfl) ?_
  refine s_move rfl rfl ?_
  refine s_call Try.call76 rfl rfl (element_ok _ ms i w (hO.slM (M := [_, _]) hs)) ?_
  rintro r w ⟨hst, h⟩
  obtain ⟨m, _, hm, rfl⟩ | ⟨h, _⟩ := h
  case inr => exact absurd hin h
  replace hs := hs.fwd1 hst
  clear hst
  simp only [Msg.cells]
  refine s_move rfl rfl ?_
  refine s_extract rfl rfl rfl ?_
  refine s_extract rfl rfl rfl ?_
  refine s_alloc rfl AL56 hs ?_; clear hs; intro b5 w hs
  first
    | refine s_storeW Try.sizeOf56 rfl rfl rfl rfl hs (kk := 0) rfl rfl ?_
    | refine s_storeW Try.sizeOf56 rfl rfl rfl rfl hs (kk := 1) rfl rfl ?_
    | refine s_storeW Try.sizeOf56 rfl rfl rfl rfl hs (kk := 2) rfl rfl ?_
    | refine s_storeW Try.sizeOf56 rfl rfl rfl rfl hs (kk := 3) rfl rfl ?_
    | refine s_storeW Try.sizeOf56 rfl rfl rfl rfl hs (kk := 4) rfl rfl ?_
    | refine s_storeW Try.sizeOf56 rfl rfl rfl rfl hs (kk := 5) rfl rfl ?_
    | refine s_storeW Try.sizeOf56 rfl rfl rfl rfl hs (kk := 6) rfl rfl ?_
    | refine s_storeW Try.sizeOf56 rfl rfl rfl rfl hs (kk := 7) rfl rfl ?_
    | refine s_storeW Try.sizeOf56 rfl rfl rfl rfl hs (kk := 8) rfl rfl ?_
    | refine s_storeW Try.sizeOf56 rfl rfl rfl rfl hs (kk := 9) rfl rfl ?_
    | refine s_storeAB Try.sizeOf56 rfl rfl rfl rfl hs (kk := 0) rfl rfl ?_
    | refine s_storeAB Try.sizeOf56 rfl rfl rfl rfl hs (kk := 1) rfl rfl ?_
    | refine s_storeAB Try.sizeOf56 rfl rfl rfl rfl hs (kk := 2) rfl rfl ?_
    | refine s_storeAB Try.sizeOf56 rfl rfl rfl rfl hs (kk := 3) rfl rfl ?_
    | refine s_storeAB Try.sizeOf56 rfl rfl rfl rfl hs (kk := 4) rfl rfl ?_
    | refine s_storeAB Try.sizeOf56 rfl rfl rfl rfl hs (kk := 5) rfl rfl ?_
    | refine s_storeAB Try.sizeOf56 rfl rfl rfl rfl hs (kk := 6) rfl rfl ?_
    | refine s_storeAB Try.sizeOf56 rfl rfl rfl rfl hs (kk := 7) rfl rfl ?_
    | refine s_storeAB Try.sizeOf56 rfl rfl rfl rfl hs (kk := 8) rfl rfl ?_
    | refine s_storeAB Try.sizeOf56 rfl rfl rfl rfl hs (kk := 9) rfl rfl ?_
  clear hs; intro w hs; try simp only [List.set_cons_zero, List.set_cons_succ, splice, List.take_succ_cons, List.take_zero, List.drop_succ_cons, List.drop_zero, List.nil_append, List.cons_append, List.length_cons, List.length_nil, Nat.reduceAdd, List.append_assoc] at hs
  refine s_assign rfl rfl ?_
  refine WL_nil ?_
  refine n_then ?_
  refine W_seq ?_
  refine W_region ?_
  refine s_move rfl rfl ?_
  refine s_not rfl rfl ?_
  refine WL_nil ?_
  refine n_then ?_
  refine W_cond_kf rfl (rfl) ?_
  refine W_skip ?_
  refine n_then ?_
  refine W_seq ?_
  refine W_region ?_
  refine s_move rfl rfl ?_
  refine s_move rfl rfl ?_
  refine s_nilCheck rfl rfl ?_
  refine s_fieldAddr rfl rfl (FA112_1 _ _) ?_
  first
    | refine s_load Try.isAgg29 rfl rfl (hs.cell (k := 0) rfl rfl) ?_
    | refine s_load Try.isAgg29 rfl rfl (hs.cell (k := 1) rfl rfl) ?_
    | refine s_load Try.isAgg29 rfl rfl (hs.cell (k := 2) rfl rfl) ?_
    | refine s_load Try.isAgg29 rfl rfl (hs.cell (k := 3) rfl rfl) ?_
    | refine s_load Try.isAgg29 rfl rfl (hs.cell (k := 4) rfl rfl) ?_
    | refine s_load Try.isAgg29 rfl rfl (hs.cell (k := 5) rfl rfl) ?_
    | refine s_load Try.isAgg29 rfl rfl (hs.cell (k := 6) rfl rfl) ?_
    | refine s_load Try.isAgg29 rfl rfl (hs.cell (k := 7) rfl rfl) ?_
    | refine s_load Try.isAgg29 rfl rfl (hs.cell (k := 8) rfl rfl) ?_
    | refine s_load Try.isAgg29 rfl rfl (hs.cell (k := 9) rfl rfl) ?_
  refine s_move rfl rfl ?_
  refine s_move rfl rfl ?_
  first | (refine s_add' rfl rfl rfl ?hx ?_; case hx => (constructor <;> first | omega | (simp only; omega))) | refine s_add rfl rfl rfl ?_
  refine s_callL (M := [_, _, _]) (L1 := Lt) Try.call78 rfl rfl hs (fun h => delete_ok _ _ _ Lt i w hO h (mcells_one ms) hin (by omega)) ?_
  clear hs; intro v w Lt' hO' _ hs
  simp only [List.cons_append, List.nil_append] at hs
  obtain ⟨tl', tc', ta', rfl, rfl⟩ := hO'.form
  refine s_nilCheck rfl rfl ?_
  refine s_fieldAddr rfl rfl (FA112_1 _ _) ?_
  first
    | refine s_storeB Try.sizeOf29 rfl rfl rfl hs (kk := 0) rfl rfl ?_
    | refine s_storeB Try.sizeOf29 rfl rfl rfl hs (kk := 1) rfl rfl ?_
    | refine s_storeB Try.sizeOf29 rfl rfl rfl hs (kk := 2) rfl rfl ?_
    | refine s_storeB Try.sizeOf29 rfl rfl rfl hs (kk := 3) rfl rfl ?_
    | refine s_storeB Try.sizeOf29 rfl rfl rfl hs (kk := 4) rfl rfl ?_
    | refine s_storeB Try.sizeOf29 rfl rfl rfl hs (kk := 5) rfl rfl ?_
    | refine s_storeB Try.sizeOf29 rfl rfl rfl hs (kk := 6) rfl rfl ?_
    | refine s_storeB Try.sizeOf29 rfl rfl rfl hs (kk := 7) rfl rfl ?_
    | refine s_storeB Try.sizeOf29 rfl rfl rfl hs (kk := 8) rfl rfl ?_
    | refine s_storeB Try.sizeOf29 rfl rfl rfl hs (kk := 9) rfl rfl ?_
  clear hs; intro w hs; try simp only [List.set_cons_zero, List.set_cons_succ, splice, List.take_succ_cons, List.take_zero, List.drop_succ_cons, List.drop_zero, List.nil_append, List.cons_append, List.length_cons, List.length_nil, Nat.reduceAdd, List.append_assoc] at hs
  refine WL_nil ?_
  refine n_then ?_
  refine W_seq ?_
  refine W_region ?_
  refine s_assign rfl rfl ?_
  refine WL_nil ?_
  refine n_then ?_
  refine W_ret ?_
  have hl : (ms.eraseIdx i.toNat).length = ms.length - 1 := by rw [List.length_eraseIdx, if_pos (by omega)]
  rw [mblks_split hm] at hs
  refine end1 rfl rfl ⟨_, St.reord [[_], [_], [_], Lt', mblks (ms.take i.toNat), [m.blk], mblks (ms.drop (i.toNat + 1))] [1, 2, 3, 4, 6] [0, 5] hs rfl, rfl, g, .slice ta' (ms.length - 1) tc', Lt', ?_, ?_⟩
  · rw [mblks_erase]; rfl
  · rw [mcells_erase, hl]; exact hO'
end Go.Proofs.Ytkobigdfijeajaa

/- Contracts of package net: Take, Partition. -/
namespace Go.Proofs.Ytkobigdfijeajaa
open Go.SL
theorem take_no (p : Nat) (gs : List Int) (ms : List Msg) (i : Int) (L0 : Hp) (w0 : World) (hN : NetAt p gs ms L0) (hs : St (ids L0) w0 w0 L0) (hin : ¬ (0 ≤ i ∧ i < ms.length)) :
    Ret Try.prog 61 [.pointer (some ⟨p, 0, none⟩), .int .i64 i].toArray w0 fun r w' => ∃ L', St (ids L0) w0 w' L' ∧ r = .tuple #[.agg #[.int .i64 0, .int .i64 0, .slice none 0 0], .int .i64 9] ∧ NetAt p gs ms L' := by
  obtain ⟨g, tv, Lt, hL, hO⟩ := hN
  obtain ⟨tl, tc, ta, rfl, rfl⟩ := hO.form
  replace hs : St (ids L0) w0 w0 ((p, Blk 112 [.slice (some ⟨g, 0, none⟩) gs.length gs.length, .slice ta ms.length tc]) :: (g, Blk 3 (i64s gs)) :: (Lt ++ mblks ms)) := by rw [hL] at hs ⊢; exact hs
  refine Ret_startL hs fun w hs => ?_
  refine Ret_of Try.func61 rfl Try.ntmps61 rfl ?_
  refine W_seq ?_
  refine W_region ?_
  refine s_alloc rfl AL56 hs ?_; clear hs; intro b4 w hs
  refine s_assign rfl rfl ?_
  refine WL_nil ?_
  refine n_then ?_
  refine W_seq ?_
  refine W_region ?_
  refine s_move rfl rfl ?_
  refine s_nilCheck rfl rfl ?_
  refine s_fieldAddr rfl rfl (FA112_1 _ _) ?_
  first
    | refine s_load Try.isAgg29 rfl rfl (hs.cell (k := 0) rfl rfl) ?_
    | refine s_load Try.isAgg29 rfl rfl (hs.cell (k := 1) rfl rfl) ?_
    | refine s_load Try.isAgg29 rfl rfl (hs.cell (k := 2) rfl rfl) ?_
    | refine s_load Try.isAgg29 rfl rfl (hs.cell (k := 3) rfl rfl) ?_
    | refine s_load Try.isAgg29 rfl rfl (hs.cell (k := 4) rfl rfl) ?_
    | refine s_load Try.isAgg29 rfl rfl (hs.cell (k := 5) rfl rfl) ?_
    | refine s_load Try.isAgg29 rfl rfl (hs.cell (k := 6) rfl rfl) ?_
    | refine s_load Try.isAgg29 rfl rfl (hs.cell (k := 7) rfl rfl) ?_
    | refine s_load Try.isAgg29 rfl rfl (hs.cell (k := 8) rfl rfl) ?_
    | refine s_load Try.isAgg29 rfl rfl (hs.cell (k := 9) rfl rfl) ?_
  refine s_move rfl rfl ?_
  refine s_call Try.call76 rfl rfl (element_ok _ ms i w (hO.slM (M := [_, _, _]) hs)) ?_
  rintro r w ⟨hst, h⟩
  obtain ⟨m, h1, hm, rfl⟩ | ⟨_, rfl⟩ := h
  case inl => exact absurd ⟨h1, (by have := (List.getElem?_eq_some_iff.1 hm).1; omega)⟩ hin
  replace hs := hs.fwd1 hst
  clear hst
  refine s_move rfl rfl ?_
  refine s_extract rfl rfl rfl ?_
  refine s_extract rfl rfl rfl ?_
  refine s_alloc rfl AL56 hs ?_; clear hs; intro b6 w hs
  first
    | refine s_storeW Try.sizeOf56 rfl rfl rfl rfl hs (kk := 0) rfl rfl ?_
    | refine s_storeW Try.sizeOf56 rfl rfl rfl rfl hs (kk := 1) rfl rfl ?_
    | refine s_storeW Try.sizeOf56 rfl rfl rfl rfl hs (kk := 2) rfl rfl ?_
    | refine s_storeW Try.sizeOf56 rfl rfl rfl rfl hs (kk := 3) rfl rfl ?_
    | refine s_storeW Try.sizeOf56 rfl rfl rfl rfl hs (kk := 4) rfl rfl ?_
    | refine s_storeW Try.sizeOf56 rfl rfl rfl rfl hs (kk := 5) rfl rfl ?_
    | refine s_storeW Try.sizeOf56 rfl rfl rfl rfl hs (kk := 6) rfl rfl ?_
    | refine s_storeW Try.sizeOf56 rfl rfl rfl rfl hs (kk := 7) rfl rfl ?_
    | refine s_storeW Try.sizeOf56 rfl rfl rfl rfl hs (kk := 8) rfl rfl ?_
    | refine s_storeW Try.sizeOf56 rfl rfl rfl rfl hs (kk := 9) rfl rfl ?_
    | refine s_storeAB Try.sizeOf56 rfl rfl rfl rfl hs (kk := 0) rfl rfl ?_
    | refine s_storeAB Try.sizeOf56 rfl rfl rfl rfl hs (kk := 1) rfl rfl ?_
    | refine s_storeAB Try.sizeOf56 rfl rfl rfl rfl hs (kk := 2) rfl rfl ?_
    | refine s_storeAB Try.sizeOf56 rfl rfl rfl rfl hs (kk := 3) rfl rfl ?_
    | refine s_storeAB Try.sizeOf56 rfl rfl rfl rfl hs (kk := 4) rfl rfl ?_
    | refine s_storeAB Try.sizeOf56 rfl rfl rfl rfl hs (kk := 5) rfl rfl ?_
    | refine s_storeAB Try.sizeOf56 rfl rfl rfl rfl hs (kk := 6) rfl rfl ?_
    | refine s_storeAB Try.sizeOf56 rfl rfl rfl rfl hs (kk := 7) rfl rfl ?_
    | refine s_storeAB Try.sizeOf56 rfl rfl rfl rfl hs (kk := 8) rfl rfl ?_
    | refine s_storeAB Try.sizeOf56 rfl rfl rfl rfl hs (kk := 9) rfl rfl ?_
  clear hs; intro w hs; try simp only [List.set_cons_zero, List.set_cons_succ, splice, List.take_succ_cons, List.take_zero, List.drop_succ_cons, List.drop_zero, List.nil_append, List.cons_append, List.length_cons, List.length_nil, Nat.reduceAdd, List.append_assoc] at hs
  refine s_assign rfl rfl ?_
  refine WL_nil ?_
  refine n_then ?_
  refine W_seq ?_
  refine W_seq ?_
  refine W_region ?_
  refine s_move rfl rfl ?_
  refine s_not rfl rfl ?_
  refine WL_nil ?_
  refine n_then ?_
  refine W_cond_kt rfl (rfl) ?_
  refine W_seq ?_
  refine W_region ?_
  refine s_build rfl rfl (BD56_ ) ?_
  first
    | refine s_storeW Try.sizeOf56 rfl rfl rfl rfl hs (kk := 0) rfl rfl ?_
    | refine s_storeW Try.sizeOf56 rfl rfl rfl rfl hs (kk := 1) rfl rfl ?_
    | refine s_storeW Try.sizeOf56 rfl rfl rfl rfl hs (kk := 2) rfl rfl ?_
    | refine s_storeW Try.sizeOf56 rfl rfl rfl rfl hs (kk := 3) rfl rfl ?_
    | refine s_storeW Try.sizeOf56 rfl rfl rfl rfl hs (kk := 4) rfl rfl ?_
    | refine s_storeW Try.sizeOf56 rfl rfl rfl rfl hs (kk := 5) rfl rfl ?_
    | refine s_storeW Try.sizeOf56 rfl rfl rfl rfl hs (kk := 6) rfl rfl ?_
    | refine s_storeW Try.sizeOf56 rfl rfl rfl rfl hs (kk := 7) rfl rfl ?_
    | refine s_storeW Try.sizeOf56 rfl rfl rfl rfl hs (kk := 8) rfl rfl ?_
    | refine s_storeW Try.sizeOf56 rfl rfl rfl rfl hs (kk := 9) rfl rfl ?_
    | refine s_storeAB Try.sizeOf56 rfl rfl rfl rfl hs (kk := 0) rfl rfl ?_
    | refine s_storeAB Try.sizeOf56 rfl rfl rfl rfl hs (kk := 1) rfl rfl ?_
    | refine s_storeAB Try.sizeOf56 rfl rfl rfl rfl hs (kk := 2) rfl rfl ?_
    | refine s_storeAB Try.sizeOf56 rfl rfl rfl rfl hs (kk := 3) rfl rfl ?_
    | refine s_storeAB Try.sizeOf56 rfl rfl rfl rfl hs (kk := 4) rfl rfl ?_
    | refine s_storeAB Try.sizeOf56 rfl rfl rfl rfl hs (kk := 5) rfl rfl ?_
    | refine s_storeAB Try.sizeOf56 rfl rfl rfl rfl hs (kk := 6) rfl rfl ?_
    | refine s_storeAB Try.sizeOf56 rfl rfl rfl rfl hs (kk := 7) rfl rfl ?_
    | refine s_storeAB Try.sizeOf56 rfl rfl rfl rfl hs (kk := 8) rfl rfl ?_
    | refine s_storeAB Try.sizeOf56 rfl rfl rfl rfl hs (kk := 9) rfl rfl ?_
  clear hs; intro w hs; try simp only [List.set_cons_zero, List.set_cons_succ, splice, List.take_succ_cons, List.take_zero, List.drop_succ_cons, List.drop_zero, List.nil_append, List.cons_append, List.length_cons, List.length_nil, Nat.reduceAdd, List.append_assoc] at hs
  refine s_assign rfl rfl ?_
  refine WL_nil ?_
  refine n_then ?_
  refine W_ret ?_
  refine r_then ?_
  refine end2 rfl (resOk_block Try.isAgg56 Try.sizeOf56 hs rfl (kk := 1) rfl rfl) rfl ?_
  exact ⟨_, hs.tail.tail, rfl, g, _, Lt, rfl, hO⟩
/-- the group of a node -/
def grp (gs : List Int) (i : Int) : Int := gs.getD i.toNat 0
theorem gs_at {gs : List Int} {i : Int} (h : 0 ≤ i ∧ i < gs.length) : (i64s gs)[0 + i.toNat]? = some (.int .i64 (grp gs i)) := by
  have : i.toNat < gs.length := by omega
  simp [grp, this]
theorem take_yes (p : Nat) (gs : List Int) (ms : List Msg) (i : Int) (L0 : Hp) (w0 : World) (hN : NetAt p gs ms L0) (hs : St (ids L0) w0 w0 L0) (hin : 0 ≤ i ∧ i < ms.length) (hml : ms.length ≤ 1000) (m : Msg) (hm : ms[i.toNat]? = some m)
    (hmv : 0 ≤ m.f ∧ m.f < gs.length ∧ 0 ≤ m.t ∧ m.t < gs.length) :
    Ret Try.prog 61 [.pointer (some ⟨p, 0, none⟩), .int .i64 i].toArray w0 fun r w' => ∃ L', St (ids L0) w0 w' L' ∧
      ((grp gs m.f ≠ grp gs m.t ∧ r = .tuple #[.agg #[.int .i64 0, .int .i64 0, .slice none 0 0], .int .i64 20] ∧ NetAt p gs ms L') ∨
       (grp gs m.f = grp gs m.t ∧ r = .tuple #[.agg m.cells.toArray, .int .i64 0] ∧ ∃ L1, L' = m.blk :: L1 ∧ NetAt p gs (ms.eraseIdx i.toNat) L1)) := by
  obtain ⟨g, tv, Lt, hL, hO⟩ := hN
  obtain ⟨tl, tc, ta, rfl, rfl⟩ := hO.form
  replace hs : St (ids L0) w0 w0 ((p, Blk 112 [.slice (some ⟨g, 0, none⟩) gs.length gs.length, .slice ta ms.length tc]) :: (g, Blk 3 (i64s gs)) :: (Lt ++ mblks ms)) := by rw [hL] at hs ⊢; exact hs
  refine Ret_startL hs fun w hs => ?_
  refine Ret_of Try.func61 rfl Try.ntmps61 rfl ?_
  refine W_seq ?_
  refine W_region ?_
  refine s_alloc rfl AL56 hs ?_; clear hs; intro b4 w hs
  refine s_assign rfl rfl ?_
  refine WL_nil ?_
  refine n_then ?_
  refine W_seq ?_
  refine W_region ?_
  refine s_move rfl rfl ?_
  refine s_nilCheck rfl rfl ?_
  refine s_fieldAddr rfl rfl (FA112_1 _ _) ?_
  first
    | refine s_load Try.isAgg29 rfl rfl (hs.cell (k := 0) rfl rfl) ?_
    | refine s_load Try.isAgg29 rfl rfl (hs.cell (k := 1) rfl rfl) ?_
    | refine s_load Try.isAgg29 rfl rfl (hs.cell (k := 2) rfl rfl) ?_
    | refine s_load Try.isAgg29 rfl rfl (hs.cell (k := 3) rfl rfl) ?_
    | refine s_load Try.isAgg29 rfl rfl (hs.cell (k := 4) rfl rfl) ?_
    | refine s_load Try.isAgg29 rfl rfl (hs.cell (k := 5) rfl rfl) ?_
    | refine s_load Try.isAgg29 rfl rfl (hs.cell (k := 6) rfl rfl) ?_
    | refine s_load Try.isAgg29 rfl rfl (hs.cell (k := 7) rfl rfl) ?_
    | refine s_load Try.isAgg29 rfl rfl (hs.cell (k := 8) rfl rfl) ?_
    | refine s_load Try.isAgg29 rfl rfl (hs.cell (k := 9) rfl rfl) ?_
    | refine s_load Try.isAgg29 rfl rfl (hs.cell (k := 3) (e := 3) (fz := (0, 0)) rfl (gs_at ⟨hmv.1, hmv.2.1⟩)) ?_
    | refine s_load Try.isAgg29 rfl rfl (hs.cell (k := 3) (e := 3) (fz := (0, 0)) rfl (gs_at ⟨hmv.2.2.1, hmv.2.2.2⟩)) ?_
  refine s_move rfl rfl ?_
  refine s_call Try.call76 rfl rfl (element_ok _ ms i w (hO.slM (M := [_, _, _]) hs)) ?_
  rintro r w ⟨hst, h⟩
  obtain ⟨m', _, hm', rfl⟩ | ⟨h, _⟩ := h
  case inr => exact absurd hin h
  obtain rfl : m' = m := Option.some.inj (hm'.symm.trans hm)
  replace hs := hs.fwd1 hst
  clear hst
  simp only [Msg.cells]
  refine s_move rfl rfl ?_
  refine s_extract rfl rfl rfl ?_
  refine s_extract rfl rfl rfl ?_
  refine s_alloc rfl AL56 hs ?_; clear hs; intro b6 w hs
  first
    | refine s_storeW Try.sizeOf56 rfl rfl rfl rfl hs (kk := 0) rfl rfl ?_
    | refine s_storeW Try.sizeOf56 rfl rfl rfl rfl hs (kk := 1) rfl rfl ?_
    | refine s_storeW Try.sizeOf56 rfl rfl rfl rfl hs (kk := 2) rfl rfl ?_
    | refine s_storeW Try.sizeOf56 rfl rfl rfl rfl hs (kk := 3) rfl rfl ?_
    | refine s_storeW Try.sizeOf56 rfl rfl rfl rfl hs (kk := 4) rfl rfl ?_
    | refine s_storeW Try.sizeOf56 rfl rfl rfl rfl hs (kk := 5) rfl rfl ?_
    | refine s_storeW Try.sizeOf56 rfl rfl rfl rfl hs (kk := 6) rfl rfl ?_
    | refine s_storeW Try.sizeOf56 rfl rfl rfl rfl hs (kk := 7) rfl rfl ?_
    | refine s_storeW Try.sizeOf56 rfl rfl rfl rfl hs (kk := 8) rfl rfl ?_
    | refine s_storeW Try.sizeOf56 rfl rfl rfl rfl hs (kk := 9) rfl rfl ?_
    | refine s_storeAB Try.sizeOf56 rfl rfl rfl rfl hs (kk := 0) rfl rfl ?_
    | refine s_storeAB Try.sizeOf56 rfl rfl rfl rfl hs (kk := 1) rfl rfl ?_
    | refine s_storeAB Try.sizeOf56 rfl rfl rfl rfl hs (kk := 2) rfl rfl ?_
    | refine s_storeAB Try.sizeOf56 rfl rfl rfl rfl hs (kk := 3) rfl rfl ?_
    | refine s_storeAB Try.sizeOf56 rfl rfl rfl rfl hs (kk := 4) rfl rfl ?_
    | refine s_storeAB Try.sizeOf56 rfl rfl rfl rfl hs (kk := 5) rfl rfl ?_
    | refine s_storeAB Try.sizeOf56 rfl rfl rfl rfl hs (kk := 6) rfl rfl ?_
    | refine s_storeAB Try.sizeOf56 rfl rfl rfl rfl hs (kk := 7) rfl rfl ?_
    | refine s_storeAB Try.sizeOf56 rfl rfl rfl rfl hs (kk := 8) rfl rfl ?_
    | refine s_storeAB Try.sizeOf56 rfl rfl rfl rfl hs (kk := 9) rfl rfl ?_
  clear hs; intro w hs; try simp only [List.set_cons_zero, List.set_cons_succ, splice, List.take_succ_cons, List.take_zero, List.drop_succ_cons, List.drop_zero, List.nil_append, List.cons_append, List.length_cons, List.length_nil, Nat.reduceAdd, List.append_assoc] at hs
  refine s_assign rfl rfl ?_
  refine WL_nil ?_
  refine n_then ?_
  refine W_seq ?_
  refine W_seq ?_
  refine W_region ?_
  refine s_move rfl rfl ?_
  refine s_not rfl rfl ?_
  refine WL_nil ?_
  refine n_then ?_
  refine W_cond_kf rfl (rfl) ?_
  refine W_skip ?_
  refine n_then ?_
  refine W_seq ?_
  refine W_seq ?_
  refine W_draw [(0, true, []), (1, true, []), (2, true, []), (3, true, []), (4, true, []), (5, true, []), (6, true, []), (7, true, []), (8, true, []), (9, true, []), (10, true, []), (11, true, []), (12, true, []), (13, true, []), (14, true, []), (15, true, []), (16, true, [])] [[], [0], [0, 1], [0, 1, 2], [], [4], [0, 1, 2, 3, 4, 5], [0, 1, 2, 3, 4, 5, 6], [], [8], [8, 9], [8, 9, 10], [], [12], [8, 9, 10, 11, 12, 13], [8, 9, 10, 11, 12, 13, 14], [0, 1, 2, 3, 4, 5, 6, 7, 8, 9, 10, 11, 12, 13, 14, 15]] MX (by kernel_rfl) ?_
  intro w1 hw1 hw2 hw3 hw4; replace hs := hs.redrawn hw1 hw2 hw3 hw4; clear hw1 hw2 hw3 hw4
  obtain ⟨w, rfl⟩ : ∃ w : World, w = w1 := ⟨_, rfl⟩
  refine D_q rfl rfl ?_
  refine s_move rfl rfl ?_
  refine D_qn ?_
  refine D_q rfl rfl ?_
  refine s_nilCheck rfl rfl ?_
  refine D_qn ?_
  refine D_q rfl rfl ?_
  refine s_fieldAddr rfl rfl (FA112_0 _ _) ?_
  refine D_qn ?_
  refine D_q rfl rfl ?_
  first
    | refine s_load Try.isAgg58 rfl rfl (hs.cell (k := 0) rfl rfl) ?_
    | refine s_load Try.isAgg58 rfl rfl (hs.cell (k := 1) rfl rfl) ?_
    | refine s_load Try.isAgg58 rfl rfl (hs.cell (k := 2) rfl rfl) ?_
    | refine s_load Try.isAgg58 rfl rfl (hs.cell (k := 3) rfl rfl) ?_
    | refine s_load Try.isAgg58 rfl rfl (hs.cell (k := 4) rfl rfl) ?_
    | refine s_load Try.isAgg58 rfl rfl (hs.cell (k := 5) rfl rfl) ?_
    | refine s_load Try.isAgg58 rfl rfl (hs.cell (k := 6) rfl rfl) ?_
    | refine s_load Try.isAgg58 rfl rfl (hs.cell (k := 7) rfl rfl) ?_
    | refine s_load Try.isAgg58 rfl rfl (hs.cell (k := 8) rfl rfl) ?_
    | refine s_load Try.isAgg58 rfl rfl (hs.cell (k := 9) rfl rfl) ?_
    | refine s_load Try.isAgg58 rfl rfl (hs.cell (k := 3) (e := 3) (fz := (0, 0)) rfl (gs_at ⟨hmv.1, hmv.2.1⟩)) ?_
    | refine s_load Try.isAgg58 rfl rfl (hs.cell (k := 3) (e := 3) (fz := (0, 0)) rfl (gs_at ⟨hmv.2.2.1, hmv.2.2.2⟩)) ?_
  refine D_qn ?_
  refine D_q rfl rfl ?_
  refine s_fieldAddr rfl rfl (FA56_0 _ _) ?_
  refine D_qn ?_
  refine D_q rfl rfl ?_
  first
    | refine s_load Try.isAgg3 rfl rfl (hs.cell (k := 0) rfl rfl) ?_
    | refine s_load Try.isAgg3 rfl rfl (hs.cell (k := 1) rfl rfl) ?_
    | refine s_load Try.isAgg3 rfl rfl (hs.cell (k := 2) rfl rfl) ?_
    | refine s_load Try.isAgg3 rfl rfl (hs.cell (k := 3) rfl rfl) ?_
    | refine s_load Try.isAgg3 rfl rfl (hs.cell (k := 4) rfl rfl) ?_
    | refine s_load Try.isAgg3 rfl rfl (hs.cell (k := 5) rfl rfl) ?_
    | refine s_load Try.isAgg3 rfl rfl (hs.cell (k := 6) rfl rfl) ?_
    | refine s_load Try.isAgg3 rfl rfl (hs.cell (k := 7) rfl rfl) ?_
    | refine s_load Try.isAgg3 rfl rfl (hs.cell (k := 8) rfl rfl) ?_
    | refine s_load Try.isAgg3 rfl rfl (hs.cell (k := 9) rfl rfl) ?_
    | refine s_load Try.isAgg3 rfl rfl (hs.cell (k := 3) (e := 3) (fz := (0, 0)) rfl (gs_at ⟨hmv.1, hmv.2.1⟩)) ?_
    | refine s_load Try.isAgg3 rfl rfl (hs.cell (k := 3) (e := 3) (fz := (0, 0)) rfl (gs_at ⟨hmv.2.2.1, hmv.2.2.2⟩)) ?_
  refine D_qn ?_
  refine D_q rfl rfl ?_
  (refine s_indexAddr1 El58 rfl rfl rfl ?hx ?_; case hx => (constructor <;> first | omega | (simp; omega)))
  refine D_qn ?_
  refine D_q rfl rfl ?_
  first
    | refine s_load Try.isAgg3 rfl rfl (hs.cell (k := 0) rfl rfl) ?_
    | refine s_load Try.isAgg3 rfl rfl (hs.cell (k := 1) rfl rfl) ?_
    | refine s_load Try.isAgg3 rfl rfl (hs.cell (k := 2) rfl rfl) ?_
    | refine s_load Try.isAgg3 rfl rfl (hs.cell (k := 3) rfl rfl) ?_
    | refine s_load Try.isAgg3 rfl rfl (hs.cell (k := 4) rfl rfl) ?_
    | refine s_load Try.isAgg3 rfl rfl (hs.cell (k := 5) rfl rfl) ?_
    | refine s_load Try.isAgg3 rfl rfl (hs.cell (k := 6) rfl rfl) ?_
    | refine s_load Try.isAgg3 rfl rfl (hs.cell (k := 7) rfl rfl) ?_
    | refine s_load Try.isAgg3 rfl rfl (hs.cell (k := 8) rfl rfl) ?_
    | refine s_load Try.isAgg3 rfl rfl (hs.cell (k := 9) rfl rfl) ?_
    | refine s_load Try.isAgg3 rfl rfl (hs.cell (k := 3) (e := 3) (fz := (0, 0)) rfl (gs_at ⟨hmv.1, hmv.2.1⟩)) ?_
    | refine s_load Try.isAgg3 rfl rfl (hs.cell (k := 3) (e := 3) (fz := (0, 0)) rfl (gs_at ⟨hmv.2.2.1, hmv.2.2.2⟩)) ?_
  refine D_qn ?_
  refine D_q rfl rfl ?_
  refine s_move rfl rfl ?_
  refine D_qn ?_
  refine D_q rfl rfl ?_
  refine s_nilCheck rfl rfl ?_
  refine D_qn ?_
  refine D_q rfl rfl ?_
  refine s_fieldAddr rfl rfl (FA112_0 _ _) ?_
  refine D_qn ?_
  refine D_q rfl rfl ?_
  first
    | refine s_load Try.isAgg58 rfl rfl (hs.cell (k := 0) rfl rfl) ?_
    | refine s_load Try.isAgg58 rfl rfl (hs.cell (k := 1) rfl rfl) ?_
    | refine s_load Try.isAgg58 rfl rfl (hs.cell (k := 2) rfl rfl) ?_
    | refine s_load Try.isAgg58 rfl rfl (hs.cell (k := 3) rfl rfl) ?_
    | refine s_load Try.isAgg58 rfl rfl (hs.cell (k := 4) rfl rfl) ?_
    | refine s_load Try.isAgg58 rfl rfl (hs.cell (k := 5) rfl rfl) ?_
    | refine s_load Try.isAgg58 rfl rfl (hs.cell (k := 6) rfl rfl) ?_
    | refine s_load Try.isAgg58 rfl rfl (hs.cell (k := 7) rfl rfl) ?_
    | refine s_load Try.isAgg58 rfl rfl (hs.cell (k := 8) rfl rfl) ?_
    | refine s_load Try.isAgg58 rfl rfl (hs.cell (k := 9) rfl rfl) ?_
    | refine s_load Try.isAgg58 rfl rfl (hs.cell (k := 3) (e := 3) (fz := (0, 0)) rfl (gs_at ⟨hmv.1, hmv.2.1⟩)) ?_
    | refine s_load Try.isAgg58 rfl rfl (hs.cell (k := 3) (e := 3) (fz := (0, 0)) rfl (gs_at ⟨hmv.2.2.1, hmv.2.2.2⟩)) ?_
  refine D_qn ?_
  refine D_q rfl rfl ?_
  refine s_fieldAddr rfl rfl (FA56_1 _ _) ?_
  refine D_qn ?_
  refine D_q rfl rfl ?_
  first
    | refine s_load Try.isAgg3 rfl rfl (hs.cell (k := 0) rfl rfl) ?_
    | refine s_load Try.isAgg3 rfl rfl (hs.cell (k := 1) rfl rfl) ?_
    | refine s_load Try.isAgg3 rfl rfl (hs.cell (k := 2) rfl rfl) ?_
    | refine s_load Try.isAgg3 rfl rfl (hs.cell (k := 3) rfl rfl) ?_
    | refine s_load Try.isAgg3 rfl rfl (hs.cell (k := 4) rfl rfl) ?_
    | refine s_load Try.isAgg3 rfl rfl (hs.cell (k := 5) rfl rfl) ?_
    | refine s_load Try.isAgg3 rfl rfl (hs.cell (k := 6) rfl rfl) ?_
    | refine s_load Try.isAgg3 rfl rfl (hs.cell (k := 7) rfl rfl) ?_
    | refine s_load Try.isAgg3 rfl rfl (hs.cell (k := 8) rfl rfl) ?_
    | refine s_load Try.isAgg3 rfl rfl (hs.cell (k := 9) rfl rfl) ?_
    | refine s_load Try.isAgg3 rfl rfl (hs.cell (k := 3) (e := 3) (fz := (0, 0)) rfl (gs_at ⟨hmv.1, hmv.2.1⟩)) ?_
    | refine s_load Try.isAgg3 rfl rfl (hs.cell (k := 3) (e := 3) (fz := (0, 0)) rfl (gs_at ⟨hmv.2.2.1, hmv.2.2.2⟩)) ?_
  refine D_qn ?_
  refine D_q rfl rfl ?_
  (refine s_indexAddr1 El58 rfl rfl rfl ?hx ?_; case hx => (constructor <;> first | omega | (simp; omega)))
  refine D_qn ?_
  refine D_q rfl rfl ?_
  first
    | refine s_load Try.isAgg3 rfl rfl (hs.cell (k := 0) rfl rfl) ?_
    | refine s_load Try.isAgg3 rfl rfl (hs.cell (k := 1) rfl rfl) ?_
    | refine s_load Try.isAgg3 rfl rfl (hs.cell (k := 2) rfl rfl) ?_
    | refine s_load Try.isAgg3 rfl rfl (hs.cell (k := 3) rfl rfl) ?_
    | refine s_load Try.isAgg3 rfl rfl (hs.cell (k := 4) rfl rfl) ?_
    | refine s_load Try.isAgg3 rfl rfl (hs.cell (k := 5) rfl rfl) ?_
    | refine s_load Try.isAgg3 rfl rfl (hs.cell (k := 6) rfl rfl) ?_
    | refine s_load Try.isAgg3 rfl rfl (hs.cell (k := 7) rfl rfl) ?_
    | refine s_load Try.isAgg3 rfl rfl (hs.cell (k := 8) rfl rfl) ?_
    | refine s_load Try.isAgg3 rfl rfl (hs.cell (k := 9) rfl rfl) ?_
    | refine s_load Try.isAgg3 rfl rfl (hs.cell (k := 3) (e := 3) (fz := (0, 0)) rfl (gs_at ⟨hmv.1, hmv.2.1⟩)) ?_
    | refine s_load Try.isAgg3 rfl rfl (hs.cell (k := 3) (e := 3) (fz := (0, 0)) rfl (gs_at ⟨hmv.2.2.1, hmv.2.2.2⟩)) ?_
  refine D_qn ?_
  refine D_q rfl rfl ?_
  refine s_neq rfl rfl rfl ?_
  refine D_qn ?_
  refine D_nil ?_
  refine n_then ?_
  refine W_cond rfl (fun hc36 => ?_) (fun hc36 => ?_)
  · skip
    simp only [decide_eq_true_eq, decide_eq_false_iff_not, bne_iff_ne, bne_eq_false_iff_eq, ne_eq] at hc36
    refine W_seq ?_
    refine W_region ?_
    refine s_build rfl rfl (BD56_ ) ?_
    first
      | refine s_storeW Try.sizeOf56 rfl rfl rfl rfl hs (kk := 0) rfl rfl ?_
      | refine s_storeW Try.sizeOf56 rfl rfl rfl rfl hs (kk := 1) rfl rfl ?_
      | refine s_storeW Try.sizeOf56 rfl rfl rfl rfl hs (kk := 2) rfl rfl ?_
      | refine s_storeW Try.sizeOf56 rfl rfl rfl rfl hs (kk := 3) rfl rfl ?_
      | refine s_storeW Try.sizeOf56 rfl rfl rfl rfl hs (kk := 4) rfl rfl ?_
      | refine s_storeW Try.sizeOf56 rfl rfl rfl rfl hs (kk := 5) rfl rfl ?_
      | refine s_storeW Try.sizeOf56 rfl rfl rfl rfl hs (kk := 6) rfl rfl ?_
      | refine s_storeW Try.sizeOf56 rfl rfl rfl rfl hs (kk := 7) rfl rfl ?_
      | refine s_storeW Try.sizeOf56 rfl rfl rfl rfl hs (kk := 8) rfl rfl ?_
      | refine s_storeW Try.sizeOf56 rfl rfl rfl rfl hs (kk := 9) rfl rfl ?_
      | refine s_storeAB Try.sizeOf56 rfl rfl rfl rfl hs (kk := 0) rfl rfl ?_
      | refine s_storeAB Try.sizeOf56 rfl rfl rfl rfl hs (kk := 1) rfl rfl ?_
      | refine s_storeAB Try.sizeOf56 rfl rfl rfl rfl hs (kk := 2) rfl rfl ?_
      | refine s_storeAB Try.sizeOf56 rfl rfl rfl rfl hs (kk := 3) rfl rfl ?_
      | refine s_storeAB Try.sizeOf56 rfl rfl rfl rfl hs (kk := 4) rfl rfl ?_
      | refine s_storeAB Try.sizeOf56 rfl rfl rfl rfl hs (kk := 5) rfl rfl ?_
      | refine s_storeAB Try.sizeOf56 rfl rfl rfl rfl hs (kk := 6) rfl rfl ?_
      | refine s_storeAB Try.sizeOf56 rfl rfl rfl rfl hs (kk := 7) rfl rfl ?_
      | refine s_storeAB Try.sizeOf56 rfl rfl rfl rfl hs (kk := 8) rfl rfl ?_
      | refine s_storeAB Try.sizeOf56 rfl rfl rfl rfl hs (kk := 9) rfl rfl ?_
    clear hs; intro w hs; try simp only [List.set_cons_zero, List.set_cons_succ, splice, List.take_succ_cons, List.take_zero, List.drop_succ_cons, List.drop_zero, List.nil_append, List.cons_append, List.length_cons, List.length_nil, Nat.reduceAdd, List.append_assoc] at hs
    refine s_assign rfl rfl ?_
    refine WL_nil ?_
    refine n_then ?_
    refine W_ret ?_
    refine r_then ?_
    refine end2 rfl (resOk_block Try.isAgg56 Try.sizeOf56 hs rfl (kk := 1) rfl rfl) rfl ?_
    first
      | exact ⟨_, hs.tail.tail, Or.inl ⟨by assumption, rfl, g, _, Lt, rfl, hO⟩⟩
      | (have hl : (ms.eraseIdx i.toNat).length = ms.length - 1 := by rw [List.length_eraseIdx, if_pos (by omega)]
         rw [mblks_split hm] at hs
         refine ⟨_, St.reord [[_], [_], [_], [_], Lt', mblks (ms.take i.toNat), [m'.blk], mblks (ms.drop (i.toNat + 1))] [6, 2, 3, 4, 5, 7] [0, 1] hs rfl, Or.inr ⟨by assumption, rfl, _, rfl, g, .slice ta' (ms.length - 1) tc', Lt', ?_, ?_⟩⟩
         · rw [mblks_erase]; rfl
         · rw [mcells_erase, hl]; exact hO')
  · skip
    simp only [decide_eq_true_eq, decide_eq_false_iff_not, bne_iff_ne, bne_eq_false_iff_eq, ne_eq] at hc36
    refine W_skip ?_
    refine n_then ?_
    refine W_seq ?_
    refine W_region ?_
    refine s_move rfl rfl ?_
    refine s_move rfl rfl ?_
    refine s_nilCheck rfl rfl ?_
    refine s_fieldAddr rfl rfl (FA112_1 _ _) ?_
    first
      | refine s_load Try.isAgg29 rfl rfl (hs.cell (k := 0) rfl rfl) ?_
      | refine s_load Try.isAgg29 rfl rfl (hs.cell (k := 1) rfl rfl) ?_
      | refine s_load Try.isAgg29 rfl rfl (hs.cell (k := 2) rfl rfl) ?_
      | refine s_load Try.isAgg29 rfl rfl (hs.cell (k := 3) rfl rfl) ?_
      | refine s_load Try.isAgg29 rfl rfl (hs.cell (k := 4) rfl rfl) ?_
      | refine s_load Try.isAgg29 rfl rfl (hs.cell (k := 5) rfl rfl) ?_
      | refine s_load Try.isAgg29 rfl rfl (hs.cell (k := 6) rfl rfl) ?_
      | refine s_load Try.isAgg29 rfl rfl (hs.cell (k := 7) rfl rfl) ?_
      | refine s_load Try.isAgg29 rfl rfl (hs.cell (k := 8) rfl rfl) ?_
      | refine s_load Try.isAgg29 rfl rfl (hs.cell (k := 9) rfl rfl) ?_
      | refine s_load Try.isAgg29 rfl rfl (hs.cell (k := 3) (e := 3) (fz := (0, 0)) rfl (gs_at ⟨hmv.1, hmv.2.1⟩)) ?_
      | refine s_load Try.isAgg29 rfl rfl (hs.cell (k := 3) (e := 3) (fz := (0, 0)) rfl (gs_at ⟨hmv.2.2.1, hmv.2.2.2⟩)) ?_
    refine s_move rfl rfl ?_
    refine s_move rfl rfl ?_
    first | (refine s_add' rfl rfl rfl ?hx ?_; case hx => (constructor <;> first | omega | (simp only; omega))) | refine s_add rfl rfl rfl ?_
    refine s_callL (M := [_, _, _, _]) (L1 := Lt) Try.call78 rfl rfl hs (fun h => delete_ok _ _ _ Lt i w hO h (mcells_one ms) hin (by omega)) ?_
    clear hs; intro v w Lt' hO' _ hs
    simp only [List.cons_append, List.nil_append] at hs
    obtain ⟨tl', tc', ta', rfl, rfl⟩ := hO'.form
    refine s_nilCheck rfl rfl ?_
    refine s_fieldAddr rfl rfl (FA112_1 _ _) ?_
    first
      | refine s_storeB Try.sizeOf29 rfl rfl rfl hs (kk := 0) rfl rfl ?_
      | refine s_storeB Try.sizeOf29 rfl rfl rfl hs (kk := 1) rfl rfl ?_
      | refine s_storeB Try.sizeOf29 rfl rfl rfl hs (kk := 2) rfl rfl ?_
      | refine s_storeB Try.sizeOf29 rfl rfl rfl hs (kk := 3) rfl rfl ?_
      | refine s_storeB Try.sizeOf29 rfl rfl rfl hs (kk := 4) rfl rfl ?_
      | refine s_storeB Try.sizeOf29 rfl rfl rfl hs (kk := 5) rfl rfl ?_
      | refine s_storeB Try.sizeOf29 rfl rfl rfl hs (kk := 6) rfl rfl ?_
      | refine s_storeB Try.sizeOf29 rfl rfl rfl hs (kk := 7) rfl rfl ?_
      | refine s_storeB Try.sizeOf29 rfl rfl rfl hs (kk := 8) rfl rfl ?_
      | refine s_storeB Try.sizeOf29 rfl rfl rfl hs (kk := 9) rfl rfl ?_
    clear hs; intro w hs; try simp only [List.set_cons_zero, List.set_cons_succ, splice, List.take_succ_cons, List.take_zero, List.drop_succ_cons, List.drop_zero, List.nil_append, List.cons_append, List.length_cons, List.length_nil, Nat.reduceAdd, List.append_assoc] at hs
    refine WL_nil ?_
    refine n_then ?_
    refine W_seq ?_
    refine W_region ?_
    first
      | refine s_loadW Try.isAgg56 Try.sizeOf56 rfl rfl hs (kk := 0) rfl rfl ?_
      | refine s_loadW Try.isAgg56 Try.sizeOf56 rfl rfl hs (kk := 1) rfl rfl ?_
      | refine s_loadW Try.isAgg56 Try.sizeOf56 rfl rfl hs (kk := 2) rfl rfl ?_
      | refine s_loadW Try.isAgg56 Try.sizeOf56 rfl rfl hs (kk := 3) rfl rfl ?_
      | refine s_loadW Try.isAgg56 Try.sizeOf56 rfl rfl hs (kk := 4) rfl rfl ?_
      | refine s_loadW Try.isAgg56 Try.sizeOf56 rfl rfl hs (kk := 5) rfl rfl ?_
      | refine s_loadW Try.isAgg56 Try.sizeOf56 rfl rfl hs (kk := 6) rfl rfl ?_
      | refine s_loadW Try.isAgg56 Try.sizeOf56 rfl rfl hs (kk := 7) rfl rfl ?_
      | refine s_loadW Try.isAgg56 Try.sizeOf56 rfl rfl hs (kk := 8) rfl rfl ?_
      | refine s_loadW Try.isAgg56 Try.sizeOf56 rfl rfl hs (kk := 9) rfl rfl ?_
      | refine s_load_3 Try.isAgg56 Try.sizeOf56 rfl rfl (by first | exact hs.cell (k := 0) rfl rfl | exact hs.cell (k := 1) rfl rfl | exact hs.cell (k := 2) rfl rfl | exact hs.cell (k := 3) rfl rfl | exact hs.cell (k := 4) rfl rfl | exact hs.cell (k := 5) rfl rfl | exact hs.cell (k := 6) rfl rfl | exact hs.cell (k := 7) rfl rfl | exact hs.cell (k := 8) rfl rfl | exact hs.cell (k := 9) rfl rfl) (by first | exact hs.cell (k := 0) rfl rfl | exact hs.cell (k := 1) rfl rfl | exact hs.cell (k := 2) rfl rfl | exact hs.cell (k := 3) rfl rfl | exact hs.cell (k := 4) rfl rfl | exact hs.cell (k := 5) rfl rfl | exact hs.cell (k := 6) rfl rfl | exact hs.cell (k := 7) rfl rfl | exact hs.cell (k := 8) rfl rfl | exact hs.cell (k := 9) rfl rfl) (by first | exact hs.cell (k := 0) rfl rfl | exact hs.cell (k := 1) rfl rfl | exact hs.cell (k := 2) rfl rfl | exact hs.cell (k := 3) rfl rfl | exact hs.cell (k := 4) rfl rfl | exact hs.cell (k := 5) rfl rfl | exact hs.cell (k := 6) rfl rfl | exact hs.cell (k := 7) rfl rfl | exact hs.cell (k := 8) rfl rfl | exact hs.cell (k := 9) rfl rfl) ?_
    first
      | refine s_storeW Try.sizeOf56 rfl rfl rfl rfl hs (kk := 0) rfl rfl ?_
      | refine s_storeW Try.sizeOf56 rfl rfl rfl rfl hs (kk := 1) rfl rfl ?_
      | refine s_storeW Try.sizeOf56 rfl rfl rfl rfl hs (kk := 2) rfl rfl ?_
      | refine s_storeW Try.sizeOf56 rfl rfl rfl rfl hs (kk := 3) rfl rfl ?_
      | refine s_storeW Try.sizeOf56 rfl rfl rfl rfl hs (kk := 4) rfl rfl ?_
      | refine s_storeW Try.sizeOf56 rfl rfl rfl rfl hs (kk := 5) rfl rfl ?_
      | refine s_storeW Try.sizeOf56 rfl rfl rfl rfl hs (kk := 6) rfl rfl ?_
      | refine s_storeW Try.sizeOf56 rfl rfl rfl rfl hs (kk := 7) rfl rfl ?_
      | refine s_storeW Try.sizeOf56 rfl rfl rfl rfl hs (kk := 8) rfl rfl ?_
      | refine s_storeW Try.sizeOf56 rfl rfl rfl rfl hs (kk := 9) rfl rfl ?_
      | refine s_storeAB Try.sizeOf56 rfl rfl rfl rfl hs (kk := 0) rfl rfl ?_
      | refine s_storeAB Try.sizeOf56 rfl rfl rfl rfl hs (kk := 1) rfl rfl ?_
      | refine s_storeAB Try.sizeOf56 rfl rfl rfl rfl hs (kk := 2) rfl rfl ?_
      | refine s_storeAB Try.sizeOf56 rfl rfl rfl rfl hs (kk := 3) rfl rfl ?_
      | refine s_storeAB Try.sizeOf56 rfl rfl rfl rfl hs (kk := 4) rfl rfl ?_
      | refine s_storeAB Try.sizeOf56 rfl rfl rfl rfl hs (kk := 5) rfl rfl ?_
      | refine s_storeAB Try.sizeOf56 rfl rfl rfl rfl hs (kk := 6) rfl rfl ?_
      | refine s_storeAB Try.sizeOf56 rfl rfl rfl rfl hs (kk := 7) rfl rfl ?_
      | refine s_storeAB Try.sizeOf56 rfl rfl rfl rfl hs (kk := 8) rfl rfl ?_
      | refine s_storeAB Try.sizeOf56 rfl rfl rfl rfl hs (kk := 9) rfl rfl ?_
    clear hs; intro w hs; try simp only [List.set_cons_zero, List.set_cons_succ, splice, List.take_succ_cons, List.take_zero, List.drop_succ_cons, List.drop_zero, List.nil_append, List.cons_append, List.length_cons, List.length_nil, Nat.reduceAdd, List.append_assoc] at hs
    refine s_assign rfl rfl ?_
    refine WL_nil ?_
    refine n_then ?_
    refine W_ret ?_
    refine end2 rfl (resOk_block Try.isAgg56 Try.sizeOf56 hs rfl (kk := 1) rfl rfl) rfl ?_
    first
      | exact ⟨_, hs.tail.tail, Or.inl ⟨by assumption, rfl, g, _, Lt, rfl, hO⟩⟩
      | (have hl : (ms.eraseIdx i.toNat).length = ms.length - 1 := by rw [List.length_eraseIdx, if_pos (by omega)]
         rw [mblks_split hm] at hs
         refine ⟨_, St.reord [[_], [_], [_], [_], Lt', mblks (ms.take i.toNat), [m'.blk], mblks (ms.drop (i.toNat + 1))] [6, 2, 3, 4, 5, 7] [0, 1] hs rfl, Or.inr ⟨by assumption, rfl, _, rfl, g, .slice ta' (ms.length - 1) tc', Lt', ?_, ?_⟩⟩
         · rw [mblks_erase]; rfl
         · rw [mcells_erase, hl]; exact hO')
theorem partition_yes (p : Nat) (gs hs' : List Int) (ms : List Msg) (v : Value) (L0 : Hp) (w0 : World) (hN : NetAt p gs ms L0) (hs : St (ids L0) w0 w0 L0) (hv : Sl w0 v hs'.length (i64s hs')) (hne : hs'.length = gs.length) :
    Ret Try.prog 60 [.pointer (some ⟨p, 0, none⟩), v].toArray w0 fun r w' => ∃ L', St (ids L0) w0 w' L' ∧ r = .int .i64 0 ∧ NetAt p hs' ms L' := by
  obtain ⟨a, c, rfl, hc⟩ := hv.len_le
  obtain ⟨g, tv, Lt, hL, hO⟩ := hN
  obtain ⟨tl, tc, ta, rfl, rfl⟩ := hO.form
  replace hs : St (ids L0) w0 w0 ((p, Blk 112 [.slice (some ⟨g, 0, none⟩) gs.length gs.length, .slice ta ms.length tc]) :: (g, Blk 3 (i64s gs)) :: (Lt ++ mblks ms)) := by rw [hL] at hs ⊢; exact hs
  refine Ret_of Try.func60 rfl Try.ntmps60 rfl ?_
  refine W_seq ?_
  refine W_region ?_
  refine s_assign rfl rfl ?_
  refine WL_nil ?_
  refine n_then ?_
  refine W_seq ?_
  refine W_seq ?_
  refine W_region ?_
  refine s_move rfl rfl ?_
  refine s_len rfl rfl (LN58 _ _ _ _) ?_
  refine s_move rfl rfl ?_
  refine s_nilCheck rfl rfl ?_
  refine s_fieldAddr rfl rfl (FA112_0 _ _) ?_
  first
    | refine s_load Try.isAgg58 rfl rfl (hs.cell (k := 0) rfl rfl) ?_
    | refine s_load Try.isAgg58 rfl rfl (hs.cell (k := 1) rfl rfl) ?_
    | refine s_load Try.isAgg58 rfl rfl (hs.cell (k := 2) rfl rfl) ?_
    | refine s_load Try.isAgg58 rfl rfl (hs.cell (k := 3) rfl rfl) ?_
    | refine s_load Try.isAgg58 rfl rfl (hs.cell (k := 4) rfl rfl) ?_
    | refine s_load Try.isAgg58 rfl rfl (hs.cell (k := 5) rfl rfl) ?_
    | refine s_load Try.isAgg58 rfl rfl (hs.cell (k := 6) rfl rfl) ?_
    | refine s_load Try.isAgg58 rfl rfl (hs.cell (k := 7) rfl rfl) ?_
    | refine s_load Try.isAgg58 rfl rfl (hs.cell (k := 8) rfl rfl) ?_
    | refine s_load Try.isAgg58 rfl rfl (hs.cell (k := 9) rfl rfl) ?_
  refine s_len rfl rfl (LN58 _ _ _ _) ?_
  refine s_neq rfl rfl rfl ?_
  refine WL_nil ?_
  refine n_then ?_
  refine W_cond_kf rfl (by simp; omega) ?_
  refine W_skip ?_
  refine n_then ?_
  refine W_seq ?_
  refine W_region ?_
  refine s_move rfl rfl ?_
  refine s_nilCheck rfl rfl ?_
  refine s_fieldAddr rfl rfl (FA112_0 _ _) ?_
  first
    | refine s_load Try.isAgg58 rfl rfl (hs.cell (k := 0) rfl rfl) ?_
    | refine s_load Try.isAgg58 rfl rfl (hs.cell (k := 1) rfl rfl) ?_
    | refine s_load Try.isAgg58 rfl rfl (hs.cell (k := 2) rfl rfl) ?_
    | refine s_load Try.isAgg58 rfl rfl (hs.cell (k := 3) rfl rfl) ?_
    | refine s_load Try.isAgg58 rfl rfl (hs.cell (k := 4) rfl rfl) ?_
    | refine s_load Try.isAgg58 rfl rfl (hs.cell (k := 5) rfl rfl) ?_
    | refine s_load Try.isAgg58 rfl rfl (hs.cell (k := 6) rfl rfl) ?_
    | refine s_load Try.isAgg58 rfl rfl (hs.cell (k := 7) rfl rfl) ?_
    | refine s_load Try.isAgg58 rfl rfl (hs.cell (k := 8) rfl rfl) ?_
    | refine s_load Try.isAgg58 rfl rfl (hs.cell (k := 9) rfl rfl) ?_
  refine s_move rfl rfl ?_
  refine s_copy El58 rfl rfl rfl hs (kk := 1) rfl hv (by simp) (i64s_one _) (by omega) (by simp; omega) ?_
  clear hs; intro w hs
  have hsp : splice (i64s gs) 0 (i64s hs') = i64s hs' := by simp [splice, hne]
  rw [hsp] at hs
  simp only [List.set_cons_zero, List.set_cons_succ] at hs
  refine WL_nil ?_
  refine n_then ?_
  refine W_seq ?_
  refine W_region ?_
  refine s_assign rfl rfl ?_
  refine WL_nil ?_
  refine n_then ?_
  refine W_ret ?_
  refine end1 rfl rfl ⟨_, hs, rfl, g, _, Lt, ?_, hO⟩
  rw [hne]
end Go.Proofs.Ytkobigdfijeajaa
