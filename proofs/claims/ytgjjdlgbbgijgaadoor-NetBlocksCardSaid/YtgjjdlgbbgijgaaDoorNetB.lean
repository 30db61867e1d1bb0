/- Contracts of package net. -/
import Derived.Test.YtgjjdlgbbgijgaaDoorLib
set_option linter.unusedVariables false
set_option linter.unusedSimpArgs false
namespace Go.Proofs.YtgjjdlgbbgijgaaDoor
open Go.SL
/-- a message in transit: its numbers, the block of its bytes, its bytes -/
structure Msg where
  f : Int
  t : Int
  b : Nat
  bs : List Int
def Msg.cells (m : Msg) : List Value := [.int .i64 m.f, .int .i64 m.t, .slice (some ⟨m.b, 0, none⟩) m.bs.length m.bs.length]
def Msg.blk (m : Msg) : Nat × Obj := (m.b, Blk 5 (u8s m.bs))
def mcells (ms : List Msg) : List Value := ms.flatMap Msg.cells
def mblks (ms : List Msg) : Hp := ms.map Msg.blk
theorem mcells_length (ms : List Msg) : (mcells ms).length = ms.length * 3 := by
  induction ms with
  | nil => rfl
  | cons m r ih =>
    have : mcells (m :: r) = m.cells ++ mcells r := rfl
    rw [this, List.length_append, ih]; simp [Msg.cells]; omega
/-- the network at p: the groups, the messages; its blocks -/
def NetAt (p : Nat) (gs : List Int) (ms : List Msg) (L : Hp) : Prop :=
  ∃ g tv Lt, L = (p, Blk 59 [.slice (some ⟨g, 0, none⟩) gs.length gs.length, tv]) :: (g, Blk 3 (i64s gs)) :: (Lt ++ mblks ms) ∧ OwnS 43 3 tv ms.length (mcells ms) Lt
theorem new_ok (k : Int) (w0 : World) (hk : -9223372036854775808 ≤ k ∧ k ≤ 9223372036854775807) :
    Ret Tryd.prog 4 [.int .i64 k].toArray w0 fun r w' => (1 ≤ k ∧ k ≤ 16 ∧ ∃ p L, r = .tuple #[.pointer (some ⟨p, 0, none⟩), .int .i64 0] ∧ NetAt p (List.replicate k.toNat 0) [] L ∧ St [] w0 w' L) ∨
      (¬ (1 ≤ k ∧ k ≤ 16) ∧ r = .tuple #[.pointer none, .int .i64 1] ∧ Fwd [] w0 w') := by
  refine Ret_start fun w hs => ?_
  refine Ret_of Tryd.func4 rfl Tryd.ntmps4 rfl ?_
  refine W_seq ?_
  refine W_region ?_
  refine s_assign rfl rfl ?_
  refine s_assign rfl rfl ?_
  refine WL_nil ?_
  refine n_then ?_
  refine W_seq ?_
  refine W_seq ?_
  refine W_region ?_
  refine s_move rfl rfl ?_
  refine s_lss rfl rfl rfl ?_
  refine s_move rfl rfl ?_
  refine WL_case (s := 6) rfl (fun hg6 => ?_) (fun hg6 => ?_)
  · skip
    simp only [decide_eq_true_eq, decide_eq_false_iff_not] at hg6
    refine WL_skip rfl rfl rfl ?_
    refine WL_skip rfl rfl rfl ?_
    refine s_pick_t rfl rfl rfl ?_
    refine WL_nil ?_
    refine n_then ?_
    refine W_cond_t rfl ?_
    refine W_seq ?_
    refine W_region ?_
    refine s_assign rfl rfl ?_
    refine s_assign rfl rfl ?_
    refine WL_nil ?_
    refine n_then ?_
    refine W_ret ?_
    refine r_then ?_
    refine end2 rfl rfl rfl ?_
    first
      | exact Or.inr ⟨by omega, rfl, hs.fwd⟩
      | (refine Or.inl ⟨by omega, by omega, b13, _, rfl, ⟨b11, _, [], ?_, OwnS.nil _ _⟩, hs⟩
         simp [mblks, made_one, Blk])
  · skip
    simp only [decide_eq_true_eq, decide_eq_false_iff_not] at hg6
    refine WL_take rfl ?_
    refine s_move rfl rfl ?_
    refine WL_take rfl ?_
    refine s_gtr rfl rfl rfl ?_
    refine s_pick_f rfl rfl rfl ?_
    refine WL_nil ?_
    refine n_then ?_
    refine W_cond rfl (fun hc9 => ?_) (fun hc9 => ?_)
    · skip
      simp only [decide_eq_true_eq, decide_eq_false_iff_not] at hc9
      refine W_seq ?_
      refine W_region ?_
      refine s_assign rfl rfl ?_
      refine s_assign rfl rfl ?_
      refine WL_nil ?_
      refine n_then ?_
      refine W_ret ?_
      refine r_then ?_
      refine end2 rfl rfl rfl ?_
      first
        | exact Or.inr ⟨by omega, rfl, hs.fwd⟩
        | (refine Or.inl ⟨by omega, by omega, b13, _, rfl, ⟨b11, _, [], ?_, OwnS.nil _ _⟩, hs⟩
           simp [mblks, made_one, Blk])
    · skip
      simp only [decide_eq_true_eq, decide_eq_false_iff_not] at hc9
      refine W_skip ?_
      refine n_then ?_
      refine W_seq ?_
      refine W_region ?_
      refine s_move rfl rfl ?_
      refine s_makeSlice El22 rfl rfl rfl ?hx hs ?_
      case hx => (refine ⟨?_, ?_, ?_, ?_⟩ <;> omega)
      clear hs; intro b11 w hs
      refine s_build rfl rfl (BD59_0 _ _ _) ?_
      first | refine s_box rfl rfl hs ?_ | refine s_box1 rfl rfl rfl hs ?_
      clear hs; intro b13 w hs
      refine s_assign rfl rfl ?_
      refine s_assign rfl rfl ?_
      refine WL_nil ?_
      refine n_then ?_
      refine W_ret ?_
      refine end2 rfl rfl rfl ?_
      first
        | exact Or.inr ⟨by omega, rfl, hs.fwd⟩
        | (refine Or.inl ⟨by omega, by omega, b13, _, rfl, ⟨b11, _, [], ?_, OwnS.nil _ _⟩, hs⟩
           simp [mblks, made_one, Blk])
theorem separate_ok (f t : Int) (v : Value) (bs : List Int) (w0 : World) (hv : Sl w0 v bs.length (u8s bs)) (hl : bs.length ≤ 4294967296) :
    Ret Tryd.prog 26 [.agg #[.int .i64 f, .int .i64 t, v]].toArray w0 fun r w' => ∃ m : Msg, m.f = f ∧ m.t = t ∧ m.bs = bs ∧ r = .agg m.cells.toArray ∧ St [] w0 w' [m.blk] := by
  obtain ⟨a, c, rfl, hc⟩ := hv.len_le
  refine Ret_start fun w hs => ?_
  refine Ret_of Tryd.func26 rfl Tryd.ntmps26 rfl ?_
  refine W_seq ?_
  refine W_region ?_
  first | refine s_box rfl rfl hs ?_ | refine s_box1 rfl rfl rfl hs ?_
  clear hs; intro b1 w hs
  refine s_alloc rfl AL43 hs ?_; clear hs; intro b2 w hs
  refine WL_nil ?_
  refine n_then ?_
  refine W_seq ?_
  refine W_region ?_
  refine s_fieldAddr rfl rfl (FA43_2 _ _) ?_
  first
    | refine s_load Tryd.isAgg33 rfl rfl (hs.cell (k := 0) rfl rfl) ?_
    | refine s_load Tryd.isAgg33 rfl rfl (hs.cell (k := 1) rfl rfl) ?_
    | refine s_load Tryd.isAgg33 rfl rfl (hs.cell (k := 2) rfl rfl) ?_
    | refine s_load Tryd.isAgg33 rfl rfl (hs.cell (k := 3) rfl rfl) ?_
    | refine s_load Tryd.isAgg33 rfl rfl (hs.cell (k := 4) rfl rfl) ?_
    | refine s_load Tryd.isAgg33 rfl rfl (hs.cell (k := 5) rfl rfl) ?_
    | refine s_load Tryd.isAgg33 rfl rfl (hs.cell (k := 6) rfl rfl) ?_
    | refine s_load Tryd.isAgg33 rfl rfl (hs.cell (k := 7) rfl rfl) ?_
    | refine s_load Tryd.isAgg33 rfl rfl (hs.cell (k := 8) rfl rfl) ?_
    | refine s_load Tryd.isAgg33 rfl rfl (hs.cell (k := 9) rfl rfl) ?_
  refine s_len rfl rfl (LN33 _ _ _ _) ?_
  refine s_makeSlice El33 rfl rfl rfl ?hx hs ?_
  case hx => (refine ⟨?_, ?_, ?_, ?_⟩ <;> omega)
  clear hs; intro b7 w hs
  refine s_assign rfl rfl ?_
  refine WL_nil ?_
  refine n_then ?_
  refine W_seq ?_
  refine W_region ?_
  refine s_move rfl rfl ?_
  refine s_fieldAddr rfl rfl (FA43_2 _ _) ?_
  first
    | refine s_load Tryd.isAgg33 rfl rfl (hs.cell (k := 0) rfl rfl) ?_
    | refine s_load Tryd.isAgg33 rfl rfl (hs.cell (k := 1) rfl rfl) ?_
    | refine s_load Tryd.isAgg33 rfl rfl (hs.cell (k := 2) rfl rfl) ?_
    | refine s_load Tryd.isAgg33 rfl rfl (hs.cell (k := 3) rfl rfl) ?_
    | refine s_load Tryd.isAgg33 rfl rfl (hs.cell (k := 4) rfl rfl) ?_
    | refine s_load Tryd.isAgg33 rfl rfl (hs.cell (k := 5) rfl rfl) ?_
    | refine s_load Tryd.isAgg33 rfl rfl (hs.cell (k := 6) rfl rfl) ?_
    | refine s_load Tryd.isAgg33 rfl rfl (hs.cell (k := 7) rfl rfl) ?_
    | refine s_load Tryd.isAgg33 rfl rfl (hs.cell (k := 8) rfl rfl) ?_
    | refine s_load Tryd.isAgg33 rfl rfl (hs.cell (k := 9) rfl rfl) ?_
  have hsl := hv.fwd0 hs.fwd
  refine s_copy El33 rfl rfl rfl hs (kk := 0) rfl hsl (by simp) (u8s_one _) (by omega) (by simp [made_length]) ?_
  clear hs; intro w hs
  have hsp : splice (made [.int .u8 0] (bs.length : Int).toNat) 0 (u8s bs) = u8s bs := by simp [splice, made_length]
  rw [hsp] at hs
  simp only [List.set_cons_zero, Int.toNat_natCast] at hs
  refine WL_nil ?_
  refine n_then ?_
  refine W_seq ?_
  refine W_region ?_
  refine s_move rfl rfl ?_
  refine s_fieldAddr rfl rfl (FA43_2 _ _) ?_
  first
    | refine s_storeB Tryd.sizeOf33 rfl rfl rfl hs (kk := 0) rfl rfl ?_
    | refine s_storeB Tryd.sizeOf33 rfl rfl rfl hs (kk := 1) rfl rfl ?_
    | refine s_storeB Tryd.sizeOf33 rfl rfl rfl hs (kk := 2) rfl rfl ?_
    | refine s_storeB Tryd.sizeOf33 rfl rfl rfl hs (kk := 3) rfl rfl ?_
    | refine s_storeB Tryd.sizeOf33 rfl rfl rfl hs (kk := 4) rfl rfl ?_
    | refine s_storeB Tryd.sizeOf33 rfl rfl rfl hs (kk := 5) rfl rfl ?_
    | refine s_storeB Tryd.sizeOf33 rfl rfl rfl hs (kk := 6) rfl rfl ?_
    | refine s_storeB Tryd.sizeOf33 rfl rfl rfl hs (kk := 7) rfl rfl ?_
    | refine s_storeB Tryd.sizeOf33 rfl rfl rfl hs (kk := 8) rfl rfl ?_
    | refine s_storeB Tryd.sizeOf33 rfl rfl rfl hs (kk := 9) rfl rfl ?_
  clear hs; intro w hs; try simp only [List.set_cons_zero, List.set_cons_succ, splice, List.take_succ_cons, List.take_zero, List.drop_succ_cons, List.drop_zero, List.nil_append, List.cons_append, List.length_cons, List.length_nil, Nat.reduceAdd, List.append_assoc] at hs
  refine WL_nil ?_
  refine n_then ?_
  refine W_seq ?_
  refine W_region ?_
  first
    | refine s_loadW Tryd.isAgg43 Tryd.sizeOf43 rfl rfl hs (kk := 0) rfl rfl ?_
    | refine s_loadW Tryd.isAgg43 Tryd.sizeOf43 rfl rfl hs (kk := 1) rfl rfl ?_
    | refine s_loadW Tryd.isAgg43 Tryd.sizeOf43 rfl rfl hs (kk := 2) rfl rfl ?_
    | refine s_loadW Tryd.isAgg43 Tryd.sizeOf43 rfl rfl hs (kk := 3) rfl rfl ?_
    | refine s_loadW Tryd.isAgg43 Tryd.sizeOf43 rfl rfl hs (kk := 4) rfl rfl ?_
    | refine s_loadW Tryd.isAgg43 Tryd.sizeOf43 rfl rfl hs (kk := 5) rfl rfl ?_
    | refine s_loadW Tryd.isAgg43 Tryd.sizeOf43 rfl rfl hs (kk := 6) rfl rfl ?_
    | refine s_loadW Tryd.isAgg43 Tryd.sizeOf43 rfl rfl hs (kk := 7) rfl rfl ?_
    | refine s_loadW Tryd.isAgg43 Tryd.sizeOf43 rfl rfl hs (kk := 8) rfl rfl ?_
    | refine s_loadW Tryd.isAgg43 Tryd.sizeOf43 rfl rfl hs (kk := 9) rfl rfl ?_
    | refine s_load_3 Tryd.isAgg43 Tryd.sizeOf43 rfl rfl (by first | exact hs.cell (k := 0) rfl rfl | exact hs.cell (k := 1) rfl rfl | exact hs.cell (k := 2) rfl rfl | exact hs.cell (k := 3) rfl rfl | exact hs.cell (k := 4) rfl rfl | exact hs.cell (k := 5) rfl rfl | exact hs.cell (k := 6) rfl rfl | exact hs.cell (k := 7) rfl rfl | exact hs.cell (k := 8) rfl rfl | exact hs.cell (k := 9) rfl rfl) (by first | exact hs.cell (k := 0) rfl rfl | exact hs.cell (k := 1) rfl rfl | exact hs.cell (k := 2) rfl rfl | exact hs.cell (k := 3) rfl rfl | exact hs.cell (k := 4) rfl rfl | exact hs.cell (k := 5) rfl rfl | exact hs.cell (k := 6) rfl rfl | exact hs.cell (k := 7) rfl rfl | exact hs.cell (k := 8) rfl rfl | exact hs.cell (k := 9) rfl rfl) (by first | exact hs.cell (k := 0) rfl rfl | exact hs.cell (k := 1) rfl rfl | exact hs.cell (k := 2) rfl rfl | exact hs.cell (k := 3) rfl rfl | exact hs.cell (k := 4) rfl rfl | exact hs.cell (k := 5) rfl rfl | exact hs.cell (k := 6) rfl rfl | exact hs.cell (k := 7) rfl rfl | exact hs.cell (k := 8) rfl rfl | exact hs.cell (k := 9) rfl rfl) ?_
  first
    | refine s_storeW Tryd.sizeOf43 rfl rfl rfl rfl hs (kk := 0) rfl rfl ?_
    | refine s_storeW Tryd.sizeOf43 rfl rfl rfl rfl hs (kk := 1) rfl rfl ?_
    | refine s_storeW Tryd.sizeOf43 rfl rfl rfl rfl hs (kk := 2) rfl rfl ?_
    | refine s_storeW Tryd.sizeOf43 rfl rfl rfl rfl hs (kk := 3) rfl rfl ?_
    | refine s_storeW Tryd.sizeOf43 rfl rfl rfl rfl hs (kk := 4) rfl rfl ?_
    | refine s_storeW Tryd.sizeOf43 rfl rfl rfl rfl hs (kk := 5) rfl rfl ?_
    | refine s_storeW Tryd.sizeOf43 rfl rfl rfl rfl hs (kk := 6) rfl rfl ?_
    | refine s_storeW Tryd.sizeOf43 rfl rfl rfl rfl hs (kk := 7) rfl rfl ?_
    | refine s_storeW Tryd.sizeOf43 rfl rfl rfl rfl hs (kk := 8) rfl rfl ?_
    | refine s_storeW Tryd.sizeOf43 rfl rfl rfl rfl hs (kk := 9) rfl rfl ?_
    | refine s_storeAB Tryd.sizeOf43 rfl rfl rfl rfl hs (kk := 0) rfl rfl ?_
    | refine s_storeAB Tryd.sizeOf43 rfl rfl rfl rfl hs (kk := 1) rfl rfl ?_
    | refine s_storeAB Tryd.sizeOf43 rfl rfl rfl rfl hs (kk := 2) rfl rfl ?_
    | refine s_storeAB Tryd.sizeOf43 rfl rfl rfl rfl hs (kk := 3) rfl rfl ?_
    | refine s_storeAB Tryd.sizeOf43 rfl rfl rfl rfl hs (kk := 4) rfl rfl ?_
    | refine s_storeAB Tryd.sizeOf43 rfl rfl rfl rfl hs (kk := 5) rfl rfl ?_
    | refine s_storeAB Tryd.sizeOf43 rfl rfl rfl rfl hs (kk := 6) rfl rfl ?_
    | refine s_storeAB Tryd.sizeOf43 rfl rfl rfl rfl hs (kk := 7) rfl rfl ?_
    | refine s_storeAB Tryd.sizeOf43 rfl rfl rfl rfl hs (kk := 8) rfl rfl ?_
    | refine s_storeAB Tryd.sizeOf43 rfl rfl rfl rfl hs (kk := 9) rfl rfl ?_
  clear hs; intro w hs; try simp only [List.set_cons_zero, List.set_cons_succ, splice, List.take_succ_cons, List.take_zero, List.drop_succ_cons, List.drop_zero, List.nil_append, List.cons_append, List.length_cons, List.length_nil, Nat.reduceAdd, List.append_assoc] at hs
  refine WL_nil ?_
  refine n_then ?_
  refine W_ret ?_
  refine end1 rfl (resOk_block Tryd.isAgg43 Tryd.sizeOf43 hs rfl (kk := 1) rfl rfl) ?_
  exact ⟨⟨f, t, b7, bs⟩, rfl, rfl, rfl, rfl, St.left (L := [_]) hs⟩
theorem mcells_append (a b : List Msg) : mcells (a ++ b) = mcells a ++ mcells b := by simp [mcells]
theorem mblks_append (a b : List Msg) : mblks (a ++ b) = mblks a ++ mblks b := by simp [mblks]
theorem cells_one (m : Msg) : ∀ c ∈ m.cells, c.oneCell' = true := by simp [Msg.cells, Value.oneCell']
/-- what Send answers -/
def sendE (gs : List Int) (ms : List Msg) (f t : Int) (bs : List Int) : Int :=
  if f < 0 ∨ (gs.length : Int) ≤ f ∨ t < 0 ∨ (gs.length : Int) ≤ t ∨ 65536 < (bs.length : Int) then 1 else if 1000 ≤ (ms.length : Int) then 4 else 0
theorem send_ok (p : Nat) (gs : List Int) (ms : List Msg) (f t : Int) (v : Value) (bs : List Int) (L0 : Hp) (w0 : World) (hN : NetAt p gs ms L0) (hs : St (ids L0) w0 w0 L0) (hv : Sl w0 v bs.length (u8s bs)) (hm : ms.length ≤ 1000) (hd : ∀ a m c, v = .slice (some a) m c → u8s bs ≠ [] → a.block ∉ ids L0) :
    Ret Tryd.prog 9 [.pointer (some ⟨p, 0, none⟩), .agg #[.int .i64 f, .int .i64 t, v]].toArray w0 fun r w' => ∃ L', St (ids L0) w0 w' L' ∧ r = .int .i64 (sendE gs ms f t bs) ∧
      ∃ ms', NetAt p gs ms' L' ∧ (sendE gs ms f t bs ≠ 0 → ms' = ms) ∧ (sendE gs ms f t bs = 0 → ∃ b, ms' = ms ++ [⟨f, t, b, bs⟩]) := by
  obtain ⟨g, tv, Lt, hL, hO⟩ := hN
  obtain ⟨a, c, rfl, hc⟩ := hv.len_le
  obtain ⟨tl, tc, ta, rfl, rfl⟩ := hO.form
  replace hs : St (ids L0) w0 w0 ((p, Blk 59 [.slice (some ⟨g, 0, none⟩) gs.length gs.length, .slice ta ms.length tc]) :: (g, Blk 3 (i64s gs)) :: (Lt ++ mblks ms)) := by rw [hL] at hs ⊢; exact hs
  refine Ret_startL hs fun w hs => ?_
  refine Ret_of Tryd.func9 rfl Tryd.ntmps9 rfl ?_
  refine W_seq ?_
  refine W_region ?_
  first | refine s_box rfl rfl hs ?_ | refine s_box1 rfl rfl rfl hs ?_
  clear hs; intro b3 w hs
  refine s_assign rfl rfl ?_
  refine WL_nil ?_
  refine n_then ?_
  refine W_seq ?_
  refine W_region ?_
  refine s_move rfl rfl ?_
  refine s_nilCheck rfl rfl ?_
  refine s_fieldAddr rfl rfl (FA59_0 _ _) ?_
  first
    | refine s_load Tryd.isAgg22 rfl rfl (hs.cell (k := 0) rfl rfl) ?_
    | refine s_load Tryd.isAgg22 rfl rfl (hs.cell (k := 1) rfl rfl) ?_
    | refine s_load Tryd.isAgg22 rfl rfl (hs.cell (k := 2) rfl rfl) ?_
    | refine s_load Tryd.isAgg22 rfl rfl (hs.cell (k := 3) rfl rfl) ?_
    | refine s_load Tryd.isAgg22 rfl rfl (hs.cell (k := 4) rfl rfl) ?_
    | refine s_load Tryd.isAgg22 rfl rfl (hs.cell (k := 5) rfl rfl) ?_
    | refine s_load Tryd.isAgg22 rfl rfl (hs.cell (k := 6) rfl rfl) ?_
    | refine s_load Tryd.isAgg22 rfl rfl (hs.cell (k := 7) rfl rfl) ?_
    | refine s_load Tryd.isAgg22 rfl rfl (hs.cell (k := 8) rfl rfl) ?_
    | refine s_load Tryd.isAgg22 rfl rfl (hs.cell (k := 9) rfl rfl) ?_
  refine s_len rfl rfl (LN22 _ _ _ _) ?_
  refine s_assign rfl rfl ?_
  refine WL_nil ?_
  refine n_then ?_
  refine W_seq ?_
  refine W_seq ?_
  refine W_region ?_
  refine s_fieldAddr rfl rfl (FA43_0 _ _) ?_
  first
    | refine s_load Tryd.isAgg3 rfl rfl (hs.cell (k := 0) rfl rfl) ?_
    | refine s_load Tryd.isAgg3 rfl rfl (hs.cell (k := 1) rfl rfl) ?_
    | refine s_load Tryd.isAgg3 rfl rfl (hs.cell (k := 2) rfl rfl) ?_
    | refine s_load Tryd.isAgg3 rfl rfl (hs.cell (k := 3) rfl rfl) ?_
    | refine s_load Tryd.isAgg3 rfl rfl (hs.cell (k := 4) rfl rfl) ?_
    | refine s_load Tryd.isAgg3 rfl rfl (hs.cell (k := 5) rfl rfl) ?_
    | refine s_load Tryd.isAgg3 rfl rfl (hs.cell (k := 6) rfl rfl) ?_
    | refine s_load Tryd.isAgg3 rfl rfl (hs.cell (k := 7) rfl rfl) ?_
    | refine s_load Tryd.isAgg3 rfl rfl (hs.cell (k := 8) rfl rfl) ?_
    | refine s_load Tryd.isAgg3 rfl rfl (hs.cell (k := 9) rfl rfl) ?_
  refine s_lss rfl rfl rfl ?_
  refine s_move rfl rfl ?_
  refine WL_case (s := 14) rfl (fun hg14 => ?_) (fun hg14 => ?_)
  · skip
    simp only [decide_eq_true_eq, decide_eq_false_iff_not] at hg14
    refine WL_skip rfl rfl rfl ?_
    refine WL_skip rfl rfl rfl ?_
    refine WL_skip rfl rfl rfl ?_
    refine WL_skip rfl rfl rfl ?_
    refine s_pick_t rfl rfl rfl ?_
    refine s_move rfl rfl ?_
    refine WL_skip rfl rfl rfl ?_
    refine WL_skip rfl rfl rfl ?_
    refine WL_skip rfl rfl rfl ?_
    refine s_pick_t rfl rfl rfl ?_
    refine s_move rfl rfl ?_
    refine WL_skip rfl rfl rfl ?_
    refine WL_skip rfl rfl rfl ?_
    refine WL_skip rfl rfl rfl ?_
    refine WL_skip rfl rfl rfl ?_
    refine s_pick_t rfl rfl rfl ?_
    refine s_move rfl rfl ?_
    refine WL_skip rfl rfl rfl ?_
    refine WL_skip rfl rfl rfl ?_
    refine WL_skip rfl rfl rfl ?_
    refine WL_skip rfl rfl rfl ?_
    refine s_pick_t rfl rfl rfl ?_
    refine WL_nil ?_
    refine n_then ?_
    refine W_cond_t rfl ?_
    refine W_seq ?_
    refine W_region ?_
    refine s_assign rfl rfl ?_
    refine WL_nil ?_
    refine n_then ?_
    refine W_ret ?_
    refine r_then ?_
    refine end1 rfl rfl ?_
    first
      | exact ⟨_, hs.tail, by rw [sendE, if_pos (by omega)], ms, ⟨g, _, Lt, rfl, hO⟩, fun _ => rfl, fun h => by rw [sendE, if_pos (by omega)] at h; omega⟩
      | exact ⟨_, hs.tail, by rw [sendE, if_neg (by omega), if_pos (by omega)], ms, ⟨g, _, Lt, rfl, hO⟩, fun _ => rfl, fun h => by rw [sendE, if_neg (by omega), if_pos (by omega)] at h; omega⟩
      | (have hE : sendE gs ms m.f m.t m.bs = 0 := by rw [sendE, if_neg (by omega), if_neg (by omega)]
         refine ⟨_, St.reord [[_], [m.blk], [_], [_], [_], Lt', mblks ms] [3, 4, 5, 6, 1] [0, 2] hs rfl, by rw [hE], ms ++ [m], ⟨g, .slice ta' (ms.length + 1) tc', Lt', ?_, ?_⟩, fun h => absurd hE h, fun _ => ⟨m.b, rfl⟩⟩
         · simp [cat, mblks]
         · simpa [mcells] using hO')
  · skip
    simp only [decide_eq_true_eq, decide_eq_false_iff_not] at hg14
    refine WL_take rfl ?_
    refine s_fieldAddr rfl rfl (FA43_0 _ _) ?_
    refine WL_take rfl ?_
    first
      | refine s_load Tryd.isAgg3 rfl rfl (hs.cell (k := 0) rfl rfl) ?_
      | refine s_load Tryd.isAgg3 rfl rfl (hs.cell (k := 1) rfl rfl) ?_
      | refine s_load Tryd.isAgg3 rfl rfl (hs.cell (k := 2) rfl rfl) ?_
      | refine s_load Tryd.isAgg3 rfl rfl (hs.cell (k := 3) rfl rfl) ?_
      | refine s_load Tryd.isAgg3 rfl rfl (hs.cell (k := 4) rfl rfl) ?_
      | refine s_load Tryd.isAgg3 rfl rfl (hs.cell (k := 5) rfl rfl) ?_
      | refine s_load Tryd.isAgg3 rfl rfl (hs.cell (k := 6) rfl rfl) ?_
      | refine s_load Tryd.isAgg3 rfl rfl (hs.cell (k := 7) rfl rfl) ?_
      | refine s_load Tryd.isAgg3 rfl rfl (hs.cell (k := 8) rfl rfl) ?_
      | refine s_load Tryd.isAgg3 rfl rfl (hs.cell (k := 9) rfl rfl) ?_
    refine WL_take rfl ?_
    refine s_move rfl rfl ?_
    refine WL_take rfl ?_
    refine s_geq rfl rfl rfl ?_
    refine s_pick_f rfl rfl rfl ?_
    refine s_move rfl rfl ?_
    refine WL_case (s := 20) rfl (fun hg20 => ?_) (fun hg20 => ?_)
    · skip
      simp only [decide_eq_true_eq, decide_eq_false_iff_not] at hg20
      refine WL_skip rfl rfl rfl ?_
      refine WL_skip rfl rfl rfl ?_
      refine WL_skip rfl rfl rfl ?_
      refine s_pick_t rfl rfl rfl ?_
      refine s_move rfl rfl ?_
      refine WL_skip rfl rfl rfl ?_
      refine WL_skip rfl rfl rfl ?_
      refine WL_skip rfl rfl rfl ?_
      refine WL_skip rfl rfl rfl ?_
      refine s_pick_t rfl rfl rfl ?_
      refine s_move rfl rfl ?_
      refine WL_skip rfl rfl rfl ?_
      refine WL_skip rfl rfl rfl ?_
      refine WL_skip rfl rfl rfl ?_
      refine WL_skip rfl rfl rfl ?_
      refine s_pick_t rfl rfl rfl ?_
      refine WL_nil ?_
      refine n_then ?_
      refine W_cond_t rfl ?_
      refine W_seq ?_
      refine W_region ?_
      refine s_assign rfl rfl ?_
      refine WL_nil ?_
      refine n_then ?_
      refine W_ret ?_
      refine r_then ?_
      refine end1 rfl rfl ?_
      first
        | exact ⟨_, hs.tail, by rw [sendE, if_pos (by omega)], ms, ⟨g, _, Lt, rfl, hO⟩, fun _ => rfl, fun h => by rw [sendE, if_pos (by omega)] at h; omega⟩
        | exact ⟨_, hs.tail, by rw [sendE, if_neg (by omega), if_pos (by omega)], ms, ⟨g, _, Lt, rfl, hO⟩, fun _ => rfl, fun h => by rw [sendE, if_neg (by omega), if_pos (by omega)] at h; omega⟩
        | (have hE : sendE gs ms m.f m.t m.bs = 0 := by rw [sendE, if_neg (by omega), if_neg (by omega)]
           refine ⟨_, St.reord [[_], [m.blk], [_], [_], [_], Lt', mblks ms] [3, 4, 5, 6, 1] [0, 2] hs rfl, by rw [hE], ms ++ [m], ⟨g, .slice ta' (ms.length + 1) tc', Lt', ?_, ?_⟩, fun h => absurd hE h, fun _ => ⟨m.b, rfl⟩⟩
           · simp [cat, mblks]
           · simpa [mcells] using hO')
    · skip
      simp only [decide_eq_true_eq, decide_eq_false_iff_not] at hg20
      refine WL_take rfl ?_
      refine s_fieldAddr rfl rfl (FA43_1 _ _) ?_
      refine WL_take rfl ?_
      first
        | refine s_load Tryd.isAgg3 rfl rfl (hs.cell (k := 0) rfl rfl) ?_
        | refine s_load Tryd.isAgg3 rfl rfl (hs.cell (k := 1) rfl rfl) ?_
        | refine s_load Tryd.isAgg3 rfl rfl (hs.cell (k := 2) rfl rfl) ?_
        | refine s_load Tryd.isAgg3 rfl rfl (hs.cell (k := 3) rfl rfl) ?_
        | refine s_load Tryd.isAgg3 rfl rfl (hs.cell (k := 4) rfl rfl) ?_
        | refine s_load Tryd.isAgg3 rfl rfl (hs.cell (k := 5) rfl rfl) ?_
        | refine s_load Tryd.isAgg3 rfl rfl (hs.cell (k := 6) rfl rfl) ?_
        | refine s_load Tryd.isAgg3 rfl rfl (hs.cell (k := 7) rfl rfl) ?_
        | refine s_load Tryd.isAgg3 rfl rfl (hs.cell (k := 8) rfl rfl) ?_
        | refine s_load Tryd.isAgg3 rfl rfl (hs.cell (k := 9) rfl rfl) ?_
      refine WL_take rfl ?_
      refine s_lss rfl rfl rfl ?_
      refine s_pick_f rfl rfl rfl ?_
      refine s_move rfl rfl ?_
      refine WL_case (s := 25) rfl (fun hg25 => ?_) (fun hg25 => ?_)
      · skip
        simp only [decide_eq_true_eq, decide_eq_false_iff_not] at hg25
        refine WL_skip rfl rfl rfl ?_
        refine WL_skip rfl rfl rfl ?_
        refine WL_skip rfl rfl rfl ?_
        refine WL_skip rfl rfl rfl ?_
        refine s_pick_t rfl rfl rfl ?_
        refine s_move rfl rfl ?_
        refine WL_skip rfl rfl rfl ?_
        refine WL_skip rfl rfl rfl ?_
        refine WL_skip rfl rfl rfl ?_
        refine WL_skip rfl rfl rfl ?_
        refine s_pick_t rfl rfl rfl ?_
        refine WL_nil ?_
        refine n_then ?_
        refine W_cond_t rfl ?_
        refine W_seq ?_
        refine W_region ?_
        refine s_assign rfl rfl ?_
        refine WL_nil ?_
        refine n_then ?_
        refine W_ret ?_
        refine r_then ?_
        refine end1 rfl rfl ?_
        first
          | exact ⟨_, hs.tail, by rw [sendE, if_pos (by omega)], ms, ⟨g, _, Lt, rfl, hO⟩, fun _ => rfl, fun h => by rw [sendE, if_pos (by omega)] at h; omega⟩
          | exact ⟨_, hs.tail, by rw [sendE, if_neg (by omega), if_pos (by omega)], ms, ⟨g, _, Lt, rfl, hO⟩, fun _ => rfl, fun h => by rw [sendE, if_neg (by omega), if_pos (by omega)] at h; omega⟩
          | (have hE : sendE gs ms m.f m.t m.bs = 0 := by rw [sendE, if_neg (by omega), if_neg (by omega)]
             refine ⟨_, St.reord [[_], [m.blk], [_], [_], [_], Lt', mblks ms] [3, 4, 5, 6, 1] [0, 2] hs rfl, by rw [hE], ms ++ [m], ⟨g, .slice ta' (ms.length + 1) tc', Lt', ?_, ?_⟩, fun h => absurd hE h, fun _ => ⟨m.b, rfl⟩⟩
             · simp [cat, mblks]
             · simpa [mcells] using hO')
      · skip
        simp only [decide_eq_true_eq, decide_eq_false_iff_not] at hg25
        refine WL_take rfl ?_
        refine s_fieldAddr rfl rfl (FA43_1 _ _) ?_
        refine WL_take rfl ?_
        first
          | refine s_load Tryd.isAgg3 rfl rfl (hs.cell (k := 0) rfl rfl) ?_
          | refine s_load Tryd.isAgg3 rfl rfl (hs.cell (k := 1) rfl rfl) ?_
          | refine s_load Tryd.isAgg3 rfl rfl (hs.cell (k := 2) rfl rfl) ?_
          | refine s_load Tryd.isAgg3 rfl rfl (hs.cell (k := 3) rfl rfl) ?_
          | refine s_load Tryd.isAgg3 rfl rfl (hs.cell (k := 4) rfl rfl) ?_
          | refine s_load Tryd.isAgg3 rfl rfl (hs.cell (k := 5) rfl rfl) ?_
          | refine s_load Tryd.isAgg3 rfl rfl (hs.cell (k := 6) rfl rfl) ?_
          | refine s_load Tryd.isAgg3 rfl rfl (hs.cell (k := 7) rfl rfl) ?_
          | refine s_load Tryd.isAgg3 rfl rfl (hs.cell (k := 8) rfl rfl) ?_
          | refine s_load Tryd.isAgg3 rfl rfl (hs.cell (k := 9) rfl rfl) ?_
        refine WL_take rfl ?_
        refine s_move rfl rfl ?_
        refine WL_take rfl ?_
        refine s_geq rfl rfl rfl ?_
        refine s_pick_f rfl rfl rfl ?_
        refine s_move rfl rfl ?_
        refine WL_case (s := 31) rfl (fun hg31 => ?_) (fun hg31 => ?_)
        · skip
          simp only [decide_eq_true_eq, decide_eq_false_iff_not] at hg31
          refine WL_skip rfl rfl rfl ?_
          refine WL_skip rfl rfl rfl ?_
          refine WL_skip rfl rfl rfl ?_
          refine WL_skip rfl rfl rfl ?_
          refine s_pick_t rfl rfl rfl ?_
          refine WL_nil ?_
          refine n_then ?_
          refine W_cond_t rfl ?_
          refine W_seq ?_
          refine W_region ?_
          refine s_assign rfl rfl ?_
          refine WL_nil ?_
          refine n_then ?_
          refine W_ret ?_
          refine r_then ?_
          refine end1 rfl rfl ?_
          first
            | exact ⟨_, hs.tail, by rw [sendE, if_pos (by omega)], ms, ⟨g, _, Lt, rfl, hO⟩, fun _ => rfl, fun h => by rw [sendE, if_pos (by omega)] at h; omega⟩
            | exact ⟨_, hs.tail, by rw [sendE, if_neg (by omega), if_pos (by omega)], ms, ⟨g, _, Lt, rfl, hO⟩, fun _ => rfl, fun h => by rw [sendE, if_neg (by omega), if_pos (by omega)] at h; omega⟩
            | (have hE : sendE gs ms m.f m.t m.bs = 0 := by rw [sendE, if_neg (by omega), if_neg (by omega)]
               refine ⟨_, St.reord [[_], [m.blk], [_], [_], [_], Lt', mblks ms] [3, 4, 5, 6, 1] [0, 2] hs rfl, by rw [hE], ms ++ [m], ⟨g, .slice ta' (ms.length + 1) tc', Lt', ?_, ?_⟩, fun h => absurd hE h, fun _ => ⟨m.b, rfl⟩⟩
               · simp [cat, mblks]
               · simpa [mcells] using hO')
        · skip
          simp only [decide_eq_true_eq, decide_eq_false_iff_not] at hg31
          refine WL_take rfl ?_
          refine s_fieldAddr rfl rfl (FA43_2 _ _) ?_
          refine WL_take rfl ?_
          first
            | refine s_load Tryd.isAgg33 rfl rfl (hs.cell (k := 0) rfl rfl) ?_
            | refine s_load Tryd.isAgg33 rfl rfl (hs.cell (k := 1) rfl rfl) ?_
            | refine s_load Tryd.isAgg33 rfl rfl (hs.cell (k := 2) rfl rfl) ?_
            | refine s_load Tryd.isAgg33 rfl rfl (hs.cell (k := 3) rfl rfl) ?_
            | refine s_load Tryd.isAgg33 rfl rfl (hs.cell (k := 4) rfl rfl) ?_
            | refine s_load Tryd.isAgg33 rfl rfl (hs.cell (k := 5) rfl rfl) ?_
            | refine s_load Tryd.isAgg33 rfl rfl (hs.cell (k := 6) rfl rfl) ?_
            | refine s_load Tryd.isAgg33 rfl rfl (hs.cell (k := 7) rfl rfl) ?_
            | refine s_load Tryd.isAgg33 rfl rfl (hs.cell (k := 8) rfl rfl) ?_
            | refine s_load Tryd.isAgg33 rfl rfl (hs.cell (k := 9) rfl rfl) ?_
          refine WL_take rfl ?_
          refine s_len rfl rfl (LN33 _ _ _ _) ?_
          refine WL_take rfl ?_
          refine s_gtr rfl rfl rfl ?_
          refine s_pick_f rfl rfl rfl ?_
          refine WL_nil ?_
          refine n_then ?_
          refine W_cond rfl (fun hc36 => ?_) (fun hc36 => ?_)
          · skip
            simp only [decide_eq_true_eq, decide_eq_false_iff_not] at hc36
            refine W_seq ?_
            refine W_region ?_
            refine s_assign rfl rfl ?_
            refine WL_nil ?_
            refine n_then ?_
            refine W_ret ?_
            refine r_then ?_
            refine end1 rfl rfl ?_
            first
              | exact ⟨_, hs.tail, by rw [sendE, if_pos (by omega)], ms, ⟨g, _, Lt, rfl, hO⟩, fun _ => rfl, fun h => by rw [sendE, if_pos (by omega)] at h; omega⟩
              | exact ⟨_, hs.tail, by rw [sendE, if_neg (by omega), if_pos (by omega)], ms, ⟨g, _, Lt, rfl, hO⟩, fun _ => rfl, fun h => by rw [sendE, if_neg (by omega), if_pos (by omega)] at h; omega⟩
              | (have hE : sendE gs ms m.f m.t m.bs = 0 := by rw [sendE, if_neg (by omega), if_neg (by omega)]
                 refine ⟨_, St.reord [[_], [m.blk], [_], [_], [_], Lt', mblks ms] [3, 4, 5, 6, 1] [0, 2] hs rfl, by rw [hE], ms ++ [m], ⟨g, .slice ta' (ms.length + 1) tc', Lt', ?_, ?_⟩, fun h => absurd hE h, fun _ => ⟨m.b, rfl⟩⟩
                 · simp [cat, mblks]
                 · simpa [mcells] using hO')
          · skip
            simp only [decide_eq_true_eq, decide_eq_false_iff_not] at hc36
            refine W_skip ?_
            refine n_then ?_
            refine W_seq ?_
            refine W_seq ?_
            refine W_region ?_
            refine s_move rfl rfl ?_
            refine s_nilCheck rfl rfl ?_
            refine s_fieldAddr rfl rfl (FA59_1 _ _) ?_
            first
              | refine s_load Tryd.isAgg57 rfl rfl (hs.cell (k := 0) rfl rfl) ?_
              | refine s_load Tryd.isAgg57 rfl rfl (hs.cell (k := 1) rfl rfl) ?_
              | refine s_load Tryd.isAgg57 rfl rfl (hs.cell (k := 2) rfl rfl) ?_
              | refine s_load Tryd.isAgg57 rfl rfl (hs.cell (k := 3) rfl rfl) ?_
              | refine s_load Tryd.isAgg57 rfl rfl (hs.cell (k := 4) rfl rfl) ?_
              | refine s_load Tryd.isAgg57 rfl rfl (hs.cell (k := 5) rfl rfl) ?_
              | refine s_load Tryd.isAgg57 rfl rfl (hs.cell (k := 6) rfl rfl) ?_
              | refine s_load Tryd.isAgg57 rfl rfl (hs.cell (k := 7) rfl rfl) ?_
              | refine s_load Tryd.isAgg57 rfl rfl (hs.cell (k := 8) rfl rfl) ?_
              | refine s_load Tryd.isAgg57 rfl rfl (hs.cell (k := 9) rfl rfl) ?_
            refine s_len rfl rfl (LN57 _ _ _ _) ?_
            refine s_geq rfl rfl rfl ?_
            refine WL_nil ?_
            refine n_then ?_
            refine W_cond rfl (fun hc42 => ?_) (fun hc42 => ?_)
            · skip
              simp only [decide_eq_true_eq, decide_eq_false_iff_not] at hc42
              refine W_seq ?_
              refine W_region ?_
              refine s_assign rfl rfl ?_
              refine WL_nil ?_
              refine n_then ?_
              refine W_ret ?_
              refine r_then ?_
              refine end1 rfl rfl ?_
              first
                | exact ⟨_, hs.tail, by rw [sendE, if_pos (by omega)], ms, ⟨g, _, Lt, rfl, hO⟩, fun _ => rfl, fun h => by rw [sendE, if_pos (by omega)] at h; omega⟩
                | exact ⟨_, hs.tail, by rw [sendE, if_neg (by omega), if_pos (by omega)], ms, ⟨g, _, Lt, rfl, hO⟩, fun _ => rfl, fun h => by rw [sendE, if_neg (by omega), if_pos (by omega)] at h; omega⟩
                | (have hE : sendE gs ms m.f m.t m.bs = 0 := by rw [sendE, if_neg (by omega), if_neg (by omega)]
                   refine ⟨_, St.reord [[_], [m.blk], [_], [_], [_], Lt', mblks ms] [3, 4, 5, 6, 1] [0, 2] hs rfl, by rw [hE], ms ++ [m], ⟨g, .slice ta' (ms.length + 1) tc', Lt', ?_, ?_⟩, fun h => absurd hE h, fun _ => ⟨m.b, rfl⟩⟩
                   · simp [cat, mblks]
                   · simpa [mcells] using hO')
            · skip
              simp only [decide_eq_true_eq, decide_eq_false_iff_not] at hc42
              refine W_skip ?_
              refine n_then ?_
              refine W_seq ?_
              refine W_draw [(0, true, []), (1, true, []), (2, true, []), (3, true, []), (4, true, []), (5, true, []), (6, false, [0, 1, 2, 3, 4]), (7, false, [0, 1, 2, 3, 4]), (8, false, [0]), (9, true, []), (10, true, []), (11, false, [])] [[], [], [1], [1, 2], [1, 2, 3], [], [5], [5, 6], [1, 2, 3, 4, 5, 6, 7], [0, 1, 2, 3, 4, 5, 6, 7, 8], [0, 1, 2, 3, 4, 5, 6, 7, 8, 9], [0, 1, 2, 3, 4, 5, 6, 7, 8, 9, 10]] MX (by kernel_rfl) ?_
              intro w1 hw1 hw2 hw3 hw4; replace hs := hs.redrawn hw1 hw2 hw3 hw4; clear hw1 hw2 hw3 hw4
              obtain ⟨w, rfl⟩ : ∃ w : World, w = w1 := ⟨_, rfl⟩
              refine D_q rfl rfl ?_
              refine s_move rfl rfl ?_
              refine D_qn ?_
              refine D_q rfl rfl ?_
              refine s_move rfl rfl ?_
              refine D_qn ?_
              refine D_q rfl rfl ?_
              refine s_nilCheck rfl rfl ?_
              refine D_qn ?_
              refine D_q rfl rfl ?_
              refine s_fieldAddr rfl rfl (FA59_1 _ _) ?_
              refine D_qn ?_
              refine D_q rfl rfl ?_
              first
                | refine s_load Tryd.isAgg57 rfl rfl (hs.cell (k := 0) rfl rfl) ?_
                | refine s_load Tryd.isAgg57 rfl rfl (hs.cell (k := 1) rfl rfl) ?_
                | refine s_load Tryd.isAgg57 rfl rfl (hs.cell (k := 2) rfl rfl) ?_
                | refine s_load Tryd.isAgg57 rfl rfl (hs.cell (k := 3) rfl rfl) ?_
                | refine s_load Tryd.isAgg57 rfl rfl (hs.cell (k := 4) rfl rfl) ?_
                | refine s_load Tryd.isAgg57 rfl rfl (hs.cell (k := 5) rfl rfl) ?_
                | refine s_load Tryd.isAgg57 rfl rfl (hs.cell (k := 6) rfl rfl) ?_
                | refine s_load Tryd.isAgg57 rfl rfl (hs.cell (k := 7) rfl rfl) ?_
                | refine s_load Tryd.isAgg57 rfl rfl (hs.cell (k := 8) rfl rfl) ?_
                | refine s_load Tryd.isAgg57 rfl rfl (hs.cell (k := 9) rfl rfl) ?_
              refine D_qn ?_
              refine D_q rfl rfl ?_
              first
                | refine s_loadW Tryd.isAgg43 Tryd.sizeOf43 rfl rfl hs (kk := 0) rfl rfl ?_
                | refine s_loadW Tryd.isAgg43 Tryd.sizeOf43 rfl rfl hs (kk := 1) rfl rfl ?_
                | refine s_loadW Tryd.isAgg43 Tryd.sizeOf43 rfl rfl hs (kk := 2) rfl rfl ?_
                | refine s_loadW Tryd.isAgg43 Tryd.sizeOf43 rfl rfl hs (kk := 3) rfl rfl ?_
                | refine s_loadW Tryd.isAgg43 Tryd.sizeOf43 rfl rfl hs (kk := 4) rfl rfl ?_
                | refine s_loadW Tryd.isAgg43 Tryd.sizeOf43 rfl rfl hs (kk := 5) rfl rfl ?_
                | refine s_loadW Tryd.isAgg43 Tryd.sizeOf43 rfl rfl hs (kk := 6) rfl rfl ?_
                | refine s_loadW Tryd.isAgg43 Tryd.sizeOf43 rfl rfl hs (kk := 7) rfl rfl ?_
                | refine s_loadW Tryd.isAgg43 Tryd.sizeOf43 rfl rfl hs (kk := 8) rfl rfl ?_
                | refine s_loadW Tryd.isAgg43 Tryd.sizeOf43 rfl rfl hs (kk := 9) rfl rfl ?_
                | refine s_load_3 Tryd.isAgg43 Tryd.sizeOf43 rfl rfl (by first | exact hs.cell (k := 0) rfl rfl | exact hs.cell (k := 1) rfl rfl | exact hs.cell (k := 2) rfl rfl | exact hs.cell (k := 3) rfl rfl | exact hs.cell (k := 4) rfl rfl | exact hs.cell (k := 5) rfl rfl | exact hs.cell (k := 6) rfl rfl | exact hs.cell (k := 7) rfl rfl | exact hs.cell (k := 8) rfl rfl | exact hs.cell (k := 9) rfl rfl) (by first | exact hs.cell (k := 0) rfl rfl | exact hs.cell (k := 1) rfl rfl | exact hs.cell (k := 2) rfl rfl | exact hs.cell (k := 3) rfl rfl | exact hs.cell (k := 4) rfl rfl | exact hs.cell (k := 5) rfl rfl | exact hs.cell (k := 6) rfl rfl | exact hs.cell (k := 7) rfl rfl | exact hs.cell (k := 8) rfl rfl | exact hs.cell (k := 9) rfl rfl) (by first | exact hs.cell (k := 0) rfl rfl | exact hs.cell (k := 1) rfl rfl | exact hs.cell (k := 2) rfl rfl | exact hs.cell (k := 3) rfl rfl | exact hs.cell (k := 4) rfl rfl | exact hs.cell (k := 5) rfl rfl | exact hs.cell (k := 6) rfl rfl | exact hs.cell (k := 7) rfl rfl | exact hs.cell (k := 8) rfl rfl | exact hs.cell (k := 9) rfl rfl) ?_
              refine D_qn ?_
              refine D_e rfl ?_
              refine s_call Tryd.call26 rfl rfl (separate_ok f t (.slice a bs.length c) bs w (hv.fwd hs.fwd hd) (by omega)) ?_
              rintro r w ⟨m, rfl, rfl, rfl, rfl, hst⟩
              replace hs := St.back0 hs hst
              simp only [List.cons_append, List.nil_append] at hs
              clear hst
              refine D_en ?re ?_
              case re =>
                refine Reks_cons rfl rfl rfl rfl ?_ ?_
                · skip
                  refine s_move rfl rfl ?_
                  exact Rek_end rfl
                refine Reks_cons rfl rfl rfl rfl ?_ ?_
                · skip
                  refine s_move rfl rfl ?_
                  exact Rek_end rfl
                refine Reks_cons rfl rfl rfl rfl ?_ ?_
                · skip
                  refine s_nilCheck rfl rfl ?_
                  exact Rek_end rfl
                refine Reks_cons rfl rfl rfl rfl ?_ ?_
                · skip
                  refine s_fieldAddr rfl rfl (FA59_1 _ _) ?_
                  exact Rek_end rfl
                refine Reks_cons rfl rfl rfl rfl ?_ ?_
                · skip
                  first
                    | refine s_load Tryd.isAgg57 rfl rfl (hs.cell (k := 0) rfl rfl) ?_
                    | refine s_load Tryd.isAgg57 rfl rfl (hs.cell (k := 1) rfl rfl) ?_
                    | refine s_load Tryd.isAgg57 rfl rfl (hs.cell (k := 2) rfl rfl) ?_
                    | refine s_load Tryd.isAgg57 rfl rfl (hs.cell (k := 3) rfl rfl) ?_
                    | refine s_load Tryd.isAgg57 rfl rfl (hs.cell (k := 4) rfl rfl) ?_
                    | refine s_load Tryd.isAgg57 rfl rfl (hs.cell (k := 5) rfl rfl) ?_
                    | refine s_load Tryd.isAgg57 rfl rfl (hs.cell (k := 6) rfl rfl) ?_
                    | refine s_load Tryd.isAgg57 rfl rfl (hs.cell (k := 7) rfl rfl) ?_
                    | refine s_load Tryd.isAgg57 rfl rfl (hs.cell (k := 8) rfl rfl) ?_
                    | refine s_load Tryd.isAgg57 rfl rfl (hs.cell (k := 9) rfl rfl) ?_
                  exact Rek_end rfl
                exact Reks_nil
              refine D_e rfl ?_
              refine s_buildSlice rfl rfl (BS57_1 _ _ _) hs ?_; clear hs; intro b50 w hs
              refine D_en ?re ?_
              case re =>
                refine Reks_cons rfl rfl rfl rfl ?_ ?_
                · skip
                  refine s_move rfl rfl ?_
                  exact Rek_end rfl
                refine Reks_cons rfl rfl rfl rfl ?_ ?_
                · skip
                  refine s_move rfl rfl ?_
                  exact Rek_end rfl
                refine Reks_cons rfl rfl rfl rfl ?_ ?_
                · skip
                  refine s_nilCheck rfl rfl ?_
                  exact Rek_end rfl
                refine Reks_cons rfl rfl rfl rfl ?_ ?_
                · skip
                  refine s_fieldAddr rfl rfl (FA59_1 _ _) ?_
                  exact Rek_end rfl
                refine Reks_cons rfl rfl rfl rfl ?_ ?_
                · skip
                  first
                    | refine s_load Tryd.isAgg57 rfl rfl (hs.cell (k := 0) rfl rfl) ?_
                    | refine s_load Tryd.isAgg57 rfl rfl (hs.cell (k := 1) rfl rfl) ?_
                    | refine s_load Tryd.isAgg57 rfl rfl (hs.cell (k := 2) rfl rfl) ?_
                    | refine s_load Tryd.isAgg57 rfl rfl (hs.cell (k := 3) rfl rfl) ?_
                    | refine s_load Tryd.isAgg57 rfl rfl (hs.cell (k := 4) rfl rfl) ?_
                    | refine s_load Tryd.isAgg57 rfl rfl (hs.cell (k := 5) rfl rfl) ?_
                    | refine s_load Tryd.isAgg57 rfl rfl (hs.cell (k := 6) rfl rfl) ?_
                    | refine s_load Tryd.isAgg57 rfl rfl (hs.cell (k := 7) rfl rfl) ?_
                    | refine s_load Tryd.isAgg57 rfl rfl (hs.cell (k := 8) rfl rfl) ?_
                    | refine s_load Tryd.isAgg57 rfl rfl (hs.cell (k := 9) rfl rfl) ?_
                  exact Rek_end rfl
                exact Reks_nil
              refine D_e rfl ?_
              refine s_appendM (M := [_, _, _, _, _]) El57 rfl rfl rfl hO hs (hs.sl (k := 0) (ds := m.cells) rfl (Nat.le_refl _) (by intro j u hj; rw [Nat.zero_add]; exact hj)) rfl (cells_one m) (by omega) ?_
              clear hs; intro tv' w Lt' hO' hs
              simp only [List.cons_append, List.nil_append] at hs
              obtain ⟨tl', tc', ta', rfl, rfl⟩ := hO'.form
              refine D_en ?re ?_
              case re =>
                refine Reks_cons rfl rfl rfl rfl ?_ ?_
                · skip
                  refine s_move rfl rfl ?_
                  exact Rek_end rfl
                exact Reks_nil
              refine D_q rfl rfl ?_
              refine s_nilCheck rfl rfl ?_
              refine D_qn ?_
              refine D_q rfl rfl ?_
              refine s_fieldAddr rfl rfl (FA59_1 _ _) ?_
              refine D_qn ?_
              refine D_e rfl ?_
              first
                | refine s_storeB Tryd.sizeOf57 rfl rfl rfl hs (kk := 0) rfl rfl ?_
                | refine s_storeB Tryd.sizeOf57 rfl rfl rfl hs (kk := 1) rfl rfl ?_
                | refine s_storeB Tryd.sizeOf57 rfl rfl rfl hs (kk := 2) rfl rfl ?_
                | refine s_storeB Tryd.sizeOf57 rfl rfl rfl hs (kk := 3) rfl rfl ?_
                | refine s_storeB Tryd.sizeOf57 rfl rfl rfl hs (kk := 4) rfl rfl ?_
                | refine s_storeB Tryd.sizeOf57 rfl rfl rfl hs (kk := 5) rfl rfl ?_
                | refine s_storeB Tryd.sizeOf57 rfl rfl rfl hs (kk := 6) rfl rfl ?_
                | refine s_storeB Tryd.sizeOf57 rfl rfl rfl hs (kk := 7) rfl rfl ?_
                | refine s_storeB Tryd.sizeOf57 rfl rfl rfl hs (kk := 8) rfl rfl ?_
                | refine s_storeB Tryd.sizeOf57 rfl rfl rfl hs (kk := 9) rfl rfl ?_
              clear hs; intro w hs; try simp only [List.set_cons_zero, List.set_cons_succ, splice, List.take_succ_cons, List.take_zero, List.drop_succ_cons, List.drop_zero, List.nil_append, List.cons_append, List.length_cons, List.length_nil, Nat.reduceAdd, List.append_assoc] at hs
              refine D_en ?re ?_
              case re =>
                exact Reks_nil
              refine D_nil ?_
              refine n_then ?_
              refine W_seq ?_
              refine W_region ?_
              refine s_assign rfl rfl ?_
              refine WL_nil ?_
              refine n_then ?_
              refine W_ret ?_
              refine end1 rfl rfl ?_
              first
                | exact ⟨_, hs.tail, by rw [sendE, if_pos (by omega)], ms, ⟨g, _, Lt, rfl, hO⟩, fun _ => rfl, fun h => by rw [sendE, if_pos (by omega)] at h; omega⟩
                | exact ⟨_, hs.tail, by rw [sendE, if_neg (by omega), if_pos (by omega)], ms, ⟨g, _, Lt, rfl, hO⟩, fun _ => rfl, fun h => by rw [sendE, if_neg (by omega), if_pos (by omega)] at h; omega⟩
                | (have hE : sendE gs ms m.f m.t m.bs = 0 := by rw [sendE, if_neg (by omega), if_neg (by omega)]
                   refine ⟨_, St.reord [[_], [m.blk], [_], [_], [_], Lt', mblks ms] [3, 4, 5, 6, 1] [0, 2] hs rfl, by rw [hE], ms ++ [m], ⟨g, .slice ta' (ms.length + 1) tc', Lt', ?_, ?_⟩, fun h => absurd hE h, fun _ => ⟨m.b, rfl⟩⟩
                   · simp [cat, mblks]
                   · simpa [mcells] using hO')
theorem len_ok (p : Nat) (gs : List Int) (ms : List Msg) (L0 : Hp) (w0 : World) (hN : NetAt p gs ms L0) (hs : St (ids L0) w0 w0 L0) :
    Ret Tryd.prog 35 [.pointer (some ⟨p, 0, none⟩)].toArray w0 fun r w' => w' = w0 ∧ r = .int .i64 ms.length := by
  obtain ⟨g, tv, Lt, hL, hO⟩ := hN
  obtain ⟨tl, tc, ta, rfl, rfl⟩ := hO.form
  replace hs : St (ids L0) w0 w0 ((p, Blk 59 [.slice (some ⟨g, 0, none⟩) gs.length gs.length, .slice ta ms.length tc]) :: (g, Blk 3 (i64s gs)) :: (Lt ++ mblks ms)) := by rw [hL] at hs ⊢; exact hs
  refine Ret_of Tryd.func35 rfl Tryd.ntmps35 rfl ?_
  refine W_seq ?_
  refine W_region ?_
  refine s_assign rfl rfl ?_
  refine WL_nil ?_
  refine n_then ?_
  refine W_seq ?_
  refine W_region ?_
  refine s_move rfl rfl ?_
  refine s_nilCheck rfl rfl ?_
  refine s_fieldAddr rfl rfl (FA59_1 _ _) ?_
  first
    | refine s_load Tryd.isAgg57 rfl rfl (hs.cell (k := 0) rfl rfl) ?_
    | refine s_load Tryd.isAgg57 rfl rfl (hs.cell (k := 1) rfl rfl) ?_
    | refine s_load Tryd.isAgg57 rfl rfl (hs.cell (k := 2) rfl rfl) ?_
    | refine s_load Tryd.isAgg57 rfl rfl (hs.cell (k := 3) rfl rfl) ?_
    | refine s_load Tryd.isAgg57 rfl rfl (hs.cell (k := 4) rfl rfl) ?_
    | refine s_load Tryd.isAgg57 rfl rfl (hs.cell (k := 5) rfl rfl) ?_
    | refine s_load Tryd.isAgg57 rfl rfl (hs.cell (k := 6) rfl rfl) ?_
    | refine s_load Tryd.isAgg57 rfl rfl (hs.cell (k := 7) rfl rfl) ?_
    | refine s_load Tryd.isAgg57 rfl rfl (hs.cell (k := 8) rfl rfl) ?_
    | refine s_load Tryd.isAgg57 rfl rfl (hs.cell (k := 9) rfl rfl) ?_
  refine s_len rfl rfl (LN57 _ _ _ _) ?_
  refine s_assign rfl rfl ?_
  refine WL_nil ?_
  refine n_then ?_
  refine W_ret ?_
  exact end1 rfl rfl ⟨rfl, rfl⟩
theorem mcells_at {m : Msg} {j : Nat} (hj : j < 3) : ∀ {ms : List Msg} {k : Nat}, ms[k]? = some m → (mcells ms)[k * 3 + j]? = m.cells[j]?
  | a :: r, 0, h => by
    simp at h; subst h
    have : mcells (a :: r) = a.cells ++ mcells r := rfl
    rw [this, List.getElem?_append_left (by simp [Msg.cells]; omega)]; simp
  | a :: r, k + 1, h => by
    have : mcells (a :: r) = a.cells ++ mcells r := rfl
    rw [this, List.getElem?_append_right (by simp [Msg.cells]; omega)]
    have h2 := mcells_at hj (ms := r) (k := k) (by simpa using h)
    rw [← h2]; congr 1; simp [Msg.cells]; omega
theorem element_ok (v : Value) (ms : List Msg) (i : Int) (w0 : World) (hv : Sl w0 v ms.length (mcells ms)) :
    Ret Tryd.prog 28 [v, .int .i64 i].toArray w0 fun r w' => Fwd [] w0 w' ∧
      ((∃ m, 0 ≤ i ∧ ms[i.toNat]? = some m ∧ r = .tuple #[.agg m.cells.toArray, .bool true]) ∨
       (¬ (0 ≤ i ∧ i < ms.length) ∧ r = .tuple #[.agg #[.int .i64 0, .int .i64 0, .slice none 0 0], .bool false])) := by
  obtain ⟨a, c, rfl, hc⟩ := hv.len_le
  refine Ret_start fun w hs => ?_
  refine Ret_of Tryd.func28 rfl Tryd.ntmps28 rfl ?_
  refine W_seq ?_
  refine W_region ?_
  refine s_alloc rfl AL43 hs ?_; clear hs; intro b4 w hs
  refine s_assign rfl rfl ?_
  refine WL_nil ?_
  refine n_then ?_
  refine W_seq ?_
  refine W_seq ?_
  refine W_region ?_
  refine s_move rfl rfl ?_
  refine s_lss rfl rfl rfl ?_
  refine s_move rfl rfl ?_
  refine WL_case (s := 9) rfl (fun hg9 => ?_) (fun hg9 => ?_)
  · skip
    simp only [decide_eq_true_eq, decide_eq_false_iff_not] at hg9
    refine WL_skip rfl rfl rfl ?_
    refine WL_skip rfl rfl rfl ?_
    refine WL_skip rfl rfl rfl ?_
    refine WL_skip rfl rfl rfl ?_
    refine s_pick_t rfl rfl rfl ?_
    refine WL_nil ?_
    refine n_then ?_
    refine W_cond_t rfl ?_
    refine W_seq ?_
    refine W_region ?_
    refine s_alloc rfl AL43 hs ?_; clear hs; intro b6 w hs
    refine WL_nil ?_
    refine n_then ?_
    refine W_seq ?_
    refine W_region ?_
    first
      | refine s_loadW Tryd.isAgg43 Tryd.sizeOf43 rfl rfl hs (kk := 0) rfl rfl ?_
      | refine s_loadW Tryd.isAgg43 Tryd.sizeOf43 rfl rfl hs (kk := 1) rfl rfl ?_
      | refine s_loadW Tryd.isAgg43 Tryd.sizeOf43 rfl rfl hs (kk := 2) rfl rfl ?_
      | refine s_loadW Tryd.isAgg43 Tryd.sizeOf43 rfl rfl hs (kk := 3) rfl rfl ?_
      | refine s_loadW Tryd.isAgg43 Tryd.sizeOf43 rfl rfl hs (kk := 4) rfl rfl ?_
      | refine s_loadW Tryd.isAgg43 Tryd.sizeOf43 rfl rfl hs (kk := 5) rfl rfl ?_
      | refine s_loadW Tryd.isAgg43 Tryd.sizeOf43 rfl rfl hs (kk := 6) rfl rfl ?_
      | refine s_loadW Tryd.isAgg43 Tryd.sizeOf43 rfl rfl hs (kk := 7) rfl rfl ?_
      | refine s_loadW Tryd.isAgg43 Tryd.sizeOf43 rfl rfl hs (kk := 8) rfl rfl ?_
      | refine s_loadW Tryd.isAgg43 Tryd.sizeOf43 rfl rfl hs (kk := 9) rfl rfl ?_
      | refine s_load_3 Tryd.isAgg43 Tryd.sizeOf43 rfl rfl (by first | exact hs.cell (k := 0) rfl rfl | exact hs.cell (k := 1) rfl rfl | exact hs.cell (k := 2) rfl rfl | exact hs.cell (k := 3) rfl rfl | exact hs.cell (k := 4) rfl rfl | exact hs.cell (k := 5) rfl rfl | exact hs.cell (k := 6) rfl rfl | exact hs.cell (k := 7) rfl rfl | exact hs.cell (k := 8) rfl rfl | exact hs.cell (k := 9) rfl rfl) (by first | exact hs.cell (k := 0) rfl rfl | exact hs.cell (k := 1) rfl rfl | exact hs.cell (k := 2) rfl rfl | exact hs.cell (k := 3) rfl rfl | exact hs.cell (k := 4) rfl rfl | exact hs.cell (k := 5) rfl rfl | exact hs.cell (k := 6) rfl rfl | exact hs.cell (k := 7) rfl rfl | exact hs.cell (k := 8) rfl rfl | exact hs.cell (k := 9) rfl rfl) (by first | exact hs.cell (k := 0) rfl rfl | exact hs.cell (k := 1) rfl rfl | exact hs.cell (k := 2) rfl rfl | exact hs.cell (k := 3) rfl rfl | exact hs.cell (k := 4) rfl rfl | exact hs.cell (k := 5) rfl rfl | exact hs.cell (k := 6) rfl rfl | exact hs.cell (k := 7) rfl rfl | exact hs.cell (k := 8) rfl rfl | exact hs.cell (k := 9) rfl rfl) ?_
    first
      | refine s_storeW Tryd.sizeOf43 rfl rfl rfl rfl hs (kk := 0) rfl rfl ?_
      | refine s_storeW Tryd.sizeOf43 rfl rfl rfl rfl hs (kk := 1) rfl rfl ?_
      | refine s_storeW Tryd.sizeOf43 rfl rfl rfl rfl hs (kk := 2) rfl rfl ?_
      | refine s_storeW Tryd.sizeOf43 rfl rfl rfl rfl hs (kk := 3) rfl rfl ?_
      | refine s_storeW Tryd.sizeOf43 rfl rfl rfl rfl hs (kk := 4) rfl rfl ?_
      | refine s_storeW Tryd.sizeOf43 rfl rfl rfl rfl hs (kk := 5) rfl rfl ?_
      | refine s_storeW Tryd.sizeOf43 rfl rfl rfl rfl hs (kk := 6) rfl rfl ?_
      | refine s_storeW Tryd.sizeOf43 rfl rfl rfl rfl hs (kk := 7) rfl rfl ?_
      | refine s_storeW Tryd.sizeOf43 rfl rfl rfl rfl hs (kk := 8) rfl rfl ?_
      | refine s_storeW Tryd.sizeOf43 rfl rfl rfl rfl hs (kk := 9) rfl rfl ?_
      | refine s_storeAB Tryd.sizeOf43 rfl rfl rfl rfl hs (kk := 0) rfl rfl ?_
      | refine s_storeAB Tryd.sizeOf43 rfl rfl rfl rfl hs (kk := 1) rfl rfl ?_
      | refine s_storeAB Tryd.sizeOf43 rfl rfl rfl rfl hs (kk := 2) rfl rfl ?_
      | refine s_storeAB Tryd.sizeOf43 rfl rfl rfl rfl hs (kk := 3) rfl rfl ?_
      | refine s_storeAB Tryd.sizeOf43 rfl rfl rfl rfl hs (kk := 4) rfl rfl ?_
      | refine s_storeAB Tryd.sizeOf43 rfl rfl rfl rfl hs (kk := 5) rfl rfl ?_
      | refine s_storeAB Tryd.sizeOf43 rfl rfl rfl rfl hs (kk := 6) rfl rfl ?_
      | refine s_storeAB Tryd.sizeOf43 rfl rfl rfl rfl hs (kk := 7) rfl rfl ?_
      | refine s_storeAB Tryd.sizeOf43 rfl rfl rfl rfl hs (kk := 8) rfl rfl ?_
      | refine s_storeAB Tryd.sizeOf43 rfl rfl rfl rfl hs (kk := 9) rfl rfl ?_
    clear hs; intro w hs; try simp only [List.set_cons_zero, List.set_cons_succ, splice, List.take_succ_cons, List.take_zero, List.drop_succ_cons, List.drop_zero, List.nil_append, List.cons_append, List.length_cons, List.length_nil, Nat.reduceAdd, List.append_assoc] at hs
    refine s_assign rfl rfl ?_
    refine WL_nil ?_
    refine n_then ?_
    refine W_ret ?_
    refine r_then ?_
    first
      | (refine end2 rfl (resOk_block Tryd.isAgg43 Tryd.sizeOf43 hs rfl (kk := 1) rfl rfl) rfl ?_
         exact ⟨hs.fwd, Or.inr ⟨by omega, rfl⟩⟩)
      | (refine end2 rfl (resOk_block Tryd.isAgg43 Tryd.sizeOf43 hs rfl (kk := 0) rfl rfl) rfl ?_
         exact ⟨hs.fwd, Or.inl ⟨_, by omega, hm, rfl⟩⟩)
  · skip
    simp only [decide_eq_true_eq, decide_eq_false_iff_not] at hg9
    refine WL_take rfl ?_
    refine s_move rfl rfl ?_
    refine WL_take rfl ?_
    refine s_move rfl rfl ?_
    refine WL_take rfl ?_
    refine s_len rfl rfl (LN57 _ _ _ _) ?_
    refine WL_take rfl ?_
    refine s_geq rfl rfl rfl ?_
    refine s_pick_f rfl rfl rfl ?_
    refine WL_nil ?_
    refine n_then ?_
    refine W_cond rfl (fun hc14 => ?_) (fun hc14 => ?_)
    · skip
      simp only [decide_eq_true_eq, decide_eq_false_iff_not] at hc14
      refine W_seq ?_
      refine W_region ?_
      refine s_alloc rfl AL43 hs ?_; clear hs; intro b6 w hs
      refine WL_nil ?_
      refine n_then ?_
      refine W_seq ?_
      refine W_region ?_
      first
        | refine s_loadW Tryd.isAgg43 Tryd.sizeOf43 rfl rfl hs (kk := 0) rfl rfl ?_
        | refine s_loadW Tryd.isAgg43 Tryd.sizeOf43 rfl rfl hs (kk := 1) rfl rfl ?_
        | refine s_loadW Tryd.isAgg43 Tryd.sizeOf43 rfl rfl hs (kk := 2) rfl rfl ?_
        | refine s_loadW Tryd.isAgg43 Tryd.sizeOf43 rfl rfl hs (kk := 3) rfl rfl ?_
        | refine s_loadW Tryd.isAgg43 Tryd.sizeOf43 rfl rfl hs (kk := 4) rfl rfl ?_
        | refine s_loadW Tryd.isAgg43 Tryd.sizeOf43 rfl rfl hs (kk := 5) rfl rfl ?_
        | refine s_loadW Tryd.isAgg43 Tryd.sizeOf43 rfl rfl hs (kk := 6) rfl rfl ?_
        | refine s_loadW Tryd.isAgg43 Tryd.sizeOf43 rfl rfl hs (kk := 7) rfl rfl ?_
        | refine s_loadW Tryd.isAgg43 Tryd.sizeOf43 rfl rfl hs (kk := 8) rfl rfl ?_
        | refine s_loadW Tryd.isAgg43 Tryd.sizeOf43 rfl rfl hs (kk := 9) rfl rfl ?_
        | refine s_load_3 Tryd.isAgg43 Tryd.sizeOf43 rfl rfl (by first | exact hs.cell (k := 0) rfl rfl | exact hs.cell (k := 1) rfl rfl | exact hs.cell (k := 2) rfl rfl | exact hs.cell (k := 3) rfl rfl | exact hs.cell (k := 4) rfl rfl | exact hs.cell (k := 5) rfl rfl | exact hs.cell (k := 6) rfl rfl | exact hs.cell (k := 7) rfl rfl | exact hs.cell (k := 8) rfl rfl | exact hs.cell (k := 9) rfl rfl) (by first | exact hs.cell (k := 0) rfl rfl | exact hs.cell (k := 1) rfl rfl | exact hs.cell (k := 2) rfl rfl | exact hs.cell (k := 3) rfl rfl | exact hs.cell (k := 4) rfl rfl | exact hs.cell (k := 5) rfl rfl | exact hs.cell (k := 6) rfl rfl | exact hs.cell (k := 7) rfl rfl | exact hs.cell (k := 8) rfl rfl | exact hs.cell (k := 9) rfl rfl) (by first | exact hs.cell (k := 0) rfl rfl | exact hs.cell (k := 1) rfl rfl | exact hs.cell (k := 2) rfl rfl | exact hs.cell (k := 3) rfl rfl | exact hs.cell (k := 4) rfl rfl | exact hs.cell (k := 5) rfl rfl | exact hs.cell (k := 6) rfl rfl | exact hs.cell (k := 7) rfl rfl | exact hs.cell (k := 8) rfl rfl | exact hs.cell (k := 9) rfl rfl) ?_
      first
        | refine s_storeW Tryd.sizeOf43 rfl rfl rfl rfl hs (kk := 0) rfl rfl ?_
        | refine s_storeW Tryd.sizeOf43 rfl rfl rfl rfl hs (kk := 1) rfl rfl ?_
        | refine s_storeW Tryd.sizeOf43 rfl rfl rfl rfl hs (kk := 2) rfl rfl ?_
        | refine s_storeW Tryd.sizeOf43 rfl rfl rfl rfl hs (kk := 3) rfl rfl ?_
        | refine s_storeW Tryd.sizeOf43 rfl rfl rfl rfl hs (kk := 4) rfl rfl ?_
        | refine s_storeW Tryd.sizeOf43 rfl rfl rfl rfl hs (kk := 5) rfl rfl ?_
        | refine s_storeW Tryd.sizeOf43 rfl rfl rfl rfl hs (kk := 6) rfl rfl ?_
        | refine s_storeW Tryd.sizeOf43 rfl rfl rfl rfl hs (kk := 7) rfl rfl ?_
        | refine s_storeW Tryd.sizeOf43 rfl rfl rfl rfl hs (kk := 8) rfl rfl ?_
        | refine s_storeW Tryd.sizeOf43 rfl rfl rfl rfl hs (kk := 9) rfl rfl ?_
        | refine s_storeAB Tryd.sizeOf43 rfl rfl rfl rfl hs (kk := 0) rfl rfl ?_
        | refine s_storeAB Tryd.sizeOf43 rfl rfl rfl rfl hs (kk := 1) rfl rfl ?_
        | refine s_storeAB Tryd.sizeOf43 rfl rfl rfl rfl hs (kk := 2) rfl rfl ?_
        | refine s_storeAB Tryd.sizeOf43 rfl rfl rfl rfl hs (kk := 3) rfl rfl ?_
        | refine s_storeAB Tryd.sizeOf43 rfl rfl rfl rfl hs (kk := 4) rfl rfl ?_
        | refine s_storeAB Tryd.sizeOf43 rfl rfl rfl rfl hs (kk := 5) rfl rfl ?_
        | refine s_storeAB Tryd.sizeOf43 rfl rfl rfl rfl hs (kk := 6) rfl rfl ?_
        | refine s_storeAB Tryd.sizeOf43 rfl rfl rfl rfl hs (kk := 7) rfl rfl ?_
        | refine s_storeAB Tryd.sizeOf43 rfl rfl rfl rfl hs (kk := 8) rfl rfl ?_
        | refine s_storeAB Tryd.sizeOf43 rfl rfl rfl rfl hs (kk := 9) rfl rfl ?_
      clear hs; intro w hs; try simp only [List.set_cons_zero, List.set_cons_succ, splice, List.take_succ_cons, List.take_zero, List.drop_succ_cons, List.drop_zero, List.nil_append, List.cons_append, List.length_cons, List.length_nil, Nat.reduceAdd, List.append_assoc] at hs
      refine s_assign rfl rfl ?_
      refine WL_nil ?_
      refine n_then ?_
      refine W_ret ?_
      refine r_then ?_
      first
        | (refine end2 rfl (resOk_block Tryd.isAgg43 Tryd.sizeOf43 hs rfl (kk := 1) rfl rfl) rfl ?_
           exact ⟨hs.fwd, Or.inr ⟨by omega, rfl⟩⟩)
        | (refine end2 rfl (resOk_block Tryd.isAgg43 Tryd.sizeOf43 hs rfl (kk := 0) rfl rfl) rfl ?_
           exact ⟨hs.fwd, Or.inl ⟨_, by omega, hm, rfl⟩⟩)
    · skip
      simp only [decide_eq_true_eq, decide_eq_false_iff_not] at hc14
      have hil : i.toNat < ms.length := by omega
      have hm : ms[i.toNat]? = some ms[i.toNat] := by simp [hil]
      obtain ⟨b1, o1, hA1, hc0⟩ := hv.at (k := i.toNat * 3 + 0) (mcells_at (by omega) hm)
      obtain ⟨b2, o2, hA2, hc1⟩ := hv.at (k := i.toNat * 3 + 1) (mcells_at (by omega) hm)
      obtain ⟨b3, o3, hA3, hc2⟩ := hv.at (k := i.toNat * 3 + 2) (mcells_at (by omega) hm)
      have e1 := hA1.symm.trans hA2
      have e2 := hA1.symm.trans hA3
      simp only [Option.some.injEq, Addr.mk.injEq, and_true] at e1 e2
      obtain ⟨rfl, rfl⟩ := e1
      obtain ⟨rfl, rfl⟩ := e2
      have hB : b1 < w0.heap.size := World.block_lt_of_cell? w0 _ hc0
      refine W_skip ?_
      refine n_then ?_
      refine W_seq ?_
      refine W_region ?_
      refine s_move rfl rfl ?_
      refine s_move rfl rfl ?_
      (refine s_indexAddrP El57 rfl rfl rfl hA1 ?hx ?_; case hx => (constructor <;> omega))
      refine s_load_3 Tryd.isAgg43 Tryd.sizeOf43 rfl rfl ((hs.oldcell hB (by simp)).trans hc0) ((hs.oldcell hB (by simp)).trans hc1) ((hs.oldcell hB (by simp)).trans hc2) ?_
      first
        | refine s_storeW Tryd.sizeOf43 rfl rfl rfl rfl hs (kk := 0) rfl rfl ?_
        | refine s_storeW Tryd.sizeOf43 rfl rfl rfl rfl hs (kk := 1) rfl rfl ?_
        | refine s_storeW Tryd.sizeOf43 rfl rfl rfl rfl hs (kk := 2) rfl rfl ?_
        | refine s_storeW Tryd.sizeOf43 rfl rfl rfl rfl hs (kk := 3) rfl rfl ?_
        | refine s_storeW Tryd.sizeOf43 rfl rfl rfl rfl hs (kk := 4) rfl rfl ?_
        | refine s_storeW Tryd.sizeOf43 rfl rfl rfl rfl hs (kk := 5) rfl rfl ?_
        | refine s_storeW Tryd.sizeOf43 rfl rfl rfl rfl hs (kk := 6) rfl rfl ?_
        | refine s_storeW Tryd.sizeOf43 rfl rfl rfl rfl hs (kk := 7) rfl rfl ?_
        | refine s_storeW Tryd.sizeOf43 rfl rfl rfl rfl hs (kk := 8) rfl rfl ?_
        | refine s_storeW Tryd.sizeOf43 rfl rfl rfl rfl hs (kk := 9) rfl rfl ?_
        | refine s_storeAB Tryd.sizeOf43 rfl rfl rfl rfl hs (kk := 0) rfl rfl ?_
        | refine s_storeAB Tryd.sizeOf43 rfl rfl rfl rfl hs (kk := 1) rfl rfl ?_
        | refine s_storeAB Tryd.sizeOf43 rfl rfl rfl rfl hs (kk := 2) rfl rfl ?_
        | refine s_storeAB Tryd.sizeOf43 rfl rfl rfl rfl hs (kk := 3) rfl rfl ?_
        | refine s_storeAB Tryd.sizeOf43 rfl rfl rfl rfl hs (kk := 4) rfl rfl ?_
        | refine s_storeAB Tryd.sizeOf43 rfl rfl rfl rfl hs (kk := 5) rfl rfl ?_
        | refine s_storeAB Tryd.sizeOf43 rfl rfl rfl rfl hs (kk := 6) rfl rfl ?_
        | refine s_storeAB Tryd.sizeOf43 rfl rfl rfl rfl hs (kk := 7) rfl rfl ?_
        | refine s_storeAB Tryd.sizeOf43 rfl rfl rfl rfl hs (kk := 8) rfl rfl ?_
        | refine s_storeAB Tryd.sizeOf43 rfl rfl rfl rfl hs (kk := 9) rfl rfl ?_
      clear hs; intro w hs; try simp only [List.set_cons_zero, List.set_cons_succ, splice, List.take_succ_cons, List.take_zero, List.drop_succ_cons, List.drop_zero, List.nil_append, List.cons_append, List.length_cons, List.length_nil, Nat.reduceAdd, List.append_assoc] at hs
      refine s_assign rfl rfl ?_
      refine WL_nil ?_
      refine n_then ?_
      refine W_ret ?_
      first
        | (refine end2 rfl (resOk_block Tryd.isAgg43 Tryd.sizeOf43 hs rfl (kk := 1) rfl rfl) rfl ?_
           exact ⟨hs.fwd, Or.inr ⟨by omega, rfl⟩⟩)
        | (refine end2 rfl (resOk_block Tryd.isAgg43 Tryd.sizeOf43 hs rfl (kk := 0) rfl rfl) rfl ?_
           exact ⟨hs.fwd, Or.inl ⟨_, by omega, hm, rfl⟩⟩)
end Go.Proofs.YtgjjdlgbbgijgaaDoor
