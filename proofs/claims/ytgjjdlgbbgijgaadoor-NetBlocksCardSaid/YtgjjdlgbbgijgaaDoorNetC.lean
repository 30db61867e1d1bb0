/- Contracts of package net, further. -/
import Derived.Test.YtgjjdlgbbgijgaaDoorNetB
set_option linter.unusedVariables false
set_option linter.unusedSimpArgs false
namespace Go.Proofs.YtgjjdlgbbgijgaaDoor
open Go.SL
/-- slices.Delete of one element -/
theorem delete_ok (v : Value) (n : Nat) (cs : List Value) (Lv : Hp) (i : Int) (w0 : World) (hO : OwnS 43 3 v n cs Lv) (hs : St (ids Lv) w0 w0 Lv) (h1 : ∀ c ∈ cs, c.oneCell' = true) (hi : 0 ≤ i ∧ i < n) (hn : n ≤ 4294967296) :
    Ret Tryd.prog 29 [v, .int .i64 i, .int .i64 (i + 1)].toArray w0 fun r w' => ∃ L', St (ids Lv) w0 w' L' ∧
      OwnS 43 3 r (n - 1) (cs.take (i.toNat * 3) ++ cs.drop ((i.toNat + 1) * 3)) L' := by
  obtain ⟨hlen, hO⟩ := hO
  rcases hO with ⟨⟨_, rfl⟩, rfl, rfl⟩ | ⟨g, cap, sp, rfl, hcap, hmx, hl, hL⟩
  · exfalso; omega
  obtain ⟨k, rfl⟩ : ∃ k : Nat, i = k := ⟨i.toNat, by omega⟩
  have hkn : k < n := by omega
  replace hs : St (ids Lv) w0 w0 [(g, Blk 43 (cs ++ sp))] := by rw [hL] at hs ⊢; exact hs
  have hcap2 : (cs ++ sp).length = cap * 3 := hl
  have hlen2 : cs.length + sp.length = cap * 3 := by simpa using hl
  refine Ret_startL hs fun w hs => ?_
  refine Ret_of Tryd.func29 rfl Tryd.ntmps29 rfl ?_
  refine W_seq ?_
  refine W_region ?_
  refine s_assign rfl rfl ?_
  refine WL_nil ?_
  refine n_then ?_
  refine W_seq ?_
  refine W_region ?_
  refine s_move rfl rfl ?_
  refine s_move rfl rfl ?_
  refine s_move rfl rfl ?_
  refine s_move rfl rfl ?_
  refine s_len rfl rfl (LN57 _ _ _ _) ?_
  (refine s_slice_lhm El57 rfl rfl rfl rfl rfl ?hx ?_; case hx => (refine ⟨?_, ?_, ?_, ?_⟩ <;> omega))
  intro vdummy
  refine WL_nil ?_
  refine n_then ?_
  refine W_seq ?_
  refine W_seq ?_
  refine W_region ?_
  refine s_move rfl rfl ?_
  refine s_move rfl rfl ?_
  refine s_eql rfl rfl rfl ?_
  refine WL_nil ?_
  refine n_then ?_
  refine W_cond_kf rfl (by simp; omega) ?_
  refine W_skip ?_
  refine n_then ?_
  refine W_seq ?_
  refine W_region ?_
  refine s_move rfl rfl ?_
  refine s_len rfl rfl (LN57 _ _ _ _) ?_
  refine s_assign rfl rfl ?_
  refine WL_nil ?_
  refine n_then ?_
  refine W_seq ?_
  refine W_draw [(0, true, []), (1, true, []), (2, true, []), (3, true, []), (4, true, []), (5, true, []), (6, false, []), (7, true, [])] [[], [], [0, 1], [], [], [3, 4], [0, 1, 2, 3, 4, 5], [0, 1, 2, 3, 4, 5, 6]] MX (by kernel_rfl) ?_
  intro w1 hw1 hw2 hw3 hw4; replace hs := hs.redrawn hw1 hw2 hw3 hw4; clear hw1 hw2 hw3 hw4
  obtain ⟨w, rfl⟩ : ∃ w : World, w = w1 := ⟨_, rfl⟩
  refine D_q rfl rfl ?_
  refine s_move rfl rfl ?_
  refine D_qn ?_
  refine D_q rfl rfl ?_
  refine s_move rfl rfl ?_
  refine D_qn ?_
  refine D_q rfl rfl ?_
  (refine s_slice_hi El57 rfl rfl rfl ?hx ?_; case hx => (constructor <;> omega))
  refine D_qn ?_
  refine D_q rfl rfl ?_
  refine s_move rfl rfl ?_
  refine D_qn ?_
  refine D_q rfl rfl ?_
  refine s_move rfl rfl ?_
  refine D_qn ?_
  refine D_q rfl rfl ?_
  (refine s_slice_lo El57 rfl rfl rfl ?hx ?_; case hx => (constructor <;> omega))
  refine D_qn ?_
  refine D_e rfl ?_
  have hsl : Sl w (.slice (some ⟨g, if cap = ((k : Int) + 1).toNat then 0 else 0 + ((k : Int) + 1).toNat * 3, none⟩) (n - ((k : Int) + 1).toNat) (cap - ((k : Int) + 1).toNat)) (n - ((k : Int) + 1).toNat) (cs.drop ((k + 1) * 3)) := by
    have ek : ((k : Int) + 1).toNat = k + 1 := by omega
    rw [ek]
    by_cases hck : cap = k + 1
    · have : cs.drop ((k + 1) * 3) = [] := List.drop_eq_nil_of_le (by omega)
      rw [this]
      exact ⟨_, _, rfl, by omega, .inl rfl⟩
    · rw [if_neg hck]
      refine hs.sl (k := 0) rfl (by omega) (fun j u hj => ?_)
      have hj2 : j < (cs.drop ((k + 1) * 3)).length := (List.getElem?_eq_some_iff.1 hj).1
      rw [List.getElem?_drop] at hj
      rw [List.getElem?_append_left (by simp at hj2; omega), ← hj]; congr 1; omega
  have ek : ((k : Int) + 1).toNat = k + 1 := by omega
  have ek2 : (k : Int).toNat = k := by omega
  refine s_append_in El57 rfl rfl rfl hs (kk := 0) rfl hsl (by simp; omega) (fun c hc => h1 c (List.mem_of_mem_drop hc)) (by omega) (by simp; omega) ?_
  clear hs hsl; intro w hs
  obtain ⟨A, hA⟩ : ∃ A, A = cs.take (k * 3) ++ cs.drop ((k + 1) * 3) := ⟨_, rfl⟩
  have hAl : A.length = (n - 1) * 3 := by rw [hA]; simp; omega
  obtain ⟨R1, hR, hRl⟩ : ∃ R1, List.take ((k : Int).toNat * 3) (cs ++ sp) ++ List.drop ((k + 1) * 3) cs ++ List.drop ((k : Int).toNat * 3 + (List.drop ((k + 1) * 3) cs).length) (cs ++ sp) = A ++ R1 ∧ R1.length = cap * 3 - (n - 1) * 3 := by
    refine ⟨_, by rw [hA, ek2, List.take_append_of_le_length (by omega)], ?_⟩
    simp; omega
  rw [hR] at hs
  simp only [List.set_cons_zero] at hs
  have en : (k : Int).toNat + (n - ((k : Int) + 1).toNat) = n - 1 := by omega
  rw [en]
  refine D_en ?re ?_
  case re =>
    exact Reks_nil
  refine D_q rfl rfl ?_
  refine s_assign rfl rfl ?_
  refine D_qn ?_
  refine D_nil ?_
  refine n_then ?_
  refine W_seq ?_
  refine W_region ?_
  refine s_move rfl rfl ?_
  refine s_move rfl rfl ?_
  refine s_len rfl rfl (LN57 _ _ _ _) ?_
  refine s_move rfl rfl ?_
  (refine s_slice_lh El57 rfl rfl rfl rfl ?hx ?_; case hx => (refine ⟨?_, ?_, ?_⟩ <;> omega))
  have e1 : ((n - 1 : Nat) : Int).toNat = n - 1 := by omega
  have e2 : (n : Int).toNat - ((n - 1 : Nat) : Int).toNat = 1 := by omega
  rw [e2, e1, if_neg (by omega), Nat.zero_add]
  refine s_clear El57 rfl hs (kk := 0) rfl (by simp [Value.oneCell']) (by simp; omega) ?_
  clear hs; intro w hs
  have hsp : splice (A ++ R1) ((n - 1) * 3) (made [.int .i64 0, .int .i64 0, .slice none 0 0] 1) = A ++ ([.int .i64 0, .int .i64 0, .slice none 0 0] ++ R1.drop 3) := by
    simp only [splice, made, List.append_nil]
    rw [← hAl, List.take_left, List.drop_append, List.append_assoc]
    congr 2
    simp [List.drop_eq_nil_of_le]
  rw [hsp] at hs
  simp only [List.set_cons_zero] at hs
  refine WL_nil ?_
  refine n_then ?_
  refine W_seq ?_
  refine W_region ?_
  refine s_move rfl rfl ?_
  refine s_assign rfl rfl ?_
  refine WL_nil ?_
  refine n_then ?_
  refine W_ret ?_
  refine end1 rfl rfl ⟨_, hs, ?_⟩
  rw [ek2, ← hA]
  refine ⟨hAl, Or.inr ⟨g, cap, _, rfl, by omega, hmx, ?_, rfl⟩⟩
  simp; omega
theorem mcells_one (ms : List Msg) : ∀ c ∈ mcells ms, c.oneCell' = true := by
  intro c hc
  obtain ⟨m, _, h⟩ := List.mem_flatMap.1 hc
  exact cells_one m c h
theorem mcells_take (ms : List Msg) (k : Nat) : mcells (ms.take k) = (mcells ms).take (k * 3) := by
  induction ms generalizing k with
  | nil => simp [mcells]
  | cons m r ih =>
    cases k with
    | zero => simp [mcells]
    | succ k =>
      have e : mcells (m :: r) = m.cells ++ mcells r := rfl
      have e2 : mcells ((m :: r).take (k + 1)) = m.cells ++ mcells (r.take k) := rfl
      have h3 : m.cells.length = 3 := rfl
      rw [e, e2, ih, List.take_append, List.take_of_length_le (l := m.cells) (by omega), h3]
      congr 2; omega
theorem mcells_drop (ms : List Msg) (k : Nat) : mcells (ms.drop k) = (mcells ms).drop (k * 3) := by
  induction ms generalizing k with
  | nil => simp [mcells]
  | cons m r ih =>
    cases k with
    | zero => simp
    | succ k =>
      have e : mcells (m :: r) = m.cells ++ mcells r := rfl
      have h3 : m.cells.length = 3 := rfl
      have h4 : List.drop ((k + 1) * 3) m.cells = [] := List.drop_eq_nil_of_le (by omega)
      rw [List.drop_succ_cons, ih, e, List.drop_append, h4, List.nil_append, h3]
      congr 1; omega
theorem mcells_erase (ms : List Msg) (k : Nat) : mcells (ms.eraseIdx k) = (mcells ms).take (k * 3) ++ (mcells ms).drop ((k + 1) * 3) := by
  rw [List.eraseIdx_eq_take_drop_succ, mcells_append, mcells_take, mcells_drop]
theorem mblks_split {ms : List Msg} {k : Nat} {m : Msg} (h : ms[k]? = some m) : mblks ms = mblks (ms.take k) ++ (m.blk :: mblks (ms.drop (k + 1))) := by
  obtain ⟨hk, rfl⟩ := List.getElem?_eq_some_iff.1 h
  have : ms = ms.take k ++ ms[k] :: ms.drop (k + 1) := by
    rw [← List.drop_eq_getElem_cons hk, List.take_append_drop]
  rw (occs := .pos [1]) [this, mblks_append]; rfl
theorem mblks_erase (ms : List Msg) (k : Nat) : mblks (ms.eraseIdx k) = mblks (ms.take k) ++ mblks (ms.drop (k + 1)) := by
  rw [List.eraseIdx_eq_take_drop_succ, mblks_append]

/-! ### Copy -/
theorem copy_no (p : Nat) (gs : List Int) (ms : List Msg) (i : Int) (L0 : Hp) (w0 : World) (hN : NetAt p gs ms L0) (hs : St (ids L0) w0 w0 L0) (hin : ¬ (0 ≤ i ∧ i < ms.length)) :
    Ret Tryd.prog 12 [.pointer (some ⟨p, 0, none⟩), .int .i64 i].toArray w0 fun r w' => ∃ L', St (ids L0) w0 w' L' ∧ r = .int .i64 9 ∧ NetAt p gs ms L' := by
  obtain ⟨g, tv, Lt, hL, hO⟩ := hN
  obtain ⟨tl, tc, ta, rfl, rfl⟩ := hO.form
  replace hs : St (ids L0) w0 w0 ((p, Blk 59 [.slice (some ⟨g, 0, none⟩) gs.length gs.length, .slice ta ms.length tc]) :: (g, Blk 3 (i64s gs)) :: (Lt ++ mblks ms)) := by rw [hL] at hs ⊢; exact hs
  refine Ret_startL hs fun w hs => ?_
  refine Ret_of Tryd.func12 rfl Tryd.ntmps12 rfl ?_
  refine W_seq ?_
  refine W_region ?_
  refine s_assign rfl rfl ?_
  refine WL_nil ?_
  refine n_then ?_
  refine W_seq ?_
  refine W_region ?_
  refine s_move rfl rfl ?_
  refine s_nilCheck rfl rfl ?_
  refine s_fieldAddr rfl rfl (FA59_1 _ _) ?_
  first
    | refine s_load Tryd.isAgg57 rfl rfl (hs.cell (k := 0) rfl rfl) ?_
    | refine s_load Tryd.isAgg57 rfl rfl (hs.cell (k := 1) rfl rfl) ?_
    | refine s_load Tryd.isAgg57 rfl rfl (hs.cell (k := 2) rfl rfl) ?_
    | refine s_load Tryd.isAgg57 rfl rfl (hs.cell (k := 3) rfl rfl) ?_
    | refine s_load Tryd.isAgg57 rfl rfl (hs.cell (k := 4) rfl rfl) ?_
    | refine s_load Tryd.isAgg57 rfl rfl (hs.cell (k := 5) rfl rfl) ?_
    | refine s_load Tryd.isAgg57 rfl rfl (hs.cell (k := 6) rfl rfl) ?_
    | refine s_load Tryd.isAgg57 rfl rfl (hs.cell (k := 7) rfl rfl) ?_
    | refine s_load Tryd.isAgg57 rfl rfl (hs.cell (k := 8) rfl rfl) ?_
    | refine s_load Tryd.isAgg57 rfl rfl (hs.cell (k := 9) rfl rfl) ?_
  refine s_move rfl rfl ?_
  refine s_call Tryd.call28 rfl rfl (element_ok _ ms i w (hO.slM (M := [_, _]) hs)) ?_
  rintro r w ⟨hst, h⟩
  obtain ⟨m, h1, hm, rfl⟩ | ⟨_, rfl⟩ := h
  case inl => exact absurd ⟨h1, (by have := (List.getElem?_eq_some_iff.1 hm).1; omega)⟩ hin
  replace hs := hs.fwd1 hst
  clear hst
  refine s_move rfl rfl ?_
  refine s_extract rfl rfl rfl ?_
  refine s_extract rfl rfl rfl ?_
  refine s_alloc rfl AL43 hs ?_; clear hs; intro b5 w hs
  first
    | refine s_storeW Tryd.sizeOf43 rfl rfl rfl rfl hs (kk := 0) rfl rfl ?_
    | refine s_storeW Tryd.sizeOf43 rfl rfl rfl rfl hs (kk := 1) rfl rfl ?_
    | refine s_storeW Tryd.sizeOf43 rfl rfl rfl rfl hs (kk := 2) rfl rfl ?_
    | refine s_storeW Tryd.sizeOf43 rfl rfl rfl rfl hs (kk := 3) rfl rfl ?_
    | refine s_storeW Tryd.sizeOf43 rfl rfl rfl rfl hs (kk := 4) rfl rfl ?_
    | refine s_storeW Tryd.sizeOf43 rfl rfl rfl rfl hs (kk := 5) rfl rfl ?_
    | refine s_storeW Tryd.sizeOf43 rfl rfl rfl rfl hs (kk := 6) rfl rfl ?_
    | refine s_storeW Tryd.sizeOf43 rfl rfl rfl rfl hs (kk := 7) rfl rfl ?_
    | refine s_storeW Tryd.sizeOf43 rfl rfl rfl rfl hs (kk := 8) rfl rfl ?_
    | refine s_storeW Tryd.sizeOf43 rfl rfl rfl rfl hs (kk := 9) rfl rfl ?_
    | refine s_storeAB Tryd.sizeOf43 rfl rfl rfl rfl hs (kk := 0) rfl rfl ?_
    | refine s_storeAB Tryd.sizeOf43 rfl rfl rfl rfl hs (kk := 1) rfl rfl ?_
    | refine s_storeAB Tryd.sizeOf43 rfl rfl rfl rfl hs (kk := 2) rfl rfl ?_
    | refine s_storeAB Tryd.sizeOf43 rfl rfl rfl rfl hs (kk := 3) rfl rfl ?_
    | refine s_storeAB Tryd.sizeOf43 rfl rfl rfl rfl hs (kk := 4) rfl rfl ?_
    | refine s_storeAB Tryd.sizeOf43 rfl rfl rfl rfl hs (kk := 5) rfl rfl ?_
    | refine s_storeAB Tryd.sizeOf43 rfl rfl rfl rfl hs (kk := 6) rfl rfl ?_
    | refine s_storeAB Tryd.sizeOf43 rfl rfl rfl rfl hs (kk := 7) rfl rfl ?_
    | refine s_storeAB Tryd.sizeOf43 rfl rfl rfl rfl hs (kk := 8) rfl rfl ?_
    | refine s_storeAB Tryd.sizeOf43 rfl rfl rfl rfl hs (kk := 9) rfl rfl ?_
  clear hs; intro w hs; try simp only [List.set_cons_zero, List.set_cons_succ, splice, List.take_succ_cons, List.take_zero, List.drop_succ_cons, List.drop_zero, List.nil_append, List.cons_append, List.length_cons, List.length_nil, Nat.reduceAdd, List.append_assoc] at hs
  refine s_assign rfl rfl ?_
  refine WL_nil ?_
  refine n_then ?_
  refine W_seq ?_
  refine W_seq ?_
  refine W_region ?_
  refine s_move rfl rfl ?_
  refine s_not rfl rfl ?_
  refine WL_nil ?_
  refine n_then ?_
  refine W_cond_kt rfl (rfl) ?_
  refine W_seq ?_
  refine W_region ?_
  refine s_assign rfl rfl ?_
  refine WL_nil ?_
  refine n_then ?_
  refine W_ret ?_
  refine r_then ?_
  exact end1 rfl rfl ⟨_, hs.tail, rfl, g, _, Lt, rfl, hO⟩
theorem copy_yes (p : Nat) (gs : List Int) (ms : List Msg) (i : Int) (L0 : Hp) (w0 : World) (hN : NetAt p gs ms L0) (hs : St (ids L0) w0 w0 L0) (hin : 0 ≤ i ∧ i < ms.length) (hml : ms.length ≤ 1000) (hbl : ∀ m ∈ ms, m.bs.length ≤ 65536) :
    Ret Tryd.prog 12 [.pointer (some ⟨p, 0, none⟩), .int .i64 i].toArray w0 fun r w' => ∃ L', St (ids L0) w0 w' L' ∧
      ((1000 ≤ ms.length ∧ r = .int .i64 4 ∧ NetAt p gs ms L') ∨ (ms.length < 1000 ∧ r = .int .i64 0 ∧ ∃ m b, ms[i.toNat]? = some m ∧ NetAt p gs (ms ++ [⟨m.f, m.t, b, m.bs⟩]) L')) := by
  obtain ⟨g, tv, Lt, hL, hO⟩ := hN
  obtain ⟨tl, tc, ta, rfl, rfl⟩ := hO.form
  replace hs : St (ids L0) w0 w0 ((p, Blk 59 [.slice (some ⟨g, 0, none⟩) gs.length gs.length, .slice ta ms.length tc]) :: (g, Blk 3 (i64s gs)) :: (Lt ++ mblks ms)) := by rw [hL] at hs ⊢; exact hs
  refine Ret_startL hs fun w hs => ?_
  refine Ret_of Tryd.func12 rfl Tryd.ntmps12 rfl ?_
  refine W_seq ?_
  refine W_region ?_
  refine s_assign rfl rfl ?_
  refine WL_nil ?_
  refine n_then ?_
  refine W_seq ?_
  refine W_region ?_
  refine s_move rfl rfl ?_
  refine s_nilCheck rfl rfl ?_
  refine s_fieldAddr rfl rfl (FA59_1 _ _) ?_
  first
    | refine s_load Tryd.isAgg57 rfl rfl (hs.cell (k := 0) rfl rfl) ?_
    | refine s_load Tryd.isAgg57 rfl rfl (hs.cell (k := 1) rfl rfl) ?_
    | refine s_load Tryd.isAgg57 rfl rfl (hs.cell (k := 2) rfl rfl) ?_
    | refine s_load Tryd.isAgg57 rfl rfl (hs.cell (k := 3) rfl rfl) ?_
    | refine s_load Tryd.isAgg57 rfl rfl (hs.cell (k := 4) rfl rfl) ?_
    | refine s_load Tryd.isAgg57 rfl rfl (hs.cell (k := 5) rfl rfl) ?_
    | refine s_load Tryd.isAgg57 rfl rfl (hs.cell (k := 6) rfl rfl) ?_
    | refine s_load Tryd.isAgg57 rfl rfl (hs.cell (k := 7) rfl rfl) ?_
    | refine s_load Tryd.isAgg57 rfl rfl (hs.cell (k := 8) rfl rfl) ?_
    | refine s_load Tryd.isAgg57 rfl rfl (hs.cell (k := 9) rfl rfl) ?_
  refine s_move rfl rfl ?_
  refine s_call Tryd.call28 rfl rfl (element_ok _ ms i w (hO.slM (M := [_, _]) hs)) ?_
  rintro r w ⟨hst, h⟩
  obtain ⟨m, _, hm, rfl⟩ | ⟨h, _⟩ := h
  case inr => exact absurd hin h
  replace hs := hs.fwd1 hst
  clear hst
  simp only [Msg.cells]
  have hmem := List.mem_of_getElem? hm
  refine s_move rfl rfl ?_
  refine s_extract rfl rfl rfl ?_
  refine s_extract rfl rfl rfl ?_
  refine s_alloc rfl AL43 hs ?_; clear hs; intro b5 w hs
  first
    | refine s_storeW Tryd.sizeOf43 rfl rfl rfl rfl hs (kk := 0) rfl rfl ?_
    | refine s_storeW Tryd.sizeOf43 rfl rfl rfl rfl hs (kk := 1) rfl rfl ?_
    | refine s_storeW Tryd.sizeOf43 rfl rfl rfl rfl hs (kk := 2) rfl rfl ?_
    | refine s_storeW Tryd.sizeOf43 rfl rfl rfl rfl hs (kk := 3) rfl rfl ?_
    | refine s_storeW Tryd.sizeOf43 rfl rfl rfl rfl hs (kk := 4) rfl rfl ?_
    | refine s_storeW Tryd.sizeOf43 rfl rfl rfl rfl hs (kk := 5) rfl rfl ?_
    | refine s_storeW Tryd.sizeOf43 rfl rfl rfl rfl hs (kk := 6) rfl rfl ?_
    | refine s_storeW Tryd.sizeOf43 rfl rfl rfl rfl hs (kk := 7) rfl rfl ?_
    | refine s_storeW Tryd.sizeOf43 rfl rfl rfl rfl hs (kk := 8) rfl rfl ?_
    | refine s_storeW Tryd.sizeOf43 rfl rfl rfl rfl hs (kk := 9) rfl rfl ?_
    | refine s_storeAB Tryd.sizeOf43 rfl rfl rfl rfl hs (kk := 0) rfl rfl ?_
    | refine s_storeAB Tryd.sizeOf43 rfl rfl rfl rfl hs (kk := 1) rfl rfl ?_
    | refine s_storeAB Tryd.sizeOf43 rfl rfl rfl rfl hs (kk := 2) rfl rfl ?_
    | refine s_storeAB Tryd.sizeOf43 rfl rfl rfl rfl hs (kk := 3) rfl rfl ?_
    | refine s_storeAB Tryd.sizeOf43 rfl rfl rfl rfl hs (kk := 4) rfl rfl ?_
    | refine s_storeAB Tryd.sizeOf43 rfl rfl rfl rfl hs (kk := 5) rfl rfl ?_
    | refine s_storeAB Tryd.sizeOf43 rfl rfl rfl rfl hs (kk := 6) rfl rfl ?_
    | refine s_storeAB Tryd.sizeOf43 rfl rfl rfl rfl hs (kk := 7) rfl rfl ?_
    | refine s_storeAB Tryd.sizeOf43 rfl rfl rfl rfl hs (kk := 8) rfl rfl ?_
    | refine s_storeAB Tryd.sizeOf43 rfl rfl rfl rfl hs (kk := 9) rfl rfl ?_
  clear hs; intro w hs; try simp only [List.set_cons_zero, List.set_cons_succ, splice, List.take_succ_cons, List.take_zero, List.drop_succ_cons, List.drop_zero, List.nil_append, List.cons_append, List.length_cons, List.length_nil, Nat.reduceAdd, List.append_assoc] at hs
  refine s_assign rfl rfl ?_
  refine WL_nil ?_
  refine n_then ?_
  refine W_seq ?_
  refine W_seq ?_
  refine W_region ?_
  refine s_move rfl rfl ?_
  refine s_not rfl rfl ?_
  refine WL_nil ?_
  refine n_then ?_
  refine W_cond_kf rfl (rfl) ?_
  refine W_skip ?_
  refine n_then ?_
  refine W_seq ?_
  refine W_seq ?_
  refine W_region ?_
  refine s_move rfl rfl ?_
  refine s_nilCheck rfl rfl ?_
  refine s_fieldAddr rfl rfl (FA59_1 _ _) ?_
  first
    | refine s_load Tryd.isAgg57 rfl rfl (hs.cell (k := 0) rfl rfl) ?_
    | refine s_load Tryd.isAgg57 rfl rfl (hs.cell (k := 1) rfl rfl) ?_
    | refine s_load Tryd.isAgg57 rfl rfl (hs.cell (k := 2) rfl rfl) ?_
    | refine s_load Tryd.isAgg57 rfl rfl (hs.cell (k := 3) rfl rfl) ?_
    | refine s_load Tryd.isAgg57 rfl rfl (hs.cell (k := 4) rfl rfl) ?_
    | refine s_load Tryd.isAgg57 rfl rfl (hs.cell (k := 5) rfl rfl) ?_
    | refine s_load Tryd.isAgg57 rfl rfl (hs.cell (k := 6) rfl rfl) ?_
    | refine s_load Tryd.isAgg57 rfl rfl (hs.cell (k := 7) rfl rfl) ?_
    | refine s_load Tryd.isAgg57 rfl rfl (hs.cell (k := 8) rfl rfl) ?_
    | refine s_load Tryd.isAgg57 rfl rfl (hs.cell (k := 9) rfl rfl) ?_
  refine s_len rfl rfl (LN57 _ _ _ _) ?_
  refine s_geq rfl rfl rfl ?_
  refine WL_nil ?_
  refine n_then ?_
  refine W_cond rfl (fun hc23 => ?_) (fun hc23 => ?_)
  · skip
    simp only [decide_eq_true_eq, decide_eq_false_iff_not] at hc23
    refine W_seq ?_
    refine W_region ?_
    refine s_assign rfl rfl ?_
    refine WL_nil ?_
    refine n_then ?_
    refine W_ret ?_
    refine r_then ?_
    refine end1 rfl rfl ?_
    first
      | exact ⟨_, hs.tail, Or.inl ⟨by omega, rfl, g, _, Lt, rfl, hO⟩⟩
      | (have hm' : m' = ⟨m.f, m.t, m'.b, m.bs⟩ := by rw [← hf, ← ht, ← hb]
         refine ⟨_, St.reord [[_], [m'.blk], [_], [_], [_], Lt', mblks ms] [3, 4, 5, 6, 1] [0, 2] hs rfl, Or.inr ⟨by omega, rfl, m, m'.b, hm, g, .slice ta' (ms.length + 1) tc', Lt', ?_, ?_⟩⟩
         · rw [← hm']; simp [cat, mblks]
         · rw [← hm']; simpa [mcells] using hO')
  · skip
    simp only [decide_eq_true_eq, decide_eq_false_iff_not] at hc23
    refine W_skip ?_
    refine n_then ?_
    refine W_seq ?_
    refine W_draw [(0, true, []), (1, true, []), (2, true, []), (3, true, []), (4, true, []), (5, true, []), (6, false, [0, 1, 2, 3, 4]), (7, false, [0, 1, 2, 3, 4]), (8, false, [0]), (9, true, []), (10, true, []), (11, false, [])] [[], [], [1], [1, 2], [1, 2, 3], [], [5], [5, 6], [1, 2, 3, 4, 5, 6, 7], [0, 1, 2, 3, 4, 5, 6, 7, 8], [0, 1, 2, 3, 4, 5, 6, 7, 8, 9], [0, 1, 2, 3, 4, 5, 6, 7, 8, 9, 10]] MX (by kernel_rfl) ?_
    intro w1 hw1 hw2 hw3 hw4; replace hs := hs.redrawn hw1 hw2 hw3 hw4; clear hw1 hw2 hw3 hw4
    obtain ⟨w, rfl⟩ : ∃ w : World, w = w1 := ⟨_, rfl⟩
    refine D_q rfl rfl ?_
    refine s_move rfl rfl ?_
    refine D_qn ?_
    refine D_q rfl rfl ?_
    refine s_move rfl rfl ?_
    refine D_qn ?_
    refine D_q rfl rfl ?_
    refine s_nilCheck rfl rfl ?_
    refine D_qn ?_
    refine D_q rfl rfl ?_
    refine s_fieldAddr rfl rfl (FA59_1 _ _) ?_
    refine D_qn ?_
    refine D_q rfl rfl ?_
    first
      | refine s_load Tryd.isAgg57 rfl rfl (hs.cell (k := 0) rfl rfl) ?_
      | refine s_load Tryd.isAgg57 rfl rfl (hs.cell (k := 1) rfl rfl) ?_
      | refine s_load Tryd.isAgg57 rfl rfl (hs.cell (k := 2) rfl rfl) ?_
      | refine s_load Tryd.isAgg57 rfl rfl (hs.cell (k := 3) rfl rfl) ?_
      | refine s_load Tryd.isAgg57 rfl rfl (hs.cell (k := 4) rfl rfl) ?_
      | refine s_load Tryd.isAgg57 rfl rfl (hs.cell (k := 5) rfl rfl) ?_
      | refine s_load Tryd.isAgg57 rfl rfl (hs.cell (k := 6) rfl rfl) ?_
      | refine s_load Tryd.isAgg57 rfl rfl (hs.cell (k := 7) rfl rfl) ?_
      | refine s_load Tryd.isAgg57 rfl rfl (hs.cell (k := 8) rfl rfl) ?_
      | refine s_load Tryd.isAgg57 rfl rfl (hs.cell (k := 9) rfl rfl) ?_
    refine D_qn ?_
    refine D_q rfl rfl ?_
    first
      | refine s_loadW Tryd.isAgg43 Tryd.sizeOf43 rfl rfl hs (kk := 0) rfl rfl ?_
      | refine s_loadW Tryd.isAgg43 Tryd.sizeOf43 rfl rfl hs (kk := 1) rfl rfl ?_
      | refine s_loadW Tryd.isAgg43 Tryd.sizeOf43 rfl rfl hs (kk := 2) rfl rfl ?_
      | refine s_loadW Tryd.isAgg43 Tryd.sizeOf43 rfl rfl hs (kk := 3) rfl rfl ?_
      | refine s_loadW Tryd.isAgg43 Tryd.sizeOf43 rfl rfl hs (kk := 4) rfl rfl ?_
      | refine s_loadW Tryd.isAgg43 Tryd.sizeOf43 rfl rfl hs (kk := 5) rfl rfl ?_
      | refine s_loadW Tryd.isAgg43 Tryd.sizeOf43 rfl rfl hs (kk := 6) rfl rfl ?_
      | refine s_loadW Tryd.isAgg43 Tryd.sizeOf43 rfl rfl hs (kk := 7) rfl rfl ?_
      | refine s_loadW Tryd.isAgg43 Tryd.sizeOf43 rfl rfl hs (kk := 8) rfl rfl ?_
      | refine s_loadW Tryd.isAgg43 Tryd.sizeOf43 rfl rfl hs (kk := 9) rfl rfl ?_
      | refine s_load_3 Tryd.isAgg43 Tryd.sizeOf43 rfl rfl (by first | exact hs.cell (k := 0) rfl rfl | exact hs.cell (k := 1) rfl rfl | exact hs.cell (k := 2) rfl rfl | exact hs.cell (k := 3) rfl rfl | exact hs.cell (k := 4) rfl rfl | exact hs.cell (k := 5) rfl rfl | exact hs.cell (k := 6) rfl rfl | exact hs.cell (k := 7) rfl rfl | exact hs.cell (k := 8) rfl rfl | exact hs.cell (k := 9) rfl rfl) (by first | exact hs.cell (k := 0) rfl rfl | exact hs.cell (k := 1) rfl rfl | exact hs.cell (k := 2) rfl rfl | exact hs.cell (k := 3) rfl rfl | exact hs.cell (k := 4) rfl rfl | exact hs.cell (k := 5) rfl rfl | exact hs.cell (k := 6) rfl rfl | exact hs.cell (k := 7) rfl rfl | exact hs.cell (k := 8) rfl rfl | exact hs.cell (k := 9) rfl rfl) (by first | exact hs.cell (k := 0) rfl rfl | exact hs.cell (k := 1) rfl rfl | exact hs.cell (k := 2) rfl rfl | exact hs.cell (k := 3) rfl rfl | exact hs.cell (k := 4) rfl rfl | exact hs.cell (k := 5) rfl rfl | exact hs.cell (k := 6) rfl rfl | exact hs.cell (k := 7) rfl rfl | exact hs.cell (k := 8) rfl rfl | exact hs.cell (k := 9) rfl rfl) ?_
    refine D_qn ?_
    refine D_e rfl ?_
    have hsl : Sl w (.slice (some ⟨m.b, 0, none⟩) m.bs.length m.bs.length) m.bs.length (u8s m.bs) := by
      have hs2 := hs
      rw [mblks_split hm] at hs2
      have hs3 : St (ids L0) w0 w [m.blk] := St.reord [[_], [_], [_], Lt, mblks (ms.take i.toNat), [m.blk], mblks (ms.drop (i.toNat + 1))] [5] [0, 1, 2, 3, 4, 6] hs2 rfl
      exact hs3.sl (k := 0) (cs := u8s m.bs) (fz := (0, 0)) rfl (Nat.le_refl _) (fun j u hj => by rw [Nat.zero_add]; exact hj)
    refine s_call Tryd.call26 rfl rfl (separate_ok m.f m.t _ m.bs w hsl (by have := hbl m hmem; omega)) ?_
    rintro r w ⟨m', hf, ht, hb, rfl, hst⟩
    replace hs := St.back0 hs hst
    simp only [List.cons_append, List.nil_append] at hs
    clear hst hsl
    refine D_en ?re ?_
    case re =>
      refine Reks_cons rfl rfl rfl rfl ?_ ?_
      · skip
        refine s_move rfl rfl ?_
        exact Rek_end rfl
      refine Reks_cons rfl rfl rfl rfl ?_ ?_
      · skip
        refine s_move rfl rfl ?_
        exact Rek_end rfl
      refine Reks_cons rfl rfl rfl rfl ?_ ?_
      · skip
        refine s_nilCheck rfl rfl ?_
        exact Rek_end rfl
      refine Reks_cons rfl rfl rfl rfl ?_ ?_
      · skip
        refine s_fieldAddr rfl rfl (FA59_1 _ _) ?_
        exact Rek_end rfl
      refine Reks_cons rfl rfl rfl rfl ?_ ?_
      · skip
        first
          | refine s_load Tryd.isAgg57 rfl rfl (hs.cell (k := 0) rfl rfl) ?_
          | refine s_load Tryd.isAgg57 rfl rfl (hs.cell (k := 1) rfl rfl) ?_
          | refine s_load Tryd.isAgg57 rfl rfl (hs.cell (k := 2) rfl rfl) ?_
          | refine s_load Tryd.isAgg57 rfl rfl (hs.cell (k := 3) rfl rfl) ?_
          | refine s_load Tryd.isAgg57 rfl rfl (hs.cell (k := 4) rfl rfl) ?_
          | refine s_load Tryd.isAgg57 rfl rfl (hs.cell (k := 5) rfl rfl) ?_
          | refine s_load Tryd.isAgg57 rfl rfl (hs.cell (k := 6) rfl rfl) ?_
          | refine s_load Tryd.isAgg57 rfl rfl (hs.cell (k := 7) rfl rfl) ?_
          | refine s_load Tryd.isAgg57 rfl rfl (hs.cell (k := 8) rfl rfl) ?_
          | refine s_load Tryd.isAgg57 rfl rfl (hs.cell (k := 9) rfl rfl) ?_
        exact Rek_end rfl
      exact Reks_nil
    refine D_e rfl ?_
    refine s_buildSlice rfl rfl (BS57_1 _ _ _) hs ?_; clear hs; intro b31 w hs
    refine D_en ?re ?_
    case re =>
      refine Reks_cons rfl rfl rfl rfl ?_ ?_
      · skip
        refine s_move rfl rfl ?_
        exact Rek_end rfl
      refine Reks_cons rfl rfl rfl rfl ?_ ?_
      · skip
        refine s_move rfl rfl ?_
        exact Rek_end rfl
      refine Reks_cons rfl rfl rfl rfl ?_ ?_
      · skip
        refine s_nilCheck rfl rfl ?_
        exact Rek_end rfl
      refine Reks_cons rfl rfl rfl rfl ?_ ?_
      · skip
        refine s_fieldAddr rfl rfl (FA59_1 _ _) ?_
        exact Rek_end rfl
      refine Reks_cons rfl rfl rfl rfl ?_ ?_
      · skip
        first
          | refine s_load Tryd.isAgg57 rfl rfl (hs.cell (k := 0) rfl rfl) ?_
          | refine s_load Tryd.isAgg57 rfl rfl (hs.cell (k := 1) rfl rfl) ?_
          | refine s_load Tryd.isAgg57 rfl rfl (hs.cell (k := 2) rfl rfl) ?_
          | refine s_load Tryd.isAgg57 rfl rfl (hs.cell (k := 3) rfl rfl) ?_
          | refine s_load Tryd.isAgg57 rfl rfl (hs.cell (k := 4) rfl rfl) ?_
          | refine s_load Tryd.isAgg57 rfl rfl (hs.cell (k := 5) rfl rfl) ?_
          | refine s_load Tryd.isAgg57 rfl rfl (hs.cell (k := 6) rfl rfl) ?_
          | refine s_load Tryd.isAgg57 rfl rfl (hs.cell (k := 7) rfl rfl) ?_
          | refine s_load Tryd.isAgg57 rfl rfl (hs.cell (k := 8) rfl rfl) ?_
          | refine s_load Tryd.isAgg57 rfl rfl (hs.cell (k := 9) rfl rfl) ?_
        exact Rek_end rfl
      exact Reks_nil
    refine D_e rfl ?_
    refine s_appendM (M := [_, _, _, _, _]) El57 rfl rfl rfl hO hs (hs.sl (k := 0) (ds := m'.cells) rfl (Nat.le_refl _) (by intro j u hj; rw [Nat.zero_add]; exact hj)) rfl (cells_one m') (by omega) ?_
    clear hs; intro tv' w Lt' hO' hs
    simp only [List.cons_append, List.nil_append] at hs
    obtain ⟨tl', tc', ta', rfl, rfl⟩ := hO'.form
    refine D_en ?re ?_
    case re =>
      refine Reks_cons rfl rfl rfl rfl ?_ ?_
      · skip
        refine s_move rfl rfl ?_
        exact Rek_end rfl
      exact Reks_nil
    refine D_q rfl rfl ?_
    refine s_nilCheck rfl rfl ?_
    refine D_qn ?_
    refine D_q rfl rfl ?_
    refine s_fieldAddr rfl rfl (FA59_1 _ _) ?_
    refine D_qn ?_
    refine D_e rfl ?_
    first
      | refine s_storeB Tryd.sizeOf57 rfl rfl rfl hs (kk := 0) rfl rfl ?_
      | refine s_storeB Tryd.sizeOf57 rfl rfl rfl hs (kk := 1) rfl rfl ?_
      | refine s_storeB Tryd.sizeOf57 rfl rfl rfl hs (kk := 2) rfl rfl ?_
      | refine s_storeB Tryd.sizeOf57 rfl rfl rfl hs (kk := 3) rfl rfl ?_
      | refine s_storeB Tryd.sizeOf57 rfl rfl rfl hs (kk := 4) rfl rfl ?_
      | refine s_storeB Tryd.sizeOf57 rfl rfl rfl hs (kk := 5) rfl rfl ?_
      | refine s_storeB Tryd.sizeOf57 rfl rfl rfl hs (kk := 6) rfl rfl ?_
      | refine s_storeB Tryd.sizeOf57 rfl rfl rfl hs (kk := 7) rfl rfl ?_
      | refine s_storeB Tryd.sizeOf57 rfl rfl rfl hs (kk := 8) rfl rfl ?_
      | refine s_storeB Tryd.sizeOf57 rfl rfl rfl hs (kk := 9) rfl rfl ?_
    clear hs; intro w hs; try simp only [List.set_cons_zero, List.set_cons_succ, splice, List.take_succ_cons, List.take_zero, List.drop_succ_cons, List.drop_zero, List.nil_append, List.cons_append, List.length_cons, List.length_nil, Nat.reduceAdd, List.append_assoc] at hs
    refine D_en ?re ?_
    case re =>
      exact Reks_nil
    refine D_nil ?_
    refine n_then ?_
    refine W_seq ?_
    refine W_region ?_
    refine s_assign rfl rfl ?_
    refine WL_nil ?_
    refine n_then ?_
    refine W_ret ?_
    refine end1 rfl rfl ?_
    first
      | exact ⟨_, hs.tail, Or.inl ⟨by omega, rfl, g, _, Lt, rfl, hO⟩⟩
      | (have hm' : m' = ⟨m.f, m.t, m'.b, m.bs⟩ := by rw [← hf, ← ht, ← hb]
         refine ⟨_, St.reord [[_], [m'.blk], [_], [_], [_], Lt', mblks ms] [3, 4, 5, 6, 1] [0, 2] hs rfl, Or.inr ⟨by omega, rfl, m, m'.b, hm, g, .slice ta' (ms.length + 1) tc', Lt', ?_, ?_⟩⟩
         · rw [← hm']; simp [cat, mblks]
         · rw [← hm']; simpa [mcells] using hO')
/-! ### Drop -/
theorem drop_no (p : Nat) (gs : List Int) (ms : List Msg) (i : Int) (L0 : Hp) (w0 : World) (hN : NetAt p gs ms L0) (hs : St (ids L0) w0 w0 L0) (hin : ¬ (0 ≤ i ∧ i < ms.length)) :
    Ret Tryd.prog 37 [.pointer (some ⟨p, 0, none⟩), .int .i64 i].toArray w0 fun r w' => ∃ L', St (ids L0) w0 w' L' ∧ r = .int .i64 9 ∧ NetAt p gs ms L' := by
  obtain ⟨g, tv, Lt, hL, hO⟩ := hN
  obtain ⟨tl, tc, ta, rfl, rfl⟩ := hO.form
  replace hs : St (ids L0) w0 w0 ((p, Blk 59 [.slice (some ⟨g, 0, none⟩) gs.length gs.length, .slice ta ms.length tc]) :: (g, Blk 3 (i64s gs)) :: (Lt ++ mblks ms)) := by rw [hL] at hs ⊢; exact hs
  refine Ret_startL hs fun w hs => ?_
  refine Ret_of Tryd.func37 rfl Tryd.ntmps37 rfl ?_
  refine W_seq ?_
  refine W_region ?_
  refine s_assign rfl rfl ?_
  refine WL_nil ?_
  refine n_then ?_
  refine W_seq ?_
  refine W_seq ?_
  refine W_region ?_
  refine s_move rfl rfl ?_
  refine s_nilCheck rfl rfl ?_
  refine s_fieldAddr rfl rfl (FA59_1 _ _) ?_
  first
    | refine s_load Tryd.isAgg57 rfl rfl (hs.cell (k := 0) rfl rfl) ?_
    | refine s_load Tryd.isAgg57 rfl rfl (hs.cell (k := 1) rfl rfl) ?_
    | refine s_load Tryd.isAgg57 rfl rfl (hs.cell (k := 2) rfl rfl) ?_
    | refine s_load Tryd.isAgg57 rfl rfl (hs.cell (k := 3) rfl rfl) ?_
    | refine s_load Tryd.isAgg57 rfl rfl (hs.cell (k := 4) rfl rfl) ?_
    | refine s_load Tryd.isAgg57 rfl rfl (hs.cell (k := 5) rfl rfl) ?_
    | refine s_load Tryd.isAgg57 rfl rfl (hs.cell (k := 6) rfl rfl) ?_
    | refine s_load Tryd.isAgg57 rfl rfl (hs.cell (k := 7) rfl rfl) ?_
    | refine s_load Tryd.isAgg57 rfl rfl (hs.cell (k := 8) rfl rfl) ?_
    | refine s_load Tryd.isAgg57 rfl rfl (hs.cell (k := 9) rfl rfl) ?_
  refine s_move rfl rfl ?_
  refine s_call Tryd.call28 rfl rfl (element_ok _ ms i w (hO.slM (M := [_, _]) hs)) ?_
  rintro r w ⟨hst, h⟩
  obtain ⟨m, h1, hm, rfl⟩ | ⟨_, rfl⟩ := h
  case inl => exact absurd ⟨h1, (by have := (List.getElem?_eq_some_iff.1 hm).1; omega)⟩ hin
  replace hs := hs.fwd1 hst
  clear hst
  refine s_move rfl rfl ?_
  refine s_extract rfl rfl rfl ?_
  refine s_extract rfl rfl rfl ?_
  refine s_alloc rfl AL43 hs ?_; clear hs; intro b5 w hs
  first
    | refine s_storeW Tryd.sizeOf43 rfl rfl rfl rfl hs (kk := 0) rfl rfl ?_
    | refine s_storeW Tryd.sizeOf43 rfl rfl rfl rfl hs (kk := 1) rfl rfl ?_
    | refine s_storeW Tryd.sizeOf43 rfl rfl rfl rfl hs (kk := 2) rfl rfl ?_
    | refine s_storeW Tryd.sizeOf43 rfl rfl rfl rfl hs (kk := 3) rfl rfl ?_
    | refine s_storeW Tryd.sizeOf43 rfl rfl rfl rfl hs (kk := 4) rfl rfl ?_
    | refine s_storeW Tryd.sizeOf43 rfl rfl rfl rfl hs (kk := 5) rfl rfl ?_
    | refine s_storeW Tryd.sizeOf43 rfl rfl rfl rfl hs (kk := 6) rfl rfl ?_
    | refine s_storeW Tryd.sizeOf43 rfl rfl rfl rfl hs (kk := 7) rfl rfl ?_
    | refine s_storeW Tryd.sizeOf43 rfl rfl rfl rfl hs (kk := 8) rfl rfl ?_
    | refine s_storeW Tryd.sizeOf43 rfl rfl rfl rfl hs (kk := 9) rfl rfl ?_
    | refine s_storeAB Tryd.sizeOf43 rfl rfl rfl rfl hs (kk := 0) rfl rfl ?_
    | refine s_storeAB Tryd.sizeOf43 rfl rfl rfl rfl hs (kk := 1) rfl rfl ?_
    | refine s_storeAB Tryd.sizeOf43 rfl rfl rfl rfl hs (kk := 2) rfl rfl ?_
    | refine s_storeAB Tryd.sizeOf43 rfl rfl rfl rfl hs (kk := 3) rfl rfl ?_
    | refine s_storeAB Tryd.sizeOf43 rfl rfl rfl rfl hs (kk := 4) rfl rfl ?_
    | refine s_storeAB Tryd.sizeOf43 rfl rfl rfl rfl hs (kk := 5) rfl rfl ?_
    | refine s_storeAB Tryd.sizeOf43 rfl rfl rfl rfl hs (kk := 6) rfl rfl ?_
    | refine s_storeAB Tryd.sizeOf43 rfl rfl rfl rfl hs (kk := 7) rfl rfl ?_
    | refine s_storeAB Tryd.sizeOf43 rfl rfl rfl rfl hs (kk := 8) rfl rfl ?_
    | refine s_storeAB Tryd.sizeOf43 rfl rfl rfl rfl hs (kk := 9) rfl rfl ?_
  clear hs; intro w hs; try simp only [List.set_cons_zero, List.set_cons_succ, splice, List.take_succ_cons, List.take_zero, List.drop_succ_cons, List.drop_zero, List.nil_append, List.cons_append, List.length_cons, List.length_nil, Nat.reduceAdd, List.append_assoc] at hs
  refine s_assign rfl rfl ?_
  refine WL_nil ?_
  refine n_then ?_
  refine W_seq ?_
  refine W_region ?_
  refine s_move rfl rfl ?_
  refine s_not rfl rfl ?_
  refine WL_nil ?_
  refine n_then ?_
  refine W_cond_kt rfl (rfl) ?_
  refine W_seq ?_
  refine W_region ?_
  refine s_assign rfl rfl ?_
  refine WL_nil ?_
  refine n_then ?_
  refine W_ret ?_
  refine r_then ?_
  exact end1 rfl rfl ⟨_, hs.tail, rfl, g, _, Lt, rfl, hO⟩
theorem drop_yes (p : Nat) (gs : List Int) (ms : List Msg) (i : Int) (L0 : Hp) (w0 : World) (hN : NetAt p gs ms L0) (hs : St (ids L0) w0 w0 L0) (hin : 0 ≤ i ∧ i < ms.length) (hml : ms.length ≤ 1000) :
    Ret Tryd.prog 37 [.pointer (some ⟨p, 0, none⟩), .int .i64 i].toArray w0 fun r w' => ∃ L', St (ids L0) w0 w' L' ∧ r = .int .i64 0 ∧ NetAt p gs (ms.eraseIdx i.toNat) L' := by
  obtain ⟨g, tv, Lt, hL, hO⟩ := hN
  obtain ⟨tl, tc, ta, rfl, rfl⟩ := hO.form
  replace hs : St (ids L0) w0 w0 ((p, Blk 59 [.slice (some ⟨g, 0, none⟩) gs.length gs.length, .slice ta ms.length tc]) :: (g, Blk 3 (i64s gs)) :: (Lt ++ mblks ms)) := by rw [hL] at hs ⊢; exact hs
  refine Ret_startL hs fun w hs => ?_
  refine Ret_of Tryd.func37 rfl Tryd.ntmps37 rfl ?_
  refine W_seq ?_
  refine W_region ?_
  refine s_assign rfl rfl ?_
  refine WL_nil ?_
  refine n_then ?_
  refine W_seq ?_
  refine W_seq ?_
  refine W_region ?_
  refine s_move rfl rfl ?_
  refine s_nilCheck rfl rfl ?_
  refine s_fieldAddr rfl rfl (FA59_1 _ _) ?_
  first
    | refine s_load Tryd.isAgg57 rfl rfl (hs.cell (k := 0) rfl rfl) ?_
    | refine s_load Tryd.isAgg57 rfl rfl (hs.cell (k := 1) rfl rfl) ?_
    | refine s_load Tryd.isAgg57 rfl rfl (hs.cell (k := 2) rfl rfl) ?_
    | refine s_load Tryd.isAgg57 rfl rfl (hs.cell (k := 3) rfl rfl) ?_
    | refine s_load Tryd.isAgg57 rfl rfl (hs.cell (k := 4) rfl rfl) ?_
    | refine s_load Tryd.isAgg57 rfl rfl (hs.cell (k := 5) rfl rfl) ?_
    | refine s_load Tryd.isAgg57 rfl rfl (hs.cell (k := 6) rfl rfl) ?_
    | refine s_load Tryd.isAgg57 rfl rfl (hs.cell (k := 7) rfl rfl) ?_
    | refine s_load Tryd.isAgg57 rfl rfl (hs.cell (k := 8) rfl rfl) ?_
    | refine s_load Tryd.isAgg57 rfl rfl (hs.cell (k := 9) rfl rfl) ?_
  refine s_move rfl rfl ?_
  refine s_call Tryd.call28 rfl rfl (element_ok _ ms i w (hO.slM (M := [_, _]) hs)) ?_
  rintro r w ⟨hst, h⟩
  obtain ⟨m, _, hm, rfl⟩ | ⟨h, _⟩ := h
  case inr => exact absurd hin h
  replace hs := hs.fwd1 hst
  clear hst
  simp only [Msg.cells]
  refine s_move rfl rfl ?_
  refine s_extract rfl rfl rfl ?_
  refine s_extract rfl rfl rfl ?_
  refine s_alloc rfl AL43 hs ?_; clear hs; intro b5 w hs
  first
    | refine s_storeW Tryd.sizeOf43 rfl rfl rfl rfl hs (kk := 0) rfl rfl ?_
    | refine s_storeW Tryd.sizeOf43 rfl rfl rfl rfl hs (kk := 1) rfl rfl ?_
    | refine s_storeW Tryd.sizeOf43 rfl rfl rfl rfl hs (kk := 2) rfl rfl ?_
    | refine s_storeW Tryd.sizeOf43 rfl rfl rfl rfl hs (kk := 3) rfl rfl ?_
    | refine s_storeW Tryd.sizeOf43 rfl rfl rfl rfl hs (kk := 4) rfl rfl ?_
    | refine s_storeW Tryd.sizeOf43 rfl rfl rfl rfl hs (kk := 5) rfl rfl ?_
    | refine s_storeW Tryd.sizeOf43 rfl rfl rfl rfl hs (kk := 6) rfl rfl ?_
    | refine s_storeW Tryd.sizeOf43 rfl rfl rfl rfl hs (kk := 7) rfl rfl ?_
    | refine s_storeW Tryd.sizeOf43 rfl rfl rfl rfl hs (kk := 8) rfl rfl ?_
    | refine s_storeW Tryd.sizeOf43 rfl rfl rfl rfl hs (kk := 9) rfl rfl ?_
    | refine s_storeAB Tryd.sizeOf43 rfl rfl rfl rfl hs (kk := 0) rfl rfl ?_
    | refine s_storeAB Tryd.sizeOf43 rfl rfl rfl rfl hs (kk := 1) rfl rfl ?_
    | refine s_storeAB Tryd.sizeOf43 rfl rfl rfl rfl hs (kk := 2) rfl rfl ?_
    | refine s_storeAB Tryd.sizeOf43 rfl rfl rfl rfl hs (kk := 3) rfl rfl ?_
    | refine s_storeAB Tryd.sizeOf43 rfl rfl rfl rfl hs (kk := 4) rfl rfl ?_
    | refine s_storeAB Tryd.sizeOf43 rfl rfl rfl rfl hs (kk := 5) rfl rfl ?_
    | refine s_storeAB Tryd.sizeOf43 rfl rfl rfl rfl hs (kk := 6) rfl rfl ?_
    | refine s_storeAB Tryd.sizeOf43 rfl rfl rfl rfl hs (kk := 7) rfl rfl ?_
    | refine s_storeAB Tryd.sizeOf43 rfl rfl rfl rfl hs (kk := 8) rfl rfl ?_
    | refine s_storeAB Tryd.sizeOf43 rfl rfl rfl rfl hs (kk := 9) rfl rfl ?_
  clear hs; intro w hs; try simp only [List.set_cons_zero, List.set_cons_succ, splice, List.take_succ_cons, List.take_zero, List.drop_succ_cons, List.drop_zero, List.nil_append, List.cons_append, List.length_cons, List.length_nil, Nat.reduceAdd, List.append_assoc] at hs
  refine s_assign rfl rfl ?_
  refine WL_nil ?_
  refine n_then ?_
  refine W_seq ?_
  refine W_region ?_
  refine s_move rfl rfl ?_
  refine s_not rfl rfl ?_
  refine WL_nil ?_
  refine n_then ?_
  refine W_cond_kf rfl (rfl) ?_
  refine W_skip ?_
  refine n_then ?_
  refine W_seq ?_
  refine W_region ?_
  refine s_move rfl rfl ?_
  refine s_move rfl rfl ?_
  refine s_nilCheck rfl rfl ?_
  refine s_fieldAddr rfl rfl (FA59_1 _ _) ?_
  first
    | refine s_load Tryd.isAgg57 rfl rfl (hs.cell (k := 0) rfl rfl) ?_
    | refine s_load Tryd.isAgg57 rfl rfl (hs.cell (k := 1) rfl rfl) ?_
    | refine s_load Tryd.isAgg57 rfl rfl (hs.cell (k := 2) rfl rfl) ?_
    | refine s_load Tryd.isAgg57 rfl rfl (hs.cell (k := 3) rfl rfl) ?_
    | refine s_load Tryd.isAgg57 rfl rfl (hs.cell (k := 4) rfl rfl) ?_
    | refine s_load Tryd.isAgg57 rfl rfl (hs.cell (k := 5) rfl rfl) ?_
    | refine s_load Tryd.isAgg57 rfl rfl (hs.cell (k := 6) rfl rfl) ?_
    | refine s_load Tryd.isAgg57 rfl rfl (hs.cell (k := 7) rfl rfl) ?_
    | refine s_load Tryd.isAgg57 rfl rfl (hs.cell (k := 8) rfl rfl) ?_
    | refine s_load Tryd.isAgg57 rfl rfl (hs.cell (k := 9) rfl rfl) ?_
  refine s_move rfl rfl ?_
  refine s_move rfl rfl ?_
  first | (refine s_add' rfl rfl rfl ?hx ?_; case hx => (constructor <;> first | omega | (simp only; omega))) | refine s_add rfl rfl rfl ?_
  refine s_callL (M := [_, _, _]) (L1 := Lt) Tryd.call29 rfl rfl hs (fun h => delete_ok _ _ _ Lt i w hO h (mcells_one ms) hin (by omega)) ?_
  clear hs; intro v w Lt' hO' _ hs
  simp only [List.cons_append, List.nil_append] at hs
  obtain ⟨tl', tc', ta', rfl, rfl⟩ := hO'.form
  refine s_nilCheck rfl rfl ?_
  refine s_fieldAddr rfl rfl (FA59_1 _ _) ?_
  first
    | refine s_storeB Tryd.sizeOf57 rfl rfl rfl hs (kk := 0) rfl rfl ?_
    | refine s_storeB Tryd.sizeOf57 rfl rfl rfl hs (kk := 1) rfl rfl ?_
    | refine s_storeB Tryd.sizeOf57 rfl rfl rfl hs (kk := 2) rfl rfl ?_
    | refine s_storeB Tryd.sizeOf57 rfl rfl rfl hs (kk := 3) rfl rfl ?_
    | refine s_storeB Tryd.sizeOf57 rfl rfl rfl hs (kk := 4) rfl rfl ?_
    | refine s_storeB Tryd.sizeOf57 rfl rfl rfl hs (kk := 5) rfl rfl ?_
    | refine s_storeB Tryd.sizeOf57 rfl rfl rfl hs (kk := 6) rfl rfl ?_
    | refine s_storeB Tryd.sizeOf57 rfl rfl rfl hs (kk := 7) rfl rfl ?_
    | refine s_storeB Tryd.sizeOf57 rfl rfl rfl hs (kk := 8) rfl rfl ?_
    | refine s_storeB Tryd.sizeOf57 rfl rfl rfl hs (kk := 9) rfl rfl ?_
  clear hs; intro w hs; try simp only [List.set_cons_zero, List.set_cons_succ, splice, List.take_succ_cons, List.take_zero, List.drop_succ_cons, List.drop_zero, List.nil_append, List.cons_append, List.length_cons, List.length_nil, Nat.reduceAdd, List.append_assoc] at hs
  refine WL_nil ?_
  refine n_then ?_
  refine W_seq ?_
  refine W_region ?_
  refine s_assign rfl rfl ?_
  refine WL_nil ?_
  refine n_then ?_
  refine W_ret ?_
  have hl : (ms.eraseIdx i.toNat).length = ms.length - 1 := by rw [List.length_eraseIdx, if_pos (by omega)]
  rw [mblks_split hm] at hs
  refine end1 rfl rfl ⟨_, St.reord [[_], [_], [_], Lt', mblks (ms.take i.toNat), [m.blk], mblks (ms.drop (i.toNat + 1))] [1, 2, 3, 4, 6] [0, 5] hs rfl, rfl, g, .slice ta' (ms.length - 1) tc', Lt', ?_, ?_⟩
  · rw [mblks_erase]; rfl
  · rw [mcells_erase, hl]; exact hO'
end Go.Proofs.YtgjjdlgbbgijgaaDoor
