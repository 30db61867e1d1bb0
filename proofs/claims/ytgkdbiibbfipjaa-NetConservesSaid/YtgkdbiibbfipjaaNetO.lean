/- The plain model's generator of calls. -/
import Derived.Test.YtgkdbiibbfipjaaNetS
import Derived.Test.YtgkdbiibbfipjaaCut
set_option linter.unusedVariables false
set_option linter.unusedSimpArgs false
namespace Go.Proofs.Ytgkdbiibbfipjaa
open Go.SL
/-- a call: its numbers, its slices, their contents, its blocks -/
structure ROp where
  kind : Int
  I : Int
  f : Int
  t : Int
  bv : Value
  gv : Value
  bs : List Int
  gs : List Int
  Lb : Hp
  Lg : Hp
def ROp.cells (o : ROp) : List Value := [.int .i64 o.kind, .int .i64 o.I, .int .i64 o.f, .int .i64 o.t, o.bv, o.gv]
def ROp.L (o : ROp) : Hp := o.Lb ++ o.Lg
def ROp.ok (o : ROp) : Prop := OwnS 5 1 o.bv o.bs.length (u8s o.bs) o.Lb ∧ OwnS 3 1 o.gv o.gs.length (i64s o.gs) o.Lg ∧ o.bs.length ≤ 2 ∧ o.gs.length ≤ 100
def ocells (os : List ROp) : List Value := os.flatMap ROp.cells
def oblks (os : List ROp) : Hp := os.flatMap ROp.L
theorem ocells_length (os : List ROp) : (ocells os).length = os.length * 6 := by
  induction os with
  | nil => rfl
  | cons m r ih =>
    have : ocells (m :: r) = m.cells ++ ocells r := rfl
    rw [this, List.length_append, ih]; simp [ROp.cells]; omega
theorem ROp.one {o : ROp} (h : o.ok) : ∀ c ∈ o.cells, c.oneCell' = true := by
  intro c hc
  obtain ⟨_, _, _, e1, -⟩ := h.1.form
  obtain ⟨_, _, _, e2, -⟩ := h.2.1.form
  simp [ROp.cells, e1, e2] at hc
  rcases hc with rfl | rfl | rfl | rfl | rfl | rfl <;> rfl
theorem ocells_append (a b : List ROp) : ocells (a ++ b) = ocells a ++ ocells b := by simp [ocells]
theorem oblks_append (a b : List ROp) : oblks (a ++ b) = oblks a ++ oblks b := by simp [oblks]
theorem ocells_at {m : ROp} {j : Nat} (hj : j < 6) : ∀ {os : List ROp} {k : Nat}, os[k]? = some m → (ocells os)[k * 6 + j]? = m.cells[j]?
  | a :: r, 0, h => by
    simp at h; subst h
    have : ocells (a :: r) = a.cells ++ ocells r := rfl
    rw [this, List.getElem?_append_left (by simp [ROp.cells]; omega)]; simp
  | a :: r, k + 1, h => by
    have : ocells (a :: r) = a.cells ++ ocells r := rfl
    rw [this, List.getElem?_append_right (by simp [ROp.cells]; omega)]
    have h2 := ocells_at hj (os := r) (k := k) (by simpa using h)
    rw [← h2]; congr 1; simp [ROp.cells]; omega
theorem quo_bd (x q : Int) (hq : 0 < q) (hx : -9223372036854775808 ≤ x ∧ x ≤ 9223372036854775807) : -9223372036854775808 ≤ x.tdiv q ∧ x.tdiv q ≤ 9223372036854775807 := by
  by_cases h : 0 ≤ x
  · rw [Int.tdiv_eq_ediv_of_nonneg h]
    have h1 : x / q ≤ x := Int.ediv_le_self _ h
    have h2 : 0 ≤ x / q := Int.ediv_nonneg h (by omega)
    omega
  · obtain ⟨y, rfl⟩ : ∃ y, x = -y := ⟨-x, by omega⟩
    rw [Int.neg_tdiv, Int.tdiv_eq_ediv_of_nonneg (by omega)]
    have h1 : y / q ≤ y := Int.ediv_le_self _ (by omega)
    have h2 : 0 ≤ y / q := Int.ediv_nonneg (by omega) (by omega)
    omega
theorem own2 (b : Nat) (x y : Int) : OwnS 5 1 (.slice (some ⟨b, 0, none⟩) 2 2) 2 (u8s [x, y]) [(b, Blk 5 [.int .u8 x, .int .u8 y])] :=
  ⟨by simp, Or.inr ⟨b, 2, [], by simp, by simp, by simp [maxLen], by simp, by simp⟩⟩
set_option maxHeartbeats 2000000 in
theorem ops_ok (v : Value) (xs : List Int) (k : Nat) (w0 : World) (hv : Sl w0 v xs.length (i64s xs)) (hx : ∀ z ∈ xs, -9223372036854775808 ≤ z ∧ z ≤ 9223372036854775807) (hk : 1 ≤ k ∧ k ≤ 16) :
    Ret Try.prog 11 [v, .int .i64 k].toArray w0 fun r w' => ∃ os Lo, OwnS 34 6 r os.length (ocells os) Lo ∧ (∀ o ∈ os, o.ok) ∧ os.length ≤ 20 ∧ St [] w0 w' (Lo ++ oblks os) := by
  obtain ⟨a, c, rfl, hc⟩ := hv.len_le
  refine Ret_start fun w hs => ?_
  refine Ret_of Try.func11 rfl Try.ntmps11 rfl ?_
  refine W_seq ?_
  refine W_region ?_
  refine s_assign rfl rfl ?_
  refine WL_nil ?_
  refine n_then ?_
  refine W_seq ?_
  refine W_region ?_
  refine s_assign rfl rfl ?_
  refine WL_nil ?_
  refine n_then ?_
  refine W_seq ?_
  refine W_seq ?_
  refine W_region ?_
  refine s_assign rfl rfl ?_
  refine WL_nil ?_
  refine n_then ?_
  refine W_block ?_
  refine W_loop (σ := Nat × List ROp × Value × Hp) (fun s => [(0, .slice a xs.length c), (1, .int .i64 (k : Int)), (5, s.2.2.1), (6, .int .i64 (s.1 : Int))])
    (fun s w => St [] w0 w (s.2.2.2 ++ oblks s.2.1) ∧ OwnS 34 6 s.2.2.1 s.2.1.length (ocells s.2.1) s.2.2.2 ∧ (∀ o ∈ s.2.1, o.ok) ∧ s.1 = s.2.1.length ∧ s.1 ≤ 20) (fun s => 20 - s.1) (0, [], .slice none 0 0, []) ⟨rfl, rfl, rfl, rfl, trivial⟩ ⟨hs, OwnS.nil _ _, by simp, rfl, by simp⟩ ?_
  clear hs
  rintro ⟨i, os, rv, Lo⟩ w ⟨hs, hO, hok, hil, hi20⟩
  simp only at hs hO hok hil hi20
  refine W_seq ?_
  refine W_seq ?_
  refine W_region ?_
  refine s_move rfl rfl ?_
  refine s_move rfl rfl ?_
  refine s_len rfl rfl (LN22 _ _ _ _) ?_
  refine s_lss rfl rfl rfl ?_
  refine s_move rfl rfl ?_
  refine WL_case (s := 14) rfl (fun hg14 => ?_) (fun hg14 => ?_)
  · skip
    simp only [decide_eq_true_eq, decide_eq_false_iff_not, beq_iff_eq, beq_eq_false_iff_ne, ne_eq] at hg14
    refine WL_take rfl ?_
    refine s_move rfl rfl ?_
    refine WL_take rfl ?_
    refine s_lss rfl rfl rfl ?_
    refine s_pick_t rfl rfl rfl ?_
    refine WL_nil ?_
    refine n_then ?_
    refine W_cond rfl (fun hc17 => ?_) (fun hc17 => ?_)
    · skip
      simp only [decide_eq_true_eq, decide_eq_false_iff_not, beq_iff_eq, beq_eq_false_iff_ne, ne_eq] at hc17
      have hiq : i < xs.length := by omega
      have hzq := hx xs[i] (List.getElem_mem hiq)
      obtain ⟨bz, oz, hAz, hcz⟩ := hv.at (k := i) (u := .int .i64 xs[i]) (by simp [hiq])
      have hBz : bz < w0.heap.size := World.block_lt_of_cell? w0 _ hcz
      refine W_skip ?_
      refine n_then ?_
      refine W_seq ?_
      refine W_block ?_
      refine W_seq ?_
      refine W_region ?_
      refine s_move rfl rfl ?_
      refine s_move rfl rfl ?_
      (refine s_indexAddrO El22 rfl rfl rfl hAz ?hx ?_; case hx => (constructor <;> omega))
      first
        | refine s_load Try.isAgg3 rfl rfl (hs.cell (k := 0) rfl rfl) ?_
        | refine s_load Try.isAgg3 rfl rfl (hs.cell (k := 1) rfl rfl) ?_
        | refine s_load Try.isAgg3 rfl rfl (hs.cell (k := 2) rfl rfl) ?_
        | refine s_load Try.isAgg3 rfl rfl (hs.cell (k := 3) rfl rfl) ?_
        | refine s_load Try.isAgg3 rfl rfl ((hs.oldcell (a := ⟨bz, oz + i, none⟩) hBz (by simp)).trans hcz) ?_
      (refine s_quo rfl rfl rfl ?hx ?_; case hx => omega)
      refine s_call Try.call26 rfl rfl (around_ok _ 1048576 w (by omega) (by rw [IntWalk.i64_in _ (quo_bd _ 8 (by omega) hzq)]; exact quo_bd _ 8 (by omega) hzq)) ?_
      rintro r w ⟨rfl, rfl⟩
      have hnb := around_bd (IntKind.i64.wrap (Int.tdiv xs[i] 8)) 1048576 (by omega)
      obtain ⟨nn, hnn⟩ : ∃ nn, nn = aroundV (IntKind.i64.wrap (Int.tdiv xs[i] 8)) 1048576 := ⟨_, rfl⟩
      rw [← hnn] at hnb ⊢
      refine s_assign rfl rfl ?_
      refine WL_nil ?_
      refine n_then ?_
      refine W_seq ?_
      refine W_region ?_
      refine s_move rfl rfl ?_
      first | (refine s_rem' rfl rfl rfl ?hx ?_; case hx => (refine ⟨?_, ?_⟩ <;> omega)) | (refine s_rem rfl rfl rfl ?hx ?_; case hx => omega)
      refine s_build rfl rfl (BD34_1 _) ?_
      refine s_alloc rfl AL34 hs ?_; clear hs; intro b8 w hs
      first
        | refine s_storeW Try.sizeOf34 rfl rfl rfl rfl hs (kk := 0) rfl rfl ?_
        | refine s_storeW Try.sizeOf34 rfl rfl rfl rfl hs (kk := 1) rfl rfl ?_
        | refine s_storeW Try.sizeOf34 rfl rfl rfl rfl hs (kk := 2) rfl rfl ?_
        | refine s_storeW Try.sizeOf34 rfl rfl rfl rfl hs (kk := 3) rfl rfl ?_
        | refine s_storeAB Try.sizeOf34 rfl rfl rfl rfl hs (kk := 0) rfl rfl ?_
        | refine s_storeAB Try.sizeOf34 rfl rfl rfl rfl hs (kk := 1) rfl rfl ?_
        | refine s_storeAB Try.sizeOf34 rfl rfl rfl rfl hs (kk := 2) rfl rfl ?_
        | refine s_storeAB Try.sizeOf34 rfl rfl rfl rfl hs (kk := 3) rfl rfl ?_
      clear hs; intro w hs; try simp only [List.set_cons_zero, List.set_cons_succ, splice, List.take_succ_cons, List.take_zero, List.drop_succ_cons, List.drop_zero, List.nil_append, List.cons_append, List.length_cons, List.length_nil, Nat.reduceAdd, List.append_assoc] at hs
      refine WL_nil ?_
      refine n_then ?_
      refine W_cut (σ := ROp) (fun s => [(0, .slice a xs.length c), (1, .int .i64 (k : Int)), (5, rv), (6, .int .i64 (i : Int)), (7, .int .i64 nn), (8, .pointer (some ⟨b8, 0, none⟩))]) (fun o w => St [] w0 w ((b8, Blk 34 o.cells) :: (o.L ++ (Lo ++ oblks os))) ∧ o.ok) ?_ ?_
      · skip
        refine W_seq ?_
        refine W_region ?_
        refine s_move rfl rfl ?_
        refine s_move rfl rfl ?_
        (refine s_indexAddrO El22 rfl rfl rfl hAz ?hx ?_; case hx => (constructor <;> omega))
        first
          | refine s_load Try.isAgg3 rfl rfl (hs.cell (k := 0) rfl rfl) ?_
          | refine s_load Try.isAgg3 rfl rfl (hs.cell (k := 1) rfl rfl) ?_
          | refine s_load Try.isAgg3 rfl rfl (hs.cell (k := 2) rfl rfl) ?_
          | refine s_load Try.isAgg3 rfl rfl (hs.cell (k := 3) rfl rfl) ?_
          | refine s_load Try.isAgg3 rfl rfl ((hs.oldcell (a := ⟨bz, oz + i, none⟩) hBz (by simp)).trans hcz) ?_
        refine s_call Try.call26 rfl rfl (around_ok _ 8 w (by omega) hzq) ?_
        rintro r w ⟨rfl, rfl⟩
        have hrb := around_bd xs[i] 8 (by omega)
        obtain ⟨kd, hkd⟩ : ∃ kd, kd = aroundV xs[i] 8 := ⟨_, rfl⟩
        rw [← hkd] at hrb ⊢
        refine WL_nil ?_
        refine n_then ?_
        refine W_block ?_
        refine W_seq ?_
        refine W_seq ?_
        refine W_region ?_
        refine s_eql rfl rfl rfl ?_
        refine s_assign rfl rfl ?_
        refine WL_nil ?_
        refine n_then ?_
        refine W_cond rfl (fun hc57 => ?_) (fun hc57 => ?_)
        · skip
          simp only [decide_eq_true_eq, decide_eq_false_iff_not, beq_iff_eq, beq_eq_false_iff_ne, ne_eq] at hc57
          refine W_skip ?_
          refine n_then ?_
          refine W_cond rfl (fun hc57 => ?_) (fun hc57 => ?_)
          · skip
            simp only [decide_eq_true_eq, decide_eq_false_iff_not, beq_iff_eq, beq_eq_false_iff_ne, ne_eq] at hc57
            refine W_region ?_
            refine s_fieldAddr rfl rfl (FA34_0 _ _) ?_
            first
              | refine s_storeB Try.sizeOf3 rfl rfl rfl hs (kk := 0) rfl rfl ?_
              | refine s_storeB Try.sizeOf3 rfl rfl rfl hs (kk := 1) rfl rfl ?_
              | refine s_storeB Try.sizeOf3 rfl rfl rfl hs (kk := 2) rfl rfl ?_
              | refine s_storeB Try.sizeOf3 rfl rfl rfl hs (kk := 3) rfl rfl ?_
            clear hs; intro w hs; try simp only [List.set_cons_zero, List.set_cons_succ, splice, List.take_succ_cons, List.take_zero, List.drop_succ_cons, List.drop_zero, List.nil_append, List.cons_append, List.length_cons, List.length_nil, Nat.reduceAdd, List.append_assoc] at hs
            refine WL_nil ?_
            refine n_blk ?_
            refine n_loop ?_
            first
              | exact ⟨⟨_, _, _, _, _, _, [], [], [], []⟩, ⟨rfl, rfl, rfl, rfl, rfl, rfl, trivial⟩, hs, OwnS.nil _ _, OwnS.nil _ _, by simp, by simp⟩
              | exact ⟨⟨_, _, _, _, _, _, [], gs, [], Lg⟩, ⟨rfl, rfl, rfl, rfl, rfl, rfl, trivial⟩, hs, OwnS.nil _ _, hOg, by simp, by simp only; omega⟩
              | exact ⟨⟨_, _, _, _, _, _, [_, _], [], [_], []⟩, ⟨rfl, rfl, rfl, rfl, rfl, rfl, trivial⟩, St.reord [[_], [_], Lo, oblks os] [1, 0, 2, 3] [] hs rfl, own2 _ _ _, OwnS.nil _ _, by simp, by simp⟩
          · skip
            simp only [decide_eq_true_eq, decide_eq_false_iff_not, beq_iff_eq, beq_eq_false_iff_ne, ne_eq] at hc57
            refine W_seq ?_
            refine W_region ?_
            refine s_eql rfl rfl rfl ?_
            refine s_assign rfl rfl ?_
            refine WL_nil ?_
            refine n_then ?_
            refine W_cond rfl (fun hc61 => ?_) (fun hc61 => ?_)
            · skip
              simp only [decide_eq_true_eq, decide_eq_false_iff_not, beq_iff_eq, beq_eq_false_iff_ne, ne_eq] at hc61
              refine W_region ?_
              refine s_fieldAddr rfl rfl (FA34_0 _ _) ?_
              first
                | refine s_storeB Try.sizeOf3 rfl rfl rfl hs (kk := 0) rfl rfl ?_
                | refine s_storeB Try.sizeOf3 rfl rfl rfl hs (kk := 1) rfl rfl ?_
                | refine s_storeB Try.sizeOf3 rfl rfl rfl hs (kk := 2) rfl rfl ?_
                | refine s_storeB Try.sizeOf3 rfl rfl rfl hs (kk := 3) rfl rfl ?_
              clear hs; intro w hs; try simp only [List.set_cons_zero, List.set_cons_succ, splice, List.take_succ_cons, List.take_zero, List.drop_succ_cons, List.drop_zero, List.nil_append, List.cons_append, List.length_cons, List.length_nil, Nat.reduceAdd, List.append_assoc] at hs
              refine WL_nil ?_
              refine n_blk ?_
              refine n_loop ?_
              first
                | exact ⟨⟨_, _, _, _, _, _, [], [], [], []⟩, ⟨rfl, rfl, rfl, rfl, rfl, rfl, trivial⟩, hs, OwnS.nil _ _, OwnS.nil _ _, by simp, by simp⟩
                | exact ⟨⟨_, _, _, _, _, _, [], gs, [], Lg⟩, ⟨rfl, rfl, rfl, rfl, rfl, rfl, trivial⟩, hs, OwnS.nil _ _, hOg, by simp, by simp only; omega⟩
                | exact ⟨⟨_, _, _, _, _, _, [_, _], [], [_], []⟩, ⟨rfl, rfl, rfl, rfl, rfl, rfl, trivial⟩, St.reord [[_], [_], Lo, oblks os] [1, 0, 2, 3] [] hs rfl, own2 _ _ _, OwnS.nil _ _, by simp, by simp⟩
            · skip
              simp only [decide_eq_true_eq, decide_eq_false_iff_not, beq_iff_eq, beq_eq_false_iff_ne, ne_eq] at hc61
              refine W_seq ?_
              refine W_region ?_
              refine s_eql rfl rfl rfl ?_
              refine s_assign rfl rfl ?_
              refine WL_nil ?_
              refine n_then ?_
              refine W_cond rfl (fun hc64 => ?_) (fun hc64 => ?_)
              · skip
                simp only [decide_eq_true_eq, decide_eq_false_iff_not, beq_iff_eq, beq_eq_false_iff_ne, ne_eq] at hc64
                refine W_region ?_
                refine s_fieldAddr rfl rfl (FA34_0 _ _) ?_
                first
                  | refine s_storeB Try.sizeOf3 rfl rfl rfl hs (kk := 0) rfl rfl ?_
                  | refine s_storeB Try.sizeOf3 rfl rfl rfl hs (kk := 1) rfl rfl ?_
                  | refine s_storeB Try.sizeOf3 rfl rfl rfl hs (kk := 2) rfl rfl ?_
                  | refine s_storeB Try.sizeOf3 rfl rfl rfl hs (kk := 3) rfl rfl ?_
                clear hs; intro w hs; try simp only [List.set_cons_zero, List.set_cons_succ, splice, List.take_succ_cons, List.take_zero, List.drop_succ_cons, List.drop_zero, List.nil_append, List.cons_append, List.length_cons, List.length_nil, Nat.reduceAdd, List.append_assoc] at hs
                refine WL_nil ?_
                refine n_blk ?_
                refine n_loop ?_
                first
                  | exact ⟨⟨_, _, _, _, _, _, [], [], [], []⟩, ⟨rfl, rfl, rfl, rfl, rfl, rfl, trivial⟩, hs, OwnS.nil _ _, OwnS.nil _ _, by simp, by simp⟩
                  | exact ⟨⟨_, _, _, _, _, _, [], gs, [], Lg⟩, ⟨rfl, rfl, rfl, rfl, rfl, rfl, trivial⟩, hs, OwnS.nil _ _, hOg, by simp, by simp only; omega⟩
                  | exact ⟨⟨_, _, _, _, _, _, [_, _], [], [_], []⟩, ⟨rfl, rfl, rfl, rfl, rfl, rfl, trivial⟩, St.reord [[_], [_], Lo, oblks os] [1, 0, 2, 3] [] hs rfl, own2 _ _ _, OwnS.nil _ _, by simp, by simp⟩
              · skip
                simp only [decide_eq_true_eq, decide_eq_false_iff_not, beq_iff_eq, beq_eq_false_iff_ne, ne_eq] at hc64
                refine W_seq ?_
                refine W_region ?_
                refine s_eql rfl rfl rfl ?_
                refine s_assign rfl rfl ?_
                refine WL_nil ?_
                refine n_then ?_
                refine W_cond rfl (fun hc67 => ?_) (fun hc67 => ?_)
                · skip
                  simp only [decide_eq_true_eq, decide_eq_false_iff_not, beq_iff_eq, beq_eq_false_iff_ne, ne_eq] at hc67
                  refine W_seq ?_
                  refine W_region ?_
                  refine s_fieldAddr rfl rfl (FA34_0 _ _) ?_
                  first
                    | refine s_storeB Try.sizeOf3 rfl rfl rfl hs (kk := 0) rfl rfl ?_
                    | refine s_storeB Try.sizeOf3 rfl rfl rfl hs (kk := 1) rfl rfl ?_
                    | refine s_storeB Try.sizeOf3 rfl rfl rfl hs (kk := 2) rfl rfl ?_
                    | refine s_storeB Try.sizeOf3 rfl rfl rfl hs (kk := 3) rfl rfl ?_
                  clear hs; intro w hs; try simp only [List.set_cons_zero, List.set_cons_succ, splice, List.take_succ_cons, List.take_zero, List.drop_succ_cons, List.drop_zero, List.nil_append, List.cons_append, List.length_cons, List.length_nil, Nat.reduceAdd, List.append_assoc] at hs
                  refine WL_nil ?_
                  refine n_then ?_
                  refine W_seq ?_
                  refine W_region ?_
                  refine s_assign rfl rfl ?_
                  refine WL_nil ?_
                  refine n_then ?_
                  refine W_block ?_
                  refine W_loop (σ := Nat × List Int × Value × Hp) (fun s => [(0, .slice a xs.length c), (1, .int .i64 (k : Int)), (5, rv), (6, .int .i64 (i : Int)), (7, .int .i64 nn), (8, .pointer (some ⟨b8, 0, none⟩)), (9, .int .i64 (s.1 : Int))])
                    (fun s w => St [] w0 w ((b8, Blk 34 [.int .i64 4, .int .i64 (nn % 5), .int .i64 0, .int .i64 0, .slice none 0 0, s.2.2.1]) :: (s.2.2.2 ++ (Lo ++ oblks os))) ∧ OwnS 3 1 s.2.2.1 s.2.1.length (i64s s.2.1) s.2.2.2 ∧ s.1 = s.2.1.length ∧ s.1 ≤ 100) (fun s => 100 - s.1) (0, [], .slice none 0 0, []) ⟨rfl, rfl, rfl, rfl, rfl, rfl, rfl, trivial⟩ ⟨hs, OwnS.nil _ _, rfl, by simp⟩ ?_
                  clear hs
                  rintro ⟨j, gs, gv, Lg⟩ w ⟨hs, hOg, hjl, hj⟩
                  simp only at hs hOg hjl hj
                  obtain ⟨gl, gc, ga, rfl, rfl⟩ := hOg.form
                  have h98 : nn % 9 / 8 ≤ 1 ∧ 0 ≤ nn % 9 / 8 := by omega
                  refine W_seq ?_
                  refine W_seq ?_
                  refine W_region ?_
                  refine s_move rfl rfl ?_
                  refine s_move rfl rfl ?_
                  refine s_move rfl rfl ?_
                  first | (refine s_rem' rfl rfl rfl ?hx ?_; case hx => (refine ⟨?_, ?_⟩ <;> omega)) | (refine s_rem rfl rfl rfl ?hx ?_; case hx => omega)
                  first | (refine s_quo' rfl rfl rfl ?hx ?_; case hx => (refine ⟨?_, ?_, ?_⟩ <;> omega)) | (refine s_quo rfl rfl rfl ?hx ?_; case hx => omega)
                  first | (refine s_add' rfl rfl rfl ?hx ?_; case hx => (constructor <;> omega)) | refine s_add rfl rfl rfl ?_
                  refine s_lss rfl rfl rfl ?_
                  refine WL_nil ?_
                  refine n_then ?_
                  refine W_cond rfl (fun hc76 => ?_) (fun hc76 => ?_)
                  · skip
                    simp only [decide_eq_true_eq, decide_eq_false_iff_not, beq_iff_eq, beq_eq_false_iff_ne, ne_eq] at hc76
                    refine W_skip ?_
                    refine n_then ?_
                    refine W_seq ?_
                    refine W_block ?_
                    refine W_region ?_
                    refine s_fieldAddr rfl rfl (FA34_3 _ _) ?_
                    first
                      | refine s_load Try.isAgg22 rfl rfl (hs.cell (k := 0) rfl rfl) ?_
                      | refine s_load Try.isAgg22 rfl rfl (hs.cell (k := 1) rfl rfl) ?_
                      | refine s_load Try.isAgg22 rfl rfl (hs.cell (k := 2) rfl rfl) ?_
                      | refine s_load Try.isAgg22 rfl rfl (hs.cell (k := 3) rfl rfl) ?_
                      | refine s_load Try.isAgg22 rfl rfl ((hs.oldcell (a := ⟨bz, oz + i, none⟩) hBz (by simp)).trans hcz) ?_
                    refine s_move rfl rfl ?_
                    refine s_move rfl rfl ?_
                    first | (refine s_add' rfl rfl rfl ?hx ?_; case hx => (constructor <;> omega)) | refine s_add rfl rfl rfl ?_
                    refine s_convert rfl rfl (CV3_59 _) ?_
                    rw [show IntKind.u64.wrap (((j, gs, Value.slice ga gs.length gc, Lg) : Nat × List Int × Value × Hp).1 + 3 : Int) = (j + 3 : Int) from IntWalk.u64_in _ (by simp only; omega)]
                    (refine s_shr rfl rfl rfl ?hx ?_; case hx => omega)
                    (refine s_rem rfl rfl rfl ?hx ?_; case hx => omega)
                    generalize Int.tmod _ 2 = gg
                    refine s_buildSlice rfl rfl (BS22_1 _) hs ?_; clear hs; intro b87 w hs
                    refine s_appendM (M := [_, _]) (X := Lo ++ oblks os) El22 rfl rfl rfl hOg hs (hs.sl (k := 0) (ds := i64s [gg]) rfl (Nat.le_refl _) (by intro j u hj; rw [Nat.zero_add]; exact hj)) rfl (i64s_one [gg]) (by omega) ?_
                    clear hs; intro gv' w Lg' hO' hs
                    simp only [List.cons_append, List.nil_append] at hs
                    obtain ⟨tl', tc', ta', rfl, rfl⟩ := hO'.form
                    refine s_fieldAddr rfl rfl (FA34_3 _ _) ?_
                    first
                      | refine s_storeB Try.sizeOf22 rfl rfl rfl hs (kk := 0) rfl rfl ?_
                      | refine s_storeB Try.sizeOf22 rfl rfl rfl hs (kk := 1) rfl rfl ?_
                      | refine s_storeB Try.sizeOf22 rfl rfl rfl hs (kk := 2) rfl rfl ?_
                      | refine s_storeB Try.sizeOf22 rfl rfl rfl hs (kk := 3) rfl rfl ?_
                    clear hs; intro w hs; try simp only [List.set_cons_zero, List.set_cons_succ, splice, List.take_succ_cons, List.take_zero, List.drop_succ_cons, List.drop_zero, List.nil_append, List.cons_append, List.length_cons, List.length_nil, Nat.reduceAdd, List.append_assoc] at hs
                    refine WL_nil ?_
                    refine n_blk ?_
                    refine n_then ?_
                    refine W_region ?_
                    refine s_move rfl rfl ?_
                    first | (refine s_add' rfl rfl rfl ?hx ?_; case hx => (constructor <;> omega)) | refine s_add rfl rfl rfl ?_
                    refine s_assign rfl rfl ?_
                    refine WL_nil ?_
                    refine n_loop ?_
                    refine ⟨(j + 1, gs ++ [gg], _, Lg'), ⟨rfl, rfl, rfl, rfl, rfl, rfl, rfl, trivial⟩, ⟨hs.tail, ?_, ?_, ?_⟩, ?_⟩
                    · rw [← List.map_append] at hO'; simpa using hO'
                    · simp [hjl]
                    · simp only; omega
                    · simp only; omega
                  · skip
                    simp only [decide_eq_true_eq, decide_eq_false_iff_not, beq_iff_eq, beq_eq_false_iff_ne, ne_eq] at hc76
                    refine W_exit ?_
                    refine x_then ?_
                    refine x_then ?_
                    refine exit_hit ?_
                    refine n_blk ?_
                    refine n_loop ?_
                    first
                      | exact ⟨⟨_, _, _, _, _, _, [], [], [], []⟩, ⟨rfl, rfl, rfl, rfl, rfl, rfl, trivial⟩, hs, OwnS.nil _ _, OwnS.nil _ _, by simp, by simp⟩
                      | exact ⟨⟨_, _, _, _, _, _, [], gs, [], Lg⟩, ⟨rfl, rfl, rfl, rfl, rfl, rfl, trivial⟩, hs, OwnS.nil _ _, hOg, by simp, by simp only; omega⟩
                      | exact ⟨⟨_, _, _, _, _, _, [_, _], [], [_], []⟩, ⟨rfl, rfl, rfl, rfl, rfl, rfl, trivial⟩, St.reord [[_], [_], Lo, oblks os] [1, 0, 2, 3] [] hs rfl, own2 _ _ _, OwnS.nil _ _, by simp, by simp⟩
                · skip
                  simp only [decide_eq_true_eq, decide_eq_false_iff_not, beq_iff_eq, beq_eq_false_iff_ne, ne_eq] at hc67
                  refine W_seq ?_
                  refine W_draw [(0, true, []), (1, true, []), (2, true, []), (3, true, []), (4, true, []), (5, true, []), (6, true, []), (7, true, []), (8, true, []), (9, true, []), (10, true, []), (11, false, [0, 1, 2, 3, 4, 5, 6]), (12, true, []), (13, true, []), (14, false, [])] MX (by kernel_rfl) ?_
                  intro w1 hw1 hw2 hw3 hw4; replace hs := hs.redrawn hw1 hw2 hw3 hw4; clear hw1 hw2 hw3 hw4
                  obtain ⟨w, rfl⟩ : ∃ w : World, w = w1 := ⟨_, rfl⟩
                  refine D_q rfl rfl ?_
                  refine s_move rfl rfl ?_
                  refine D_qn ?_
                  refine D_q rfl rfl ?_
                  refine s_move rfl rfl ?_
                  refine D_qn ?_
                  refine D_q rfl rfl ?_
                  first | (refine s_rem' rfl rfl rfl ?hx ?_; case hx => (refine ⟨?_, ?_⟩ <;> omega)) | (refine s_rem rfl rfl rfl ?hx ?_; case hx => omega)
                  refine D_qn ?_
                  refine D_q rfl rfl ?_
                  refine s_move rfl rfl ?_
                  refine D_qn ?_
                  refine D_q rfl rfl ?_
                  first | (refine s_quo' rfl rfl rfl ?hx ?_; case hx => (refine ⟨?_, ?_, ?_⟩ <;> omega)) | (refine s_quo rfl rfl rfl ?hx ?_; case hx => omega)
                  refine D_qn ?_
                  refine D_q rfl rfl ?_
                  refine s_move rfl rfl ?_
                  refine D_qn ?_
                  refine D_q rfl rfl ?_
                  first | (refine s_rem' rfl rfl rfl ?hx ?_; case hx => (refine ⟨?_, ?_⟩ <;> omega)) | (refine s_rem rfl rfl rfl ?hx ?_; case hx => omega)
                  refine D_qn ?_
                  refine D_q rfl rfl ?_
                  refine s_move rfl rfl ?_
                  refine D_qn ?_
                  refine D_q rfl rfl ?_
                  refine s_convert rfl rfl (CV3_5 _) ?_
                  refine D_qn ?_
                  refine D_q rfl rfl ?_
                  refine s_move rfl rfl ?_
                  refine D_qn ?_
                  refine D_q rfl rfl ?_
                  refine s_convert rfl rfl (CV3_5 _) ?_
                  refine D_qn ?_
                  refine D_e rfl ?_
                  refine s_buildSlice rfl rfl (BS30_2 _ _) hs ?_; clear hs; intro b45 w hs
                  refine D_en ?re ?_
                  case re =>
                    refine Reks_cons rfl rfl rfl rfl ?_ ?_
                    · skip
                      refine s_move rfl rfl ?_
                      exact Rek_end rfl
                    refine Reks_cons rfl rfl rfl rfl ?_ ?_
                    · skip
                      refine s_move rfl rfl ?_
                      exact Rek_end rfl
                    refine Reks_cons rfl rfl rfl rfl ?_ ?_
                    · skip
                      first | (refine s_rem' rfl rfl rfl ?hx ?_; case hx => (refine ⟨?_, ?_⟩ <;> omega)) | (refine s_rem rfl rfl rfl ?hx ?_; case hx => omega)
                      exact Rek_end rfl
                    refine Reks_cons rfl rfl rfl rfl ?_ ?_
                    · skip
                      refine s_move rfl rfl ?_
                      exact Rek_end rfl
                    refine Reks_cons rfl rfl rfl rfl ?_ ?_
                    · skip
                      first | (refine s_quo' rfl rfl rfl ?hx ?_; case hx => (refine ⟨?_, ?_, ?_⟩ <;> omega)) | (refine s_quo rfl rfl rfl ?hx ?_; case hx => omega)
                      exact Rek_end rfl
                    refine Reks_cons rfl rfl rfl rfl ?_ ?_
                    · skip
                      refine s_move rfl rfl ?_
                      exact Rek_end rfl
                    refine Reks_cons rfl rfl rfl rfl ?_ ?_
                    · skip
                      first | (refine s_rem' rfl rfl rfl ?hx ?_; case hx => (refine ⟨?_, ?_⟩ <;> omega)) | (refine s_rem rfl rfl rfl ?hx ?_; case hx => omega)
                      exact Rek_end rfl
                    exact Reks_nil
                  refine D_q rfl rfl ?_
                  refine s_build rfl rfl (BD32_0_1_2 _ _ _ _ _) ?_
                  refine D_qn ?_
                  refine D_q rfl rfl ?_
                  refine s_fieldAddr rfl rfl (FA34_2 _ _) ?_
                  refine D_qn ?_
                  refine D_e rfl ?_
                  first
                    | refine s_storeW Try.sizeOf32 rfl rfl rfl rfl hs (kk := 0) rfl rfl ?_
                    | refine s_storeW Try.sizeOf32 rfl rfl rfl rfl hs (kk := 1) rfl rfl ?_
                    | refine s_storeW Try.sizeOf32 rfl rfl rfl rfl hs (kk := 2) rfl rfl ?_
                    | refine s_storeW Try.sizeOf32 rfl rfl rfl rfl hs (kk := 3) rfl rfl ?_
                    | refine s_storeAB Try.sizeOf32 rfl rfl rfl rfl hs (kk := 0) rfl rfl ?_
                    | refine s_storeAB Try.sizeOf32 rfl rfl rfl rfl hs (kk := 1) rfl rfl ?_
                    | refine s_storeAB Try.sizeOf32 rfl rfl rfl rfl hs (kk := 2) rfl rfl ?_
                    | refine s_storeAB Try.sizeOf32 rfl rfl rfl rfl hs (kk := 3) rfl rfl ?_
                  clear hs; intro w hs; try simp only [List.set_cons_zero, List.set_cons_succ, splice, List.take_succ_cons, List.take_zero, List.drop_succ_cons, List.drop_zero, List.nil_append, List.cons_append, List.length_cons, List.length_nil, Nat.reduceAdd, List.append_assoc] at hs
                  refine D_en ?re ?_
                  case re =>
                    exact Reks_nil
                  refine D_nil ?_
                  refine n_then ?_
                  refine W_seq ?_
                  refine W_region ?_
                  refine s_move rfl rfl ?_
                  first | (refine s_rem' rfl rfl rfl ?hx ?_; case hx => (refine ⟨?_, ?_⟩ <;> omega)) | (refine s_rem rfl rfl rfl ?hx ?_; case hx => omega)
                  refine s_eql rfl rfl rfl ?_
                  refine WL_nil ?_
                  refine n_then ?_
                  refine W_cond rfl (fun hc50 => ?_) (fun hc50 => ?_)
                  · skip
                    simp only [decide_eq_true_eq, decide_eq_false_iff_not, beq_iff_eq, beq_eq_false_iff_ne, ne_eq] at hc50
                    refine W_region ?_
                    refine s_move rfl rfl ?_
                    first | (refine s_quo' rfl rfl rfl ?hx ?_; case hx => (refine ⟨?_, ?_, ?_⟩ <;> omega)) | (refine s_quo rfl rfl rfl ?hx ?_; case hx => omega)
                    first | (refine s_rem' rfl rfl rfl ?hx ?_; case hx => (refine ⟨?_, ?_⟩ <;> omega)) | (refine s_rem rfl rfl rfl ?hx ?_; case hx => omega)
                    first | (refine s_sub' rfl rfl rfl ?hx ?_; case hx => (constructor <;> omega)) | refine s_sub rfl rfl rfl ?_
                    refine s_fieldAddr rfl rfl (FA34_2 _ _) ?_
                    refine s_fieldAddr rfl rfl (FA32_1 _ _) ?_
                    first
                      | refine s_storeB Try.sizeOf3 rfl rfl rfl hs (kk := 0) rfl rfl ?_
                      | refine s_storeB Try.sizeOf3 rfl rfl rfl hs (kk := 1) rfl rfl ?_
                      | refine s_storeB Try.sizeOf3 rfl rfl rfl hs (kk := 2) rfl rfl ?_
                      | refine s_storeB Try.sizeOf3 rfl rfl rfl hs (kk := 3) rfl rfl ?_
                    clear hs; intro w hs; try simp only [List.set_cons_zero, List.set_cons_succ, splice, List.take_succ_cons, List.take_zero, List.drop_succ_cons, List.drop_zero, List.nil_append, List.cons_append, List.length_cons, List.length_nil, Nat.reduceAdd, List.append_assoc] at hs
                    refine WL_nil ?_
                    refine n_blk ?_
                    refine n_loop ?_
                    first
                      | exact ⟨⟨_, _, _, _, _, _, [], [], [], []⟩, ⟨rfl, rfl, rfl, rfl, rfl, rfl, trivial⟩, hs, OwnS.nil _ _, OwnS.nil _ _, by simp, by simp⟩
                      | exact ⟨⟨_, _, _, _, _, _, [], gs, [], Lg⟩, ⟨rfl, rfl, rfl, rfl, rfl, rfl, trivial⟩, hs, OwnS.nil _ _, hOg, by simp, by simp only; omega⟩
                      | exact ⟨⟨_, _, _, _, _, _, [_, _], [], [_], []⟩, ⟨rfl, rfl, rfl, rfl, rfl, rfl, trivial⟩, St.reord [[_], [_], Lo, oblks os] [1, 0, 2, 3] [] hs rfl, own2 _ _ _, OwnS.nil _ _, by simp, by simp⟩
                  · skip
                    simp only [decide_eq_true_eq, decide_eq_false_iff_not, beq_iff_eq, beq_eq_false_iff_ne, ne_eq] at hc50
                    refine W_skip ?_
                    refine n_blk ?_
                    refine n_loop ?_
                    first
                      | exact ⟨⟨_, _, _, _, _, _, [], [], [], []⟩, ⟨rfl, rfl, rfl, rfl, rfl, rfl, trivial⟩, hs, OwnS.nil _ _, OwnS.nil _ _, by simp, by simp⟩
                      | exact ⟨⟨_, _, _, _, _, _, [], gs, [], Lg⟩, ⟨rfl, rfl, rfl, rfl, rfl, rfl, trivial⟩, hs, OwnS.nil _ _, hOg, by simp, by simp only; omega⟩
                      | exact ⟨⟨_, _, _, _, _, _, [_, _], [], [_], []⟩, ⟨rfl, rfl, rfl, rfl, rfl, rfl, trivial⟩, St.reord [[_], [_], Lo, oblks os] [1, 0, 2, 3] [] hs rfl, own2 _ _ _, OwnS.nil _ _, by simp, by simp⟩
        · skip
          simp only [decide_eq_true_eq, decide_eq_false_iff_not, beq_iff_eq, beq_eq_false_iff_ne, ne_eq] at hc57
          refine W_region ?_
          refine s_eql rfl rfl rfl ?_
          refine s_assign rfl rfl ?_
          refine WL_nil ?_
          refine n_then ?_
          refine W_cond rfl (fun hc57 => ?_) (fun hc57 => ?_)
          · skip
            simp only [decide_eq_true_eq, decide_eq_false_iff_not, beq_iff_eq, beq_eq_false_iff_ne, ne_eq] at hc57
            refine W_region ?_
            refine s_fieldAddr rfl rfl (FA34_0 _ _) ?_
            first
              | refine s_storeB Try.sizeOf3 rfl rfl rfl hs (kk := 0) rfl rfl ?_
              | refine s_storeB Try.sizeOf3 rfl rfl rfl hs (kk := 1) rfl rfl ?_
              | refine s_storeB Try.sizeOf3 rfl rfl rfl hs (kk := 2) rfl rfl ?_
              | refine s_storeB Try.sizeOf3 rfl rfl rfl hs (kk := 3) rfl rfl ?_
            clear hs; intro w hs; try simp only [List.set_cons_zero, List.set_cons_succ, splice, List.take_succ_cons, List.take_zero, List.drop_succ_cons, List.drop_zero, List.nil_append, List.cons_append, List.length_cons, List.length_nil, Nat.reduceAdd, List.append_assoc] at hs
            refine WL_nil ?_
            refine n_blk ?_
            refine n_loop ?_
            first
              | exact ⟨⟨_, _, _, _, _, _, [], [], [], []⟩, ⟨rfl, rfl, rfl, rfl, rfl, rfl, trivial⟩, hs, OwnS.nil _ _, OwnS.nil _ _, by simp, by simp⟩
              | exact ⟨⟨_, _, _, _, _, _, [], gs, [], Lg⟩, ⟨rfl, rfl, rfl, rfl, rfl, rfl, trivial⟩, hs, OwnS.nil _ _, hOg, by simp, by simp only; omega⟩
              | exact ⟨⟨_, _, _, _, _, _, [_, _], [], [_], []⟩, ⟨rfl, rfl, rfl, rfl, rfl, rfl, trivial⟩, St.reord [[_], [_], Lo, oblks os] [1, 0, 2, 3] [] hs rfl, own2 _ _ _, OwnS.nil _ _, by simp, by simp⟩
          · skip
            simp only [decide_eq_true_eq, decide_eq_false_iff_not, beq_iff_eq, beq_eq_false_iff_ne, ne_eq] at hc57
            refine W_seq ?_
            refine W_region ?_
            refine s_eql rfl rfl rfl ?_
            refine s_assign rfl rfl ?_
            refine WL_nil ?_
            refine n_then ?_
            refine W_cond rfl (fun hc61 => ?_) (fun hc61 => ?_)
            · skip
              simp only [decide_eq_true_eq, decide_eq_false_iff_not, beq_iff_eq, beq_eq_false_iff_ne, ne_eq] at hc61
              refine W_region ?_
              refine s_fieldAddr rfl rfl (FA34_0 _ _) ?_
              first
                | refine s_storeB Try.sizeOf3 rfl rfl rfl hs (kk := 0) rfl rfl ?_
                | refine s_storeB Try.sizeOf3 rfl rfl rfl hs (kk := 1) rfl rfl ?_
                | refine s_storeB Try.sizeOf3 rfl rfl rfl hs (kk := 2) rfl rfl ?_
                | refine s_storeB Try.sizeOf3 rfl rfl rfl hs (kk := 3) rfl rfl ?_
              clear hs; intro w hs; try simp only [List.set_cons_zero, List.set_cons_succ, splice, List.take_succ_cons, List.take_zero, List.drop_succ_cons, List.drop_zero, List.nil_append, List.cons_append, List.length_cons, List.length_nil, Nat.reduceAdd, List.append_assoc] at hs
              refine WL_nil ?_
              refine n_blk ?_
              refine n_loop ?_
              first
                | exact ⟨⟨_, _, _, _, _, _, [], [], [], []⟩, ⟨rfl, rfl, rfl, rfl, rfl, rfl, trivial⟩, hs, OwnS.nil _ _, OwnS.nil _ _, by simp, by simp⟩
                | exact ⟨⟨_, _, _, _, _, _, [], gs, [], Lg⟩, ⟨rfl, rfl, rfl, rfl, rfl, rfl, trivial⟩, hs, OwnS.nil _ _, hOg, by simp, by simp only; omega⟩
                | exact ⟨⟨_, _, _, _, _, _, [_, _], [], [_], []⟩, ⟨rfl, rfl, rfl, rfl, rfl, rfl, trivial⟩, St.reord [[_], [_], Lo, oblks os] [1, 0, 2, 3] [] hs rfl, own2 _ _ _, OwnS.nil _ _, by simp, by simp⟩
            · skip
              simp only [decide_eq_true_eq, decide_eq_false_iff_not, beq_iff_eq, beq_eq_false_iff_ne, ne_eq] at hc61
              refine W_seq ?_
              refine W_region ?_
              refine s_eql rfl rfl rfl ?_
              refine s_assign rfl rfl ?_
              refine WL_nil ?_
              refine n_then ?_
              refine W_cond rfl (fun hc64 => ?_) (fun hc64 => ?_)
              · skip
                simp only [decide_eq_true_eq, decide_eq_false_iff_not, beq_iff_eq, beq_eq_false_iff_ne, ne_eq] at hc64
                refine W_region ?_
                refine s_fieldAddr rfl rfl (FA34_0 _ _) ?_
                first
                  | refine s_storeB Try.sizeOf3 rfl rfl rfl hs (kk := 0) rfl rfl ?_
                  | refine s_storeB Try.sizeOf3 rfl rfl rfl hs (kk := 1) rfl rfl ?_
                  | refine s_storeB Try.sizeOf3 rfl rfl rfl hs (kk := 2) rfl rfl ?_
                  | refine s_storeB Try.sizeOf3 rfl rfl rfl hs (kk := 3) rfl rfl ?_
                clear hs; intro w hs; try simp only [List.set_cons_zero, List.set_cons_succ, splice, List.take_succ_cons, List.take_zero, List.drop_succ_cons, List.drop_zero, List.nil_append, List.cons_append, List.length_cons, List.length_nil, Nat.reduceAdd, List.append_assoc] at hs
                refine WL_nil ?_
                refine n_blk ?_
                refine n_loop ?_
                first
                  | exact ⟨⟨_, _, _, _, _, _, [], [], [], []⟩, ⟨rfl, rfl, rfl, rfl, rfl, rfl, trivial⟩, hs, OwnS.nil _ _, OwnS.nil _ _, by simp, by simp⟩
                  | exact ⟨⟨_, _, _, _, _, _, [], gs, [], Lg⟩, ⟨rfl, rfl, rfl, rfl, rfl, rfl, trivial⟩, hs, OwnS.nil _ _, hOg, by simp, by simp only; omega⟩
                  | exact ⟨⟨_, _, _, _, _, _, [_, _], [], [_], []⟩, ⟨rfl, rfl, rfl, rfl, rfl, rfl, trivial⟩, St.reord [[_], [_], Lo, oblks os] [1, 0, 2, 3] [] hs rfl, own2 _ _ _, OwnS.nil _ _, by simp, by simp⟩
              · skip
                simp only [decide_eq_true_eq, decide_eq_false_iff_not, beq_iff_eq, beq_eq_false_iff_ne, ne_eq] at hc64
                refine W_seq ?_
                refine W_region ?_
                refine s_eql rfl rfl rfl ?_
                refine s_assign rfl rfl ?_
                refine WL_nil ?_
                refine n_then ?_
                refine W_cond rfl (fun hc67 => ?_) (fun hc67 => ?_)
                · skip
                  simp only [decide_eq_true_eq, decide_eq_false_iff_not, beq_iff_eq, beq_eq_false_iff_ne, ne_eq] at hc67
                  refine W_seq ?_
                  refine W_region ?_
                  refine s_fieldAddr rfl rfl (FA34_0 _ _) ?_
                  first
                    | refine s_storeB Try.sizeOf3 rfl rfl rfl hs (kk := 0) rfl rfl ?_
                    | refine s_storeB Try.sizeOf3 rfl rfl rfl hs (kk := 1) rfl rfl ?_
                    | refine s_storeB Try.sizeOf3 rfl rfl rfl hs (kk := 2) rfl rfl ?_
                    | refine s_storeB Try.sizeOf3 rfl rfl rfl hs (kk := 3) rfl rfl ?_
                  clear hs; intro w hs; try simp only [List.set_cons_zero, List.set_cons_succ, splice, List.take_succ_cons, List.take_zero, List.drop_succ_cons, List.drop_zero, List.nil_append, List.cons_append, List.length_cons, List.length_nil, Nat.reduceAdd, List.append_assoc] at hs
                  refine WL_nil ?_
                  refine n_then ?_
                  refine W_seq ?_
                  refine W_region ?_
                  refine s_assign rfl rfl ?_
                  refine WL_nil ?_
                  refine n_then ?_
                  refine W_block ?_
                  refine W_loop (σ := Nat × List Int × Value × Hp) (fun s => [(0, .slice a xs.length c), (1, .int .i64 (k : Int)), (5, rv), (6, .int .i64 (i : Int)), (7, .int .i64 nn), (8, .pointer (some ⟨b8, 0, none⟩)), (9, .int .i64 (s.1 : Int))])
                    (fun s w => St [] w0 w ((b8, Blk 34 [.int .i64 4, .int .i64 (nn % 5), .int .i64 0, .int .i64 0, .slice none 0 0, s.2.2.1]) :: (s.2.2.2 ++ (Lo ++ oblks os))) ∧ OwnS 3 1 s.2.2.1 s.2.1.length (i64s s.2.1) s.2.2.2 ∧ s.1 = s.2.1.length ∧ s.1 ≤ 100) (fun s => 100 - s.1) (0, [], .slice none 0 0, []) ⟨rfl, rfl, rfl, rfl, rfl, rfl, rfl, trivial⟩ ⟨hs, OwnS.nil _ _, rfl, by simp⟩ ?_
                  clear hs
                  rintro ⟨j, gs, gv, Lg⟩ w ⟨hs, hOg, hjl, hj⟩
                  simp only at hs hOg hjl hj
                  obtain ⟨gl, gc, ga, rfl, rfl⟩ := hOg.form
                  have h98 : nn % 9 / 8 ≤ 1 ∧ 0 ≤ nn % 9 / 8 := by omega
                  refine W_seq ?_
                  refine W_seq ?_
                  refine W_region ?_
                  refine s_move rfl rfl ?_
                  refine s_move rfl rfl ?_
                  refine s_move rfl rfl ?_
                  first | (refine s_rem' rfl rfl rfl ?hx ?_; case hx => (refine ⟨?_, ?_⟩ <;> omega)) | (refine s_rem rfl rfl rfl ?hx ?_; case hx => omega)
                  first | (refine s_quo' rfl rfl rfl ?hx ?_; case hx => (refine ⟨?_, ?_, ?_⟩ <;> omega)) | (refine s_quo rfl rfl rfl ?hx ?_; case hx => omega)
                  first | (refine s_add' rfl rfl rfl ?hx ?_; case hx => (constructor <;> omega)) | refine s_add rfl rfl rfl ?_
                  refine s_lss rfl rfl rfl ?_
                  refine WL_nil ?_
                  refine n_then ?_
                  refine W_cond rfl (fun hc76 => ?_) (fun hc76 => ?_)
                  · skip
                    simp only [decide_eq_true_eq, decide_eq_false_iff_not, beq_iff_eq, beq_eq_false_iff_ne, ne_eq] at hc76
                    refine W_skip ?_
                    refine n_then ?_
                    refine W_seq ?_
                    refine W_block ?_
                    refine W_region ?_
                    refine s_fieldAddr rfl rfl (FA34_3 _ _) ?_
                    first
                      | refine s_load Try.isAgg22 rfl rfl (hs.cell (k := 0) rfl rfl) ?_
                      | refine s_load Try.isAgg22 rfl rfl (hs.cell (k := 1) rfl rfl) ?_
                      | refine s_load Try.isAgg22 rfl rfl (hs.cell (k := 2) rfl rfl) ?_
                      | refine s_load Try.isAgg22 rfl rfl (hs.cell (k := 3) rfl rfl) ?_
                      | refine s_load Try.isAgg22 rfl rfl ((hs.oldcell (a := ⟨bz, oz + i, none⟩) hBz (by simp)).trans hcz) ?_
                    refine s_move rfl rfl ?_
                    refine s_move rfl rfl ?_
                    first | (refine s_add' rfl rfl rfl ?hx ?_; case hx => (constructor <;> omega)) | refine s_add rfl rfl rfl ?_
                    refine s_convert rfl rfl (CV3_59 _) ?_
                    rw [show IntKind.u64.wrap (((j, gs, Value.slice ga gs.length gc, Lg) : Nat × List Int × Value × Hp).1 + 3 : Int) = (j + 3 : Int) from IntWalk.u64_in _ (by simp only; omega)]
                    (refine s_shr rfl rfl rfl ?hx ?_; case hx => omega)
                    (refine s_rem rfl rfl rfl ?hx ?_; case hx => omega)
                    generalize Int.tmod _ 2 = gg
                    refine s_buildSlice rfl rfl (BS22_1 _) hs ?_; clear hs; intro b87 w hs
                    refine s_appendM (M := [_, _]) (X := Lo ++ oblks os) El22 rfl rfl rfl hOg hs (hs.sl (k := 0) (ds := i64s [gg]) rfl (Nat.le_refl _) (by intro j u hj; rw [Nat.zero_add]; exact hj)) rfl (i64s_one [gg]) (by omega) ?_
                    clear hs; intro gv' w Lg' hO' hs
                    simp only [List.cons_append, List.nil_append] at hs
                    obtain ⟨tl', tc', ta', rfl, rfl⟩ := hO'.form
                    refine s_fieldAddr rfl rfl (FA34_3 _ _) ?_
                    first
                      | refine s_storeB Try.sizeOf22 rfl rfl rfl hs (kk := 0) rfl rfl ?_
                      | refine s_storeB Try.sizeOf22 rfl rfl rfl hs (kk := 1) rfl rfl ?_
                      | refine s_storeB Try.sizeOf22 rfl rfl rfl hs (kk := 2) rfl rfl ?_
                      | refine s_storeB Try.sizeOf22 rfl rfl rfl hs (kk := 3) rfl rfl ?_
                    clear hs; intro w hs; try simp only [List.set_cons_zero, List.set_cons_succ, splice, List.take_succ_cons, List.take_zero, List.drop_succ_cons, List.drop_zero, List.nil_append, List.cons_append, List.length_cons, List.length_nil, Nat.reduceAdd, List.append_assoc] at hs
                    refine WL_nil ?_
                    refine n_blk ?_
                    refine n_then ?_
                    refine W_region ?_
                    refine s_move rfl rfl ?_
                    first | (refine s_add' rfl rfl rfl ?hx ?_; case hx => (constructor <;> omega)) | refine s_add rfl rfl rfl ?_
                    refine s_assign rfl rfl ?_
                    refine WL_nil ?_
                    refine n_loop ?_
                    refine ⟨(j + 1, gs ++ [gg], _, Lg'), ⟨rfl, rfl, rfl, rfl, rfl, rfl, rfl, trivial⟩, ⟨hs.tail, ?_, ?_, ?_⟩, ?_⟩
                    · rw [← List.map_append] at hO'; simpa using hO'
                    · simp [hjl]
                    · simp only; omega
                    · simp only; omega
                  · skip
                    simp only [decide_eq_true_eq, decide_eq_false_iff_not, beq_iff_eq, beq_eq_false_iff_ne, ne_eq] at hc76
                    refine W_exit ?_
                    refine x_then ?_
                    refine x_then ?_
                    refine exit_hit ?_
                    refine n_blk ?_
                    refine n_loop ?_
                    first
                      | exact ⟨⟨_, _, _, _, _, _, [], [], [], []⟩, ⟨rfl, rfl, rfl, rfl, rfl, rfl, trivial⟩, hs, OwnS.nil _ _, OwnS.nil _ _, by simp, by simp⟩
                      | exact ⟨⟨_, _, _, _, _, _, [], gs, [], Lg⟩, ⟨rfl, rfl, rfl, rfl, rfl, rfl, trivial⟩, hs, OwnS.nil _ _, hOg, by simp, by simp only; omega⟩
                      | exact ⟨⟨_, _, _, _, _, _, [_, _], [], [_], []⟩, ⟨rfl, rfl, rfl, rfl, rfl, rfl, trivial⟩, St.reord [[_], [_], Lo, oblks os] [1, 0, 2, 3] [] hs rfl, own2 _ _ _, OwnS.nil _ _, by simp, by simp⟩
                · skip
                  simp only [decide_eq_true_eq, decide_eq_false_iff_not, beq_iff_eq, beq_eq_false_iff_ne, ne_eq] at hc67
                  refine W_seq ?_
                  refine W_draw [(0, true, []), (1, true, []), (2, true, []), (3, true, []), (4, true, []), (5, true, []), (6, true, []), (7, true, []), (8, true, []), (9, true, []), (10, true, []), (11, false, [0, 1, 2, 3, 4, 5, 6]), (12, true, []), (13, true, []), (14, false, [])] MX (by kernel_rfl) ?_
                  intro w1 hw1 hw2 hw3 hw4; replace hs := hs.redrawn hw1 hw2 hw3 hw4; clear hw1 hw2 hw3 hw4
                  obtain ⟨w, rfl⟩ : ∃ w : World, w = w1 := ⟨_, rfl⟩
                  refine D_q rfl rfl ?_
                  refine s_move rfl rfl ?_
                  refine D_qn ?_
                  refine D_q rfl rfl ?_
                  refine s_move rfl rfl ?_
                  refine D_qn ?_
                  refine D_q rfl rfl ?_
                  first | (refine s_rem' rfl rfl rfl ?hx ?_; case hx => (refine ⟨?_, ?_⟩ <;> omega)) | (refine s_rem rfl rfl rfl ?hx ?_; case hx => omega)
                  refine D_qn ?_
                  refine D_q rfl rfl ?_
                  refine s_move rfl rfl ?_
                  refine D_qn ?_
                  refine D_q rfl rfl ?_
                  first | (refine s_quo' rfl rfl rfl ?hx ?_; case hx => (refine ⟨?_, ?_, ?_⟩ <;> omega)) | (refine s_quo rfl rfl rfl ?hx ?_; case hx => omega)
                  refine D_qn ?_
                  refine D_q rfl rfl ?_
                  refine s_move rfl rfl ?_
                  refine D_qn ?_
                  refine D_q rfl rfl ?_
                  first | (refine s_rem' rfl rfl rfl ?hx ?_; case hx => (refine ⟨?_, ?_⟩ <;> omega)) | (refine s_rem rfl rfl rfl ?hx ?_; case hx => omega)
                  refine D_qn ?_
                  refine D_q rfl rfl ?_
                  refine s_move rfl rfl ?_
                  refine D_qn ?_
                  refine D_q rfl rfl ?_
                  refine s_convert rfl rfl (CV3_5 _) ?_
                  refine D_qn ?_
                  refine D_q rfl rfl ?_
                  refine s_move rfl rfl ?_
                  refine D_qn ?_
                  refine D_q rfl rfl ?_
                  refine s_convert rfl rfl (CV3_5 _) ?_
                  refine D_qn ?_
                  refine D_e rfl ?_
                  refine s_buildSlice rfl rfl (BS30_2 _ _) hs ?_; clear hs; intro b45 w hs
                  refine D_en ?re ?_
                  case re =>
                    refine Reks_cons rfl rfl rfl rfl ?_ ?_
                    · skip
                      refine s_move rfl rfl ?_
                      exact Rek_end rfl
                    refine Reks_cons rfl rfl rfl rfl ?_ ?_
                    · skip
                      refine s_move rfl rfl ?_
                      exact Rek_end rfl
                    refine Reks_cons rfl rfl rfl rfl ?_ ?_
                    · skip
                      first | (refine s_rem' rfl rfl rfl ?hx ?_; case hx => (refine ⟨?_, ?_⟩ <;> omega)) | (refine s_rem rfl rfl rfl ?hx ?_; case hx => omega)
                      exact Rek_end rfl
                    refine Reks_cons rfl rfl rfl rfl ?_ ?_
                    · skip
                      refine s_move rfl rfl ?_
                      exact Rek_end rfl
                    refine Reks_cons rfl rfl rfl rfl ?_ ?_
                    · skip
                      first | (refine s_quo' rfl rfl rfl ?hx ?_; case hx => (refine ⟨?_, ?_, ?_⟩ <;> omega)) | (refine s_quo rfl rfl rfl ?hx ?_; case hx => omega)
                      exact Rek_end rfl
                    refine Reks_cons rfl rfl rfl rfl ?_ ?_
                    · skip
                      refine s_move rfl rfl ?_
                      exact Rek_end rfl
                    refine Reks_cons rfl rfl rfl rfl ?_ ?_
                    · skip
                      first | (refine s_rem' rfl rfl rfl ?hx ?_; case hx => (refine ⟨?_, ?_⟩ <;> omega)) | (refine s_rem rfl rfl rfl ?hx ?_; case hx => omega)
                      exact Rek_end rfl
                    exact Reks_nil
                  refine D_q rfl rfl ?_
                  refine s_build rfl rfl (BD32_0_1_2 _ _ _ _ _) ?_
                  refine D_qn ?_
                  refine D_q rfl rfl ?_
                  refine s_fieldAddr rfl rfl (FA34_2 _ _) ?_
                  refine D_qn ?_
                  refine D_e rfl ?_
                  first
                    | refine s_storeW Try.sizeOf32 rfl rfl rfl rfl hs (kk := 0) rfl rfl ?_
                    | refine s_storeW Try.sizeOf32 rfl rfl rfl rfl hs (kk := 1) rfl rfl ?_
                    | refine s_storeW Try.sizeOf32 rfl rfl rfl rfl hs (kk := 2) rfl rfl ?_
                    | refine s_storeW Try.sizeOf32 rfl rfl rfl rfl hs (kk := 3) rfl rfl ?_
                    | refine s_storeAB Try.sizeOf32 rfl rfl rfl rfl hs (kk := 0) rfl rfl ?_
                    | refine s_storeAB Try.sizeOf32 rfl rfl rfl rfl hs (kk := 1) rfl rfl ?_
                    | refine s_storeAB Try.sizeOf32 rfl rfl rfl rfl hs (kk := 2) rfl rfl ?_
                    | refine s_storeAB Try.sizeOf32 rfl rfl rfl rfl hs (kk := 3) rfl rfl ?_
                  clear hs; intro w hs; try simp only [List.set_cons_zero, List.set_cons_succ, splice, List.take_succ_cons, List.take_zero, List.drop_succ_cons, List.drop_zero, List.nil_append, List.cons_append, List.length_cons, List.length_nil, Nat.reduceAdd, List.append_assoc] at hs
                  refine D_en ?re ?_
                  case re =>
                    exact Reks_nil
                  refine D_nil ?_
                  refine n_then ?_
                  refine W_seq ?_
                  refine W_region ?_
                  refine s_move rfl rfl ?_
                  first | (refine s_rem' rfl rfl rfl ?hx ?_; case hx => (refine ⟨?_, ?_⟩ <;> omega)) | (refine s_rem rfl rfl rfl ?hx ?_; case hx => omega)
                  refine s_eql rfl rfl rfl ?_
                  refine WL_nil ?_
                  refine n_then ?_
                  refine W_cond rfl (fun hc50 => ?_) (fun hc50 => ?_)
                  · skip
                    simp only [decide_eq_true_eq, decide_eq_false_iff_not, beq_iff_eq, beq_eq_false_iff_ne, ne_eq] at hc50
                    refine W_region ?_
                    refine s_move rfl rfl ?_
                    first | (refine s_quo' rfl rfl rfl ?hx ?_; case hx => (refine ⟨?_, ?_, ?_⟩ <;> omega)) | (refine s_quo rfl rfl rfl ?hx ?_; case hx => omega)
                    first | (refine s_rem' rfl rfl rfl ?hx ?_; case hx => (refine ⟨?_, ?_⟩ <;> omega)) | (refine s_rem rfl rfl rfl ?hx ?_; case hx => omega)
                    first | (refine s_sub' rfl rfl rfl ?hx ?_; case hx => (constructor <;> omega)) | refine s_sub rfl rfl rfl ?_
                    refine s_fieldAddr rfl rfl (FA34_2 _ _) ?_
                    refine s_fieldAddr rfl rfl (FA32_1 _ _) ?_
                    first
                      | refine s_storeB Try.sizeOf3 rfl rfl rfl hs (kk := 0) rfl rfl ?_
                      | refine s_storeB Try.sizeOf3 rfl rfl rfl hs (kk := 1) rfl rfl ?_
                      | refine s_storeB Try.sizeOf3 rfl rfl rfl hs (kk := 2) rfl rfl ?_
                      | refine s_storeB Try.sizeOf3 rfl rfl rfl hs (kk := 3) rfl rfl ?_
                    clear hs; intro w hs; try simp only [List.set_cons_zero, List.set_cons_succ, splice, List.take_succ_cons, List.take_zero, List.drop_succ_cons, List.drop_zero, List.nil_append, List.cons_append, List.length_cons, List.length_nil, Nat.reduceAdd, List.append_assoc] at hs
                    refine WL_nil ?_
                    refine n_blk ?_
                    refine n_loop ?_
                    first
                      | exact ⟨⟨_, _, _, _, _, _, [], [], [], []⟩, ⟨rfl, rfl, rfl, rfl, rfl, rfl, trivial⟩, hs, OwnS.nil _ _, OwnS.nil _ _, by simp, by simp⟩
                      | exact ⟨⟨_, _, _, _, _, _, [], gs, [], Lg⟩, ⟨rfl, rfl, rfl, rfl, rfl, rfl, trivial⟩, hs, OwnS.nil _ _, hOg, by simp, by simp only; omega⟩
                      | exact ⟨⟨_, _, _, _, _, _, [_, _], [], [_], []⟩, ⟨rfl, rfl, rfl, rfl, rfl, rfl, trivial⟩, St.reord [[_], [_], Lo, oblks os] [1, 0, 2, 3] [] hs rfl, own2 _ _ _, OwnS.nil _ _, by simp, by simp⟩
                  · skip
                    simp only [decide_eq_true_eq, decide_eq_false_iff_not, beq_iff_eq, beq_eq_false_iff_ne, ne_eq] at hc50
                    refine W_skip ?_
                    refine n_blk ?_
                    refine n_loop ?_
                    first
                      | exact ⟨⟨_, _, _, _, _, _, [], [], [], []⟩, ⟨rfl, rfl, rfl, rfl, rfl, rfl, trivial⟩, hs, OwnS.nil _ _, OwnS.nil _ _, by simp, by simp⟩
                      | exact ⟨⟨_, _, _, _, _, _, [], gs, [], Lg⟩, ⟨rfl, rfl, rfl, rfl, rfl, rfl, trivial⟩, hs, OwnS.nil _ _, hOg, by simp, by simp only; omega⟩
                      | exact ⟨⟨_, _, _, _, _, _, [_, _], [], [_], []⟩, ⟨rfl, rfl, rfl, rfl, rfl, rfl, trivial⟩, St.reord [[_], [_], Lo, oblks os] [1, 0, 2, 3] [] hs rfl, own2 _ _ _, OwnS.nil _ _, by simp, by simp⟩
      · skip
        clear hs
        rintro o w ⟨hs, hk9⟩
        simp only [ROp.cells] at hs
        refine W_seq ?_
        refine W_seq ?_
        refine W_region ?_
        refine s_move rfl rfl ?_
        first | (refine s_rem' rfl rfl rfl ?hx ?_; case hx => (refine ⟨?_, ?_⟩ <;> omega)) | (refine s_rem rfl rfl rfl ?hx ?_; case hx => omega)
        refine s_eql rfl rfl rfl ?_
        refine WL_nil ?_
        refine n_then ?_
        refine W_cond rfl (fun hc92 => ?_) (fun hc92 => ?_)
        · skip
          simp only [decide_eq_true_eq, decide_eq_false_iff_not, beq_iff_eq, beq_eq_false_iff_ne, ne_eq] at hc92
          refine W_region ?_
          refine s_move rfl rfl ?_
          first | (refine s_quo' rfl rfl rfl ?hx ?_; case hx => (refine ⟨?_, ?_, ?_⟩ <;> omega)) | (refine s_quo rfl rfl rfl ?hx ?_; case hx => omega)
          first | (refine s_rem' rfl rfl rfl ?hx ?_; case hx => (refine ⟨?_, ?_⟩ <;> omega)) | (refine s_rem rfl rfl rfl ?hx ?_; case hx => omega)
          first | (refine s_sub' rfl rfl rfl ?hx ?_; case hx => (constructor <;> omega)) | refine s_sub rfl rfl rfl ?_
          refine s_fieldAddr rfl rfl (FA34_1 _ _) ?_
          first
            | refine s_storeB Try.sizeOf3 rfl rfl rfl hs (kk := 0) rfl rfl ?_
            | refine s_storeB Try.sizeOf3 rfl rfl rfl hs (kk := 1) rfl rfl ?_
            | refine s_storeB Try.sizeOf3 rfl rfl rfl hs (kk := 2) rfl rfl ?_
            | refine s_storeB Try.sizeOf3 rfl rfl rfl hs (kk := 3) rfl rfl ?_
          clear hs; intro w hs; try simp only [List.set_cons_zero, List.set_cons_succ, splice, List.take_succ_cons, List.take_zero, List.drop_succ_cons, List.drop_zero, List.nil_append, List.cons_append, List.length_cons, List.length_nil, Nat.reduceAdd, List.append_assoc] at hs
          refine WL_nil ?_
          refine n_then ?_
          refine W_region ?_
          refine s_move rfl rfl ?_
          first
            | refine s_loadW Try.isAgg34 Try.sizeOf34 rfl rfl hs (kk := 0) rfl rfl ?_
            | refine s_loadW Try.isAgg34 Try.sizeOf34 rfl rfl hs (kk := 1) rfl rfl ?_
            | refine s_loadW Try.isAgg34 Try.sizeOf34 rfl rfl hs (kk := 2) rfl rfl ?_
            | refine s_loadW Try.isAgg34 Try.sizeOf34 rfl rfl hs (kk := 3) rfl rfl ?_
            | refine s_load_6 Try.isAgg34 Try.sizeOf34 rfl rfl (by first | exact hs.cell (k := 0) rfl rfl | exact hs.cell (k := 1) rfl rfl | exact hs.cell (k := 2) rfl rfl | exact hs.cell (k := 3) rfl rfl) (by first | exact hs.cell (k := 0) rfl rfl | exact hs.cell (k := 1) rfl rfl | exact hs.cell (k := 2) rfl rfl | exact hs.cell (k := 3) rfl rfl) (by first | exact hs.cell (k := 0) rfl rfl | exact hs.cell (k := 1) rfl rfl | exact hs.cell (k := 2) rfl rfl | exact hs.cell (k := 3) rfl rfl) (by first | exact hs.cell (k := 0) rfl rfl | exact hs.cell (k := 1) rfl rfl | exact hs.cell (k := 2) rfl rfl | exact hs.cell (k := 3) rfl rfl) (by first | exact hs.cell (k := 0) rfl rfl | exact hs.cell (k := 1) rfl rfl | exact hs.cell (k := 2) rfl rfl | exact hs.cell (k := 3) rfl rfl) (by first | exact hs.cell (k := 0) rfl rfl | exact hs.cell (k := 1) rfl rfl | exact hs.cell (k := 2) rfl rfl | exact hs.cell (k := 3) rfl rfl) ?_
          refine s_buildSlice rfl rfl (BS28_1 _ _ _ _ _ _) hs ?_; clear hs; intro b100 w hs
          obtain ⟨o2, ho2, hs2⟩ : ∃ o2 : ROp, o2.ok ∧ St [] w0 w ((b100, Blk 34 o2.cells) :: (b8, Blk 34 o2.cells) :: (o2.L ++ (Lo ++ oblks os))) := by
            first
              | exact ⟨o, hk9, hs⟩
              | exact ⟨⟨o.kind, nn / 13 % 30 - 4, o.f, o.t, o.bv, o.gv, o.bs, o.gs, o.Lb, o.Lg⟩, hk9, hs⟩
          refine s_appendM (M := [_, _] ++ o2.L) (X := oblks os) El28 rfl rfl rfl hO (by simpa using hs2) (hs2.sl (k := 0) (ds := o2.cells) rfl (Nat.le_refl _) (by intro j u hj; rw [Nat.zero_add]; exact hj)) rfl (o2.one ho2) (by omega) ?_
          clear hs hs2; intro lv' w Lo' hO' hs
          refine s_assign rfl rfl ?_
          refine WL_nil ?_
          refine n_blk ?_
          refine n_then ?_
          refine W_region ?_
          refine s_move rfl rfl ?_
          first | (refine s_add' rfl rfl rfl ?hx ?_; case hx => (constructor <;> omega)) | refine s_add rfl rfl rfl ?_
          refine s_assign rfl rfl ?_
          refine WL_nil ?_
          refine n_loop ?_
          refine ⟨(i + 1, os ++ [o2], _, Lo'), ⟨rfl, rfl, rfl, rfl, trivial⟩, ⟨?_, ?_, ?_, ?_, ?_⟩, ?_⟩
          · rw [oblks_append]
            have h9 := St.reord [[_], [_], o2.L, Lo', oblks os] [3, 4, 2] [0, 1] (by simpa [cat] using hs) rfl
            simpa [cat, oblks] using h9
          · simp only [List.length_append, ocells_append]; simpa [ocells] using hO'
          · intro x hx
            rcases List.mem_append.1 hx with h | h
            · exact hok x h
            · simp at h; exact h ▸ ho2
          · simp [hil]
          · simp only; omega
          · simp only; omega
        · skip
          simp only [decide_eq_true_eq, decide_eq_false_iff_not, beq_iff_eq, beq_eq_false_iff_ne, ne_eq] at hc92
          refine W_skip ?_
          refine n_then ?_
          refine W_region ?_
          refine s_move rfl rfl ?_
          first
            | refine s_loadW Try.isAgg34 Try.sizeOf34 rfl rfl hs (kk := 0) rfl rfl ?_
            | refine s_loadW Try.isAgg34 Try.sizeOf34 rfl rfl hs (kk := 1) rfl rfl ?_
            | refine s_loadW Try.isAgg34 Try.sizeOf34 rfl rfl hs (kk := 2) rfl rfl ?_
            | refine s_loadW Try.isAgg34 Try.sizeOf34 rfl rfl hs (kk := 3) rfl rfl ?_
            | refine s_load_6 Try.isAgg34 Try.sizeOf34 rfl rfl (by first | exact hs.cell (k := 0) rfl rfl | exact hs.cell (k := 1) rfl rfl | exact hs.cell (k := 2) rfl rfl | exact hs.cell (k := 3) rfl rfl) (by first | exact hs.cell (k := 0) rfl rfl | exact hs.cell (k := 1) rfl rfl | exact hs.cell (k := 2) rfl rfl | exact hs.cell (k := 3) rfl rfl) (by first | exact hs.cell (k := 0) rfl rfl | exact hs.cell (k := 1) rfl rfl | exact hs.cell (k := 2) rfl rfl | exact hs.cell (k := 3) rfl rfl) (by first | exact hs.cell (k := 0) rfl rfl | exact hs.cell (k := 1) rfl rfl | exact hs.cell (k := 2) rfl rfl | exact hs.cell (k := 3) rfl rfl) (by first | exact hs.cell (k := 0) rfl rfl | exact hs.cell (k := 1) rfl rfl | exact hs.cell (k := 2) rfl rfl | exact hs.cell (k := 3) rfl rfl) (by first | exact hs.cell (k := 0) rfl rfl | exact hs.cell (k := 1) rfl rfl | exact hs.cell (k := 2) rfl rfl | exact hs.cell (k := 3) rfl rfl) ?_
          refine s_buildSlice rfl rfl (BS28_1 _ _ _ _ _ _) hs ?_; clear hs; intro b100 w hs
          obtain ⟨o2, ho2, hs2⟩ : ∃ o2 : ROp, o2.ok ∧ St [] w0 w ((b100, Blk 34 o2.cells) :: (b8, Blk 34 o2.cells) :: (o2.L ++ (Lo ++ oblks os))) := by
            first
              | exact ⟨o, hk9, hs⟩
              | exact ⟨⟨o.kind, nn / 13 % 30 - 4, o.f, o.t, o.bv, o.gv, o.bs, o.gs, o.Lb, o.Lg⟩, hk9, hs⟩
          refine s_appendM (M := [_, _] ++ o2.L) (X := oblks os) El28 rfl rfl rfl hO (by simpa using hs2) (hs2.sl (k := 0) (ds := o2.cells) rfl (Nat.le_refl _) (by intro j u hj; rw [Nat.zero_add]; exact hj)) rfl (o2.one ho2) (by omega) ?_
          clear hs hs2; intro lv' w Lo' hO' hs
          refine s_assign rfl rfl ?_
          refine WL_nil ?_
          refine n_blk ?_
          refine n_then ?_
          refine W_region ?_
          refine s_move rfl rfl ?_
          first | (refine s_add' rfl rfl rfl ?hx ?_; case hx => (constructor <;> omega)) | refine s_add rfl rfl rfl ?_
          refine s_assign rfl rfl ?_
          refine WL_nil ?_
          refine n_loop ?_
          refine ⟨(i + 1, os ++ [o2], _, Lo'), ⟨rfl, rfl, rfl, rfl, trivial⟩, ⟨?_, ?_, ?_, ?_, ?_⟩, ?_⟩
          · rw [oblks_append]
            have h9 := St.reord [[_], [_], o2.L, Lo', oblks os] [3, 4, 2] [0, 1] (by simpa [cat] using hs) rfl
            simpa [cat, oblks] using h9
          · simp only [List.length_append, ocells_append]; simpa [ocells] using hO'
          · intro x hx
            rcases List.mem_append.1 hx with h | h
            · exact hok x h
            · simp at h; exact h ▸ ho2
          · simp [hil]
          · simp only; omega
          · simp only; omega
    · skip
      simp only [decide_eq_true_eq, decide_eq_false_iff_not, beq_iff_eq, beq_eq_false_iff_ne, ne_eq] at hc17
      refine W_exit ?_
      refine x_then ?_
      refine x_then ?_
      refine exit_hit ?_
      refine n_then ?_
      refine W_seq ?_
      refine W_region ?_
      refine s_move rfl rfl ?_
      refine s_assign rfl rfl ?_
      refine WL_nil ?_
      refine n_then ?_
      refine W_ret ?_
      exact end1 rfl rfl ⟨os, Lo, hO, hok, by omega, hs⟩
  · skip
    simp only [decide_eq_true_eq, decide_eq_false_iff_not, beq_iff_eq, beq_eq_false_iff_ne, ne_eq] at hg14
    refine WL_skip rfl rfl rfl ?_
    refine WL_skip rfl rfl rfl ?_
    refine s_pick_f rfl rfl rfl ?_
    refine WL_nil ?_
    refine n_then ?_
    refine W_cond_f rfl ?_
    refine W_exit ?_
    refine x_then ?_
    refine x_then ?_
    refine exit_hit ?_
    refine n_then ?_
    refine W_seq ?_
    refine W_region ?_
    refine s_move rfl rfl ?_
    refine s_assign rfl rfl ?_
    refine WL_nil ?_
    refine n_then ?_
    refine W_ret ?_
    exact end1 rfl rfl ⟨os, Lo, hO, hok, by omega, hs⟩
end Go.Proofs.Ytgkdbiibbfipjaa
