/- The reference's generator of claims. -/
import Derived.Test.YtbcdnpjcbchbjaaDoorCoD
set_option linter.unusedVariables false
set_option linter.unusedSimpArgs false
namespace Go.Proofs.YtbcdnpjcbchbjaaDoor
open Go.SL
theorem wrap64 (z : Int) : isI64 (IntKind.i64.wrap z) := by
  unfold isI64; rw [wrapI64]; split <;> omega
theorem Cl.num_at (x : Cl) {i : Nat} (h : i < 4) : ([.int .i64 x.a, .int .i64 x.b, .int .i64 x.c, .int .i64 x.d] : List Value)[0 + ((i : Nat) : Int).toNat]? = some (.int .i64 (x.num i)) := by
  rw [Nat.zero_add, Int.toNat_natCast]
  match i, h with
  | 0, _ => rfl
  | 1, _ => rfl
  | 2, _ => rfl
  | 3, _ => rfl
theorem refEncodable_ok (x : Cl) (w0 : World) : Ret Tryd.prog 24 [.agg x.cells.toArray].toArray w0 fun r w' => Fwd [] w0 w' ∧ r = .bool (decide x.ok) := by
  refine Ret_start fun w hs => ?_
  refine Ret_of Tryd.func24 rfl Tryd.ntmps24 rfl ?_
  refine W_seq ?_
  refine W_region ?_
  first | refine s_box rfl rfl hs ?_ | refine s_box1 rfl rfl rfl hs ?_
  clear hs; intro b1 w hs
  refine s_assign rfl rfl ?_
  refine WL_nil ?_
  refine n_then ?_
  refine W_seq ?_
  refine W_region ?_
  refine s_fieldAddr rfl rfl (FA55_0 _ _) ?_
  first
    | refine s_load Tryd.isAgg3 rfl rfl (hs.cell (k := 0) rfl rfl) ?_
    | refine s_load Tryd.isAgg3 rfl rfl (hs.cell (k := 0) rfl (x.num_at (show i < 4 by omega))) ?_
  refine s_fieldAddr rfl rfl (FA55_1 _ _) ?_
  first
    | refine s_load Tryd.isAgg3 rfl rfl (hs.cell (k := 0) rfl rfl) ?_
    | refine s_load Tryd.isAgg3 rfl rfl (hs.cell (k := 0) rfl (x.num_at (show i < 4 by omega))) ?_
  refine s_fieldAddr rfl rfl (FA55_2 _ _) ?_
  first
    | refine s_load Tryd.isAgg3 rfl rfl (hs.cell (k := 0) rfl rfl) ?_
    | refine s_load Tryd.isAgg3 rfl rfl (hs.cell (k := 0) rfl (x.num_at (show i < 4 by omega))) ?_
  refine s_fieldAddr rfl rfl (FA55_3 _ _) ?_
  first
    | refine s_load Tryd.isAgg3 rfl rfl (hs.cell (k := 0) rfl rfl) ?_
    | refine s_load Tryd.isAgg3 rfl rfl (hs.cell (k := 0) rfl (x.num_at (show i < 4 by omega))) ?_
  refine s_buildSlice rfl rfl (BS22_4 _ _ _ _) hs ?_; clear hs; intro b13 w hs
  refine s_assign rfl rfl ?_
  refine WL_nil ?_
  refine n_then ?_
  refine W_seq ?_
  refine W_seq ?_
  refine W_region ?_
  refine s_assign rfl rfl ?_
  refine WL_nil ?_
  refine n_then ?_
  refine W_block ?_
  refine W_loop (σ := Nat) (fun s => [(3, .slice (some ⟨b13, 0, none⟩) 4 4), (4, .int .i64 (s : Int))]) (fun s w => St [] w0 w ((b13, Blk 3 [.int .i64 x.a, .int .i64 x.b, .int .i64 x.c, .int .i64 x.d]) :: [(b1, Blk 55 x.cells)]) ∧ s ≤ 4 ∧ ∀ j, j < s → inR (x.num j)) (fun s => 4 - s) 0 ⟨rfl, rfl, trivial⟩ ⟨hs, Nat.zero_le _, fun j hj => absurd hj (Nat.not_lt_zero _)⟩ ?_
  clear hs
  rintro i w ⟨hs, hi, hj⟩
  refine W_seq ?_
  refine W_seq ?_
  refine W_region ?_
  refine s_move rfl rfl ?_
  refine s_lss rfl rfl rfl ?_
  refine WL_nil ?_
  refine n_then ?_
  refine W_cond rfl (fun hc15 => ?_) (fun hc15 => ?_)
  · skip
    simp only [decide_eq_true_eq, decide_eq_false_iff_not] at hc15
    refine W_skip ?_
    refine n_then ?_
    refine W_seq ?_
    refine W_block ?_
    refine W_seq ?_
    refine W_region ?_
    refine s_move rfl rfl ?_
    refine s_move rfl rfl ?_
    (refine s_indexAddr1 El22 rfl rfl rfl ?hx ?_; case hx => (constructor <;> first | omega | (simp; omega)))
    first
      | refine s_load Tryd.isAgg3 rfl rfl (hs.cell (k := 0) rfl rfl) ?_
      | refine s_load Tryd.isAgg3 rfl rfl (hs.cell (k := 0) rfl (x.num_at (show i < 4 by omega))) ?_
    refine s_lss rfl rfl rfl ?_
    refine s_move rfl rfl ?_
    refine WL_case (s := 23) rfl (fun hg23 => ?_) (fun hg23 => ?_)
    · skip
      simp only [decide_eq_true_eq, decide_eq_false_iff_not] at hg23
      refine WL_skip rfl rfl rfl ?_
      refine WL_skip rfl rfl rfl ?_
      refine WL_skip rfl rfl rfl ?_
      refine WL_skip rfl rfl rfl ?_
      refine WL_skip rfl rfl rfl ?_
      refine s_pick_t rfl rfl rfl ?_
      refine WL_nil ?_
      refine n_then ?_
      refine W_cond_t rfl ?_
      refine W_seq ?_
      refine W_region ?_
      refine s_assign rfl rfl ?_
      refine WL_nil ?_
      refine n_then ?_
      refine W_ret ?_
      refine r_blk ?_
      refine r_then ?_
      refine r_then ?_
      refine r_blk ?_
      refine r_then ?_
      first
        | (refine end1 rfl rfl ⟨hs.tail.tail.fwd, ?_⟩
           have : x.ok := Cl.ok_num.2 fun j hj4 => hj j (by omega)
           rw [decide_eq_true this]; done)
        | (refine end1 rfl rfl ⟨hs.tail.tail.fwd, ?_⟩
           have : ¬ x.ok := fun h => by
             have := Cl.ok_num.1 h i (by omega)
             unfold inR at this; omega
           rw [decide_eq_false this])
    · skip
      simp only [decide_eq_true_eq, decide_eq_false_iff_not] at hg23
      refine WL_take rfl ?_
      refine s_move rfl rfl ?_
      refine WL_take rfl ?_
      refine s_move rfl rfl ?_
      refine WL_take rfl ?_
      (refine s_indexAddr1 El22 rfl rfl rfl ?hx ?_; case hx => (constructor <;> first | omega | (simp; omega)))
      refine WL_take rfl ?_
      first
        | refine s_load Tryd.isAgg3 rfl rfl (hs.cell (k := 0) rfl rfl) ?_
        | refine s_load Tryd.isAgg3 rfl rfl (hs.cell (k := 0) rfl (x.num_at (show i < 4 by omega))) ?_
      refine WL_take rfl ?_
      refine s_gtr rfl rfl rfl ?_
      refine s_pick_f rfl rfl rfl ?_
      refine WL_nil ?_
      refine n_then ?_
      refine W_cond rfl (fun hc29 => ?_) (fun hc29 => ?_)
      · skip
        simp only [decide_eq_true_eq, decide_eq_false_iff_not] at hc29
        refine W_seq ?_
        refine W_region ?_
        refine s_assign rfl rfl ?_
        refine WL_nil ?_
        refine n_then ?_
        refine W_ret ?_
        refine r_blk ?_
        refine r_then ?_
        refine r_then ?_
        refine r_blk ?_
        refine r_then ?_
        first
          | (refine end1 rfl rfl ⟨hs.tail.tail.fwd, ?_⟩
             have : x.ok := Cl.ok_num.2 fun j hj4 => hj j (by omega)
             rw [decide_eq_true this]; done)
          | (refine end1 rfl rfl ⟨hs.tail.tail.fwd, ?_⟩
             have : ¬ x.ok := fun h => by
               have := Cl.ok_num.1 h i (by omega)
               unfold inR at this; omega
             rw [decide_eq_false this])
      · skip
        simp only [decide_eq_true_eq, decide_eq_false_iff_not] at hc29
        refine W_skip ?_
        refine n_blk ?_
        refine n_then ?_
        refine W_region ?_
        refine s_move rfl rfl ?_
        first | (refine s_add' rfl rfl rfl ?hx ?_; case hx => (constructor <;> first | omega | (simp only; omega))) | refine s_add rfl rfl rfl ?_
        refine s_assign rfl rfl ?_
        refine WL_nil ?_
        refine n_loop ?_
        exact ⟨i + 1, ⟨rfl, rfl, trivial⟩, ⟨hs, by omega, fun j hji => by
          rcases Nat.lt_or_ge j i with h | h
          · exact hj j h
          · rw [show j = i by omega]; unfold inR; omega⟩, by omega⟩
  · skip
    simp only [decide_eq_true_eq, decide_eq_false_iff_not] at hc15
    refine W_exit ?_
    refine x_then ?_
    refine x_then ?_
    refine exit_hit ?_
    refine n_then ?_
    refine W_seq ?_
    refine W_region ?_
    refine s_assign rfl rfl ?_
    refine WL_nil ?_
    refine n_then ?_
    refine W_ret ?_
    first
      | (refine end1 rfl rfl ⟨hs.tail.tail.fwd, ?_⟩
         have : x.ok := Cl.ok_num.2 fun j hj4 => hj j (by omega)
         rw [decide_eq_true this]; done)
      | (refine end1 rfl rfl ⟨hs.tail.tail.fwd, ?_⟩
         have : ¬ x.ok := fun h => by
           have := Cl.ok_num.1 h i (by omega)
           unfold inR at this; omega
         rw [decide_eq_false this])
structure GcS where
  i : Nat
  v : Value
  x : Cl
  cl : List Cl
  Lc : Hp
set_option maxHeartbeats 2000000 in
theorem genClaims_ok (v : Value) (xs : List Int) (w0 : World) (hv : Sl w0 v xs.length (i64s xs)) (hx : ∀ z ∈ xs, isI64 z) (hl : xs.length ≤ 4611686018427387904) :
    Ret Tryd.prog 5 [v].toArray w0 fun r w' => ∃ cl Lr, OwnS 55 4 r cl.length (cls cl) Lr ∧ St [] w0 w' Lr ∧ (∀ x ∈ cl, x.ok) ∧ cl.length ≤ 9 := by
  obtain ⟨a, c, rfl, hc⟩ := hv.len_le
  refine Ret_start fun w hs => ?_
  refine Ret_of Tryd.func5 rfl Tryd.ntmps5 rfl ?_
  refine W_seq ?_
  refine W_region ?_
  refine s_assign rfl rfl ?_
  refine WL_nil ?_
  refine n_then ?_
  refine W_seq ?_
  refine W_region ?_
  refine s_assign rfl rfl ?_
  refine WL_nil ?_
  refine n_then ?_
  refine W_seq ?_
  refine W_region ?_
  refine s_build rfl rfl (BD55_ ) ?_
  refine s_alloc rfl AL55 hs ?_; clear hs; intro b4 w hs
  first
    | refine s_storeW Tryd.sizeOf55 rfl rfl rfl rfl hs (kk := 0) rfl rfl ?_
    | refine s_storeW Tryd.sizeOf55 rfl rfl rfl rfl hs (kk := 1) rfl rfl ?_
    | refine s_storeAB Tryd.sizeOf55 rfl rfl rfl rfl hs (kk := 0) rfl rfl ?_
    | refine s_storeAB Tryd.sizeOf55 rfl rfl rfl rfl hs (kk := 1) rfl rfl ?_
  clear hs; intro w hs; try simp only [List.set_cons_zero, List.set_cons_succ, splice, List.take_succ_cons, List.take_zero, List.drop_succ_cons, List.drop_zero, List.nil_append, List.cons_append, List.length_cons, List.length_nil, Nat.reduceAdd, List.append_assoc] at hs
  refine WL_nil ?_
  refine n_then ?_
  refine W_seq ?_
  refine W_seq ?_
  refine W_region ?_
  refine s_assign rfl rfl ?_
  refine WL_nil ?_
  refine n_then ?_
  refine W_block ?_
  refine W_loop (σ := GcS) (fun s => [(0, .slice a xs.length c), (3, s.v), (4, .pointer (some ⟨b4, 0, none⟩)), (5, .int .i64 (s.i : Int))])
    (fun s w => St [] w0 w ((b4, Blk 55 s.x.cells) :: s.Lc) ∧ OwnS 55 4 s.v s.cl.length (cls s.cl) s.Lc ∧ (∀ x ∈ s.cl, x.ok) ∧ s.cl.length ≤ 9 ∧ s.i ≤ xs.length) (fun s => xs.length - s.i) ⟨0, .slice none 0 0, .z, [], []⟩ ⟨rfl, rfl, rfl, rfl, trivial⟩ ⟨hs, OwnS.nil _ _, by simp, by simp, Nat.zero_le _⟩ ?_
  clear hs
  rintro ⟨i, v3, x, cl, Lc⟩ w ⟨hs, hO, hok, hcl, hi⟩
  simp only at hs hO hok hcl hi ⊢
  obtain ⟨_, c3, a3, rfl, hvl⟩ := hO.form
  subst hvl
  refine W_seq ?_
  refine W_seq ?_
  refine W_region ?_
  refine s_move rfl rfl ?_
  first | (refine s_add' rfl rfl rfl ?hx ?_; case hx => (constructor <;> first | omega | (simp only; omega))) | refine s_add rfl rfl rfl ?_
  refine s_move rfl rfl ?_
  refine s_len rfl rfl (LN22 _ _ _ _) ?_
  refine s_lss rfl rfl rfl ?_
  refine s_move rfl rfl ?_
  refine WL_case (s := 13) rfl (fun hg13 => ?_) (fun hg13 => ?_)
  · skip
    try simp only [decide_eq_true_eq, decide_eq_false_iff_not, beq_iff_eq, beq_eq_false_iff_ne, ne_eq] at hg13
    refine WL_take rfl ?_
    refine s_move rfl rfl ?_
    refine WL_take rfl ?_
    refine s_len rfl rfl (LN27 _ _ _ _) ?_
    refine WL_take rfl ?_
    refine s_lss rfl rfl rfl ?_
    refine s_pick_t rfl rfl rfl ?_
    refine WL_nil ?_
    refine n_then ?_
    refine W_cond rfl (fun hc17 => ?_) (fun hc17 => ?_)
    · skip
      try simp only [decide_eq_true_eq, decide_eq_false_iff_not, beq_iff_eq, beq_eq_false_iff_ne, ne_eq] at hc17
      have hi3 : i + 3 < xs.length := by omega
      have hmem : ∀ k, k < xs.length → isI64 (xs.getD k 0) := fun k hk => hx _ (by rw [List.getD_eq_getElem?_getD, List.getElem?_eq_getElem hk]; simp)
      obtain ⟨bx, ox, hA, -⟩ := hv.at (k := 0) (i64s_at' (show 0 < xs.length by omega))
      have hB : bx < w0.heap.size := by
        obtain ⟨b1, o1, h1, h2⟩ := hv.at (k := 0) (i64s_at' (show 0 < xs.length by omega))
        rw [hA] at h1; cases h1
        exact World.block_lt_of_cell? w0 _ h2
      have hcell : ∀ k, k < xs.length → w0.cell? ⟨bx, ox + ((k : Nat) : Int).toNat, none⟩ = some (.int .i64 (xs.getD k 0)) := fun k hk => by
        obtain ⟨b1, o1, h1, h2⟩ := hv.at (k := k) (i64s_at' hk)
        rw [hA] at h1; cases h1
        rw [Int.toNat_natCast]; exact h2
      have i1 : (i : Int) + 1 = ((i + 1 : Nat) : Int) := by omega
      have i2 : (i : Int) + 2 = ((i + 2 : Nat) : Int) := by omega
      have i3 : (i : Int) + 3 = ((i + 3 : Nat) : Int) := by omega
      refine W_skip ?_
      refine n_then ?_
      refine W_seq ?_
      refine W_block ?_
      refine W_seq ?_
      refine W_region ?_
      refine s_move rfl rfl ?_
      refine s_move rfl rfl ?_
      (refine s_indexAddrO El22 rfl rfl rfl hA ?hx ?_; case hx => (constructor <;> omega))
      first
        | refine s_load Tryd.isAgg3 rfl rfl (hs.cell (k := 0) rfl rfl) ?_
        | refine s_load Tryd.isAgg3 rfl rfl (hs.cell (k := 1) rfl rfl) ?_
        | refine s_load Tryd.isAgg3 rfl rfl ((hs.oldcell (a := ⟨bx, _, none⟩) hB (by simp)).trans (hcell i (by omega))) ?_
        | refine s_load Tryd.isAgg3 rfl rfl ((hs.oldcell (a := ⟨bx, _, none⟩) hB (by simp)).trans (hcell (i + 1) (by omega))) ?_
        | refine s_load Tryd.isAgg3 rfl rfl ((hs.oldcell (a := ⟨bx, _, none⟩) hB (by simp)).trans (hcell (i + 2) (by omega))) ?_
        | refine s_load Tryd.isAgg3 rfl rfl ((hs.oldcell (a := ⟨bx, _, none⟩) hB (by simp)).trans (hcell (i + 3) (by omega))) ?_
      (refine s_quo rfl rfl rfl ?hx ?_; case hx => omega)
      refine s_call Tryd.call10 rfl rfl (around_ok _ 38 w (by decide) (wrap64 _)) ?_
      rintro r w1 ⟨hw1, rfl⟩
      rw [hw1]; clear hw1 w1
      have hbig := aroundV_range (m := IntKind.i64.wrap ((xs.getD i 0).tdiv 8)) (q := 38) (by decide)
      generalize aroundV (IntKind.i64.wrap ((xs.getD i 0).tdiv 8)) 38 = big at hbig ⊢
      refine s_convert rfl rfl (CV3_56 _) ?_
      rw [IntWalk.u64_in _ (by omega)]
      refine s_assign rfl rfl ?_
      refine WL_nil ?_
      refine n_then ?_
      refine W_cut (σ := Cl) (fun _ => [(0, .slice a xs.length c), (3, .slice a3 cl.length c3), (4, .pointer (some ⟨b4, 0, none⟩)), (5, .int .i64 (i : Int))]) (fun y w => St [] w0 w ((b4, Blk 55 y.cells) :: Lc)) ?_ ?_
      · skip
        refine W_seq ?_
        refine W_region ?_
        refine s_move rfl rfl ?_
        refine s_move rfl rfl ?_
        (refine s_indexAddrO El22 rfl rfl rfl hA ?hx ?_; case hx => (constructor <;> omega))
        first
          | refine s_load Tryd.isAgg3 rfl rfl (hs.cell (k := 0) rfl rfl) ?_
          | refine s_load Tryd.isAgg3 rfl rfl (hs.cell (k := 1) rfl rfl) ?_
          | refine s_load Tryd.isAgg3 rfl rfl ((hs.oldcell (a := ⟨bx, _, none⟩) hB (by simp)).trans (hcell i (by omega))) ?_
          | refine s_load Tryd.isAgg3 rfl rfl ((hs.oldcell (a := ⟨bx, _, none⟩) hB (by simp)).trans (hcell (i + 1) (by omega))) ?_
          | refine s_load Tryd.isAgg3 rfl rfl ((hs.oldcell (a := ⟨bx, _, none⟩) hB (by simp)).trans (hcell (i + 2) (by omega))) ?_
          | refine s_load Tryd.isAgg3 rfl rfl ((hs.oldcell (a := ⟨bx, _, none⟩) hB (by simp)).trans (hcell (i + 3) (by omega))) ?_
        refine s_call Tryd.call10 rfl rfl (around_ok _ 8 w (by decide) (hmem i (by omega))) ?_
        rintro r w1 ⟨hw1, rfl⟩
        rw [hw1]; clear hw1 w1
        refine WL_nil ?_
        refine n_then ?_
        refine W_block ?_
        refine W_seq ?_
        refine W_region ?_
        refine s_eql rfl rfl rfl ?_
        refine s_assign rfl rfl ?_
        refine WL_nil ?_
        refine n_then ?_
        refine W_cond rfl (fun hc40 => ?_) (fun hc40 => ?_)
        · skip
          try simp only [decide_eq_true_eq, decide_eq_false_iff_not, beq_iff_eq, beq_eq_false_iff_ne, ne_eq] at hc40
          refine W_draw [(0, true, []), (1, true, []), (2, true, []), (3, true, []), (5, true, []), (6, true, []), (7, true, []), (8, true, []), (9, true, []), (11, true, []), (12, true, []), (13, true, []), (14, true, []), (15, true, []), (17, true, []), (18, true, []), (19, true, []), (20, true, []), (21, true, []), (4, false, [5, 6, 7, 8, 9, 11, 12, 13, 14, 15, 17, 18, 19, 20, 21]), (10, false, [11, 12, 13, 14, 15, 17, 18, 19, 20, 21]), (16, false, [17, 18, 19, 20, 21]), (22, false, []), (23, true, []), (24, false, [])] [[], [], [0, 1], [0, 1, 2], [0, 1, 2, 3], [], [], [6], [5, 6, 7], [5, 6, 7, 8], [0, 1, 2, 3, 4, 5, 6, 7, 8, 9], [], [], [12], [11, 12, 13], [11, 12, 13, 14], [0, 1, 2, 3, 4, 5, 6, 7, 8, 9, 10, 11, 12, 13, 14, 15], [], [], [18], [17, 18, 19], [17, 18, 19, 20], [0, 1, 2, 3, 4, 5, 6, 7, 8, 9, 10, 11, 12, 13, 14, 15, 16, 17, 18, 19, 20, 21], [0, 1, 2, 3, 4, 5, 6, 7, 8, 9, 10, 11, 12, 13, 14, 15, 16, 17, 18, 19, 20, 21, 22], [0, 1, 2, 3, 4, 5, 6, 7, 8, 9, 10, 11, 12, 13, 14, 15, 16, 17, 18, 19, 20, 21, 22, 23]] MX (by kernel_rfl) ?_
          intro w1 hw1 hw2 hw3 hw4; replace hs := hs.redrawn hw1 hw2 hw3 hw4; clear hw1 hw2 hw3 hw4
          obtain ⟨w, rfl⟩ : ∃ w : World, w = w1 := ⟨_, rfl⟩
          refine D_q rfl rfl ?_
          refine s_move rfl rfl ?_
          refine D_qn ?_
          refine D_q rfl rfl ?_
          refine s_move rfl rfl ?_
          refine D_qn ?_
          refine D_q rfl rfl ?_
          (refine s_indexAddrO El22 rfl rfl rfl hA ?hx ?_; case hx => (constructor <;> omega))
          refine D_qn ?_
          refine D_q rfl rfl ?_
          first
            | refine s_load Tryd.isAgg3 rfl rfl (hs.cell (k := 0) rfl rfl) ?_
            | refine s_load Tryd.isAgg3 rfl rfl (hs.cell (k := 1) rfl rfl) ?_
            | refine s_load Tryd.isAgg3 rfl rfl ((hs.oldcell (a := ⟨bx, _, none⟩) hB (by simp)).trans (hcell i (by omega))) ?_
            | refine s_load Tryd.isAgg3 rfl rfl ((hs.oldcell (a := ⟨bx, _, none⟩) hB (by simp)).trans (hcell (i + 1) (by omega))) ?_
            | refine s_load Tryd.isAgg3 rfl rfl ((hs.oldcell (a := ⟨bx, _, none⟩) hB (by simp)).trans (hcell (i + 2) (by omega))) ?_
            | refine s_load Tryd.isAgg3 rfl rfl ((hs.oldcell (a := ⟨bx, _, none⟩) hB (by simp)).trans (hcell (i + 3) (by omega))) ?_
          refine D_qn ?_
          refine D_q rfl rfl ?_
          refine s_move rfl rfl ?_
          refine D_qn ?_
          refine D_q rfl rfl ?_
          refine s_move rfl rfl ?_
          refine D_qn ?_
          refine D_q rfl rfl ?_
          (refine s_add' rfl rfl rfl ?hx ?_; case hx => (constructor <;> omega))
          rw [i1]
          refine D_qn ?_
          refine D_q rfl rfl ?_
          (refine s_indexAddrO El22 rfl rfl rfl hA ?hx ?_; case hx => (constructor <;> omega))
          refine D_qn ?_
          refine D_q rfl rfl ?_
          first
            | refine s_load Tryd.isAgg3 rfl rfl (hs.cell (k := 0) rfl rfl) ?_
            | refine s_load Tryd.isAgg3 rfl rfl (hs.cell (k := 1) rfl rfl) ?_
            | refine s_load Tryd.isAgg3 rfl rfl ((hs.oldcell (a := ⟨bx, _, none⟩) hB (by simp)).trans (hcell i (by omega))) ?_
            | refine s_load Tryd.isAgg3 rfl rfl ((hs.oldcell (a := ⟨bx, _, none⟩) hB (by simp)).trans (hcell (i + 1) (by omega))) ?_
            | refine s_load Tryd.isAgg3 rfl rfl ((hs.oldcell (a := ⟨bx, _, none⟩) hB (by simp)).trans (hcell (i + 2) (by omega))) ?_
            | refine s_load Tryd.isAgg3 rfl rfl ((hs.oldcell (a := ⟨bx, _, none⟩) hB (by simp)).trans (hcell (i + 3) (by omega))) ?_
          refine D_qn ?_
          refine D_q rfl rfl ?_
          refine s_move rfl rfl ?_
          refine D_qn ?_
          refine D_q rfl rfl ?_
          refine s_move rfl rfl ?_
          refine D_qn ?_
          refine D_q rfl rfl ?_
          (refine s_add' rfl rfl rfl ?hx ?_; case hx => (constructor <;> omega))
          rw [i2]
          refine D_qn ?_
          refine D_q rfl rfl ?_
          (refine s_indexAddrO El22 rfl rfl rfl hA ?hx ?_; case hx => (constructor <;> omega))
          refine D_qn ?_
          refine D_q rfl rfl ?_
          first
            | refine s_load Tryd.isAgg3 rfl rfl (hs.cell (k := 0) rfl rfl) ?_
            | refine s_load Tryd.isAgg3 rfl rfl (hs.cell (k := 1) rfl rfl) ?_
            | refine s_load Tryd.isAgg3 rfl rfl ((hs.oldcell (a := ⟨bx, _, none⟩) hB (by simp)).trans (hcell i (by omega))) ?_
            | refine s_load Tryd.isAgg3 rfl rfl ((hs.oldcell (a := ⟨bx, _, none⟩) hB (by simp)).trans (hcell (i + 1) (by omega))) ?_
            | refine s_load Tryd.isAgg3 rfl rfl ((hs.oldcell (a := ⟨bx, _, none⟩) hB (by simp)).trans (hcell (i + 2) (by omega))) ?_
            | refine s_load Tryd.isAgg3 rfl rfl ((hs.oldcell (a := ⟨bx, _, none⟩) hB (by simp)).trans (hcell (i + 3) (by omega))) ?_
          refine D_qn ?_
          refine D_q rfl rfl ?_
          refine s_move rfl rfl ?_
          refine D_qn ?_
          refine D_q rfl rfl ?_
          refine s_move rfl rfl ?_
          refine D_qn ?_
          refine D_q rfl rfl ?_
          (refine s_add' rfl rfl rfl ?hx ?_; case hx => (constructor <;> omega))
          rw [i3]
          refine D_qn ?_
          refine D_q rfl rfl ?_
          (refine s_indexAddrO El22 rfl rfl rfl hA ?hx ?_; case hx => (constructor <;> omega))
          refine D_qn ?_
          refine D_q rfl rfl ?_
          first
            | refine s_load Tryd.isAgg3 rfl rfl (hs.cell (k := 0) rfl rfl) ?_
            | refine s_load Tryd.isAgg3 rfl rfl (hs.cell (k := 1) rfl rfl) ?_
            | refine s_load Tryd.isAgg3 rfl rfl ((hs.oldcell (a := ⟨bx, _, none⟩) hB (by simp)).trans (hcell i (by omega))) ?_
            | refine s_load Tryd.isAgg3 rfl rfl ((hs.oldcell (a := ⟨bx, _, none⟩) hB (by simp)).trans (hcell (i + 1) (by omega))) ?_
            | refine s_load Tryd.isAgg3 rfl rfl ((hs.oldcell (a := ⟨bx, _, none⟩) hB (by simp)).trans (hcell (i + 2) (by omega))) ?_
            | refine s_load Tryd.isAgg3 rfl rfl ((hs.oldcell (a := ⟨bx, _, none⟩) hB (by simp)).trans (hcell (i + 3) (by omega))) ?_
          refine D_qn ?_
          refine D_e rfl ?_
          refine s_call Tryd.call23 rfl rfl (bound_ok _ 1099511627776 w (hmem i (by omega)) (by decide)) ?_
          rintro r w1 ⟨hw1, rfl⟩
          rw [hw1]; clear hw1 w1
          refine D_en ?re ?_
          case re =>
            refine Reks_cons rfl rfl rfl rfl ?_ ?_
            · skip
              refine s_move rfl rfl ?_
              exact Rek_end rfl
            refine Reks_cons rfl rfl rfl rfl ?_ ?_
            · skip
              refine s_move rfl rfl ?_
              exact Rek_end rfl
            refine Reks_cons rfl rfl rfl rfl ?_ ?_
            · skip
              (refine s_add' rfl rfl rfl ?hx ?_; case hx => (constructor <;> omega))
              rw [i1]
              exact Rek_end rfl
            refine Reks_cons rfl rfl rfl rfl ?_ ?_
            · skip
              (refine s_indexAddrO El22 rfl rfl rfl hA ?hx ?_; case hx => (constructor <;> omega))
              exact Rek_end rfl
            refine Reks_cons rfl rfl rfl rfl ?_ ?_
            · skip
              first
                | refine s_load Tryd.isAgg3 rfl rfl (hs.cell (k := 0) rfl rfl) ?_
                | refine s_load Tryd.isAgg3 rfl rfl (hs.cell (k := 1) rfl rfl) ?_
                | refine s_load Tryd.isAgg3 rfl rfl ((hs.oldcell (a := ⟨bx, _, none⟩) hB (by simp)).trans (hcell i (by omega))) ?_
                | refine s_load Tryd.isAgg3 rfl rfl ((hs.oldcell (a := ⟨bx, _, none⟩) hB (by simp)).trans (hcell (i + 1) (by omega))) ?_
                | refine s_load Tryd.isAgg3 rfl rfl ((hs.oldcell (a := ⟨bx, _, none⟩) hB (by simp)).trans (hcell (i + 2) (by omega))) ?_
                | refine s_load Tryd.isAgg3 rfl rfl ((hs.oldcell (a := ⟨bx, _, none⟩) hB (by simp)).trans (hcell (i + 3) (by omega))) ?_
              exact Rek_end rfl
            refine Reks_cons rfl rfl rfl rfl ?_ ?_
            · skip
              refine s_move rfl rfl ?_
              exact Rek_end rfl
            refine Reks_cons rfl rfl rfl rfl ?_ ?_
            · skip
              refine s_move rfl rfl ?_
              exact Rek_end rfl
            refine Reks_cons rfl rfl rfl rfl ?_ ?_
            · skip
              (refine s_add' rfl rfl rfl ?hx ?_; case hx => (constructor <;> omega))
              rw [i2]
              exact Rek_end rfl
            refine Reks_cons rfl rfl rfl rfl ?_ ?_
            · skip
              (refine s_indexAddrO El22 rfl rfl rfl hA ?hx ?_; case hx => (constructor <;> omega))
              exact Rek_end rfl
            refine Reks_cons rfl rfl rfl rfl ?_ ?_
            · skip
              first
                | refine s_load Tryd.isAgg3 rfl rfl (hs.cell (k := 0) rfl rfl) ?_
                | refine s_load Tryd.isAgg3 rfl rfl (hs.cell (k := 1) rfl rfl) ?_
                | refine s_load Tryd.isAgg3 rfl rfl ((hs.oldcell (a := ⟨bx, _, none⟩) hB (by simp)).trans (hcell i (by omega))) ?_
                | refine s_load Tryd.isAgg3 rfl rfl ((hs.oldcell (a := ⟨bx, _, none⟩) hB (by simp)).trans (hcell (i + 1) (by omega))) ?_
                | refine s_load Tryd.isAgg3 rfl rfl ((hs.oldcell (a := ⟨bx, _, none⟩) hB (by simp)).trans (hcell (i + 2) (by omega))) ?_
                | refine s_load Tryd.isAgg3 rfl rfl ((hs.oldcell (a := ⟨bx, _, none⟩) hB (by simp)).trans (hcell (i + 3) (by omega))) ?_
              exact Rek_end rfl
            refine Reks_cons rfl rfl rfl rfl ?_ ?_
            · skip
              refine s_move rfl rfl ?_
              exact Rek_end rfl
            refine Reks_cons rfl rfl rfl rfl ?_ ?_
            · skip
              refine s_move rfl rfl ?_
              exact Rek_end rfl
            refine Reks_cons rfl rfl rfl rfl ?_ ?_
            · skip
              (refine s_add' rfl rfl rfl ?hx ?_; case hx => (constructor <;> omega))
              rw [i3]
              exact Rek_end rfl
            refine Reks_cons rfl rfl rfl rfl ?_ ?_
            · skip
              (refine s_indexAddrO El22 rfl rfl rfl hA ?hx ?_; case hx => (constructor <;> omega))
              exact Rek_end rfl
            refine Reks_cons rfl rfl rfl rfl ?_ ?_
            · skip
              first
                | refine s_load Tryd.isAgg3 rfl rfl (hs.cell (k := 0) rfl rfl) ?_
                | refine s_load Tryd.isAgg3 rfl rfl (hs.cell (k := 1) rfl rfl) ?_
                | refine s_load Tryd.isAgg3 rfl rfl ((hs.oldcell (a := ⟨bx, _, none⟩) hB (by simp)).trans (hcell i (by omega))) ?_
                | refine s_load Tryd.isAgg3 rfl rfl ((hs.oldcell (a := ⟨bx, _, none⟩) hB (by simp)).trans (hcell (i + 1) (by omega))) ?_
                | refine s_load Tryd.isAgg3 rfl rfl ((hs.oldcell (a := ⟨bx, _, none⟩) hB (by simp)).trans (hcell (i + 2) (by omega))) ?_
                | refine s_load Tryd.isAgg3 rfl rfl ((hs.oldcell (a := ⟨bx, _, none⟩) hB (by simp)).trans (hcell (i + 3) (by omega))) ?_
              exact Rek_end rfl
            exact Reks_nil
          refine D_e rfl ?_
          refine s_call Tryd.call23 rfl rfl (bound_ok _ 1099511627776 w (hmem (i + 1) (by omega)) (by decide)) ?_
          rintro r w1 ⟨hw1, rfl⟩
          rw [hw1]; clear hw1 w1
          refine D_en ?re ?_
          case re =>
            refine Reks_cons rfl rfl rfl rfl ?_ ?_
            · skip
              refine s_move rfl rfl ?_
              exact Rek_end rfl
            refine Reks_cons rfl rfl rfl rfl ?_ ?_
            · skip
              refine s_move rfl rfl ?_
              exact Rek_end rfl
            refine Reks_cons rfl rfl rfl rfl ?_ ?_
            · skip
              (refine s_add' rfl rfl rfl ?hx ?_; case hx => (constructor <;> omega))
              rw [i2]
              exact Rek_end rfl
            refine Reks_cons rfl rfl rfl rfl ?_ ?_
            · skip
              (refine s_indexAddrO El22 rfl rfl rfl hA ?hx ?_; case hx => (constructor <;> omega))
              exact Rek_end rfl
            refine Reks_cons rfl rfl rfl rfl ?_ ?_
            · skip
              first
                | refine s_load Tryd.isAgg3 rfl rfl (hs.cell (k := 0) rfl rfl) ?_
                | refine s_load Tryd.isAgg3 rfl rfl (hs.cell (k := 1) rfl rfl) ?_
                | refine s_load Tryd.isAgg3 rfl rfl ((hs.oldcell (a := ⟨bx, _, none⟩) hB (by simp)).trans (hcell i (by omega))) ?_
                | refine s_load Tryd.isAgg3 rfl rfl ((hs.oldcell (a := ⟨bx, _, none⟩) hB (by simp)).trans (hcell (i + 1) (by omega))) ?_
                | refine s_load Tryd.isAgg3 rfl rfl ((hs.oldcell (a := ⟨bx, _, none⟩) hB (by simp)).trans (hcell (i + 2) (by omega))) ?_
                | refine s_load Tryd.isAgg3 rfl rfl ((hs.oldcell (a := ⟨bx, _, none⟩) hB (by simp)).trans (hcell (i + 3) (by omega))) ?_
              exact Rek_end rfl
            refine Reks_cons rfl rfl rfl rfl ?_ ?_
            · skip
              refine s_move rfl rfl ?_
              exact Rek_end rfl
            refine Reks_cons rfl rfl rfl rfl ?_ ?_
            · skip
              refine s_move rfl rfl ?_
              exact Rek_end rfl
            refine Reks_cons rfl rfl rfl rfl ?_ ?_
            · skip
              (refine s_add' rfl rfl rfl ?hx ?_; case hx => (constructor <;> omega))
              rw [i3]
              exact Rek_end rfl
            refine Reks_cons rfl rfl rfl rfl ?_ ?_
            · skip
              (refine s_indexAddrO El22 rfl rfl rfl hA ?hx ?_; case hx => (constructor <;> omega))
              exact Rek_end rfl
            refine Reks_cons rfl rfl rfl rfl ?_ ?_
            · skip
              first
                | refine s_load Tryd.isAgg3 rfl rfl (hs.cell (k := 0) rfl rfl) ?_
                | refine s_load Tryd.isAgg3 rfl rfl (hs.cell (k := 1) rfl rfl) ?_
                | refine s_load Tryd.isAgg3 rfl rfl ((hs.oldcell (a := ⟨bx, _, none⟩) hB (by simp)).trans (hcell i (by omega))) ?_
                | refine s_load Tryd.isAgg3 rfl rfl ((hs.oldcell (a := ⟨bx, _, none⟩) hB (by simp)).trans (hcell (i + 1) (by omega))) ?_
                | refine s_load Tryd.isAgg3 rfl rfl ((hs.oldcell (a := ⟨bx, _, none⟩) hB (by simp)).trans (hcell (i + 2) (by omega))) ?_
                | refine s_load Tryd.isAgg3 rfl rfl ((hs.oldcell (a := ⟨bx, _, none⟩) hB (by simp)).trans (hcell (i + 3) (by omega))) ?_
              exact Rek_end rfl
            exact Reks_nil
          refine D_e rfl ?_
          refine s_call Tryd.call23 rfl rfl (bound_ok _ 1099511627776 w (hmem (i + 2) (by omega)) (by decide)) ?_
          rintro r w1 ⟨hw1, rfl⟩
          rw [hw1]; clear hw1 w1
          refine D_en ?re ?_
          case re =>
            refine Reks_cons rfl rfl rfl rfl ?_ ?_
            · skip
              refine s_move rfl rfl ?_
              exact Rek_end rfl
            refine Reks_cons rfl rfl rfl rfl ?_ ?_
            · skip
              refine s_move rfl rfl ?_
              exact Rek_end rfl
            refine Reks_cons rfl rfl rfl rfl ?_ ?_
            · skip
              (refine s_add' rfl rfl rfl ?hx ?_; case hx => (constructor <;> omega))
              rw [i3]
              exact Rek_end rfl
            refine Reks_cons rfl rfl rfl rfl ?_ ?_
            · skip
              (refine s_indexAddrO El22 rfl rfl rfl hA ?hx ?_; case hx => (constructor <;> omega))
              exact Rek_end rfl
            refine Reks_cons rfl rfl rfl rfl ?_ ?_
            · skip
              first
                | refine s_load Tryd.isAgg3 rfl rfl (hs.cell (k := 0) rfl rfl) ?_
                | refine s_load Tryd.isAgg3 rfl rfl (hs.cell (k := 1) rfl rfl) ?_
                | refine s_load Tryd.isAgg3 rfl rfl ((hs.oldcell (a := ⟨bx, _, none⟩) hB (by simp)).trans (hcell i (by omega))) ?_
                | refine s_load Tryd.isAgg3 rfl rfl ((hs.oldcell (a := ⟨bx, _, none⟩) hB (by simp)).trans (hcell (i + 1) (by omega))) ?_
                | refine s_load Tryd.isAgg3 rfl rfl ((hs.oldcell (a := ⟨bx, _, none⟩) hB (by simp)).trans (hcell (i + 2) (by omega))) ?_
                | refine s_load Tryd.isAgg3 rfl rfl ((hs.oldcell (a := ⟨bx, _, none⟩) hB (by simp)).trans (hcell (i + 3) (by omega))) ?_
              exact Rek_end rfl
            exact Reks_nil
          refine D_e rfl ?_
          refine s_call Tryd.call23 rfl rfl (bound_ok _ 1099511627776 w (hmem (i + 3) (by omega)) (by decide)) ?_
          rintro r w1 ⟨hw1, rfl⟩
          rw [hw1]; clear hw1 w1
          refine D_en ?re ?_
          case re =>
            exact Reks_nil
          refine D_q rfl rfl ?_
          refine s_build rfl rfl (BD55_0_1_2_3 _ _ _ _) ?_
          refine D_qn ?_
          refine D_e rfl ?_
          first
            | refine s_storeW Tryd.sizeOf55 rfl rfl rfl rfl hs (kk := 0) rfl rfl ?_
            | refine s_storeW Tryd.sizeOf55 rfl rfl rfl rfl hs (kk := 1) rfl rfl ?_
            | refine s_storeAB Tryd.sizeOf55 rfl rfl rfl rfl hs (kk := 0) rfl rfl ?_
            | refine s_storeAB Tryd.sizeOf55 rfl rfl rfl rfl hs (kk := 1) rfl rfl ?_
          clear hs; intro w hs; try simp only [List.set_cons_zero, List.set_cons_succ, splice, List.take_succ_cons, List.take_zero, List.drop_succ_cons, List.drop_zero, List.nil_append, List.cons_append, List.length_cons, List.length_nil, Nat.reduceAdd, List.append_assoc] at hs
          refine D_en ?re ?_
          case re =>
            exact Reks_nil
          refine D_nil ?_
          refine n_blk ?_
          refine n_loop ?_
          exact ⟨⟨_, _, _, _⟩, ⟨rfl, rfl, rfl, rfl, trivial⟩, hs⟩
        · skip
          try simp only [decide_eq_true_eq, decide_eq_false_iff_not, beq_iff_eq, beq_eq_false_iff_ne, ne_eq] at hc40
          refine W_seq ?_
          refine W_region ?_
          refine s_eql rfl rfl rfl ?_
          refine s_assign rfl rfl ?_
          refine WL_nil ?_
          refine n_then ?_
          refine W_cond rfl (fun hc66 => ?_) (fun hc66 => ?_)
          · skip
            try simp only [decide_eq_true_eq, decide_eq_false_iff_not, beq_iff_eq, beq_eq_false_iff_ne, ne_eq] at hc66
            refine W_draw [(0, true, []), (1, true, []), (2, true, []), (3, true, []), (4, true, []), (5, true, []), (6, true, []), (7, true, []), (8, true, []), (11, true, []), (12, true, []), (13, true, []), (14, true, []), (15, true, []), (16, true, []), (17, true, []), (18, true, []), (9, false, [0, 1, 2, 3, 11, 12, 13, 14, 15, 16, 17, 18]), (10, true, []), (19, false, [0, 1, 2, 3, 11, 12, 13, 10]), (20, true, []), (21, false, [])] [[], [0], [], [2], [], [], [5], [4, 5, 6], [4, 5, 6, 7], [4, 5, 6, 7, 8], [2, 3, 4, 5, 6, 7, 8, 9], [], [11], [11, 12], [], [], [15], [14, 15, 16], [14, 15, 16, 17], [4, 5, 6, 7, 8, 9, 14, 15, 16, 17, 18], [0, 1, 2, 3, 4, 5, 6, 7, 8, 9, 10, 11, 12, 13, 14, 15, 16, 17, 18, 19], [0, 1, 2, 3, 4, 5, 6, 7, 8, 9, 10, 11, 12, 13, 14, 15, 16, 17, 18, 19, 20]] MX (by kernel_rfl) ?_
            intro w1 hw1 hw2 hw3 hw4; replace hs := hs.redrawn hw1 hw2 hw3 hw4; clear hw1 hw2 hw3 hw4
            obtain ⟨w, rfl⟩ : ∃ w : World, w = w1 := ⟨_, rfl⟩
            refine D_q rfl rfl ?_
            refine s_move rfl rfl ?_
            refine D_qn ?_
            refine D_q rfl rfl ?_
            (refine s_shl rfl rfl rfl ?hx ?_; case hx => omega)
            refine D_qn ?_
            refine D_q rfl rfl ?_
            refine s_move rfl rfl ?_
            refine D_qn ?_
            refine D_q rfl rfl ?_
            (refine s_shl rfl rfl rfl ?hx ?_; case hx => omega)
            refine D_qn ?_
            refine D_q rfl rfl ?_
            refine s_move rfl rfl ?_
            refine D_qn ?_
            refine D_q rfl rfl ?_
            refine s_move rfl rfl ?_
            refine D_qn ?_
            refine D_q rfl rfl ?_
            (refine s_add' rfl rfl rfl ?hx ?_; case hx => (constructor <;> omega))
            rw [i1]
            refine D_qn ?_
            refine D_q rfl rfl ?_
            (refine s_indexAddrO El22 rfl rfl rfl hA ?hx ?_; case hx => (constructor <;> omega))
            refine D_qn ?_
            refine D_q rfl rfl ?_
            first
              | refine s_load Tryd.isAgg3 rfl rfl (hs.cell (k := 0) rfl rfl) ?_
              | refine s_load Tryd.isAgg3 rfl rfl (hs.cell (k := 1) rfl rfl) ?_
              | refine s_load Tryd.isAgg3 rfl rfl ((hs.oldcell (a := ⟨bx, _, none⟩) hB (by simp)).trans (hcell i (by omega))) ?_
              | refine s_load Tryd.isAgg3 rfl rfl ((hs.oldcell (a := ⟨bx, _, none⟩) hB (by simp)).trans (hcell (i + 1) (by omega))) ?_
              | refine s_load Tryd.isAgg3 rfl rfl ((hs.oldcell (a := ⟨bx, _, none⟩) hB (by simp)).trans (hcell (i + 2) (by omega))) ?_
              | refine s_load Tryd.isAgg3 rfl rfl ((hs.oldcell (a := ⟨bx, _, none⟩) hB (by simp)).trans (hcell (i + 3) (by omega))) ?_
            refine D_qn ?_
            refine D_q rfl rfl ?_
            refine s_move rfl rfl ?_
            refine D_qn ?_
            refine D_q rfl rfl ?_
            (refine s_shl rfl rfl rfl ?hx ?_; case hx => omega)
            refine D_qn ?_
            refine D_q rfl rfl ?_
            first | (refine s_neg' rfl rfl ?hx ?_; case hx => omega) | refine s_neg rfl rfl ?_
            refine D_qn ?_
            refine D_q rfl rfl ?_
            refine s_move rfl rfl ?_
            refine D_qn ?_
            refine D_q rfl rfl ?_
            refine s_move rfl rfl ?_
            refine D_qn ?_
            refine D_q rfl rfl ?_
            (refine s_add' rfl rfl rfl ?hx ?_; case hx => (constructor <;> omega))
            rw [i3]
            refine D_qn ?_
            refine D_q rfl rfl ?_
            (refine s_indexAddrO El22 rfl rfl rfl hA ?hx ?_; case hx => (constructor <;> omega))
            refine D_qn ?_
            refine D_q rfl rfl ?_
            first
              | refine s_load Tryd.isAgg3 rfl rfl (hs.cell (k := 0) rfl rfl) ?_
              | refine s_load Tryd.isAgg3 rfl rfl (hs.cell (k := 1) rfl rfl) ?_
              | refine s_load Tryd.isAgg3 rfl rfl ((hs.oldcell (a := ⟨bx, _, none⟩) hB (by simp)).trans (hcell i (by omega))) ?_
              | refine s_load Tryd.isAgg3 rfl rfl ((hs.oldcell (a := ⟨bx, _, none⟩) hB (by simp)).trans (hcell (i + 1) (by omega))) ?_
              | refine s_load Tryd.isAgg3 rfl rfl ((hs.oldcell (a := ⟨bx, _, none⟩) hB (by simp)).trans (hcell (i + 2) (by omega))) ?_
              | refine s_load Tryd.isAgg3 rfl rfl ((hs.oldcell (a := ⟨bx, _, none⟩) hB (by simp)).trans (hcell (i + 3) (by omega))) ?_
            refine D_qn ?_
            refine D_e rfl ?_
            refine s_call Tryd.call10 rfl rfl (around_ok _ 40 w (by decide) (hmem (i + 1) (by omega))) ?_
            rintro r w1 ⟨hw1, rfl⟩
            rw [hw1]; clear hw1 w1
            refine D_en ?re ?_
            case re =>
              refine Reks_cons rfl rfl rfl rfl ?_ ?_
              · skip
                refine s_move rfl rfl ?_
                exact Rek_end rfl
              refine Reks_cons rfl rfl rfl rfl ?_ ?_
              · skip
                (refine s_shl rfl rfl rfl ?hx ?_; case hx => omega)
                exact Rek_end rfl
              refine Reks_cons rfl rfl rfl rfl ?_ ?_
              · skip
                refine s_move rfl rfl ?_
                exact Rek_end rfl
              refine Reks_cons rfl rfl rfl rfl ?_ ?_
              · skip
                (refine s_shl rfl rfl rfl ?hx ?_; case hx => omega)
                exact Rek_end rfl
              refine Reks_cons rfl rfl rfl rfl ?_ ?_
              · skip
                refine s_move rfl rfl ?_
                exact Rek_end rfl
              refine Reks_cons rfl rfl rfl rfl ?_ ?_
              · skip
                (refine s_shl rfl rfl rfl ?hx ?_; case hx => omega)
                exact Rek_end rfl
              refine Reks_cons rfl rfl rfl rfl ?_ ?_
              · skip
                first | (refine s_neg' rfl rfl ?hx ?_; case hx => omega) | refine s_neg rfl rfl ?_
                exact Rek_end rfl
              refine Reks_cons rfl rfl rfl rfl ?_ ?_
              · skip
                refine s_move rfl rfl ?_
                exact Rek_end rfl
              refine Reks_cons rfl rfl rfl rfl ?_ ?_
              · skip
                refine s_move rfl rfl ?_
                exact Rek_end rfl
              refine Reks_cons rfl rfl rfl rfl ?_ ?_
              · skip
                (refine s_add' rfl rfl rfl ?hx ?_; case hx => (constructor <;> omega))
                rw [i3]
                exact Rek_end rfl
              refine Reks_cons rfl rfl rfl rfl ?_ ?_
              · skip
                (refine s_indexAddrO El22 rfl rfl rfl hA ?hx ?_; case hx => (constructor <;> omega))
                exact Rek_end rfl
              refine Reks_cons rfl rfl rfl rfl ?_ ?_
              · skip
                first
                  | refine s_load Tryd.isAgg3 rfl rfl (hs.cell (k := 0) rfl rfl) ?_
                  | refine s_load Tryd.isAgg3 rfl rfl (hs.cell (k := 1) rfl rfl) ?_
                  | refine s_load Tryd.isAgg3 rfl rfl ((hs.oldcell (a := ⟨bx, _, none⟩) hB (by simp)).trans (hcell i (by omega))) ?_
                  | refine s_load Tryd.isAgg3 rfl rfl ((hs.oldcell (a := ⟨bx, _, none⟩) hB (by simp)).trans (hcell (i + 1) (by omega))) ?_
                  | refine s_load Tryd.isAgg3 rfl rfl ((hs.oldcell (a := ⟨bx, _, none⟩) hB (by simp)).trans (hcell (i + 2) (by omega))) ?_
                  | refine s_load Tryd.isAgg3 rfl rfl ((hs.oldcell (a := ⟨bx, _, none⟩) hB (by simp)).trans (hcell (i + 3) (by omega))) ?_
                exact Rek_end rfl
              exact Reks_nil
            refine D_q rfl rfl ?_
            refine s_add rfl rfl rfl ?_
            refine D_qn ?_
            refine D_e rfl ?_
            refine s_call Tryd.call23 rfl rfl (bound_ok _ 300 w (hmem (i + 3) (by omega)) (by decide)) ?_
            rintro r w1 ⟨hw1, rfl⟩
            rw [hw1]; clear hw1 w1
            refine D_en ?re ?_
            case re =>
              refine Reks_cons rfl rfl rfl rfl ?_ ?_
              · skip
                refine s_move rfl rfl ?_
                exact Rek_end rfl
              refine Reks_cons rfl rfl rfl rfl ?_ ?_
              · skip
                (refine s_shl rfl rfl rfl ?hx ?_; case hx => omega)
                exact Rek_end rfl
              refine Reks_cons rfl rfl rfl rfl ?_ ?_
              · skip
                refine s_move rfl rfl ?_
                exact Rek_end rfl
              refine Reks_cons rfl rfl rfl rfl ?_ ?_
              · skip
                (refine s_shl rfl rfl rfl ?hx ?_; case hx => omega)
                exact Rek_end rfl
              refine Reks_cons rfl rfl rfl rfl ?_ ?_
              · skip
                refine s_move rfl rfl ?_
                exact Rek_end rfl
              refine Reks_cons rfl rfl rfl rfl ?_ ?_
              · skip
                (refine s_shl rfl rfl rfl ?hx ?_; case hx => omega)
                exact Rek_end rfl
              refine Reks_cons rfl rfl rfl rfl ?_ ?_
              · skip
                first | (refine s_neg' rfl rfl ?hx ?_; case hx => omega) | refine s_neg rfl rfl ?_
                exact Rek_end rfl
              refine Reks_cons rfl rfl rfl rfl ?_ ?_
              · skip
                refine s_add rfl rfl rfl ?_
                exact Rek_end rfl
              exact Reks_nil
            refine D_q rfl rfl ?_
            refine s_build rfl rfl (BD55_0_1_2_3 _ _ _ _) ?_
            refine D_qn ?_
            refine D_e rfl ?_
            first
              | refine s_storeW Tryd.sizeOf55 rfl rfl rfl rfl hs (kk := 0) rfl rfl ?_
              | refine s_storeW Tryd.sizeOf55 rfl rfl rfl rfl hs (kk := 1) rfl rfl ?_
              | refine s_storeAB Tryd.sizeOf55 rfl rfl rfl rfl hs (kk := 0) rfl rfl ?_
              | refine s_storeAB Tryd.sizeOf55 rfl rfl rfl rfl hs (kk := 1) rfl rfl ?_
            clear hs; intro w hs; try simp only [List.set_cons_zero, List.set_cons_succ, splice, List.take_succ_cons, List.take_zero, List.drop_succ_cons, List.drop_zero, List.nil_append, List.cons_append, List.length_cons, List.length_nil, Nat.reduceAdd, List.append_assoc] at hs
            refine D_en ?re ?_
            case re =>
              exact Reks_nil
            refine D_nil ?_
            refine n_blk ?_
            refine n_loop ?_
            exact ⟨⟨_, _, _, _⟩, ⟨rfl, rfl, rfl, rfl, trivial⟩, hs⟩
          · skip
            try simp only [decide_eq_true_eq, decide_eq_false_iff_not, beq_iff_eq, beq_eq_false_iff_ne, ne_eq] at hc66
            refine W_seq ?_
            refine W_seq ?_
            refine W_region ?_
            refine s_eql rfl rfl rfl ?_
            refine s_assign rfl rfl ?_
            refine WL_nil ?_
            refine n_then ?_
            refine W_cond rfl (fun hc89 => ?_) (fun hc89 => ?_)
            · skip
              try simp only [decide_eq_true_eq, decide_eq_false_iff_not, beq_iff_eq, beq_eq_false_iff_ne, ne_eq] at hc89
              refine W_skip ?_
              refine n_then ?_
              refine W_cond rfl (fun hc89 => ?_) (fun hc89 => ?_)
              · skip
                try simp only [decide_eq_true_eq, decide_eq_false_iff_not, beq_iff_eq, beq_eq_false_iff_ne, ne_eq] at hc89
                refine W_seq ?_
                refine W_draw [(0, true, []), (1, true, []), (2, true, []), (3, true, []), (4, true, []), (5, true, []), (6, true, []), (7, false, [0, 1]), (8, true, []), (9, true, []), (10, false, [])] [[], [0], [], [], [3], [2, 3, 4], [2, 3, 4, 5], [2, 3, 4, 5, 6], [0, 1, 2, 3, 4, 5, 6, 7], [0, 1, 2, 3, 4, 5, 6, 7, 8], [0, 1, 2, 3, 4, 5, 6, 7, 8, 9]] MX (by kernel_rfl) ?_
                intro w1 hw1 hw2 hw3 hw4; replace hs := hs.redrawn hw1 hw2 hw3 hw4; clear hw1 hw2 hw3 hw4
                obtain ⟨w, rfl⟩ : ∃ w : World, w = w1 := ⟨_, rfl⟩
                refine D_q rfl rfl ?_
                refine s_fieldAddr rfl rfl (FA55_0 _ _) ?_
                refine D_qn ?_
                refine D_q rfl rfl ?_
                first
                  | refine s_load Tryd.isAgg3 rfl rfl (hs.cell (k := 0) rfl rfl) ?_
                  | refine s_load Tryd.isAgg3 rfl rfl (hs.cell (k := 1) rfl rfl) ?_
                  | refine s_load Tryd.isAgg3 rfl rfl ((hs.oldcell (a := ⟨bx, _, none⟩) hB (by simp)).trans (hcell i (by omega))) ?_
                  | refine s_load Tryd.isAgg3 rfl rfl ((hs.oldcell (a := ⟨bx, _, none⟩) hB (by simp)).trans (hcell (i + 1) (by omega))) ?_
                  | refine s_load Tryd.isAgg3 rfl rfl ((hs.oldcell (a := ⟨bx, _, none⟩) hB (by simp)).trans (hcell (i + 2) (by omega))) ?_
                  | refine s_load Tryd.isAgg3 rfl rfl ((hs.oldcell (a := ⟨bx, _, none⟩) hB (by simp)).trans (hcell (i + 3) (by omega))) ?_
                refine D_qn ?_
                refine D_q rfl rfl ?_
                refine s_move rfl rfl ?_
                refine D_qn ?_
                refine D_q rfl rfl ?_
                refine s_move rfl rfl ?_
                refine D_qn ?_
                refine D_q rfl rfl ?_
                (refine s_add' rfl rfl rfl ?hx ?_; case hx => (constructor <;> omega))
                rw [i1]
                refine D_qn ?_
                refine D_q rfl rfl ?_
                (refine s_indexAddrO El22 rfl rfl rfl hA ?hx ?_; case hx => (constructor <;> omega))
                refine D_qn ?_
                refine D_q rfl rfl ?_
                first
                  | refine s_load Tryd.isAgg3 rfl rfl (hs.cell (k := 0) rfl rfl) ?_
                  | refine s_load Tryd.isAgg3 rfl rfl (hs.cell (k := 1) rfl rfl) ?_
                  | refine s_load Tryd.isAgg3 rfl rfl ((hs.oldcell (a := ⟨bx, _, none⟩) hB (by simp)).trans (hcell i (by omega))) ?_
                  | refine s_load Tryd.isAgg3 rfl rfl ((hs.oldcell (a := ⟨bx, _, none⟩) hB (by simp)).trans (hcell (i + 1) (by omega))) ?_
                  | refine s_load Tryd.isAgg3 rfl rfl ((hs.oldcell (a := ⟨bx, _, none⟩) hB (by simp)).trans (hcell (i + 2) (by omega))) ?_
                  | refine s_load Tryd.isAgg3 rfl rfl ((hs.oldcell (a := ⟨bx, _, none⟩) hB (by simp)).trans (hcell (i + 3) (by omega))) ?_
                refine D_qn ?_
                refine D_e rfl ?_
                refine s_call Tryd.call10 rfl rfl (around_ok _ 20 w (by decide) (hmem (i + 1) (by omega))) ?_
                rintro r w1 ⟨hw1, rfl⟩
                rw [hw1]; clear hw1 w1
                refine D_en ?re ?_
                case re =>
                  refine Reks_cons rfl rfl rfl rfl ?_ ?_
                  · skip
                    refine s_fieldAddr rfl rfl (FA55_0 _ _) ?_
                    exact Rek_end rfl
                  refine Reks_cons rfl rfl rfl rfl ?_ ?_
                  · skip
                    first
                      | refine s_load Tryd.isAgg3 rfl rfl (hs.cell (k := 0) rfl rfl) ?_
                      | refine s_load Tryd.isAgg3 rfl rfl (hs.cell (k := 1) rfl rfl) ?_
                      | refine s_load Tryd.isAgg3 rfl rfl ((hs.oldcell (a := ⟨bx, _, none⟩) hB (by simp)).trans (hcell i (by omega))) ?_
                      | refine s_load Tryd.isAgg3 rfl rfl ((hs.oldcell (a := ⟨bx, _, none⟩) hB (by simp)).trans (hcell (i + 1) (by omega))) ?_
                      | refine s_load Tryd.isAgg3 rfl rfl ((hs.oldcell (a := ⟨bx, _, none⟩) hB (by simp)).trans (hcell (i + 2) (by omega))) ?_
                      | refine s_load Tryd.isAgg3 rfl rfl ((hs.oldcell (a := ⟨bx, _, none⟩) hB (by simp)).trans (hcell (i + 3) (by omega))) ?_
                    exact Rek_end rfl
                  exact Reks_nil
                refine D_q rfl rfl ?_
                refine s_add rfl rfl rfl ?_
                refine D_qn ?_
                refine D_q rfl rfl ?_
                refine s_fieldAddr rfl rfl (FA55_0 _ _) ?_
                refine D_qn ?_
                refine D_e rfl ?_
                first
                  | refine s_storeB Tryd.sizeOf3 rfl rfl rfl hs (kk := 0) rfl rfl ?_
                  | refine s_storeB Tryd.sizeOf3 rfl rfl rfl hs (kk := 1) rfl rfl ?_
                clear hs; intro w hs; try simp only [List.set_cons_zero, List.set_cons_succ, splice, List.take_succ_cons, List.take_zero, List.drop_succ_cons, List.drop_zero, List.nil_append, List.cons_append, List.length_cons, List.length_nil, Nat.reduceAdd, List.append_assoc] at hs
                refine D_en ?re ?_
                case re =>
                  exact Reks_nil
                refine D_nil ?_
                refine n_then ?_
                refine W_seq ?_
                refine W_draw [(0, true, []), (1, true, []), (2, true, []), (3, true, []), (4, true, []), (5, true, []), (6, true, []), (7, false, [0, 1]), (8, true, []), (9, true, []), (10, false, [])] [[], [0], [], [], [3], [2, 3, 4], [2, 3, 4, 5], [2, 3, 4, 5, 6], [0, 1, 2, 3, 4, 5, 6, 7], [0, 1, 2, 3, 4, 5, 6, 7, 8], [0, 1, 2, 3, 4, 5, 6, 7, 8, 9]] MX (by kernel_rfl) ?_
                intro w1 hw1 hw2 hw3 hw4; replace hs := hs.redrawn hw1 hw2 hw3 hw4; clear hw1 hw2 hw3 hw4
                obtain ⟨w, rfl⟩ : ∃ w : World, w = w1 := ⟨_, rfl⟩
                refine D_q rfl rfl ?_
                refine s_fieldAddr rfl rfl (FA55_0 _ _) ?_
                refine D_qn ?_
                refine D_q rfl rfl ?_
                first
                  | refine s_load Tryd.isAgg3 rfl rfl (hs.cell (k := 0) rfl rfl) ?_
                  | refine s_load Tryd.isAgg3 rfl rfl (hs.cell (k := 1) rfl rfl) ?_
                  | refine s_load Tryd.isAgg3 rfl rfl ((hs.oldcell (a := ⟨bx, _, none⟩) hB (by simp)).trans (hcell i (by omega))) ?_
                  | refine s_load Tryd.isAgg3 rfl rfl ((hs.oldcell (a := ⟨bx, _, none⟩) hB (by simp)).trans (hcell (i + 1) (by omega))) ?_
                  | refine s_load Tryd.isAgg3 rfl rfl ((hs.oldcell (a := ⟨bx, _, none⟩) hB (by simp)).trans (hcell (i + 2) (by omega))) ?_
                  | refine s_load Tryd.isAgg3 rfl rfl ((hs.oldcell (a := ⟨bx, _, none⟩) hB (by simp)).trans (hcell (i + 3) (by omega))) ?_
                refine D_qn ?_
                refine D_q rfl rfl ?_
                refine s_move rfl rfl ?_
                refine D_qn ?_
                refine D_q rfl rfl ?_
                refine s_move rfl rfl ?_
                refine D_qn ?_
                refine D_q rfl rfl ?_
                (refine s_add' rfl rfl rfl ?hx ?_; case hx => (constructor <;> omega))
                rw [i2]
                refine D_qn ?_
                refine D_q rfl rfl ?_
                (refine s_indexAddrO El22 rfl rfl rfl hA ?hx ?_; case hx => (constructor <;> omega))
                refine D_qn ?_
                refine D_q rfl rfl ?_
                first
                  | refine s_load Tryd.isAgg3 rfl rfl (hs.cell (k := 0) rfl rfl) ?_
                  | refine s_load Tryd.isAgg3 rfl rfl (hs.cell (k := 1) rfl rfl) ?_
                  | refine s_load Tryd.isAgg3 rfl rfl ((hs.oldcell (a := ⟨bx, _, none⟩) hB (by simp)).trans (hcell i (by omega))) ?_
                  | refine s_load Tryd.isAgg3 rfl rfl ((hs.oldcell (a := ⟨bx, _, none⟩) hB (by simp)).trans (hcell (i + 1) (by omega))) ?_
                  | refine s_load Tryd.isAgg3 rfl rfl ((hs.oldcell (a := ⟨bx, _, none⟩) hB (by simp)).trans (hcell (i + 2) (by omega))) ?_
                  | refine s_load Tryd.isAgg3 rfl rfl ((hs.oldcell (a := ⟨bx, _, none⟩) hB (by simp)).trans (hcell (i + 3) (by omega))) ?_
                refine D_qn ?_
                refine D_e rfl ?_
                refine s_call Tryd.call10 rfl rfl (around_ok _ 3 w (by decide) (hmem (i + 2) (by omega))) ?_
                rintro r w1 ⟨hw1, rfl⟩
                rw [hw1]; clear hw1 w1
                refine D_en ?re ?_
                case re =>
                  refine Reks_cons rfl rfl rfl rfl ?_ ?_
                  · skip
                    refine s_fieldAddr rfl rfl (FA55_0 _ _) ?_
                    exact Rek_end rfl
                  refine Reks_cons rfl rfl rfl rfl ?_ ?_
                  · skip
                    first
                      | refine s_load Tryd.isAgg3 rfl rfl (hs.cell (k := 0) rfl rfl) ?_
                      | refine s_load Tryd.isAgg3 rfl rfl (hs.cell (k := 1) rfl rfl) ?_
                      | refine s_load Tryd.isAgg3 rfl rfl ((hs.oldcell (a := ⟨bx, _, none⟩) hB (by simp)).trans (hcell i (by omega))) ?_
                      | refine s_load Tryd.isAgg3 rfl rfl ((hs.oldcell (a := ⟨bx, _, none⟩) hB (by simp)).trans (hcell (i + 1) (by omega))) ?_
                      | refine s_load Tryd.isAgg3 rfl rfl ((hs.oldcell (a := ⟨bx, _, none⟩) hB (by simp)).trans (hcell (i + 2) (by omega))) ?_
                      | refine s_load Tryd.isAgg3 rfl rfl ((hs.oldcell (a := ⟨bx, _, none⟩) hB (by simp)).trans (hcell (i + 3) (by omega))) ?_
                    exact Rek_end rfl
                  exact Reks_nil
                refine D_q rfl rfl ?_
                refine s_add rfl rfl rfl ?_
                refine D_qn ?_
                refine D_q rfl rfl ?_
                refine s_fieldAddr rfl rfl (FA55_1 _ _) ?_
                refine D_qn ?_
                refine D_e rfl ?_
                first
                  | refine s_storeB Tryd.sizeOf3 rfl rfl rfl hs (kk := 0) rfl rfl ?_
                  | refine s_storeB Tryd.sizeOf3 rfl rfl rfl hs (kk := 1) rfl rfl ?_
                clear hs; intro w hs; try simp only [List.set_cons_zero, List.set_cons_succ, splice, List.take_succ_cons, List.take_zero, List.drop_succ_cons, List.drop_zero, List.nil_append, List.cons_append, List.length_cons, List.length_nil, Nat.reduceAdd, List.append_assoc] at hs
                refine D_en ?re ?_
                case re =>
                  exact Reks_nil
                refine D_nil ?_
                refine n_then ?_
                refine W_draw [(0, true, []), (1, true, []), (2, true, []), (3, true, []), (4, true, []), (5, true, []), (6, true, []), (7, false, [0, 1]), (8, true, []), (9, true, []), (10, false, [])] [[], [0], [], [], [3], [2, 3, 4], [2, 3, 4, 5], [2, 3, 4, 5, 6], [0, 1, 2, 3, 4, 5, 6, 7], [0, 1, 2, 3, 4, 5, 6, 7, 8], [0, 1, 2, 3, 4, 5, 6, 7, 8, 9]] MX (by kernel_rfl) ?_
                intro w1 hw1 hw2 hw3 hw4; replace hs := hs.redrawn hw1 hw2 hw3 hw4; clear hw1 hw2 hw3 hw4
                obtain ⟨w, rfl⟩ : ∃ w : World, w = w1 := ⟨_, rfl⟩
                refine D_q rfl rfl ?_
                refine s_fieldAddr rfl rfl (FA55_2 _ _) ?_
                refine D_qn ?_
                refine D_q rfl rfl ?_
                first
                  | refine s_load Tryd.isAgg3 rfl rfl (hs.cell (k := 0) rfl rfl) ?_
                  | refine s_load Tryd.isAgg3 rfl rfl (hs.cell (k := 1) rfl rfl) ?_
                  | refine s_load Tryd.isAgg3 rfl rfl ((hs.oldcell (a := ⟨bx, _, none⟩) hB (by simp)).trans (hcell i (by omega))) ?_
                  | refine s_load Tryd.isAgg3 rfl rfl ((hs.oldcell (a := ⟨bx, _, none⟩) hB (by simp)).trans (hcell (i + 1) (by omega))) ?_
                  | refine s_load Tryd.isAgg3 rfl rfl ((hs.oldcell (a := ⟨bx, _, none⟩) hB (by simp)).trans (hcell (i + 2) (by omega))) ?_
                  | refine s_load Tryd.isAgg3 rfl rfl ((hs.oldcell (a := ⟨bx, _, none⟩) hB (by simp)).trans (hcell (i + 3) (by omega))) ?_
                refine D_qn ?_
                refine D_q rfl rfl ?_
                refine s_move rfl rfl ?_
                refine D_qn ?_
                refine D_q rfl rfl ?_
                refine s_move rfl rfl ?_
                refine D_qn ?_
                refine D_q rfl rfl ?_
                (refine s_add' rfl rfl rfl ?hx ?_; case hx => (constructor <;> omega))
                rw [i3]
                refine D_qn ?_
                refine D_q rfl rfl ?_
                (refine s_indexAddrO El22 rfl rfl rfl hA ?hx ?_; case hx => (constructor <;> omega))
                refine D_qn ?_
                refine D_q rfl rfl ?_
                first
                  | refine s_load Tryd.isAgg3 rfl rfl (hs.cell (k := 0) rfl rfl) ?_
                  | refine s_load Tryd.isAgg3 rfl rfl (hs.cell (k := 1) rfl rfl) ?_
                  | refine s_load Tryd.isAgg3 rfl rfl ((hs.oldcell (a := ⟨bx, _, none⟩) hB (by simp)).trans (hcell i (by omega))) ?_
                  | refine s_load Tryd.isAgg3 rfl rfl ((hs.oldcell (a := ⟨bx, _, none⟩) hB (by simp)).trans (hcell (i + 1) (by omega))) ?_
                  | refine s_load Tryd.isAgg3 rfl rfl ((hs.oldcell (a := ⟨bx, _, none⟩) hB (by simp)).trans (hcell (i + 2) (by omega))) ?_
                  | refine s_load Tryd.isAgg3 rfl rfl ((hs.oldcell (a := ⟨bx, _, none⟩) hB (by simp)).trans (hcell (i + 3) (by omega))) ?_
                refine D_qn ?_
                refine D_e rfl ?_
                refine s_call Tryd.call10 rfl rfl (around_ok _ 9 w (by decide) (hmem (i + 3) (by omega))) ?_
                rintro r w1 ⟨hw1, rfl⟩
                rw [hw1]; clear hw1 w1
                refine D_en ?re ?_
                case re =>
                  refine Reks_cons rfl rfl rfl rfl ?_ ?_
                  · skip
                    refine s_fieldAddr rfl rfl (FA55_2 _ _) ?_
                    exact Rek_end rfl
                  refine Reks_cons rfl rfl rfl rfl ?_ ?_
                  · skip
                    first
                      | refine s_load Tryd.isAgg3 rfl rfl (hs.cell (k := 0) rfl rfl) ?_
                      | refine s_load Tryd.isAgg3 rfl rfl (hs.cell (k := 1) rfl rfl) ?_
                      | refine s_load Tryd.isAgg3 rfl rfl ((hs.oldcell (a := ⟨bx, _, none⟩) hB (by simp)).trans (hcell i (by omega))) ?_
                      | refine s_load Tryd.isAgg3 rfl rfl ((hs.oldcell (a := ⟨bx, _, none⟩) hB (by simp)).trans (hcell (i + 1) (by omega))) ?_
                      | refine s_load Tryd.isAgg3 rfl rfl ((hs.oldcell (a := ⟨bx, _, none⟩) hB (by simp)).trans (hcell (i + 2) (by omega))) ?_
                      | refine s_load Tryd.isAgg3 rfl rfl ((hs.oldcell (a := ⟨bx, _, none⟩) hB (by simp)).trans (hcell (i + 3) (by omega))) ?_
                    exact Rek_end rfl
                  exact Reks_nil
                refine D_q rfl rfl ?_
                refine s_add rfl rfl rfl ?_
                refine D_qn ?_
                refine D_q rfl rfl ?_
                refine s_fieldAddr rfl rfl (FA55_3 _ _) ?_
                refine D_qn ?_
                refine D_e rfl ?_
                first
                  | refine s_storeB Tryd.sizeOf3 rfl rfl rfl hs (kk := 0) rfl rfl ?_
                  | refine s_storeB Tryd.sizeOf3 rfl rfl rfl hs (kk := 1) rfl rfl ?_
                clear hs; intro w hs; try simp only [List.set_cons_zero, List.set_cons_succ, splice, List.take_succ_cons, List.take_zero, List.drop_succ_cons, List.drop_zero, List.nil_append, List.cons_append, List.length_cons, List.length_nil, Nat.reduceAdd, List.append_assoc] at hs
                refine D_en ?re ?_
                case re =>
                  exact Reks_nil
                refine D_nil ?_
                refine n_blk ?_
                refine n_loop ?_
                exact ⟨⟨_, _, _, _⟩, ⟨rfl, rfl, rfl, rfl, trivial⟩, hs⟩
              · skip
                try simp only [decide_eq_true_eq, decide_eq_false_iff_not, beq_iff_eq, beq_eq_false_iff_ne, ne_eq] at hc89
                refine W_seq ?_
                refine W_region ?_
                refine s_fieldAddr rfl rfl (FA55_0 _ _) ?_
                first
                  | refine s_load Tryd.isAgg3 rfl rfl (hs.cell (k := 0) rfl rfl) ?_
                  | refine s_load Tryd.isAgg3 rfl rfl (hs.cell (k := 1) rfl rfl) ?_
                  | refine s_load Tryd.isAgg3 rfl rfl ((hs.oldcell (a := ⟨bx, _, none⟩) hB (by simp)).trans (hcell i (by omega))) ?_
                  | refine s_load Tryd.isAgg3 rfl rfl ((hs.oldcell (a := ⟨bx, _, none⟩) hB (by simp)).trans (hcell (i + 1) (by omega))) ?_
                  | refine s_load Tryd.isAgg3 rfl rfl ((hs.oldcell (a := ⟨bx, _, none⟩) hB (by simp)).trans (hcell (i + 2) (by omega))) ?_
                  | refine s_load Tryd.isAgg3 rfl rfl ((hs.oldcell (a := ⟨bx, _, none⟩) hB (by simp)).trans (hcell (i + 3) (by omega))) ?_
                refine s_add rfl rfl rfl ?_
                refine s_fieldAddr rfl rfl (FA55_0 _ _) ?_
                first
                  | refine s_storeB Tryd.sizeOf3 rfl rfl rfl hs (kk := 0) rfl rfl ?_
                  | refine s_storeB Tryd.sizeOf3 rfl rfl rfl hs (kk := 1) rfl rfl ?_
                clear hs; intro w hs; try simp only [List.set_cons_zero, List.set_cons_succ, splice, List.take_succ_cons, List.take_zero, List.drop_succ_cons, List.drop_zero, List.nil_append, List.cons_append, List.length_cons, List.length_nil, Nat.reduceAdd, List.append_assoc] at hs
                refine WL_nil ?_
                refine n_then ?_
                refine W_region ?_
                refine s_fieldAddr rfl rfl (FA55_1 _ _) ?_
                first
                  | refine s_load Tryd.isAgg3 rfl rfl (hs.cell (k := 0) rfl rfl) ?_
                  | refine s_load Tryd.isAgg3 rfl rfl (hs.cell (k := 1) rfl rfl) ?_
                  | refine s_load Tryd.isAgg3 rfl rfl ((hs.oldcell (a := ⟨bx, _, none⟩) hB (by simp)).trans (hcell i (by omega))) ?_
                  | refine s_load Tryd.isAgg3 rfl rfl ((hs.oldcell (a := ⟨bx, _, none⟩) hB (by simp)).trans (hcell (i + 1) (by omega))) ?_
                  | refine s_load Tryd.isAgg3 rfl rfl ((hs.oldcell (a := ⟨bx, _, none⟩) hB (by simp)).trans (hcell (i + 2) (by omega))) ?_
                  | refine s_load Tryd.isAgg3 rfl rfl ((hs.oldcell (a := ⟨bx, _, none⟩) hB (by simp)).trans (hcell (i + 3) (by omega))) ?_
                refine s_add rfl rfl rfl ?_
                refine s_fieldAddr rfl rfl (FA55_1 _ _) ?_
                first
                  | refine s_storeB Tryd.sizeOf3 rfl rfl rfl hs (kk := 0) rfl rfl ?_
                  | refine s_storeB Tryd.sizeOf3 rfl rfl rfl hs (kk := 1) rfl rfl ?_
                clear hs; intro w hs; try simp only [List.set_cons_zero, List.set_cons_succ, splice, List.take_succ_cons, List.take_zero, List.drop_succ_cons, List.drop_zero, List.nil_append, List.cons_append, List.length_cons, List.length_nil, Nat.reduceAdd, List.append_assoc] at hs
                refine WL_nil ?_
                refine n_blk ?_
                refine n_loop ?_
                exact ⟨⟨_, _, _, _⟩, ⟨rfl, rfl, rfl, rfl, trivial⟩, hs⟩
            · skip
              try simp only [decide_eq_true_eq, decide_eq_false_iff_not, beq_iff_eq, beq_eq_false_iff_ne, ne_eq] at hc89
              refine W_region ?_
              refine s_eql rfl rfl rfl ?_
              refine s_assign rfl rfl ?_
              refine WL_nil ?_
              refine n_then ?_
              refine W_cond rfl (fun hc89 => ?_) (fun hc89 => ?_)
              · skip
                try simp only [decide_eq_true_eq, decide_eq_false_iff_not, beq_iff_eq, beq_eq_false_iff_ne, ne_eq] at hc89
                refine W_seq ?_
                refine W_draw [(0, true, []), (1, true, []), (2, true, []), (3, true, []), (4, true, []), (5, true, []), (6, true, []), (7, false, [0, 1]), (8, true, []), (9, true, []), (10, false, [])] [[], [0], [], [], [3], [2, 3, 4], [2, 3, 4, 5], [2, 3, 4, 5, 6], [0, 1, 2, 3, 4, 5, 6, 7], [0, 1, 2, 3, 4, 5, 6, 7, 8], [0, 1, 2, 3, 4, 5, 6, 7, 8, 9]] MX (by kernel_rfl) ?_
                intro w1 hw1 hw2 hw3 hw4; replace hs := hs.redrawn hw1 hw2 hw3 hw4; clear hw1 hw2 hw3 hw4
                obtain ⟨w, rfl⟩ : ∃ w : World, w = w1 := ⟨_, rfl⟩
                refine D_q rfl rfl ?_
                refine s_fieldAddr rfl rfl (FA55_0 _ _) ?_
                refine D_qn ?_
                refine D_q rfl rfl ?_
                first
                  | refine s_load Tryd.isAgg3 rfl rfl (hs.cell (k := 0) rfl rfl) ?_
                  | refine s_load Tryd.isAgg3 rfl rfl (hs.cell (k := 1) rfl rfl) ?_
                  | refine s_load Tryd.isAgg3 rfl rfl ((hs.oldcell (a := ⟨bx, _, none⟩) hB (by simp)).trans (hcell i (by omega))) ?_
                  | refine s_load Tryd.isAgg3 rfl rfl ((hs.oldcell (a := ⟨bx, _, none⟩) hB (by simp)).trans (hcell (i + 1) (by omega))) ?_
                  | refine s_load Tryd.isAgg3 rfl rfl ((hs.oldcell (a := ⟨bx, _, none⟩) hB (by simp)).trans (hcell (i + 2) (by omega))) ?_
                  | refine s_load Tryd.isAgg3 rfl rfl ((hs.oldcell (a := ⟨bx, _, none⟩) hB (by simp)).trans (hcell (i + 3) (by omega))) ?_
                refine D_qn ?_
                refine D_q rfl rfl ?_
                refine s_move rfl rfl ?_
                refine D_qn ?_
                refine D_q rfl rfl ?_
                refine s_move rfl rfl ?_
                refine D_qn ?_
                refine D_q rfl rfl ?_
                (refine s_add' rfl rfl rfl ?hx ?_; case hx => (constructor <;> omega))
                rw [i1]
                refine D_qn ?_
                refine D_q rfl rfl ?_
                (refine s_indexAddrO El22 rfl rfl rfl hA ?hx ?_; case hx => (constructor <;> omega))
                refine D_qn ?_
                refine D_q rfl rfl ?_
                first
                  | refine s_load Tryd.isAgg3 rfl rfl (hs.cell (k := 0) rfl rfl) ?_
                  | refine s_load Tryd.isAgg3 rfl rfl (hs.cell (k := 1) rfl rfl) ?_
                  | refine s_load Tryd.isAgg3 rfl rfl ((hs.oldcell (a := ⟨bx, _, none⟩) hB (by simp)).trans (hcell i (by omega))) ?_
                  | refine s_load Tryd.isAgg3 rfl rfl ((hs.oldcell (a := ⟨bx, _, none⟩) hB (by simp)).trans (hcell (i + 1) (by omega))) ?_
                  | refine s_load Tryd.isAgg3 rfl rfl ((hs.oldcell (a := ⟨bx, _, none⟩) hB (by simp)).trans (hcell (i + 2) (by omega))) ?_
                  | refine s_load Tryd.isAgg3 rfl rfl ((hs.oldcell (a := ⟨bx, _, none⟩) hB (by simp)).trans (hcell (i + 3) (by omega))) ?_
                refine D_qn ?_
                refine D_e rfl ?_
                refine s_call Tryd.call10 rfl rfl (around_ok _ 20 w (by decide) (hmem (i + 1) (by omega))) ?_
                rintro r w1 ⟨hw1, rfl⟩
                rw [hw1]; clear hw1 w1
                refine D_en ?re ?_
                case re =>
                  refine Reks_cons rfl rfl rfl rfl ?_ ?_
                  · skip
                    refine s_fieldAddr rfl rfl (FA55_0 _ _) ?_
                    exact Rek_end rfl
                  refine Reks_cons rfl rfl rfl rfl ?_ ?_
                  · skip
                    first
                      | refine s_load Tryd.isAgg3 rfl rfl (hs.cell (k := 0) rfl rfl) ?_
                      | refine s_load Tryd.isAgg3 rfl rfl (hs.cell (k := 1) rfl rfl) ?_
                      | refine s_load Tryd.isAgg3 rfl rfl ((hs.oldcell (a := ⟨bx, _, none⟩) hB (by simp)).trans (hcell i (by omega))) ?_
                      | refine s_load Tryd.isAgg3 rfl rfl ((hs.oldcell (a := ⟨bx, _, none⟩) hB (by simp)).trans (hcell (i + 1) (by omega))) ?_
                      | refine s_load Tryd.isAgg3 rfl rfl ((hs.oldcell (a := ⟨bx, _, none⟩) hB (by simp)).trans (hcell (i + 2) (by omega))) ?_
                      | refine s_load Tryd.isAgg3 rfl rfl ((hs.oldcell (a := ⟨bx, _, none⟩) hB (by simp)).trans (hcell (i + 3) (by omega))) ?_
                    exact Rek_end rfl
                  exact Reks_nil
                refine D_q rfl rfl ?_
                refine s_add rfl rfl rfl ?_
                refine D_qn ?_
                refine D_q rfl rfl ?_
                refine s_fieldAddr rfl rfl (FA55_0 _ _) ?_
                refine D_qn ?_
                refine D_e rfl ?_
                first
                  | refine s_storeB Tryd.sizeOf3 rfl rfl rfl hs (kk := 0) rfl rfl ?_
                  | refine s_storeB Tryd.sizeOf3 rfl rfl rfl hs (kk := 1) rfl rfl ?_
                clear hs; intro w hs; try simp only [List.set_cons_zero, List.set_cons_succ, splice, List.take_succ_cons, List.take_zero, List.drop_succ_cons, List.drop_zero, List.nil_append, List.cons_append, List.length_cons, List.length_nil, Nat.reduceAdd, List.append_assoc] at hs
                refine D_en ?re ?_
                case re =>
                  exact Reks_nil
                refine D_nil ?_
                refine n_then ?_
                refine W_seq ?_
                refine W_draw [(0, true, []), (1, true, []), (2, true, []), (3, true, []), (4, true, []), (5, true, []), (6, true, []), (7, false, [0, 1]), (8, true, []), (9, true, []), (10, false, [])] [[], [0], [], [], [3], [2, 3, 4], [2, 3, 4, 5], [2, 3, 4, 5, 6], [0, 1, 2, 3, 4, 5, 6, 7], [0, 1, 2, 3, 4, 5, 6, 7, 8], [0, 1, 2, 3, 4, 5, 6, 7, 8, 9]] MX (by kernel_rfl) ?_
                intro w1 hw1 hw2 hw3 hw4; replace hs := hs.redrawn hw1 hw2 hw3 hw4; clear hw1 hw2 hw3 hw4
                obtain ⟨w, rfl⟩ : ∃ w : World, w = w1 := ⟨_, rfl⟩
                refine D_q rfl rfl ?_
                refine s_fieldAddr rfl rfl (FA55_0 _ _) ?_
                refine D_qn ?_
                refine D_q rfl rfl ?_
                first
                  | refine s_load Tryd.isAgg3 rfl rfl (hs.cell (k := 0) rfl rfl) ?_
                  | refine s_load Tryd.isAgg3 rfl rfl (hs.cell (k := 1) rfl rfl) ?_
                  | refine s_load Tryd.isAgg3 rfl rfl ((hs.oldcell (a := ⟨bx, _, none⟩) hB (by simp)).trans (hcell i (by omega))) ?_
                  | refine s_load Tryd.isAgg3 rfl rfl ((hs.oldcell (a := ⟨bx, _, none⟩) hB (by simp)).trans (hcell (i + 1) (by omega))) ?_
                  | refine s_load Tryd.isAgg3 rfl rfl ((hs.oldcell (a := ⟨bx, _, none⟩) hB (by simp)).trans (hcell (i + 2) (by omega))) ?_
                  | refine s_load Tryd.isAgg3 rfl rfl ((hs.oldcell (a := ⟨bx, _, none⟩) hB (by simp)).trans (hcell (i + 3) (by omega))) ?_
                refine D_qn ?_
                refine D_q rfl rfl ?_
                refine s_move rfl rfl ?_
                refine D_qn ?_
                refine D_q rfl rfl ?_
                refine s_move rfl rfl ?_
                refine D_qn ?_
                refine D_q rfl rfl ?_
                (refine s_add' rfl rfl rfl ?hx ?_; case hx => (constructor <;> omega))
                rw [i2]
                refine D_qn ?_
                refine D_q rfl rfl ?_
                (refine s_indexAddrO El22 rfl rfl rfl hA ?hx ?_; case hx => (constructor <;> omega))
                refine D_qn ?_
                refine D_q rfl rfl ?_
                first
                  | refine s_load Tryd.isAgg3 rfl rfl (hs.cell (k := 0) rfl rfl) ?_
                  | refine s_load Tryd.isAgg3 rfl rfl (hs.cell (k := 1) rfl rfl) ?_
                  | refine s_load Tryd.isAgg3 rfl rfl ((hs.oldcell (a := ⟨bx, _, none⟩) hB (by simp)).trans (hcell i (by omega))) ?_
                  | refine s_load Tryd.isAgg3 rfl rfl ((hs.oldcell (a := ⟨bx, _, none⟩) hB (by simp)).trans (hcell (i + 1) (by omega))) ?_
                  | refine s_load Tryd.isAgg3 rfl rfl ((hs.oldcell (a := ⟨bx, _, none⟩) hB (by simp)).trans (hcell (i + 2) (by omega))) ?_
                  | refine s_load Tryd.isAgg3 rfl rfl ((hs.oldcell (a := ⟨bx, _, none⟩) hB (by simp)).trans (hcell (i + 3) (by omega))) ?_
                refine D_qn ?_
                refine D_e rfl ?_
                refine s_call Tryd.call10 rfl rfl (around_ok _ 3 w (by decide) (hmem (i + 2) (by omega))) ?_
                rintro r w1 ⟨hw1, rfl⟩
                rw [hw1]; clear hw1 w1
                refine D_en ?re ?_
                case re =>
                  refine Reks_cons rfl rfl rfl rfl ?_ ?_
                  · skip
                    refine s_fieldAddr rfl rfl (FA55_0 _ _) ?_
                    exact Rek_end rfl
                  refine Reks_cons rfl rfl rfl rfl ?_ ?_
                  · skip
                    first
                      | refine s_load Tryd.isAgg3 rfl rfl (hs.cell (k := 0) rfl rfl) ?_
                      | refine s_load Tryd.isAgg3 rfl rfl (hs.cell (k := 1) rfl rfl) ?_
                      | refine s_load Tryd.isAgg3 rfl rfl ((hs.oldcell (a := ⟨bx, _, none⟩) hB (by simp)).trans (hcell i (by omega))) ?_
                      | refine s_load Tryd.isAgg3 rfl rfl ((hs.oldcell (a := ⟨bx, _, none⟩) hB (by simp)).trans (hcell (i + 1) (by omega))) ?_
                      | refine s_load Tryd.isAgg3 rfl rfl ((hs.oldcell (a := ⟨bx, _, none⟩) hB (by simp)).trans (hcell (i + 2) (by omega))) ?_
                      | refine s_load Tryd.isAgg3 rfl rfl ((hs.oldcell (a := ⟨bx, _, none⟩) hB (by simp)).trans (hcell (i + 3) (by omega))) ?_
                    exact Rek_end rfl
                  exact Reks_nil
                refine D_q rfl rfl ?_
                refine s_add rfl rfl rfl ?_
                refine D_qn ?_
                refine D_q rfl rfl ?_
                refine s_fieldAddr rfl rfl (FA55_1 _ _) ?_
                refine D_qn ?_
                refine D_e rfl ?_
                first
                  | refine s_storeB Tryd.sizeOf3 rfl rfl rfl hs (kk := 0) rfl rfl ?_
                  | refine s_storeB Tryd.sizeOf3 rfl rfl rfl hs (kk := 1) rfl rfl ?_
                clear hs; intro w hs; try simp only [List.set_cons_zero, List.set_cons_succ, splice, List.take_succ_cons, List.take_zero, List.drop_succ_cons, List.drop_zero, List.nil_append, List.cons_append, List.length_cons, List.length_nil, Nat.reduceAdd, List.append_assoc] at hs
                refine D_en ?re ?_
                case re =>
                  exact Reks_nil
                refine D_nil ?_
                refine n_then ?_
                refine W_draw [(0, true, []), (1, true, []), (2, true, []), (3, true, []), (4, true, []), (5, true, []), (6, true, []), (7, false, [0, 1]), (8, true, []), (9, true, []), (10, false, [])] [[], [0], [], [], [3], [2, 3, 4], [2, 3, 4, 5], [2, 3, 4, 5, 6], [0, 1, 2, 3, 4, 5, 6, 7], [0, 1, 2, 3, 4, 5, 6, 7, 8], [0, 1, 2, 3, 4, 5, 6, 7, 8, 9]] MX (by kernel_rfl) ?_
                intro w1 hw1 hw2 hw3 hw4; replace hs := hs.redrawn hw1 hw2 hw3 hw4; clear hw1 hw2 hw3 hw4
                obtain ⟨w, rfl⟩ : ∃ w : World, w = w1 := ⟨_, rfl⟩
                refine D_q rfl rfl ?_
                refine s_fieldAddr rfl rfl (FA55_2 _ _) ?_
                refine D_qn ?_
                refine D_q rfl rfl ?_
                first
                  | refine s_load Tryd.isAgg3 rfl rfl (hs.cell (k := 0) rfl rfl) ?_
                  | refine s_load Tryd.isAgg3 rfl rfl (hs.cell (k := 1) rfl rfl) ?_
                  | refine s_load Tryd.isAgg3 rfl rfl ((hs.oldcell (a := ⟨bx, _, none⟩) hB (by simp)).trans (hcell i (by omega))) ?_
                  | refine s_load Tryd.isAgg3 rfl rfl ((hs.oldcell (a := ⟨bx, _, none⟩) hB (by simp)).trans (hcell (i + 1) (by omega))) ?_
                  | refine s_load Tryd.isAgg3 rfl rfl ((hs.oldcell (a := ⟨bx, _, none⟩) hB (by simp)).trans (hcell (i + 2) (by omega))) ?_
                  | refine s_load Tryd.isAgg3 rfl rfl ((hs.oldcell (a := ⟨bx, _, none⟩) hB (by simp)).trans (hcell (i + 3) (by omega))) ?_
                refine D_qn ?_
                refine D_q rfl rfl ?_
                refine s_move rfl rfl ?_
                refine D_qn ?_
                refine D_q rfl rfl ?_
                refine s_move rfl rfl ?_
                refine D_qn ?_
                refine D_q rfl rfl ?_
                (refine s_add' rfl rfl rfl ?hx ?_; case hx => (constructor <;> omega))
                rw [i3]
                refine D_qn ?_
                refine D_q rfl rfl ?_
                (refine s_indexAddrO El22 rfl rfl rfl hA ?hx ?_; case hx => (constructor <;> omega))
                refine D_qn ?_
                refine D_q rfl rfl ?_
                first
                  | refine s_load Tryd.isAgg3 rfl rfl (hs.cell (k := 0) rfl rfl) ?_
                  | refine s_load Tryd.isAgg3 rfl rfl (hs.cell (k := 1) rfl rfl) ?_
                  | refine s_load Tryd.isAgg3 rfl rfl ((hs.oldcell (a := ⟨bx, _, none⟩) hB (by simp)).trans (hcell i (by omega))) ?_
                  | refine s_load Tryd.isAgg3 rfl rfl ((hs.oldcell (a := ⟨bx, _, none⟩) hB (by simp)).trans (hcell (i + 1) (by omega))) ?_
                  | refine s_load Tryd.isAgg3 rfl rfl ((hs.oldcell (a := ⟨bx, _, none⟩) hB (by simp)).trans (hcell (i + 2) (by omega))) ?_
                  | refine s_load Tryd.isAgg3 rfl rfl ((hs.oldcell (a := ⟨bx, _, none⟩) hB (by simp)).trans (hcell (i + 3) (by omega))) ?_
                refine D_qn ?_
                refine D_e rfl ?_
                refine s_call Tryd.call10 rfl rfl (around_ok _ 9 w (by decide) (hmem (i + 3) (by omega))) ?_
                rintro r w1 ⟨hw1, rfl⟩
                rw [hw1]; clear hw1 w1
                refine D_en ?re ?_
                case re =>
                  refine Reks_cons rfl rfl rfl rfl ?_ ?_
                  · skip
                    refine s_fieldAddr rfl rfl (FA55_2 _ _) ?_
                    exact Rek_end rfl
                  refine Reks_cons rfl rfl rfl rfl ?_ ?_
                  · skip
                    first
                      | refine s_load Tryd.isAgg3 rfl rfl (hs.cell (k := 0) rfl rfl) ?_
                      | refine s_load Tryd.isAgg3 rfl rfl (hs.cell (k := 1) rfl rfl) ?_
                      | refine s_load Tryd.isAgg3 rfl rfl ((hs.oldcell (a := ⟨bx, _, none⟩) hB (by simp)).trans (hcell i (by omega))) ?_
                      | refine s_load Tryd.isAgg3 rfl rfl ((hs.oldcell (a := ⟨bx, _, none⟩) hB (by simp)).trans (hcell (i + 1) (by omega))) ?_
                      | refine s_load Tryd.isAgg3 rfl rfl ((hs.oldcell (a := ⟨bx, _, none⟩) hB (by simp)).trans (hcell (i + 2) (by omega))) ?_
                      | refine s_load Tryd.isAgg3 rfl rfl ((hs.oldcell (a := ⟨bx, _, none⟩) hB (by simp)).trans (hcell (i + 3) (by omega))) ?_
                    exact Rek_end rfl
                  exact Reks_nil
                refine D_q rfl rfl ?_
                refine s_add rfl rfl rfl ?_
                refine D_qn ?_
                refine D_q rfl rfl ?_
                refine s_fieldAddr rfl rfl (FA55_3 _ _) ?_
                refine D_qn ?_
                refine D_e rfl ?_
                first
                  | refine s_storeB Tryd.sizeOf3 rfl rfl rfl hs (kk := 0) rfl rfl ?_
                  | refine s_storeB Tryd.sizeOf3 rfl rfl rfl hs (kk := 1) rfl rfl ?_
                clear hs; intro w hs; try simp only [List.set_cons_zero, List.set_cons_succ, splice, List.take_succ_cons, List.take_zero, List.drop_succ_cons, List.drop_zero, List.nil_append, List.cons_append, List.length_cons, List.length_nil, Nat.reduceAdd, List.append_assoc] at hs
                refine D_en ?re ?_
                case re =>
                  exact Reks_nil
                refine D_nil ?_
                refine n_blk ?_
                refine n_loop ?_
                exact ⟨⟨_, _, _, _⟩, ⟨rfl, rfl, rfl, rfl, trivial⟩, hs⟩
              · skip
                try simp only [decide_eq_true_eq, decide_eq_false_iff_not, beq_iff_eq, beq_eq_false_iff_ne, ne_eq] at hc89
                refine W_seq ?_
                refine W_region ?_
                refine s_fieldAddr rfl rfl (FA55_0 _ _) ?_
                first
                  | refine s_load Tryd.isAgg3 rfl rfl (hs.cell (k := 0) rfl rfl) ?_
                  | refine s_load Tryd.isAgg3 rfl rfl (hs.cell (k := 1) rfl rfl) ?_
                  | refine s_load Tryd.isAgg3 rfl rfl ((hs.oldcell (a := ⟨bx, _, none⟩) hB (by simp)).trans (hcell i (by omega))) ?_
                  | refine s_load Tryd.isAgg3 rfl rfl ((hs.oldcell (a := ⟨bx, _, none⟩) hB (by simp)).trans (hcell (i + 1) (by omega))) ?_
                  | refine s_load Tryd.isAgg3 rfl rfl ((hs.oldcell (a := ⟨bx, _, none⟩) hB (by simp)).trans (hcell (i + 2) (by omega))) ?_
                  | refine s_load Tryd.isAgg3 rfl rfl ((hs.oldcell (a := ⟨bx, _, none⟩) hB (by simp)).trans (hcell (i + 3) (by omega))) ?_
                refine s_add rfl rfl rfl ?_
                refine s_fieldAddr rfl rfl (FA55_0 _ _) ?_
                first
                  | refine s_storeB Tryd.sizeOf3 rfl rfl rfl hs (kk := 0) rfl rfl ?_
                  | refine s_storeB Tryd.sizeOf3 rfl rfl rfl hs (kk := 1) rfl rfl ?_
                clear hs; intro w hs; try simp only [List.set_cons_zero, List.set_cons_succ, splice, List.take_succ_cons, List.take_zero, List.drop_succ_cons, List.drop_zero, List.nil_append, List.cons_append, List.length_cons, List.length_nil, Nat.reduceAdd, List.append_assoc] at hs
                refine WL_nil ?_
                refine n_then ?_
                refine W_region ?_
                refine s_fieldAddr rfl rfl (FA55_1 _ _) ?_
                first
                  | refine s_load Tryd.isAgg3 rfl rfl (hs.cell (k := 0) rfl rfl) ?_
                  | refine s_load Tryd.isAgg3 rfl rfl (hs.cell (k := 1) rfl rfl) ?_
                  | refine s_load Tryd.isAgg3 rfl rfl ((hs.oldcell (a := ⟨bx, _, none⟩) hB (by simp)).trans (hcell i (by omega))) ?_
                  | refine s_load Tryd.isAgg3 rfl rfl ((hs.oldcell (a := ⟨bx, _, none⟩) hB (by simp)).trans (hcell (i + 1) (by omega))) ?_
                  | refine s_load Tryd.isAgg3 rfl rfl ((hs.oldcell (a := ⟨bx, _, none⟩) hB (by simp)).trans (hcell (i + 2) (by omega))) ?_
                  | refine s_load Tryd.isAgg3 rfl rfl ((hs.oldcell (a := ⟨bx, _, none⟩) hB (by simp)).trans (hcell (i + 3) (by omega))) ?_
                refine s_add rfl rfl rfl ?_
                refine s_fieldAddr rfl rfl (FA55_1 _ _) ?_
                first
                  | refine s_storeB Tryd.sizeOf3 rfl rfl rfl hs (kk := 0) rfl rfl ?_
                  | refine s_storeB Tryd.sizeOf3 rfl rfl rfl hs (kk := 1) rfl rfl ?_
                clear hs; intro w hs; try simp only [List.set_cons_zero, List.set_cons_succ, splice, List.take_succ_cons, List.take_zero, List.drop_succ_cons, List.drop_zero, List.nil_append, List.cons_append, List.length_cons, List.length_nil, Nat.reduceAdd, List.append_assoc] at hs
                refine WL_nil ?_
                refine n_blk ?_
                refine n_loop ?_
                exact ⟨⟨_, _, _, _⟩, ⟨rfl, rfl, rfl, rfl, trivial⟩, hs⟩
      · skip
        clear hs
        rintro y w hs
        refine W_seq ?_
        refine W_region ?_
        first
          | refine s_loadW Tryd.isAgg55 Tryd.sizeOf55 rfl rfl hs (kk := 0) rfl rfl ?_
          | refine s_loadW Tryd.isAgg55 Tryd.sizeOf55 rfl rfl hs (kk := 1) rfl rfl ?_
          | refine s_load_4 Tryd.isAgg55 Tryd.sizeOf55 rfl rfl (by first | exact hs.cell (k := 0) rfl rfl | exact hs.cell (k := 1) rfl rfl) (by first | exact hs.cell (k := 0) rfl rfl | exact hs.cell (k := 1) rfl rfl) (by first | exact hs.cell (k := 0) rfl rfl | exact hs.cell (k := 1) rfl rfl) (by first | exact hs.cell (k := 0) rfl rfl | exact hs.cell (k := 1) rfl rfl) ?_
        refine s_call Tryd.call24 rfl rfl (refEncodable_ok y w) ?_
        rintro r w ⟨hst, rfl⟩
        replace hs := hs.fwd1 hst
        clear hst
        refine WL_nil ?_
        refine n_then ?_
        refine W_cond rfl (fun hc123 => ?_) (fun hc123 => ?_)
        · skip
          try simp only [decide_eq_true_eq, decide_eq_false_iff_not, beq_iff_eq, beq_eq_false_iff_ne, ne_eq] at hc123
          refine W_region ?_
          refine s_move rfl rfl ?_
          first
            | refine s_loadW Tryd.isAgg55 Tryd.sizeOf55 rfl rfl hs (kk := 0) rfl rfl ?_
            | refine s_loadW Tryd.isAgg55 Tryd.sizeOf55 rfl rfl hs (kk := 1) rfl rfl ?_
            | refine s_load_4 Tryd.isAgg55 Tryd.sizeOf55 rfl rfl (by first | exact hs.cell (k := 0) rfl rfl | exact hs.cell (k := 1) rfl rfl) (by first | exact hs.cell (k := 0) rfl rfl | exact hs.cell (k := 1) rfl rfl) (by first | exact hs.cell (k := 0) rfl rfl | exact hs.cell (k := 1) rfl rfl) (by first | exact hs.cell (k := 0) rfl rfl | exact hs.cell (k := 1) rfl rfl) ?_
          refine s_buildSlice rfl rfl (BS27_1 _ _ _ _) hs ?_; clear hs; intro b126 w hs
          refine s_appendM (M := [_, _]) (X := []) El27 rfl rfl rfl hO (by simpa using hs) (hs.sl (k := 0) (ds := y.cells) rfl (Nat.le_refl _) (by intro j u hj; rw [Nat.zero_add]; exact hj)) rfl (by intro u hu; simp only [Cl.cells, List.mem_cons, List.not_mem_nil, or_false] at hu; rcases hu with rfl | rfl | rfl | rfl <;> rfl) (by omega) ?_
          clear hs; intro v' w Lc' hO' hs
          simp only [List.cons_append, List.nil_append, List.append_nil] at hs
          replace hs := hs.tail
          have hcl4 : cls (cl ++ [y]) = cls cl ++ y.cells := by rw [cls_append]; simp [cls]
          rw [← hcl4] at hO'
          refine s_assign rfl rfl ?_
          refine WL_nil ?_
          refine n_blk ?_
          refine n_then ?_
          refine W_region ?_
          refine s_move rfl rfl ?_
          first | (refine s_add' rfl rfl rfl ?hx ?_; case hx => (constructor <;> first | omega | (simp only; omega))) | refine s_add rfl rfl rfl ?_
          refine s_assign rfl rfl ?_
          refine WL_nil ?_
          refine n_loop ?_
          first
            | exact ⟨⟨i + 4, v', y, cl ++ [y], Lc'⟩, ⟨rfl, rfl, rfl, rfl, trivial⟩, ⟨hs, by simp only [List.length_append, List.length_cons, List.length_nil]; exact hO', fun z hz => by
                rcases List.mem_append.1 hz with h | h
                · exact hok z h
                · rw [List.mem_singleton.1 h]; assumption, by simp only [List.length_append, List.length_cons, List.length_nil]; omega, by simp only; omega⟩, by simp only; omega⟩
            | exact ⟨⟨i + 4, _, y, cl, Lc⟩, ⟨rfl, rfl, rfl, rfl, trivial⟩, ⟨hs, hO, hok, hcl, by simp only; omega⟩, by simp only; omega⟩
        · skip
          try simp only [decide_eq_true_eq, decide_eq_false_iff_not, beq_iff_eq, beq_eq_false_iff_ne, ne_eq] at hc123
          refine W_skip ?_
          refine n_blk ?_
          refine n_then ?_
          refine W_region ?_
          refine s_move rfl rfl ?_
          first | (refine s_add' rfl rfl rfl ?hx ?_; case hx => (constructor <;> first | omega | (simp only; omega))) | refine s_add rfl rfl rfl ?_
          refine s_assign rfl rfl ?_
          refine WL_nil ?_
          refine n_loop ?_
          first
            | exact ⟨⟨i + 4, v', y, cl ++ [y], Lc'⟩, ⟨rfl, rfl, rfl, rfl, trivial⟩, ⟨hs, by simp only [List.length_append, List.length_cons, List.length_nil]; exact hO', fun z hz => by
                rcases List.mem_append.1 hz with h | h
                · exact hok z h
                · rw [List.mem_singleton.1 h]; assumption, by simp only [List.length_append, List.length_cons, List.length_nil]; omega, by simp only; omega⟩, by simp only; omega⟩
            | exact ⟨⟨i + 4, _, y, cl, Lc⟩, ⟨rfl, rfl, rfl, rfl, trivial⟩, ⟨hs, hO, hok, hcl, by simp only; omega⟩, by simp only; omega⟩
    · skip
      try simp only [decide_eq_true_eq, decide_eq_false_iff_not, beq_iff_eq, beq_eq_false_iff_ne, ne_eq] at hc17
      refine W_exit ?_
      refine x_then ?_
      refine x_then ?_
      refine exit_hit ?_
      refine n_then ?_
      refine W_seq ?_
      refine W_region ?_
      refine s_move rfl rfl ?_
      refine s_assign rfl rfl ?_
      refine WL_nil ?_
      refine n_then ?_
      refine W_ret ?_
      exact end1 rfl rfl ⟨cl, Lc, hO, hs.tail, hok, hcl⟩
  · skip
    try simp only [decide_eq_true_eq, decide_eq_false_iff_not, beq_iff_eq, beq_eq_false_iff_ne, ne_eq] at hg13
    refine WL_skip rfl rfl rfl ?_
    refine WL_skip rfl rfl rfl ?_
    refine WL_skip rfl rfl rfl ?_
    refine s_pick_f rfl rfl rfl ?_
    refine WL_nil ?_
    refine n_then ?_
    refine W_cond_f rfl ?_
    refine W_exit ?_
    refine x_then ?_
    refine x_then ?_
    refine exit_hit ?_
    refine n_then ?_
    refine W_seq ?_
    refine W_region ?_
    refine s_move rfl rfl ?_
    refine s_assign rfl rfl ?_
    refine WL_nil ?_
    refine n_then ?_
    refine W_ret ?_
    exact end1 rfl rfl ⟨cl, Lc, hO, hs.tail, hok, hcl⟩
end Go.Proofs.YtbcdnpjcbchbjaaDoor
