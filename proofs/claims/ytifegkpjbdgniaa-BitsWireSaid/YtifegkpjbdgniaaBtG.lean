/- The generator of values for bit streams, and what a law does with one. -/
import Derived.Test.YtifegkpjbdgniaaBtO
set_option linter.unusedVariables false
set_option linter.unusedSimpArgs false
namespace Go.Proofs.Ytifegkpjbdgniaa
open Go.SL
structure BO where
  u : Bool
  n : Nat
  c : Int
def BO.cells (o : BO) : List Value := [.bool o.u, .int .u64 (o.n : Int), .int .i64 o.c]
def bcells (os : List BO) : List Value := os.flatMap BO.cells
theorem bcells_length (os : List BO) : (bcells os).length = os.length * 3 := by
  induction os with
  | nil => rfl
  | cons o os ih => simp [bcells, BO.cells] at ih ⊢; omega
theorem bcells_snoc (os : List BO) (o : BO) : bcells (os ++ [o]) = bcells os ++ o.cells := by simp [bcells]
structure BO.ok (o : BO) : Prop where
  n : o.n < 18446744073709551616
  u : o.u = true → o.n < 40
  c : isI64 o.c
theorem wrapU_nat (z : Int) : ∃ m : Nat, IntKind.u64.wrap z = (m : Int) ∧ m < 18446744073709551616 := by
  rw [IntKind.wrap_u64]; exact ⟨(z % 18446744073709551616).toNat, by omega, by omega⟩
theorem count_ok (c : Int) (w0 : World) : Ret Try.prog 51 [.int .i64 c].toArray w0 fun r w' => w' = w0 ∧ r = .int .i64 (clampV c) := by
  have h : (if (0 : Int) < (if 64 < c then 64 else c) then (if 64 < c then 64 else c) else 0) = clampV c := by unfold clampV; split <;> split <;> split <;> (try split) <;> omega
  refine Ret_of Try.func51 rfl Try.ntmps51 rfl ?_
  refine W_seq ?_
  refine W_region ?_
  refine s_assign rfl rfl ?_
  refine WL_nil ?_
  refine n_then ?_
  refine W_seq ?_
  refine W_region ?_
  refine s_move rfl rfl ?_
  refine s_min rfl rfl rfl ?_
  refine s_max rfl rfl rfl ?_
  refine s_assign rfl rfl ?_
  refine WL_nil ?_
  refine n_then ?_
  refine W_ret ?_
  rw [← h]
  exact end1 rfl rfl ⟨rfl, rfl⟩
/-- the bits of a value -/
def BO.bits (o : BO) : List Bool := if o.u = true then List.replicate o.n true ++ [false] else nb o.n (clampV o.c).toNat
theorem write_ok (p : Nat) (bs : List Bool) (o : BO) (ho : o.ok) (L0 : Hp) (w0 : World) (hW : WbAt p bs L0) (hs : St (ids L0) w0 w0 L0) (hl : bs.length ≤ 549755813888) :
    Ret Try.prog 14 [.pointer (some ⟨p, 0, none⟩), .agg o.cells.toArray].toArray w0 fun r w' => ∃ L', St (ids L0) w0 w' L' ∧ WbAt p (bs ++ o.bits) L' ∧ r = .tuple #[] := by
  obtain ⟨u, n, c⟩ := o
  have hn := ho.n
  have hu := ho.u
  simp only at hn hu
  refine Ret_startL hs fun w hs => ?_
  simp only [BO.cells]
  refine Ret_of Try.func14 rfl Try.ntmps14 rfl ?_
  refine W_seq ?_
  refine W_region ?_
  first | refine s_box rfl rfl hs ?_ | refine s_box1 rfl rfl rfl hs ?_
  clear hs; intro b3 w hs
  refine WL_nil ?_
  refine n_then ?_
  refine W_seq ?_
  refine W_region ?_
  refine s_fieldAddr rfl rfl (FA27_0 _ _) ?_
  first
    | refine s_load Try.isAgg4 rfl rfl (hs.cell (k := 0) rfl rfl) ?_
    | refine s_load Try.isAgg4 rfl rfl (hs.cell (k := 1) rfl rfl) ?_
    | refine s_load Try.isAgg4 rfl rfl (hs.cell (k := 2) rfl rfl) ?_
    | refine s_load Try.isAgg4 rfl rfl (hs.cell (k := 3) rfl rfl) ?_
    | refine s_load Try.isAgg4 rfl rfl (hs.cell (k := 4) rfl rfl) ?_
    | refine s_load Try.isAgg4 rfl rfl (hs.cell (k := 5) rfl rfl) ?_
    | refine s_load Try.isAgg4 rfl rfl (hs.cell (k := 6) rfl rfl) ?_
    | refine s_load Try.isAgg4 rfl rfl (hs.cell (k := 7) rfl rfl) ?_
    | refine s_load Try.isAgg4 rfl rfl (hs.cell (k := 8) rfl rfl) ?_
    | refine s_load Try.isAgg4 rfl rfl (hs.cell (k := 9) rfl rfl) ?_
  refine WL_nil ?_
  refine n_then ?_
  refine W_cond rfl (fun hc5 => ?_) (fun hc5 => ?_)
  · skip
    refine W_region ?_
    refine s_move rfl rfl ?_
    refine s_fieldAddr rfl rfl (FA27_1 _ _) ?_
    first
      | refine s_load Try.isAgg23 rfl rfl (hs.cell (k := 0) rfl rfl) ?_
      | refine s_load Try.isAgg23 rfl rfl (hs.cell (k := 1) rfl rfl) ?_
      | refine s_load Try.isAgg23 rfl rfl (hs.cell (k := 2) rfl rfl) ?_
      | refine s_load Try.isAgg23 rfl rfl (hs.cell (k := 3) rfl rfl) ?_
      | refine s_load Try.isAgg23 rfl rfl (hs.cell (k := 4) rfl rfl) ?_
      | refine s_load Try.isAgg23 rfl rfl (hs.cell (k := 5) rfl rfl) ?_
      | refine s_load Try.isAgg23 rfl rfl (hs.cell (k := 6) rfl rfl) ?_
      | refine s_load Try.isAgg23 rfl rfl (hs.cell (k := 7) rfl rfl) ?_
      | refine s_load Try.isAgg23 rfl rfl (hs.cell (k := 8) rfl rfl) ?_
      | refine s_load Try.isAgg23 rfl rfl (hs.cell (k := 9) rfl rfl) ?_
    refine s_convert rfl rfl (CV23_3 _) ?_
    rw [IntWalk.i64_in _ (by have := hu hc5; omega)]
    refine s_callL (M := [_]) (L1 := L0) (X := []) Try.call34 rfl rfl (by simpa using hs) (fun h => wUnary_ok p bs (n : Int) L0 w hW h hl) ?_
    clear hs; rintro v w L2 ⟨hW2, rfl⟩ - hs
    simp only [List.cons_append, List.nil_append, List.append_nil] at hs
    refine WL_nil ?_
    refine end0' rfl ⟨L2, hs.tail, ?_, rfl⟩
    first
      | (have hcap : (capV (n : Int)).toNat = n := by have := hu hc5; unfold capV; split <;> split at * <;> omega
         rw [hcap] at hW2
         simp only [BO.bits, hc5, if_true]; exact hW2)
      | (simp only [BO.bits, hc5, Bool.false_eq_true, if_false]; exact hW2)
  · skip
    refine W_region ?_
    refine s_move rfl rfl ?_
    refine s_fieldAddr rfl rfl (FA27_1 _ _) ?_
    first
      | refine s_load Try.isAgg23 rfl rfl (hs.cell (k := 0) rfl rfl) ?_
      | refine s_load Try.isAgg23 rfl rfl (hs.cell (k := 1) rfl rfl) ?_
      | refine s_load Try.isAgg23 rfl rfl (hs.cell (k := 2) rfl rfl) ?_
      | refine s_load Try.isAgg23 rfl rfl (hs.cell (k := 3) rfl rfl) ?_
      | refine s_load Try.isAgg23 rfl rfl (hs.cell (k := 4) rfl rfl) ?_
      | refine s_load Try.isAgg23 rfl rfl (hs.cell (k := 5) rfl rfl) ?_
      | refine s_load Try.isAgg23 rfl rfl (hs.cell (k := 6) rfl rfl) ?_
      | refine s_load Try.isAgg23 rfl rfl (hs.cell (k := 7) rfl rfl) ?_
      | refine s_load Try.isAgg23 rfl rfl (hs.cell (k := 8) rfl rfl) ?_
      | refine s_load Try.isAgg23 rfl rfl (hs.cell (k := 9) rfl rfl) ?_
    refine s_fieldAddr rfl rfl (FA27_2 _ _) ?_
    first
      | refine s_load Try.isAgg3 rfl rfl (hs.cell (k := 0) rfl rfl) ?_
      | refine s_load Try.isAgg3 rfl rfl (hs.cell (k := 1) rfl rfl) ?_
      | refine s_load Try.isAgg3 rfl rfl (hs.cell (k := 2) rfl rfl) ?_
      | refine s_load Try.isAgg3 rfl rfl (hs.cell (k := 3) rfl rfl) ?_
      | refine s_load Try.isAgg3 rfl rfl (hs.cell (k := 4) rfl rfl) ?_
      | refine s_load Try.isAgg3 rfl rfl (hs.cell (k := 5) rfl rfl) ?_
      | refine s_load Try.isAgg3 rfl rfl (hs.cell (k := 6) rfl rfl) ?_
      | refine s_load Try.isAgg3 rfl rfl (hs.cell (k := 7) rfl rfl) ?_
      | refine s_load Try.isAgg3 rfl rfl (hs.cell (k := 8) rfl rfl) ?_
      | refine s_load Try.isAgg3 rfl rfl (hs.cell (k := 9) rfl rfl) ?_
    refine s_callL (M := [_]) (L1 := L0) (X := []) Try.call33 rfl rfl (by simpa using hs) (fun h => wBits_ok p bs n c L0 w hW h hn hl) ?_
    clear hs; rintro v w L2 ⟨hW2, rfl⟩ - hs
    simp only [List.cons_append, List.nil_append, List.append_nil] at hs
    refine WL_nil ?_
    refine end0' rfl ⟨L2, hs.tail, ?_, rfl⟩
    first
      | (have hcap : (capV (n : Int)).toNat = n := by have := hu hc5; unfold capV; split <;> split at * <;> omega
         rw [hcap] at hW2
         simp only [BO.bits, hc5, if_true]; exact hW2)
      | (simp only [BO.bits, hc5, Bool.false_eq_true, if_false]; exact hW2)
/-! Ops -/
structure GS where
  i : Nat
  v : Value
  os : List BO
  L : Hp
theorem quo3 {q : Int} (d : Int) (h : isI64 q) (hd : 1 ≤ d) : isI64 (IntKind.i64.wrap (q.tdiv d)) := wrap_i64 _
set_option maxHeartbeats 2000000 in
theorem ops_ok (v : Value) (xs : List Int) (w0 : World) (hv : Sl w0 v xs.length (i64s xs)) (hx : ∀ z ∈ xs, isI64 z) :
    Ret Try.prog 12 [v].toArray w0 fun r w' => ∃ os Lo, OwnS 27 3 r os.length (bcells os) Lo ∧ St [] w0 w' Lo ∧ (∀ o ∈ os, BO.ok o) ∧ os.length ≤ 12 := by
  obtain ⟨a, c, rfl, hac⟩ := hv.len_le
  refine Ret_start fun w hs => ?_
  refine Ret_of Try.func12 rfl Try.ntmps12 rfl ?_
  refine W_seq ?_
  refine W_region ?_
  refine s_assign rfl rfl ?_
  refine WL_nil ?_
  refine n_then ?_
  refine W_seq ?_
  refine W_region ?_
  refine s_assign rfl rfl ?_
  refine WL_nil ?_
  refine n_then ?_
  refine W_seq ?_
  refine W_seq ?_
  refine W_region ?_
  refine s_assign rfl rfl ?_
  refine WL_nil ?_
  refine n_then ?_
  refine W_block ?_
  refine W_loop (σ := GS) (fun s => [(0, .slice a xs.length c), (3, s.v), (4, .int .i64 (s.i : Int))]) (fun s w => St [] w0 w s.L ∧ OwnS 27 3 s.v s.os.length (bcells s.os) s.L ∧ (∀ x ∈ s.os, BO.ok x) ∧ s.os.length = s.i ∧ s.i ≤ 12) (fun s => 12 - s.i) ⟨0, .slice none 0 0, [], []⟩ ⟨rfl, rfl, rfl, trivial⟩ ⟨hs, OwnS.nil _ _, by simp, rfl, by simp⟩ ?_
  clear hs
  rintro ⟨i, v3, os, Lv⟩ w ⟨hs, hO, hg, hvl, hi8⟩
  simp only at hs hO hg hvl hi8 ⊢
  refine W_seq ?_
  refine W_seq ?_
  refine W_region ?_
  refine s_move rfl rfl ?_
  refine s_move rfl rfl ?_
  refine s_len rfl rfl (LN22 _ _ _ _) ?_
  refine s_lss rfl rfl rfl ?_
  refine s_move rfl rfl ?_
  refine WL_case (s := 12) rfl (fun hg12 => ?_) (fun hg12 => ?_)
  · skip
    try simp only [decide_eq_true_eq, decide_eq_false_iff_not, beq_iff_eq, beq_eq_false_iff_ne, ne_eq] at hg12
    refine WL_take rfl ?_
    refine s_move rfl rfl ?_
    refine WL_take rfl ?_
    refine s_lss rfl rfl rfl ?_
    refine s_pick_t rfl rfl rfl ?_
    refine WL_nil ?_
    refine n_then ?_
    refine W_cond rfl (fun hc15 => ?_) (fun hc15 => ?_)
    · skip
      try simp only [decide_eq_true_eq, decide_eq_false_iff_not, beq_iff_eq, beq_eq_false_iff_ne, ne_eq] at hc15
      have hix : i < xs.length := by omega
      obtain ⟨b1, o1, hA1, hc1⟩ := hv.at (k := i) (i64s_at' hix)
      have hB1 : b1 < w0.heap.size := World.block_lt_of_cell? w0 _ hc1
      have hm : isI64 (xs.getD i 0) := hx _ (by rw [List.getD_eq_getElem?_getD, List.getElem?_eq_getElem hix]; simp)
      generalize xs.getD i 0 = q at hc1 hm
      have hq3 : isI64 (IntKind.i64.wrap (q.tdiv 3)) := wrap_i64 _
      refine W_skip ?_
      refine n_then ?_
      refine W_seq ?_
      refine W_block ?_
      refine W_seq ?_
      refine W_region ?_
      refine s_move rfl rfl ?_
      refine s_move rfl rfl ?_
      (refine s_indexAddrO El22 rfl rfl rfl hA1 ?hx ?_; case hx => (constructor <;> omega))
      first
        | refine s_load Try.isAgg3 rfl rfl (hs.cell (k := 0) rfl rfl) ?_
        | refine s_load Try.isAgg3 rfl rfl (hs.cell (k := 1) rfl rfl) ?_
        | refine s_load Try.isAgg3 rfl rfl (hs.cell (k := 2) rfl rfl) ?_
        | refine s_load Try.isAgg3 rfl rfl ((hs.oldcell (a := ⟨b1, o1 + i, none⟩) hB1 (by simp)).trans hc1) ?_
      refine s_call Try.call24 rfl rfl (around_ok q 3 w (by omega) hm) ?_
      rintro r w1 ⟨hw1, rfl⟩
      rw [hw1]; clear hw1 w1
      refine s_assign rfl rfl ?_
      refine WL_nil ?_
      refine n_then ?_
      refine W_seq ?_
      refine W_region ?_
      refine s_move rfl rfl ?_
      refine s_move rfl rfl ?_
      (refine s_indexAddrO El22 rfl rfl rfl hA1 ?hx ?_; case hx => (constructor <;> omega))
      first
        | refine s_load Try.isAgg3 rfl rfl (hs.cell (k := 0) rfl rfl) ?_
        | refine s_load Try.isAgg3 rfl rfl (hs.cell (k := 1) rfl rfl) ?_
        | refine s_load Try.isAgg3 rfl rfl (hs.cell (k := 2) rfl rfl) ?_
        | refine s_load Try.isAgg3 rfl rfl ((hs.oldcell (a := ⟨b1, o1 + i, none⟩) hB1 (by simp)).trans hc1) ?_
      (refine s_quo rfl rfl rfl ?hx ?_; case hx => omega)
      refine s_call Try.call24 rfl rfl (around_ok _ 68 w (by omega) hq3) ?_
      rintro r w1 ⟨hw1, rfl⟩
      rw [hw1]; clear hw1 w1
      have har := aroundV_range (m := IntKind.i64.wrap (q.tdiv 3)) (q := 68) (by omega)
      generalize hcz : aroundV (IntKind.i64.wrap (q.tdiv 3)) 68 = cz at har
      first | (refine s_sub' rfl rfl rfl ?hx ?_; case hx => (constructor <;> first | omega | (simp only; omega))) | refine s_sub rfl rfl rfl ?_
      refine s_assign rfl rfl ?_
      refine WL_nil ?_
      refine n_then ?_
      refine W_seq ?_
      refine W_region ?_
      refine s_move rfl rfl ?_
      refine s_eql rfl rfl rfl ?_
      refine s_move rfl rfl ?_
      refine s_move rfl rfl ?_
      (refine s_indexAddrO El22 rfl rfl rfl hA1 ?hx ?_; case hx => (constructor <;> omega))
      first
        | refine s_load Try.isAgg3 rfl rfl (hs.cell (k := 0) rfl rfl) ?_
        | refine s_load Try.isAgg3 rfl rfl (hs.cell (k := 1) rfl rfl) ?_
        | refine s_load Try.isAgg3 rfl rfl (hs.cell (k := 2) rfl rfl) ?_
        | refine s_load Try.isAgg3 rfl rfl ((hs.oldcell (a := ⟨b1, o1 + i, none⟩) hB1 (by simp)).trans hc1) ?_
      refine s_convert rfl rfl (CV3_23 _) ?_
      refine s_mul rfl rfl rfl ?_
      obtain ⟨mn, hmn, hmn2⟩ := wrapU_nat (IntKind.u64.wrap q * 11400714819323198485)
      rw [hmn]
      refine s_move rfl rfl ?_
      refine s_build rfl rfl (BD27_0_1_2 _ _ _) ?_
      refine s_alloc rfl AL27 hs ?_; clear hs; intro b7 w hs
      first
        | refine s_storeW Try.sizeOf27 rfl rfl rfl rfl hs (kk := 0) rfl rfl ?_
        | refine s_storeW Try.sizeOf27 rfl rfl rfl rfl hs (kk := 1) rfl rfl ?_
        | refine s_storeW Try.sizeOf27 rfl rfl rfl rfl hs (kk := 2) rfl rfl ?_
        | refine s_storeAB Try.sizeOf27 rfl rfl rfl rfl hs (kk := 0) rfl rfl ?_
        | refine s_storeAB Try.sizeOf27 rfl rfl rfl rfl hs (kk := 1) rfl rfl ?_
        | refine s_storeAB Try.sizeOf27 rfl rfl rfl rfl hs (kk := 2) rfl rfl ?_
      clear hs; intro w hs; try simp only [List.set_cons_zero, List.set_cons_succ, splice, List.take_succ_cons, List.take_zero, List.drop_succ_cons, List.drop_zero, List.nil_append, List.cons_append, List.length_cons, List.length_nil, Nat.reduceAdd, List.append_assoc] at hs
      refine WL_nil ?_
      refine n_then ?_
      refine W_seq ?_
      refine W_seq ?_
      refine W_region ?_
      refine s_fieldAddr rfl rfl (FA27_0 _ _) ?_
      first
        | refine s_load Try.isAgg4 rfl rfl (hs.cell (k := 0) rfl rfl) ?_
        | refine s_load Try.isAgg4 rfl rfl (hs.cell (k := 1) rfl rfl) ?_
        | refine s_load Try.isAgg4 rfl rfl (hs.cell (k := 2) rfl rfl) ?_
        | refine s_load Try.isAgg4 rfl rfl ((hs.oldcell (a := ⟨b1, o1 + i, none⟩) hB1 (by simp)).trans hc1) ?_
      refine WL_nil ?_
      refine n_then ?_
      refine W_cond rfl (fun hc41 => ?_) (fun hc41 => ?_)
      · skip
        try simp only [decide_eq_true_eq, decide_eq_false_iff_not, beq_iff_eq, beq_eq_false_iff_ne, ne_eq] at hc41
        refine W_region ?_
        refine s_move rfl rfl ?_
        refine s_move rfl rfl ?_
        (refine s_indexAddrO El22 rfl rfl rfl hA1 ?hx ?_; case hx => (constructor <;> omega))
        first
          | refine s_load Try.isAgg3 rfl rfl (hs.cell (k := 0) rfl rfl) ?_
          | refine s_load Try.isAgg3 rfl rfl (hs.cell (k := 1) rfl rfl) ?_
          | refine s_load Try.isAgg3 rfl rfl (hs.cell (k := 2) rfl rfl) ?_
          | refine s_load Try.isAgg3 rfl rfl ((hs.oldcell (a := ⟨b1, o1 + i, none⟩) hB1 (by simp)).trans hc1) ?_
        (refine s_quo rfl rfl rfl ?hx ?_; case hx => omega)
        refine s_call Try.call24 rfl rfl (around_ok _ 40 w (by omega) hq3) ?_
        rintro r w1 ⟨hw1, rfl⟩
        rw [hw1]; clear hw1 w1
        have har4 := aroundV_range (m := IntKind.i64.wrap (q.tdiv 3)) (q := 40) (by omega)
        generalize aroundV (IntKind.i64.wrap (q.tdiv 3)) 40 = dz at har4
        obtain ⟨dn, rfl⟩ : ∃ dn : Nat, dz = dn := ⟨dz.toNat, by omega⟩
        refine s_convert rfl rfl (CV3_23 _) ?_
        rw [IntWalk.u64_in _ (by omega)]
        refine s_fieldAddr rfl rfl (FA27_1 _ _) ?_
        first
          | refine s_storeB Try.sizeOf23 rfl rfl rfl hs (kk := 0) rfl rfl ?_
          | refine s_storeB Try.sizeOf23 rfl rfl rfl hs (kk := 1) rfl rfl ?_
          | refine s_storeB Try.sizeOf23 rfl rfl rfl hs (kk := 2) rfl rfl ?_
        clear hs; intro w hs; try simp only [List.set_cons_zero, List.set_cons_succ, splice, List.take_succ_cons, List.take_zero, List.drop_succ_cons, List.drop_zero, List.nil_append, List.cons_append, List.length_cons, List.length_nil, Nat.reduceAdd, List.append_assoc] at hs
        refine WL_nil ?_
        refine n_then ?_
        refine W_region ?_
        refine s_move rfl rfl ?_
        first
          | refine s_loadW Try.isAgg27 Try.sizeOf27 rfl rfl hs (kk := 0) rfl rfl ?_
          | refine s_loadW Try.isAgg27 Try.sizeOf27 rfl rfl hs (kk := 1) rfl rfl ?_
          | refine s_loadW Try.isAgg27 Try.sizeOf27 rfl rfl hs (kk := 2) rfl rfl ?_
          | refine s_load_3 Try.isAgg27 Try.sizeOf27 rfl rfl (by first | exact hs.cell (k := 0) rfl rfl | exact hs.cell (k := 1) rfl rfl | exact hs.cell (k := 2) rfl rfl) (by first | exact hs.cell (k := 0) rfl rfl | exact hs.cell (k := 1) rfl rfl | exact hs.cell (k := 2) rfl rfl) (by first | exact hs.cell (k := 0) rfl rfl | exact hs.cell (k := 1) rfl rfl | exact hs.cell (k := 2) rfl rfl) ?_
        refine s_buildSlice rfl rfl (BS24_1 _ _ _) hs ?_; clear hs; intro b52 w hs
        refine s_appendM (M := [_, _]) (X := []) El24 rfl rfl rfl hO (by simpa using hs) (hs.sl (k := 0) (ds := [_, _, _]) rfl (Nat.le_refl _) (by intro j u hj; rw [Nat.zero_add]; exact hj)) rfl (by simp [Value.oneCell']) (by omega) ?_
        clear hs; intro v' w Lv' hO' hs
        obtain ⟨_, vc', va', rfl, rfl⟩ := hO'.form
        simp only [List.cons_append, List.nil_append, List.append_nil] at hs
        refine s_assign rfl rfl ?_
        refine WL_nil ?_
        refine n_blk ?_
        refine n_then ?_
        refine W_region ?_
        refine s_move rfl rfl ?_
        first | (refine s_add' rfl rfl rfl ?hx ?_; case hx => (constructor <;> first | omega | (simp only; omega))) | refine s_add rfl rfl rfl ?_
        refine s_assign rfl rfl ?_
        refine WL_nil ?_
        refine n_loop ?_
        first
          | exact ⟨⟨i + 1, _, os ++ [⟨true, dn, cz - 2⟩], Lv'⟩, ⟨rfl, rfl, rfl, trivial⟩, ⟨hs.tail.tail, by simpa [bcells_snoc, BO.cells, hc41] using hO', by
              intro x hx
              rcases List.mem_append.1 hx with h | h
              · exact hg x h
              · rw [List.mem_singleton.1 h]; exact ⟨by simp only; omega, fun _ => by simp only; omega, by unfold isI64; simp only; omega⟩, by simp [hvl], by simp only; omega⟩, by simp only; omega⟩
          | exact ⟨⟨i + 1, _, os ++ [⟨false, mn, cz - 2⟩], Lv'⟩, ⟨rfl, rfl, rfl, trivial⟩, ⟨hs.tail.tail, by rw [show (aroundV q 3 == 0) = false from by simpa using hc41] at hO'; simpa [bcells_snoc, BO.cells] using hO', by
              intro x hx
              rcases List.mem_append.1 hx with h | h
              · exact hg x h
              · rw [List.mem_singleton.1 h]; exact ⟨by simp only; omega, fun h => by simp at h, by unfold isI64; simp only; omega⟩, by simp [hvl], by simp only; omega⟩, by simp only; omega⟩
      · skip
        try simp only [decide_eq_true_eq, decide_eq_false_iff_not, beq_iff_eq, beq_eq_false_iff_ne, ne_eq] at hc41
        refine W_skip ?_
        refine n_then ?_
        refine W_region ?_
        refine s_move rfl rfl ?_
        first
          | refine s_loadW Try.isAgg27 Try.sizeOf27 rfl rfl hs (kk := 0) rfl rfl ?_
          | refine s_loadW Try.isAgg27 Try.sizeOf27 rfl rfl hs (kk := 1) rfl rfl ?_
          | refine s_loadW Try.isAgg27 Try.sizeOf27 rfl rfl hs (kk := 2) rfl rfl ?_
          | refine s_load_3 Try.isAgg27 Try.sizeOf27 rfl rfl (by first | exact hs.cell (k := 0) rfl rfl | exact hs.cell (k := 1) rfl rfl | exact hs.cell (k := 2) rfl rfl) (by first | exact hs.cell (k := 0) rfl rfl | exact hs.cell (k := 1) rfl rfl | exact hs.cell (k := 2) rfl rfl) (by first | exact hs.cell (k := 0) rfl rfl | exact hs.cell (k := 1) rfl rfl | exact hs.cell (k := 2) rfl rfl) ?_
        refine s_buildSlice rfl rfl (BS24_1 _ _ _) hs ?_; clear hs; intro b52 w hs
        refine s_appendM (M := [_, _]) (X := []) El24 rfl rfl rfl hO (by simpa using hs) (hs.sl (k := 0) (ds := [_, _, _]) rfl (Nat.le_refl _) (by intro j u hj; rw [Nat.zero_add]; exact hj)) rfl (by simp [Value.oneCell']) (by omega) ?_
        clear hs; intro v' w Lv' hO' hs
        obtain ⟨_, vc', va', rfl, rfl⟩ := hO'.form
        simp only [List.cons_append, List.nil_append, List.append_nil] at hs
        refine s_assign rfl rfl ?_
        refine WL_nil ?_
        refine n_blk ?_
        refine n_then ?_
        refine W_region ?_
        refine s_move rfl rfl ?_
        first | (refine s_add' rfl rfl rfl ?hx ?_; case hx => (constructor <;> first | omega | (simp only; omega))) | refine s_add rfl rfl rfl ?_
        refine s_assign rfl rfl ?_
        refine WL_nil ?_
        refine n_loop ?_
        first
          | exact ⟨⟨i + 1, _, os ++ [⟨true, dn, cz - 2⟩], Lv'⟩, ⟨rfl, rfl, rfl, trivial⟩, ⟨hs.tail.tail, by simpa [bcells_snoc, BO.cells, hc41] using hO', by
              intro x hx
              rcases List.mem_append.1 hx with h | h
              · exact hg x h
              · rw [List.mem_singleton.1 h]; exact ⟨by simp only; omega, fun _ => by simp only; omega, by unfold isI64; simp only; omega⟩, by simp [hvl], by simp only; omega⟩, by simp only; omega⟩
          | exact ⟨⟨i + 1, _, os ++ [⟨false, mn, cz - 2⟩], Lv'⟩, ⟨rfl, rfl, rfl, trivial⟩, ⟨hs.tail.tail, by rw [show (aroundV q 3 == 0) = false from by simpa using hc41] at hO'; simpa [bcells_snoc, BO.cells] using hO', by
              intro x hx
              rcases List.mem_append.1 hx with h | h
              · exact hg x h
              · rw [List.mem_singleton.1 h]; exact ⟨by simp only; omega, fun h => by simp at h, by unfold isI64; simp only; omega⟩, by simp [hvl], by simp only; omega⟩, by simp only; omega⟩
    · skip
      try simp only [decide_eq_true_eq, decide_eq_false_iff_not, beq_iff_eq, beq_eq_false_iff_ne, ne_eq] at hc15
      refine W_exit ?_
      refine x_then ?_
      refine x_then ?_
      refine exit_hit ?_
      refine n_then ?_
      refine W_seq ?_
      refine W_region ?_
      refine s_move rfl rfl ?_
      refine s_assign rfl rfl ?_
      refine WL_nil ?_
      refine n_then ?_
      refine W_ret ?_
      exact end1 rfl rfl ⟨os, Lv, hO, hs, hg, by omega⟩
  · skip
    try simp only [decide_eq_true_eq, decide_eq_false_iff_not, beq_iff_eq, beq_eq_false_iff_ne, ne_eq] at hg12
    refine WL_skip rfl rfl rfl ?_
    refine WL_skip rfl rfl rfl ?_
    refine s_pick_f rfl rfl rfl ?_
    refine WL_nil ?_
    refine n_then ?_
    refine W_cond_f rfl ?_
    refine W_exit ?_
    refine x_then ?_
    refine x_then ?_
    refine exit_hit ?_
    refine n_then ?_
    refine W_seq ?_
    refine W_region ?_
    refine s_move rfl rfl ?_
    refine s_assign rfl rfl ?_
    refine WL_nil ?_
    refine n_then ?_
    refine W_ret ?_
    exact end1 rfl rfl ⟨os, Lv, hO, hs, hg, by omega⟩
end Go.Proofs.Ytifegkpjbdgniaa
