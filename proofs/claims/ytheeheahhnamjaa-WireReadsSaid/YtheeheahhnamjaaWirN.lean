/- The generator of values. -/
import Derived.Test.YtheeheahhnamjaaWirG
set_option linter.unusedVariables false
set_option linter.unusedSimpArgs false
namespace Go.Proofs.Ytheeheahhnamjaa
open Go.SL
structure VS where
  i : Nat
  v : Value
  vs : List VV
  Lv : Hp
structure BS where
  j : Nat
  zs : List Int
  v : Value
  L : Hp
/-- what the generator makes -/
def VV.gen (x : VV) : Prop := x.ok ∧ x.p.norm ∧ x.p.bs.length ≤ 9 ∧ x.p.ls.length ≤ 4
set_option maxHeartbeats 4000000 in
theorem vals_ok (v : Value) (xs : List Int) (w0 : World) (hv : Sl w0 v xs.length (i64s xs)) (hx : ∀ z ∈ xs, isI64 z) :
    Ret Try.prog 19 [v].toArray w0 fun r w' => ∃ vs Lv, OwnS 47 5 r vs.length (vcells vs) Lv ∧ St [] w0 w' (Lv ++ vblks vs) ∧ (∀ x ∈ vs, VV.gen x) ∧ vs.length ≤ 8 := by
  obtain ⟨a, c, rfl, hac⟩ := hv.len_le
  refine Ret_start fun w hs => ?_
  refine Ret_of Try.func19 rfl Try.ntmps19 rfl ?_
  refine W_seq ?_
  refine W_region ?_
  refine s_assign rfl rfl ?_
  refine WL_nil ?_
  refine n_then ?_
  refine W_seq ?_
  refine W_region ?_
  refine s_assign rfl rfl ?_
  refine WL_nil ?_
  refine n_then ?_
  refine W_seq ?_
  refine W_seq ?_
  refine W_region ?_
  refine s_assign rfl rfl ?_
  refine WL_nil ?_
  refine n_then ?_
  refine W_block ?_
  refine W_loop (σ := VS) (fun s => [(0, .slice a xs.length c), (3, s.v), (4, .int .i64 (s.i : Int))]) (fun s w => St [] w0 w (s.Lv ++ vblks s.vs) ∧ OwnS 47 5 s.v s.vs.length (vcells s.vs) s.Lv ∧ (∀ x ∈ s.vs, VV.gen x) ∧ s.vs.length = s.i ∧ s.i ≤ 8) (fun s => 8 - s.i) ⟨0, .slice none 0 0, [], []⟩ ⟨rfl, rfl, rfl, trivial⟩ ⟨hs, OwnS.nil _ _, by simp, rfl, by simp⟩ ?_
  clear hs
  rintro ⟨i, v3, vs, Lv⟩ w ⟨hs, hO, hg, hvl, hi8⟩
  simp only at hs hO hg hvl hi8 ⊢
  refine W_seq ?_
  refine W_seq ?_
  refine W_region ?_
  refine s_move rfl rfl ?_
  refine s_move rfl rfl ?_
  refine s_len rfl rfl (LN33 _ _ _ _) ?_
  refine s_lss rfl rfl rfl ?_
  refine s_move rfl rfl ?_
  refine WL_case (s := 14) rfl (fun hg14 => ?_) (fun hg14 => ?_)
  · skip
    try simp only [decide_eq_true_eq, decide_eq_false_iff_not, beq_iff_eq, beq_eq_false_iff_ne, ne_eq] at hg14
    refine WL_take rfl ?_
    refine s_move rfl rfl ?_
    refine WL_take rfl ?_
    refine s_lss rfl rfl rfl ?_
    refine s_pick_t rfl rfl rfl ?_
    refine WL_nil ?_
    refine n_then ?_
    refine W_cond rfl (fun hc17 => ?_) (fun hc17 => ?_)
    · skip
      try simp only [decide_eq_true_eq, decide_eq_false_iff_not, beq_iff_eq, beq_eq_false_iff_ne, ne_eq] at hc17
      have hix : i < xs.length := by omega
      obtain ⟨b1, o1, hA1, hc1⟩ := hv.at (k := i) (i64s_at' hix)
      have hB1 : b1 < w0.heap.size := World.block_lt_of_cell? w0 _ hc1
      have hm : isI64 (xs.getD i 0) := hx _ (by rw [List.getD_eq_getElem?_getD, List.getElem?_eq_getElem hix]; simp)
      generalize xs.getD i 0 = q at hc1 hm
      refine W_skip ?_
      refine n_then ?_
      refine W_seq ?_
      refine W_block ?_
      refine W_seq ?_
      refine W_region ?_
      refine s_move rfl rfl ?_
      refine s_move rfl rfl ?_
      (refine s_indexAddrO El33 rfl rfl rfl hA1 ?hx ?_; case hx => (constructor <;> omega))
      first
        | refine s_load Try.isAgg3 rfl rfl (hs.cell (k := 0) rfl rfl) ?_
        | refine s_load Try.isAgg3 rfl rfl (hs.cell (k := 1) rfl rfl) ?_
        | refine s_load Try.isAgg3 rfl rfl (hs.cell (k := 2) rfl rfl) ?_
        | refine s_load Try.isAgg3 rfl rfl ((hs.oldcell (a := ⟨b1, o1 + i, none⟩) hB1 (by simp)).trans hc1) ?_
      refine s_call Try.call11 rfl rfl (around_ok q 6 w (by omega) hm) ?_
      rintro r w ⟨rfl, rfl⟩
      have hk := aroundV_range (m := q) (q := 6) (by omega)
      generalize aroundV q 6 = kd at hk
      refine s_assign rfl rfl ?_
      refine WL_nil ?_
      refine n_then ?_
      refine W_seq ?_
      refine W_region ?_
      refine s_move rfl rfl ?_
      refine s_move rfl rfl ?_
      (refine s_indexAddrO El33 rfl rfl rfl hA1 ?hx ?_; case hx => (constructor <;> omega))
      first
        | refine s_load Try.isAgg3 rfl rfl (hs.cell (k := 0) rfl rfl) ?_
        | refine s_load Try.isAgg3 rfl rfl (hs.cell (k := 1) rfl rfl) ?_
        | refine s_load Try.isAgg3 rfl rfl (hs.cell (k := 2) rfl rfl) ?_
        | refine s_load Try.isAgg3 rfl rfl ((hs.oldcell (a := ⟨b1, o1 + i, none⟩) hB1 (by simp)).trans hc1) ?_
      (refine s_quo rfl rfl rfl ?hx ?_; case hx => omega)
      have hq6 : isI64 (IntKind.i64.wrap (q.tdiv 6)) := by
        rw [IntWalk.i64_quo' _ _ ⟨hm.1, hm.2, by omega⟩]
        unfold isI64 at hm ⊢
        rcases Int.lt_or_le q 0 with h | h
        · have h1 : q.tdiv 6 = -((-q).tdiv 6) := by rw [Int.neg_tdiv, Int.neg_neg]
          rw [h1, Int.tdiv_eq_ediv_of_nonneg (by omega)]; omega
        · rw [Int.tdiv_eq_ediv_of_nonneg h]; omega
      generalize IntKind.i64.wrap (q.tdiv 6) = q6 at hq6
      refine s_call Try.call11 rfl rfl (around_ok q6 63 w (by omega) hq6) ?_
      rintro r w ⟨rfl, rfl⟩
      have hnn := aroundV_range (m := q6) (q := 63) (by omega)
      generalize aroundV q6 63 = nn at hnn
      refine s_assign rfl rfl ?_
      refine WL_nil ?_
      refine n_then ?_
      refine W_seq ?_
      refine W_region ?_
      refine s_move rfl rfl ?_
      refine s_build rfl rfl (BD47_0 _) ?_
      refine s_alloc rfl AL47 hs ?_; clear hs; intro b7 w hs
      first
        | refine s_storeW Try.sizeOf47 rfl rfl rfl rfl hs (kk := 0) rfl rfl ?_
        | refine s_storeW Try.sizeOf47 rfl rfl rfl rfl hs (kk := 1) rfl rfl ?_
        | refine s_storeW Try.sizeOf47 rfl rfl rfl rfl hs (kk := 2) rfl rfl ?_
        | refine s_storeAB Try.sizeOf47 rfl rfl rfl rfl hs (kk := 0) rfl rfl ?_
        | refine s_storeAB Try.sizeOf47 rfl rfl rfl rfl hs (kk := 1) rfl rfl ?_
        | refine s_storeAB Try.sizeOf47 rfl rfl rfl rfl hs (kk := 2) rfl rfl ?_
      clear hs; intro w hs; try simp only [List.set_cons_zero, List.set_cons_succ, splice, List.take_succ_cons, List.take_zero, List.drop_succ_cons, List.drop_zero, List.nil_append, List.cons_append, List.length_cons, List.length_nil, Nat.reduceAdd, List.append_assoc] at hs
      refine WL_nil ?_
      refine n_then ?_
      refine W_cut (σ := VV) (fun _ => [(0, .slice a xs.length c), (3, v3), (4, .int .i64 (i : Int)), (7, .pointer (some ⟨b7, 0, none⟩))])
        (fun x w => St [] w0 w ((b7, Blk 47 x.cells) :: (Lv ++ (vblks vs ++ x.L))) ∧ VV.gen x ∧ x.bv.oneCell' = true ∧ x.lv.oneCell' = true) ?_ ?_
      · skip
        refine W_seq ?_
        refine W_region ?_
        refine s_move rfl rfl ?_
        refine WL_nil ?_
        refine n_then ?_
        refine W_block ?_
        refine W_seq ?_
        refine W_region ?_
        refine s_eql rfl rfl rfl ?_
        refine s_assign rfl rfl ?_
        refine WL_nil ?_
        refine n_then ?_
        refine W_cond rfl (fun hc53 => ?_) (fun hc53 => ?_)
        · skip
          try simp only [decide_eq_true_eq, decide_eq_false_iff_not, beq_iff_eq, beq_eq_false_iff_ne, ne_eq] at hc53
          refine W_region ?_
          refine s_move rfl rfl ?_
          refine s_move rfl rfl ?_
          (refine s_indexAddrO El33 rfl rfl rfl hA1 ?hx ?_; case hx => (constructor <;> omega))
          first
            | refine s_load Try.isAgg3 rfl rfl (hs.cell (k := 0) rfl rfl) ?_
            | refine s_load Try.isAgg3 rfl rfl (hs.cell (k := 1) rfl rfl) ?_
            | refine s_load Try.isAgg3 rfl rfl (hs.cell (k := 2) rfl rfl) ?_
            | refine s_load Try.isAgg3 rfl rfl ((hs.oldcell (a := ⟨b1, o1 + i, none⟩) hB1 (by simp)).trans hc1) ?_
          refine s_convert rfl rfl (CV3_22 _) ?_
          refine s_move rfl rfl ?_
          refine s_convert rfl rfl (CV3_22 _) ?_
          (refine s_shr rfl rfl rfl ?hx ?_; case hx => (rw [wrapU64]; omega))
          obtain ⟨k, hkk, hk64⟩ : ∃ k : Nat, (IntKind.u64.wrap q).fdiv (2 ^ (min (IntKind.u64.wrap nn).toNat IntKind.u64.bits)) = k ∧ k < 18446744073709551616 := by
            have h0 : 0 ≤ IntKind.u64.wrap q ∧ IntKind.u64.wrap q < 18446744073709551616 := by rw [wrapU64]; omega
            have hp : (0 : Int) < 2 ^ (min (IntKind.u64.wrap nn).toNat IntKind.u64.bits) := Int.pow_pos (by omega)
            rw [Int.fdiv_eq_ediv_of_nonneg _ (Int.le_of_lt hp)]
            have h1 := Int.ediv_nonneg h0.1 (Int.le_of_lt hp)
            have h2 := Int.ediv_le_self (2 ^ (min (IntKind.u64.wrap nn).toNat IntKind.u64.bits)) h0.1
            exact ⟨_, (Int.toNat_of_nonneg h1).symm, by omega⟩
          rw [hkk]
          refine s_fieldAddr rfl rfl (FA47_1 _ _) ?_
          first
            | refine s_storeB Try.sizeOf22 rfl rfl rfl hs (kk := 0) rfl rfl ?_
            | refine s_storeB Try.sizeOf22 rfl rfl rfl hs (kk := 1) rfl rfl ?_
            | refine s_storeB Try.sizeOf22 rfl rfl rfl hs (kk := 2) rfl rfl ?_
          clear hs; intro w hs; try simp only [List.set_cons_zero, List.set_cons_succ, splice, List.take_succ_cons, List.take_zero, List.drop_succ_cons, List.drop_zero, List.nil_append, List.cons_append, List.length_cons, List.length_nil, Nat.reduceAdd, List.append_assoc] at hs
          refine WL_nil ?_
          refine n_blk ?_
          refine n_loop ?_
          first
            | exact ⟨⟨⟨kd, k, 0, [], []⟩, .slice none 0 0, [], .slice none 0 0, []⟩, ⟨rfl, rfl, rfl, rfl, trivial⟩, by simpa [VV.L, VV.cells] using hs, ⟨⟨⟨hk64, by unfold isI64; simp, by simp, by simp, by simp, by simp⟩, RdS.nil, RdS.nil⟩, .inl ⟨‹_›, rfl, rfl, rfl⟩, by simp, by simp⟩, rfl, rfl⟩
            | exact ⟨⟨⟨kd, 0, nq, [], []⟩, .slice none 0 0, [], .slice none 0 0, []⟩, ⟨rfl, rfl, rfl, rfl, trivial⟩, by simpa [VV.L, VV.cells] using hs, ⟨⟨⟨by simp, hN, by simp, by simp, by simp, by simp⟩, RdS.nil, RdS.nil⟩, .inr (.inl ⟨‹_›, rfl, rfl, rfl⟩), by simp, by simp⟩, rfl, rfl⟩
            | exact ⟨⟨⟨kd, 0, nn % 2, [], []⟩, .slice none 0 0, [], .slice none 0 0, []⟩, ⟨rfl, rfl, rfl, rfl, trivial⟩, by simpa [VV.L, VV.cells] using hs, ⟨⟨⟨by simp, by unfold isI64; simp only; omega, by simp, by simp, by simp, by simp⟩, RdS.nil, RdS.nil⟩, .inr (.inr (.inl ⟨‹_›, rfl, by simp only; omega, rfl, rfl⟩)), by simp, by simp⟩, rfl, rfl⟩
            | exact ⟨⟨⟨kd, 0, 0, zs, []⟩, .slice bva zs.length bvc, Lb, .slice none 0 0, []⟩, ⟨rfl, rfl, rfl, rfl, trivial⟩, by simpa [VV.L, VV.cells] using hs, ⟨⟨⟨by simp, by unfold isI64; simp, hzB, by simp, by simp only; omega, by simp⟩, hOb.rdS, RdS.nil⟩, .inr (.inr (.inr (.inl ⟨by simp only; omega, rfl, rfl, rfl⟩))), by simp only; omega, by simp⟩, rfl, rfl⟩
            | exact ⟨⟨⟨kd, 0, 0, [], zs⟩, .slice none 0 0, [], .slice bva zs.length bvc, Lb⟩, ⟨rfl, rfl, rfl, rfl, trivial⟩, by simpa [VV.L, VV.cells] using hs, ⟨⟨⟨by simp, by unfold isI64; simp, by simp, hzB, by simp, by simp only; omega⟩, RdS.nil, hOb.rdS⟩, .inr (.inr (.inr (.inr ⟨by simp only; omega, rfl, rfl, rfl⟩))), by simp, by simp only; omega⟩, rfl, rfl⟩
        · skip
          try simp only [decide_eq_true_eq, decide_eq_false_iff_not, beq_iff_eq, beq_eq_false_iff_ne, ne_eq] at hc53
          refine W_seq ?_
          refine W_region ?_
          refine s_eql rfl rfl rfl ?_
          refine s_assign rfl rfl ?_
          refine WL_nil ?_
          refine n_then ?_
          refine W_cond rfl (fun hc64 => ?_) (fun hc64 => ?_)
          · skip
            try simp only [decide_eq_true_eq, decide_eq_false_iff_not, beq_iff_eq, beq_eq_false_iff_ne, ne_eq] at hc64
            refine W_region ?_
            refine s_move rfl rfl ?_
            refine s_move rfl rfl ?_
            (refine s_indexAddrO El33 rfl rfl rfl hA1 ?hx ?_; case hx => (constructor <;> omega))
            first
              | refine s_load Try.isAgg3 rfl rfl (hs.cell (k := 0) rfl rfl) ?_
              | refine s_load Try.isAgg3 rfl rfl (hs.cell (k := 1) rfl rfl) ?_
              | refine s_load Try.isAgg3 rfl rfl (hs.cell (k := 2) rfl rfl) ?_
              | refine s_load Try.isAgg3 rfl rfl ((hs.oldcell (a := ⟨b1, o1 + i, none⟩) hB1 (by simp)).trans hc1) ?_
            refine s_move rfl rfl ?_
            refine s_convert rfl rfl (CV3_22 _) ?_
            (refine s_shr rfl rfl rfl ?hx ?_; case hx => (rw [wrapU64]; omega))
            have hN := fdiv_i64 hm (min (IntKind.u64.wrap nn).toNat IntKind.i64.bits)
            generalize q.fdiv (2 ^ (min (IntKind.u64.wrap nn).toNat IntKind.i64.bits)) = nq at hN
            refine s_fieldAddr rfl rfl (FA47_2 _ _) ?_
            first
              | refine s_storeB Try.sizeOf3 rfl rfl rfl hs (kk := 0) rfl rfl ?_
              | refine s_storeB Try.sizeOf3 rfl rfl rfl hs (kk := 1) rfl rfl ?_
              | refine s_storeB Try.sizeOf3 rfl rfl rfl hs (kk := 2) rfl rfl ?_
            clear hs; intro w hs; try simp only [List.set_cons_zero, List.set_cons_succ, splice, List.take_succ_cons, List.take_zero, List.drop_succ_cons, List.drop_zero, List.nil_append, List.cons_append, List.length_cons, List.length_nil, Nat.reduceAdd, List.append_assoc] at hs
            refine WL_nil ?_
            refine n_blk ?_
            refine n_loop ?_
            first
              | exact ⟨⟨⟨kd, k, 0, [], []⟩, .slice none 0 0, [], .slice none 0 0, []⟩, ⟨rfl, rfl, rfl, rfl, trivial⟩, by simpa [VV.L, VV.cells] using hs, ⟨⟨⟨hk64, by unfold isI64; simp, by simp, by simp, by simp, by simp⟩, RdS.nil, RdS.nil⟩, .inl ⟨‹_›, rfl, rfl, rfl⟩, by simp, by simp⟩, rfl, rfl⟩
              | exact ⟨⟨⟨kd, 0, nq, [], []⟩, .slice none 0 0, [], .slice none 0 0, []⟩, ⟨rfl, rfl, rfl, rfl, trivial⟩, by simpa [VV.L, VV.cells] using hs, ⟨⟨⟨by simp, hN, by simp, by simp, by simp, by simp⟩, RdS.nil, RdS.nil⟩, .inr (.inl ⟨‹_›, rfl, rfl, rfl⟩), by simp, by simp⟩, rfl, rfl⟩
              | exact ⟨⟨⟨kd, 0, nn % 2, [], []⟩, .slice none 0 0, [], .slice none 0 0, []⟩, ⟨rfl, rfl, rfl, rfl, trivial⟩, by simpa [VV.L, VV.cells] using hs, ⟨⟨⟨by simp, by unfold isI64; simp only; omega, by simp, by simp, by simp, by simp⟩, RdS.nil, RdS.nil⟩, .inr (.inr (.inl ⟨‹_›, rfl, by simp only; omega, rfl, rfl⟩)), by simp, by simp⟩, rfl, rfl⟩
              | exact ⟨⟨⟨kd, 0, 0, zs, []⟩, .slice bva zs.length bvc, Lb, .slice none 0 0, []⟩, ⟨rfl, rfl, rfl, rfl, trivial⟩, by simpa [VV.L, VV.cells] using hs, ⟨⟨⟨by simp, by unfold isI64; simp, hzB, by simp, by simp only; omega, by simp⟩, hOb.rdS, RdS.nil⟩, .inr (.inr (.inr (.inl ⟨by simp only; omega, rfl, rfl, rfl⟩))), by simp only; omega, by simp⟩, rfl, rfl⟩
              | exact ⟨⟨⟨kd, 0, 0, [], zs⟩, .slice none 0 0, [], .slice bva zs.length bvc, Lb⟩, ⟨rfl, rfl, rfl, rfl, trivial⟩, by simpa [VV.L, VV.cells] using hs, ⟨⟨⟨by simp, by unfold isI64; simp, by simp, hzB, by simp, by simp only; omega⟩, RdS.nil, hOb.rdS⟩, .inr (.inr (.inr (.inr ⟨by simp only; omega, rfl, rfl, rfl⟩))), by simp, by simp only; omega⟩, rfl, rfl⟩
          · skip
            try simp only [decide_eq_true_eq, decide_eq_false_iff_not, beq_iff_eq, beq_eq_false_iff_ne, ne_eq] at hc64
            refine W_seq ?_
            refine W_region ?_
            refine s_eql rfl rfl rfl ?_
            refine s_assign rfl rfl ?_
            refine WL_nil ?_
            refine n_then ?_
            refine W_cond rfl (fun hc74 => ?_) (fun hc74 => ?_)
            · skip
              try simp only [decide_eq_true_eq, decide_eq_false_iff_not, beq_iff_eq, beq_eq_false_iff_ne, ne_eq] at hc74
              refine W_region ?_
              refine s_move rfl rfl ?_
              first | (refine s_rem' rfl rfl rfl ?hx ?_; case hx => (refine ⟨?_, ?_⟩ <;> omega)) | (refine s_rem rfl rfl rfl ?hx ?_; case hx => omega)
              refine s_fieldAddr rfl rfl (FA47_2 _ _) ?_
              first
                | refine s_storeB Try.sizeOf3 rfl rfl rfl hs (kk := 0) rfl rfl ?_
                | refine s_storeB Try.sizeOf3 rfl rfl rfl hs (kk := 1) rfl rfl ?_
                | refine s_storeB Try.sizeOf3 rfl rfl rfl hs (kk := 2) rfl rfl ?_
              clear hs; intro w hs; try simp only [List.set_cons_zero, List.set_cons_succ, splice, List.take_succ_cons, List.take_zero, List.drop_succ_cons, List.drop_zero, List.nil_append, List.cons_append, List.length_cons, List.length_nil, Nat.reduceAdd, List.append_assoc] at hs
              refine WL_nil ?_
              refine n_blk ?_
              refine n_loop ?_
              first
                | exact ⟨⟨⟨kd, k, 0, [], []⟩, .slice none 0 0, [], .slice none 0 0, []⟩, ⟨rfl, rfl, rfl, rfl, trivial⟩, by simpa [VV.L, VV.cells] using hs, ⟨⟨⟨hk64, by unfold isI64; simp, by simp, by simp, by simp, by simp⟩, RdS.nil, RdS.nil⟩, .inl ⟨‹_›, rfl, rfl, rfl⟩, by simp, by simp⟩, rfl, rfl⟩
                | exact ⟨⟨⟨kd, 0, nq, [], []⟩, .slice none 0 0, [], .slice none 0 0, []⟩, ⟨rfl, rfl, rfl, rfl, trivial⟩, by simpa [VV.L, VV.cells] using hs, ⟨⟨⟨by simp, hN, by simp, by simp, by simp, by simp⟩, RdS.nil, RdS.nil⟩, .inr (.inl ⟨‹_›, rfl, rfl, rfl⟩), by simp, by simp⟩, rfl, rfl⟩
                | exact ⟨⟨⟨kd, 0, nn % 2, [], []⟩, .slice none 0 0, [], .slice none 0 0, []⟩, ⟨rfl, rfl, rfl, rfl, trivial⟩, by simpa [VV.L, VV.cells] using hs, ⟨⟨⟨by simp, by unfold isI64; simp only; omega, by simp, by simp, by simp, by simp⟩, RdS.nil, RdS.nil⟩, .inr (.inr (.inl ⟨‹_›, rfl, by simp only; omega, rfl, rfl⟩)), by simp, by simp⟩, rfl, rfl⟩
                | exact ⟨⟨⟨kd, 0, 0, zs, []⟩, .slice bva zs.length bvc, Lb, .slice none 0 0, []⟩, ⟨rfl, rfl, rfl, rfl, trivial⟩, by simpa [VV.L, VV.cells] using hs, ⟨⟨⟨by simp, by unfold isI64; simp, hzB, by simp, by simp only; omega, by simp⟩, hOb.rdS, RdS.nil⟩, .inr (.inr (.inr (.inl ⟨by simp only; omega, rfl, rfl, rfl⟩))), by simp only; omega, by simp⟩, rfl, rfl⟩
                | exact ⟨⟨⟨kd, 0, 0, [], zs⟩, .slice none 0 0, [], .slice bva zs.length bvc, Lb⟩, ⟨rfl, rfl, rfl, rfl, trivial⟩, by simpa [VV.L, VV.cells] using hs, ⟨⟨⟨by simp, by unfold isI64; simp, by simp, hzB, by simp, by simp only; omega⟩, RdS.nil, hOb.rdS⟩, .inr (.inr (.inr (.inr ⟨by simp only; omega, rfl, rfl, rfl⟩))), by simp, by simp only; omega⟩, rfl, rfl⟩
            · skip
              try simp only [decide_eq_true_eq, decide_eq_false_iff_not, beq_iff_eq, beq_eq_false_iff_ne, ne_eq] at hc74
              refine W_seq ?_
              refine W_seq ?_
              refine W_region ?_
              refine s_eql rfl rfl rfl ?_
              refine s_assign rfl rfl ?_
              refine WL_nil ?_
              refine n_then ?_
              refine W_cond rfl (fun hc79 => ?_) (fun hc79 => ?_)
              · skip
                try simp only [decide_eq_true_eq, decide_eq_false_iff_not, beq_iff_eq, beq_eq_false_iff_ne, ne_eq] at hc79
                refine W_skip ?_
                refine n_then ?_
                refine W_cond rfl (fun hc79 => ?_) (fun hc79 => ?_)
                · skip
                  try simp only [decide_eq_true_eq, decide_eq_false_iff_not, beq_iff_eq, beq_eq_false_iff_ne, ne_eq] at hc79
                  refine W_seq ?_
                  refine W_region ?_
                  refine s_assign rfl rfl ?_
                  refine WL_nil ?_
                  refine n_then ?_
                  refine W_block ?_
                  refine W_loop (σ := BS) (fun s => [(0, .slice a xs.length c), (3, v3), (4, .int .i64 (i : Int)), (6, .int .i64 nn), (7, .pointer (some ⟨b7, 0, none⟩)), (8, .int .i64 (s.j : Int))])
                    (fun s w => St [] w0 w ((b7, Blk 47 [.int .i64 kd, .int .u64 0, .int .i64 0, s.v, .slice none 0 0]) :: (Lv ++ (vblks vs ++ s.L))) ∧ OwnS 5 1 s.v s.zs.length (u8s s.zs) s.L ∧ (∀ b ∈ s.zs, isB b) ∧ s.zs.length = s.j ∧ (s.j : Int) ≤ nn % 10) (fun s => 10 - s.j) ⟨0, [], .slice none 0 0, []⟩ ⟨rfl, rfl, rfl, rfl, rfl, rfl, trivial⟩ ⟨by simpa using hs, OwnS.nil _ _, by simp, rfl, by simp only; omega⟩ ?_
                  clear hs
                  rintro ⟨j, zs, bv, Lb⟩ w ⟨hs, hOb, hzB, hzl, hj9⟩
                  simp only at hs hOb hzB hzl hj9 ⊢
                  obtain ⟨_, bvc, bva, rfl, rfl⟩ := hOb.form
                  refine W_seq ?_
                  refine W_seq ?_
                  refine W_region ?_
                  refine s_move rfl rfl ?_
                  refine s_move rfl rfl ?_
                  first | (refine s_rem' rfl rfl rfl ?hx ?_; case hx => (refine ⟨?_, ?_⟩ <;> omega)) | (refine s_rem rfl rfl rfl ?hx ?_; case hx => omega)
                  refine s_lss rfl rfl rfl ?_
                  refine WL_nil ?_
                  refine n_then ?_
                  refine W_cond rfl (fun hc85 => ?_) (fun hc85 => ?_)
                  · skip
                    try simp only [decide_eq_true_eq, decide_eq_false_iff_not, beq_iff_eq, beq_eq_false_iff_ne, ne_eq] at hc85
                    refine W_skip ?_
                    refine n_then ?_
                    refine W_seq ?_
                    refine W_block ?_
                    refine W_draw [(0, true, []), (1, true, []), (2, true, []), (3, true, []), (4, true, []), (5, true, []), (6, true, []), (7, true, []), (8, true, []), (9, true, []), (10, false, [0, 1]), (11, false, []), (12, true, []), (13, false, [])] MX (by kernel_rfl) ?_
                    intro w1 hw1 hw2 hw3 hw4; replace hs := hs.redrawn hw1 hw2 hw3 hw4; clear hw1 hw2 hw3 hw4
                    obtain ⟨w, rfl⟩ : ∃ w : World, w = w1 := ⟨_, rfl⟩
                    refine D_q rfl rfl ?_
                    refine s_fieldAddr rfl rfl (FA47_3 _ _) ?_
                    refine D_qn ?_
                    refine D_q rfl rfl ?_
                    first
                      | refine s_load Try.isAgg24 rfl rfl (hs.cell (k := 0) rfl rfl) ?_
                      | refine s_load Try.isAgg24 rfl rfl (hs.cell (k := 1) rfl rfl) ?_
                      | refine s_load Try.isAgg24 rfl rfl (hs.cell (k := 2) rfl rfl) ?_
                      | refine s_load Try.isAgg24 rfl rfl ((hs.oldcell (a := ⟨b1, o1 + i, none⟩) hB1 (by simp)).trans hc1) ?_
                    refine D_qn ?_
                    refine D_q rfl rfl ?_
                    refine s_move rfl rfl ?_
                    refine D_qn ?_
                    refine D_q rfl rfl ?_
                    refine s_move rfl rfl ?_
                    refine D_qn ?_
                    refine D_q rfl rfl ?_
                    (refine s_indexAddrO El33 rfl rfl rfl hA1 ?hx ?_; case hx => (constructor <;> omega))
                    refine D_qn ?_
                    refine D_q rfl rfl ?_
                    first
                      | refine s_load Try.isAgg3 rfl rfl (hs.cell (k := 0) rfl rfl) ?_
                      | refine s_load Try.isAgg3 rfl rfl (hs.cell (k := 1) rfl rfl) ?_
                      | refine s_load Try.isAgg3 rfl rfl (hs.cell (k := 2) rfl rfl) ?_
                      | refine s_load Try.isAgg3 rfl rfl ((hs.oldcell (a := ⟨b1, o1 + i, none⟩) hB1 (by simp)).trans hc1) ?_
                    refine D_qn ?_
                    refine D_q rfl rfl ?_
                    refine s_move rfl rfl ?_
                    refine D_qn ?_
                    refine D_q rfl rfl ?_
                    refine s_convert rfl rfl (CV3_22 _) ?_
                    refine D_qn ?_
                    refine D_q rfl rfl ?_
                    (refine s_shr rfl rfl rfl ?hx ?_; case hx => (rw [wrapU64]; omega))
                    refine D_qn ?_
                    refine D_q rfl rfl ?_
                    refine s_convert rfl rfl (CV3_5 _) ?_
                    have hb8 : isB (IntKind.u8.wrap (q.fdiv (2 ^ (min (IntKind.u64.wrap (j : Int)).toNat IntKind.i64.bits)))) := by unfold isB; rw [IntKind.wrap_u8]; omega
                    generalize IntKind.u8.wrap (q.fdiv (2 ^ (min (IntKind.u64.wrap (j : Int)).toNat IntKind.i64.bits))) = zb at hb8
                    refine D_qn ?_
                    refine D_e rfl ?_
                    refine s_buildSlice rfl rfl (BS24_1 _) hs ?_; clear hs; intro b98 w hs
                    refine D_en ?re ?_
                    case re =>
                      refine Reks_cons rfl rfl rfl rfl ?_ ?_
                      · skip
                        refine s_fieldAddr rfl rfl (FA47_3 _ _) ?_
                        exact Rek_end rfl
                      refine Reks_cons rfl rfl rfl rfl ?_ ?_
                      · skip
                        first
                          | refine s_load Try.isAgg24 rfl rfl (hs.cell (k := 0) rfl rfl) ?_
                          | refine s_load Try.isAgg24 rfl rfl (hs.cell (k := 1) rfl rfl) ?_
                          | refine s_load Try.isAgg24 rfl rfl (hs.cell (k := 2) rfl rfl) ?_
                          | refine s_load Try.isAgg24 rfl rfl ((hs.oldcell (a := ⟨b1, o1 + i, none⟩) hB1 (by simp)).trans hc1) ?_
                        exact Rek_end rfl
                      exact Reks_nil
                    refine D_e rfl ?_
                    refine s_appendM (M := _ :: _ :: (Lv ++ vblks vs)) (Lv := Lb) (X := []) El24 rfl rfl rfl hOb (by simpa using hs) (hs.sl (k := 0) (ds := [_]) rfl (Nat.le_refl _) (by intro j u hj; rw [Nat.zero_add]; exact hj)) rfl (by simp [Value.oneCell']) (by omega) ?_
                    clear hs; intro v' w Lv' hO' hs
                    simp only [List.cons_append, List.append_nil, List.append_assoc] at hs
                    obtain ⟨_, bvc', bva', rfl, rfl⟩ := hO'.form
                    refine D_en ?re ?_
                    case re =>
                      exact Reks_nil
                    refine D_q rfl rfl ?_
                    refine s_fieldAddr rfl rfl (FA47_3 _ _) ?_
                    refine D_qn ?_
                    refine D_e rfl ?_
                    first
                      | refine s_storeB Try.sizeOf24 rfl rfl rfl hs (kk := 0) rfl rfl ?_
                      | refine s_storeB Try.sizeOf24 rfl rfl rfl hs (kk := 1) rfl rfl ?_
                      | refine s_storeB Try.sizeOf24 rfl rfl rfl hs (kk := 2) rfl rfl ?_
                    clear hs; intro w hs; try simp only [List.set_cons_zero, List.set_cons_succ, splice, List.take_succ_cons, List.take_zero, List.drop_succ_cons, List.drop_zero, List.nil_append, List.cons_append, List.length_cons, List.length_nil, Nat.reduceAdd, List.append_assoc] at hs
                    refine D_en ?re ?_
                    case re =>
                      exact Reks_nil
                    refine D_nil ?_
                    refine n_blk ?_
                    refine n_then ?_
                    refine W_region ?_
                    refine s_move rfl rfl ?_
                    first | (refine s_add' rfl rfl rfl ?hx ?_; case hx => (constructor <;> first | omega | (simp only; omega))) | refine s_add rfl rfl rfl ?_
                    refine s_assign rfl rfl ?_
                    refine WL_nil ?_
                    refine n_loop ?_
                    refine ⟨⟨j + 1, zs ++ [zb], _, Lv'⟩, ⟨rfl, rfl, rfl, rfl, rfl, rfl, trivial⟩, ⟨hs.tail, by simpa using hO', ?_, by simp [hzl], by simp only; omega⟩, by simp only; omega⟩
                    intro b hb; rcases List.mem_append.1 hb with h | h
                    · exact hzB b h
                    · simp at h; subst h; exact hb8
                  · skip
                    try simp only [decide_eq_true_eq, decide_eq_false_iff_not, beq_iff_eq, beq_eq_false_iff_ne, ne_eq] at hc85
                    refine W_exit ?_
                    refine x_then ?_
                    refine x_then ?_
                    refine exit_hit ?_
                    refine n_blk ?_
                    refine n_loop ?_
                    first
                      | exact ⟨⟨⟨kd, k, 0, [], []⟩, .slice none 0 0, [], .slice none 0 0, []⟩, ⟨rfl, rfl, rfl, rfl, trivial⟩, by simpa [VV.L, VV.cells] using hs, ⟨⟨⟨hk64, by unfold isI64; simp, by simp, by simp, by simp, by simp⟩, RdS.nil, RdS.nil⟩, .inl ⟨‹_›, rfl, rfl, rfl⟩, by simp, by simp⟩, rfl, rfl⟩
                      | exact ⟨⟨⟨kd, 0, nq, [], []⟩, .slice none 0 0, [], .slice none 0 0, []⟩, ⟨rfl, rfl, rfl, rfl, trivial⟩, by simpa [VV.L, VV.cells] using hs, ⟨⟨⟨by simp, hN, by simp, by simp, by simp, by simp⟩, RdS.nil, RdS.nil⟩, .inr (.inl ⟨‹_›, rfl, rfl, rfl⟩), by simp, by simp⟩, rfl, rfl⟩
                      | exact ⟨⟨⟨kd, 0, nn % 2, [], []⟩, .slice none 0 0, [], .slice none 0 0, []⟩, ⟨rfl, rfl, rfl, rfl, trivial⟩, by simpa [VV.L, VV.cells] using hs, ⟨⟨⟨by simp, by unfold isI64; simp only; omega, by simp, by simp, by simp, by simp⟩, RdS.nil, RdS.nil⟩, .inr (.inr (.inl ⟨‹_›, rfl, by simp only; omega, rfl, rfl⟩)), by simp, by simp⟩, rfl, rfl⟩
                      | exact ⟨⟨⟨kd, 0, 0, zs, []⟩, .slice bva zs.length bvc, Lb, .slice none 0 0, []⟩, ⟨rfl, rfl, rfl, rfl, trivial⟩, by simpa [VV.L, VV.cells] using hs, ⟨⟨⟨by simp, by unfold isI64; simp, hzB, by simp, by simp only; omega, by simp⟩, hOb.rdS, RdS.nil⟩, .inr (.inr (.inr (.inl ⟨by simp only; omega, rfl, rfl, rfl⟩))), by simp only; omega, by simp⟩, rfl, rfl⟩
                      | exact ⟨⟨⟨kd, 0, 0, [], zs⟩, .slice none 0 0, [], .slice bva zs.length bvc, Lb⟩, ⟨rfl, rfl, rfl, rfl, trivial⟩, by simpa [VV.L, VV.cells] using hs, ⟨⟨⟨by simp, by unfold isI64; simp, by simp, hzB, by simp, by simp only; omega⟩, RdS.nil, hOb.rdS⟩, .inr (.inr (.inr (.inr ⟨by simp only; omega, rfl, rfl, rfl⟩))), by simp, by simp only; omega⟩, rfl, rfl⟩
                · skip
                  try simp only [decide_eq_true_eq, decide_eq_false_iff_not, beq_iff_eq, beq_eq_false_iff_ne, ne_eq] at hc79
                  refine W_seq ?_
                  refine W_region ?_
                  refine s_assign rfl rfl ?_
                  refine WL_nil ?_
                  refine n_then ?_
                  refine W_block ?_
                  refine W_loop (σ := BS) (fun s => [(0, .slice a xs.length c), (3, v3), (4, .int .i64 (i : Int)), (6, .int .i64 nn), (7, .pointer (some ⟨b7, 0, none⟩)), (9, .int .i64 (s.j : Int))])
                    (fun s w => St [] w0 w ((b7, Blk 47 [.int .i64 kd, .int .u64 0, .int .i64 0, .slice none 0 0, s.v]) :: (Lv ++ (vblks vs ++ s.L))) ∧ OwnS 3 1 s.v s.zs.length (i64s s.zs) s.L ∧ (∀ b ∈ s.zs, isI64 b) ∧ s.zs.length = s.j ∧ (s.j : Int) ≤ nn % 5) (fun s => 5 - s.j) ⟨0, [], .slice none 0 0, []⟩ ⟨rfl, rfl, rfl, rfl, rfl, rfl, trivial⟩ ⟨by simpa using hs, OwnS.nil _ _, by simp, rfl, by simp only; omega⟩ ?_
                  clear hs
                  rintro ⟨j, zs, bv, Lb⟩ w ⟨hs, hOb, hzB, hzl, hj9⟩
                  simp only at hs hOb hzB hzl hj9 ⊢
                  obtain ⟨_, bvc, bva, rfl, rfl⟩ := hOb.form
                  refine W_seq ?_
                  refine W_seq ?_
                  refine W_region ?_
                  refine s_move rfl rfl ?_
                  refine s_move rfl rfl ?_
                  first | (refine s_rem' rfl rfl rfl ?hx ?_; case hx => (refine ⟨?_, ?_⟩ <;> omega)) | (refine s_rem rfl rfl rfl ?hx ?_; case hx => omega)
                  refine s_lss rfl rfl rfl ?_
                  refine WL_nil ?_
                  refine n_then ?_
                  refine W_cond rfl (fun hc37 => ?_) (fun hc37 => ?_)
                  · skip
                    try simp only [decide_eq_true_eq, decide_eq_false_iff_not, beq_iff_eq, beq_eq_false_iff_ne, ne_eq] at hc37
                    refine W_skip ?_
                    refine n_then ?_
                    refine W_seq ?_
                    refine W_block ?_
                    refine W_draw [(0, true, []), (1, true, []), (2, true, []), (3, true, []), (4, true, []), (5, true, []), (6, true, []), (7, true, []), (8, true, []), (9, true, []), (10, false, [0, 1]), (11, false, []), (12, true, []), (13, false, [])] MX (by kernel_rfl) ?_
                    intro w1 hw1 hw2 hw3 hw4; replace hs := hs.redrawn hw1 hw2 hw3 hw4; clear hw1 hw2 hw3 hw4
                    obtain ⟨w, rfl⟩ : ∃ w : World, w = w1 := ⟨_, rfl⟩
                    refine D_q rfl rfl ?_
                    refine s_fieldAddr rfl rfl (FA47_4 _ _) ?_
                    refine D_qn ?_
                    refine D_q rfl rfl ?_
                    first
                      | refine s_load Try.isAgg33 rfl rfl (hs.cell (k := 0) rfl rfl) ?_
                      | refine s_load Try.isAgg33 rfl rfl (hs.cell (k := 1) rfl rfl) ?_
                      | refine s_load Try.isAgg33 rfl rfl (hs.cell (k := 2) rfl rfl) ?_
                      | refine s_load Try.isAgg33 rfl rfl ((hs.oldcell (a := ⟨b1, o1 + i, none⟩) hB1 (by simp)).trans hc1) ?_
                    refine D_qn ?_
                    refine D_q rfl rfl ?_
                    refine s_move rfl rfl ?_
                    refine D_qn ?_
                    refine D_q rfl rfl ?_
                    refine s_move rfl rfl ?_
                    refine D_qn ?_
                    refine D_q rfl rfl ?_
                    (refine s_indexAddrO El33 rfl rfl rfl hA1 ?hx ?_; case hx => (constructor <;> omega))
                    refine D_qn ?_
                    refine D_q rfl rfl ?_
                    first
                      | refine s_load Try.isAgg3 rfl rfl (hs.cell (k := 0) rfl rfl) ?_
                      | refine s_load Try.isAgg3 rfl rfl (hs.cell (k := 1) rfl rfl) ?_
                      | refine s_load Try.isAgg3 rfl rfl (hs.cell (k := 2) rfl rfl) ?_
                      | refine s_load Try.isAgg3 rfl rfl ((hs.oldcell (a := ⟨b1, o1 + i, none⟩) hB1 (by simp)).trans hc1) ?_
                    refine D_qn ?_
                    refine D_q rfl rfl ?_
                    refine s_move rfl rfl ?_
                    refine D_qn ?_
                    refine D_q rfl rfl ?_
                    first | (refine s_mul' rfl rfl rfl ?hx ?_; case hx => (constructor <;> first | omega | (simp only; omega))) | refine s_mul rfl rfl rfl ?_
                    refine D_qn ?_
                    refine D_q rfl rfl ?_
                    refine s_convert rfl rfl (CV3_22 _) ?_
                    refine D_qn ?_
                    refine D_q rfl rfl ?_
                    (refine s_shr rfl rfl rfl ?hx ?_; case hx => (rw [wrapU64]; omega))
                    have hN := fdiv_i64 hm (min (IntKind.u64.wrap (13 * (j : Int))).toNat IntKind.i64.bits)
                    generalize q.fdiv (2 ^ (min (IntKind.u64.wrap (13 * (j : Int))).toNat IntKind.i64.bits)) = zb at hN
                    refine D_qn ?_
                    refine D_e rfl ?_
                    refine s_buildSlice rfl rfl (BS33_1 _) hs ?_; clear hs; intro b50 w hs
                    refine D_en ?re ?_
                    case re =>
                      refine Reks_cons rfl rfl rfl rfl ?_ ?_
                      · skip
                        refine s_fieldAddr rfl rfl (FA47_4 _ _) ?_
                        exact Rek_end rfl
                      refine Reks_cons rfl rfl rfl rfl ?_ ?_
                      · skip
                        first
                          | refine s_load Try.isAgg33 rfl rfl (hs.cell (k := 0) rfl rfl) ?_
                          | refine s_load Try.isAgg33 rfl rfl (hs.cell (k := 1) rfl rfl) ?_
                          | refine s_load Try.isAgg33 rfl rfl (hs.cell (k := 2) rfl rfl) ?_
                          | refine s_load Try.isAgg33 rfl rfl ((hs.oldcell (a := ⟨b1, o1 + i, none⟩) hB1 (by simp)).trans hc1) ?_
                        exact Rek_end rfl
                      exact Reks_nil
                    refine D_e rfl ?_
                    refine s_appendM (M := _ :: _ :: (Lv ++ vblks vs)) (Lv := Lb) (X := []) El33 rfl rfl rfl hOb (by simpa using hs) (hs.sl (k := 0) (ds := [_]) rfl (Nat.le_refl _) (by intro j u hj; rw [Nat.zero_add]; exact hj)) rfl (by simp [Value.oneCell']) (by omega) ?_
                    clear hs; intro v' w Lv' hO' hs
                    simp only [List.cons_append, List.append_nil, List.append_assoc] at hs
                    obtain ⟨_, bvc', bva', rfl, rfl⟩ := hO'.form
                    refine D_en ?re ?_
                    case re =>
                      exact Reks_nil
                    refine D_q rfl rfl ?_
                    refine s_fieldAddr rfl rfl (FA47_4 _ _) ?_
                    refine D_qn ?_
                    refine D_e rfl ?_
                    first
                      | refine s_storeB Try.sizeOf33 rfl rfl rfl hs (kk := 0) rfl rfl ?_
                      | refine s_storeB Try.sizeOf33 rfl rfl rfl hs (kk := 1) rfl rfl ?_
                      | refine s_storeB Try.sizeOf33 rfl rfl rfl hs (kk := 2) rfl rfl ?_
                    clear hs; intro w hs; try simp only [List.set_cons_zero, List.set_cons_succ, splice, List.take_succ_cons, List.take_zero, List.drop_succ_cons, List.drop_zero, List.nil_append, List.cons_append, List.length_cons, List.length_nil, Nat.reduceAdd, List.append_assoc] at hs
                    refine D_en ?re ?_
                    case re =>
                      exact Reks_nil
                    refine D_nil ?_
                    refine n_blk ?_
                    refine n_then ?_
                    refine W_region ?_
                    refine s_move rfl rfl ?_
                    first | (refine s_add' rfl rfl rfl ?hx ?_; case hx => (constructor <;> first | omega | (simp only; omega))) | refine s_add rfl rfl rfl ?_
                    refine s_assign rfl rfl ?_
                    refine WL_nil ?_
                    refine n_loop ?_
                    refine ⟨⟨j + 1, zs ++ [zb], _, Lv'⟩, ⟨rfl, rfl, rfl, rfl, rfl, rfl, trivial⟩, ⟨hs.tail, by simpa using hO', ?_, by simp [hzl], by simp only; omega⟩, by simp only; omega⟩
                    intro b hb; rcases List.mem_append.1 hb with h | h
                    · exact hzB b h
                    · simp at h; subst h; exact hN
                  · skip
                    try simp only [decide_eq_true_eq, decide_eq_false_iff_not, beq_iff_eq, beq_eq_false_iff_ne, ne_eq] at hc37
                    refine W_exit ?_
                    refine x_then ?_
                    refine x_then ?_
                    refine exit_hit ?_
                    refine n_blk ?_
                    refine n_loop ?_
                    first
                      | exact ⟨⟨⟨kd, k, 0, [], []⟩, .slice none 0 0, [], .slice none 0 0, []⟩, ⟨rfl, rfl, rfl, rfl, trivial⟩, by simpa [VV.L, VV.cells] using hs, ⟨⟨⟨hk64, by unfold isI64; simp, by simp, by simp, by simp, by simp⟩, RdS.nil, RdS.nil⟩, .inl ⟨‹_›, rfl, rfl, rfl⟩, by simp, by simp⟩, rfl, rfl⟩
                      | exact ⟨⟨⟨kd, 0, nq, [], []⟩, .slice none 0 0, [], .slice none 0 0, []⟩, ⟨rfl, rfl, rfl, rfl, trivial⟩, by simpa [VV.L, VV.cells] using hs, ⟨⟨⟨by simp, hN, by simp, by simp, by simp, by simp⟩, RdS.nil, RdS.nil⟩, .inr (.inl ⟨‹_›, rfl, rfl, rfl⟩), by simp, by simp⟩, rfl, rfl⟩
                      | exact ⟨⟨⟨kd, 0, nn % 2, [], []⟩, .slice none 0 0, [], .slice none 0 0, []⟩, ⟨rfl, rfl, rfl, rfl, trivial⟩, by simpa [VV.L, VV.cells] using hs, ⟨⟨⟨by simp, by unfold isI64; simp only; omega, by simp, by simp, by simp, by simp⟩, RdS.nil, RdS.nil⟩, .inr (.inr (.inl ⟨‹_›, rfl, by simp only; omega, rfl, rfl⟩)), by simp, by simp⟩, rfl, rfl⟩
                      | exact ⟨⟨⟨kd, 0, 0, zs, []⟩, .slice bva zs.length bvc, Lb, .slice none 0 0, []⟩, ⟨rfl, rfl, rfl, rfl, trivial⟩, by simpa [VV.L, VV.cells] using hs, ⟨⟨⟨by simp, by unfold isI64; simp, hzB, by simp, by simp only; omega, by simp⟩, hOb.rdS, RdS.nil⟩, .inr (.inr (.inr (.inl ⟨by simp only; omega, rfl, rfl, rfl⟩))), by simp only; omega, by simp⟩, rfl, rfl⟩
                      | exact ⟨⟨⟨kd, 0, 0, [], zs⟩, .slice none 0 0, [], .slice bva zs.length bvc, Lb⟩, ⟨rfl, rfl, rfl, rfl, trivial⟩, by simpa [VV.L, VV.cells] using hs, ⟨⟨⟨by simp, by unfold isI64; simp, by simp, hzB, by simp, by simp only; omega⟩, RdS.nil, hOb.rdS⟩, .inr (.inr (.inr (.inr ⟨by simp only; omega, rfl, rfl, rfl⟩))), by simp, by simp only; omega⟩, rfl, rfl⟩
              · skip
                try simp only [decide_eq_true_eq, decide_eq_false_iff_not, beq_iff_eq, beq_eq_false_iff_ne, ne_eq] at hc79
                refine W_region ?_
                refine s_eql rfl rfl rfl ?_
                refine s_assign rfl rfl ?_
                refine WL_nil ?_
                refine n_then ?_
                refine W_cond rfl (fun hc79 => ?_) (fun hc79 => ?_)
                · skip
                  try simp only [decide_eq_true_eq, decide_eq_false_iff_not, beq_iff_eq, beq_eq_false_iff_ne, ne_eq] at hc79
                  refine W_seq ?_
                  refine W_region ?_
                  refine s_assign rfl rfl ?_
                  refine WL_nil ?_
                  refine n_then ?_
                  refine W_block ?_
                  refine W_loop (σ := BS) (fun s => [(0, .slice a xs.length c), (3, v3), (4, .int .i64 (i : Int)), (6, .int .i64 nn), (7, .pointer (some ⟨b7, 0, none⟩)), (8, .int .i64 (s.j : Int))])
                    (fun s w => St [] w0 w ((b7, Blk 47 [.int .i64 kd, .int .u64 0, .int .i64 0, s.v, .slice none 0 0]) :: (Lv ++ (vblks vs ++ s.L))) ∧ OwnS 5 1 s.v s.zs.length (u8s s.zs) s.L ∧ (∀ b ∈ s.zs, isB b) ∧ s.zs.length = s.j ∧ (s.j : Int) ≤ nn % 10) (fun s => 10 - s.j) ⟨0, [], .slice none 0 0, []⟩ ⟨rfl, rfl, rfl, rfl, rfl, rfl, trivial⟩ ⟨by simpa using hs, OwnS.nil _ _, by simp, rfl, by simp only; omega⟩ ?_
                  clear hs
                  rintro ⟨j, zs, bv, Lb⟩ w ⟨hs, hOb, hzB, hzl, hj9⟩
                  simp only at hs hOb hzB hzl hj9 ⊢
                  obtain ⟨_, bvc, bva, rfl, rfl⟩ := hOb.form
                  refine W_seq ?_
                  refine W_seq ?_
                  refine W_region ?_
                  refine s_move rfl rfl ?_
                  refine s_move rfl rfl ?_
                  first | (refine s_rem' rfl rfl rfl ?hx ?_; case hx => (refine ⟨?_, ?_⟩ <;> omega)) | (refine s_rem rfl rfl rfl ?hx ?_; case hx => omega)
                  refine s_lss rfl rfl rfl ?_
                  refine WL_nil ?_
                  refine n_then ?_
                  refine W_cond rfl (fun hc85 => ?_) (fun hc85 => ?_)
                  · skip
                    try simp only [decide_eq_true_eq, decide_eq_false_iff_not, beq_iff_eq, beq_eq_false_iff_ne, ne_eq] at hc85
                    refine W_skip ?_
                    refine n_then ?_
                    refine W_seq ?_
                    refine W_block ?_
                    refine W_draw [(0, true, []), (1, true, []), (2, true, []), (3, true, []), (4, true, []), (5, true, []), (6, true, []), (7, true, []), (8, true, []), (9, true, []), (10, false, [0, 1]), (11, false, []), (12, true, []), (13, false, [])] MX (by kernel_rfl) ?_
                    intro w1 hw1 hw2 hw3 hw4; replace hs := hs.redrawn hw1 hw2 hw3 hw4; clear hw1 hw2 hw3 hw4
                    obtain ⟨w, rfl⟩ : ∃ w : World, w = w1 := ⟨_, rfl⟩
                    refine D_q rfl rfl ?_
                    refine s_fieldAddr rfl rfl (FA47_3 _ _) ?_
                    refine D_qn ?_
                    refine D_q rfl rfl ?_
                    first
                      | refine s_load Try.isAgg24 rfl rfl (hs.cell (k := 0) rfl rfl) ?_
                      | refine s_load Try.isAgg24 rfl rfl (hs.cell (k := 1) rfl rfl) ?_
                      | refine s_load Try.isAgg24 rfl rfl (hs.cell (k := 2) rfl rfl) ?_
                      | refine s_load Try.isAgg24 rfl rfl ((hs.oldcell (a := ⟨b1, o1 + i, none⟩) hB1 (by simp)).trans hc1) ?_
                    refine D_qn ?_
                    refine D_q rfl rfl ?_
                    refine s_move rfl rfl ?_
                    refine D_qn ?_
                    refine D_q rfl rfl ?_
                    refine s_move rfl rfl ?_
                    refine D_qn ?_
                    refine D_q rfl rfl ?_
                    (refine s_indexAddrO El33 rfl rfl rfl hA1 ?hx ?_; case hx => (constructor <;> omega))
                    refine D_qn ?_
                    refine D_q rfl rfl ?_
                    first
                      | refine s_load Try.isAgg3 rfl rfl (hs.cell (k := 0) rfl rfl) ?_
                      | refine s_load Try.isAgg3 rfl rfl (hs.cell (k := 1) rfl rfl) ?_
                      | refine s_load Try.isAgg3 rfl rfl (hs.cell (k := 2) rfl rfl) ?_
                      | refine s_load Try.isAgg3 rfl rfl ((hs.oldcell (a := ⟨b1, o1 + i, none⟩) hB1 (by simp)).trans hc1) ?_
                    refine D_qn ?_
                    refine D_q rfl rfl ?_
                    refine s_move rfl rfl ?_
                    refine D_qn ?_
                    refine D_q rfl rfl ?_
                    refine s_convert rfl rfl (CV3_22 _) ?_
                    refine D_qn ?_
                    refine D_q rfl rfl ?_
                    (refine s_shr rfl rfl rfl ?hx ?_; case hx => (rw [wrapU64]; omega))
                    refine D_qn ?_
                    refine D_q rfl rfl ?_
                    refine s_convert rfl rfl (CV3_5 _) ?_
                    have hb8 : isB (IntKind.u8.wrap (q.fdiv (2 ^ (min (IntKind.u64.wrap (j : Int)).toNat IntKind.i64.bits)))) := by unfold isB; rw [IntKind.wrap_u8]; omega
                    generalize IntKind.u8.wrap (q.fdiv (2 ^ (min (IntKind.u64.wrap (j : Int)).toNat IntKind.i64.bits))) = zb at hb8
                    refine D_qn ?_
                    refine D_e rfl ?_
                    refine s_buildSlice rfl rfl (BS24_1 _) hs ?_; clear hs; intro b98 w hs
                    refine D_en ?re ?_
                    case re =>
                      refine Reks_cons rfl rfl rfl rfl ?_ ?_
                      · skip
                        refine s_fieldAddr rfl rfl (FA47_3 _ _) ?_
                        exact Rek_end rfl
                      refine Reks_cons rfl rfl rfl rfl ?_ ?_
                      · skip
                        first
                          | refine s_load Try.isAgg24 rfl rfl (hs.cell (k := 0) rfl rfl) ?_
                          | refine s_load Try.isAgg24 rfl rfl (hs.cell (k := 1) rfl rfl) ?_
                          | refine s_load Try.isAgg24 rfl rfl (hs.cell (k := 2) rfl rfl) ?_
                          | refine s_load Try.isAgg24 rfl rfl ((hs.oldcell (a := ⟨b1, o1 + i, none⟩) hB1 (by simp)).trans hc1) ?_
                        exact Rek_end rfl
                      exact Reks_nil
                    refine D_e rfl ?_
                    refine s_appendM (M := _ :: _ :: (Lv ++ vblks vs)) (Lv := Lb) (X := []) El24 rfl rfl rfl hOb (by simpa using hs) (hs.sl (k := 0) (ds := [_]) rfl (Nat.le_refl _) (by intro j u hj; rw [Nat.zero_add]; exact hj)) rfl (by simp [Value.oneCell']) (by omega) ?_
                    clear hs; intro v' w Lv' hO' hs
                    simp only [List.cons_append, List.append_nil, List.append_assoc] at hs
                    obtain ⟨_, bvc', bva', rfl, rfl⟩ := hO'.form
                    refine D_en ?re ?_
                    case re =>
                      exact Reks_nil
                    refine D_q rfl rfl ?_
                    refine s_fieldAddr rfl rfl (FA47_3 _ _) ?_
                    refine D_qn ?_
                    refine D_e rfl ?_
                    first
                      | refine s_storeB Try.sizeOf24 rfl rfl rfl hs (kk := 0) rfl rfl ?_
                      | refine s_storeB Try.sizeOf24 rfl rfl rfl hs (kk := 1) rfl rfl ?_
                      | refine s_storeB Try.sizeOf24 rfl rfl rfl hs (kk := 2) rfl rfl ?_
                    clear hs; intro w hs; try simp only [List.set_cons_zero, List.set_cons_succ, splice, List.take_succ_cons, List.take_zero, List.drop_succ_cons, List.drop_zero, List.nil_append, List.cons_append, List.length_cons, List.length_nil, Nat.reduceAdd, List.append_assoc] at hs
                    refine D_en ?re ?_
                    case re =>
                      exact Reks_nil
                    refine D_nil ?_
                    refine n_blk ?_
                    refine n_then ?_
                    refine W_region ?_
                    refine s_move rfl rfl ?_
                    first | (refine s_add' rfl rfl rfl ?hx ?_; case hx => (constructor <;> first | omega | (simp only; omega))) | refine s_add rfl rfl rfl ?_
                    refine s_assign rfl rfl ?_
                    refine WL_nil ?_
                    refine n_loop ?_
                    refine ⟨⟨j + 1, zs ++ [zb], _, Lv'⟩, ⟨rfl, rfl, rfl, rfl, rfl, rfl, trivial⟩, ⟨hs.tail, by simpa using hO', ?_, by simp [hzl], by simp only; omega⟩, by simp only; omega⟩
                    intro b hb; rcases List.mem_append.1 hb with h | h
                    · exact hzB b h
                    · simp at h; subst h; exact hb8
                  · skip
                    try simp only [decide_eq_true_eq, decide_eq_false_iff_not, beq_iff_eq, beq_eq_false_iff_ne, ne_eq] at hc85
                    refine W_exit ?_
                    refine x_then ?_
                    refine x_then ?_
                    refine exit_hit ?_
                    refine n_blk ?_
                    refine n_loop ?_
                    first
                      | exact ⟨⟨⟨kd, k, 0, [], []⟩, .slice none 0 0, [], .slice none 0 0, []⟩, ⟨rfl, rfl, rfl, rfl, trivial⟩, by simpa [VV.L, VV.cells] using hs, ⟨⟨⟨hk64, by unfold isI64; simp, by simp, by simp, by simp, by simp⟩, RdS.nil, RdS.nil⟩, .inl ⟨‹_›, rfl, rfl, rfl⟩, by simp, by simp⟩, rfl, rfl⟩
                      | exact ⟨⟨⟨kd, 0, nq, [], []⟩, .slice none 0 0, [], .slice none 0 0, []⟩, ⟨rfl, rfl, rfl, rfl, trivial⟩, by simpa [VV.L, VV.cells] using hs, ⟨⟨⟨by simp, hN, by simp, by simp, by simp, by simp⟩, RdS.nil, RdS.nil⟩, .inr (.inl ⟨‹_›, rfl, rfl, rfl⟩), by simp, by simp⟩, rfl, rfl⟩
                      | exact ⟨⟨⟨kd, 0, nn % 2, [], []⟩, .slice none 0 0, [], .slice none 0 0, []⟩, ⟨rfl, rfl, rfl, rfl, trivial⟩, by simpa [VV.L, VV.cells] using hs, ⟨⟨⟨by simp, by unfold isI64; simp only; omega, by simp, by simp, by simp, by simp⟩, RdS.nil, RdS.nil⟩, .inr (.inr (.inl ⟨‹_›, rfl, by simp only; omega, rfl, rfl⟩)), by simp, by simp⟩, rfl, rfl⟩
                      | exact ⟨⟨⟨kd, 0, 0, zs, []⟩, .slice bva zs.length bvc, Lb, .slice none 0 0, []⟩, ⟨rfl, rfl, rfl, rfl, trivial⟩, by simpa [VV.L, VV.cells] using hs, ⟨⟨⟨by simp, by unfold isI64; simp, hzB, by simp, by simp only; omega, by simp⟩, hOb.rdS, RdS.nil⟩, .inr (.inr (.inr (.inl ⟨by simp only; omega, rfl, rfl, rfl⟩))), by simp only; omega, by simp⟩, rfl, rfl⟩
                      | exact ⟨⟨⟨kd, 0, 0, [], zs⟩, .slice none 0 0, [], .slice bva zs.length bvc, Lb⟩, ⟨rfl, rfl, rfl, rfl, trivial⟩, by simpa [VV.L, VV.cells] using hs, ⟨⟨⟨by simp, by unfold isI64; simp, by simp, hzB, by simp, by simp only; omega⟩, RdS.nil, hOb.rdS⟩, .inr (.inr (.inr (.inr ⟨by simp only; omega, rfl, rfl, rfl⟩))), by simp, by simp only; omega⟩, rfl, rfl⟩
                · skip
                  try simp only [decide_eq_true_eq, decide_eq_false_iff_not, beq_iff_eq, beq_eq_false_iff_ne, ne_eq] at hc79
                  refine W_seq ?_
                  refine W_region ?_
                  refine s_assign rfl rfl ?_
                  refine WL_nil ?_
                  refine n_then ?_
                  refine W_block ?_
                  refine W_loop (σ := BS) (fun s => [(0, .slice a xs.length c), (3, v3), (4, .int .i64 (i : Int)), (6, .int .i64 nn), (7, .pointer (some ⟨b7, 0, none⟩)), (9, .int .i64 (s.j : Int))])
                    (fun s w => St [] w0 w ((b7, Blk 47 [.int .i64 kd, .int .u64 0, .int .i64 0, .slice none 0 0, s.v]) :: (Lv ++ (vblks vs ++ s.L))) ∧ OwnS 3 1 s.v s.zs.length (i64s s.zs) s.L ∧ (∀ b ∈ s.zs, isI64 b) ∧ s.zs.length = s.j ∧ (s.j : Int) ≤ nn % 5) (fun s => 5 - s.j) ⟨0, [], .slice none 0 0, []⟩ ⟨rfl, rfl, rfl, rfl, rfl, rfl, trivial⟩ ⟨by simpa using hs, OwnS.nil _ _, by simp, rfl, by simp only; omega⟩ ?_
                  clear hs
                  rintro ⟨j, zs, bv, Lb⟩ w ⟨hs, hOb, hzB, hzl, hj9⟩
                  simp only at hs hOb hzB hzl hj9 ⊢
                  obtain ⟨_, bvc, bva, rfl, rfl⟩ := hOb.form
                  refine W_seq ?_
                  refine W_seq ?_
                  refine W_region ?_
                  refine s_move rfl rfl ?_
                  refine s_move rfl rfl ?_
                  first | (refine s_rem' rfl rfl rfl ?hx ?_; case hx => (refine ⟨?_, ?_⟩ <;> omega)) | (refine s_rem rfl rfl rfl ?hx ?_; case hx => omega)
                  refine s_lss rfl rfl rfl ?_
                  refine WL_nil ?_
                  refine n_then ?_
                  refine W_cond rfl (fun hc37 => ?_) (fun hc37 => ?_)
                  · skip
                    try simp only [decide_eq_true_eq, decide_eq_false_iff_not, beq_iff_eq, beq_eq_false_iff_ne, ne_eq] at hc37
                    refine W_skip ?_
                    refine n_then ?_
                    refine W_seq ?_
                    refine W_block ?_
                    refine W_draw [(0, true, []), (1, true, []), (2, true, []), (3, true, []), (4, true, []), (5, true, []), (6, true, []), (7, true, []), (8, true, []), (9, true, []), (10, false, [0, 1]), (11, false, []), (12, true, []), (13, false, [])] MX (by kernel_rfl) ?_
                    intro w1 hw1 hw2 hw3 hw4; replace hs := hs.redrawn hw1 hw2 hw3 hw4; clear hw1 hw2 hw3 hw4
                    obtain ⟨w, rfl⟩ : ∃ w : World, w = w1 := ⟨_, rfl⟩
                    refine D_q rfl rfl ?_
                    refine s_fieldAddr rfl rfl (FA47_4 _ _) ?_
                    refine D_qn ?_
                    refine D_q rfl rfl ?_
                    first
                      | refine s_load Try.isAgg33 rfl rfl (hs.cell (k := 0) rfl rfl) ?_
                      | refine s_load Try.isAgg33 rfl rfl (hs.cell (k := 1) rfl rfl) ?_
                      | refine s_load Try.isAgg33 rfl rfl (hs.cell (k := 2) rfl rfl) ?_
                      | refine s_load Try.isAgg33 rfl rfl ((hs.oldcell (a := ⟨b1, o1 + i, none⟩) hB1 (by simp)).trans hc1) ?_
                    refine D_qn ?_
                    refine D_q rfl rfl ?_
                    refine s_move rfl rfl ?_
                    refine D_qn ?_
                    refine D_q rfl rfl ?_
                    refine s_move rfl rfl ?_
                    refine D_qn ?_
                    refine D_q rfl rfl ?_
                    (refine s_indexAddrO El33 rfl rfl rfl hA1 ?hx ?_; case hx => (constructor <;> omega))
                    refine D_qn ?_
                    refine D_q rfl rfl ?_
                    first
                      | refine s_load Try.isAgg3 rfl rfl (hs.cell (k := 0) rfl rfl) ?_
                      | refine s_load Try.isAgg3 rfl rfl (hs.cell (k := 1) rfl rfl) ?_
                      | refine s_load Try.isAgg3 rfl rfl (hs.cell (k := 2) rfl rfl) ?_
                      | refine s_load Try.isAgg3 rfl rfl ((hs.oldcell (a := ⟨b1, o1 + i, none⟩) hB1 (by simp)).trans hc1) ?_
                    refine D_qn ?_
                    refine D_q rfl rfl ?_
                    refine s_move rfl rfl ?_
                    refine D_qn ?_
                    refine D_q rfl rfl ?_
                    first | (refine s_mul' rfl rfl rfl ?hx ?_; case hx => (constructor <;> first | omega | (simp only; omega))) | refine s_mul rfl rfl rfl ?_
                    refine D_qn ?_
                    refine D_q rfl rfl ?_
                    refine s_convert rfl rfl (CV3_22 _) ?_
                    refine D_qn ?_
                    refine D_q rfl rfl ?_
                    (refine s_shr rfl rfl rfl ?hx ?_; case hx => (rw [wrapU64]; omega))
                    have hN := fdiv_i64 hm (min (IntKind.u64.wrap (13 * (j : Int))).toNat IntKind.i64.bits)
                    generalize q.fdiv (2 ^ (min (IntKind.u64.wrap (13 * (j : Int))).toNat IntKind.i64.bits)) = zb at hN
                    refine D_qn ?_
                    refine D_e rfl ?_
                    refine s_buildSlice rfl rfl (BS33_1 _) hs ?_; clear hs; intro b50 w hs
                    refine D_en ?re ?_
                    case re =>
                      refine Reks_cons rfl rfl rfl rfl ?_ ?_
                      · skip
                        refine s_fieldAddr rfl rfl (FA47_4 _ _) ?_
                        exact Rek_end rfl
                      refine Reks_cons rfl rfl rfl rfl ?_ ?_
                      · skip
                        first
                          | refine s_load Try.isAgg33 rfl rfl (hs.cell (k := 0) rfl rfl) ?_
                          | refine s_load Try.isAgg33 rfl rfl (hs.cell (k := 1) rfl rfl) ?_
                          | refine s_load Try.isAgg33 rfl rfl (hs.cell (k := 2) rfl rfl) ?_
                          | refine s_load Try.isAgg33 rfl rfl ((hs.oldcell (a := ⟨b1, o1 + i, none⟩) hB1 (by simp)).trans hc1) ?_
                        exact Rek_end rfl
                      exact Reks_nil
                    refine D_e rfl ?_
                    refine s_appendM (M := _ :: _ :: (Lv ++ vblks vs)) (Lv := Lb) (X := []) El33 rfl rfl rfl hOb (by simpa using hs) (hs.sl (k := 0) (ds := [_]) rfl (Nat.le_refl _) (by intro j u hj; rw [Nat.zero_add]; exact hj)) rfl (by simp [Value.oneCell']) (by omega) ?_
                    clear hs; intro v' w Lv' hO' hs
                    simp only [List.cons_append, List.append_nil, List.append_assoc] at hs
                    obtain ⟨_, bvc', bva', rfl, rfl⟩ := hO'.form
                    refine D_en ?re ?_
                    case re =>
                      exact Reks_nil
                    refine D_q rfl rfl ?_
                    refine s_fieldAddr rfl rfl (FA47_4 _ _) ?_
                    refine D_qn ?_
                    refine D_e rfl ?_
                    first
                      | refine s_storeB Try.sizeOf33 rfl rfl rfl hs (kk := 0) rfl rfl ?_
                      | refine s_storeB Try.sizeOf33 rfl rfl rfl hs (kk := 1) rfl rfl ?_
                      | refine s_storeB Try.sizeOf33 rfl rfl rfl hs (kk := 2) rfl rfl ?_
                    clear hs; intro w hs; try simp only [List.set_cons_zero, List.set_cons_succ, splice, List.take_succ_cons, List.take_zero, List.drop_succ_cons, List.drop_zero, List.nil_append, List.cons_append, List.length_cons, List.length_nil, Nat.reduceAdd, List.append_assoc] at hs
                    refine D_en ?re ?_
                    case re =>
                      exact Reks_nil
                    refine D_nil ?_
                    refine n_blk ?_
                    refine n_then ?_
                    refine W_region ?_
                    refine s_move rfl rfl ?_
                    first | (refine s_add' rfl rfl rfl ?hx ?_; case hx => (constructor <;> first | omega | (simp only; omega))) | refine s_add rfl rfl rfl ?_
                    refine s_assign rfl rfl ?_
                    refine WL_nil ?_
                    refine n_loop ?_
                    refine ⟨⟨j + 1, zs ++ [zb], _, Lv'⟩, ⟨rfl, rfl, rfl, rfl, rfl, rfl, trivial⟩, ⟨hs.tail, by simpa using hO', ?_, by simp [hzl], by simp only; omega⟩, by simp only; omega⟩
                    intro b hb; rcases List.mem_append.1 hb with h | h
                    · exact hzB b h
                    · simp at h; subst h; exact hN
                  · skip
                    try simp only [decide_eq_true_eq, decide_eq_false_iff_not, beq_iff_eq, beq_eq_false_iff_ne, ne_eq] at hc37
                    refine W_exit ?_
                    refine x_then ?_
                    refine x_then ?_
                    refine exit_hit ?_
                    refine n_blk ?_
                    refine n_loop ?_
                    first
                      | exact ⟨⟨⟨kd, k, 0, [], []⟩, .slice none 0 0, [], .slice none 0 0, []⟩, ⟨rfl, rfl, rfl, rfl, trivial⟩, by simpa [VV.L, VV.cells] using hs, ⟨⟨⟨hk64, by unfold isI64; simp, by simp, by simp, by simp, by simp⟩, RdS.nil, RdS.nil⟩, .inl ⟨‹_›, rfl, rfl, rfl⟩, by simp, by simp⟩, rfl, rfl⟩
                      | exact ⟨⟨⟨kd, 0, nq, [], []⟩, .slice none 0 0, [], .slice none 0 0, []⟩, ⟨rfl, rfl, rfl, rfl, trivial⟩, by simpa [VV.L, VV.cells] using hs, ⟨⟨⟨by simp, hN, by simp, by simp, by simp, by simp⟩, RdS.nil, RdS.nil⟩, .inr (.inl ⟨‹_›, rfl, rfl, rfl⟩), by simp, by simp⟩, rfl, rfl⟩
                      | exact ⟨⟨⟨kd, 0, nn % 2, [], []⟩, .slice none 0 0, [], .slice none 0 0, []⟩, ⟨rfl, rfl, rfl, rfl, trivial⟩, by simpa [VV.L, VV.cells] using hs, ⟨⟨⟨by simp, by unfold isI64; simp only; omega, by simp, by simp, by simp, by simp⟩, RdS.nil, RdS.nil⟩, .inr (.inr (.inl ⟨‹_›, rfl, by simp only; omega, rfl, rfl⟩)), by simp, by simp⟩, rfl, rfl⟩
                      | exact ⟨⟨⟨kd, 0, 0, zs, []⟩, .slice bva zs.length bvc, Lb, .slice none 0 0, []⟩, ⟨rfl, rfl, rfl, rfl, trivial⟩, by simpa [VV.L, VV.cells] using hs, ⟨⟨⟨by simp, by unfold isI64; simp, hzB, by simp, by simp only; omega, by simp⟩, hOb.rdS, RdS.nil⟩, .inr (.inr (.inr (.inl ⟨by simp only; omega, rfl, rfl, rfl⟩))), by simp only; omega, by simp⟩, rfl, rfl⟩
                      | exact ⟨⟨⟨kd, 0, 0, [], zs⟩, .slice none 0 0, [], .slice bva zs.length bvc, Lb⟩, ⟨rfl, rfl, rfl, rfl, trivial⟩, by simpa [VV.L, VV.cells] using hs, ⟨⟨⟨by simp, by unfold isI64; simp, by simp, hzB, by simp, by simp only; omega⟩, RdS.nil, hOb.rdS⟩, .inr (.inr (.inr (.inr ⟨by simp only; omega, rfl, rfl, rfl⟩))), by simp, by simp only; omega⟩, rfl, rfl⟩
      · skip
        clear hs
        rintro x w ⟨hs, hxg, hx1, hx2⟩
        have hxc : x.cells = [.int .i64 x.p.kind, .int .u64 (x.p.u : Int), .int .i64 x.p.n, x.bv, x.lv] := rfl
        rw [hxc] at hs
        refine W_region ?_
        refine s_move rfl rfl ?_
        first
          | refine s_loadW Try.isAgg47 Try.sizeOf47 rfl rfl hs (kk := 0) rfl rfl ?_
          | refine s_loadW Try.isAgg47 Try.sizeOf47 rfl rfl hs (kk := 1) rfl rfl ?_
          | refine s_loadW Try.isAgg47 Try.sizeOf47 rfl rfl hs (kk := 2) rfl rfl ?_
          | refine s_load_5 Try.isAgg47 Try.sizeOf47 rfl rfl (by first | exact hs.cell (k := 0) rfl rfl | exact hs.cell (k := 1) rfl rfl | exact hs.cell (k := 2) rfl rfl) (by first | exact hs.cell (k := 0) rfl rfl | exact hs.cell (k := 1) rfl rfl | exact hs.cell (k := 2) rfl rfl) (by first | exact hs.cell (k := 0) rfl rfl | exact hs.cell (k := 1) rfl rfl | exact hs.cell (k := 2) rfl rfl) (by first | exact hs.cell (k := 0) rfl rfl | exact hs.cell (k := 1) rfl rfl | exact hs.cell (k := 2) rfl rfl) (by first | exact hs.cell (k := 0) rfl rfl | exact hs.cell (k := 1) rfl rfl | exact hs.cell (k := 2) rfl rfl) ?_
        refine s_buildSlice rfl rfl (BS35_1 _ _ _ _ _) hs ?_; clear hs; intro b103 w hs
        refine s_appendM (M := [_, _]) (Lv := Lv) (X := vblks vs ++ x.L) El35 rfl rfl rfl hO hs (hs.sl (k := 0) (ds := x.cells) rfl (Nat.le_refl _) (by intro j u hj; rw [Nat.zero_add]; exact hj)) rfl (vcells_one x hx1 hx2) (by omega) ?_
        clear hs; intro v' w Lv' hO' hs
        simp only [List.cons_append, List.nil_append] at hs
        refine s_assign rfl rfl ?_
        refine WL_nil ?_
        refine n_blk ?_
        refine n_then ?_
        refine W_region ?_
        refine s_move rfl rfl ?_
        first | (refine s_add' rfl rfl rfl ?hx ?_; case hx => (constructor <;> first | omega | (simp only; omega))) | refine s_add rfl rfl rfl ?_
        refine s_assign rfl rfl ?_
        refine WL_nil ?_
        refine n_loop ?_
        refine ⟨⟨i + 1, v', vs ++ [x], Lv'⟩, ⟨rfl, rfl, rfl, trivial⟩, ⟨?_, ?_, ?_, by simp [hvl], by simp only; omega⟩, by simp only; omega⟩
        · simp only; rw [vblks_append]; simpa [vblks] using hs.tail.tail
        · simp only [List.length_append, List.length_cons, List.length_nil]; rw [vcells_append]; simpa [vcells] using hO'
        · intro y hy; rcases List.mem_append.1 hy with h | h
          · exact hg y h
          · simp at h; subst h; exact hxg
    · skip
      try simp only [decide_eq_true_eq, decide_eq_false_iff_not, beq_iff_eq, beq_eq_false_iff_ne, ne_eq] at hc17
      refine W_exit ?_
      refine x_then ?_
      refine x_then ?_
      refine exit_hit ?_
      refine n_then ?_
      refine W_seq ?_
      refine W_region ?_
      refine s_move rfl rfl ?_
      refine s_assign rfl rfl ?_
      refine WL_nil ?_
      refine n_then ?_
      refine W_ret ?_
      exact end1 rfl rfl ⟨vs, Lv, hO, hs, hg, by omega⟩
  · skip
    try simp only [decide_eq_true_eq, decide_eq_false_iff_not, beq_iff_eq, beq_eq_false_iff_ne, ne_eq] at hg14
    refine WL_skip rfl rfl rfl ?_
    refine WL_skip rfl rfl rfl ?_
    refine s_pick_f rfl rfl rfl ?_
    refine WL_nil ?_
    refine n_then ?_
    refine W_cond_f rfl ?_
    refine W_exit ?_
    refine x_then ?_
    refine x_then ?_
    refine exit_hit ?_
    refine n_then ?_
    refine W_seq ?_
    refine W_region ?_
    refine s_move rfl rfl ?_
    refine s_assign rfl rfl ?_
    refine WL_nil ?_
    refine n_then ?_
    refine W_ret ?_
    exact end1 rfl rfl ⟨vs, Lv, hO, hs, hg, by omega⟩
end Go.Proofs.Ytheeheahhnamjaa
