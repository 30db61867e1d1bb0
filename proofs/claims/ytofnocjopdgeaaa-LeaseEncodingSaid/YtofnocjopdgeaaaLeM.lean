/- LeaseEncoding. -/
import Derived.Test.YtofnocjopdgeaaaLeL
import Derived.Test.YtofnocjopdgeaaaCut
import Derived.Test.YtofnocjopdgeaaaTree
set_option linter.unusedVariables false
set_option linter.unusedSimpArgs false
namespace Go.SL
theorem St.cellM {F : List Nat} {w0 w : World} {L : Hp} (h : St F w0 w L) {b i : Nat} {e : TypeId} {fz : Nat × Nat} {cs : List Value} {v : Value} (hm : (b, Obj.cells cs.toArray e fz) ∈ L) (hi : cs[i]? = some v) : w.cell? ⟨b, i, none⟩ = some v := by
  rw [cell_of_row w b i cs.toArray e fz (h.own _ hm)]; simpa using hi
end Go.SL
namespace Go.Proofs.Ytofnocjopdgeaaa
open Go.SL
theorem RdS.monoL {v : Value} {n : Nat} {cs : List Value} {L L' : Hp} (h : RdS v n cs L) (hs : ∀ p ∈ L, p ∈ L') : RdS v n cs L' :=
  ⟨fun w hw => h.sl w fun p hp => hw p (hs p hp), fun a m c he hne => by
    obtain ⟨o, ho⟩ := mem_ids.1 (h.inL a m c he hne)
    exact mem_ids.2 ⟨o, hs _ ho⟩⟩
theorem u8wrap_isB (z : Int) : isB (IntKind.u8.wrap z) := by
  have : IntKind.u8.wrap z = z % 256 := by simp [IntKind.wrap, IntKind.bits, IntKind.signed]
  rw [this]; unfold isB; omega
theorem madeC_isB (n : Int) : ∀ b ∈ madeC n, isB b := by
  intro b hb
  rw [madeC] at hb
  split at hb
  · cases hb
  · simp only [List.mem_cons, List.not_mem_nil, or_false] at hb
    rcases hb with rfl | rfl <;> exact u8wrap_isB _
theorem ruleS_name {j : Nat} (h : j < 3) : nameP (ruleS j) := by
  match j, h with
  | 0, _ => decide +kernel
  | 1, _ => decide +kernel
  | 2, _ => decide +kernel
theorem made_valid (n : Int) : validP (madeG n) (madeX n) (madeC n).length := by
  have hr := aroundV_range (m := n) (q := 1073741824) (by omega)
  have hcl : (madeC n).length ≤ 2 := by rw [madeC]; split <;> simp
  refine ⟨ruleS_name (by omega), ?_, ?_, ?_, by omega, ?_⟩
  · simp only [madeX]; omega
  · simp only [madeX]; omega
  · simp only [madeX]; omega
  · rw [madeC]
    cases madeG n
    · exact .inl rfl
    · exact .inr rfl
theorem rdB_enc (g : Bool) (r : List Int) : rdB ⟨[if g then 1 else 0] ++ r, 0⟩ = (g, ⟨r, 0⟩) := by cases g <;> simp [rdB, rdO]
theorem strOf_bytesOf (s : ByteArray) : strOf (bytesOf s) = s := bytesOf_inj (bytesOf_strOf' (bytesOf_isB s))
theorem ent_read {g : Bool} {x : Lz} {bs : List Int} (h : validP g x bs.length) : ∃ s1 s2 s3 s4 s5, rdB ⟨entV g x bs, 0⟩ = (g, s1) ∧ rdRaw s1 = (bytesOf x.rule, s2) ∧ rdI s2 = (x.holder, s3) ∧ rdI s3 = (x.token, s4) ∧ rdI s4 = (x.til, s5) ∧ rdRaw s5 = (bs, ⟨[], 0⟩) := by
  obtain ⟨h1, h2, h3, h4, h5⟩ := valid_range h
  have hbl := bytesOf_length x.rule
  refine ⟨⟨uvar x.rule.size ++ (bytesOf x.rule ++ (uvar (zz x.holder) ++ (uvar (zz x.token) ++ (uvar (zz x.til) ++ (uvar bs.length ++ bs))))), 0⟩, ⟨uvar (zz x.holder) ++ (uvar (zz x.token) ++ (uvar (zz x.til) ++ (uvar bs.length ++ bs))), 0⟩, ⟨uvar (zz x.token) ++ (uvar (zz x.til) ++ (uvar bs.length ++ bs)), 0⟩, ⟨uvar (zz x.til) ++ (uvar bs.length ++ bs), 0⟩, ⟨uvar bs.length ++ bs, 0⟩, ?_, ?_, rdI_uvar h2, rdI_uvar h3, rdI_uvar h4, ?_⟩
  · rw [entV]; simp only [List.append_assoc]; exact rdB_enc g _
  · rw [← hbl]; exact rdRaw_uvar (by omega)
  · have := rdRaw_uvar (bs := bs) (r := []) (by omega)
    rw [List.append_nil] at this; exact this
set_option maxHeartbeats 1000000 in
theorem bentB_ok (g : Bool) (x : Lz) (v : Value) (bs : List Int) (at_ n : Int) (s : ByteArray) (Lv : Hp) (w0 : World) (hv : RdS v bs.length (u8s bs) Lv) (hvf : ∃ a m c, v = .slice a m c) (hat : isI64 at_) :
    Ret Try.prog 13 [.agg #[.bool g, .string x.rule, .int .i64 x.holder, .int .i64 x.token, .int .i64 x.til, v], .int .i64 at_, .int .i64 n, .string s].toArray w0 fun r w' => ∃ (Ln : Hp) (g' : Bool) (x' : Lz) (v' : Value) (bs' : List Int), r = entryV g' x' v' ∧ RdS v' bs'.length (u8s bs') (Ln ++ Lv) ∧ (∃ a m c, v' = .slice a m c) ∧ St [] w0 w' Ln ∧ (bs' = bs ∨ bs' = bytesOf s) := by
  obtain ⟨va, vn, vc, rfl⟩ := hvf
  have har := aroundV_range (m := at_) (q := 6) (by omega)
  refine Ret_start fun w hs => ?_
  refine Ret_of Try.func13 rfl Try.ntmps13 rfl ?_
  refine W_seq ?_
  refine W_region ?_
  first | refine s_box rfl rfl hs ?_ | refine s_box1 rfl rfl rfl hs ?_
  clear hs; intro b4 w hs
  refine s_alloc rfl AL37 hs ?_; clear hs; intro b8 w hs
  refine WL_nil ?_
  refine n_then ?_
  refine W_seq ?_
  refine W_seq ?_
  refine W_region ?_
  refine s_move rfl rfl ?_
  refine s_call Try.call10 rfl rfl (around_ok at_ 6 w (by omega) hat) ?_
  rintro r w1 ⟨hw1, rfl⟩
  rw [hw1]; clear hw1 w1
  refine WL_nil ?_
  refine n_then ?_
  refine W_block ?_
  refine W_seq ?_
  refine W_region ?_
  refine s_eql rfl rfl rfl ?_
  refine s_assign rfl rfl ?_
  refine WL_nil ?_
  refine n_then ?_
  refine W_cond rfl (fun hc14 => ?_) (fun hc14 => ?_)
  · skip
    refine W_region ?_
    refine s_fieldAddr rfl rfl (FA37_0 _ _) ?_
    first
      | refine s_load Try.isAgg4 rfl rfl (hs.cell (k := 0) rfl rfl) ?_
      | refine s_load Try.isAgg4 rfl rfl (hs.cell (k := 1) rfl rfl) ?_
      | refine s_load Try.isAgg4 rfl rfl (hs.cell (k := 2) rfl rfl) ?_
    refine s_not rfl rfl ?_
    refine s_fieldAddr rfl rfl (FA37_0 _ _) ?_
    first
      | refine s_storeB Try.sizeOf4 rfl rfl rfl hs (kk := 0) rfl rfl ?_
      | refine s_storeB Try.sizeOf4 rfl rfl rfl hs (kk := 1) rfl rfl ?_
      | refine s_storeB Try.sizeOf4 rfl rfl rfl hs (kk := 2) rfl rfl ?_
    clear hs; intro w hs; try simp only [List.set_cons_zero, List.set_cons_succ, splice, List.take_succ_cons, List.take_zero, List.drop_succ_cons, List.drop_zero, List.nil_append, List.cons_append, List.length_cons, List.length_nil, Nat.reduceAdd, List.append_assoc] at hs
    refine WL_nil ?_
    refine n_blk ?_
    refine n_then ?_
    refine W_seq ?_
    refine W_region ?_
    first
      | refine s_loadW Try.isAgg37 Try.sizeOf37 rfl rfl hs (kk := 0) rfl rfl ?_
      | refine s_loadW Try.isAgg37 Try.sizeOf37 rfl rfl hs (kk := 1) rfl rfl ?_
      | refine s_loadW Try.isAgg37 Try.sizeOf37 rfl rfl hs (kk := 2) rfl rfl ?_
      | refine s_load_6 Try.isAgg37 Try.sizeOf37 rfl rfl (by first | exact hs.cell (k := 0) rfl rfl | exact hs.cell (k := 1) rfl rfl | exact hs.cell (k := 2) rfl rfl) (by first | exact hs.cell (k := 0) rfl rfl | exact hs.cell (k := 1) rfl rfl | exact hs.cell (k := 2) rfl rfl) (by first | exact hs.cell (k := 0) rfl rfl | exact hs.cell (k := 1) rfl rfl | exact hs.cell (k := 2) rfl rfl) (by first | exact hs.cell (k := 0) rfl rfl | exact hs.cell (k := 1) rfl rfl | exact hs.cell (k := 2) rfl rfl) (by first | exact hs.cell (k := 0) rfl rfl | exact hs.cell (k := 1) rfl rfl | exact hs.cell (k := 2) rfl rfl) (by first | exact hs.cell (k := 0) rfl rfl | exact hs.cell (k := 1) rfl rfl | exact hs.cell (k := 2) rfl rfl) ?_
    first
      | refine s_storeW Try.sizeOf37 rfl rfl rfl rfl hs (kk := 0) rfl rfl ?_
      | refine s_storeW Try.sizeOf37 rfl rfl rfl rfl hs (kk := 1) rfl rfl ?_
      | refine s_storeW Try.sizeOf37 rfl rfl rfl rfl hs (kk := 2) rfl rfl ?_
      | refine s_storeAB Try.sizeOf37 rfl rfl rfl rfl hs (kk := 0) rfl rfl ?_
      | refine s_storeAB Try.sizeOf37 rfl rfl rfl rfl hs (kk := 1) rfl rfl ?_
      | refine s_storeAB Try.sizeOf37 rfl rfl rfl rfl hs (kk := 2) rfl rfl ?_
    clear hs; intro w hs; try simp only [List.set_cons_zero, List.set_cons_succ, splice, List.take_succ_cons, List.take_zero, List.drop_succ_cons, List.drop_zero, List.nil_append, List.cons_append, List.length_cons, List.length_nil, Nat.reduceAdd, List.append_assoc] at hs
    refine WL_nil ?_
    refine n_then ?_
    refine W_ret ?_
    first
      | (refine end1 rfl (resOk_block Try.isAgg37 Try.sizeOf37 hs rfl (kk := 0) rfl rfl) ?_
         first
           | exact ⟨[], _, ⟨s, x.holder, x.token, x.til⟩, _, bs, rfl, hv, ⟨_, _, _, rfl⟩, hs.tail.tail, .inl rfl⟩
           | exact ⟨[], _, ⟨x.rule, n, x.token, x.til⟩, _, bs, rfl, hv, ⟨_, _, _, rfl⟩, hs.tail.tail, .inl rfl⟩
           | exact ⟨[], _, ⟨x.rule, x.holder, n, x.til⟩, _, bs, rfl, hv, ⟨_, _, _, rfl⟩, hs.tail.tail, .inl rfl⟩
           | exact ⟨[], _, ⟨x.rule, x.holder, x.token, n⟩, _, bs, rfl, hv, ⟨_, _, _, rfl⟩, hs.tail.tail, .inl rfl⟩
           | exact ⟨[], _, x, _, bs, rfl, hv, ⟨_, _, _, rfl⟩, hs.tail.tail, .inl rfl⟩)
      | (refine end1 rfl (resOk_block Try.isAgg37 Try.sizeOf37 hs rfl (kk := 1) rfl rfl) ?_
         exact ⟨[_], _, x, _, bytesOf s, rfl, rds_more hrd [] Lv, ⟨_, _, _, rfl⟩, St.left (L := [_]) hs, .inr rfl⟩)
  · skip
    refine W_seq ?_
    refine W_region ?_
    refine s_eql rfl rfl rfl ?_
    refine s_assign rfl rfl ?_
    refine WL_nil ?_
    refine n_then ?_
    refine W_cond rfl (fun hc20 => ?_) (fun hc20 => ?_)
    · skip
      refine W_region ?_
      refine s_move rfl rfl ?_
      refine s_fieldAddr rfl rfl (FA37_1 _ _) ?_
      refine s_fieldAddr rfl rfl (FA34_0 _ _) ?_
      first
        | refine s_storeB Try.sizeOf9 rfl rfl rfl hs (kk := 0) rfl rfl ?_
        | refine s_storeB Try.sizeOf9 rfl rfl rfl hs (kk := 1) rfl rfl ?_
        | refine s_storeB Try.sizeOf9 rfl rfl rfl hs (kk := 2) rfl rfl ?_
      clear hs; intro w hs; try simp only [List.set_cons_zero, List.set_cons_succ, splice, List.take_succ_cons, List.take_zero, List.drop_succ_cons, List.drop_zero, List.nil_append, List.cons_append, List.length_cons, List.length_nil, Nat.reduceAdd, List.append_assoc] at hs
      refine WL_nil ?_
      refine n_blk ?_
      refine n_then ?_
      refine W_seq ?_
      refine W_region ?_
      first
        | refine s_loadW Try.isAgg37 Try.sizeOf37 rfl rfl hs (kk := 0) rfl rfl ?_
        | refine s_loadW Try.isAgg37 Try.sizeOf37 rfl rfl hs (kk := 1) rfl rfl ?_
        | refine s_loadW Try.isAgg37 Try.sizeOf37 rfl rfl hs (kk := 2) rfl rfl ?_
        | refine s_load_6 Try.isAgg37 Try.sizeOf37 rfl rfl (by first | exact hs.cell (k := 0) rfl rfl | exact hs.cell (k := 1) rfl rfl | exact hs.cell (k := 2) rfl rfl) (by first | exact hs.cell (k := 0) rfl rfl | exact hs.cell (k := 1) rfl rfl | exact hs.cell (k := 2) rfl rfl) (by first | exact hs.cell (k := 0) rfl rfl | exact hs.cell (k := 1) rfl rfl | exact hs.cell (k := 2) rfl rfl) (by first | exact hs.cell (k := 0) rfl rfl | exact hs.cell (k := 1) rfl rfl | exact hs.cell (k := 2) rfl rfl) (by first | exact hs.cell (k := 0) rfl rfl | exact hs.cell (k := 1) rfl rfl | exact hs.cell (k := 2) rfl rfl) (by first | exact hs.cell (k := 0) rfl rfl | exact hs.cell (k := 1) rfl rfl | exact hs.cell (k := 2) rfl rfl) ?_
      first
        | refine s_storeW Try.sizeOf37 rfl rfl rfl rfl hs (kk := 0) rfl rfl ?_
        | refine s_storeW Try.sizeOf37 rfl rfl rfl rfl hs (kk := 1) rfl rfl ?_
        | refine s_storeW Try.sizeOf37 rfl rfl rfl rfl hs (kk := 2) rfl rfl ?_
        | refine s_storeAB Try.sizeOf37 rfl rfl rfl rfl hs (kk := 0) rfl rfl ?_
        | refine s_storeAB Try.sizeOf37 rfl rfl rfl rfl hs (kk := 1) rfl rfl ?_
        | refine s_storeAB Try.sizeOf37 rfl rfl rfl rfl hs (kk := 2) rfl rfl ?_
      clear hs; intro w hs; try simp only [List.set_cons_zero, List.set_cons_succ, splice, List.take_succ_cons, List.take_zero, List.drop_succ_cons, List.drop_zero, List.nil_append, List.cons_append, List.length_cons, List.length_nil, Nat.reduceAdd, List.append_assoc] at hs
      refine WL_nil ?_
      refine n_then ?_
      refine W_ret ?_
      first
        | (refine end1 rfl (resOk_block Try.isAgg37 Try.sizeOf37 hs rfl (kk := 0) rfl rfl) ?_
           first
             | exact ⟨[], _, ⟨s, x.holder, x.token, x.til⟩, _, bs, rfl, hv, ⟨_, _, _, rfl⟩, hs.tail.tail, .inl rfl⟩
             | exact ⟨[], _, ⟨x.rule, n, x.token, x.til⟩, _, bs, rfl, hv, ⟨_, _, _, rfl⟩, hs.tail.tail, .inl rfl⟩
             | exact ⟨[], _, ⟨x.rule, x.holder, n, x.til⟩, _, bs, rfl, hv, ⟨_, _, _, rfl⟩, hs.tail.tail, .inl rfl⟩
             | exact ⟨[], _, ⟨x.rule, x.holder, x.token, n⟩, _, bs, rfl, hv, ⟨_, _, _, rfl⟩, hs.tail.tail, .inl rfl⟩
             | exact ⟨[], _, x, _, bs, rfl, hv, ⟨_, _, _, rfl⟩, hs.tail.tail, .inl rfl⟩)
        | (refine end1 rfl (resOk_block Try.isAgg37 Try.sizeOf37 hs rfl (kk := 1) rfl rfl) ?_
           exact ⟨[_], _, x, _, bytesOf s, rfl, rds_more hrd [] Lv, ⟨_, _, _, rfl⟩, St.left (L := [_]) hs, .inr rfl⟩)
    · skip
      refine W_seq ?_
      refine W_region ?_
      refine s_eql rfl rfl rfl ?_
      refine s_assign rfl rfl ?_
      refine WL_nil ?_
      refine n_then ?_
      refine W_cond rfl (fun hc25 => ?_) (fun hc25 => ?_)
      · skip
        refine W_region ?_
        refine s_move rfl rfl ?_
        refine s_fieldAddr rfl rfl (FA37_1 _ _) ?_
        refine s_fieldAddr rfl rfl (FA34_1 _ _) ?_
        first
          | refine s_storeB Try.sizeOf3 rfl rfl rfl hs (kk := 0) rfl rfl ?_
          | refine s_storeB Try.sizeOf3 rfl rfl rfl hs (kk := 1) rfl rfl ?_
          | refine s_storeB Try.sizeOf3 rfl rfl rfl hs (kk := 2) rfl rfl ?_
        clear hs; intro w hs; try simp only [List.set_cons_zero, List.set_cons_succ, splice, List.take_succ_cons, List.take_zero, List.drop_succ_cons, List.drop_zero, List.nil_append, List.cons_append, List.length_cons, List.length_nil, Nat.reduceAdd, List.append_assoc] at hs
        refine WL_nil ?_
        refine n_blk ?_
        refine n_then ?_
        refine W_seq ?_
        refine W_region ?_
        first
          | refine s_loadW Try.isAgg37 Try.sizeOf37 rfl rfl hs (kk := 0) rfl rfl ?_
          | refine s_loadW Try.isAgg37 Try.sizeOf37 rfl rfl hs (kk := 1) rfl rfl ?_
          | refine s_loadW Try.isAgg37 Try.sizeOf37 rfl rfl hs (kk := 2) rfl rfl ?_
          | refine s_load_6 Try.isAgg37 Try.sizeOf37 rfl rfl (by first | exact hs.cell (k := 0) rfl rfl | exact hs.cell (k := 1) rfl rfl | exact hs.cell (k := 2) rfl rfl) (by first | exact hs.cell (k := 0) rfl rfl | exact hs.cell (k := 1) rfl rfl | exact hs.cell (k := 2) rfl rfl) (by first | exact hs.cell (k := 0) rfl rfl | exact hs.cell (k := 1) rfl rfl | exact hs.cell (k := 2) rfl rfl) (by first | exact hs.cell (k := 0) rfl rfl | exact hs.cell (k := 1) rfl rfl | exact hs.cell (k := 2) rfl rfl) (by first | exact hs.cell (k := 0) rfl rfl | exact hs.cell (k := 1) rfl rfl | exact hs.cell (k := 2) rfl rfl) (by first | exact hs.cell (k := 0) rfl rfl | exact hs.cell (k := 1) rfl rfl | exact hs.cell (k := 2) rfl rfl) ?_
        first
          | refine s_storeW Try.sizeOf37 rfl rfl rfl rfl hs (kk := 0) rfl rfl ?_
          | refine s_storeW Try.sizeOf37 rfl rfl rfl rfl hs (kk := 1) rfl rfl ?_
          | refine s_storeW Try.sizeOf37 rfl rfl rfl rfl hs (kk := 2) rfl rfl ?_
          | refine s_storeAB Try.sizeOf37 rfl rfl rfl rfl hs (kk := 0) rfl rfl ?_
          | refine s_storeAB Try.sizeOf37 rfl rfl rfl rfl hs (kk := 1) rfl rfl ?_
          | refine s_storeAB Try.sizeOf37 rfl rfl rfl rfl hs (kk := 2) rfl rfl ?_
        clear hs; intro w hs; try simp only [List.set_cons_zero, List.set_cons_succ, splice, List.take_succ_cons, List.take_zero, List.drop_succ_cons, List.drop_zero, List.nil_append, List.cons_append, List.length_cons, List.length_nil, Nat.reduceAdd, List.append_assoc] at hs
        refine WL_nil ?_
        refine n_then ?_
        refine W_ret ?_
        first
          | (refine end1 rfl (resOk_block Try.isAgg37 Try.sizeOf37 hs rfl (kk := 0) rfl rfl) ?_
             first
               | exact ⟨[], _, ⟨s, x.holder, x.token, x.til⟩, _, bs, rfl, hv, ⟨_, _, _, rfl⟩, hs.tail.tail, .inl rfl⟩
               | exact ⟨[], _, ⟨x.rule, n, x.token, x.til⟩, _, bs, rfl, hv, ⟨_, _, _, rfl⟩, hs.tail.tail, .inl rfl⟩
               | exact ⟨[], _, ⟨x.rule, x.holder, n, x.til⟩, _, bs, rfl, hv, ⟨_, _, _, rfl⟩, hs.tail.tail, .inl rfl⟩
               | exact ⟨[], _, ⟨x.rule, x.holder, x.token, n⟩, _, bs, rfl, hv, ⟨_, _, _, rfl⟩, hs.tail.tail, .inl rfl⟩
               | exact ⟨[], _, x, _, bs, rfl, hv, ⟨_, _, _, rfl⟩, hs.tail.tail, .inl rfl⟩)
          | (refine end1 rfl (resOk_block Try.isAgg37 Try.sizeOf37 hs rfl (kk := 1) rfl rfl) ?_
             exact ⟨[_], _, x, _, bytesOf s, rfl, rds_more hrd [] Lv, ⟨_, _, _, rfl⟩, St.left (L := [_]) hs, .inr rfl⟩)
      · skip
        refine W_seq ?_
        refine W_region ?_
        refine s_eql rfl rfl rfl ?_
        refine s_assign rfl rfl ?_
        refine WL_nil ?_
        refine n_then ?_
        refine W_cond rfl (fun hc30 => ?_) (fun hc30 => ?_)
        · skip
          refine W_region ?_
          refine s_move rfl rfl ?_
          refine s_fieldAddr rfl rfl (FA37_1 _ _) ?_
          refine s_fieldAddr rfl rfl (FA34_2 _ _) ?_
          first
            | refine s_storeB Try.sizeOf3 rfl rfl rfl hs (kk := 0) rfl rfl ?_
            | refine s_storeB Try.sizeOf3 rfl rfl rfl hs (kk := 1) rfl rfl ?_
            | refine s_storeB Try.sizeOf3 rfl rfl rfl hs (kk := 2) rfl rfl ?_
          clear hs; intro w hs; try simp only [List.set_cons_zero, List.set_cons_succ, splice, List.take_succ_cons, List.take_zero, List.drop_succ_cons, List.drop_zero, List.nil_append, List.cons_append, List.length_cons, List.length_nil, Nat.reduceAdd, List.append_assoc] at hs
          refine WL_nil ?_
          refine n_blk ?_
          refine n_then ?_
          refine W_seq ?_
          refine W_region ?_
          first
            | refine s_loadW Try.isAgg37 Try.sizeOf37 rfl rfl hs (kk := 0) rfl rfl ?_
            | refine s_loadW Try.isAgg37 Try.sizeOf37 rfl rfl hs (kk := 1) rfl rfl ?_
            | refine s_loadW Try.isAgg37 Try.sizeOf37 rfl rfl hs (kk := 2) rfl rfl ?_
            | refine s_load_6 Try.isAgg37 Try.sizeOf37 rfl rfl (by first | exact hs.cell (k := 0) rfl rfl | exact hs.cell (k := 1) rfl rfl | exact hs.cell (k := 2) rfl rfl) (by first | exact hs.cell (k := 0) rfl rfl | exact hs.cell (k := 1) rfl rfl | exact hs.cell (k := 2) rfl rfl) (by first | exact hs.cell (k := 0) rfl rfl | exact hs.cell (k := 1) rfl rfl | exact hs.cell (k := 2) rfl rfl) (by first | exact hs.cell (k := 0) rfl rfl | exact hs.cell (k := 1) rfl rfl | exact hs.cell (k := 2) rfl rfl) (by first | exact hs.cell (k := 0) rfl rfl | exact hs.cell (k := 1) rfl rfl | exact hs.cell (k := 2) rfl rfl) (by first | exact hs.cell (k := 0) rfl rfl | exact hs.cell (k := 1) rfl rfl | exact hs.cell (k := 2) rfl rfl) ?_
          first
            | refine s_storeW Try.sizeOf37 rfl rfl rfl rfl hs (kk := 0) rfl rfl ?_
            | refine s_storeW Try.sizeOf37 rfl rfl rfl rfl hs (kk := 1) rfl rfl ?_
            | refine s_storeW Try.sizeOf37 rfl rfl rfl rfl hs (kk := 2) rfl rfl ?_
            | refine s_storeAB Try.sizeOf37 rfl rfl rfl rfl hs (kk := 0) rfl rfl ?_
            | refine s_storeAB Try.sizeOf37 rfl rfl rfl rfl hs (kk := 1) rfl rfl ?_
            | refine s_storeAB Try.sizeOf37 rfl rfl rfl rfl hs (kk := 2) rfl rfl ?_
          clear hs; intro w hs; try simp only [List.set_cons_zero, List.set_cons_succ, splice, List.take_succ_cons, List.take_zero, List.drop_succ_cons, List.drop_zero, List.nil_append, List.cons_append, List.length_cons, List.length_nil, Nat.reduceAdd, List.append_assoc] at hs
          refine WL_nil ?_
          refine n_then ?_
          refine W_ret ?_
          first
            | (refine end1 rfl (resOk_block Try.isAgg37 Try.sizeOf37 hs rfl (kk := 0) rfl rfl) ?_
               first
                 | exact ⟨[], _, ⟨s, x.holder, x.token, x.til⟩, _, bs, rfl, hv, ⟨_, _, _, rfl⟩, hs.tail.tail, .inl rfl⟩
                 | exact ⟨[], _, ⟨x.rule, n, x.token, x.til⟩, _, bs, rfl, hv, ⟨_, _, _, rfl⟩, hs.tail.tail, .inl rfl⟩
                 | exact ⟨[], _, ⟨x.rule, x.holder, n, x.til⟩, _, bs, rfl, hv, ⟨_, _, _, rfl⟩, hs.tail.tail, .inl rfl⟩
                 | exact ⟨[], _, ⟨x.rule, x.holder, x.token, n⟩, _, bs, rfl, hv, ⟨_, _, _, rfl⟩, hs.tail.tail, .inl rfl⟩
                 | exact ⟨[], _, x, _, bs, rfl, hv, ⟨_, _, _, rfl⟩, hs.tail.tail, .inl rfl⟩)
            | (refine end1 rfl (resOk_block Try.isAgg37 Try.sizeOf37 hs rfl (kk := 1) rfl rfl) ?_
               exact ⟨[_], _, x, _, bytesOf s, rfl, rds_more hrd [] Lv, ⟨_, _, _, rfl⟩, St.left (L := [_]) hs, .inr rfl⟩)
        · skip
          refine W_seq ?_
          refine W_region ?_
          refine s_eql rfl rfl rfl ?_
          refine s_assign rfl rfl ?_
          refine WL_nil ?_
          refine n_then ?_
          refine W_cond rfl (fun hc35 => ?_) (fun hc35 => ?_)
          · skip
            refine W_region ?_
            refine s_move rfl rfl ?_
            refine s_fieldAddr rfl rfl (FA37_1 _ _) ?_
            refine s_fieldAddr rfl rfl (FA34_3 _ _) ?_
            first
              | refine s_storeB Try.sizeOf3 rfl rfl rfl hs (kk := 0) rfl rfl ?_
              | refine s_storeB Try.sizeOf3 rfl rfl rfl hs (kk := 1) rfl rfl ?_
              | refine s_storeB Try.sizeOf3 rfl rfl rfl hs (kk := 2) rfl rfl ?_
            clear hs; intro w hs; try simp only [List.set_cons_zero, List.set_cons_succ, splice, List.take_succ_cons, List.take_zero, List.drop_succ_cons, List.drop_zero, List.nil_append, List.cons_append, List.length_cons, List.length_nil, Nat.reduceAdd, List.append_assoc] at hs
            refine WL_nil ?_
            refine n_blk ?_
            refine n_then ?_
            refine W_seq ?_
            refine W_region ?_
            first
              | refine s_loadW Try.isAgg37 Try.sizeOf37 rfl rfl hs (kk := 0) rfl rfl ?_
              | refine s_loadW Try.isAgg37 Try.sizeOf37 rfl rfl hs (kk := 1) rfl rfl ?_
              | refine s_loadW Try.isAgg37 Try.sizeOf37 rfl rfl hs (kk := 2) rfl rfl ?_
              | refine s_load_6 Try.isAgg37 Try.sizeOf37 rfl rfl (by first | exact hs.cell (k := 0) rfl rfl | exact hs.cell (k := 1) rfl rfl | exact hs.cell (k := 2) rfl rfl) (by first | exact hs.cell (k := 0) rfl rfl | exact hs.cell (k := 1) rfl rfl | exact hs.cell (k := 2) rfl rfl) (by first | exact hs.cell (k := 0) rfl rfl | exact hs.cell (k := 1) rfl rfl | exact hs.cell (k := 2) rfl rfl) (by first | exact hs.cell (k := 0) rfl rfl | exact hs.cell (k := 1) rfl rfl | exact hs.cell (k := 2) rfl rfl) (by first | exact hs.cell (k := 0) rfl rfl | exact hs.cell (k := 1) rfl rfl | exact hs.cell (k := 2) rfl rfl) (by first | exact hs.cell (k := 0) rfl rfl | exact hs.cell (k := 1) rfl rfl | exact hs.cell (k := 2) rfl rfl) ?_
            first
              | refine s_storeW Try.sizeOf37 rfl rfl rfl rfl hs (kk := 0) rfl rfl ?_
              | refine s_storeW Try.sizeOf37 rfl rfl rfl rfl hs (kk := 1) rfl rfl ?_
              | refine s_storeW Try.sizeOf37 rfl rfl rfl rfl hs (kk := 2) rfl rfl ?_
              | refine s_storeAB Try.sizeOf37 rfl rfl rfl rfl hs (kk := 0) rfl rfl ?_
              | refine s_storeAB Try.sizeOf37 rfl rfl rfl rfl hs (kk := 1) rfl rfl ?_
              | refine s_storeAB Try.sizeOf37 rfl rfl rfl rfl hs (kk := 2) rfl rfl ?_
            clear hs; intro w hs; try simp only [List.set_cons_zero, List.set_cons_succ, splice, List.take_succ_cons, List.take_zero, List.drop_succ_cons, List.drop_zero, List.nil_append, List.cons_append, List.length_cons, List.length_nil, Nat.reduceAdd, List.append_assoc] at hs
            refine WL_nil ?_
            refine n_then ?_
            refine W_ret ?_
            first
              | (refine end1 rfl (resOk_block Try.isAgg37 Try.sizeOf37 hs rfl (kk := 0) rfl rfl) ?_
                 first
                   | exact ⟨[], _, ⟨s, x.holder, x.token, x.til⟩, _, bs, rfl, hv, ⟨_, _, _, rfl⟩, hs.tail.tail, .inl rfl⟩
                   | exact ⟨[], _, ⟨x.rule, n, x.token, x.til⟩, _, bs, rfl, hv, ⟨_, _, _, rfl⟩, hs.tail.tail, .inl rfl⟩
                   | exact ⟨[], _, ⟨x.rule, x.holder, n, x.til⟩, _, bs, rfl, hv, ⟨_, _, _, rfl⟩, hs.tail.tail, .inl rfl⟩
                   | exact ⟨[], _, ⟨x.rule, x.holder, x.token, n⟩, _, bs, rfl, hv, ⟨_, _, _, rfl⟩, hs.tail.tail, .inl rfl⟩
                   | exact ⟨[], _, x, _, bs, rfl, hv, ⟨_, _, _, rfl⟩, hs.tail.tail, .inl rfl⟩)
              | (refine end1 rfl (resOk_block Try.isAgg37 Try.sizeOf37 hs rfl (kk := 1) rfl rfl) ?_
                 exact ⟨[_], _, x, _, bytesOf s, rfl, rds_more hrd [] Lv, ⟨_, _, _, rfl⟩, St.left (L := [_]) hs, .inr rfl⟩)
          · skip
            refine W_region ?_
            refine s_move rfl rfl ?_
            refine s_str_bytes Try.underlying9 Try.underlying35 Try.underlying5 rfl rfl hs ?_
            clear hs; intro b12 c12 o12 w hrd hs
            rw [← u8s_bytesOf, ← bytesOf_length] at hrd
            rw [← bytesOf_length]
            refine s_fieldAddr rfl rfl (FA37_2 _ _) ?_
            first
              | refine s_storeB Try.sizeOf35 rfl rfl rfl hs (kk := 0) rfl rfl ?_
              | refine s_storeB Try.sizeOf35 rfl rfl rfl hs (kk := 1) rfl rfl ?_
              | refine s_storeB Try.sizeOf35 rfl rfl rfl hs (kk := 2) rfl rfl ?_
            clear hs; intro w hs; try simp only [List.set_cons_zero, List.set_cons_succ, splice, List.take_succ_cons, List.take_zero, List.drop_succ_cons, List.drop_zero, List.nil_append, List.cons_append, List.length_cons, List.length_nil, Nat.reduceAdd, List.append_assoc] at hs
            refine WL_nil ?_
            refine n_blk ?_
            refine n_then ?_
            refine W_seq ?_
            refine W_region ?_
            first
              | refine s_loadW Try.isAgg37 Try.sizeOf37 rfl rfl hs (kk := 0) rfl rfl ?_
              | refine s_loadW Try.isAgg37 Try.sizeOf37 rfl rfl hs (kk := 1) rfl rfl ?_
              | refine s_loadW Try.isAgg37 Try.sizeOf37 rfl rfl hs (kk := 2) rfl rfl ?_
              | refine s_load_6 Try.isAgg37 Try.sizeOf37 rfl rfl (by first | exact hs.cell (k := 0) rfl rfl | exact hs.cell (k := 1) rfl rfl | exact hs.cell (k := 2) rfl rfl) (by first | exact hs.cell (k := 0) rfl rfl | exact hs.cell (k := 1) rfl rfl | exact hs.cell (k := 2) rfl rfl) (by first | exact hs.cell (k := 0) rfl rfl | exact hs.cell (k := 1) rfl rfl | exact hs.cell (k := 2) rfl rfl) (by first | exact hs.cell (k := 0) rfl rfl | exact hs.cell (k := 1) rfl rfl | exact hs.cell (k := 2) rfl rfl) (by first | exact hs.cell (k := 0) rfl rfl | exact hs.cell (k := 1) rfl rfl | exact hs.cell (k := 2) rfl rfl) (by first | exact hs.cell (k := 0) rfl rfl | exact hs.cell (k := 1) rfl rfl | exact hs.cell (k := 2) rfl rfl) ?_
            first
              | refine s_storeW Try.sizeOf37 rfl rfl rfl rfl hs (kk := 0) rfl rfl ?_
              | refine s_storeW Try.sizeOf37 rfl rfl rfl rfl hs (kk := 1) rfl rfl ?_
              | refine s_storeW Try.sizeOf37 rfl rfl rfl rfl hs (kk := 2) rfl rfl ?_
              | refine s_storeAB Try.sizeOf37 rfl rfl rfl rfl hs (kk := 0) rfl rfl ?_
              | refine s_storeAB Try.sizeOf37 rfl rfl rfl rfl hs (kk := 1) rfl rfl ?_
              | refine s_storeAB Try.sizeOf37 rfl rfl rfl rfl hs (kk := 2) rfl rfl ?_
            clear hs; intro w hs; try simp only [List.set_cons_zero, List.set_cons_succ, splice, List.take_succ_cons, List.take_zero, List.drop_succ_cons, List.drop_zero, List.nil_append, List.cons_append, List.length_cons, List.length_nil, Nat.reduceAdd, List.append_assoc] at hs
            refine WL_nil ?_
            refine n_then ?_
            refine W_ret ?_
            first
              | (refine end1 rfl (resOk_block Try.isAgg37 Try.sizeOf37 hs rfl (kk := 0) rfl rfl) ?_
                 first
                   | exact ⟨[], _, ⟨s, x.holder, x.token, x.til⟩, _, bs, rfl, hv, ⟨_, _, _, rfl⟩, hs.tail.tail, .inl rfl⟩
                   | exact ⟨[], _, ⟨x.rule, n, x.token, x.til⟩, _, bs, rfl, hv, ⟨_, _, _, rfl⟩, hs.tail.tail, .inl rfl⟩
                   | exact ⟨[], _, ⟨x.rule, x.holder, n, x.til⟩, _, bs, rfl, hv, ⟨_, _, _, rfl⟩, hs.tail.tail, .inl rfl⟩
                   | exact ⟨[], _, ⟨x.rule, x.holder, x.token, n⟩, _, bs, rfl, hv, ⟨_, _, _, rfl⟩, hs.tail.tail, .inl rfl⟩
                   | exact ⟨[], _, x, _, bs, rfl, hv, ⟨_, _, _, rfl⟩, hs.tail.tail, .inl rfl⟩)
              | (refine end1 rfl (resOk_block Try.isAgg37 Try.sizeOf37 hs rfl (kk := 1) rfl rfl) ?_
                 exact ⟨[_], _, x, _, bytesOf s, rfl, rds_more hrd [] Lv, ⟨_, _, _, rfl⟩, St.left (L := [_]) hs, .inr rfl⟩)
abbrev entC (g : Bool) (x : Lz) (v : Value) : List Value := [.bool g, .string x.rule, .int .i64 x.holder, .int .i64 x.token, .int .i64 x.til, v]
structure LeS where
  b : Nat
  g : Bool
  x : Lz
  a : Option Addr
  m : Nat
  c : Nat
  bs : List Int
  Ln : Hp
set_option maxHeartbeats 4000000 in
theorem leaseEncoding_ok (n at_ to_ : Int) (s : ByteArray) (k c : Int) (vr : Value) (es : List Int) (w0 : World) (hn : isI64 n) (hat : isI64 at_) (hk : isI64 k) (hc : isB c) (hr : Sl w0 vr es.length (u8s es)) (hrb : ∀ z ∈ es, isB z) :
    Ret Try.prog 4 [.int .i64 n, .int .i64 at_, .int .i64 to_, .string s, .int .i64 k, .int .u8 c, vr].toArray w0 fun r w' => Fwd [] w0 w' ∧ r = .bool true := by
  obtain ⟨ar, cr, rfl, hrc⟩ := hr.len_le
  obtain ⟨e30, he30⟩ : ∃ er, er = es.take 30 := ⟨_, rfl⟩
  have hel : e30.length = min es.length 30 := by rw [he30]; simp [Nat.min_comm]
  have hel2 : min es.length 30 ≤ 30 := Nat.min_le_right _ _
  have he30B : ∀ z ∈ e30, isB z := fun z hz => hrb z (List.mem_of_mem_take (by rw [← he30]; exact hz))
  have hmv := made_valid n
  have hmB := madeC_isB n
  have hml : (madeC n).length ≤ 2 := by rw [madeC]; split <;> simp
  refine Ret_start fun w hs => ?_
  refine Ret_of Try.func4 rfl Try.ntmps4 rfl ?_
  refine W_seq ?_
  refine W_region ?_
  refine s_assign rfl rfl ?_
  refine WL_nil ?_
  refine n_then ?_
  refine W_seq ?_
  refine W_region ?_
  refine s_move rfl rfl ?_
  refine s_call Try.call12 rfl rfl (made_ok n w hn) ?_
  rintro r w ⟨vm, Lm, rfl, hOm, hst⟩
  replace hs := (St.back0 hs hst).left
  clear hst
  generalize madeG n = mg at hmv
  generalize madeX n = mX at hmv
  generalize madeC n = mC at hmv hmB hOm hml
  obtain ⟨_, cm, am, rfl, hmm⟩ := hOm.form
  subst hmm
  refine s_alloc rfl AL37 hs ?_; clear hs; intro b15 w hs
  first
    | refine s_storeW Try.sizeOf37 rfl rfl rfl rfl hs (kk := 0) rfl rfl ?_
    | refine s_storeW Try.sizeOf37 rfl rfl rfl rfl hs (kk := 1) rfl rfl ?_
    | refine s_storeW Try.sizeOf37 rfl rfl rfl rfl hs (kk := 2) rfl rfl ?_
    | refine s_storeAB Try.sizeOf37 rfl rfl rfl rfl hs (kk := 0) rfl rfl ?_
    | refine s_storeAB Try.sizeOf37 rfl rfl rfl rfl hs (kk := 1) rfl rfl ?_
    | refine s_storeAB Try.sizeOf37 rfl rfl rfl rfl hs (kk := 2) rfl rfl ?_
  clear hs; intro w hs; try simp only [List.set_cons_zero, List.set_cons_succ, splice, List.take_succ_cons, List.take_zero, List.drop_succ_cons, List.drop_zero, List.nil_append, List.cons_append, List.length_cons, List.length_nil, Nat.reduceAdd, List.append_assoc] at hs
  refine WL_nil ?_
  refine n_then ?_
  refine W_cut (σ := LeS) (fun S => [(4, .int .i64 k), (5, .int .u8 c), (6, .slice ar es.length cr), (15, .pointer (some ⟨b15, 0, none⟩)), (16, .pointer (some ⟨S.b, 0, none⟩))])
    (fun S w => St [] w0 w ((S.b, Blk 37 (entC S.g S.x (.slice S.a S.m S.c))) :: (b15, Blk 37 (entC mg mX (.slice am mC.length cm))) :: (S.Ln ++ Lm)) ∧ RdS (.slice S.a S.m S.c) S.bs.length (u8s S.bs) (S.Ln ++ Lm) ∧ ∀ z ∈ S.bs, isB z) ?_ ?_
  · skip
    refine W_tree (.q 0 (.q 1 (.q 2 (.q 3 (.e 4 [0, 1, 2] (.e 5 [] (.e 6 [0, 1, 2, 3] (.e 7 [] .nil .nil) .nil) (.e 6 [0, 1, 2, 3] (.e 5 [] (.e 7 [] .nil .nil) .nil) .nil)) (.e 6 [0, 1, 2, 3] (.e 4 [0, 1, 2] (.e 5 [] (.e 7 [] .nil .nil) .nil) .nil) .nil)))))) [0, 1, 2, 3] [[], [], [], [], [3], [0, 1, 2, 3, 4], [], [0, 1, 2, 3, 4, 5, 6]] MX (by kernel_rfl) ?_
    intro w1 hw1 hw2 hw3 hw4; replace hs := hs.redrawn hw1 hw2 hw3 hw4; clear hw1 hw2 hw3 hw4
    obtain ⟨w, rfl⟩ : ∃ w : World, w = w1 := ⟨_, rfl⟩
    refine T_q rfl rfl ?_
    first
      | refine s_loadW Try.isAgg37 Try.sizeOf37 rfl rfl hs (kk := 0) rfl rfl ?_
      | refine s_loadW Try.isAgg37 Try.sizeOf37 rfl rfl hs (kk := 1) rfl rfl ?_
      | refine s_loadW Try.isAgg37 Try.sizeOf37 rfl rfl hs (kk := 2) rfl rfl ?_
      | refine s_load_6 Try.isAgg37 Try.sizeOf37 rfl rfl (by first | exact hs.cell (k := 0) rfl rfl | exact hs.cell (k := 1) rfl rfl | exact hs.cell (k := 2) rfl rfl) (by first | exact hs.cell (k := 0) rfl rfl | exact hs.cell (k := 1) rfl rfl | exact hs.cell (k := 2) rfl rfl) (by first | exact hs.cell (k := 0) rfl rfl | exact hs.cell (k := 1) rfl rfl | exact hs.cell (k := 2) rfl rfl) (by first | exact hs.cell (k := 0) rfl rfl | exact hs.cell (k := 1) rfl rfl | exact hs.cell (k := 2) rfl rfl) (by first | exact hs.cell (k := 0) rfl rfl | exact hs.cell (k := 1) rfl rfl | exact hs.cell (k := 2) rfl rfl) (by first | exact hs.cell (k := 0) rfl rfl | exact hs.cell (k := 1) rfl rfl | exact hs.cell (k := 2) rfl rfl) ?_
    refine T_qn ?_
    refine T_q rfl rfl ?_
    refine s_move rfl rfl ?_
    refine T_qn ?_
    refine T_q rfl rfl ?_
    refine s_move rfl rfl ?_
    refine T_qn ?_
    refine T_q rfl rfl ?_
    refine s_move rfl rfl ?_
    refine T_qn ?_
    refine T_e rfl ?_ ?_
    · skip
      refine s_call Try.call14 rfl rfl (short_ok s 20 w) ?_
      rintro r w1 ⟨hw1, s', rfl, hsz⟩
      rw [hw1]; clear hw1 w1
      refine T_en ?re ?_
      case re =>
        refine Reks_cons rfl rfl rfl rfl ?_ ?_
        · skip
          first
            | refine s_loadW Try.isAgg37 Try.sizeOf37 rfl rfl hs (kk := 0) rfl rfl ?_
            | refine s_loadW Try.isAgg37 Try.sizeOf37 rfl rfl hs (kk := 1) rfl rfl ?_
            | refine s_loadW Try.isAgg37 Try.sizeOf37 rfl rfl hs (kk := 2) rfl rfl ?_
            | refine s_load_6 Try.isAgg37 Try.sizeOf37 rfl rfl (by first | exact hs.cell (k := 0) rfl rfl | exact hs.cell (k := 1) rfl rfl | exact hs.cell (k := 2) rfl rfl) (by first | exact hs.cell (k := 0) rfl rfl | exact hs.cell (k := 1) rfl rfl | exact hs.cell (k := 2) rfl rfl) (by first | exact hs.cell (k := 0) rfl rfl | exact hs.cell (k := 1) rfl rfl | exact hs.cell (k := 2) rfl rfl) (by first | exact hs.cell (k := 0) rfl rfl | exact hs.cell (k := 1) rfl rfl | exact hs.cell (k := 2) rfl rfl) (by first | exact hs.cell (k := 0) rfl rfl | exact hs.cell (k := 1) rfl rfl | exact hs.cell (k := 2) rfl rfl) (by first | exact hs.cell (k := 0) rfl rfl | exact hs.cell (k := 1) rfl rfl | exact hs.cell (k := 2) rfl rfl) ?_
          exact Rek_end rfl
        refine Reks_cons rfl rfl rfl rfl ?_ ?_
        · skip
          refine s_move rfl rfl ?_
          exact Rek_end rfl
        refine Reks_cons rfl rfl rfl rfl ?_ ?_
        · skip
          refine s_move rfl rfl ?_
          exact Rek_end rfl
        exact Reks_nil
      refine T_e rfl ?_ ?_
      · skip
        refine s_call Try.call13 rfl rfl (bentB_ok mg mX _ mC at_ to_ s' Lm w hOm.rdS ⟨_, _, _, rfl⟩ hat) ?_
        rintro r w ⟨Ln, g', x', v', bs', rfl, hrd', ⟨ea, em, ec, rfl⟩, hst, hbs'⟩
        replace hs := St.back0 hs hst
        clear hst
        have hB' : ∀ z ∈ bs', isB z := by
          rcases hbs' with rfl | rfl
          · exact hmB
          · exact bytesOf_isB s'
        first
          | replace hs : St [] w0 w ((b16, Blk 37 (entC false ⟨ByteArray.empty, 0, 0, 0⟩ (.slice none 0 0))) :: (b15, Blk 37 (entC mg mX (.slice am mC.length cm))) :: (Ln ++ Lm)) := by simpa [cat] using St.reord [Ln, [_, _], Lm] [1, 0, 2] [] (by simpa [cat] using hs) rfl
          | replace hs : St [] w0 w ((b15, Blk 37 (entC mg mX (.slice am mC.length cm))) :: (Ln ++ Lm)) := by simpa [cat] using St.reord [Ln, [_], Lm] [1, 0, 2] [] (by simpa [cat] using hs) rfl
        refine T_en ?re ?_
        case re =>
          exact Reks_nil
        refine T_e rfl ?_ ?_
        · skip
          refine s_alloc rfl AL37 hs ?_; clear hs; intro b16 w hs
          refine T_en ?re ?_
          case re =>
            refine Reks_cons rfl rfl rfl rfl ?_ ?_
            · skip
              first
                | refine s_loadW Try.isAgg37 Try.sizeOf37 rfl rfl hs (kk := 0) rfl rfl ?_
                | refine s_loadW Try.isAgg37 Try.sizeOf37 rfl rfl hs (kk := 1) rfl rfl ?_
                | refine s_loadW Try.isAgg37 Try.sizeOf37 rfl rfl hs (kk := 2) rfl rfl ?_
                | refine s_load_6 Try.isAgg37 Try.sizeOf37 rfl rfl (by first | exact hs.cell (k := 0) rfl rfl | exact hs.cell (k := 1) rfl rfl | exact hs.cell (k := 2) rfl rfl) (by first | exact hs.cell (k := 0) rfl rfl | exact hs.cell (k := 1) rfl rfl | exact hs.cell (k := 2) rfl rfl) (by first | exact hs.cell (k := 0) rfl rfl | exact hs.cell (k := 1) rfl rfl | exact hs.cell (k := 2) rfl rfl) (by first | exact hs.cell (k := 0) rfl rfl | exact hs.cell (k := 1) rfl rfl | exact hs.cell (k := 2) rfl rfl) (by first | exact hs.cell (k := 0) rfl rfl | exact hs.cell (k := 1) rfl rfl | exact hs.cell (k := 2) rfl rfl) (by first | exact hs.cell (k := 0) rfl rfl | exact hs.cell (k := 1) rfl rfl | exact hs.cell (k := 2) rfl rfl) ?_
              exact Rek_end rfl
            refine Reks_cons rfl rfl rfl rfl ?_ ?_
            · skip
              refine s_move rfl rfl ?_
              exact Rek_end rfl
            refine Reks_cons rfl rfl rfl rfl ?_ ?_
            · skip
              refine s_move rfl rfl ?_
              exact Rek_end rfl
            refine Reks_cons rfl rfl rfl rfl ?_ ?_
            · skip
              refine s_move rfl rfl ?_
              exact Rek_end rfl
            exact Reks_nil
          refine T_e rfl ?_ ?_
          · skip
            first
              | refine s_storeW Try.sizeOf37 rfl rfl rfl rfl hs (kk := 0) rfl rfl ?_
              | refine s_storeW Try.sizeOf37 rfl rfl rfl rfl hs (kk := 1) rfl rfl ?_
              | refine s_storeW Try.sizeOf37 rfl rfl rfl rfl hs (kk := 2) rfl rfl ?_
              | refine s_storeAB Try.sizeOf37 rfl rfl rfl rfl hs (kk := 0) rfl rfl ?_
              | refine s_storeAB Try.sizeOf37 rfl rfl rfl rfl hs (kk := 1) rfl rfl ?_
              | refine s_storeAB Try.sizeOf37 rfl rfl rfl rfl hs (kk := 2) rfl rfl ?_
            clear hs; intro w hs; try simp only [List.set_cons_zero, List.set_cons_succ, splice, List.take_succ_cons, List.take_zero, List.drop_succ_cons, List.drop_zero, List.nil_append, List.cons_append, List.length_cons, List.length_nil, Nat.reduceAdd, List.append_assoc] at hs
            refine T_en ?re ?_
            case re =>
              exact Reks_nil
            refine T_nil ?_
            refine n_loop ?_
            exact ⟨⟨_, g', x', ea, em, ec, bs', Ln⟩, ⟨rfl, rfl, rfl, rfl, rfl, trivial⟩, hs, hrd', hB'⟩
          exact T_alt0
        exact T_alt0
      refine T_e rfl ?_ ?_
      · skip
        refine s_alloc rfl AL37 hs ?_; clear hs; intro b16 w hs
        refine T_en ?re ?_
        case re =>
          refine Reks_cons rfl rfl rfl rfl ?_ ?_
          · skip
            first
              | refine s_loadW Try.isAgg37 Try.sizeOf37 rfl rfl hs (kk := 0) rfl rfl ?_
              | refine s_loadW Try.isAgg37 Try.sizeOf37 rfl rfl hs (kk := 1) rfl rfl ?_
              | refine s_loadW Try.isAgg37 Try.sizeOf37 rfl rfl hs (kk := 2) rfl rfl ?_
              | refine s_load_6 Try.isAgg37 Try.sizeOf37 rfl rfl (by first | exact hs.cell (k := 0) rfl rfl | exact hs.cell (k := 1) rfl rfl | exact hs.cell (k := 2) rfl rfl) (by first | exact hs.cell (k := 0) rfl rfl | exact hs.cell (k := 1) rfl rfl | exact hs.cell (k := 2) rfl rfl) (by first | exact hs.cell (k := 0) rfl rfl | exact hs.cell (k := 1) rfl rfl | exact hs.cell (k := 2) rfl rfl) (by first | exact hs.cell (k := 0) rfl rfl | exact hs.cell (k := 1) rfl rfl | exact hs.cell (k := 2) rfl rfl) (by first | exact hs.cell (k := 0) rfl rfl | exact hs.cell (k := 1) rfl rfl | exact hs.cell (k := 2) rfl rfl) (by first | exact hs.cell (k := 0) rfl rfl | exact hs.cell (k := 1) rfl rfl | exact hs.cell (k := 2) rfl rfl) ?_
            exact Rek_end rfl
          refine Reks_cons rfl rfl rfl rfl ?_ ?_
          · skip
            refine s_move rfl rfl ?_
            exact Rek_end rfl
          refine Reks_cons rfl rfl rfl rfl ?_ ?_
          · skip
            refine s_move rfl rfl ?_
            exact Rek_end rfl
          refine Reks_cons rfl rfl rfl rfl ?_ ?_
          · skip
            refine s_move rfl rfl ?_
            exact Rek_end rfl
          exact Reks_nil
        refine T_e rfl ?_ ?_
        · skip
          refine s_call Try.call13 rfl rfl (bentB_ok mg mX _ mC at_ to_ s' Lm w hOm.rdS ⟨_, _, _, rfl⟩ hat) ?_
          rintro r w ⟨Ln, g', x', v', bs', rfl, hrd', ⟨ea, em, ec, rfl⟩, hst, hbs'⟩
          replace hs := St.back0 hs hst
          clear hst
          have hB' : ∀ z ∈ bs', isB z := by
            rcases hbs' with rfl | rfl
            · exact hmB
            · exact bytesOf_isB s'
          first
            | replace hs : St [] w0 w ((b16, Blk 37 (entC false ⟨ByteArray.empty, 0, 0, 0⟩ (.slice none 0 0))) :: (b15, Blk 37 (entC mg mX (.slice am mC.length cm))) :: (Ln ++ Lm)) := by simpa [cat] using St.reord [Ln, [_, _], Lm] [1, 0, 2] [] (by simpa [cat] using hs) rfl
            | replace hs : St [] w0 w ((b15, Blk 37 (entC mg mX (.slice am mC.length cm))) :: (Ln ++ Lm)) := by simpa [cat] using St.reord [Ln, [_], Lm] [1, 0, 2] [] (by simpa [cat] using hs) rfl
          refine T_en ?re ?_
          case re =>
            exact Reks_nil
          refine T_e rfl ?_ ?_
          · skip
            first
              | refine s_storeW Try.sizeOf37 rfl rfl rfl rfl hs (kk := 0) rfl rfl ?_
              | refine s_storeW Try.sizeOf37 rfl rfl rfl rfl hs (kk := 1) rfl rfl ?_
              | refine s_storeW Try.sizeOf37 rfl rfl rfl rfl hs (kk := 2) rfl rfl ?_
              | refine s_storeAB Try.sizeOf37 rfl rfl rfl rfl hs (kk := 0) rfl rfl ?_
              | refine s_storeAB Try.sizeOf37 rfl rfl rfl rfl hs (kk := 1) rfl rfl ?_
              | refine s_storeAB Try.sizeOf37 rfl rfl rfl rfl hs (kk := 2) rfl rfl ?_
            clear hs; intro w hs; try simp only [List.set_cons_zero, List.set_cons_succ, splice, List.take_succ_cons, List.take_zero, List.drop_succ_cons, List.drop_zero, List.nil_append, List.cons_append, List.length_cons, List.length_nil, Nat.reduceAdd, List.append_assoc] at hs
            refine T_en ?re ?_
            case re =>
              exact Reks_nil
            refine T_nil ?_
            refine n_loop ?_
            exact ⟨⟨_, g', x', ea, em, ec, bs', Ln⟩, ⟨rfl, rfl, rfl, rfl, rfl, trivial⟩, hs, hrd', hB'⟩
          exact T_alt0
        exact T_alt0
      exact T_alt0
    refine T_e rfl ?_ ?_
    · skip
      refine s_alloc rfl AL37 hs ?_; clear hs; intro b16 w hs
      refine T_en ?re ?_
      case re =>
        refine Reks_cons rfl rfl rfl rfl ?_ ?_
        · skip
          first
            | refine s_loadW Try.isAgg37 Try.sizeOf37 rfl rfl hs (kk := 0) rfl rfl ?_
            | refine s_loadW Try.isAgg37 Try.sizeOf37 rfl rfl hs (kk := 1) rfl rfl ?_
            | refine s_loadW Try.isAgg37 Try.sizeOf37 rfl rfl hs (kk := 2) rfl rfl ?_
            | refine s_load_6 Try.isAgg37 Try.sizeOf37 rfl rfl (by first | exact hs.cell (k := 0) rfl rfl | exact hs.cell (k := 1) rfl rfl | exact hs.cell (k := 2) rfl rfl) (by first | exact hs.cell (k := 0) rfl rfl | exact hs.cell (k := 1) rfl rfl | exact hs.cell (k := 2) rfl rfl) (by first | exact hs.cell (k := 0) rfl rfl | exact hs.cell (k := 1) rfl rfl | exact hs.cell (k := 2) rfl rfl) (by first | exact hs.cell (k := 0) rfl rfl | exact hs.cell (k := 1) rfl rfl | exact hs.cell (k := 2) rfl rfl) (by first | exact hs.cell (k := 0) rfl rfl | exact hs.cell (k := 1) rfl rfl | exact hs.cell (k := 2) rfl rfl) (by first | exact hs.cell (k := 0) rfl rfl | exact hs.cell (k := 1) rfl rfl | exact hs.cell (k := 2) rfl rfl) ?_
          exact Rek_end rfl
        refine Reks_cons rfl rfl rfl rfl ?_ ?_
        · skip
          refine s_move rfl rfl ?_
          exact Rek_end rfl
        refine Reks_cons rfl rfl rfl rfl ?_ ?_
        · skip
          refine s_move rfl rfl ?_
          exact Rek_end rfl
        refine Reks_cons rfl rfl rfl rfl ?_ ?_
        · skip
          refine s_move rfl rfl ?_
          exact Rek_end rfl
        exact Reks_nil
      refine T_e rfl ?_ ?_
      · skip
        refine s_call Try.call14 rfl rfl (short_ok s 20 w) ?_
        rintro r w1 ⟨hw1, s', rfl, hsz⟩
        rw [hw1]; clear hw1 w1
        refine T_en ?re ?_
        case re =>
          refine Reks_cons rfl rfl rfl rfl ?_ ?_
          · skip
            first
              | refine s_loadW Try.isAgg37 Try.sizeOf37 rfl rfl hs (kk := 0) rfl rfl ?_
              | refine s_loadW Try.isAgg37 Try.sizeOf37 rfl rfl hs (kk := 1) rfl rfl ?_
              | refine s_loadW Try.isAgg37 Try.sizeOf37 rfl rfl hs (kk := 2) rfl rfl ?_
              | refine s_load_6 Try.isAgg37 Try.sizeOf37 rfl rfl (by first | exact hs.cell (k := 0) rfl rfl | exact hs.cell (k := 1) rfl rfl | exact hs.cell (k := 2) rfl rfl) (by first | exact hs.cell (k := 0) rfl rfl | exact hs.cell (k := 1) rfl rfl | exact hs.cell (k := 2) rfl rfl) (by first | exact hs.cell (k := 0) rfl rfl | exact hs.cell (k := 1) rfl rfl | exact hs.cell (k := 2) rfl rfl) (by first | exact hs.cell (k := 0) rfl rfl | exact hs.cell (k := 1) rfl rfl | exact hs.cell (k := 2) rfl rfl) (by first | exact hs.cell (k := 0) rfl rfl | exact hs.cell (k := 1) rfl rfl | exact hs.cell (k := 2) rfl rfl) (by first | exact hs.cell (k := 0) rfl rfl | exact hs.cell (k := 1) rfl rfl | exact hs.cell (k := 2) rfl rfl) ?_
            exact Rek_end rfl
          refine Reks_cons rfl rfl rfl rfl ?_ ?_
          · skip
            refine s_move rfl rfl ?_
            exact Rek_end rfl
          refine Reks_cons rfl rfl rfl rfl ?_ ?_
          · skip
            refine s_move rfl rfl ?_
            exact Rek_end rfl
          exact Reks_nil
        refine T_e rfl ?_ ?_
        · skip
          refine s_call Try.call13 rfl rfl (bentB_ok mg mX _ mC at_ to_ s' Lm w hOm.rdS ⟨_, _, _, rfl⟩ hat) ?_
          rintro r w ⟨Ln, g', x', v', bs', rfl, hrd', ⟨ea, em, ec, rfl⟩, hst, hbs'⟩
          replace hs := St.back0 hs hst
          clear hst
          have hB' : ∀ z ∈ bs', isB z := by
            rcases hbs' with rfl | rfl
            · exact hmB
            · exact bytesOf_isB s'
          first
            | replace hs : St [] w0 w ((b16, Blk 37 (entC false ⟨ByteArray.empty, 0, 0, 0⟩ (.slice none 0 0))) :: (b15, Blk 37 (entC mg mX (.slice am mC.length cm))) :: (Ln ++ Lm)) := by simpa [cat] using St.reord [Ln, [_, _], Lm] [1, 0, 2] [] (by simpa [cat] using hs) rfl
            | replace hs : St [] w0 w ((b15, Blk 37 (entC mg mX (.slice am mC.length cm))) :: (Ln ++ Lm)) := by simpa [cat] using St.reord [Ln, [_], Lm] [1, 0, 2] [] (by simpa [cat] using hs) rfl
          refine T_en ?re ?_
          case re =>
            exact Reks_nil
          refine T_e rfl ?_ ?_
          · skip
            first
              | refine s_storeW Try.sizeOf37 rfl rfl rfl rfl hs (kk := 0) rfl rfl ?_
              | refine s_storeW Try.sizeOf37 rfl rfl rfl rfl hs (kk := 1) rfl rfl ?_
              | refine s_storeW Try.sizeOf37 rfl rfl rfl rfl hs (kk := 2) rfl rfl ?_
              | refine s_storeAB Try.sizeOf37 rfl rfl rfl rfl hs (kk := 0) rfl rfl ?_
              | refine s_storeAB Try.sizeOf37 rfl rfl rfl rfl hs (kk := 1) rfl rfl ?_
              | refine s_storeAB Try.sizeOf37 rfl rfl rfl rfl hs (kk := 2) rfl rfl ?_
            clear hs; intro w hs; try simp only [List.set_cons_zero, List.set_cons_succ, splice, List.take_succ_cons, List.take_zero, List.drop_succ_cons, List.drop_zero, List.nil_append, List.cons_append, List.length_cons, List.length_nil, Nat.reduceAdd, List.append_assoc] at hs
            refine T_en ?re ?_
            case re =>
              exact Reks_nil
            refine T_nil ?_
            refine n_loop ?_
            exact ⟨⟨_, g', x', ea, em, ec, bs', Ln⟩, ⟨rfl, rfl, rfl, rfl, rfl, trivial⟩, hs, hrd', hB'⟩
          exact T_alt0
        exact T_alt0
      exact T_alt0
    exact T_alt0
  · skip
    clear hs
    rintro ⟨b16, g', x', ea, em, ec, bs', Ln⟩ w ⟨hs, hrd', hB'⟩
    simp only at hs hrd' hB' ⊢
    obtain ⟨_, _, hem, -⟩ := (hrd'.sl w fun p hp => hs.own p (by simp at hp; rcases hp with hp | hp <;> simp [hp])).len_le
    have hem2 : em = bs'.length := by cases hem; rfl
    clear hem
    subst hem2
    refine W_seq ?_
    refine W_region ?_
    first
      | refine s_loadW Try.isAgg37 Try.sizeOf37 rfl rfl hs (kk := 0) rfl rfl ?_
      | refine s_loadW Try.isAgg37 Try.sizeOf37 rfl rfl hs (kk := 1) rfl rfl ?_
      | refine s_loadW Try.isAgg37 Try.sizeOf37 rfl rfl hs (kk := 2) rfl rfl ?_
      | refine s_load_6 Try.isAgg37 Try.sizeOf37 rfl rfl (by first | exact hs.cell (k := 0) rfl rfl | exact hs.cell (k := 1) rfl rfl | exact hs.cell (k := 2) rfl rfl) (by first | exact hs.cell (k := 0) rfl rfl | exact hs.cell (k := 1) rfl rfl | exact hs.cell (k := 2) rfl rfl) (by first | exact hs.cell (k := 0) rfl rfl | exact hs.cell (k := 1) rfl rfl | exact hs.cell (k := 2) rfl rfl) (by first | exact hs.cell (k := 0) rfl rfl | exact hs.cell (k := 1) rfl rfl | exact hs.cell (k := 2) rfl rfl) (by first | exact hs.cell (k := 0) rfl rfl | exact hs.cell (k := 1) rfl rfl | exact hs.cell (k := 2) rfl rfl) (by first | exact hs.cell (k := 0) rfl rfl | exact hs.cell (k := 1) rfl rfl | exact hs.cell (k := 2) rfl rfl) ?_
    refine s_call Try.call21 rfl rfl (of_ok g' x' _ bs'.length _ w) ?_
    rintro r w ⟨hst, rfl⟩
    replace hs := hs.fwd1 hst
    clear hst
    refine s_call Try.call27 rfl rfl (encode_ok g' x' _ bs' w (hrd'.sl w fun p hp => hs.own p (by simp at hp; rcases hp with hp | hp <;> simp [hp]))) ?_
    rintro r w ⟨u1, L1, rfl, hO1, hst⟩
    replace hs := St.back0 hs hst
    clear hst
    replace hs : St [] w0 w ((b16, Blk 37 (entC g' x' (.slice ea bs'.length ec))) :: (b15, Blk 37 (entC mg mX (.slice am mC.length cm))) :: (Ln ++ (Lm ++ L1))) := by simpa [cat] using St.reord [L1, [_, _], Ln, Lm] [1, 2, 3, 0] [] (by simpa [cat] using hs) rfl
    refine s_move rfl rfl ?_
    refine s_extract rfl rfl rfl ?_
    refine s_extract rfl rfl rfl ?_
    refine s_assign rfl rfl ?_
    refine s_assign rfl rfl ?_
    refine WL_nil ?_
    refine n_then ?_
    refine W_seq ?_
    refine W_region ?_
    first
      | refine s_loadW Try.isAgg37 Try.sizeOf37 rfl rfl hs (kk := 0) rfl rfl ?_
      | refine s_loadW Try.isAgg37 Try.sizeOf37 rfl rfl hs (kk := 1) rfl rfl ?_
      | refine s_loadW Try.isAgg37 Try.sizeOf37 rfl rfl hs (kk := 2) rfl rfl ?_
      | refine s_load_6 Try.isAgg37 Try.sizeOf37 rfl rfl (by first | exact hs.cell (k := 0) rfl rfl | exact hs.cell (k := 1) rfl rfl | exact hs.cell (k := 2) rfl rfl) (by first | exact hs.cell (k := 0) rfl rfl | exact hs.cell (k := 1) rfl rfl | exact hs.cell (k := 2) rfl rfl) (by first | exact hs.cell (k := 0) rfl rfl | exact hs.cell (k := 1) rfl rfl | exact hs.cell (k := 2) rfl rfl) (by first | exact hs.cell (k := 0) rfl rfl | exact hs.cell (k := 1) rfl rfl | exact hs.cell (k := 2) rfl rfl) (by first | exact hs.cell (k := 0) rfl rfl | exact hs.cell (k := 1) rfl rfl | exact hs.cell (k := 2) rfl rfl) (by first | exact hs.cell (k := 0) rfl rfl | exact hs.cell (k := 1) rfl rfl | exact hs.cell (k := 2) rfl rfl) ?_
    refine s_call Try.call28 rfl rfl (fEncode_ok g' x' _ bs' w (hrd'.sl w fun p hp => hs.own p (by simp at hp; rcases hp with hp | hp <;> simp [hp]))) ?_
    rintro r w ⟨u2, L2, rfl, hO2, hst⟩
    replace hs := St.back0 hs hst
    clear hst
    have hxl := encV_len g' x' bs'
    have hxB := encV_isB (g := g') (x := x') hB'
    generalize encV g' x' bs' = xb at hO1 hO2 hxl hxB
    refine s_move rfl rfl ?_
    refine s_extract rfl rfl rfl ?_
    refine s_extract rfl rfl rfl ?_
    refine s_assign rfl rfl ?_
    refine s_assign rfl rfl ?_
    refine WL_nil ?_
    refine n_then ?_
    refine W_seq ?_
    refine W_seq ?_
    refine W_region ?_
    refine s_move rfl rfl ?_
    refine s_move rfl rfl ?_
    refine s_neq rfl rfl rfl ?_
    refine s_move rfl rfl ?_
    refine WL_know (s := 59) (c := false) rfl ((by simp)) ?_
    refine WL_take rfl ?_
    refine s_move rfl rfl ?_
    refine WL_take rfl ?_
    refine s_move rfl rfl ?_
    refine WL_take rfl ?_
    refine s_call Try.call29 rfl rfl (sameBytes_ok _ _ xb xb w (OwnS_slIn hO1 fun p hp => hs.own p (by simp [hp])) (OwnS_slIn hO2 fun p hp => hs.own p (by simp [hp])) (by omega)) ?_
    rintro r w ⟨hst, rfl⟩
    replace hs := (hs.fwd1 hst).right.tail
    clear hst hO2
    replace hs : St [] w0 w ((b15, Blk 37 (entC mg mX (.slice am mC.length cm))) :: (L1 ++ Lm)) := by simpa [cat] using St.reord [[_], Ln, Lm, L1] [0, 3, 2] [1] (by simpa [cat] using hs) rfl
    clear hrd'
    obtain ⟨_, c1, a1, rfl, h1l⟩ := hO1.form
    subst h1l
    refine WL_take rfl ?_
    refine s_not rfl rfl ?_
    refine s_pick_f rfl rfl rfl ?_
    refine WL_nil ?_
    refine n_then ?_
    refine W_cond_kf rfl ((by simp)) ?_
    refine W_skip ?_
    refine n_then ?_
    refine W_seq ?_
    refine W_region ?_
    first
      | refine s_loadW Try.isAgg37 Try.sizeOf37 rfl rfl hs (kk := 0) rfl rfl ?_
      | refine s_loadW Try.isAgg37 Try.sizeOf37 rfl rfl hs (kk := 1) rfl rfl ?_
      | refine s_loadW Try.isAgg37 Try.sizeOf37 rfl rfl hs (kk := 2) rfl rfl ?_
      | refine s_load_6 Try.isAgg37 Try.sizeOf37 rfl rfl (by first | exact hs.cell (k := 0) rfl rfl | exact hs.cell (k := 1) rfl rfl | exact hs.cell (k := 2) rfl rfl) (by first | exact hs.cell (k := 0) rfl rfl | exact hs.cell (k := 1) rfl rfl | exact hs.cell (k := 2) rfl rfl) (by first | exact hs.cell (k := 0) rfl rfl | exact hs.cell (k := 1) rfl rfl | exact hs.cell (k := 2) rfl rfl) (by first | exact hs.cell (k := 0) rfl rfl | exact hs.cell (k := 1) rfl rfl | exact hs.cell (k := 2) rfl rfl) (by first | exact hs.cell (k := 0) rfl rfl | exact hs.cell (k := 1) rfl rfl | exact hs.cell (k := 2) rfl rfl) (by first | exact hs.cell (k := 0) rfl rfl | exact hs.cell (k := 1) rfl rfl | exact hs.cell (k := 2) rfl rfl) ?_
    refine s_call Try.call21 rfl rfl (of_ok mg mX am mC.length cm w) ?_
    rintro r w ⟨hst, rfl⟩
    replace hs := hs.fwd1 hst
    clear hst
    refine s_call Try.call27 rfl rfl (encode_ok mg mX _ mC w (OwnS_slIn hOm fun p hp => hs.own p (by simp [hp]))) ?_
    rintro r w ⟨ub, Lb, rfl, hOb, hst⟩
    replace hs := St.back0 hs hst
    clear hst
    rw [encV, if_pos hmv] at hOb
    rw [encE, if_pos hmv]
    obtain ⟨s1, s2, s3, s4, s5, hq1, hq2, hq3, hq4, hq5, hq6⟩ := ent_read hmv
    have hbl := entV_len hmv
    have hbB := entV_isB (g := mg) (x := mX) hmB
    have hb0 : 0 < (entV mg mX mC).length := by rw [entV]; simp only [List.length_append, List.length_cons, List.length_nil]; omega
    generalize entV mg mX mC = eb at *
    obtain ⟨_, cb, ab, rfl, hbbl⟩ := hOb.form
    subst hbbl
    replace hs : St [] w0 w ((b15, Blk 37 (entC mg mX (.slice am mC.length cm))) :: (Lb ++ (L1 ++ Lm))) := by simpa [cat] using St.reord [Lb, [_], L1, Lm] [1, 0, 2, 3] [] (by simpa [cat] using hs) rfl
    refine s_move rfl rfl ?_
    refine s_extract rfl rfl rfl ?_
    refine s_extract rfl rfl rfl ?_
    refine s_assign rfl rfl ?_
    refine s_assign rfl rfl ?_
    refine WL_nil ?_
    refine n_then ?_
    refine W_seq ?_
    refine W_region ?_
    refine s_move rfl rfl ?_
    refine s_call Try.call30 rfl rfl (read_ok _ eb w (OwnS_slIn hOb fun p hp => hs.own p (by simp [hp])) (by omega) hbB) ?_
    rintro r w ⟨p, LO, rfl, hR, hst⟩
    replace hs := St.back0 hs hst
    clear hst
    replace hs : St [] w0 w ((b15, Blk 37 (entC mg mX (.slice am mC.length cm))) :: (LO ++ (Lb ++ (L1 ++ Lm)))) := by simpa [cat] using St.reord [LO, [_], Lb, L1, Lm] [1, 0, 2, 3, 4] [] (by simpa [cat] using hs) rfl
    refine s_assign rfl rfl ?_
    refine WL_nil ?_
    refine n_then ?_
    refine W_seq ?_
    refine W_seq ?_
    refine W_region ?_
    refine s_move rfl rfl ?_
    refine s_neq rfl rfl rfl ?_
    refine s_move rfl rfl ?_
    refine WL_know (s := 75) (c := false) rfl ((by simp)) ?_
    refine WL_take rfl ?_
    refine s_move rfl rfl ?_
    refine WL_take rfl ?_
    refine s_eql_ptr_nil Try.underlying62 rfl rfl rfl ?_
    refine s_pick_f rfl rfl rfl ?_
    refine WL_nil ?_
    refine n_then ?_
    refine W_cond_kf rfl (rfl) ?_
    refine W_skip ?_
    refine n_then ?_
    refine W_seq ?_
    refine W_region ?_
    refine s_move rfl rfl ?_
    refine s_callL (M := [_]) (L1 := LO) (X := Lb ++ (L1 ++ Lm)) Try.call31 rfl rfl hs (fun h => rBool_ok p _ LO w hR h) ?_
    clear hs hR; rintro v2 w LO ⟨hR, rfl⟩ - hs
    rw [hq1] at hR ⊢
    simp only [List.cons_append, List.nil_append] at hs hR ⊢
    refine s_assign rfl rfl ?_
    refine WL_nil ?_
    refine n_then ?_
    refine W_seq ?_
    refine W_region ?_
    refine s_move rfl rfl ?_
    refine s_callL (M := [_]) (L1 := LO) (X := Lb ++ (L1 ++ Lm)) Try.call32 rfl rfl hs (fun h => rText_ok p _ LO w hR h) ?_
    clear hs hR; rintro v2 w LO ⟨hR, rfl⟩ - hs
    rw [hq2] at hR ⊢
    simp only [List.cons_append, List.nil_append, strOf_bytesOf] at hs hR ⊢
    refine s_assign rfl rfl ?_
    refine WL_nil ?_
    refine n_then ?_
    refine W_seq ?_
    refine W_region ?_
    refine s_move rfl rfl ?_
    refine s_callL (M := [_]) (L1 := LO) (X := Lb ++ (L1 ++ Lm)) Try.call33 rfl rfl hs (fun h => rInt_ok p _ LO w hR h) ?_
    clear hs hR; rintro v2 w LO ⟨hR, rfl⟩ - hs
    rw [hq3] at hR ⊢
    simp only [List.cons_append, List.nil_append] at hs hR ⊢
    refine s_assign rfl rfl ?_
    refine WL_nil ?_
    refine n_then ?_
    refine W_seq ?_
    refine W_region ?_
    refine s_move rfl rfl ?_
    refine s_callL (M := [_]) (L1 := LO) (X := Lb ++ (L1 ++ Lm)) Try.call33 rfl rfl hs (fun h => rInt_ok p _ LO w hR h) ?_
    clear hs hR; rintro v2 w LO ⟨hR, rfl⟩ - hs
    rw [hq4] at hR ⊢
    simp only [List.cons_append, List.nil_append] at hs hR ⊢
    refine s_assign rfl rfl ?_
    refine WL_nil ?_
    refine n_then ?_
    refine W_seq ?_
    refine W_region ?_
    refine s_move rfl rfl ?_
    refine s_callL (M := [_]) (L1 := LO) (X := Lb ++ (L1 ++ Lm)) Try.call33 rfl rfl hs (fun h => rInt_ok p _ LO w hR h) ?_
    clear hs hR; rintro v2 w LO ⟨hR, rfl⟩ - hs
    rw [hq5] at hR ⊢
    simp only [List.cons_append, List.nil_append] at hs hR ⊢
    refine s_assign rfl rfl ?_
    refine WL_nil ?_
    refine n_then ?_
    refine W_seq ?_
    refine W_region ?_
    refine s_move rfl rfl ?_
    refine s_callL (M := [_]) (L1 := LO) (X := Lb ++ (L1 ++ Lm)) Try.call34 rfl rfl hs (fun h => rRaw_ok p _ LO w hR h) ?_
    clear hs hR; rintro v2 w L9 ⟨LO, Lc, rfl, hR, hOc⟩ - hs
    rw [hq6] at hR hOc
    simp only [List.cons_append, List.nil_append, List.append_assoc] at hs hR hOc ⊢
    refine s_assign rfl rfl ?_
    refine WL_nil ?_
    refine n_then ?_
    refine W_seq ?_
    refine W_seq ?_
    refine W_region ?_
    refine s_move rfl rfl ?_
    refine s_callL (M := [_]) (L1 := LO) (X := Lc ++ (Lb ++ (L1 ++ Lm))) Try.call35 rfl rfl hs (fun h => rEnd_ok p _ LO w hR h) ?_
    clear hs; rintro v2 w L9 ⟨hL9, rfl⟩ - hs
    rw [hL9] at hs; clear hL9 L9
    simp only [List.cons_append, List.nil_append] at hs
    refine s_neq rfl rfl rfl ?_
    refine s_move rfl rfl ?_
    refine WL_know (s := 94) (c := false) rfl ((by simp [rdEnd])) ?_
    refine WL_take rfl ?_
    refine s_move rfl rfl ?_
    refine WL_take rfl ?_
    refine s_fieldAddr rfl rfl (FA37_0 _ _) ?_
    refine WL_take rfl ?_
    first
      | refine s_load Try.isAgg4 rfl rfl (hs.cell (k := 0) rfl rfl) ?_
      | refine s_load Try.isAgg4 rfl rfl (hs.cell (k := 1) rfl rfl) ?_
      | refine s_load Try.isAgg4 rfl rfl (hs.cell (k := 2) rfl rfl) ?_
    refine WL_take rfl ?_
    refine s_neq_bool Try.underlying4 rfl rfl rfl ?_
    refine s_pick_f rfl rfl rfl ?_
    refine s_move rfl rfl ?_
    refine WL_know (s := 100) (c := false) rfl ((by simp)) ?_
    refine WL_take rfl ?_
    refine s_move rfl rfl ?_
    refine WL_take rfl ?_
    refine s_move rfl rfl ?_
    refine WL_take rfl ?_
    refine s_move rfl rfl ?_
    refine WL_take rfl ?_
    refine s_move rfl rfl ?_
    refine WL_take rfl ?_
    refine s_build rfl rfl (BD34_0_1_2_3 _ _ _ _) ?_
    refine WL_take rfl ?_
    refine s_fieldAddr rfl rfl (FA37_1 _ _) ?_
    refine WL_take rfl ?_
    first
      | refine s_loadW Try.isAgg34 Try.sizeOf34 rfl rfl hs (kk := 0) rfl rfl ?_
      | refine s_loadW Try.isAgg34 Try.sizeOf34 rfl rfl hs (kk := 1) rfl rfl ?_
      | refine s_loadW Try.isAgg34 Try.sizeOf34 rfl rfl hs (kk := 2) rfl rfl ?_
      | refine s_load_4 Try.isAgg34 Try.sizeOf34 rfl rfl (by first | exact hs.cell (k := 0) rfl rfl | exact hs.cell (k := 1) rfl rfl | exact hs.cell (k := 2) rfl rfl) (by first | exact hs.cell (k := 0) rfl rfl | exact hs.cell (k := 1) rfl rfl | exact hs.cell (k := 2) rfl rfl) (by first | exact hs.cell (k := 0) rfl rfl | exact hs.cell (k := 1) rfl rfl | exact hs.cell (k := 2) rfl rfl) (by first | exact hs.cell (k := 0) rfl rfl | exact hs.cell (k := 1) rfl rfl | exact hs.cell (k := 2) rfl rfl) ?_
    refine WL_take rfl ?_
    refine s_neq_agg EG34 rfl rfl rfl (SE34 _ _ _ _ _ _ _ _) ?_
    refine s_pick_f rfl rfl rfl ?_
    refine s_move rfl rfl ?_
    refine WL_know (s := 110) (c := false) rfl ((by simp)) ?_
    refine WL_take rfl ?_
    refine s_move rfl rfl ?_
    refine WL_take rfl ?_
    refine s_fieldAddr rfl rfl (FA37_2 _ _) ?_
    refine WL_take rfl ?_
    first
      | refine s_load Try.isAgg35 rfl rfl (hs.cell (k := 0) rfl rfl) ?_
      | refine s_load Try.isAgg35 rfl rfl (hs.cell (k := 1) rfl rfl) ?_
      | refine s_load Try.isAgg35 rfl rfl (hs.cell (k := 2) rfl rfl) ?_
    refine WL_take rfl ?_
    refine s_call Try.call29 rfl rfl (sameBytes_ok _ _ mC mC w (OwnS_slIn hOc fun p hp => hs.own p (by simp [hp])) (OwnS_slIn hOm fun p hp => hs.own p (by simp [hp])) (by omega)) ?_
    rintro r w ⟨hst, rfl⟩
    replace hs := (hs.fwd1 hst).tail.right.right
    clear hst hOc
    refine WL_take rfl ?_
    refine s_not rfl rfl ?_
    refine s_pick_f rfl rfl rfl ?_
    refine WL_nil ?_
    refine n_then ?_
    refine W_cond_kf rfl ((by simp)) ?_
    refine W_skip ?_
    refine n_then ?_
    refine W_seq ?_
    refine W_region ?_
    refine s_move rfl rfl ?_
    refine s_move rfl rfl ?_
    refine s_len rfl rfl (LN35 _ _ _ _) ?_
    refine s_call Try.call36 rfl rfl (few_ok _ eb eb.length w (OwnS_slIn hOb fun p hp => hs.own p (by simp [hp])) (by omega)) ?_
    rintro r w ⟨Lt, hOt, hst⟩
    replace hs := St.back0 hs hst
    clear hst
    rw [Nat.min_self, List.take_of_length_le (Nat.le_refl _)] at hOt
    obtain ⟨g, cap, sp, rfl, hcap, rfl⟩ := hOt.block (by omega)
    simp only [List.cons_append, List.nil_append] at hs
    have hra := aroundV_range (m := k) (q := (eb.length : Int)) (by omega)
    refine s_assign rfl rfl ?_
    refine WL_nil ?_
    refine n_then ?_
    refine W_seq ?_
    refine W_region ?_
    refine s_move rfl rfl ?_
    refine s_move rfl rfl ?_
    refine s_move rfl rfl ?_
    refine s_len rfl rfl (LN35 _ _ _ _) ?_
    refine s_call Try.call10 rfl rfl (around_ok k eb.length _ (by omega) hk) ?_
    rintro r w ⟨rfl, rfl⟩
    refine s_move rfl rfl ?_
    (refine s_indexAddr1 El35 rfl rfl rfl ?hx ?_; case hx => (constructor <;> first | omega | (simp; omega)))
    refine s_store Try.sizeOf5 rfl rfl rfl hs (kk := 0) rfl (by simp; omega) ?_
    clear hs; intro w hs
    simp only [List.set_cons_zero, Nat.zero_add] at hs
    rw [List.set_append_left _ _ (by simp; omega), ← List.map_set] at hs
    have htB : ∀ b ∈ eb.set (aroundV k (eb.length : Int)).toNat c, isB b := by
      intro b hm
      rcases List.mem_or_eq_of_mem_set hm with hm | rfl
      · exact hbB b hm
      · exact hc
    have htl : (eb.set (aroundV k (eb.length : Int)).toNat c).length = eb.length := List.length_set
    generalize eb.set (aroundV k (eb.length : Int)).toNat c = tb at *
    have hrt : RdS (.slice (some ⟨g, 0, none⟩) eb.length cap) tb.length (u8s tb) [(g, Blk 5 (u8s tb ++ sp))] := by
      refine ⟨fun w hw => ⟨_, _, by rw [htl], by rw [htl]; exact hcap, .inr ⟨g, 0, rfl, fun j u hj => ?_⟩⟩, fun a m c he _ => by cases he; simp [ids]⟩
      rw [cell_of_row w g (0 + j) (u8s tb ++ sp).toArray 5 (0, 0) (hw (g, _) (by simp))]
      simp only [Nat.zero_add, List.getElem?_toArray]
      rw [List.getElem?_append_left (List.getElem?_eq_some_iff.1 hj).1]; exact hj
    refine WL_nil ?_
    refine n_then ?_
    refine W_seq ?_
    refine W_region ?_
    refine s_move rfl rfl ?_
    refine s_move rfl rfl ?_
    refine s_move rfl rfl ?_
    refine s_move rfl rfl ?_
    refine s_call Try.call36 rfl rfl (few_ok _ es 30 w (hr.fwd0 hs.fwd) (by omega)) ?_
    rintro r w ⟨Lr, hOr, hst⟩
    replace hs := St.back0 hs hst
    clear hst
    rw [← he30, ← hel] at hOr
    obtain ⟨_, cv, av, rfl, hvl⟩ := hOr.form
    subst hvl
    refine s_buildSlice rfl rfl (BS27_4 _ _ _ _ _ _ _ _ _ _ _ _) hs ?_; clear hs; intro b133 w hs
    refine s_assign rfl rfl ?_
    refine WL_nil ?_
    refine n_then ?_
    refine W_seq ?_
    refine W_seq ?_
    refine W_region ?_
    obtain ⟨qs, hqs⟩ : ∃ qs : List (Value × List Int), qs = [(.slice ab eb.length cb, eb), (.slice a1 xb.length c1, xb), (.slice (some ⟨g, 0, none⟩) eb.length cap, tb), (.slice av e30.length cv, e30)] := ⟨_, rfl⟩
    have hql : qs.length = 4 := by rw [hqs]; rfl
    have hqv : [Value.slice ab eb.length cb, .slice a1 xb.length c1, .slice (some ⟨g, 0, none⟩) eb.length cap, .slice av e30.length cv] = qs.map Prod.fst := by rw [hqs]; rfl
    have hqin : ∀ q ∈ qs, RdS q.1 q.2.length (u8s q.2) (Lr ++ ((g, Blk 5 (u8s tb ++ sp)) :: (Lb ++ (L1 ++ Lm)))) := by
      intro q hq
      rw [hqs] at hq
      simp only [List.mem_cons, List.not_mem_nil, or_false] at hq
      rcases hq with rfl | rfl | rfl | rfl
      · exact RdS.monoL hOb.rdS fun p hp => by simp [hp]
      · exact RdS.monoL hO1.rdS fun p hp => by simp [hp]
      · exact RdS.monoL hrt fun p hp => by simp at hp; simp [hp]
      · exact RdS.monoL hOr.rdS fun p hp => by simp [hp]
    have hqb : ∀ q ∈ qs, q.2.length ≤ 1048576 ∧ ∀ b ∈ q.2, isB b := by
      intro q hq
      rw [hqs] at hq
      simp only [List.mem_cons, List.not_mem_nil, or_false] at hq
      rcases hq with rfl | rfl | rfl | rfl
      · exact ⟨by simp only; omega, hbB⟩
      · exact ⟨by simp only; omega, hxB⟩
      · exact ⟨by simp only; omega, htB⟩
      · exact ⟨by simp only; omega, he30B⟩
    rw [hqv] at hs
    clear hqs hqv hOr hOb hO1 hOm hrt hOt
    generalize Lr ++ ((g, Blk 5 (u8s tb ++ sp)) :: (Lb ++ (L1 ++ Lm))) = LQ at hs hqin
    refine s_assign rfl rfl ?_
    refine WL_nil ?_
    refine n_then ?_
    refine W_block ?_
    refine W_loop (σ := Nat) (fun i => [(31, .slice (some ⟨b133, 0, none⟩) 4 4), (32, .int .i64 (i : Int))]) (fun i w => St [] w0 w ((b133, Blk 35 (qs.map Prod.fst)) :: LQ) ∧ i ≤ 4) (fun i => 4 - i) 0 ⟨rfl, rfl, trivial⟩ ⟨hs, by omega⟩ ?_
    clear hs
    rintro i w ⟨hs, hi⟩
    refine W_seq ?_
    refine W_seq ?_
    refine W_region ?_
    refine s_move rfl rfl ?_
    refine s_lss rfl rfl rfl ?_
    refine WL_nil ?_
    refine n_then ?_
    refine W_cond rfl (fun hc135 => ?_) (fun hc135 => ?_)
    · skip
      try simp only [decide_eq_true_eq, decide_eq_false_iff_not] at hc135
      have hil : i < qs.length := by omega
      obtain ⟨⟨u3, x3⟩, hx3⟩ : ∃ q, qs[i]? = some q := ⟨_, List.getElem?_eq_getElem hil⟩
      have hm3 := List.mem_of_getElem? hx3
      have hv3 : (qs.map Prod.fst)[0 + (i : Int).toNat]? = some u3 := by rw [Nat.zero_add, Int.toNat_natCast, List.getElem?_map, hx3]; rfl
      have hS3 := (hqin _ hm3).sl w fun p hp => hs.own p (by simp [hp])
      have hB3 := hqb _ hm3
      simp only at hS3 hB3
      refine W_skip ?_
      refine n_then ?_
      refine W_seq ?_
      refine W_block ?_
      refine W_seq ?_
      refine W_region ?_
      refine s_move rfl rfl ?_
      refine s_move rfl rfl ?_
      (refine s_indexAddr1 El27 rfl rfl rfl ?hx ?_; case hx => (constructor <;> first | omega | (simp; omega)))
      refine s_load Try.isAgg35 rfl rfl (hs.cell (k := 0) (fz := (0, 0)) rfl hv3) ?_
      refine s_call Try.call37 rfl rfl (decode_ok u3 x3 w hS3 hB3.2 (by omega)) ?_
      rintro r w ⟨vc, Lc, rfl, hOc, hst⟩
      replace hs := St.back0 hs hst
      clear hst
      obtain ⟨_, cc, ac, rfl, hccl⟩ := hOc.form
      subst hccl
      refine s_move rfl rfl ?_
      refine s_extract rfl rfl rfl ?_
      refine s_extract rfl rfl rfl ?_
      refine s_alloc rfl AL41 hs ?_; clear hs; intro b33 w hs
      first
        | refine s_storeW Try.sizeOf41 rfl rfl rfl rfl hs (kk := 0) rfl rfl ?_
        | refine s_storeW Try.sizeOf41 rfl rfl rfl rfl hs (kk := 1) rfl rfl ?_
        | refine s_storeW Try.sizeOf41 rfl rfl rfl rfl hs (kk := 2) rfl rfl ?_
        | refine s_storeAB Try.sizeOf41 rfl rfl rfl rfl hs (kk := 0) rfl rfl ?_
        | refine s_storeAB Try.sizeOf41 rfl rfl rfl rfl hs (kk := 1) rfl rfl ?_
        | refine s_storeAB Try.sizeOf41 rfl rfl rfl rfl hs (kk := 2) rfl rfl ?_
      clear hs; intro w hs; try simp only [List.set_cons_zero, List.set_cons_succ, splice, List.take_succ_cons, List.take_zero, List.drop_succ_cons, List.drop_zero, List.nil_append, List.cons_append, List.length_cons, List.length_nil, Nat.reduceAdd, List.append_assoc] at hs
      refine s_assign rfl rfl ?_
      refine WL_nil ?_
      refine n_then ?_
      refine W_seq ?_
      refine W_region ?_
      refine s_move rfl rfl ?_
      refine s_move rfl rfl ?_
      (refine s_indexAddr1 El27 rfl rfl rfl ?hx ?_; case hx => (constructor <;> first | omega | (simp; omega)))
      refine s_load Try.isAgg35 rfl rfl (hs.cellM (fz := (0, 0)) (cs := qs.map Prod.fst) (e := 35) (by simp) hv3) ?_
      refine s_call Try.call38 rfl rfl (fDecode_ok u3 x3 LQ w (hqin _ hm3) (fun p hp => hs.own p (by simp [hp])) hB3.2 (by omega)) ?_
      rintro r w ⟨vd, rfl, hrd, hst⟩
      replace hs := hs.fwd1 hst
      clear hst
      obtain ⟨_, cd, ad, rfl, hdl⟩ := hrd.form w (fun p hp => hs.own p (by simp [hp]))
      subst hdl
      refine s_move rfl rfl ?_
      refine s_extract rfl rfl rfl ?_
      refine s_extract rfl rfl rfl ?_
      refine s_alloc rfl AL37 hs ?_; clear hs; intro b35 w hs
      first
        | refine s_storeW Try.sizeOf37 rfl rfl rfl rfl hs (kk := 0) rfl rfl ?_
        | refine s_storeW Try.sizeOf37 rfl rfl rfl rfl hs (kk := 1) rfl rfl ?_
        | refine s_storeW Try.sizeOf37 rfl rfl rfl rfl hs (kk := 2) rfl rfl ?_
        | refine s_storeAB Try.sizeOf37 rfl rfl rfl rfl hs (kk := 0) rfl rfl ?_
        | refine s_storeAB Try.sizeOf37 rfl rfl rfl rfl hs (kk := 1) rfl rfl ?_
        | refine s_storeAB Try.sizeOf37 rfl rfl rfl rfl hs (kk := 2) rfl rfl ?_
      clear hs; intro w hs; try simp only [List.set_cons_zero, List.set_cons_succ, splice, List.take_succ_cons, List.take_zero, List.drop_succ_cons, List.drop_zero, List.nil_append, List.cons_append, List.length_cons, List.length_nil, Nat.reduceAdd, List.append_assoc] at hs
      refine s_assign rfl rfl ?_
      refine WL_nil ?_
      refine n_then ?_
      refine W_seq ?_
      refine W_draw [(0, true, []), (1, true, []), (2, true, []), (3, true, []), (4, true, []), (6, true, []), (5, false, [6]), (7, false, []), (8, true, []), (9, true, [])] [[], [], [0, 1], [0, 1, 2], [0, 1, 2, 3], [0, 1, 2, 3, 4], [0, 1, 2, 3], [0, 1, 2, 3, 4, 5, 6], [0, 1, 2, 3, 4, 5, 6, 7], [0, 1, 2, 3, 4, 5, 6, 7, 8]] MX (by kernel_rfl) ?_
      intro w1 hw1 hw2 hw3 hw4; replace hs := hs.redrawn hw1 hw2 hw3 hw4; clear hw1 hw2 hw3 hw4
      obtain ⟨w, rfl⟩ : ∃ w : World, w = w1 := ⟨_, rfl⟩
      refine D_q rfl rfl ?_
      refine s_move rfl rfl ?_
      refine D_qn ?_
      refine D_q rfl rfl ?_
      refine s_move rfl rfl ?_
      refine D_qn ?_
      refine D_q rfl rfl ?_
      refine s_neq rfl rfl rfl ?_
      refine D_qn ?_
      refine D_q rfl rfl ?_
      refine s_move rfl rfl ?_
      refine WL_know (s := 157) (c := false) rfl ((by simp)) ?_
      refine D_qn ?_
      refine D_q rfl rfl ?_
      refine WL_take rfl ?_
      first
        | refine s_loadW Try.isAgg41 Try.sizeOf41 rfl rfl hs (kk := 0) rfl rfl ?_
        | refine s_loadW Try.isAgg41 Try.sizeOf41 rfl rfl hs (kk := 1) rfl rfl ?_
        | refine s_loadW Try.isAgg41 Try.sizeOf41 rfl rfl hs (kk := 2) rfl rfl ?_
        | refine s_load_6 Try.isAgg41 Try.sizeOf41 rfl rfl (by first | exact hs.cell (k := 0) rfl rfl | exact hs.cell (k := 1) rfl rfl | exact hs.cell (k := 2) rfl rfl) (by first | exact hs.cell (k := 0) rfl rfl | exact hs.cell (k := 1) rfl rfl | exact hs.cell (k := 2) rfl rfl) (by first | exact hs.cell (k := 0) rfl rfl | exact hs.cell (k := 1) rfl rfl | exact hs.cell (k := 2) rfl rfl) (by first | exact hs.cell (k := 0) rfl rfl | exact hs.cell (k := 1) rfl rfl | exact hs.cell (k := 2) rfl rfl) (by first | exact hs.cell (k := 0) rfl rfl | exact hs.cell (k := 1) rfl rfl | exact hs.cell (k := 2) rfl rfl) (by first | exact hs.cell (k := 0) rfl rfl | exact hs.cell (k := 1) rfl rfl | exact hs.cell (k := 2) rfl rfl) ?_
      refine D_qn ?_
      refine D_q rfl rfl ?_
      refine WL_take rfl ?_
      first
        | refine s_loadW Try.isAgg37 Try.sizeOf37 rfl rfl hs (kk := 0) rfl rfl ?_
        | refine s_loadW Try.isAgg37 Try.sizeOf37 rfl rfl hs (kk := 1) rfl rfl ?_
        | refine s_loadW Try.isAgg37 Try.sizeOf37 rfl rfl hs (kk := 2) rfl rfl ?_
        | refine s_load_6 Try.isAgg37 Try.sizeOf37 rfl rfl (by first | exact hs.cell (k := 0) rfl rfl | exact hs.cell (k := 1) rfl rfl | exact hs.cell (k := 2) rfl rfl) (by first | exact hs.cell (k := 0) rfl rfl | exact hs.cell (k := 1) rfl rfl | exact hs.cell (k := 2) rfl rfl) (by first | exact hs.cell (k := 0) rfl rfl | exact hs.cell (k := 1) rfl rfl | exact hs.cell (k := 2) rfl rfl) (by first | exact hs.cell (k := 0) rfl rfl | exact hs.cell (k := 1) rfl rfl | exact hs.cell (k := 2) rfl rfl) (by first | exact hs.cell (k := 0) rfl rfl | exact hs.cell (k := 1) rfl rfl | exact hs.cell (k := 2) rfl rfl) (by first | exact hs.cell (k := 0) rfl rfl | exact hs.cell (k := 1) rfl rfl | exact hs.cell (k := 2) rfl rfl) ?_
      refine D_qn ?_
      refine D_e rfl ?_
      refine WL_take rfl ?_
      refine s_call Try.call18 rfl rfl (plain_ok (decR x3).g (decR x3).x ac (decR x3).c.length cc w) ?_
      rintro r w ⟨hst, rfl⟩
      replace hs := hs.fwd1 hst
      clear hst
      refine D_en ?re ?_
      case re =>
        refine Reks_cons rfl rfl rfl rfl ?_ ?_
        · skip
          refine WL_take rfl ?_
          first
            | refine s_loadW Try.isAgg37 Try.sizeOf37 rfl rfl hs (kk := 0) rfl rfl ?_
            | refine s_loadW Try.isAgg37 Try.sizeOf37 rfl rfl hs (kk := 1) rfl rfl ?_
            | refine s_loadW Try.isAgg37 Try.sizeOf37 rfl rfl hs (kk := 2) rfl rfl ?_
            | refine s_load_6 Try.isAgg37 Try.sizeOf37 rfl rfl (by first | exact hs.cell (k := 0) rfl rfl | exact hs.cell (k := 1) rfl rfl | exact hs.cell (k := 2) rfl rfl) (by first | exact hs.cell (k := 0) rfl rfl | exact hs.cell (k := 1) rfl rfl | exact hs.cell (k := 2) rfl rfl) (by first | exact hs.cell (k := 0) rfl rfl | exact hs.cell (k := 1) rfl rfl | exact hs.cell (k := 2) rfl rfl) (by first | exact hs.cell (k := 0) rfl rfl | exact hs.cell (k := 1) rfl rfl | exact hs.cell (k := 2) rfl rfl) (by first | exact hs.cell (k := 0) rfl rfl | exact hs.cell (k := 1) rfl rfl | exact hs.cell (k := 2) rfl rfl) (by first | exact hs.cell (k := 0) rfl rfl | exact hs.cell (k := 1) rfl rfl | exact hs.cell (k := 2) rfl rfl) ?_
          exact Rek_end rfl
        exact Reks_nil
      refine D_e rfl ?_
      refine WL_take rfl ?_
      refine s_call Try.call17 rfl rfl (same_ok (decR x3).g (decR x3).g (decR x3).x (decR x3).x _ _ (decR x3).c (decR x3).c w (OwnS_slIn hOc fun p hp => hs.own p (by simp [hp])) (hrd.sl w fun p hp => hs.own p (by simp [hp])) ?hlen) ?_
      case hlen =>
        have : (decR x3).c.length ≤ 65536 := by
          rw [decR]; split
          · rename_i h; exact h.2.2.2.2.2.1
          · simp
        omega
      rintro r w ⟨hst, rfl⟩
      replace hs := hs.fwd1 hst
      clear hst
      refine D_en ?re ?_
      case re =>
        exact Reks_nil
      refine D_q rfl rfl ?_
      refine WL_take rfl ?_
      refine s_not rfl rfl ?_
      refine D_qn ?_
      refine D_q rfl rfl ?_
      refine s_pick_f rfl rfl rfl ?_
      refine D_qn ?_
      refine D_nil ?_
      refine n_then ?_
      refine W_cond_kf rfl ((by simp)) ?_
      refine W_skip ?_
      refine n_blk ?_
      refine n_then ?_
      refine W_region ?_
      refine s_move rfl rfl ?_
      first | (refine s_add' rfl rfl rfl ?hx ?_; case hx => (constructor <;> first | omega | (simp only; omega))) | refine s_add rfl rfl rfl ?_
      refine s_assign rfl rfl ?_
      refine WL_nil ?_
      refine n_loop ?_
      exact ⟨i + 1, ⟨rfl, rfl, trivial⟩, ⟨hs.tail.tail.right, by omega⟩, by omega⟩
    · skip
      try simp only [decide_eq_true_eq, decide_eq_false_iff_not] at hc135
      refine W_exit ?_
      refine x_then ?_
      refine x_then ?_
      refine exit_hit ?_
      refine n_then ?_
      refine W_seq ?_
      refine W_region ?_
      refine s_call Try.call26 rfl rfl (lives_ok w) ?_
      rintro r w ⟨hst, rfl⟩
      replace hs := hs.fwd1 hst
      clear hst
      refine s_assign rfl rfl ?_
      refine WL_nil ?_
      refine n_then ?_
      refine W_ret ?_
      exact end1 rfl rfl ⟨hs.fwd, rfl⟩
end Go.Proofs.Ytofnocjopdgeaaa
