/- wal.Scan. -/
import Derived.Test.YtkappdlbpilghaaGreatWaK
set_option linter.unusedVariables false
set_option linter.unusedSimpArgs false
namespace Go.SL
theorem RdS.mono {v : Value} {n : Nat} {cs : List Value} {L L' : Hp} (h : RdS v n cs L) (hs : ∀ p ∈ L, p ∈ L') : RdS v n cs L' :=
  ⟨fun w hw => h.sl w fun p hp => hw p (hs p hp), fun a m c he hne => by
    obtain ⟨o, ho⟩ := mem_ids.1 (h.inL a m c he hne)
    exact mem_ids.2 ⟨o, hs _ ho⟩⟩
end Go.SL
namespace Go.Proofs.YtkappdlbpilghaaGreat
open Go.SL
/-- records that are read in the blocks L -/
def RecsIn (rs : Recs) (L : Hp) : Prop := ∀ q ∈ rs, RdS q.1 q.2.length (u8s q.2) L
theorem RecsIn.snoc {rs : Recs} {L L' : Hp} {u : Value} {x : List Int} (h : RecsIn rs L) (hu : RdS u x.length (u8s x) L') : RecsIn (rs ++ [(u, x)]) (L ++ L') := by
  intro q hq
  rcases List.mem_append.1 hq with hq | hq
  · exact (h q hq).mono fun p hp => List.mem_append_left _ hp
  · rw [List.mem_singleton.1 hq]; exact hu.mono fun p hp => List.mem_append_right _ hp
set_option maxHeartbeats 1000000 in
theorem scan_ok {mx : Nat → Nat → Nat} (hmx : IsMix mx) (v : Value) (bs : List Int) (w0 : World) (hv : Sl w0 v bs.length (u8s bs)) (hB : ∀ b ∈ bs, isB b) (hl : bs.length ≤ 1048576) :
    Ret Tryz.prog 23 [v].toArray w0 fun r w' => ∃ (rs : Recs) (u : Value) (Lu Lx : Hp), r = .tuple #[u, .int .i64 ((framesV mx 0 rs.x).length : Int)] ∧ OwnS 39 1 u rs.length rs.v Lu ∧ St [] w0 w' (Lu ++ Lx) ∧ RecsIn rs Lx ∧ IsScan mx 0 bs rs.x := by
  obtain ⟨a, c, rfl, hac⟩ := hv.len_le
  refine Ret_start fun w hs => ?_
  refine Ret_ofM Tryz.func23 rfl Tryz.ntmps23 rfl ?_
  refine M_seq ?_
  refine M_W ?_
  refine W_region ?_
  refine s_assign rfl rfl ?_
  refine s_assign rfl rfl ?_
  refine WL_nil ?_
  refine n_loop ?_
  refine M_seq ?_
  refine M_W ?_
  refine W_region ?_
  refine s_alloc rfl AL29 hs ?_; clear hs; intro b4 w hs
  refine WL_nil ?_
  refine n_loop ?_
  refine M_seq ?_
  refine M_W ?_
  refine W_region ?_
  refine s_alloc rfl AL3 hs ?_; clear hs; intro b5 w hs
  first
    | refine s_storeB Tryz.sizeOf3 rfl rfl rfl hs (kk := 0) rfl rfl ?_
    | refine s_storeB Tryz.sizeOf3 rfl rfl rfl hs (kk := 1) rfl rfl ?_
    | refine s_storeB Tryz.sizeOf3 rfl rfl rfl hs (kk := 2) rfl rfl ?_
    | refine s_storeB Tryz.sizeOf3 rfl rfl rfl hs (kk := 3) rfl rfl ?_
    | refine s_storeB Tryz.sizeOf3 rfl rfl rfl hs (kk := 4) rfl rfl ?_
    | refine s_storeB Tryz.sizeOf3 rfl rfl rfl hs (kk := 5) rfl rfl ?_
  clear hs; intro w hs; try simp only [List.set_cons_zero, List.set_cons_succ, splice, List.take_succ_cons, List.take_zero, List.drop_succ_cons, List.drop_zero, List.nil_append, List.cons_append, List.length_cons, List.length_nil, Nat.reduceAdd, List.append_assoc] at hs
  refine WL_nil ?_
  refine n_loop ?_
  refine M_seq ?_
  refine M_seq ?_
  refine M_W ?_
  refine W_region ?_
  refine s_move rfl rfl ?_
  refine s_call Tryz.call43 rfl rfl (frames_ok a bs.length c w) ?_
  rintro r w ⟨bq, rfl, hst⟩
  replace hs := St.back0 hs hst
  clear hst
  simp only [List.cons_append, List.nil_append] at hs
  refine WL_nil ?_
  refine n_loop ?_
  refine M_block ?_
  refine M_range Tryz.call57 rfl hs ?_
  clear hs; intro fn tm D w asg bo has hbo hA hs
  refine Ret.mono (iterF_ok hmx (D + 1) bq a c bs hB hl [] w0 (fun rs LB => ∃ u Lu Lx, LB = (D + 1, .loop (lrec .ready fn tm #[10, 11] asg bo D)) :: (D, .deferred (some [])) :: (bq, Blk 39 [.slice a bs.length c]) :: (b5, Blk 3 [.int .i64 ((framesV mx 0 rs.x).length : Int)]) :: (b4, Blk 29 [u]) :: (Lu ++ Lx) ∧ OwnS 39 1 u rs.length rs.v Lu ∧ RecsIn rs Lx) ?hrd ?round w _ ?h0 hs) ?next
  case hrd => rintro rs w LB ⟨u, Lu, Lx, rfl, -, -⟩ hs; exact ⟨hs.cell (k := 2) rfl rfl, hv.fwd0 hs.fwd⟩
  case h0 => exact ⟨.slice none 0 0, [], [], rfl, OwnS.nil _ _, fun q hq => by cases hq⟩
  case round =>
    clear hs; rintro rs w LO LB u x LX q ⟨v, Lu, Lx, rfl, hO, hrs⟩ hbs hOx hxB hs
    have hbl := congrArg List.length hbs
    simp only [List.length_append] at hbl
    have hcnt := framesV_cnt (mx := mx) (n := 0) (xs := rs.x)
    rw [Recs.x_length] at hcnt
    replace hs : St [] w0 w ((D + 1, .loop (lrec .ready fn tm #[10, 11] asg bo D)) :: (D, .deferred (some [])) :: (bq, Blk 39 [.slice a bs.length c]) :: (b5, Blk 3 [.int .i64 ((framesV mx 0 rs.x).length : Int)]) :: (b4, Blk 29 [v]) :: (Lu ++ (Lx ++ (LX ++ LO)))) := by
      simpa [cat] using St.reord [LO, LX, [_, _, _, _, _], Lu, Lx] [2, 3, 4, 1, 0] [] hs rfl
    obtain ⟨_, tc, ta, rfl, rfl⟩ := hO.form
    obtain ⟨_, cx, ax, rfl, rfl⟩ := hOx.form
    refine round_St2 hs rfl rfl hA ?_
    refine R_eq has ?_
    refine R_seq ?_
    refine R_region rfl ?_
    refine s_assign rfl rfl ?_
    refine WL_nil ?_
    refine q_n ?_
    refine R_region rfl ?_
    refine s_assign rfl rfl ?_
    refine WL_nil ?_
    refine q_n ?_
    refine ⟨hs, ?_⟩; clear hs; intro w hs
    refine R_eq hbo ?_
    refine R_block ?_
    refine R_seq ?_
    refine R_region rfl ?_
    first
      | refine s_load Tryz.isAgg29 rfl rfl (hs.cell (k := 0) rfl rfl) ?_
      | refine s_load Tryz.isAgg29 rfl rfl (hs.cell (k := 1) rfl rfl) ?_
      | refine s_load Tryz.isAgg29 rfl rfl (hs.cell (k := 2) rfl rfl) ?_
      | refine s_load Tryz.isAgg29 rfl rfl (hs.cell (k := 3) rfl rfl) ?_
      | refine s_load Tryz.isAgg29 rfl rfl (hs.cell (k := 4) rfl rfl) ?_
      | refine s_load Tryz.isAgg29 rfl rfl (hs.cell (k := 5) rfl rfl) ?_
    refine s_move rfl rfl ?_
    refine s_buildSlice rfl rfl (BS29_1 _ _ _) hs ?_; clear hs; intro b14 w hs
    refine s_appendM (M := [_, _, _, _, _, _]) (X := Lx ++ (LX ++ LO)) El29 rfl rfl rfl hO hs (hs.sl (k := 0) (ds := [_]) rfl (Nat.le_refl _) (by intro j u hj; rw [Nat.zero_add]; exact hj)) rfl (by simp [Value.oneCell']) (by omega) ?_
    clear hs; intro v' w Lv' hO' hs
    obtain ⟨_, tc', ta', rfl, rfl⟩ := hO'.form
    simp only [List.cons_append, List.nil_append] at hs
    first
      | refine s_storeB Tryz.sizeOf29 rfl rfl rfl hs (kk := 0) rfl rfl ?_
      | refine s_storeB Tryz.sizeOf29 rfl rfl rfl hs (kk := 1) rfl rfl ?_
      | refine s_storeB Tryz.sizeOf29 rfl rfl rfl hs (kk := 2) rfl rfl ?_
      | refine s_storeB Tryz.sizeOf29 rfl rfl rfl hs (kk := 3) rfl rfl ?_
      | refine s_storeB Tryz.sizeOf29 rfl rfl rfl hs (kk := 4) rfl rfl ?_
      | refine s_storeB Tryz.sizeOf29 rfl rfl rfl hs (kk := 5) rfl rfl ?_
    clear hs; intro w hs; try simp only [List.set_cons_zero, List.set_cons_succ, splice, List.take_succ_cons, List.take_zero, List.drop_succ_cons, List.drop_zero, List.nil_append, List.cons_append, List.length_cons, List.length_nil, Nat.reduceAdd, List.append_assoc] at hs
    refine WL_nil ?_
    refine q_n ?_
    refine R_region rfl ?_
    refine s_move rfl rfl ?_
    first
      | refine s_storeB Tryz.sizeOf3 rfl rfl rfl hs (kk := 0) rfl rfl ?_
      | refine s_storeB Tryz.sizeOf3 rfl rfl rfl hs (kk := 1) rfl rfl ?_
      | refine s_storeB Tryz.sizeOf3 rfl rfl rfl hs (kk := 2) rfl rfl ?_
      | refine s_storeB Tryz.sizeOf3 rfl rfl rfl hs (kk := 3) rfl rfl ?_
      | refine s_storeB Tryz.sizeOf3 rfl rfl rfl hs (kk := 4) rfl rfl ?_
      | refine s_storeB Tryz.sizeOf3 rfl rfl rfl hs (kk := 5) rfl rfl ?_
    clear hs; intro w hs; try simp only [List.set_cons_zero, List.set_cons_succ, splice, List.take_succ_cons, List.take_zero, List.drop_succ_cons, List.drop_zero, List.nil_append, List.cons_append, List.length_cons, List.length_nil, Nat.reduceAdd, List.append_assoc] at hs
    refine WL_nil ?_
    refine q_n ?_
    refine ⟨_, hs.tail, fun w hs => ⟨_, ⟨.slice ta' (rs.length + 1) tc', Lv', Lx ++ LX, rfl, ?_, hrs.snoc hOx.rdS⟩, ?_⟩⟩
    · simp only [Recs.v_snoc, List.length_append]; exact hO'
    · simpa [cat] using St.reord [[_, _, _, _, _], Lv', Lx, LX, LO] [4, 0, 1, 2, 3] [] hs rfl
  case next =>
    rintro _ w ⟨rs, LB, ⟨u, Lu, Lx, rfl, hO, hrs⟩, hs, hsc⟩
    obtain ⟨_, tc, ta, rfl, rfl⟩ := hO.form
    refine ⟨_, hs, ?_⟩
    clear hs; intro w hs
    refine n_blk ?_
    refine n_loop ?_
    refine M_W ?_
    refine W_seq ?_
    refine W_draw [(0, true, []), (1, true, []), (2, true, []), (3, true, [])] [[], [], [0], [0, 1, 2]] MX (by kernel_rfl) ?_
    intro w1 hw1 hw2 hw3 hw4; replace hs := hs.redrawn hw1 hw2 hw3 hw4; clear hw1 hw2 hw3 hw4
    obtain ⟨w, rfl⟩ : ∃ w : World, w = w1 := ⟨_, rfl⟩
    refine D_q rfl rfl ?_
    first
      | refine s_load Tryz.isAgg29 rfl rfl (hs.cell (k := 0) rfl rfl) ?_
      | refine s_load Tryz.isAgg29 rfl rfl (hs.cell (k := 1) rfl rfl) ?_
      | refine s_load Tryz.isAgg29 rfl rfl (hs.cell (k := 2) rfl rfl) ?_
      | refine s_load Tryz.isAgg29 rfl rfl (hs.cell (k := 3) rfl rfl) ?_
      | refine s_load Tryz.isAgg29 rfl rfl (hs.cell (k := 4) rfl rfl) ?_
      | refine s_load Tryz.isAgg29 rfl rfl (hs.cell (k := 5) rfl rfl) ?_
    refine D_qn ?_
    refine D_q rfl rfl ?_
    first
      | refine s_load Tryz.isAgg3 rfl rfl (hs.cell (k := 0) rfl rfl) ?_
      | refine s_load Tryz.isAgg3 rfl rfl (hs.cell (k := 1) rfl rfl) ?_
      | refine s_load Tryz.isAgg3 rfl rfl (hs.cell (k := 2) rfl rfl) ?_
      | refine s_load Tryz.isAgg3 rfl rfl (hs.cell (k := 3) rfl rfl) ?_
      | refine s_load Tryz.isAgg3 rfl rfl (hs.cell (k := 4) rfl rfl) ?_
      | refine s_load Tryz.isAgg3 rfl rfl (hs.cell (k := 5) rfl rfl) ?_
    refine D_qn ?_
    refine D_q rfl rfl ?_
    refine s_assign rfl rfl ?_
    refine D_qn ?_
    refine D_q rfl rfl ?_
    refine s_assign rfl rfl ?_
    refine D_qn ?_
    refine D_nil ?_
    refine n_then ?_
    refine W_ret ?_
    refine M_end hs ?_
    clear hs; intro w hs
    exact end2 rfl rfl rfl ⟨rs, _, Lu, Lx, rfl, hO, hs.tail.tail.tail, hrs, hsc⟩
end Go.Proofs.YtkappdlbpilghaaGreat
