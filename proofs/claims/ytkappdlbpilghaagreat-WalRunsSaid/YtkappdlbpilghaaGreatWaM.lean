/- The reference's SameLists and Records. -/
import Derived.Test.YtkappdlbpilghaaGreatWaL
set_option linter.unusedVariables false
set_option linter.unusedSimpArgs false
namespace Go.Proofs.YtkappdlbpilghaaGreat
open Go.SL
theorem cell_fwd0 {w0 w : World} {ad : Addr} {u : Value} (hf : Fwd [] w0 w) (h : w0.cell? ad = some u) : w.cell? ad = some u := by
  rcases Nat.lt_or_ge ad.block w0.heap.size with hb | hb
  · rw [World.cell?_of_block (hf.block ad.block hb (by simp))]; exact h
  · have h1 : w0.heap[ad.block]? = none := Array.getElem?_eq_none hb
    simp [World.cell?, h1] at h
theorem RecsIn.nil (L : Hp) : RecsIn [] L := fun q hq => by cases hq
theorem Recs.at {rs : Recs} {i : Nat} (h : i < rs.length) : ∃ u x, rs[i]? = some (u, x) ∧ (u, x) ∈ rs ∧ (Recs.v rs)[i]? = some u ∧ (Recs.x rs)[i]? = some x := by
  refine ⟨(rs[i]).1, (rs[i]).2, List.getElem?_eq_getElem h, List.getElem_mem h, ?_, ?_⟩
  · rw [Recs.v, List.getElem?_map, List.getElem?_eq_getElem h]; rfl
  · rw [Recs.x, List.getElem?_map, List.getElem?_eq_getElem h]; rfl
set_option maxHeartbeats 1000000 in
theorem sameLists_ok (va vb : Value) (rs qs : Recs) (w0 : World) (ha : Sl w0 va rs.length rs.v) (hb : Sl w0 vb qs.length qs.v) (hra : ∀ q ∈ rs, Sl w0 q.1 q.2.length (u8s q.2)) (hrb : ∀ q ∈ qs, Sl w0 q.1 q.2.length (u8s q.2))
    (hl : rs.length ≤ 4611686018427387904) (hxl : ∀ q ∈ rs, q.2.length ≤ 4611686018427387904) :
    Ret Tryz.prog 13 [va, vb].toArray w0 fun v w' => Fwd [] w0 w' ∧ v = .bool (decide (rs.x = qs.x)) := by
  obtain ⟨a, ca, rfl, _⟩ := ha.len_le
  obtain ⟨b, cb, rfl, _⟩ := hb.len_le
  refine Ret_start fun w hs => ?_
  refine Ret_of Tryz.func13 rfl Tryz.ntmps13 rfl ?_
  refine W_seq ?_
  refine W_region ?_
  refine s_assign rfl rfl ?_
  refine WL_nil ?_
  refine n_then ?_
  refine W_seq ?_
  refine W_seq ?_
  refine W_region ?_
  refine s_move rfl rfl ?_
  refine s_len rfl rfl (LN29 _ _ _ _) ?_
  refine s_move rfl rfl ?_
  refine s_len rfl rfl (LN29 _ _ _ _) ?_
  refine s_neq rfl rfl rfl ?_
  refine WL_nil ?_
  refine n_then ?_
  refine W_cond rfl (fun hc10 => ?_) (fun hc10 => ?_)
  · skip
    try simp only [decide_eq_true_eq, decide_eq_false_iff_not, bne_iff_ne, ne_eq, bne_eq_false_iff_eq] at hc10
    refine W_seq ?_
    refine W_region ?_
    refine s_assign rfl rfl ?_
    refine WL_nil ?_
    refine n_then ?_
    refine W_ret ?_
    refine r_then ?_
    refine end1 rfl rfl ⟨hs.fwd, congrArg Value.bool ?_⟩
    first
      | (symm; rw [decide_eq_false_iff_not]; intro h; have := congrArg List.length h; rw [Recs.x_length, Recs.x_length] at this; omega)
      | (have hxe : ¬ x1 = x2 := by simpa using hc26
         symm; rw [decide_eq_false_iff_not]; intro h; rw [h, hx2] at hx1; exact hxe (Option.some.inj hx1).symm)
      | (symm; rw [decide_eq_true_eq]
         rw [List.take_of_length_le (by rw [Recs.x_length]; omega), List.take_of_length_le (by rw [Recs.x_length]; omega)] at htk; exact htk)
  · skip
    try simp only [decide_eq_true_eq, decide_eq_false_iff_not, bne_iff_ne, ne_eq, bne_eq_false_iff_eq] at hc10
    refine W_skip ?_
    refine n_then ?_
    refine W_seq ?_
    refine W_seq ?_
    refine W_region ?_
    refine s_assign rfl rfl ?_
    refine WL_nil ?_
    refine n_then ?_
    refine W_block ?_
    refine W_loop (σ := Nat) (fun i => [(0, .slice a rs.length ca), (1, .slice b qs.length cb), (5, .int .i64 (i : Int))]) (fun i w => St [] w0 w [] ∧ i ≤ rs.length ∧ rs.x.take i = qs.x.take i) (fun i => rs.length - i) 0 ⟨rfl, rfl, rfl, trivial⟩ ⟨hs, Nat.zero_le _, by simp⟩ ?_
    clear hs
    rintro i w ⟨hs, hi, htk⟩
    refine W_seq ?_
    refine W_seq ?_
    refine W_region ?_
    refine s_move rfl rfl ?_
    refine s_move rfl rfl ?_
    refine s_len rfl rfl (LN29 _ _ _ _) ?_
    refine s_lss rfl rfl rfl ?_
    refine WL_nil ?_
    refine n_then ?_
    refine W_cond rfl (fun hc14 => ?_) (fun hc14 => ?_)
    · skip
      try simp only [decide_eq_true_eq, decide_eq_false_iff_not, bne_iff_ne, ne_eq, bne_eq_false_iff_eq] at hc14
      have hil : i < rs.length := by omega
      have hlen : rs.length = qs.length := by omega
      obtain ⟨u1, x1, -, hm1, hv1, hx1⟩ := Recs.at hil
      obtain ⟨u2, x2, -, hm2, hv2, hx2⟩ := Recs.at (rs := qs) (i := i) (by omega)
      obtain ⟨b1, o1, hA1, hc1⟩ := ha.at hv1
      obtain ⟨b2, o2, hA2, hc2⟩ := hb.at hv2
      have hS1 := hra _ hm1
      have hS2 := hrb _ hm2
      have hxx := hxl _ hm1
      simp only at hS1 hS2 hxx
      refine W_skip ?_
      refine n_then ?_
      refine W_seq ?_
      refine W_block ?_
      refine W_seq ?_
      refine W_draw [(0, true, []), (1, true, []), (2, true, []), (3, true, []), (4, true, []), (5, true, []), (6, true, []), (7, true, []), (8, false, []), (9, true, [])] [[], [], [0, 1], [0, 1, 2], [], [], [4, 5], [4, 5, 6], [0, 1, 2, 3, 4, 5, 6, 7], [0, 1, 2, 3, 4, 5, 6, 7, 8]] MX (by kernel_rfl) ?_
      intro w1 hw1 hw2 hw3 hw4; replace hs := hs.redrawn hw1 hw2 hw3 hw4; clear hw1 hw2 hw3 hw4
      obtain ⟨w, rfl⟩ : ∃ w : World, w = w1 := ⟨_, rfl⟩
      refine D_q rfl rfl ?_
      refine s_move rfl rfl ?_
      refine D_qn ?_
      refine D_q rfl rfl ?_
      refine s_move rfl rfl ?_
      refine D_qn ?_
      refine D_q rfl rfl ?_
      (refine s_indexAddrO El29 rfl rfl rfl hA1 ?hx ?_; case hx => (constructor <;> omega))
      refine D_qn ?_
      refine D_q rfl rfl ?_
      refine s_load Tryz.isAgg39 rfl rfl (cell_fwd0 hs.fwd hc1) ?_
      refine D_qn ?_
      refine D_q rfl rfl ?_
      refine s_move rfl rfl ?_
      refine D_qn ?_
      refine D_q rfl rfl ?_
      refine s_move rfl rfl ?_
      refine D_qn ?_
      refine D_q rfl rfl ?_
      (refine s_indexAddrO El29 rfl rfl rfl hA2 ?hx ?_; case hx => (constructor <;> omega))
      refine D_qn ?_
      refine D_q rfl rfl ?_
      refine s_load Tryz.isAgg39 rfl rfl (cell_fwd0 hs.fwd hc2) ?_
      refine D_qn ?_
      refine D_e rfl ?_
      refine s_call Tryz.call20 rfl rfl (sameBytes_ok u1 u2 x1 x2 w (hS1.fwd0 hs.fwd) (hS2.fwd0 hs.fwd) hxx) ?_
      rintro r w ⟨hst, rfl⟩
      replace hs := hs.fwd1 hst
      clear hst
      refine D_en ?re ?_
      case re =>
        exact Reks_nil
      refine D_q rfl rfl ?_
      refine s_not rfl rfl ?_
      refine D_qn ?_
      refine D_nil ?_
      refine n_then ?_
      refine W_cond rfl (fun hc26 => ?_) (fun hc26 => ?_)
      · skip
        try simp only [decide_eq_true_eq, decide_eq_false_iff_not, bne_iff_ne, ne_eq, bne_eq_false_iff_eq] at hc26
        refine W_seq ?_
        refine W_region ?_
        refine s_assign rfl rfl ?_
        refine WL_nil ?_
        refine n_then ?_
        refine W_ret ?_
        refine r_blk ?_
        refine r_then ?_
        refine r_then ?_
        refine r_blk ?_
        refine r_then ?_
        refine end1 rfl rfl ⟨hs.fwd, congrArg Value.bool ?_⟩
        first
          | (symm; rw [decide_eq_false_iff_not]; intro h; have := congrArg List.length h; rw [Recs.x_length, Recs.x_length] at this; omega)
          | (have hxe : ¬ x1 = x2 := by simpa using hc26
             symm; rw [decide_eq_false_iff_not]; intro h; rw [h, hx2] at hx1; exact hxe (Option.some.inj hx1).symm)
          | (symm; rw [decide_eq_true_eq]
             rw [List.take_of_length_le (by rw [Recs.x_length]; omega), List.take_of_length_le (by rw [Recs.x_length]; omega)] at htk; exact htk)
      · skip
        try simp only [decide_eq_true_eq, decide_eq_false_iff_not, bne_iff_ne, ne_eq, bne_eq_false_iff_eq] at hc26
        refine W_skip ?_
        refine n_blk ?_
        refine n_then ?_
        refine W_region ?_
        refine s_move rfl rfl ?_
        first | (refine s_add' rfl rfl rfl ?hx ?_; case hx => (constructor <;> first | omega | (simp only; omega))) | refine s_add rfl rfl rfl ?_
        refine s_assign rfl rfl ?_
        refine WL_nil ?_
        refine n_loop ?_
        have hxe : x1 = x2 := by simpa using hc26
        refine ⟨i + 1, ⟨rfl, rfl, rfl, trivial⟩, ⟨hs, hil, ?_⟩, by omega⟩
        rw [List.take_add_one, List.take_add_one, htk, hx1, hx2, hxe]
    · skip
      try simp only [decide_eq_true_eq, decide_eq_false_iff_not, bne_iff_ne, ne_eq, bne_eq_false_iff_eq] at hc14
      refine W_exit ?_
      refine x_then ?_
      refine x_then ?_
      refine exit_hit ?_
      refine n_then ?_
      refine W_seq ?_
      refine W_region ?_
      refine s_assign rfl rfl ?_
      refine WL_nil ?_
      refine n_then ?_
      refine W_ret ?_
      refine end1 rfl rfl ⟨hs.fwd, congrArg Value.bool ?_⟩
      first
        | (symm; rw [decide_eq_false_iff_not]; intro h; have := congrArg List.length h; rw [Recs.x_length, Recs.x_length] at this; omega)
        | (have hxe : ¬ x1 = x2 := by simpa using hc26
           symm; rw [decide_eq_false_iff_not]; intro h; rw [h, hx2] at hx1; exact hxe (Option.some.inj hx1).symm)
        | (symm; rw [decide_eq_true_eq]
           rw [List.take_of_length_le (by rw [Recs.x_length]; omega), List.take_of_length_le (by rw [Recs.x_length]; omega)] at htk; exact htk)
/-- the bytes of a generated record -/
def recV (m : Int) : Nat → List Int
  | 0 => []
  | k + 1 => recV m k ++ [(m / 11 + (k : Int) * m) % 256]
theorem recV_length (m : Int) (k : Nat) : (recV m k).length = k := by induction k with
  | zero => rfl
  | succ k ih => rw [recV, List.length_append, ih]; rfl
theorem recV_isB (m : Int) (k : Nat) : ∀ b ∈ recV m k, isB b := by induction k with
  | zero => intro b hb; cases hb
  | succ k ih =>
    intro b hb
    rw [recV, List.mem_append] at hb
    rcases hb with hb | hb
    · exact ih b hb
    · rw [List.mem_singleton.1 hb]; unfold isB; omega
/-- generated records: small -/
def Small (xs : List (List Int)) : Prop := xs.length ≤ 6 ∧ ∀ x ∈ xs, x.length ≤ 10 ∧ ∀ b ∈ x, isB b
structure RcS where
  i : Nat
  rs : Recs
  v : Value
  Lu : Hp
  Lx : Hp
structure RdI where
  k : Nat
  v : Value
  L : Hp
set_option maxHeartbeats 1000000 in
theorem records_ok (v : Value) (xs : List Int) (w0 : World) (hv : Sl w0 v xs.length (i64s xs)) (hx : ∀ z ∈ xs, isI64 z) :
    Ret Tryz.prog 14 [v].toArray w0 fun r w' => ∃ (rs : Recs) (Lu Lx : Hp), OwnS 39 1 r rs.length rs.v Lu ∧ St [] w0 w' (Lu ++ Lx) ∧ RecsIn rs Lx ∧ Small rs.x ∧ rs.length = min xs.length 6 := by
  obtain ⟨a, c, rfl, hac⟩ := hv.len_le
  refine Ret_start fun w hs => ?_
  refine Ret_of Tryz.func14 rfl Tryz.ntmps14 rfl ?_
  refine W_seq ?_
  refine W_region ?_
  refine s_assign rfl rfl ?_
  refine WL_nil ?_
  refine n_then ?_
  refine W_seq ?_
  refine W_region ?_
  refine s_assign rfl rfl ?_
  refine WL_nil ?_
  refine n_then ?_
  refine W_seq ?_
  refine W_seq ?_
  refine W_region ?_
  refine s_assign rfl rfl ?_
  refine WL_nil ?_
  refine n_then ?_
  refine W_block ?_
  refine W_loop (σ := RcS) (fun s => [(0, .slice a xs.length c), (3, s.v), (4, .int .i64 (s.i : Int))]) (fun s w => St [] w0 w (s.Lu ++ s.Lx) ∧ OwnS 39 1 s.v s.rs.length s.rs.v s.Lu ∧ RecsIn s.rs s.Lx ∧ Small s.rs.x ∧ s.rs.length = s.i ∧ s.i ≤ xs.length ∧ s.i ≤ 6) (fun s => 6 - s.i) ⟨0, [], .slice none 0 0, [], []⟩ ⟨rfl, rfl, rfl, trivial⟩ ⟨hs, OwnS.nil _ _, RecsIn.nil _, ⟨by simp [Recs.x], fun x hx => by cases hx⟩, rfl, Nat.zero_le _, Nat.zero_le _⟩ ?_
  clear hs
  rintro ⟨i, rs, v, Lu, Lx⟩ w ⟨hs, hO, hrs, hsm, hri, hix, hi6⟩
  simp only at hs hO hrs hsm hri hix hi6 ⊢
  refine W_seq ?_
  refine W_seq ?_
  refine W_region ?_
  refine s_move rfl rfl ?_
  refine s_move rfl rfl ?_
  refine s_len rfl rfl (LN22 _ _ _ _) ?_
  refine s_lss rfl rfl rfl ?_
  refine s_move rfl rfl ?_
  refine WL_case (s := 12) rfl (fun hg12 => ?_) (fun hg12 => ?_)
  · skip
    try simp only [decide_eq_true_eq, decide_eq_false_iff_not] at hg12
    refine WL_take rfl ?_
    refine s_move rfl rfl ?_
    refine WL_take rfl ?_
    refine s_lss rfl rfl rfl ?_
    refine s_pick_t rfl rfl rfl ?_
    refine WL_nil ?_
    refine n_then ?_
    refine W_cond rfl (fun hc15 => ?_) (fun hc15 => ?_)
    · skip
      try simp only [decide_eq_true_eq, decide_eq_false_iff_not] at hc15
      refine W_skip ?_
      refine n_then ?_
      refine W_seq ?_
      refine W_block ?_
      refine W_seq ?_
      refine W_region ?_
      have hil : i < xs.length := by omega
      have hzI := hx _ (List.getElem_mem hil)
      obtain ⟨b1, o1, hA1, hc1⟩ := (hv.fwd0 hs.fwd).at (k := i) (u := .int .i64 xs[i]) (by simp [hil])
      refine s_move rfl rfl ?_
      refine s_move rfl rfl ?_
      (refine s_indexAddrO El22 rfl rfl rfl hA1 ?hx ?_; case hx => (constructor <;> omega))
      refine s_load Tryz.isAgg3 rfl rfl hc1 ?_
      have har := aroundV_range (m := xs[i]) (q := 1000) (by omega)
      refine s_call Tryz.call4 rfl rfl (around_ok xs[i] 1000 w (by omega) hzI) ?_
      rintro r w2 ⟨hw2, rfl⟩
      subst hw2
      generalize aroundV xs[i] 1000 = m at har
      refine s_assign rfl rfl ?_
      refine WL_nil ?_
      refine n_then ?_
      refine W_seq ?_
      refine W_region ?_
      refine s_assign rfl rfl ?_
      refine WL_nil ?_
      refine n_then ?_
      refine W_seq ?_
      refine W_seq ?_
      refine W_region ?_
      refine s_assign rfl rfl ?_
      refine WL_nil ?_
      refine n_then ?_
      refine W_block ?_
      refine W_loop (σ := RdI) (fun s => [(0, .slice a xs.length c), (3, v), (4, .int .i64 (i : Int)), (5, .int .i64 m), (6, s.v), (7, .int .i64 (s.k : Int))]) (fun s w => St [] w0 w (s.L ++ (Lu ++ Lx)) ∧ OwnS 5 1 s.v s.k (u8s (recV m s.k)) s.L ∧ s.k ≤ 10) (fun s => 10 - s.k) ⟨0, .slice none 0 0, []⟩ ⟨rfl, rfl, rfl, rfl, rfl, rfl, trivial⟩ ⟨hs, OwnS.nil _ _, by simp only; omega⟩ ?_
      clear hs
      rintro ⟨k, v6, L6⟩ w ⟨hs, hO6, hk10⟩
      simp only at hs hO6 hk10 ⊢
      refine W_seq ?_
      refine W_seq ?_
      refine W_region ?_
      refine s_move rfl rfl ?_
      refine s_move rfl rfl ?_
      (refine s_rem' rfl rfl rfl ?hx ?_; case hx => (refine ⟨?_, ?_⟩ <;> omega))
      refine s_lss rfl rfl rfl ?_
      refine WL_nil ?_
      refine n_then ?_
      refine W_cond rfl (fun hc26 => ?_) (fun hc26 => ?_)
      · skip
        try simp only [decide_eq_true_eq, decide_eq_false_iff_not] at hc26
        refine W_skip ?_
        refine n_then ?_
        refine W_seq ?_
        refine W_block ?_
        refine W_region ?_
        refine s_move rfl rfl ?_
        refine s_move rfl rfl ?_
        (refine s_quo' rfl rfl rfl ?hx ?_; case hx => (refine ⟨?_, ?_, ?_⟩ <;> omega))
        refine s_move rfl rfl ?_
        refine s_move rfl rfl ?_
        have hkm : 0 ≤ (k : Int) * m ∧ (k : Int) * m ≤ 10000 := by
          constructor
          · exact Int.mul_nonneg (by omega) (by omega)
          · have := Int.mul_le_mul (a := (k : Int)) (b := m) (c := 10) (d := 1000) (by omega) (by omega) (by omega) (by omega); omega
        (refine s_mul' rfl rfl rfl ?hx ?_; case hx => (constructor <;> omega))
        first | (refine s_add' rfl rfl rfl ?hx ?_; case hx => (constructor <;> first | omega | (simp only; omega))) | refine s_add rfl rfl rfl ?_
        refine s_convert rfl rfl (CV3_5 _) ?_
        rw [show IntKind.u8.wrap (m / 11 + (k : Int) * m) = (m / 11 + (k : Int) * m) % 256 from by simp [IntKind.wrap, IntKind.bits, IntKind.signed]]
        refine s_buildSlice rfl rfl (BS39_1 _) hs ?_; clear hs; intro b37 w hs
        refine s_appendM (M := [_]) (X := Lu ++ Lx) El39 rfl rfl rfl hO6 hs (hs.sl (k := 0) (ds := [_]) rfl (Nat.le_refl _) (by intro j u hj; rw [Nat.zero_add]; exact hj)) rfl (by simp [Value.oneCell']) (by omega) ?_
        clear hs; intro v' w Lv' hO' hs
        simp only [List.cons_append, List.nil_append] at hs
        refine s_assign rfl rfl ?_
        refine WL_nil ?_
        refine n_blk ?_
        refine n_then ?_
        refine W_region ?_
        refine s_move rfl rfl ?_
        first | (refine s_add' rfl rfl rfl ?hx ?_; case hx => (constructor <;> first | omega | (simp only; omega))) | refine s_add rfl rfl rfl ?_
        refine s_assign rfl rfl ?_
        refine WL_nil ?_
        refine n_loop ?_
        refine ⟨⟨k + 1, v', Lv'⟩, ⟨rfl, rfl, rfl, rfl, rfl, rfl, trivial⟩, ⟨hs.tail, ?_, by simp only; omega⟩, by simp only; omega⟩
        simp only [recV, u8s, List.map_append] at hO' ⊢; exact hO'
      · skip
        try simp only [decide_eq_true_eq, decide_eq_false_iff_not] at hc26
        refine W_exit ?_
        refine x_then ?_
        refine x_then ?_
        refine exit_hit ?_
        refine n_then ?_
        refine W_region ?_
        obtain ⟨k6, tc6, ta6, rfl, hk6⟩ := hO6.form
        obtain rfl := hk6.symm
        refine s_move rfl rfl ?_
        refine s_move rfl rfl ?_
        refine s_buildSlice rfl rfl (BS29_1 _ _ _) hs ?_; clear hs; intro b41 w hs
        refine s_appendM (M := _ :: L6) (X := Lx) El29 rfl rfl rfl hO hs (hs.sl (k := 0) (ds := [_]) rfl (Nat.le_refl _) (by intro j u hj; rw [Nat.zero_add]; exact hj)) rfl (by simp [Value.oneCell']) (by omega) ?_
        clear hs; intro v' w Lv' hO' hs
        simp only [List.cons_append, List.nil_append] at hs
        refine s_assign rfl rfl ?_
        refine WL_nil ?_
        refine n_blk ?_
        refine n_then ?_
        refine W_region ?_
        refine s_move rfl rfl ?_
        first | (refine s_add' rfl rfl rfl ?hx ?_; case hx => (constructor <;> first | omega | (simp only; omega))) | refine s_add rfl rfl rfl ?_
        refine s_assign rfl rfl ?_
        refine WL_nil ?_
        refine n_loop ?_
        refine ⟨⟨i + 1, rs ++ [(.slice ta6 k tc6, recV m k)], v', Lv', Lx ++ L6⟩, ⟨rfl, rfl, rfl, trivial⟩, ⟨?_, ?_, ?_, ?_, ?_, by simp only; omega, by simp only; omega⟩, by simp only; omega⟩
        · simpa [cat] using St.reord [L6, Lv', Lx] [1, 2, 0] [] hs.tail rfl
        · simp only [Recs.v_snoc, List.length_append]; exact hO'
        · exact hrs.snoc (by rw [recV_length]; exact hO6.rdS)
        · simp only [Recs.x_snoc]
          refine ⟨by rw [List.length_append, Recs.x_length]; simp; omega, fun x hx => ?_⟩
          rcases List.mem_append.1 hx with hx | hx
          · exact hsm.2 x hx
          · rw [List.mem_singleton.1 hx]; exact ⟨by rw [recV_length]; omega, recV_isB _ _⟩
        · simp only [List.length_append, List.length_singleton]; omega
    · skip
      try simp only [decide_eq_true_eq, decide_eq_false_iff_not] at hc15
      refine W_exit ?_
      refine x_then ?_
      refine x_then ?_
      refine exit_hit ?_
      refine n_then ?_
      refine W_seq ?_
      refine W_region ?_
      refine s_move rfl rfl ?_
      refine s_assign rfl rfl ?_
      refine WL_nil ?_
      refine n_then ?_
      refine W_ret ?_
      exact end1 rfl rfl ⟨rs, Lu, Lx, hO, hs, hrs, hsm, by omega⟩
  · skip
    try simp only [decide_eq_true_eq, decide_eq_false_iff_not] at hg12
    refine WL_skip rfl rfl rfl ?_
    refine WL_skip rfl rfl rfl ?_
    refine s_pick_f rfl rfl rfl ?_
    refine WL_nil ?_
    refine n_then ?_
    refine W_cond_f rfl ?_
    refine W_exit ?_
    refine x_then ?_
    refine x_then ?_
    refine exit_hit ?_
    refine n_then ?_
    refine W_seq ?_
    refine W_region ?_
    refine s_move rfl rfl ?_
    refine s_assign rfl rfl ?_
    refine WL_nil ?_
    refine n_then ?_
    refine W_ret ?_
    exact end1 rfl rfl ⟨rs, Lu, Lx, hO, hs, hrs, hsm, by omega⟩
end Go.Proofs.YtkappdlbpilghaaGreat
