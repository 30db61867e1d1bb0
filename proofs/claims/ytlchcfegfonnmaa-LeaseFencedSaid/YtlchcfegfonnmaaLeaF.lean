/- LeaseFenced. -/
import Derived.Test.YtlchcfegfonnmaaLeaC
import Derived.Test.YtlchcfegfonnmaaCut
set_option linter.unusedVariables false
set_option linter.unusedSimpArgs false
namespace Go.Proofs.Ytlchcfegfonnmaa
open Go.SL
theorem applyE_zero {f : ByteArray → Option Lz} {g : Bool} {x : Lz} {n : Nat} {t : Int} (h : applyE f g x n t = 0) : validP g x n ∧ (0 ≤ t ∧ t ≤ 1048576) ∧
    ((g = false ∧ f x.rule = some x ∧ t < x.til) ∨ (g = true ∧ t < x.til ∧ (f x.rule = none ∨ ∃ y, f x.rule = some y ∧ y.token < x.token ∧ (y.til ≤ t ∨ y.holder = x.holder)))) := by
  unfold applyE at h
  split at h
  · omega
  · rename_i h1
    have hv : validP g x n := Decidable.byContradiction fun h => h1 (.inl h)
    refine ⟨hv, by omega, ?_⟩
    split at h
    · rename_i hg
      left
      split at h
      · rename_i y hy
        split at h
        · rename_i h3; obtain ⟨rfl, h3⟩ := h3; exact ⟨hg, hy, h3⟩
        · omega
      · omega
    · rename_i hg
      right
      split at h
      · omega
      · rename_i h2
        refine ⟨by simpa using hg, by omega, ?_⟩
        split at h
        · rename_i y hy
          split at h
          · omega
          · exact .inr ⟨y, hy, by omega, by omega⟩
        · rename_i hy; exact .inl hy
def RelJ (o : Option Lz) (g t h u : Int) (s : ByteArray) : Prop := t ≤ g ∧ 0 ≤ g ∧ g ≤ 1073741824 ∧ match o with
  | none => g = 0 ∧ u = 0
  | some y => y.token = g ∧ y.holder = h ∧ y.til = u ∧ y.rule = s
theorem relJ_none {g t h u : Int} {s : ByteArray} : RelJ none g t h u s ↔ t ≤ g ∧ 0 ≤ g ∧ g ≤ 1073741824 ∧ g = 0 ∧ u = 0 := Iff.rfl
theorem relJ_some {y : Lz} {g t h u : Int} {s : ByteArray} : RelJ (some y) g t h u s ↔ t ≤ g ∧ 0 ≤ g ∧ g ≤ 1073741824 ∧ y.token = g ∧ y.holder = h ∧ y.til = u ∧ y.rule = s := Iff.rfl
structure Rel (f : ByteArray → Option Lz) (G T H U : List Int) : Prop where
  hG : G.length = 3
  hT : T.length = 3
  hH : H.length = 3
  hU : U.length = 3
  at_ : ∀ j, j < 3 → RelJ (f (ruleS j)) (G.getD j 0) (T.getD j 0) (H.getD j 0) (U.getD j 0) (ruleS j)
theorem getD_set3 {G : List Int} {k j : Nat} {v : Int} (hk : k < G.length) : (G.set k v).getD j 0 = if j = k then v else G.getD j 0 := by
  simp only [List.getD_eq_getElem?_getD, List.getElem?_set]
  by_cases h : k = j
  · subst h; simp [hk]
  · simp [h, Ne.symm h]
section
variable {f : ByteArray → Option Lz} {G T H U : List Int} {x : Lz} {n k : Nat} {t : Int}
theorem fence_grant (hR : Rel f G T H U) (hk : k < 3) (hr : x.rule = ruleS k) (h : applyE f true x n t = 0) :
    ¬ (t < U.getD k 0 ∧ x.holder ≠ H.getD k 0) ∧ ¬ x.token ≤ G.getD k 0 ∧ Rel (applyF f true x n t) (G.set k x.token) T (H.set k x.holder) (U.set k x.til) := by
  obtain ⟨hv, ht, h3⟩ := applyE_zero h
  have hJ := hR.at_ k hk
  obtain ⟨_, _, htok, _⟩ := hv
  rcases h3 with ⟨h3, _⟩ | ⟨_, h4, h5⟩
  · cases h3
  rw [hr] at h5
  refine ⟨?_, ?_, by simp [hR.hG], by simp [hR.hT], by simp [hR.hH], by simp [hR.hU], fun j hj => ?_⟩
  · rcases h5 with h5 | ⟨y, h5, h6, h7⟩ <;> rw [h5] at hJ <;> simp only [relJ_none, relJ_some] at hJ <;> omega
  · rcases h5 with h5 | ⟨y, h5, h6, h7⟩ <;> rw [h5] at hJ <;> simp only [relJ_none, relJ_some] at hJ <;> omega
  · rw [getD_set3 (by simp [hR.hG, hk]), getD_set3 (by simp [hR.hH, hk]), getD_set3 (by simp [hR.hU, hk]), applyF, if_pos ⟨h, rfl⟩]
    simp only [hr, ruleS_inj hj hk]
    by_cases hjk : j = k
    · subst hjk
      simp only [if_true, relJ_some]
      refine ⟨?_, by omega, by omega, trivial, trivial, trivial, hr⟩
      rcases h5 with h5 | ⟨y, h5, h6, h7⟩ <;> rw [h5] at hJ <;> simp only [relJ_none, relJ_some] at hJ <;> omega
    · simp only [if_neg hjk]; exact hR.at_ j hj
theorem fence_cmd (hR : Rel f G T H U) (hk : k < 3) (hr : x.rule = ruleS k) (h : applyE f false x n t = 0) :
    ¬ (t < U.getD k 0 ∧ x.holder ≠ H.getD k 0) ∧ ¬ x.token < T.getD k 0 ∧ ¬ x.token < G.getD k 0 ∧ ¬ U.getD k 0 ≤ t ∧ Rel (applyF f false x n t) G (T.set k x.token) H U := by
  obtain ⟨hv, ht, h3⟩ := applyE_zero h
  have hJ := hR.at_ k hk
  rcases h3 with ⟨_, h4, h5⟩ | ⟨h3, _⟩
  · rw [hr] at h4
    rw [h4, relJ_some] at hJ
    refine ⟨by omega, by omega, by omega, by omega, hR.hG, by simp [hR.hT], hR.hH, hR.hU, fun j hj => ?_⟩
    rw [getD_set3 (by simp [hR.hT, hk]), applyF, if_neg (by simp)]
    by_cases hjk : j = k
    · subst hjk
      simp only [if_true, relJ_some, h4]
      exact ⟨by omega, by omega, by omega, by omega, by omega, by omega, hr⟩
    · simp only [if_neg hjk]; exact hR.at_ j hj
  · cases h3
theorem fence_none {g : Bool} (hR : Rel f G T H U) (h : applyE f g x n t ≠ 0) : Rel (applyF f g x n t) G T H U := by rw [applyF, if_neg (fun h' => h h'.1)]; exact hR
end
theorem i64s_set (G : List Int) (k : Nat) (v : Int) : (i64s G).set (0 + (k : Int).toNat) (.int .i64 v) = i64s (G.set k v) := by simp [i64s, List.map_set]
def rls : List Value := [.string ⟨#[104, 111, 116]⟩, .string ⟨#[99, 111, 108, 100]⟩, .string ⟨#[97]⟩]
theorem rel0 : Rel (fun _ => none) [0, 0, 0] [0, 0, 0] [0, 0, 0] [0, 0, 0] := ⟨rfl, rfl, rfl, rfl, by
  intro j hj
  match j, hj with
  | 0, _ => exact ⟨by decide, by decide, by decide, rfl, rfl⟩
  | 1, _ => exact ⟨by decide, by decide, by decide, rfl, rfl⟩
  | 2, _ => exact ⟨by decide, by decide, by decide, rfl, rfl⟩⟩
structure FS where
  i : Nat
  tick : Int
  f : ByteArray → Option Lz
  cs : List Cmd
  G : List Int
  T : List Int
  H : List Int
  U : List Int
  LT : Hp
set_option maxHeartbeats 4000000 in
theorem leaseFenced_ok (v u : Value) (xs ys : List Int) (w0 : World) (hv : Sl w0 v xs.length (i64s xs)) (hx : ∀ z ∈ xs, isI64 z) (hu : Sl w0 u ys.length (i64s ys)) (hy : ∀ z ∈ ys, isI64 z) :
    Ret Try.prog 3 [v, u].toArray w0 fun r w' => Fwd [] w0 w' ∧ r = .bool true := by
  obtain ⟨a, c, rfl, hc⟩ := hv.len_le
  obtain ⟨ua, uc, rfl, huc⟩ := hu.len_le
  refine Ret_start fun w hs => ?_
  refine Ret_of Try.func3 rfl Try.ntmps3 rfl ?_
  refine W_seq ?_
  refine W_region ?_
  refine s_assign rfl rfl ?_
  refine WL_nil ?_
  refine n_then ?_
  refine W_seq ?_
  refine W_region ?_
  refine s_call Try.call6 rfl rfl (new_ok w) ?_
  rintro r w ⟨p, LT, rfl, hT, hst⟩
  replace hs := St.back0 hs hst
  simp only [List.append_nil] at hs
  clear hst
  refine s_assign rfl rfl ?_
  refine WL_nil ?_
  refine n_then ?_
  refine W_seq ?_
  refine W_seq ?_
  refine W_region ?_
  refine s_move rfl rfl ?_
  refine s_eql_ptr_nil Try.underlying23 rfl rfl rfl ?_
  refine WL_nil ?_
  refine n_then ?_
  refine W_cond_kf rfl (rfl) ?_
  refine W_skip ?_
  refine n_then ?_
  refine W_seq ?_
  refine W_region ?_
  refine s_assign rfl rfl ?_
  refine WL_nil ?_
  refine n_then ?_
  refine W_seq ?_
  refine W_region ?_
  refine s_buildSlice rfl rfl (BS22_3 _ _ _) hs ?_; clear hs; intro b23 w hs
  refine s_assign rfl rfl ?_
  refine WL_nil ?_
  refine n_then ?_
  refine W_seq ?_
  refine W_region ?_
  refine s_buildSlice rfl rfl (BS22_3 _ _ _) hs ?_; clear hs; intro b24 w hs
  refine s_assign rfl rfl ?_
  refine WL_nil ?_
  refine n_then ?_
  refine W_seq ?_
  refine W_region ?_
  refine s_buildSlice rfl rfl (BS22_3 _ _ _) hs ?_; clear hs; intro b25 w hs
  refine s_assign rfl rfl ?_
  refine WL_nil ?_
  refine n_then ?_
  refine W_seq ?_
  refine W_region ?_
  refine s_buildSlice rfl rfl (BS22_3 _ _ _) hs ?_; clear hs; intro b26 w hs
  refine s_assign rfl rfl ?_
  refine WL_nil ?_
  refine n_then ?_
  refine W_seq ?_
  refine W_region ?_
  refine s_buildSlice rfl rfl (BS25_3 _ _ _) hs ?_; clear hs; intro b27 w hs
  refine s_assign rfl rfl ?_
  refine WL_nil ?_
  refine n_then ?_
  refine W_seq ?_
  refine W_seq ?_
  refine W_region ?_
  refine s_assign rfl rfl ?_
  refine WL_nil ?_
  refine n_then ?_
  refine W_block ?_
  refine W_loop (σ := FS) (fun s => [(0, .slice a xs.length c), (1, .slice ua ys.length uc), (5, .pointer (some ⟨p, 0, none⟩)), (6, .int .i64 s.tick), (7, .slice (some ⟨b23, 0, none⟩) 3 3), (8, .slice (some ⟨b24, 0, none⟩) 3 3), (9, .slice (some ⟨b25, 0, none⟩) 3 3), (10, .slice (some ⟨b26, 0, none⟩) 3 3), (11, .slice (some ⟨b27, 0, none⟩) 3 3), (12, .int .i64 (s.i : Int))])
    (fun s w => St [] w0 w ((b27, Blk 9 rls) :: (b26, Blk 3 (i64s s.U)) :: (b25, Blk 3 (i64s s.H)) :: (b24, Blk 3 (i64s s.T)) :: (b23, Blk 3 (i64s s.G)) :: s.LT) ∧ TabAt p s.f s.cs s.LT ∧ Rel s.f s.G s.T s.H s.U ∧ s.i ≤ xs.length ∧ s.i ≤ 24 ∧ 0 ≤ s.tick ∧ s.tick ≤ 3 * s.i ∧ s.cs.length ≤ s.i)
    (fun s => xs.length - s.i) ⟨0, 0, fun _ => none, [], [0, 0, 0], [0, 0, 0], [0, 0, 0], [0, 0, 0], LT⟩ ⟨rfl, rfl, rfl, rfl, rfl, rfl, rfl, rfl, rfl, rfl, trivial⟩ ⟨hs, hT, rel0, by simp, by simp, by simp, by simp, by simp⟩ ?_
  clear hs hT LT
  rintro ⟨i, tick, f, cs, G, T, H, U, LT⟩ w ⟨hs, hT, hR, hil, hi24, ht0, ht1, hcl⟩
  simp only at hs hT hR hil hi24 ht0 ht1 hcl ⊢
  obtain ⟨hG3, hT3, hH3, hU3, hat⟩ := id hR
  refine W_seq ?_
  refine W_seq ?_
  refine W_region ?_
  refine s_move rfl rfl ?_
  refine s_move rfl rfl ?_
  refine s_len rfl rfl (LN22 _ _ _ _) ?_
  refine s_lss rfl rfl rfl ?_
  refine s_move rfl rfl ?_
  refine WL_case (s := 32) rfl (fun hg32 => ?_) (fun hg32 => ?_)
  · skip
    try simp only [decide_eq_true_eq, decide_eq_false_iff_not, Bool.not_eq_true', Bool.not_eq_false', bne_iff_ne, bne_eq_false_iff_eq, ne_eq, beq_iff_eq, beq_eq_false_iff_ne] at hg32
    refine WL_take rfl ?_
    refine s_move rfl rfl ?_
    refine WL_take rfl ?_
    refine s_lss rfl rfl rfl ?_
    refine s_pick_t rfl rfl rfl ?_
    refine WL_nil ?_
    refine n_then ?_
    refine W_cond rfl (fun hc35 => ?_) (fun hc35 => ?_)
    · skip
      try simp only [decide_eq_true_eq, decide_eq_false_iff_not, Bool.not_eq_true', Bool.not_eq_false', bne_iff_ne, bne_eq_false_iff_eq, ne_eq, beq_iff_eq, beq_eq_false_iff_ne] at hc35
      have hix : i < xs.length := by omega
      obtain ⟨b1, o1, hA1, hc1⟩ := hv.at (k := i) (i64s_at' hix)
      have hB1 : b1 < w0.heap.size := World.block_lt_of_cell? w0 _ hc1
      have hm : isI64 (xs.getD i 0) := hx _ (by rw [List.getD_eq_getElem?_getD, List.getElem?_eq_getElem hix]; simp)
      generalize xs.getD i 0 = n at hc1 hm
      refine W_skip ?_
      refine n_then ?_
      refine W_seq ?_
      refine W_block ?_
      refine W_seq ?_
      refine W_region ?_
      refine s_move rfl rfl ?_
      refine s_move rfl rfl ?_
      refine s_move rfl rfl ?_
      have hpr := pickV_range (xs := ys) (i := (i : Int)) (q := 4) (by omega)
      refine s_call Try.call7 rfl rfl (pick_ok _ ys i 4 w (hu.fwd0 hs.fwd) hy (by omega)) ?_
      rintro r w ⟨rfl, rfl⟩
      generalize pickV ys i 4 = stp at hpr
      first | (refine s_add' rfl rfl rfl ?hx ?_; case hx => (constructor <;> first | omega | (simp only; omega))) | refine s_add rfl rfl rfl ?_
      refine s_assign rfl rfl ?_
      refine WL_nil ?_
      refine n_then ?_
      refine W_seq ?_
      refine W_region ?_
      refine s_move rfl rfl ?_
      refine s_move rfl rfl ?_
      (refine s_indexAddrO El22 rfl rfl rfl hA1 ?hx ?_; case hx => (constructor <;> omega))
      first
        | refine s_load Try.isAgg3 rfl rfl (hs.cell (k := 0) rfl rfl) ?_
        | refine s_load Try.isAgg3 rfl rfl (hs.cell (k := 1) rfl rfl) ?_
        | refine s_load Try.isAgg3 rfl rfl (hs.cell (k := 2) rfl rfl) ?_
        | refine s_load Try.isAgg3 rfl rfl (hs.cell (k := 3) rfl rfl) ?_
        | refine s_load Try.isAgg3 rfl rfl (hs.cell (k := 4) rfl rfl) ?_
        | refine s_load Try.isAgg3 rfl rfl (hs.cell (k := 5) rfl rfl) ?_
        | refine s_load Try.isAgg3 rfl rfl (hs.cell (k := 6) rfl rfl) ?_
        | refine s_load Try.isAgg3 rfl rfl (hs.cell (k := 7) rfl rfl) ?_
        | refine s_load Try.isAgg3 rfl rfl (hs.cell (k := 8) rfl rfl) ?_
        | refine s_load Try.isAgg3 rfl rfl ((hs.oldcell (a := ⟨b1, o1 + i, none⟩) hB1 (by simp)).trans hc1) ?_
        | refine s_load Try.isAgg3 rfl rfl ((hs.cell (k := 0) rfl (i64s_at (by omega)))) ?_
        | refine s_load Try.isAgg3 rfl rfl ((hs.cell (k := 1) rfl (i64s_at (by omega)))) ?_
        | refine s_load Try.isAgg3 rfl rfl ((hs.cell (k := 2) rfl (i64s_at (by omega)))) ?_
        | refine s_load Try.isAgg3 rfl rfl ((hs.cell (k := 3) rfl (i64s_at (by omega)))) ?_
        | refine s_load Try.isAgg3 rfl rfl ((hs.cell (k := 4) rfl (i64s_at (by omega)))) ?_
        | refine s_load Try.isAgg3 rfl rfl ((hs.cell (k := 5) rfl (i64s_at (by omega)))) ?_
        | refine s_load Try.isAgg3 rfl rfl ((hs.cell (k := 6) rfl (i64s_at (by omega)))) ?_
        | refine s_load Try.isAgg3 rfl rfl ((hs.cell (k := 7) rfl (i64s_at (by omega)))) ?_
        | refine s_load Try.isAgg3 rfl rfl ((hs.cell (k := 8) rfl (i64s_at (by omega)))) ?_
      refine s_call Try.call8 rfl rfl (made_ok n w hm) ?_
      rintro r w ⟨mv, Lm, rfl, hmO, hst⟩
      replace hs := (St.back0 hs hst).swap
      simp only [List.cons_append] at hs
      clear hst
      obtain ⟨_, mc, ma, rfl, rfl⟩ := hmO.form
      have hmr : ∃ r, r < 3 ∧ (madeX n).rule = ruleS r := ⟨(aroundV n 1073741824 / 3 % 3).toNat, by omega, rfl⟩
      have hmt : 1 ≤ (madeX n).token ∧ (madeX n).token ≤ 4 ∧ 1 ≤ (madeX n).til ∧ (madeX n).til ≤ 20 := by
        have := aroundV_range (m := n) (q := 1073741824) (by omega)
        simp only [madeX]; omega
      obtain ⟨rr, hr3, hmr⟩ := hmr
      generalize madeX n = x0 at hmr hmt
      generalize madeG n = g0
      generalize madeC n = mb at hmO
      refine s_alloc rfl AL31 hs ?_; clear hs; intro b13 w hs
      first
        | refine s_storeW Try.sizeOf31 rfl rfl rfl rfl hs (kk := 0) rfl rfl ?_
        | refine s_storeW Try.sizeOf31 rfl rfl rfl rfl hs (kk := 1) rfl rfl ?_
        | refine s_storeW Try.sizeOf31 rfl rfl rfl rfl hs (kk := 2) rfl rfl ?_
        | refine s_storeW Try.sizeOf31 rfl rfl rfl rfl hs (kk := 3) rfl rfl ?_
        | refine s_storeW Try.sizeOf31 rfl rfl rfl rfl hs (kk := 4) rfl rfl ?_
        | refine s_storeW Try.sizeOf31 rfl rfl rfl rfl hs (kk := 5) rfl rfl ?_
        | refine s_storeW Try.sizeOf31 rfl rfl rfl rfl hs (kk := 6) rfl rfl ?_
        | refine s_storeW Try.sizeOf31 rfl rfl rfl rfl hs (kk := 7) rfl rfl ?_
        | refine s_storeW Try.sizeOf31 rfl rfl rfl rfl hs (kk := 8) rfl rfl ?_
        | refine s_storeAB Try.sizeOf31 rfl rfl rfl rfl hs (kk := 0) rfl rfl ?_
        | refine s_storeAB Try.sizeOf31 rfl rfl rfl rfl hs (kk := 1) rfl rfl ?_
        | refine s_storeAB Try.sizeOf31 rfl rfl rfl rfl hs (kk := 2) rfl rfl ?_
        | refine s_storeAB Try.sizeOf31 rfl rfl rfl rfl hs (kk := 3) rfl rfl ?_
        | refine s_storeAB Try.sizeOf31 rfl rfl rfl rfl hs (kk := 4) rfl rfl ?_
        | refine s_storeAB Try.sizeOf31 rfl rfl rfl rfl hs (kk := 5) rfl rfl ?_
        | refine s_storeAB Try.sizeOf31 rfl rfl rfl rfl hs (kk := 6) rfl rfl ?_
        | refine s_storeAB Try.sizeOf31 rfl rfl rfl rfl hs (kk := 7) rfl rfl ?_
        | refine s_storeAB Try.sizeOf31 rfl rfl rfl rfl hs (kk := 8) rfl rfl ?_
      clear hs; intro w hs; try simp only [List.set_cons_zero, List.set_cons_succ, splice, List.take_succ_cons, List.take_zero, List.drop_succ_cons, List.drop_zero, List.nil_append, List.cons_append, List.length_cons, List.length_nil, Nat.reduceAdd, List.append_assoc] at hs
      refine WL_nil ?_
      refine n_then ?_
      refine W_seq ?_
      refine W_region ?_
      refine s_assign rfl rfl ?_
      refine WL_nil ?_
      refine n_then ?_
      refine W_seq ?_
      refine W_seq ?_
      refine W_region ?_
      refine s_assign rfl rfl ?_
      refine WL_nil ?_
      refine n_then ?_
      refine W_block ?_
      refine W_loop (σ := Nat × Nat) (fun s => [(0, .slice a xs.length c), (1, .slice ua ys.length uc), (5, .pointer (some ⟨p, 0, none⟩)), (6, .int .i64 (tick + stp)), (7, .slice (some ⟨b23, 0, none⟩) 3 3), (8, .slice (some ⟨b24, 0, none⟩) 3 3), (9, .slice (some ⟨b25, 0, none⟩) 3 3), (10, .slice (some ⟨b26, 0, none⟩) 3 3), (11, .slice (some ⟨b27, 0, none⟩) 3 3), (12, .int .i64 (i : Int)), (13, .pointer (some ⟨b13, 0, none⟩)), (14, .int .i64 (s.2 : Int)), (15, .int .i64 (s.1 : Int))])
        (fun s w => St [] w0 w ((b13, Blk 31 [.bool g0, .string x0.rule, .int .i64 x0.holder, .int .i64 x0.token, .int .i64 x0.til, .slice ma mb.length mc]) :: (b27, Blk 9 rls) :: (b26, Blk 3 (i64s U)) :: (b25, Blk 3 (i64s H)) :: (b24, Blk 3 (i64s T)) :: (b23, Blk 3 (i64s G)) :: (LT ++ Lm)) ∧ s.1 ≤ 3 ∧ (rr < s.1 → s.2 = rr) ∧ (s.1 ≤ rr → s.2 = 0))
        (fun s => 3 - s.1) (0, 0) ⟨rfl, rfl, rfl, rfl, rfl, rfl, rfl, rfl, rfl, rfl, rfl, rfl, rfl, trivial⟩ ⟨hs, by omega, by omega, by omega⟩ ?_
      clear hs
      rintro ⟨j, k⟩ w ⟨hs, hj3, hk1, hk2⟩
      simp only at hj3 hk1 hk2 ⊢
      refine W_seq ?_
      refine W_seq ?_
      refine W_region ?_
      refine s_move rfl rfl ?_
      refine s_lss rfl rfl rfl ?_
      refine WL_nil ?_
      refine n_then ?_
      refine W_cond rfl (fun hc49 => ?_) (fun hc49 => ?_)
      · skip
        try simp only [decide_eq_true_eq, decide_eq_false_iff_not, Bool.not_eq_true', Bool.not_eq_false', bne_iff_ne, bne_eq_false_iff_eq, ne_eq, beq_iff_eq, beq_eq_false_iff_ne] at hc49
        refine W_skip ?_
        refine n_then ?_
        refine W_seq ?_
        refine W_block ?_
        refine W_seq ?_
        refine W_draw [(0, true, []), (1, true, []), (2, true, []), (3, true, []), (4, true, []), (5, true, []), (6, true, []), (7, true, [])] MX (by kernel_rfl) ?_
        intro w1 hw1 hw2 hw3 hw4; replace hs := hs.redrawn hw1 hw2 hw3 hw4; clear hw1 hw2 hw3 hw4
        obtain ⟨w, rfl⟩ : ∃ w : World, w = w1 := ⟨_, rfl⟩
        refine D_q rfl rfl ?_
        refine s_move rfl rfl ?_
        refine D_qn ?_
        refine D_q rfl rfl ?_
        refine s_move rfl rfl ?_
        refine D_qn ?_
        refine D_q rfl rfl ?_
        (refine s_indexAddr1 El25 rfl rfl rfl ?hx ?_; case hx => (constructor <;> first | omega | (simp; omega)))
        refine D_qn ?_
        refine D_q rfl rfl ?_
        refine s_load Try.isAgg9 rfl rfl (hs.cell (k := 1) rfl (ruleS_at (by omega))) ?_
        refine D_qn ?_
        refine D_q rfl rfl ?_
        refine s_fieldAddr rfl rfl (FA31_1 _ _) ?_
        refine D_qn ?_
        refine D_q rfl rfl ?_
        refine s_fieldAddr rfl rfl (FA28_0 _ _) ?_
        refine D_qn ?_
        refine D_q rfl rfl ?_
        first
          | refine s_load Try.isAgg9 rfl rfl (hs.cell (k := 0) rfl rfl) ?_
          | refine s_load Try.isAgg9 rfl rfl (hs.cell (k := 1) rfl rfl) ?_
          | refine s_load Try.isAgg9 rfl rfl (hs.cell (k := 2) rfl rfl) ?_
          | refine s_load Try.isAgg9 rfl rfl (hs.cell (k := 3) rfl rfl) ?_
          | refine s_load Try.isAgg9 rfl rfl (hs.cell (k := 4) rfl rfl) ?_
          | refine s_load Try.isAgg9 rfl rfl (hs.cell (k := 5) rfl rfl) ?_
          | refine s_load Try.isAgg9 rfl rfl (hs.cell (k := 6) rfl rfl) ?_
          | refine s_load Try.isAgg9 rfl rfl (hs.cell (k := 7) rfl rfl) ?_
          | refine s_load Try.isAgg9 rfl rfl (hs.cell (k := 8) rfl rfl) ?_
          | refine s_load Try.isAgg9 rfl rfl ((hs.oldcell (a := ⟨b1, o1 + i, none⟩) hB1 (by simp)).trans hc1) ?_
          | refine s_load Try.isAgg9 rfl rfl ((hs.cell (k := 0) rfl (i64s_at (by omega)))) ?_
          | refine s_load Try.isAgg9 rfl rfl ((hs.cell (k := 1) rfl (i64s_at (by omega)))) ?_
          | refine s_load Try.isAgg9 rfl rfl ((hs.cell (k := 2) rfl (i64s_at (by omega)))) ?_
          | refine s_load Try.isAgg9 rfl rfl ((hs.cell (k := 3) rfl (i64s_at (by omega)))) ?_
          | refine s_load Try.isAgg9 rfl rfl ((hs.cell (k := 4) rfl (i64s_at (by omega)))) ?_
          | refine s_load Try.isAgg9 rfl rfl ((hs.cell (k := 5) rfl (i64s_at (by omega)))) ?_
          | refine s_load Try.isAgg9 rfl rfl ((hs.cell (k := 6) rfl (i64s_at (by omega)))) ?_
          | refine s_load Try.isAgg9 rfl rfl ((hs.cell (k := 7) rfl (i64s_at (by omega)))) ?_
          | refine s_load Try.isAgg9 rfl rfl ((hs.cell (k := 8) rfl (i64s_at (by omega)))) ?_
        refine D_qn ?_
        refine D_q rfl rfl ?_
        refine s_eql_S rfl rfl rfl ?_
        refine D_qn ?_
        refine D_nil ?_
        refine n_then ?_
        refine W_cond rfl (fun hc59 => ?_) (fun hc59 => ?_)
        · skip
          simp only [hmr, decide_eq_true_eq, decide_eq_false_iff_not, ruleS_inj (show j < 3 by omega) hr3] at hc59
          refine W_region ?_
          refine s_move rfl rfl ?_
          refine s_assign rfl rfl ?_
          refine WL_nil ?_
          refine n_blk ?_
          refine n_then ?_
          refine W_region ?_
          refine s_move rfl rfl ?_
          first | (refine s_add' rfl rfl rfl ?hx ?_; case hx => (constructor <;> first | omega | (simp only; omega))) | refine s_add rfl rfl rfl ?_
          refine s_assign rfl rfl ?_
          refine WL_nil ?_
          refine n_loop ?_
          first
            | exact ⟨(j + 1, j), ⟨rfl, rfl, rfl, rfl, rfl, rfl, rfl, rfl, rfl, rfl, rfl, rfl, rfl, trivial⟩, ⟨hs, by simp only; omega, by simp only; omega, by simp only; omega⟩, by simp only; omega⟩
            | exact ⟨(j + 1, k), ⟨rfl, rfl, rfl, rfl, rfl, rfl, rfl, rfl, rfl, rfl, rfl, rfl, rfl, trivial⟩, ⟨hs, by simp only; omega, by simp only; omega, by simp only; omega⟩, by simp only; omega⟩
        · skip
          simp only [hmr, decide_eq_true_eq, decide_eq_false_iff_not, ruleS_inj (show j < 3 by omega) hr3] at hc59
          refine W_skip ?_
          refine n_blk ?_
          refine n_then ?_
          refine W_region ?_
          refine s_move rfl rfl ?_
          first | (refine s_add' rfl rfl rfl ?hx ?_; case hx => (constructor <;> first | omega | (simp only; omega))) | refine s_add rfl rfl rfl ?_
          refine s_assign rfl rfl ?_
          refine WL_nil ?_
          refine n_loop ?_
          first
            | exact ⟨(j + 1, j), ⟨rfl, rfl, rfl, rfl, rfl, rfl, rfl, rfl, rfl, rfl, rfl, rfl, rfl, trivial⟩, ⟨hs, by simp only; omega, by simp only; omega, by simp only; omega⟩, by simp only; omega⟩
            | exact ⟨(j + 1, k), ⟨rfl, rfl, rfl, rfl, rfl, rfl, rfl, rfl, rfl, rfl, rfl, rfl, rfl, trivial⟩, ⟨hs, by simp only; omega, by simp only; omega, by simp only; omega⟩, by simp only; omega⟩
      · skip
        try simp only [decide_eq_true_eq, decide_eq_false_iff_not, Bool.not_eq_true', Bool.not_eq_false', bne_iff_ne, bne_eq_false_iff_eq, ne_eq, beq_iff_eq, beq_eq_false_iff_ne] at hc49
        obtain rfl : k = rr := hk1 (by omega)
        clear hk1 hk2 hj3
        refine W_exit ?_
        refine x_then ?_
        refine x_then ?_
        refine exit_hit ?_
        refine n_then ?_
        refine W_seq ?_
        refine W_region ?_
        refine s_move rfl rfl ?_
        refine s_fieldAddr rfl rfl (FA31_1 _ _) ?_
        refine s_fieldAddr rfl rfl (FA28_3 _ _) ?_
        first
          | refine s_load Try.isAgg3 rfl rfl (hs.cell (k := 0) rfl rfl) ?_
          | refine s_load Try.isAgg3 rfl rfl (hs.cell (k := 1) rfl rfl) ?_
          | refine s_load Try.isAgg3 rfl rfl (hs.cell (k := 2) rfl rfl) ?_
          | refine s_load Try.isAgg3 rfl rfl (hs.cell (k := 3) rfl rfl) ?_
          | refine s_load Try.isAgg3 rfl rfl (hs.cell (k := 4) rfl rfl) ?_
          | refine s_load Try.isAgg3 rfl rfl (hs.cell (k := 5) rfl rfl) ?_
          | refine s_load Try.isAgg3 rfl rfl (hs.cell (k := 6) rfl rfl) ?_
          | refine s_load Try.isAgg3 rfl rfl (hs.cell (k := 7) rfl rfl) ?_
          | refine s_load Try.isAgg3 rfl rfl (hs.cell (k := 8) rfl rfl) ?_
          | refine s_load Try.isAgg3 rfl rfl ((hs.oldcell (a := ⟨b1, o1 + i, none⟩) hB1 (by simp)).trans hc1) ?_
          | refine s_load Try.isAgg3 rfl rfl ((hs.cell (k := 0) rfl (i64s_at (by omega)))) ?_
          | refine s_load Try.isAgg3 rfl rfl ((hs.cell (k := 1) rfl (i64s_at (by omega)))) ?_
          | refine s_load Try.isAgg3 rfl rfl ((hs.cell (k := 2) rfl (i64s_at (by omega)))) ?_
          | refine s_load Try.isAgg3 rfl rfl ((hs.cell (k := 3) rfl (i64s_at (by omega)))) ?_
          | refine s_load Try.isAgg3 rfl rfl ((hs.cell (k := 4) rfl (i64s_at (by omega)))) ?_
          | refine s_load Try.isAgg3 rfl rfl ((hs.cell (k := 5) rfl (i64s_at (by omega)))) ?_
          | refine s_load Try.isAgg3 rfl rfl ((hs.cell (k := 6) rfl (i64s_at (by omega)))) ?_
          | refine s_load Try.isAgg3 rfl rfl ((hs.cell (k := 7) rfl (i64s_at (by omega)))) ?_
          | refine s_load Try.isAgg3 rfl rfl ((hs.cell (k := 8) rfl (i64s_at (by omega)))) ?_
        first | (refine s_rem' rfl rfl rfl ?hx ?_; case hx => (refine ⟨?_, ?_⟩ <;> omega)) | (refine s_rem rfl rfl rfl ?hx ?_; case hx => omega)
        first | (refine s_add' rfl rfl rfl ?hx ?_; case hx => (constructor <;> first | omega | (simp only; omega))) | refine s_add rfl rfl rfl ?_
        refine s_fieldAddr rfl rfl (FA31_1 _ _) ?_
        refine s_fieldAddr rfl rfl (FA28_3 _ _) ?_
        first
          | refine s_storeB Try.sizeOf3 rfl rfl rfl hs (kk := 0) rfl rfl ?_
          | refine s_storeB Try.sizeOf3 rfl rfl rfl hs (kk := 1) rfl rfl ?_
          | refine s_storeB Try.sizeOf3 rfl rfl rfl hs (kk := 2) rfl rfl ?_
          | refine s_storeB Try.sizeOf3 rfl rfl rfl hs (kk := 3) rfl rfl ?_
          | refine s_storeB Try.sizeOf3 rfl rfl rfl hs (kk := 4) rfl rfl ?_
          | refine s_storeB Try.sizeOf3 rfl rfl rfl hs (kk := 5) rfl rfl ?_
          | refine s_storeB Try.sizeOf3 rfl rfl rfl hs (kk := 6) rfl rfl ?_
          | refine s_storeB Try.sizeOf3 rfl rfl rfl hs (kk := 7) rfl rfl ?_
          | refine s_storeB Try.sizeOf3 rfl rfl rfl hs (kk := 8) rfl rfl ?_
        clear hs; intro w hs; try simp only [List.set_cons_zero, List.set_cons_succ, splice, List.take_succ_cons, List.take_zero, List.drop_succ_cons, List.drop_zero, List.nil_append, List.cons_append, List.length_cons, List.length_nil, Nat.reduceAdd, List.append_assoc] at hs
        refine WL_nil ?_
        refine n_then ?_
        refine W_seq ?_
        refine W_region ?_
        refine s_move rfl rfl ?_
        refine s_fieldAddr rfl rfl (FA31_1 _ _) ?_
        refine s_fieldAddr rfl rfl (FA28_0 _ _) ?_
        first
          | refine s_load Try.isAgg9 rfl rfl (hs.cell (k := 0) rfl rfl) ?_
          | refine s_load Try.isAgg9 rfl rfl (hs.cell (k := 1) rfl rfl) ?_
          | refine s_load Try.isAgg9 rfl rfl (hs.cell (k := 2) rfl rfl) ?_
          | refine s_load Try.isAgg9 rfl rfl (hs.cell (k := 3) rfl rfl) ?_
          | refine s_load Try.isAgg9 rfl rfl (hs.cell (k := 4) rfl rfl) ?_
          | refine s_load Try.isAgg9 rfl rfl (hs.cell (k := 5) rfl rfl) ?_
          | refine s_load Try.isAgg9 rfl rfl (hs.cell (k := 6) rfl rfl) ?_
          | refine s_load Try.isAgg9 rfl rfl (hs.cell (k := 7) rfl rfl) ?_
          | refine s_load Try.isAgg9 rfl rfl (hs.cell (k := 8) rfl rfl) ?_
          | refine s_load Try.isAgg9 rfl rfl ((hs.oldcell (a := ⟨b1, o1 + i, none⟩) hB1 (by simp)).trans hc1) ?_
          | refine s_load Try.isAgg9 rfl rfl ((hs.cell (k := 0) rfl (i64s_at (by omega)))) ?_
          | refine s_load Try.isAgg9 rfl rfl ((hs.cell (k := 1) rfl (i64s_at (by omega)))) ?_
          | refine s_load Try.isAgg9 rfl rfl ((hs.cell (k := 2) rfl (i64s_at (by omega)))) ?_
          | refine s_load Try.isAgg9 rfl rfl ((hs.cell (k := 3) rfl (i64s_at (by omega)))) ?_
          | refine s_load Try.isAgg9 rfl rfl ((hs.cell (k := 4) rfl (i64s_at (by omega)))) ?_
          | refine s_load Try.isAgg9 rfl rfl ((hs.cell (k := 5) rfl (i64s_at (by omega)))) ?_
          | refine s_load Try.isAgg9 rfl rfl ((hs.cell (k := 6) rfl (i64s_at (by omega)))) ?_
          | refine s_load Try.isAgg9 rfl rfl ((hs.cell (k := 7) rfl (i64s_at (by omega)))) ?_
          | refine s_load Try.isAgg9 rfl rfl ((hs.cell (k := 8) rfl (i64s_at (by omega)))) ?_
        refine s_move rfl rfl ?_
        refine s_callL (M := [_, _, _, _, _, _]) (L1 := LT) (X := Lm) Try.call9 rfl rfl hs (fun h => holder_ok p f cs x0.rule (tick + stp) LT w hT h) ?_
        clear hs; rintro v w LT2 ⟨rfl, y, kn, rfl, hy1, hy2⟩ - hs
        simp only [List.cons_append, List.nil_append] at hs
        have hyr : kn = true → y.rule = ruleS k := fun h => by
          have := hat k hr3
          rw [← hmr, (hy1 h).1, relJ_some] at this
          rw [← hmr]; exact this.2.2.2.2.2.2
        refine s_move rfl rfl ?_
        refine s_extract rfl rfl rfl ?_
        refine s_extract rfl rfl rfl ?_
        refine s_alloc rfl AL28 hs ?_; clear hs; intro b16 w hs
        first
          | refine s_storeW Try.sizeOf28 rfl rfl rfl rfl hs (kk := 0) rfl rfl ?_
          | refine s_storeW Try.sizeOf28 rfl rfl rfl rfl hs (kk := 1) rfl rfl ?_
          | refine s_storeW Try.sizeOf28 rfl rfl rfl rfl hs (kk := 2) rfl rfl ?_
          | refine s_storeW Try.sizeOf28 rfl rfl rfl rfl hs (kk := 3) rfl rfl ?_
          | refine s_storeW Try.sizeOf28 rfl rfl rfl rfl hs (kk := 4) rfl rfl ?_
          | refine s_storeW Try.sizeOf28 rfl rfl rfl rfl hs (kk := 5) rfl rfl ?_
          | refine s_storeW Try.sizeOf28 rfl rfl rfl rfl hs (kk := 6) rfl rfl ?_
          | refine s_storeW Try.sizeOf28 rfl rfl rfl rfl hs (kk := 7) rfl rfl ?_
          | refine s_storeW Try.sizeOf28 rfl rfl rfl rfl hs (kk := 8) rfl rfl ?_
          | refine s_storeAB Try.sizeOf28 rfl rfl rfl rfl hs (kk := 0) rfl rfl ?_
          | refine s_storeAB Try.sizeOf28 rfl rfl rfl rfl hs (kk := 1) rfl rfl ?_
          | refine s_storeAB Try.sizeOf28 rfl rfl rfl rfl hs (kk := 2) rfl rfl ?_
          | refine s_storeAB Try.sizeOf28 rfl rfl rfl rfl hs (kk := 3) rfl rfl ?_
          | refine s_storeAB Try.sizeOf28 rfl rfl rfl rfl hs (kk := 4) rfl rfl ?_
          | refine s_storeAB Try.sizeOf28 rfl rfl rfl rfl hs (kk := 5) rfl rfl ?_
          | refine s_storeAB Try.sizeOf28 rfl rfl rfl rfl hs (kk := 6) rfl rfl ?_
          | refine s_storeAB Try.sizeOf28 rfl rfl rfl rfl hs (kk := 7) rfl rfl ?_
          | refine s_storeAB Try.sizeOf28 rfl rfl rfl rfl hs (kk := 8) rfl rfl ?_
        clear hs; intro w hs; try simp only [List.set_cons_zero, List.set_cons_succ, splice, List.take_succ_cons, List.take_zero, List.drop_succ_cons, List.drop_zero, List.nil_append, List.cons_append, List.length_cons, List.length_nil, Nat.reduceAdd, List.append_assoc] at hs
        refine s_assign rfl rfl ?_
        refine WL_nil ?_
        refine n_then ?_
        refine W_cut (σ := Bool × Lz) (fun _ => [(0, .slice a xs.length c), (1, .slice ua ys.length uc), (5, .pointer (some ⟨p, 0, none⟩)), (6, .int .i64 (tick + stp)), (7, .slice (some ⟨b23, 0, none⟩) 3 3), (8, .slice (some ⟨b24, 0, none⟩) 3 3), (9, .slice (some ⟨b25, 0, none⟩) 3 3), (10, .slice (some ⟨b26, 0, none⟩) 3 3), (11, .slice (some ⟨b27, 0, none⟩) 3 3), (12, .int .i64 (i : Int)), (13, .pointer (some ⟨b13, 0, none⟩)), (14, .int .i64 (k : Int))])
          (fun s w => St [] w0 w ((b13, Blk 31 [.bool s.1, .string s.2.rule, .int .i64 s.2.holder, .int .i64 s.2.token, .int .i64 s.2.til, .slice ma mb.length mc]) :: (b27, Blk 9 rls) :: (b26, Blk 3 (i64s U)) :: (b25, Blk 3 (i64s H)) :: (b24, Blk 3 (i64s T)) :: (b23, Blk 3 (i64s G)) :: (LT2 ++ Lm)) ∧ s.2.rule = ruleS k) ?_ ?_
        · skip
          refine W_seq ?_
          refine W_region ?_
          refine s_move rfl rfl ?_
          refine s_move rfl rfl ?_
          refine WL_case (s := 79) rfl (fun hg79 => ?_) (fun hg79 => ?_)
          · skip
            try simp only [decide_eq_true_eq, decide_eq_false_iff_not, Bool.not_eq_true', Bool.not_eq_false', bne_iff_ne, bne_eq_false_iff_eq, ne_eq, beq_iff_eq, beq_eq_false_iff_ne] at hg79
            refine WL_take rfl ?_
            refine s_move rfl rfl ?_
            refine WL_take rfl ?_
            refine s_move rfl rfl ?_
            refine WL_take rfl ?_
            (refine s_indexAddrO El22 rfl rfl rfl hA1 ?hx ?_; case hx => (constructor <;> omega))
            refine WL_take rfl ?_
            first
              | refine s_load Try.isAgg3 rfl rfl (hs.cell (k := 0) rfl rfl) ?_
              | refine s_load Try.isAgg3 rfl rfl (hs.cell (k := 1) rfl rfl) ?_
              | refine s_load Try.isAgg3 rfl rfl (hs.cell (k := 2) rfl rfl) ?_
              | refine s_load Try.isAgg3 rfl rfl (hs.cell (k := 3) rfl rfl) ?_
              | refine s_load Try.isAgg3 rfl rfl (hs.cell (k := 4) rfl rfl) ?_
              | refine s_load Try.isAgg3 rfl rfl (hs.cell (k := 5) rfl rfl) ?_
              | refine s_load Try.isAgg3 rfl rfl (hs.cell (k := 6) rfl rfl) ?_
              | refine s_load Try.isAgg3 rfl rfl (hs.cell (k := 7) rfl rfl) ?_
              | refine s_load Try.isAgg3 rfl rfl (hs.cell (k := 8) rfl rfl) ?_
              | refine s_load Try.isAgg3 rfl rfl ((hs.oldcell (a := ⟨b1, o1 + i, none⟩) hB1 (by simp)).trans hc1) ?_
              | refine s_load Try.isAgg3 rfl rfl ((hs.cell (k := 0) rfl (i64s_at (by omega)))) ?_
              | refine s_load Try.isAgg3 rfl rfl ((hs.cell (k := 1) rfl (i64s_at (by omega)))) ?_
              | refine s_load Try.isAgg3 rfl rfl ((hs.cell (k := 2) rfl (i64s_at (by omega)))) ?_
              | refine s_load Try.isAgg3 rfl rfl ((hs.cell (k := 3) rfl (i64s_at (by omega)))) ?_
              | refine s_load Try.isAgg3 rfl rfl ((hs.cell (k := 4) rfl (i64s_at (by omega)))) ?_
              | refine s_load Try.isAgg3 rfl rfl ((hs.cell (k := 5) rfl (i64s_at (by omega)))) ?_
              | refine s_load Try.isAgg3 rfl rfl ((hs.cell (k := 6) rfl (i64s_at (by omega)))) ?_
              | refine s_load Try.isAgg3 rfl rfl ((hs.cell (k := 7) rfl (i64s_at (by omega)))) ?_
              | refine s_load Try.isAgg3 rfl rfl ((hs.cell (k := 8) rfl (i64s_at (by omega)))) ?_
            refine WL_take rfl ?_
            refine s_call Try.call10 rfl rfl (around_ok n _ w (by omega) hm) ?_
            rintro r w ⟨rfl, rfl⟩
            refine WL_take rfl ?_
            refine s_eql rfl rfl rfl ?_
            refine s_pick_t rfl rfl rfl ?_
            refine WL_nil ?_
            refine n_then ?_
            refine W_cond rfl (fun hc86 => ?_) (fun hc86 => ?_)
            · skip
              try simp only [decide_eq_true_eq, decide_eq_false_iff_not, Bool.not_eq_true', Bool.not_eq_false', bne_iff_ne, bne_eq_false_iff_eq, ne_eq, beq_iff_eq, beq_eq_false_iff_ne] at hc86
              refine W_seq ?_
              refine W_region ?_
              first
                | refine s_loadW Try.isAgg28 Try.sizeOf28 rfl rfl hs (kk := 0) rfl rfl ?_
                | refine s_loadW Try.isAgg28 Try.sizeOf28 rfl rfl hs (kk := 1) rfl rfl ?_
                | refine s_loadW Try.isAgg28 Try.sizeOf28 rfl rfl hs (kk := 2) rfl rfl ?_
                | refine s_loadW Try.isAgg28 Try.sizeOf28 rfl rfl hs (kk := 3) rfl rfl ?_
                | refine s_loadW Try.isAgg28 Try.sizeOf28 rfl rfl hs (kk := 4) rfl rfl ?_
                | refine s_loadW Try.isAgg28 Try.sizeOf28 rfl rfl hs (kk := 5) rfl rfl ?_
                | refine s_loadW Try.isAgg28 Try.sizeOf28 rfl rfl hs (kk := 6) rfl rfl ?_
                | refine s_loadW Try.isAgg28 Try.sizeOf28 rfl rfl hs (kk := 7) rfl rfl ?_
                | refine s_loadW Try.isAgg28 Try.sizeOf28 rfl rfl hs (kk := 8) rfl rfl ?_
                | refine s_load_4 Try.isAgg28 Try.sizeOf28 rfl rfl (by first | exact hs.cell (k := 0) rfl rfl | exact hs.cell (k := 1) rfl rfl | exact hs.cell (k := 2) rfl rfl | exact hs.cell (k := 3) rfl rfl | exact hs.cell (k := 4) rfl rfl | exact hs.cell (k := 5) rfl rfl | exact hs.cell (k := 6) rfl rfl | exact hs.cell (k := 7) rfl rfl | exact hs.cell (k := 8) rfl rfl) (by first | exact hs.cell (k := 0) rfl rfl | exact hs.cell (k := 1) rfl rfl | exact hs.cell (k := 2) rfl rfl | exact hs.cell (k := 3) rfl rfl | exact hs.cell (k := 4) rfl rfl | exact hs.cell (k := 5) rfl rfl | exact hs.cell (k := 6) rfl rfl | exact hs.cell (k := 7) rfl rfl | exact hs.cell (k := 8) rfl rfl) (by first | exact hs.cell (k := 0) rfl rfl | exact hs.cell (k := 1) rfl rfl | exact hs.cell (k := 2) rfl rfl | exact hs.cell (k := 3) rfl rfl | exact hs.cell (k := 4) rfl rfl | exact hs.cell (k := 5) rfl rfl | exact hs.cell (k := 6) rfl rfl | exact hs.cell (k := 7) rfl rfl | exact hs.cell (k := 8) rfl rfl) (by first | exact hs.cell (k := 0) rfl rfl | exact hs.cell (k := 1) rfl rfl | exact hs.cell (k := 2) rfl rfl | exact hs.cell (k := 3) rfl rfl | exact hs.cell (k := 4) rfl rfl | exact hs.cell (k := 5) rfl rfl | exact hs.cell (k := 6) rfl rfl | exact hs.cell (k := 7) rfl rfl | exact hs.cell (k := 8) rfl rfl) ?_
              refine s_fieldAddr rfl rfl (FA31_1 _ _) ?_
              first
                | refine s_storeW Try.sizeOf28 rfl rfl rfl rfl hs (kk := 0) rfl rfl ?_
                | refine s_storeW Try.sizeOf28 rfl rfl rfl rfl hs (kk := 1) rfl rfl ?_
                | refine s_storeW Try.sizeOf28 rfl rfl rfl rfl hs (kk := 2) rfl rfl ?_
                | refine s_storeW Try.sizeOf28 rfl rfl rfl rfl hs (kk := 3) rfl rfl ?_
                | refine s_storeW Try.sizeOf28 rfl rfl rfl rfl hs (kk := 4) rfl rfl ?_
                | refine s_storeW Try.sizeOf28 rfl rfl rfl rfl hs (kk := 5) rfl rfl ?_
                | refine s_storeW Try.sizeOf28 rfl rfl rfl rfl hs (kk := 6) rfl rfl ?_
                | refine s_storeW Try.sizeOf28 rfl rfl rfl rfl hs (kk := 7) rfl rfl ?_
                | refine s_storeW Try.sizeOf28 rfl rfl rfl rfl hs (kk := 8) rfl rfl ?_
                | refine s_storeAB Try.sizeOf28 rfl rfl rfl rfl hs (kk := 0) rfl rfl ?_
                | refine s_storeAB Try.sizeOf28 rfl rfl rfl rfl hs (kk := 1) rfl rfl ?_
                | refine s_storeAB Try.sizeOf28 rfl rfl rfl rfl hs (kk := 2) rfl rfl ?_
                | refine s_storeAB Try.sizeOf28 rfl rfl rfl rfl hs (kk := 3) rfl rfl ?_
                | refine s_storeAB Try.sizeOf28 rfl rfl rfl rfl hs (kk := 4) rfl rfl ?_
                | refine s_storeAB Try.sizeOf28 rfl rfl rfl rfl hs (kk := 5) rfl rfl ?_
                | refine s_storeAB Try.sizeOf28 rfl rfl rfl rfl hs (kk := 6) rfl rfl ?_
                | refine s_storeAB Try.sizeOf28 rfl rfl rfl rfl hs (kk := 7) rfl rfl ?_
                | refine s_storeAB Try.sizeOf28 rfl rfl rfl rfl hs (kk := 8) rfl rfl ?_
              clear hs; intro w hs; try simp only [List.set_cons_zero, List.set_cons_succ, splice, List.take_succ_cons, List.take_zero, List.drop_succ_cons, List.drop_zero, List.nil_append, List.cons_append, List.length_cons, List.length_nil, Nat.reduceAdd, List.append_assoc] at hs
              refine WL_nil ?_
              refine n_then ?_
              refine W_region ?_
              refine s_fieldAddr rfl rfl (FA31_0 _ _) ?_
              first
                | refine s_storeB Try.sizeOf4 rfl rfl rfl hs (kk := 0) rfl rfl ?_
                | refine s_storeB Try.sizeOf4 rfl rfl rfl hs (kk := 1) rfl rfl ?_
                | refine s_storeB Try.sizeOf4 rfl rfl rfl hs (kk := 2) rfl rfl ?_
                | refine s_storeB Try.sizeOf4 rfl rfl rfl hs (kk := 3) rfl rfl ?_
                | refine s_storeB Try.sizeOf4 rfl rfl rfl hs (kk := 4) rfl rfl ?_
                | refine s_storeB Try.sizeOf4 rfl rfl rfl hs (kk := 5) rfl rfl ?_
                | refine s_storeB Try.sizeOf4 rfl rfl rfl hs (kk := 6) rfl rfl ?_
                | refine s_storeB Try.sizeOf4 rfl rfl rfl hs (kk := 7) rfl rfl ?_
                | refine s_storeB Try.sizeOf4 rfl rfl rfl hs (kk := 8) rfl rfl ?_
              clear hs; intro w hs; try simp only [List.set_cons_zero, List.set_cons_succ, splice, List.take_succ_cons, List.take_zero, List.drop_succ_cons, List.drop_zero, List.nil_append, List.cons_append, List.length_cons, List.length_nil, Nat.reduceAdd, List.append_assoc] at hs
              refine WL_nil ?_
              refine n_loop ?_
              first
                | exact ⟨(false, y), ⟨rfl, rfl, rfl, rfl, rfl, rfl, rfl, rfl, rfl, rfl, rfl, rfl, trivial⟩, hs.tail, hyr ‹_›⟩
                | exact ⟨(g0, ⟨x0.rule, x0.holder, x0.token, tick + stp + x0.til % 7⟩), ⟨rfl, rfl, rfl, rfl, rfl, rfl, rfl, rfl, rfl, rfl, rfl, rfl, trivial⟩, hs.tail, hmr⟩
            · skip
              try simp only [decide_eq_true_eq, decide_eq_false_iff_not, Bool.not_eq_true', Bool.not_eq_false', bne_iff_ne, bne_eq_false_iff_eq, ne_eq, beq_iff_eq, beq_eq_false_iff_ne] at hc86
              refine W_skip ?_
              refine n_loop ?_
              first
                | exact ⟨(false, y), ⟨rfl, rfl, rfl, rfl, rfl, rfl, rfl, rfl, rfl, rfl, rfl, rfl, trivial⟩, hs.tail, hyr ‹_›⟩
                | exact ⟨(g0, ⟨x0.rule, x0.holder, x0.token, tick + stp + x0.til % 7⟩), ⟨rfl, rfl, rfl, rfl, rfl, rfl, rfl, rfl, rfl, rfl, rfl, rfl, trivial⟩, hs.tail, hmr⟩
          · skip
            try simp only [decide_eq_true_eq, decide_eq_false_iff_not, Bool.not_eq_true', Bool.not_eq_false', bne_iff_ne, bne_eq_false_iff_eq, ne_eq, beq_iff_eq, beq_eq_false_iff_ne] at hg79
            refine WL_skip rfl rfl rfl ?_
            refine WL_skip rfl rfl rfl ?_
            refine WL_skip rfl rfl rfl ?_
            refine WL_skip rfl rfl rfl ?_
            refine WL_skip rfl rfl rfl ?_
            refine WL_skip rfl rfl rfl ?_
            refine s_pick_f rfl rfl rfl ?_
            refine WL_nil ?_
            refine n_then ?_
            refine W_cond_f rfl ?_
            refine W_skip ?_
            refine n_loop ?_
            first
              | exact ⟨(false, y), ⟨rfl, rfl, rfl, rfl, rfl, rfl, rfl, rfl, rfl, rfl, rfl, rfl, trivial⟩, hs.tail, hyr ‹_›⟩
              | exact ⟨(g0, ⟨x0.rule, x0.holder, x0.token, tick + stp + x0.til % 7⟩), ⟨rfl, rfl, rfl, rfl, rfl, rfl, rfl, rfl, rfl, rfl, rfl, rfl, trivial⟩, hs.tail, hmr⟩
        · skip
          clear hs hy1 hy2 hyr
          rintro ⟨g, x⟩ w ⟨hs, hxr⟩
          simp only at hs hxr
          refine W_cut (σ := Bool × Lz) (fun _ => [(0, .slice a xs.length c), (1, .slice ua ys.length uc), (5, .pointer (some ⟨p, 0, none⟩)), (6, .int .i64 (tick + stp)), (7, .slice (some ⟨b23, 0, none⟩) 3 3), (8, .slice (some ⟨b24, 0, none⟩) 3 3), (9, .slice (some ⟨b25, 0, none⟩) 3 3), (10, .slice (some ⟨b26, 0, none⟩) 3 3), (11, .slice (some ⟨b27, 0, none⟩) 3 3), (12, .int .i64 (i : Int)), (13, .pointer (some ⟨b13, 0, none⟩)), (14, .int .i64 (k : Int))])
            (fun s w => St [] w0 w ((b13, Blk 31 [.bool s.1, .string s.2.rule, .int .i64 s.2.holder, .int .i64 s.2.token, .int .i64 s.2.til, .slice ma mb.length mc]) :: (b27, Blk 9 rls) :: (b26, Blk 3 (i64s U)) :: (b25, Blk 3 (i64s H)) :: (b24, Blk 3 (i64s T)) :: (b23, Blk 3 (i64s G)) :: (LT2 ++ Lm)) ∧ s.2.rule = ruleS k) ?_ ?_
          · skip
            refine W_seq ?_
            refine W_region ?_
            refine s_fieldAddr rfl rfl (FA31_0 _ _) ?_
            first
              | refine s_load Try.isAgg4 rfl rfl (hs.cell (k := 0) rfl rfl) ?_
              | refine s_load Try.isAgg4 rfl rfl (hs.cell (k := 1) rfl rfl) ?_
              | refine s_load Try.isAgg4 rfl rfl (hs.cell (k := 2) rfl rfl) ?_
              | refine s_load Try.isAgg4 rfl rfl (hs.cell (k := 3) rfl rfl) ?_
              | refine s_load Try.isAgg4 rfl rfl (hs.cell (k := 4) rfl rfl) ?_
              | refine s_load Try.isAgg4 rfl rfl (hs.cell (k := 5) rfl rfl) ?_
              | refine s_load Try.isAgg4 rfl rfl (hs.cell (k := 6) rfl rfl) ?_
              | refine s_load Try.isAgg4 rfl rfl (hs.cell (k := 7) rfl rfl) ?_
              | refine s_load Try.isAgg4 rfl rfl (hs.cell (k := 8) rfl rfl) ?_
              | refine s_load Try.isAgg4 rfl rfl ((hs.oldcell (a := ⟨b1, o1 + i, none⟩) hB1 (by simp)).trans hc1) ?_
              | refine s_load Try.isAgg4 rfl rfl ((hs.cell (k := 0) rfl (i64s_at (by omega)))) ?_
              | refine s_load Try.isAgg4 rfl rfl ((hs.cell (k := 1) rfl (i64s_at (by omega)))) ?_
              | refine s_load Try.isAgg4 rfl rfl ((hs.cell (k := 2) rfl (i64s_at (by omega)))) ?_
              | refine s_load Try.isAgg4 rfl rfl ((hs.cell (k := 3) rfl (i64s_at (by omega)))) ?_
              | refine s_load Try.isAgg4 rfl rfl ((hs.cell (k := 4) rfl (i64s_at (by omega)))) ?_
              | refine s_load Try.isAgg4 rfl rfl ((hs.cell (k := 5) rfl (i64s_at (by omega)))) ?_
              | refine s_load Try.isAgg4 rfl rfl ((hs.cell (k := 6) rfl (i64s_at (by omega)))) ?_
              | refine s_load Try.isAgg4 rfl rfl ((hs.cell (k := 7) rfl (i64s_at (by omega)))) ?_
              | refine s_load Try.isAgg4 rfl rfl ((hs.cell (k := 8) rfl (i64s_at (by omega)))) ?_
            refine s_move rfl rfl ?_
            refine WL_case (s := 92) rfl (fun hg92 => ?_) (fun hg92 => ?_)
            · skip
              try simp only [decide_eq_true_eq, decide_eq_false_iff_not, Bool.not_eq_true', Bool.not_eq_false', bne_iff_ne, bne_eq_false_iff_eq, ne_eq, beq_iff_eq, beq_eq_false_iff_ne] at hg92
              refine WL_take rfl ?_
              refine s_move rfl rfl ?_
              refine WL_take rfl ?_
              refine s_move rfl rfl ?_
              refine WL_take rfl ?_
              (refine s_indexAddrO El22 rfl rfl rfl hA1 ?hx ?_; case hx => (constructor <;> omega))
              refine WL_take rfl ?_
              first
                | refine s_load Try.isAgg3 rfl rfl (hs.cell (k := 0) rfl rfl) ?_
                | refine s_load Try.isAgg3 rfl rfl (hs.cell (k := 1) rfl rfl) ?_
                | refine s_load Try.isAgg3 rfl rfl (hs.cell (k := 2) rfl rfl) ?_
                | refine s_load Try.isAgg3 rfl rfl (hs.cell (k := 3) rfl rfl) ?_
                | refine s_load Try.isAgg3 rfl rfl (hs.cell (k := 4) rfl rfl) ?_
                | refine s_load Try.isAgg3 rfl rfl (hs.cell (k := 5) rfl rfl) ?_
                | refine s_load Try.isAgg3 rfl rfl (hs.cell (k := 6) rfl rfl) ?_
                | refine s_load Try.isAgg3 rfl rfl (hs.cell (k := 7) rfl rfl) ?_
                | refine s_load Try.isAgg3 rfl rfl (hs.cell (k := 8) rfl rfl) ?_
                | refine s_load Try.isAgg3 rfl rfl ((hs.oldcell (a := ⟨b1, o1 + i, none⟩) hB1 (by simp)).trans hc1) ?_
                | refine s_load Try.isAgg3 rfl rfl ((hs.cell (k := 0) rfl (i64s_at (by omega)))) ?_
                | refine s_load Try.isAgg3 rfl rfl ((hs.cell (k := 1) rfl (i64s_at (by omega)))) ?_
                | refine s_load Try.isAgg3 rfl rfl ((hs.cell (k := 2) rfl (i64s_at (by omega)))) ?_
                | refine s_load Try.isAgg3 rfl rfl ((hs.cell (k := 3) rfl (i64s_at (by omega)))) ?_
                | refine s_load Try.isAgg3 rfl rfl ((hs.cell (k := 4) rfl (i64s_at (by omega)))) ?_
                | refine s_load Try.isAgg3 rfl rfl ((hs.cell (k := 5) rfl (i64s_at (by omega)))) ?_
                | refine s_load Try.isAgg3 rfl rfl ((hs.cell (k := 6) rfl (i64s_at (by omega)))) ?_
                | refine s_load Try.isAgg3 rfl rfl ((hs.cell (k := 7) rfl (i64s_at (by omega)))) ?_
                | refine s_load Try.isAgg3 rfl rfl ((hs.cell (k := 8) rfl (i64s_at (by omega)))) ?_
              refine WL_take rfl ?_
              refine s_call Try.call10 rfl rfl (around_ok n _ w (by omega) hm) ?_
              rintro r w ⟨rfl, rfl⟩
              refine WL_take rfl ?_
              refine s_gtr rfl rfl rfl ?_
              refine s_pick_t rfl rfl rfl ?_
              refine WL_nil ?_
              refine n_then ?_
              refine W_cond rfl (fun hc99 => ?_) (fun hc99 => ?_)
              · skip
                try simp only [decide_eq_true_eq, decide_eq_false_iff_not, Bool.not_eq_true', Bool.not_eq_false', bne_iff_ne, bne_eq_false_iff_eq, ne_eq, beq_iff_eq, beq_eq_false_iff_ne] at hc99
                refine W_region ?_
                refine s_move rfl rfl ?_
                refine s_move rfl rfl ?_
                (refine s_indexAddr1 El22 rfl rfl rfl ?hx ?_; case hx => (constructor <;> first | omega | (simp; omega)))
                first
                  | refine s_load Try.isAgg3 rfl rfl (hs.cell (k := 0) rfl rfl) ?_
                  | refine s_load Try.isAgg3 rfl rfl (hs.cell (k := 1) rfl rfl) ?_
                  | refine s_load Try.isAgg3 rfl rfl (hs.cell (k := 2) rfl rfl) ?_
                  | refine s_load Try.isAgg3 rfl rfl (hs.cell (k := 3) rfl rfl) ?_
                  | refine s_load Try.isAgg3 rfl rfl (hs.cell (k := 4) rfl rfl) ?_
                  | refine s_load Try.isAgg3 rfl rfl (hs.cell (k := 5) rfl rfl) ?_
                  | refine s_load Try.isAgg3 rfl rfl (hs.cell (k := 6) rfl rfl) ?_
                  | refine s_load Try.isAgg3 rfl rfl (hs.cell (k := 7) rfl rfl) ?_
                  | refine s_load Try.isAgg3 rfl rfl (hs.cell (k := 8) rfl rfl) ?_
                  | refine s_load Try.isAgg3 rfl rfl ((hs.oldcell (a := ⟨b1, o1 + i, none⟩) hB1 (by simp)).trans hc1) ?_
                  | refine s_load Try.isAgg3 rfl rfl ((hs.cell (k := 0) rfl (i64s_at (by omega)))) ?_
                  | refine s_load Try.isAgg3 rfl rfl ((hs.cell (k := 1) rfl (i64s_at (by omega)))) ?_
                  | refine s_load Try.isAgg3 rfl rfl ((hs.cell (k := 2) rfl (i64s_at (by omega)))) ?_
                  | refine s_load Try.isAgg3 rfl rfl ((hs.cell (k := 3) rfl (i64s_at (by omega)))) ?_
                  | refine s_load Try.isAgg3 rfl rfl ((hs.cell (k := 4) rfl (i64s_at (by omega)))) ?_
                  | refine s_load Try.isAgg3 rfl rfl ((hs.cell (k := 5) rfl (i64s_at (by omega)))) ?_
                  | refine s_load Try.isAgg3 rfl rfl ((hs.cell (k := 6) rfl (i64s_at (by omega)))) ?_
                  | refine s_load Try.isAgg3 rfl rfl ((hs.cell (k := 7) rfl (i64s_at (by omega)))) ?_
                  | refine s_load Try.isAgg3 rfl rfl ((hs.cell (k := 8) rfl (i64s_at (by omega)))) ?_
                have hg27 := hat k hr3
                (refine s_add' rfl rfl rfl ?hx ?_; case hx => (obtain ⟨_, h1, h2, _⟩ := hg27; omega))
                refine s_fieldAddr rfl rfl (FA31_1 _ _) ?_
                refine s_fieldAddr rfl rfl (FA28_2 _ _) ?_
                first
                  | refine s_storeB Try.sizeOf3 rfl rfl rfl hs (kk := 0) rfl rfl ?_
                  | refine s_storeB Try.sizeOf3 rfl rfl rfl hs (kk := 1) rfl rfl ?_
                  | refine s_storeB Try.sizeOf3 rfl rfl rfl hs (kk := 2) rfl rfl ?_
                  | refine s_storeB Try.sizeOf3 rfl rfl rfl hs (kk := 3) rfl rfl ?_
                  | refine s_storeB Try.sizeOf3 rfl rfl rfl hs (kk := 4) rfl rfl ?_
                  | refine s_storeB Try.sizeOf3 rfl rfl rfl hs (kk := 5) rfl rfl ?_
                  | refine s_storeB Try.sizeOf3 rfl rfl rfl hs (kk := 6) rfl rfl ?_
                  | refine s_storeB Try.sizeOf3 rfl rfl rfl hs (kk := 7) rfl rfl ?_
                  | refine s_storeB Try.sizeOf3 rfl rfl rfl hs (kk := 8) rfl rfl ?_
                clear hs; intro w hs; try simp only [List.set_cons_zero, List.set_cons_succ, splice, List.take_succ_cons, List.take_zero, List.drop_succ_cons, List.drop_zero, List.nil_append, List.cons_append, List.length_cons, List.length_nil, Nat.reduceAdd, List.append_assoc] at hs
                refine WL_nil ?_
                refine n_loop ?_
                first
                  | exact ⟨(g, ⟨x.rule, x.holder, G.getD k 0 + 1, x.til⟩), ⟨rfl, rfl, rfl, rfl, rfl, rfl, rfl, rfl, rfl, rfl, rfl, rfl, trivial⟩, hs, hxr⟩
                  | exact ⟨(g, x), ⟨rfl, rfl, rfl, rfl, rfl, rfl, rfl, rfl, rfl, rfl, rfl, rfl, trivial⟩, hs, hxr⟩
              · skip
                try simp only [decide_eq_true_eq, decide_eq_false_iff_not, Bool.not_eq_true', Bool.not_eq_false', bne_iff_ne, bne_eq_false_iff_eq, ne_eq, beq_iff_eq, beq_eq_false_iff_ne] at hc99
                refine W_skip ?_
                refine n_loop ?_
                first
                  | exact ⟨(g, ⟨x.rule, x.holder, G.getD k 0 + 1, x.til⟩), ⟨rfl, rfl, rfl, rfl, rfl, rfl, rfl, rfl, rfl, rfl, rfl, rfl, trivial⟩, hs, hxr⟩
                  | exact ⟨(g, x), ⟨rfl, rfl, rfl, rfl, rfl, rfl, rfl, rfl, rfl, rfl, rfl, rfl, trivial⟩, hs, hxr⟩
            · skip
              try simp only [decide_eq_true_eq, decide_eq_false_iff_not, Bool.not_eq_true', Bool.not_eq_false', bne_iff_ne, bne_eq_false_iff_eq, ne_eq, beq_iff_eq, beq_eq_false_iff_ne] at hg92
              refine WL_skip rfl rfl rfl ?_
              refine WL_skip rfl rfl rfl ?_
              refine WL_skip rfl rfl rfl ?_
              refine WL_skip rfl rfl rfl ?_
              refine WL_skip rfl rfl rfl ?_
              refine WL_skip rfl rfl rfl ?_
              refine s_pick_f rfl rfl rfl ?_
              refine WL_nil ?_
              refine n_then ?_
              refine W_cond_f rfl ?_
              refine W_skip ?_
              refine n_loop ?_
              first
                | exact ⟨(g, ⟨x.rule, x.holder, G.getD k 0 + 1, x.til⟩), ⟨rfl, rfl, rfl, rfl, rfl, rfl, rfl, rfl, rfl, rfl, rfl, rfl, trivial⟩, hs, hxr⟩
                | exact ⟨(g, x), ⟨rfl, rfl, rfl, rfl, rfl, rfl, rfl, rfl, rfl, rfl, rfl, rfl, trivial⟩, hs, hxr⟩
          · skip
            clear hs hxr
            clear x g
            rintro ⟨g, x⟩ w ⟨hs, hxr⟩
            simp only at hs hxr
            refine W_seq ?_
            refine W_region ?_
            refine s_move rfl rfl ?_
            first
              | refine s_loadW Try.isAgg31 Try.sizeOf31 rfl rfl hs (kk := 0) rfl rfl ?_
              | refine s_loadW Try.isAgg31 Try.sizeOf31 rfl rfl hs (kk := 1) rfl rfl ?_
              | refine s_loadW Try.isAgg31 Try.sizeOf31 rfl rfl hs (kk := 2) rfl rfl ?_
              | refine s_loadW Try.isAgg31 Try.sizeOf31 rfl rfl hs (kk := 3) rfl rfl ?_
              | refine s_loadW Try.isAgg31 Try.sizeOf31 rfl rfl hs (kk := 4) rfl rfl ?_
              | refine s_loadW Try.isAgg31 Try.sizeOf31 rfl rfl hs (kk := 5) rfl rfl ?_
              | refine s_loadW Try.isAgg31 Try.sizeOf31 rfl rfl hs (kk := 6) rfl rfl ?_
              | refine s_loadW Try.isAgg31 Try.sizeOf31 rfl rfl hs (kk := 7) rfl rfl ?_
              | refine s_loadW Try.isAgg31 Try.sizeOf31 rfl rfl hs (kk := 8) rfl rfl ?_
              | refine s_load_6 Try.isAgg31 Try.sizeOf31 rfl rfl (by first | exact hs.cell (k := 0) rfl rfl | exact hs.cell (k := 1) rfl rfl | exact hs.cell (k := 2) rfl rfl | exact hs.cell (k := 3) rfl rfl | exact hs.cell (k := 4) rfl rfl | exact hs.cell (k := 5) rfl rfl | exact hs.cell (k := 6) rfl rfl | exact hs.cell (k := 7) rfl rfl | exact hs.cell (k := 8) rfl rfl) (by first | exact hs.cell (k := 0) rfl rfl | exact hs.cell (k := 1) rfl rfl | exact hs.cell (k := 2) rfl rfl | exact hs.cell (k := 3) rfl rfl | exact hs.cell (k := 4) rfl rfl | exact hs.cell (k := 5) rfl rfl | exact hs.cell (k := 6) rfl rfl | exact hs.cell (k := 7) rfl rfl | exact hs.cell (k := 8) rfl rfl) (by first | exact hs.cell (k := 0) rfl rfl | exact hs.cell (k := 1) rfl rfl | exact hs.cell (k := 2) rfl rfl | exact hs.cell (k := 3) rfl rfl | exact hs.cell (k := 4) rfl rfl | exact hs.cell (k := 5) rfl rfl | exact hs.cell (k := 6) rfl rfl | exact hs.cell (k := 7) rfl rfl | exact hs.cell (k := 8) rfl rfl) (by first | exact hs.cell (k := 0) rfl rfl | exact hs.cell (k := 1) rfl rfl | exact hs.cell (k := 2) rfl rfl | exact hs.cell (k := 3) rfl rfl | exact hs.cell (k := 4) rfl rfl | exact hs.cell (k := 5) rfl rfl | exact hs.cell (k := 6) rfl rfl | exact hs.cell (k := 7) rfl rfl | exact hs.cell (k := 8) rfl rfl) (by first | exact hs.cell (k := 0) rfl rfl | exact hs.cell (k := 1) rfl rfl | exact hs.cell (k := 2) rfl rfl | exact hs.cell (k := 3) rfl rfl | exact hs.cell (k := 4) rfl rfl | exact hs.cell (k := 5) rfl rfl | exact hs.cell (k := 6) rfl rfl | exact hs.cell (k := 7) rfl rfl | exact hs.cell (k := 8) rfl rfl) (by first | exact hs.cell (k := 0) rfl rfl | exact hs.cell (k := 1) rfl rfl | exact hs.cell (k := 2) rfl rfl | exact hs.cell (k := 3) rfl rfl | exact hs.cell (k := 4) rfl rfl | exact hs.cell (k := 5) rfl rfl | exact hs.cell (k := 6) rfl rfl | exact hs.cell (k := 7) rfl rfl | exact hs.cell (k := 8) rfl rfl) ?_
            refine s_call Try.call12 rfl rfl (of_ok g x ma mb.length mc w) ?_
            rintro r w ⟨hst, rfl⟩
            replace hs := hs.fwd1 hst
            clear hst
            refine s_move rfl rfl ?_
            refine s_callL (M := [_, _, _, _, _, _]) (L1 := LT2) (X := Lm) Try.call11 rfl rfl hs (fun h => apply_ok p f cs g x (.slice ma mb.length mc) mb (tick + stp) LT2 w hT h (St_lastSl (M := [_, _, _, _, _, _]) hs hmO) (by omega) (fun a' m' c' he hne => by cases he; exact St_apart (M := [_, _, _, _, _, _]) hs (OwnS_in hmO hne))) ?_
            clear hs; rintro v w LT3 ⟨rfl, cs', hT', hcs1, hcs2⟩ - hs
            simp only [List.cons_append, List.nil_append] at hs
            have hcl' : cs'.length ≤ i + 1 := by
              by_cases h : applyE f g x mb.length (tick + stp) = 0 ∧ g = false
              · obtain ⟨c9, _, rfl⟩ := hcs2 h; simp; omega
              · rw [hcs1 h]; omega
            refine s_assign rfl rfl ?_
            refine WL_nil ?_
            refine n_then ?_
            refine W_seq ?_
            refine W_seq ?_
            refine W_region ?_
            refine s_move rfl rfl ?_
            refine s_neq rfl rfl rfl ?_
            refine WL_nil ?_
            refine n_then ?_
            refine W_cond rfl (fun hc113 => ?_) (fun hc113 => ?_)
            · skip
              try simp only [decide_eq_true_eq, decide_eq_false_iff_not, Bool.not_eq_true', Bool.not_eq_false', bne_iff_ne, bne_eq_false_iff_eq, ne_eq, beq_iff_eq, beq_eq_false_iff_ne] at hc113
              refine W_exit ?_
              refine x_then ?_
              refine exit_hit ?_
              refine n_then ?_
              refine W_region ?_
              refine s_move rfl rfl ?_
              first | (refine s_add' rfl rfl rfl ?hx ?_; case hx => (constructor <;> first | omega | (simp only; omega))) | refine s_add rfl rfl rfl ?_
              refine s_assign rfl rfl ?_
              refine WL_nil ?_
              refine n_loop ?_
              first
                | exact ⟨⟨i + 1, tick + stp, _, cs', G, T, H, U, LT3⟩, ⟨rfl, rfl, rfl, rfl, rfl, rfl, rfl, rfl, rfl, rfl, trivial⟩, ⟨St.left (M := Lm) (by simpa using hs.tail), hT', fence_none hR ‹_›, by simp only; omega, by simp only; omega, by simp only; omega, by simp only; omega, by simp only; omega⟩, by simp only; omega⟩
                | exact ⟨⟨i + 1, tick + stp, _, cs', _, _, _, _, LT3⟩, ⟨rfl, rfl, rfl, rfl, rfl, rfl, rfl, rfl, rfl, rfl, trivial⟩, ⟨St.left (M := Lm) (by simpa using hs.tail.tail), hT', hR2, by simp only; omega, by simp only; omega, by simp only; omega, by simp only; omega, by simp only; omega⟩, by simp only; omega⟩
            · skip
              try simp only [decide_eq_true_eq, decide_eq_false_iff_not, Bool.not_eq_true', Bool.not_eq_false', bne_iff_ne, bne_eq_false_iff_eq, ne_eq, beq_iff_eq, beq_eq_false_iff_ne] at hc113
              have hF : ¬ (tick + stp < U.getD k 0 ∧ x.holder ≠ H.getD k 0) := by
                cases g
                · exact (fence_cmd hR hr3 hxr ‹_›).1
                · exact (fence_grant hR hr3 hxr ‹_›).1
              refine W_skip ?_
              refine n_then ?_
              refine W_seq ?_
              refine W_region ?_
              refine s_fieldAddr rfl rfl (FA31_1 _ _) ?_
              first
                | refine s_loadW Try.isAgg28 Try.sizeOf28 rfl rfl hs (kk := 0) rfl rfl ?_
                | refine s_loadW Try.isAgg28 Try.sizeOf28 rfl rfl hs (kk := 1) rfl rfl ?_
                | refine s_loadW Try.isAgg28 Try.sizeOf28 rfl rfl hs (kk := 2) rfl rfl ?_
                | refine s_loadW Try.isAgg28 Try.sizeOf28 rfl rfl hs (kk := 3) rfl rfl ?_
                | refine s_loadW Try.isAgg28 Try.sizeOf28 rfl rfl hs (kk := 4) rfl rfl ?_
                | refine s_loadW Try.isAgg28 Try.sizeOf28 rfl rfl hs (kk := 5) rfl rfl ?_
                | refine s_loadW Try.isAgg28 Try.sizeOf28 rfl rfl hs (kk := 6) rfl rfl ?_
                | refine s_loadW Try.isAgg28 Try.sizeOf28 rfl rfl hs (kk := 7) rfl rfl ?_
                | refine s_loadW Try.isAgg28 Try.sizeOf28 rfl rfl hs (kk := 8) rfl rfl ?_
                | refine s_load_4 Try.isAgg28 Try.sizeOf28 rfl rfl (by first | exact hs.cell (k := 0) rfl rfl | exact hs.cell (k := 1) rfl rfl | exact hs.cell (k := 2) rfl rfl | exact hs.cell (k := 3) rfl rfl | exact hs.cell (k := 4) rfl rfl | exact hs.cell (k := 5) rfl rfl | exact hs.cell (k := 6) rfl rfl | exact hs.cell (k := 7) rfl rfl | exact hs.cell (k := 8) rfl rfl) (by first | exact hs.cell (k := 0) rfl rfl | exact hs.cell (k := 1) rfl rfl | exact hs.cell (k := 2) rfl rfl | exact hs.cell (k := 3) rfl rfl | exact hs.cell (k := 4) rfl rfl | exact hs.cell (k := 5) rfl rfl | exact hs.cell (k := 6) rfl rfl | exact hs.cell (k := 7) rfl rfl | exact hs.cell (k := 8) rfl rfl) (by first | exact hs.cell (k := 0) rfl rfl | exact hs.cell (k := 1) rfl rfl | exact hs.cell (k := 2) rfl rfl | exact hs.cell (k := 3) rfl rfl | exact hs.cell (k := 4) rfl rfl | exact hs.cell (k := 5) rfl rfl | exact hs.cell (k := 6) rfl rfl | exact hs.cell (k := 7) rfl rfl | exact hs.cell (k := 8) rfl rfl) (by first | exact hs.cell (k := 0) rfl rfl | exact hs.cell (k := 1) rfl rfl | exact hs.cell (k := 2) rfl rfl | exact hs.cell (k := 3) rfl rfl | exact hs.cell (k := 4) rfl rfl | exact hs.cell (k := 5) rfl rfl | exact hs.cell (k := 6) rfl rfl | exact hs.cell (k := 7) rfl rfl | exact hs.cell (k := 8) rfl rfl) ?_
              refine s_alloc rfl AL28 hs ?_; clear hs; intro b19 w hs
              first
                | refine s_storeW Try.sizeOf28 rfl rfl rfl rfl hs (kk := 0) rfl rfl ?_
                | refine s_storeW Try.sizeOf28 rfl rfl rfl rfl hs (kk := 1) rfl rfl ?_
                | refine s_storeW Try.sizeOf28 rfl rfl rfl rfl hs (kk := 2) rfl rfl ?_
                | refine s_storeW Try.sizeOf28 rfl rfl rfl rfl hs (kk := 3) rfl rfl ?_
                | refine s_storeW Try.sizeOf28 rfl rfl rfl rfl hs (kk := 4) rfl rfl ?_
                | refine s_storeW Try.sizeOf28 rfl rfl rfl rfl hs (kk := 5) rfl rfl ?_
                | refine s_storeW Try.sizeOf28 rfl rfl rfl rfl hs (kk := 6) rfl rfl ?_
                | refine s_storeW Try.sizeOf28 rfl rfl rfl rfl hs (kk := 7) rfl rfl ?_
                | refine s_storeW Try.sizeOf28 rfl rfl rfl rfl hs (kk := 8) rfl rfl ?_
                | refine s_storeAB Try.sizeOf28 rfl rfl rfl rfl hs (kk := 0) rfl rfl ?_
                | refine s_storeAB Try.sizeOf28 rfl rfl rfl rfl hs (kk := 1) rfl rfl ?_
                | refine s_storeAB Try.sizeOf28 rfl rfl rfl rfl hs (kk := 2) rfl rfl ?_
                | refine s_storeAB Try.sizeOf28 rfl rfl rfl rfl hs (kk := 3) rfl rfl ?_
                | refine s_storeAB Try.sizeOf28 rfl rfl rfl rfl hs (kk := 4) rfl rfl ?_
                | refine s_storeAB Try.sizeOf28 rfl rfl rfl rfl hs (kk := 5) rfl rfl ?_
                | refine s_storeAB Try.sizeOf28 rfl rfl rfl rfl hs (kk := 6) rfl rfl ?_
                | refine s_storeAB Try.sizeOf28 rfl rfl rfl rfl hs (kk := 7) rfl rfl ?_
                | refine s_storeAB Try.sizeOf28 rfl rfl rfl rfl hs (kk := 8) rfl rfl ?_
              clear hs; intro w hs; try simp only [List.set_cons_zero, List.set_cons_succ, splice, List.take_succ_cons, List.take_zero, List.drop_succ_cons, List.drop_zero, List.nil_append, List.cons_append, List.length_cons, List.length_nil, Nat.reduceAdd, List.append_assoc] at hs
              refine WL_nil ?_
              refine n_then ?_
              refine W_seq ?_
              refine W_seq ?_
              refine W_draw [(0, true, []), (1, true, []), (2, true, []), (3, true, []), (4, true, []), (5, true, []), (6, true, []), (7, true, []), (8, true, []), (9, true, []), (10, true, []), (11, true, []), (12, true, []), (13, true, []), (14, true, [])] MX (by kernel_rfl) ?_
              intro w1 hw1 hw2 hw3 hw4; replace hs := hs.redrawn hw1 hw2 hw3 hw4; clear hw1 hw2 hw3 hw4
              obtain ⟨w, rfl⟩ : ∃ w : World, w = w1 := ⟨_, rfl⟩
              refine D_q rfl rfl ?_
              refine s_move rfl rfl ?_
              refine D_qn ?_
              refine D_q rfl rfl ?_
              refine s_move rfl rfl ?_
              refine D_qn ?_
              refine D_q rfl rfl ?_
              refine s_move rfl rfl ?_
              refine D_qn ?_
              refine D_q rfl rfl ?_
              (refine s_indexAddr1 El22 rfl rfl rfl ?hx ?_; case hx => (constructor <;> first | omega | (simp; omega)))
              refine D_qn ?_
              refine D_q rfl rfl ?_
              first
                | refine s_load Try.isAgg3 rfl rfl (hs.cell (k := 0) rfl rfl) ?_
                | refine s_load Try.isAgg3 rfl rfl (hs.cell (k := 1) rfl rfl) ?_
                | refine s_load Try.isAgg3 rfl rfl (hs.cell (k := 2) rfl rfl) ?_
                | refine s_load Try.isAgg3 rfl rfl (hs.cell (k := 3) rfl rfl) ?_
                | refine s_load Try.isAgg3 rfl rfl (hs.cell (k := 4) rfl rfl) ?_
                | refine s_load Try.isAgg3 rfl rfl (hs.cell (k := 5) rfl rfl) ?_
                | refine s_load Try.isAgg3 rfl rfl (hs.cell (k := 6) rfl rfl) ?_
                | refine s_load Try.isAgg3 rfl rfl (hs.cell (k := 7) rfl rfl) ?_
                | refine s_load Try.isAgg3 rfl rfl (hs.cell (k := 8) rfl rfl) ?_
                | refine s_load Try.isAgg3 rfl rfl ((hs.oldcell (a := ⟨b1, o1 + i, none⟩) hB1 (by simp)).trans hc1) ?_
                | refine s_load Try.isAgg3 rfl rfl ((hs.cell (k := 0) rfl (i64s_at (by omega)))) ?_
                | refine s_load Try.isAgg3 rfl rfl ((hs.cell (k := 1) rfl (i64s_at (by omega)))) ?_
                | refine s_load Try.isAgg3 rfl rfl ((hs.cell (k := 2) rfl (i64s_at (by omega)))) ?_
                | refine s_load Try.isAgg3 rfl rfl ((hs.cell (k := 3) rfl (i64s_at (by omega)))) ?_
                | refine s_load Try.isAgg3 rfl rfl ((hs.cell (k := 4) rfl (i64s_at (by omega)))) ?_
                | refine s_load Try.isAgg3 rfl rfl ((hs.cell (k := 5) rfl (i64s_at (by omega)))) ?_
                | refine s_load Try.isAgg3 rfl rfl ((hs.cell (k := 6) rfl (i64s_at (by omega)))) ?_
                | refine s_load Try.isAgg3 rfl rfl ((hs.cell (k := 7) rfl (i64s_at (by omega)))) ?_
                | refine s_load Try.isAgg3 rfl rfl ((hs.cell (k := 8) rfl (i64s_at (by omega)))) ?_
              refine D_qn ?_
              refine D_q rfl rfl ?_
              refine s_lss rfl rfl rfl ?_
              refine D_qn ?_
              refine D_q rfl rfl ?_
              refine s_move rfl rfl ?_
              refine WL_case (s := 122) rfl (fun hg122 => ?_) (fun hg122 => ?_)
              · skip
                try simp only [decide_eq_true_eq, decide_eq_false_iff_not, Bool.not_eq_true', Bool.not_eq_false', bne_iff_ne, bne_eq_false_iff_eq, ne_eq, beq_iff_eq, beq_eq_false_iff_ne] at hg122
                refine D_qn ?_
                refine D_q rfl rfl ?_
                refine WL_take rfl ?_
                refine s_fieldAddr rfl rfl (FA28_1 _ _) ?_
                refine D_qn ?_
                refine D_q rfl rfl ?_
                refine WL_take rfl ?_
                first
                  | refine s_load Try.isAgg3 rfl rfl (hs.cell (k := 0) rfl rfl) ?_
                  | refine s_load Try.isAgg3 rfl rfl (hs.cell (k := 1) rfl rfl) ?_
                  | refine s_load Try.isAgg3 rfl rfl (hs.cell (k := 2) rfl rfl) ?_
                  | refine s_load Try.isAgg3 rfl rfl (hs.cell (k := 3) rfl rfl) ?_
                  | refine s_load Try.isAgg3 rfl rfl (hs.cell (k := 4) rfl rfl) ?_
                  | refine s_load Try.isAgg3 rfl rfl (hs.cell (k := 5) rfl rfl) ?_
                  | refine s_load Try.isAgg3 rfl rfl (hs.cell (k := 6) rfl rfl) ?_
                  | refine s_load Try.isAgg3 rfl rfl (hs.cell (k := 7) rfl rfl) ?_
                  | refine s_load Try.isAgg3 rfl rfl (hs.cell (k := 8) rfl rfl) ?_
                  | refine s_load Try.isAgg3 rfl rfl ((hs.oldcell (a := ⟨b1, o1 + i, none⟩) hB1 (by simp)).trans hc1) ?_
                  | refine s_load Try.isAgg3 rfl rfl ((hs.cell (k := 0) rfl (i64s_at (by omega)))) ?_
                  | refine s_load Try.isAgg3 rfl rfl ((hs.cell (k := 1) rfl (i64s_at (by omega)))) ?_
                  | refine s_load Try.isAgg3 rfl rfl ((hs.cell (k := 2) rfl (i64s_at (by omega)))) ?_
                  | refine s_load Try.isAgg3 rfl rfl ((hs.cell (k := 3) rfl (i64s_at (by omega)))) ?_
                  | refine s_load Try.isAgg3 rfl rfl ((hs.cell (k := 4) rfl (i64s_at (by omega)))) ?_
                  | refine s_load Try.isAgg3 rfl rfl ((hs.cell (k := 5) rfl (i64s_at (by omega)))) ?_
                  | refine s_load Try.isAgg3 rfl rfl ((hs.cell (k := 6) rfl (i64s_at (by omega)))) ?_
                  | refine s_load Try.isAgg3 rfl rfl ((hs.cell (k := 7) rfl (i64s_at (by omega)))) ?_
                  | refine s_load Try.isAgg3 rfl rfl ((hs.cell (k := 8) rfl (i64s_at (by omega)))) ?_
                refine D_qn ?_
                refine D_q rfl rfl ?_
                refine WL_take rfl ?_
                refine s_move rfl rfl ?_
                refine D_qn ?_
                refine D_q rfl rfl ?_
                refine WL_take rfl ?_
                refine s_move rfl rfl ?_
                refine D_qn ?_
                refine D_q rfl rfl ?_
                refine WL_take rfl ?_
                (refine s_indexAddr1 El22 rfl rfl rfl ?hx ?_; case hx => (constructor <;> first | omega | (simp; omega)))
                refine D_qn ?_
                refine D_q rfl rfl ?_
                refine WL_take rfl ?_
                first
                  | refine s_load Try.isAgg3 rfl rfl (hs.cell (k := 0) rfl rfl) ?_
                  | refine s_load Try.isAgg3 rfl rfl (hs.cell (k := 1) rfl rfl) ?_
                  | refine s_load Try.isAgg3 rfl rfl (hs.cell (k := 2) rfl rfl) ?_
                  | refine s_load Try.isAgg3 rfl rfl (hs.cell (k := 3) rfl rfl) ?_
                  | refine s_load Try.isAgg3 rfl rfl (hs.cell (k := 4) rfl rfl) ?_
                  | refine s_load Try.isAgg3 rfl rfl (hs.cell (k := 5) rfl rfl) ?_
                  | refine s_load Try.isAgg3 rfl rfl (hs.cell (k := 6) rfl rfl) ?_
                  | refine s_load Try.isAgg3 rfl rfl (hs.cell (k := 7) rfl rfl) ?_
                  | refine s_load Try.isAgg3 rfl rfl (hs.cell (k := 8) rfl rfl) ?_
                  | refine s_load Try.isAgg3 rfl rfl ((hs.oldcell (a := ⟨b1, o1 + i, none⟩) hB1 (by simp)).trans hc1) ?_
                  | refine s_load Try.isAgg3 rfl rfl ((hs.cell (k := 0) rfl (i64s_at (by omega)))) ?_
                  | refine s_load Try.isAgg3 rfl rfl ((hs.cell (k := 1) rfl (i64s_at (by omega)))) ?_
                  | refine s_load Try.isAgg3 rfl rfl ((hs.cell (k := 2) rfl (i64s_at (by omega)))) ?_
                  | refine s_load Try.isAgg3 rfl rfl ((hs.cell (k := 3) rfl (i64s_at (by omega)))) ?_
                  | refine s_load Try.isAgg3 rfl rfl ((hs.cell (k := 4) rfl (i64s_at (by omega)))) ?_
                  | refine s_load Try.isAgg3 rfl rfl ((hs.cell (k := 5) rfl (i64s_at (by omega)))) ?_
                  | refine s_load Try.isAgg3 rfl rfl ((hs.cell (k := 6) rfl (i64s_at (by omega)))) ?_
                  | refine s_load Try.isAgg3 rfl rfl ((hs.cell (k := 7) rfl (i64s_at (by omega)))) ?_
                  | refine s_load Try.isAgg3 rfl rfl ((hs.cell (k := 8) rfl (i64s_at (by omega)))) ?_
                refine D_qn ?_
                refine D_q rfl rfl ?_
                refine WL_take rfl ?_
                refine s_neq rfl rfl rfl ?_
                refine D_qn ?_
                refine D_q rfl rfl ?_
                refine s_pick_t rfl rfl rfl ?_
                refine D_qn ?_
                refine D_nil ?_
                refine n_then ?_
                refine W_cond_kf rfl ((by simp only [bne_eq_false_iff_eq]; omega)) ?_
                refine W_skip ?_
                refine n_then ?_
                refine W_seq ?_
                refine W_seq ?_
                refine W_region ?_
                refine s_fieldAddr rfl rfl (FA31_0 _ _) ?_
                first
                  | refine s_load Try.isAgg4 rfl rfl (hs.cell (k := 0) rfl rfl) ?_
                  | refine s_load Try.isAgg4 rfl rfl (hs.cell (k := 1) rfl rfl) ?_
                  | refine s_load Try.isAgg4 rfl rfl (hs.cell (k := 2) rfl rfl) ?_
                  | refine s_load Try.isAgg4 rfl rfl (hs.cell (k := 3) rfl rfl) ?_
                  | refine s_load Try.isAgg4 rfl rfl (hs.cell (k := 4) rfl rfl) ?_
                  | refine s_load Try.isAgg4 rfl rfl (hs.cell (k := 5) rfl rfl) ?_
                  | refine s_load Try.isAgg4 rfl rfl (hs.cell (k := 6) rfl rfl) ?_
                  | refine s_load Try.isAgg4 rfl rfl (hs.cell (k := 7) rfl rfl) ?_
                  | refine s_load Try.isAgg4 rfl rfl (hs.cell (k := 8) rfl rfl) ?_
                  | refine s_load Try.isAgg4 rfl rfl ((hs.oldcell (a := ⟨b1, o1 + i, none⟩) hB1 (by simp)).trans hc1) ?_
                  | refine s_load Try.isAgg4 rfl rfl ((hs.cell (k := 0) rfl (i64s_at (by omega)))) ?_
                  | refine s_load Try.isAgg4 rfl rfl ((hs.cell (k := 1) rfl (i64s_at (by omega)))) ?_
                  | refine s_load Try.isAgg4 rfl rfl ((hs.cell (k := 2) rfl (i64s_at (by omega)))) ?_
                  | refine s_load Try.isAgg4 rfl rfl ((hs.cell (k := 3) rfl (i64s_at (by omega)))) ?_
                  | refine s_load Try.isAgg4 rfl rfl ((hs.cell (k := 4) rfl (i64s_at (by omega)))) ?_
                  | refine s_load Try.isAgg4 rfl rfl ((hs.cell (k := 5) rfl (i64s_at (by omega)))) ?_
                  | refine s_load Try.isAgg4 rfl rfl ((hs.cell (k := 6) rfl (i64s_at (by omega)))) ?_
                  | refine s_load Try.isAgg4 rfl rfl ((hs.cell (k := 7) rfl (i64s_at (by omega)))) ?_
                  | refine s_load Try.isAgg4 rfl rfl ((hs.cell (k := 8) rfl (i64s_at (by omega)))) ?_
                refine WL_nil ?_
                refine n_then ?_
                refine W_cond rfl (fun hc132 => ?_) (fun hc132 => ?_)
                · skip
                  try simp only [decide_eq_true_eq, decide_eq_false_iff_not, Bool.not_eq_true', Bool.not_eq_false', bne_iff_ne, bne_eq_false_iff_eq, ne_eq, beq_iff_eq, beq_eq_false_iff_ne] at hc132
                  subst hc132
                  obtain ⟨_, hF2, hR2⟩ := fence_grant hR hr3 hxr ‹_›
                  refine W_seq ?_
                  refine W_seq ?_
                  refine W_draw [(0, true, []), (1, true, []), (2, true, []), (3, true, []), (4, true, []), (5, true, []), (6, true, [])] MX (by kernel_rfl) ?_
                  intro w1 hw1 hw2 hw3 hw4; replace hs := hs.redrawn hw1 hw2 hw3 hw4; clear hw1 hw2 hw3 hw4
                  obtain ⟨w, rfl⟩ : ∃ w : World, w = w1 := ⟨_, rfl⟩
                  refine D_q rfl rfl ?_
                  refine s_fieldAddr rfl rfl (FA28_2 _ _) ?_
                  refine D_qn ?_
                  refine D_q rfl rfl ?_
                  first
                    | refine s_load Try.isAgg3 rfl rfl (hs.cell (k := 0) rfl rfl) ?_
                    | refine s_load Try.isAgg3 rfl rfl (hs.cell (k := 1) rfl rfl) ?_
                    | refine s_load Try.isAgg3 rfl rfl (hs.cell (k := 2) rfl rfl) ?_
                    | refine s_load Try.isAgg3 rfl rfl (hs.cell (k := 3) rfl rfl) ?_
                    | refine s_load Try.isAgg3 rfl rfl (hs.cell (k := 4) rfl rfl) ?_
                    | refine s_load Try.isAgg3 rfl rfl (hs.cell (k := 5) rfl rfl) ?_
                    | refine s_load Try.isAgg3 rfl rfl (hs.cell (k := 6) rfl rfl) ?_
                    | refine s_load Try.isAgg3 rfl rfl (hs.cell (k := 7) rfl rfl) ?_
                    | refine s_load Try.isAgg3 rfl rfl (hs.cell (k := 8) rfl rfl) ?_
                    | refine s_load Try.isAgg3 rfl rfl ((hs.oldcell (a := ⟨b1, o1 + i, none⟩) hB1 (by simp)).trans hc1) ?_
                    | refine s_load Try.isAgg3 rfl rfl ((hs.cell (k := 0) rfl (i64s_at (by omega)))) ?_
                    | refine s_load Try.isAgg3 rfl rfl ((hs.cell (k := 1) rfl (i64s_at (by omega)))) ?_
                    | refine s_load Try.isAgg3 rfl rfl ((hs.cell (k := 2) rfl (i64s_at (by omega)))) ?_
                    | refine s_load Try.isAgg3 rfl rfl ((hs.cell (k := 3) rfl (i64s_at (by omega)))) ?_
                    | refine s_load Try.isAgg3 rfl rfl ((hs.cell (k := 4) rfl (i64s_at (by omega)))) ?_
                    | refine s_load Try.isAgg3 rfl rfl ((hs.cell (k := 5) rfl (i64s_at (by omega)))) ?_
                    | refine s_load Try.isAgg3 rfl rfl ((hs.cell (k := 6) rfl (i64s_at (by omega)))) ?_
                    | refine s_load Try.isAgg3 rfl rfl ((hs.cell (k := 7) rfl (i64s_at (by omega)))) ?_
                    | refine s_load Try.isAgg3 rfl rfl ((hs.cell (k := 8) rfl (i64s_at (by omega)))) ?_
                  refine D_qn ?_
                  refine D_q rfl rfl ?_
                  refine s_move rfl rfl ?_
                  refine D_qn ?_
                  refine D_q rfl rfl ?_
                  refine s_move rfl rfl ?_
                  refine D_qn ?_
                  refine D_q rfl rfl ?_
                  (refine s_indexAddr1 El22 rfl rfl rfl ?hx ?_; case hx => (constructor <;> first | omega | (simp; omega)))
                  refine D_qn ?_
                  refine D_q rfl rfl ?_
                  first
                    | refine s_load Try.isAgg3 rfl rfl (hs.cell (k := 0) rfl rfl) ?_
                    | refine s_load Try.isAgg3 rfl rfl (hs.cell (k := 1) rfl rfl) ?_
                    | refine s_load Try.isAgg3 rfl rfl (hs.cell (k := 2) rfl rfl) ?_
                    | refine s_load Try.isAgg3 rfl rfl (hs.cell (k := 3) rfl rfl) ?_
                    | refine s_load Try.isAgg3 rfl rfl (hs.cell (k := 4) rfl rfl) ?_
                    | refine s_load Try.isAgg3 rfl rfl (hs.cell (k := 5) rfl rfl) ?_
                    | refine s_load Try.isAgg3 rfl rfl (hs.cell (k := 6) rfl rfl) ?_
                    | refine s_load Try.isAgg3 rfl rfl (hs.cell (k := 7) rfl rfl) ?_
                    | refine s_load Try.isAgg3 rfl rfl (hs.cell (k := 8) rfl rfl) ?_
                    | refine s_load Try.isAgg3 rfl rfl ((hs.oldcell (a := ⟨b1, o1 + i, none⟩) hB1 (by simp)).trans hc1) ?_
                    | refine s_load Try.isAgg3 rfl rfl ((hs.cell (k := 0) rfl (i64s_at (by omega)))) ?_
                    | refine s_load Try.isAgg3 rfl rfl ((hs.cell (k := 1) rfl (i64s_at (by omega)))) ?_
                    | refine s_load Try.isAgg3 rfl rfl ((hs.cell (k := 2) rfl (i64s_at (by omega)))) ?_
                    | refine s_load Try.isAgg3 rfl rfl ((hs.cell (k := 3) rfl (i64s_at (by omega)))) ?_
                    | refine s_load Try.isAgg3 rfl rfl ((hs.cell (k := 4) rfl (i64s_at (by omega)))) ?_
                    | refine s_load Try.isAgg3 rfl rfl ((hs.cell (k := 5) rfl (i64s_at (by omega)))) ?_
                    | refine s_load Try.isAgg3 rfl rfl ((hs.cell (k := 6) rfl (i64s_at (by omega)))) ?_
                    | refine s_load Try.isAgg3 rfl rfl ((hs.cell (k := 7) rfl (i64s_at (by omega)))) ?_
                    | refine s_load Try.isAgg3 rfl rfl ((hs.cell (k := 8) rfl (i64s_at (by omega)))) ?_
                  refine D_qn ?_
                  refine D_q rfl rfl ?_
                  refine s_leq rfl rfl rfl ?_
                  refine D_qn ?_
                  refine D_nil ?_
                  refine n_then ?_
                  refine W_cond_kf rfl ((decide_eq_false hF2)) ?_
                  refine W_skip ?_
                  refine n_then ?_
                  refine W_seq ?_
                  refine W_region ?_
                  refine s_move rfl rfl ?_
                  refine s_move rfl rfl ?_
                  refine s_fieldAddr rfl rfl (FA28_2 _ _) ?_
                  first
                    | refine s_load Try.isAgg3 rfl rfl (hs.cell (k := 0) rfl rfl) ?_
                    | refine s_load Try.isAgg3 rfl rfl (hs.cell (k := 1) rfl rfl) ?_
                    | refine s_load Try.isAgg3 rfl rfl (hs.cell (k := 2) rfl rfl) ?_
                    | refine s_load Try.isAgg3 rfl rfl (hs.cell (k := 3) rfl rfl) ?_
                    | refine s_load Try.isAgg3 rfl rfl (hs.cell (k := 4) rfl rfl) ?_
                    | refine s_load Try.isAgg3 rfl rfl (hs.cell (k := 5) rfl rfl) ?_
                    | refine s_load Try.isAgg3 rfl rfl (hs.cell (k := 6) rfl rfl) ?_
                    | refine s_load Try.isAgg3 rfl rfl (hs.cell (k := 7) rfl rfl) ?_
                    | refine s_load Try.isAgg3 rfl rfl (hs.cell (k := 8) rfl rfl) ?_
                    | refine s_load Try.isAgg3 rfl rfl ((hs.oldcell (a := ⟨b1, o1 + i, none⟩) hB1 (by simp)).trans hc1) ?_
                    | refine s_load Try.isAgg3 rfl rfl ((hs.cell (k := 0) rfl (i64s_at (by omega)))) ?_
                    | refine s_load Try.isAgg3 rfl rfl ((hs.cell (k := 1) rfl (i64s_at (by omega)))) ?_
                    | refine s_load Try.isAgg3 rfl rfl ((hs.cell (k := 2) rfl (i64s_at (by omega)))) ?_
                    | refine s_load Try.isAgg3 rfl rfl ((hs.cell (k := 3) rfl (i64s_at (by omega)))) ?_
                    | refine s_load Try.isAgg3 rfl rfl ((hs.cell (k := 4) rfl (i64s_at (by omega)))) ?_
                    | refine s_load Try.isAgg3 rfl rfl ((hs.cell (k := 5) rfl (i64s_at (by omega)))) ?_
                    | refine s_load Try.isAgg3 rfl rfl ((hs.cell (k := 6) rfl (i64s_at (by omega)))) ?_
                    | refine s_load Try.isAgg3 rfl rfl ((hs.cell (k := 7) rfl (i64s_at (by omega)))) ?_
                    | refine s_load Try.isAgg3 rfl rfl ((hs.cell (k := 8) rfl (i64s_at (by omega)))) ?_
                  (refine s_indexAddr1 El22 rfl rfl rfl ?hx ?_; case hx => (constructor <;> first | omega | (simp; omega)))
                  refine s_store Try.sizeOf3 rfl rfl rfl hs (kk := 6) rfl (by simp; omega) ?_
                  clear hs; intro w hs
                  rw [i64s_set] at hs
                  simp only [List.set_cons_zero, List.set_cons_succ] at hs
                  refine WL_nil ?_
                  refine n_then ?_
                  refine W_seq ?_
                  refine W_region ?_
                  refine s_move rfl rfl ?_
                  refine s_move rfl rfl ?_
                  refine s_fieldAddr rfl rfl (FA28_1 _ _) ?_
                  first
                    | refine s_load Try.isAgg3 rfl rfl (hs.cell (k := 0) rfl rfl) ?_
                    | refine s_load Try.isAgg3 rfl rfl (hs.cell (k := 1) rfl rfl) ?_
                    | refine s_load Try.isAgg3 rfl rfl (hs.cell (k := 2) rfl rfl) ?_
                    | refine s_load Try.isAgg3 rfl rfl (hs.cell (k := 3) rfl rfl) ?_
                    | refine s_load Try.isAgg3 rfl rfl (hs.cell (k := 4) rfl rfl) ?_
                    | refine s_load Try.isAgg3 rfl rfl (hs.cell (k := 5) rfl rfl) ?_
                    | refine s_load Try.isAgg3 rfl rfl (hs.cell (k := 6) rfl rfl) ?_
                    | refine s_load Try.isAgg3 rfl rfl (hs.cell (k := 7) rfl rfl) ?_
                    | refine s_load Try.isAgg3 rfl rfl (hs.cell (k := 8) rfl rfl) ?_
                    | refine s_load Try.isAgg3 rfl rfl ((hs.oldcell (a := ⟨b1, o1 + i, none⟩) hB1 (by simp)).trans hc1) ?_
                    | refine s_load Try.isAgg3 rfl rfl ((hs.cell (k := 0) rfl (i64s_at (by omega)))) ?_
                    | refine s_load Try.isAgg3 rfl rfl ((hs.cell (k := 1) rfl (i64s_at (by omega)))) ?_
                    | refine s_load Try.isAgg3 rfl rfl ((hs.cell (k := 2) rfl (i64s_at (by omega)))) ?_
                    | refine s_load Try.isAgg3 rfl rfl ((hs.cell (k := 3) rfl (i64s_at (by omega)))) ?_
                    | refine s_load Try.isAgg3 rfl rfl ((hs.cell (k := 4) rfl (i64s_at (by omega)))) ?_
                    | refine s_load Try.isAgg3 rfl rfl ((hs.cell (k := 5) rfl (i64s_at (by omega)))) ?_
                    | refine s_load Try.isAgg3 rfl rfl ((hs.cell (k := 6) rfl (i64s_at (by omega)))) ?_
                    | refine s_load Try.isAgg3 rfl rfl ((hs.cell (k := 7) rfl (i64s_at (by omega)))) ?_
                    | refine s_load Try.isAgg3 rfl rfl ((hs.cell (k := 8) rfl (i64s_at (by omega)))) ?_
                  (refine s_indexAddr1 El22 rfl rfl rfl ?hx ?_; case hx => (constructor <;> first | omega | (simp; omega)))
                  refine s_store Try.sizeOf3 rfl rfl rfl hs (kk := 4) rfl (by simp; omega) ?_
                  clear hs; intro w hs
                  rw [i64s_set] at hs
                  simp only [List.set_cons_zero, List.set_cons_succ] at hs
                  refine WL_nil ?_
                  refine n_then ?_
                  refine W_seq ?_
                  refine W_region ?_
                  refine s_move rfl rfl ?_
                  refine s_move rfl rfl ?_
                  refine s_fieldAddr rfl rfl (FA28_3 _ _) ?_
                  first
                    | refine s_load Try.isAgg3 rfl rfl (hs.cell (k := 0) rfl rfl) ?_
                    | refine s_load Try.isAgg3 rfl rfl (hs.cell (k := 1) rfl rfl) ?_
                    | refine s_load Try.isAgg3 rfl rfl (hs.cell (k := 2) rfl rfl) ?_
                    | refine s_load Try.isAgg3 rfl rfl (hs.cell (k := 3) rfl rfl) ?_
                    | refine s_load Try.isAgg3 rfl rfl (hs.cell (k := 4) rfl rfl) ?_
                    | refine s_load Try.isAgg3 rfl rfl (hs.cell (k := 5) rfl rfl) ?_
                    | refine s_load Try.isAgg3 rfl rfl (hs.cell (k := 6) rfl rfl) ?_
                    | refine s_load Try.isAgg3 rfl rfl (hs.cell (k := 7) rfl rfl) ?_
                    | refine s_load Try.isAgg3 rfl rfl (hs.cell (k := 8) rfl rfl) ?_
                    | refine s_load Try.isAgg3 rfl rfl ((hs.oldcell (a := ⟨b1, o1 + i, none⟩) hB1 (by simp)).trans hc1) ?_
                    | refine s_load Try.isAgg3 rfl rfl ((hs.cell (k := 0) rfl (i64s_at (by omega)))) ?_
                    | refine s_load Try.isAgg3 rfl rfl ((hs.cell (k := 1) rfl (i64s_at (by omega)))) ?_
                    | refine s_load Try.isAgg3 rfl rfl ((hs.cell (k := 2) rfl (i64s_at (by omega)))) ?_
                    | refine s_load Try.isAgg3 rfl rfl ((hs.cell (k := 3) rfl (i64s_at (by omega)))) ?_
                    | refine s_load Try.isAgg3 rfl rfl ((hs.cell (k := 4) rfl (i64s_at (by omega)))) ?_
                    | refine s_load Try.isAgg3 rfl rfl ((hs.cell (k := 5) rfl (i64s_at (by omega)))) ?_
                    | refine s_load Try.isAgg3 rfl rfl ((hs.cell (k := 6) rfl (i64s_at (by omega)))) ?_
                    | refine s_load Try.isAgg3 rfl rfl ((hs.cell (k := 7) rfl (i64s_at (by omega)))) ?_
                    | refine s_load Try.isAgg3 rfl rfl ((hs.cell (k := 8) rfl (i64s_at (by omega)))) ?_
                  (refine s_indexAddr1 El22 rfl rfl rfl ?hx ?_; case hx => (constructor <;> first | omega | (simp; omega)))
                  refine s_store Try.sizeOf3 rfl rfl rfl hs (kk := 3) rfl (by simp; omega) ?_
                  clear hs; intro w hs
                  rw [i64s_set] at hs
                  simp only [List.set_cons_zero, List.set_cons_succ] at hs
                  refine WL_nil ?_
                  refine n_then ?_
                  refine W_exit ?_
                  refine x_then ?_
                  refine exit_hit ?_
                  refine n_then ?_
                  refine W_region ?_
                  refine s_move rfl rfl ?_
                  first | (refine s_add' rfl rfl rfl ?hx ?_; case hx => (constructor <;> first | omega | (simp only; omega))) | refine s_add rfl rfl rfl ?_
                  refine s_assign rfl rfl ?_
                  refine WL_nil ?_
                  refine n_loop ?_
                  first
                    | exact ⟨⟨i + 1, tick + stp, _, cs', G, T, H, U, LT3⟩, ⟨rfl, rfl, rfl, rfl, rfl, rfl, rfl, rfl, rfl, rfl, trivial⟩, ⟨St.left (M := Lm) (by simpa using hs.tail), hT', fence_none hR ‹_›, by simp only; omega, by simp only; omega, by simp only; omega, by simp only; omega, by simp only; omega⟩, by simp only; omega⟩
                    | exact ⟨⟨i + 1, tick + stp, _, cs', _, _, _, _, LT3⟩, ⟨rfl, rfl, rfl, rfl, rfl, rfl, rfl, rfl, rfl, rfl, trivial⟩, ⟨St.left (M := Lm) (by simpa using hs.tail.tail), hT', hR2, by simp only; omega, by simp only; omega, by simp only; omega, by simp only; omega, by simp only; omega⟩, by simp only; omega⟩
                · skip
                  try simp only [decide_eq_true_eq, decide_eq_false_iff_not, Bool.not_eq_true', Bool.not_eq_false', bne_iff_ne, bne_eq_false_iff_eq, ne_eq, beq_iff_eq, beq_eq_false_iff_ne] at hc132
                  subst hc132
                  obtain ⟨_, hF2, hF3, hF4, hR2⟩ := fence_cmd hR hr3 hxr ‹_›
                  refine W_skip ?_
                  refine n_then ?_
                  refine W_seq ?_
                  refine W_seq ?_
                  refine W_draw [(0, true, []), (1, true, []), (2, true, []), (3, true, []), (4, true, []), (5, true, []), (6, true, []), (7, true, []), (8, true, []), (9, true, []), (10, true, []), (11, true, []), (12, true, []), (13, true, []), (14, true, []), (15, true, []), (16, true, []), (17, true, []), (18, true, []), (19, true, []), (20, true, []), (21, true, []), (22, true, []), (23, true, [])] MX (by kernel_rfl) ?_
                  intro w1 hw1 hw2 hw3 hw4; replace hs := hs.redrawn hw1 hw2 hw3 hw4; clear hw1 hw2 hw3 hw4
                  obtain ⟨w, rfl⟩ : ∃ w : World, w = w1 := ⟨_, rfl⟩
                  refine D_q rfl rfl ?_
                  refine s_fieldAddr rfl rfl (FA28_2 _ _) ?_
                  refine D_qn ?_
                  refine D_q rfl rfl ?_
                  first
                    | refine s_load Try.isAgg3 rfl rfl (hs.cell (k := 0) rfl rfl) ?_
                    | refine s_load Try.isAgg3 rfl rfl (hs.cell (k := 1) rfl rfl) ?_
                    | refine s_load Try.isAgg3 rfl rfl (hs.cell (k := 2) rfl rfl) ?_
                    | refine s_load Try.isAgg3 rfl rfl (hs.cell (k := 3) rfl rfl) ?_
                    | refine s_load Try.isAgg3 rfl rfl (hs.cell (k := 4) rfl rfl) ?_
                    | refine s_load Try.isAgg3 rfl rfl (hs.cell (k := 5) rfl rfl) ?_
                    | refine s_load Try.isAgg3 rfl rfl (hs.cell (k := 6) rfl rfl) ?_
                    | refine s_load Try.isAgg3 rfl rfl (hs.cell (k := 7) rfl rfl) ?_
                    | refine s_load Try.isAgg3 rfl rfl (hs.cell (k := 8) rfl rfl) ?_
                    | refine s_load Try.isAgg3 rfl rfl ((hs.oldcell (a := ⟨b1, o1 + i, none⟩) hB1 (by simp)).trans hc1) ?_
                    | refine s_load Try.isAgg3 rfl rfl ((hs.cell (k := 0) rfl (i64s_at (by omega)))) ?_
                    | refine s_load Try.isAgg3 rfl rfl ((hs.cell (k := 1) rfl (i64s_at (by omega)))) ?_
                    | refine s_load Try.isAgg3 rfl rfl ((hs.cell (k := 2) rfl (i64s_at (by omega)))) ?_
                    | refine s_load Try.isAgg3 rfl rfl ((hs.cell (k := 3) rfl (i64s_at (by omega)))) ?_
                    | refine s_load Try.isAgg3 rfl rfl ((hs.cell (k := 4) rfl (i64s_at (by omega)))) ?_
                    | refine s_load Try.isAgg3 rfl rfl ((hs.cell (k := 5) rfl (i64s_at (by omega)))) ?_
                    | refine s_load Try.isAgg3 rfl rfl ((hs.cell (k := 6) rfl (i64s_at (by omega)))) ?_
                    | refine s_load Try.isAgg3 rfl rfl ((hs.cell (k := 7) rfl (i64s_at (by omega)))) ?_
                    | refine s_load Try.isAgg3 rfl rfl ((hs.cell (k := 8) rfl (i64s_at (by omega)))) ?_
                  refine D_qn ?_
                  refine D_q rfl rfl ?_
                  refine s_move rfl rfl ?_
                  refine D_qn ?_
                  refine D_q rfl rfl ?_
                  refine s_move rfl rfl ?_
                  refine D_qn ?_
                  refine D_q rfl rfl ?_
                  (refine s_indexAddr1 El22 rfl rfl rfl ?hx ?_; case hx => (constructor <;> first | omega | (simp; omega)))
                  refine D_qn ?_
                  refine D_q rfl rfl ?_
                  first
                    | refine s_load Try.isAgg3 rfl rfl (hs.cell (k := 0) rfl rfl) ?_
                    | refine s_load Try.isAgg3 rfl rfl (hs.cell (k := 1) rfl rfl) ?_
                    | refine s_load Try.isAgg3 rfl rfl (hs.cell (k := 2) rfl rfl) ?_
                    | refine s_load Try.isAgg3 rfl rfl (hs.cell (k := 3) rfl rfl) ?_
                    | refine s_load Try.isAgg3 rfl rfl (hs.cell (k := 4) rfl rfl) ?_
                    | refine s_load Try.isAgg3 rfl rfl (hs.cell (k := 5) rfl rfl) ?_
                    | refine s_load Try.isAgg3 rfl rfl (hs.cell (k := 6) rfl rfl) ?_
                    | refine s_load Try.isAgg3 rfl rfl (hs.cell (k := 7) rfl rfl) ?_
                    | refine s_load Try.isAgg3 rfl rfl (hs.cell (k := 8) rfl rfl) ?_
                    | refine s_load Try.isAgg3 rfl rfl ((hs.oldcell (a := ⟨b1, o1 + i, none⟩) hB1 (by simp)).trans hc1) ?_
                    | refine s_load Try.isAgg3 rfl rfl ((hs.cell (k := 0) rfl (i64s_at (by omega)))) ?_
                    | refine s_load Try.isAgg3 rfl rfl ((hs.cell (k := 1) rfl (i64s_at (by omega)))) ?_
                    | refine s_load Try.isAgg3 rfl rfl ((hs.cell (k := 2) rfl (i64s_at (by omega)))) ?_
                    | refine s_load Try.isAgg3 rfl rfl ((hs.cell (k := 3) rfl (i64s_at (by omega)))) ?_
                    | refine s_load Try.isAgg3 rfl rfl ((hs.cell (k := 4) rfl (i64s_at (by omega)))) ?_
                    | refine s_load Try.isAgg3 rfl rfl ((hs.cell (k := 5) rfl (i64s_at (by omega)))) ?_
                    | refine s_load Try.isAgg3 rfl rfl ((hs.cell (k := 6) rfl (i64s_at (by omega)))) ?_
                    | refine s_load Try.isAgg3 rfl rfl ((hs.cell (k := 7) rfl (i64s_at (by omega)))) ?_
                    | refine s_load Try.isAgg3 rfl rfl ((hs.cell (k := 8) rfl (i64s_at (by omega)))) ?_
                  refine D_qn ?_
                  refine D_q rfl rfl ?_
                  refine s_lss rfl rfl rfl ?_
                  refine D_qn ?_
                  refine D_q rfl rfl ?_
                  refine s_move rfl rfl ?_
                  refine WL_know (s := 162) (c := false) rfl ((decide_eq_false hF2)) ?_
                  refine D_qn ?_
                  refine D_q rfl rfl ?_
                  refine WL_take rfl ?_
                  refine s_fieldAddr rfl rfl (FA28_2 _ _) ?_
                  refine D_qn ?_
                  refine D_q rfl rfl ?_
                  refine WL_take rfl ?_
                  first
                    | refine s_load Try.isAgg3 rfl rfl (hs.cell (k := 0) rfl rfl) ?_
                    | refine s_load Try.isAgg3 rfl rfl (hs.cell (k := 1) rfl rfl) ?_
                    | refine s_load Try.isAgg3 rfl rfl (hs.cell (k := 2) rfl rfl) ?_
                    | refine s_load Try.isAgg3 rfl rfl (hs.cell (k := 3) rfl rfl) ?_
                    | refine s_load Try.isAgg3 rfl rfl (hs.cell (k := 4) rfl rfl) ?_
                    | refine s_load Try.isAgg3 rfl rfl (hs.cell (k := 5) rfl rfl) ?_
                    | refine s_load Try.isAgg3 rfl rfl (hs.cell (k := 6) rfl rfl) ?_
                    | refine s_load Try.isAgg3 rfl rfl (hs.cell (k := 7) rfl rfl) ?_
                    | refine s_load Try.isAgg3 rfl rfl (hs.cell (k := 8) rfl rfl) ?_
                    | refine s_load Try.isAgg3 rfl rfl ((hs.oldcell (a := ⟨b1, o1 + i, none⟩) hB1 (by simp)).trans hc1) ?_
                    | refine s_load Try.isAgg3 rfl rfl ((hs.cell (k := 0) rfl (i64s_at (by omega)))) ?_
                    | refine s_load Try.isAgg3 rfl rfl ((hs.cell (k := 1) rfl (i64s_at (by omega)))) ?_
                    | refine s_load Try.isAgg3 rfl rfl ((hs.cell (k := 2) rfl (i64s_at (by omega)))) ?_
                    | refine s_load Try.isAgg3 rfl rfl ((hs.cell (k := 3) rfl (i64s_at (by omega)))) ?_
                    | refine s_load Try.isAgg3 rfl rfl ((hs.cell (k := 4) rfl (i64s_at (by omega)))) ?_
                    | refine s_load Try.isAgg3 rfl rfl ((hs.cell (k := 5) rfl (i64s_at (by omega)))) ?_
                    | refine s_load Try.isAgg3 rfl rfl ((hs.cell (k := 6) rfl (i64s_at (by omega)))) ?_
                    | refine s_load Try.isAgg3 rfl rfl ((hs.cell (k := 7) rfl (i64s_at (by omega)))) ?_
                    | refine s_load Try.isAgg3 rfl rfl ((hs.cell (k := 8) rfl (i64s_at (by omega)))) ?_
                  refine D_qn ?_
                  refine D_q rfl rfl ?_
                  refine WL_take rfl ?_
                  refine s_move rfl rfl ?_
                  refine D_qn ?_
                  refine D_q rfl rfl ?_
                  refine WL_take rfl ?_
                  refine s_move rfl rfl ?_
                  refine D_qn ?_
                  refine D_q rfl rfl ?_
                  refine WL_take rfl ?_
                  (refine s_indexAddr1 El22 rfl rfl rfl ?hx ?_; case hx => (constructor <;> first | omega | (simp; omega)))
                  refine D_qn ?_
                  refine D_q rfl rfl ?_
                  refine WL_take rfl ?_
                  first
                    | refine s_load Try.isAgg3 rfl rfl (hs.cell (k := 0) rfl rfl) ?_
                    | refine s_load Try.isAgg3 rfl rfl (hs.cell (k := 1) rfl rfl) ?_
                    | refine s_load Try.isAgg3 rfl rfl (hs.cell (k := 2) rfl rfl) ?_
                    | refine s_load Try.isAgg3 rfl rfl (hs.cell (k := 3) rfl rfl) ?_
                    | refine s_load Try.isAgg3 rfl rfl (hs.cell (k := 4) rfl rfl) ?_
                    | refine s_load Try.isAgg3 rfl rfl (hs.cell (k := 5) rfl rfl) ?_
                    | refine s_load Try.isAgg3 rfl rfl (hs.cell (k := 6) rfl rfl) ?_
                    | refine s_load Try.isAgg3 rfl rfl (hs.cell (k := 7) rfl rfl) ?_
                    | refine s_load Try.isAgg3 rfl rfl (hs.cell (k := 8) rfl rfl) ?_
                    | refine s_load Try.isAgg3 rfl rfl ((hs.oldcell (a := ⟨b1, o1 + i, none⟩) hB1 (by simp)).trans hc1) ?_
                    | refine s_load Try.isAgg3 rfl rfl ((hs.cell (k := 0) rfl (i64s_at (by omega)))) ?_
                    | refine s_load Try.isAgg3 rfl rfl ((hs.cell (k := 1) rfl (i64s_at (by omega)))) ?_
                    | refine s_load Try.isAgg3 rfl rfl ((hs.cell (k := 2) rfl (i64s_at (by omega)))) ?_
                    | refine s_load Try.isAgg3 rfl rfl ((hs.cell (k := 3) rfl (i64s_at (by omega)))) ?_
                    | refine s_load Try.isAgg3 rfl rfl ((hs.cell (k := 4) rfl (i64s_at (by omega)))) ?_
                    | refine s_load Try.isAgg3 rfl rfl ((hs.cell (k := 5) rfl (i64s_at (by omega)))) ?_
                    | refine s_load Try.isAgg3 rfl rfl ((hs.cell (k := 6) rfl (i64s_at (by omega)))) ?_
                    | refine s_load Try.isAgg3 rfl rfl ((hs.cell (k := 7) rfl (i64s_at (by omega)))) ?_
                    | refine s_load Try.isAgg3 rfl rfl ((hs.cell (k := 8) rfl (i64s_at (by omega)))) ?_
                  refine D_qn ?_
                  refine D_q rfl rfl ?_
                  refine WL_take rfl ?_
                  refine s_lss rfl rfl rfl ?_
                  refine D_qn ?_
                  refine D_q rfl rfl ?_
                  refine s_pick_f rfl rfl rfl ?_
                  refine D_qn ?_
                  refine D_q rfl rfl ?_
                  refine s_move rfl rfl ?_
                  refine WL_know (s := 171) (c := false) rfl ((decide_eq_false hF3)) ?_
                  refine D_qn ?_
                  refine D_q rfl rfl ?_
                  refine WL_take rfl ?_
                  refine s_move rfl rfl ?_
                  refine D_qn ?_
                  refine D_q rfl rfl ?_
                  refine WL_take rfl ?_
                  refine s_move rfl rfl ?_
                  refine D_qn ?_
                  refine D_q rfl rfl ?_
                  refine WL_take rfl ?_
                  refine s_move rfl rfl ?_
                  refine D_qn ?_
                  refine D_q rfl rfl ?_
                  refine WL_take rfl ?_
                  (refine s_indexAddr1 El22 rfl rfl rfl ?hx ?_; case hx => (constructor <;> first | omega | (simp; omega)))
                  refine D_qn ?_
                  refine D_q rfl rfl ?_
                  refine WL_take rfl ?_
                  first
                    | refine s_load Try.isAgg3 rfl rfl (hs.cell (k := 0) rfl rfl) ?_
                    | refine s_load Try.isAgg3 rfl rfl (hs.cell (k := 1) rfl rfl) ?_
                    | refine s_load Try.isAgg3 rfl rfl (hs.cell (k := 2) rfl rfl) ?_
                    | refine s_load Try.isAgg3 rfl rfl (hs.cell (k := 3) rfl rfl) ?_
                    | refine s_load Try.isAgg3 rfl rfl (hs.cell (k := 4) rfl rfl) ?_
                    | refine s_load Try.isAgg3 rfl rfl (hs.cell (k := 5) rfl rfl) ?_
                    | refine s_load Try.isAgg3 rfl rfl (hs.cell (k := 6) rfl rfl) ?_
                    | refine s_load Try.isAgg3 rfl rfl (hs.cell (k := 7) rfl rfl) ?_
                    | refine s_load Try.isAgg3 rfl rfl (hs.cell (k := 8) rfl rfl) ?_
                    | refine s_load Try.isAgg3 rfl rfl ((hs.oldcell (a := ⟨b1, o1 + i, none⟩) hB1 (by simp)).trans hc1) ?_
                    | refine s_load Try.isAgg3 rfl rfl ((hs.cell (k := 0) rfl (i64s_at (by omega)))) ?_
                    | refine s_load Try.isAgg3 rfl rfl ((hs.cell (k := 1) rfl (i64s_at (by omega)))) ?_
                    | refine s_load Try.isAgg3 rfl rfl ((hs.cell (k := 2) rfl (i64s_at (by omega)))) ?_
                    | refine s_load Try.isAgg3 rfl rfl ((hs.cell (k := 3) rfl (i64s_at (by omega)))) ?_
                    | refine s_load Try.isAgg3 rfl rfl ((hs.cell (k := 4) rfl (i64s_at (by omega)))) ?_
                    | refine s_load Try.isAgg3 rfl rfl ((hs.cell (k := 5) rfl (i64s_at (by omega)))) ?_
                    | refine s_load Try.isAgg3 rfl rfl ((hs.cell (k := 6) rfl (i64s_at (by omega)))) ?_
                    | refine s_load Try.isAgg3 rfl rfl ((hs.cell (k := 7) rfl (i64s_at (by omega)))) ?_
                    | refine s_load Try.isAgg3 rfl rfl ((hs.cell (k := 8) rfl (i64s_at (by omega)))) ?_
                  refine D_qn ?_
                  refine D_q rfl rfl ?_
                  refine WL_take rfl ?_
                  refine s_geq rfl rfl rfl ?_
                  refine D_qn ?_
                  refine D_q rfl rfl ?_
                  refine s_pick_f rfl rfl rfl ?_
                  refine D_qn ?_
                  refine D_nil ?_
                  refine n_then ?_
                  refine W_cond_kf rfl ((decide_eq_false hF4)) ?_
                  refine W_skip ?_
                  refine n_then ?_
                  refine W_region ?_
                  refine s_move rfl rfl ?_
                  refine s_move rfl rfl ?_
                  refine s_fieldAddr rfl rfl (FA28_2 _ _) ?_
                  first
                    | refine s_load Try.isAgg3 rfl rfl (hs.cell (k := 0) rfl rfl) ?_
                    | refine s_load Try.isAgg3 rfl rfl (hs.cell (k := 1) rfl rfl) ?_
                    | refine s_load Try.isAgg3 rfl rfl (hs.cell (k := 2) rfl rfl) ?_
                    | refine s_load Try.isAgg3 rfl rfl (hs.cell (k := 3) rfl rfl) ?_
                    | refine s_load Try.isAgg3 rfl rfl (hs.cell (k := 4) rfl rfl) ?_
                    | refine s_load Try.isAgg3 rfl rfl (hs.cell (k := 5) rfl rfl) ?_
                    | refine s_load Try.isAgg3 rfl rfl (hs.cell (k := 6) rfl rfl) ?_
                    | refine s_load Try.isAgg3 rfl rfl (hs.cell (k := 7) rfl rfl) ?_
                    | refine s_load Try.isAgg3 rfl rfl (hs.cell (k := 8) rfl rfl) ?_
                    | refine s_load Try.isAgg3 rfl rfl ((hs.oldcell (a := ⟨b1, o1 + i, none⟩) hB1 (by simp)).trans hc1) ?_
                    | refine s_load Try.isAgg3 rfl rfl ((hs.cell (k := 0) rfl (i64s_at (by omega)))) ?_
                    | refine s_load Try.isAgg3 rfl rfl ((hs.cell (k := 1) rfl (i64s_at (by omega)))) ?_
                    | refine s_load Try.isAgg3 rfl rfl ((hs.cell (k := 2) rfl (i64s_at (by omega)))) ?_
                    | refine s_load Try.isAgg3 rfl rfl ((hs.cell (k := 3) rfl (i64s_at (by omega)))) ?_
                    | refine s_load Try.isAgg3 rfl rfl ((hs.cell (k := 4) rfl (i64s_at (by omega)))) ?_
                    | refine s_load Try.isAgg3 rfl rfl ((hs.cell (k := 5) rfl (i64s_at (by omega)))) ?_
                    | refine s_load Try.isAgg3 rfl rfl ((hs.cell (k := 6) rfl (i64s_at (by omega)))) ?_
                    | refine s_load Try.isAgg3 rfl rfl ((hs.cell (k := 7) rfl (i64s_at (by omega)))) ?_
                    | refine s_load Try.isAgg3 rfl rfl ((hs.cell (k := 8) rfl (i64s_at (by omega)))) ?_
                  (refine s_indexAddr1 El22 rfl rfl rfl ?hx ?_; case hx => (constructor <;> first | omega | (simp; omega)))
                  refine s_store Try.sizeOf3 rfl rfl rfl hs (kk := 5) rfl (by simp; omega) ?_
                  clear hs; intro w hs
                  rw [i64s_set] at hs
                  simp only [List.set_cons_zero, List.set_cons_succ] at hs
                  refine WL_nil ?_
                  refine n_blk ?_
                  refine n_then ?_
                  refine W_region ?_
                  refine s_move rfl rfl ?_
                  first | (refine s_add' rfl rfl rfl ?hx ?_; case hx => (constructor <;> first | omega | (simp only; omega))) | refine s_add rfl rfl rfl ?_
                  refine s_assign rfl rfl ?_
                  refine WL_nil ?_
                  refine n_loop ?_
                  first
                    | exact ⟨⟨i + 1, tick + stp, _, cs', G, T, H, U, LT3⟩, ⟨rfl, rfl, rfl, rfl, rfl, rfl, rfl, rfl, rfl, rfl, trivial⟩, ⟨St.left (M := Lm) (by simpa using hs.tail), hT', fence_none hR ‹_›, by simp only; omega, by simp only; omega, by simp only; omega, by simp only; omega, by simp only; omega⟩, by simp only; omega⟩
                    | exact ⟨⟨i + 1, tick + stp, _, cs', _, _, _, _, LT3⟩, ⟨rfl, rfl, rfl, rfl, rfl, rfl, rfl, rfl, rfl, rfl, trivial⟩, ⟨St.left (M := Lm) (by simpa using hs.tail.tail), hT', hR2, by simp only; omega, by simp only; omega, by simp only; omega, by simp only; omega, by simp only; omega⟩, by simp only; omega⟩
              · skip
                try simp only [decide_eq_true_eq, decide_eq_false_iff_not, Bool.not_eq_true', Bool.not_eq_false', bne_iff_ne, bne_eq_false_iff_eq, ne_eq, beq_iff_eq, beq_eq_false_iff_ne] at hg122
                refine D_qn ?_
                refine D_q rfl rfl ?_
                refine WL_skip rfl rfl rfl ?_
                refine D_qn ?_
                refine D_q rfl rfl ?_
                refine WL_skip rfl rfl rfl ?_
                refine D_qn ?_
                refine D_q rfl rfl ?_
                refine WL_skip rfl rfl rfl ?_
                refine D_qn ?_
                refine D_q rfl rfl ?_
                refine WL_skip rfl rfl rfl ?_
                refine D_qn ?_
                refine D_q rfl rfl ?_
                refine WL_skip rfl rfl rfl ?_
                refine D_qn ?_
                refine D_q rfl rfl ?_
                refine WL_skip rfl rfl rfl ?_
                refine D_qn ?_
                refine D_q rfl rfl ?_
                refine WL_skip rfl rfl rfl ?_
                refine D_qn ?_
                refine D_q rfl rfl ?_
                refine s_pick_f rfl rfl rfl ?_
                refine D_qn ?_
                refine D_nil ?_
                refine n_then ?_
                refine W_cond_f rfl ?_
                refine W_skip ?_
                refine n_then ?_
                refine W_seq ?_
                refine W_seq ?_
                refine W_region ?_
                refine s_fieldAddr rfl rfl (FA31_0 _ _) ?_
                first
                  | refine s_load Try.isAgg4 rfl rfl (hs.cell (k := 0) rfl rfl) ?_
                  | refine s_load Try.isAgg4 rfl rfl (hs.cell (k := 1) rfl rfl) ?_
                  | refine s_load Try.isAgg4 rfl rfl (hs.cell (k := 2) rfl rfl) ?_
                  | refine s_load Try.isAgg4 rfl rfl (hs.cell (k := 3) rfl rfl) ?_
                  | refine s_load Try.isAgg4 rfl rfl (hs.cell (k := 4) rfl rfl) ?_
                  | refine s_load Try.isAgg4 rfl rfl (hs.cell (k := 5) rfl rfl) ?_
                  | refine s_load Try.isAgg4 rfl rfl (hs.cell (k := 6) rfl rfl) ?_
                  | refine s_load Try.isAgg4 rfl rfl (hs.cell (k := 7) rfl rfl) ?_
                  | refine s_load Try.isAgg4 rfl rfl (hs.cell (k := 8) rfl rfl) ?_
                  | refine s_load Try.isAgg4 rfl rfl ((hs.oldcell (a := ⟨b1, o1 + i, none⟩) hB1 (by simp)).trans hc1) ?_
                  | refine s_load Try.isAgg4 rfl rfl ((hs.cell (k := 0) rfl (i64s_at (by omega)))) ?_
                  | refine s_load Try.isAgg4 rfl rfl ((hs.cell (k := 1) rfl (i64s_at (by omega)))) ?_
                  | refine s_load Try.isAgg4 rfl rfl ((hs.cell (k := 2) rfl (i64s_at (by omega)))) ?_
                  | refine s_load Try.isAgg4 rfl rfl ((hs.cell (k := 3) rfl (i64s_at (by omega)))) ?_
                  | refine s_load Try.isAgg4 rfl rfl ((hs.cell (k := 4) rfl (i64s_at (by omega)))) ?_
                  | refine s_load Try.isAgg4 rfl rfl ((hs.cell (k := 5) rfl (i64s_at (by omega)))) ?_
                  | refine s_load Try.isAgg4 rfl rfl ((hs.cell (k := 6) rfl (i64s_at (by omega)))) ?_
                  | refine s_load Try.isAgg4 rfl rfl ((hs.cell (k := 7) rfl (i64s_at (by omega)))) ?_
                  | refine s_load Try.isAgg4 rfl rfl ((hs.cell (k := 8) rfl (i64s_at (by omega)))) ?_
                refine WL_nil ?_
                refine n_then ?_
                refine W_cond rfl (fun hc132 => ?_) (fun hc132 => ?_)
                · skip
                  try simp only [decide_eq_true_eq, decide_eq_false_iff_not, Bool.not_eq_true', Bool.not_eq_false', bne_iff_ne, bne_eq_false_iff_eq, ne_eq, beq_iff_eq, beq_eq_false_iff_ne] at hc132
                  subst hc132
                  obtain ⟨_, hF2, hR2⟩ := fence_grant hR hr3 hxr ‹_›
                  refine W_seq ?_
                  refine W_seq ?_
                  refine W_draw [(0, true, []), (1, true, []), (2, true, []), (3, true, []), (4, true, []), (5, true, []), (6, true, [])] MX (by kernel_rfl) ?_
                  intro w1 hw1 hw2 hw3 hw4; replace hs := hs.redrawn hw1 hw2 hw3 hw4; clear hw1 hw2 hw3 hw4
                  obtain ⟨w, rfl⟩ : ∃ w : World, w = w1 := ⟨_, rfl⟩
                  refine D_q rfl rfl ?_
                  refine s_fieldAddr rfl rfl (FA28_2 _ _) ?_
                  refine D_qn ?_
                  refine D_q rfl rfl ?_
                  first
                    | refine s_load Try.isAgg3 rfl rfl (hs.cell (k := 0) rfl rfl) ?_
                    | refine s_load Try.isAgg3 rfl rfl (hs.cell (k := 1) rfl rfl) ?_
                    | refine s_load Try.isAgg3 rfl rfl (hs.cell (k := 2) rfl rfl) ?_
                    | refine s_load Try.isAgg3 rfl rfl (hs.cell (k := 3) rfl rfl) ?_
                    | refine s_load Try.isAgg3 rfl rfl (hs.cell (k := 4) rfl rfl) ?_
                    | refine s_load Try.isAgg3 rfl rfl (hs.cell (k := 5) rfl rfl) ?_
                    | refine s_load Try.isAgg3 rfl rfl (hs.cell (k := 6) rfl rfl) ?_
                    | refine s_load Try.isAgg3 rfl rfl (hs.cell (k := 7) rfl rfl) ?_
                    | refine s_load Try.isAgg3 rfl rfl (hs.cell (k := 8) rfl rfl) ?_
                    | refine s_load Try.isAgg3 rfl rfl ((hs.oldcell (a := ⟨b1, o1 + i, none⟩) hB1 (by simp)).trans hc1) ?_
                    | refine s_load Try.isAgg3 rfl rfl ((hs.cell (k := 0) rfl (i64s_at (by omega)))) ?_
                    | refine s_load Try.isAgg3 rfl rfl ((hs.cell (k := 1) rfl (i64s_at (by omega)))) ?_
                    | refine s_load Try.isAgg3 rfl rfl ((hs.cell (k := 2) rfl (i64s_at (by omega)))) ?_
                    | refine s_load Try.isAgg3 rfl rfl ((hs.cell (k := 3) rfl (i64s_at (by omega)))) ?_
                    | refine s_load Try.isAgg3 rfl rfl ((hs.cell (k := 4) rfl (i64s_at (by omega)))) ?_
                    | refine s_load Try.isAgg3 rfl rfl ((hs.cell (k := 5) rfl (i64s_at (by omega)))) ?_
                    | refine s_load Try.isAgg3 rfl rfl ((hs.cell (k := 6) rfl (i64s_at (by omega)))) ?_
                    | refine s_load Try.isAgg3 rfl rfl ((hs.cell (k := 7) rfl (i64s_at (by omega)))) ?_
                    | refine s_load Try.isAgg3 rfl rfl ((hs.cell (k := 8) rfl (i64s_at (by omega)))) ?_
                  refine D_qn ?_
                  refine D_q rfl rfl ?_
                  refine s_move rfl rfl ?_
                  refine D_qn ?_
                  refine D_q rfl rfl ?_
                  refine s_move rfl rfl ?_
                  refine D_qn ?_
                  refine D_q rfl rfl ?_
                  (refine s_indexAddr1 El22 rfl rfl rfl ?hx ?_; case hx => (constructor <;> first | omega | (simp; omega)))
                  refine D_qn ?_
                  refine D_q rfl rfl ?_
                  first
                    | refine s_load Try.isAgg3 rfl rfl (hs.cell (k := 0) rfl rfl) ?_
                    | refine s_load Try.isAgg3 rfl rfl (hs.cell (k := 1) rfl rfl) ?_
                    | refine s_load Try.isAgg3 rfl rfl (hs.cell (k := 2) rfl rfl) ?_
                    | refine s_load Try.isAgg3 rfl rfl (hs.cell (k := 3) rfl rfl) ?_
                    | refine s_load Try.isAgg3 rfl rfl (hs.cell (k := 4) rfl rfl) ?_
                    | refine s_load Try.isAgg3 rfl rfl (hs.cell (k := 5) rfl rfl) ?_
                    | refine s_load Try.isAgg3 rfl rfl (hs.cell (k := 6) rfl rfl) ?_
                    | refine s_load Try.isAgg3 rfl rfl (hs.cell (k := 7) rfl rfl) ?_
                    | refine s_load Try.isAgg3 rfl rfl (hs.cell (k := 8) rfl rfl) ?_
                    | refine s_load Try.isAgg3 rfl rfl ((hs.oldcell (a := ⟨b1, o1 + i, none⟩) hB1 (by simp)).trans hc1) ?_
                    | refine s_load Try.isAgg3 rfl rfl ((hs.cell (k := 0) rfl (i64s_at (by omega)))) ?_
                    | refine s_load Try.isAgg3 rfl rfl ((hs.cell (k := 1) rfl (i64s_at (by omega)))) ?_
                    | refine s_load Try.isAgg3 rfl rfl ((hs.cell (k := 2) rfl (i64s_at (by omega)))) ?_
                    | refine s_load Try.isAgg3 rfl rfl ((hs.cell (k := 3) rfl (i64s_at (by omega)))) ?_
                    | refine s_load Try.isAgg3 rfl rfl ((hs.cell (k := 4) rfl (i64s_at (by omega)))) ?_
                    | refine s_load Try.isAgg3 rfl rfl ((hs.cell (k := 5) rfl (i64s_at (by omega)))) ?_
                    | refine s_load Try.isAgg3 rfl rfl ((hs.cell (k := 6) rfl (i64s_at (by omega)))) ?_
                    | refine s_load Try.isAgg3 rfl rfl ((hs.cell (k := 7) rfl (i64s_at (by omega)))) ?_
                    | refine s_load Try.isAgg3 rfl rfl ((hs.cell (k := 8) rfl (i64s_at (by omega)))) ?_
                  refine D_qn ?_
                  refine D_q rfl rfl ?_
                  refine s_leq rfl rfl rfl ?_
                  refine D_qn ?_
                  refine D_nil ?_
                  refine n_then ?_
                  refine W_cond_kf rfl ((decide_eq_false hF2)) ?_
                  refine W_skip ?_
                  refine n_then ?_
                  refine W_seq ?_
                  refine W_region ?_
                  refine s_move rfl rfl ?_
                  refine s_move rfl rfl ?_
                  refine s_fieldAddr rfl rfl (FA28_2 _ _) ?_
                  first
                    | refine s_load Try.isAgg3 rfl rfl (hs.cell (k := 0) rfl rfl) ?_
                    | refine s_load Try.isAgg3 rfl rfl (hs.cell (k := 1) rfl rfl) ?_
                    | refine s_load Try.isAgg3 rfl rfl (hs.cell (k := 2) rfl rfl) ?_
                    | refine s_load Try.isAgg3 rfl rfl (hs.cell (k := 3) rfl rfl) ?_
                    | refine s_load Try.isAgg3 rfl rfl (hs.cell (k := 4) rfl rfl) ?_
                    | refine s_load Try.isAgg3 rfl rfl (hs.cell (k := 5) rfl rfl) ?_
                    | refine s_load Try.isAgg3 rfl rfl (hs.cell (k := 6) rfl rfl) ?_
                    | refine s_load Try.isAgg3 rfl rfl (hs.cell (k := 7) rfl rfl) ?_
                    | refine s_load Try.isAgg3 rfl rfl (hs.cell (k := 8) rfl rfl) ?_
                    | refine s_load Try.isAgg3 rfl rfl ((hs.oldcell (a := ⟨b1, o1 + i, none⟩) hB1 (by simp)).trans hc1) ?_
                    | refine s_load Try.isAgg3 rfl rfl ((hs.cell (k := 0) rfl (i64s_at (by omega)))) ?_
                    | refine s_load Try.isAgg3 rfl rfl ((hs.cell (k := 1) rfl (i64s_at (by omega)))) ?_
                    | refine s_load Try.isAgg3 rfl rfl ((hs.cell (k := 2) rfl (i64s_at (by omega)))) ?_
                    | refine s_load Try.isAgg3 rfl rfl ((hs.cell (k := 3) rfl (i64s_at (by omega)))) ?_
                    | refine s_load Try.isAgg3 rfl rfl ((hs.cell (k := 4) rfl (i64s_at (by omega)))) ?_
                    | refine s_load Try.isAgg3 rfl rfl ((hs.cell (k := 5) rfl (i64s_at (by omega)))) ?_
                    | refine s_load Try.isAgg3 rfl rfl ((hs.cell (k := 6) rfl (i64s_at (by omega)))) ?_
                    | refine s_load Try.isAgg3 rfl rfl ((hs.cell (k := 7) rfl (i64s_at (by omega)))) ?_
                    | refine s_load Try.isAgg3 rfl rfl ((hs.cell (k := 8) rfl (i64s_at (by omega)))) ?_
                  (refine s_indexAddr1 El22 rfl rfl rfl ?hx ?_; case hx => (constructor <;> first | omega | (simp; omega)))
                  refine s_store Try.sizeOf3 rfl rfl rfl hs (kk := 6) rfl (by simp; omega) ?_
                  clear hs; intro w hs
                  rw [i64s_set] at hs
                  simp only [List.set_cons_zero, List.set_cons_succ] at hs
                  refine WL_nil ?_
                  refine n_then ?_
                  refine W_seq ?_
                  refine W_region ?_
                  refine s_move rfl rfl ?_
                  refine s_move rfl rfl ?_
                  refine s_fieldAddr rfl rfl (FA28_1 _ _) ?_
                  first
                    | refine s_load Try.isAgg3 rfl rfl (hs.cell (k := 0) rfl rfl) ?_
                    | refine s_load Try.isAgg3 rfl rfl (hs.cell (k := 1) rfl rfl) ?_
                    | refine s_load Try.isAgg3 rfl rfl (hs.cell (k := 2) rfl rfl) ?_
                    | refine s_load Try.isAgg3 rfl rfl (hs.cell (k := 3) rfl rfl) ?_
                    | refine s_load Try.isAgg3 rfl rfl (hs.cell (k := 4) rfl rfl) ?_
                    | refine s_load Try.isAgg3 rfl rfl (hs.cell (k := 5) rfl rfl) ?_
                    | refine s_load Try.isAgg3 rfl rfl (hs.cell (k := 6) rfl rfl) ?_
                    | refine s_load Try.isAgg3 rfl rfl (hs.cell (k := 7) rfl rfl) ?_
                    | refine s_load Try.isAgg3 rfl rfl (hs.cell (k := 8) rfl rfl) ?_
                    | refine s_load Try.isAgg3 rfl rfl ((hs.oldcell (a := ⟨b1, o1 + i, none⟩) hB1 (by simp)).trans hc1) ?_
                    | refine s_load Try.isAgg3 rfl rfl ((hs.cell (k := 0) rfl (i64s_at (by omega)))) ?_
                    | refine s_load Try.isAgg3 rfl rfl ((hs.cell (k := 1) rfl (i64s_at (by omega)))) ?_
                    | refine s_load Try.isAgg3 rfl rfl ((hs.cell (k := 2) rfl (i64s_at (by omega)))) ?_
                    | refine s_load Try.isAgg3 rfl rfl ((hs.cell (k := 3) rfl (i64s_at (by omega)))) ?_
                    | refine s_load Try.isAgg3 rfl rfl ((hs.cell (k := 4) rfl (i64s_at (by omega)))) ?_
                    | refine s_load Try.isAgg3 rfl rfl ((hs.cell (k := 5) rfl (i64s_at (by omega)))) ?_
                    | refine s_load Try.isAgg3 rfl rfl ((hs.cell (k := 6) rfl (i64s_at (by omega)))) ?_
                    | refine s_load Try.isAgg3 rfl rfl ((hs.cell (k := 7) rfl (i64s_at (by omega)))) ?_
                    | refine s_load Try.isAgg3 rfl rfl ((hs.cell (k := 8) rfl (i64s_at (by omega)))) ?_
                  (refine s_indexAddr1 El22 rfl rfl rfl ?hx ?_; case hx => (constructor <;> first | omega | (simp; omega)))
                  refine s_store Try.sizeOf3 rfl rfl rfl hs (kk := 4) rfl (by simp; omega) ?_
                  clear hs; intro w hs
                  rw [i64s_set] at hs
                  simp only [List.set_cons_zero, List.set_cons_succ] at hs
                  refine WL_nil ?_
                  refine n_then ?_
                  refine W_seq ?_
                  refine W_region ?_
                  refine s_move rfl rfl ?_
                  refine s_move rfl rfl ?_
                  refine s_fieldAddr rfl rfl (FA28_3 _ _) ?_
                  first
                    | refine s_load Try.isAgg3 rfl rfl (hs.cell (k := 0) rfl rfl) ?_
                    | refine s_load Try.isAgg3 rfl rfl (hs.cell (k := 1) rfl rfl) ?_
                    | refine s_load Try.isAgg3 rfl rfl (hs.cell (k := 2) rfl rfl) ?_
                    | refine s_load Try.isAgg3 rfl rfl (hs.cell (k := 3) rfl rfl) ?_
                    | refine s_load Try.isAgg3 rfl rfl (hs.cell (k := 4) rfl rfl) ?_
                    | refine s_load Try.isAgg3 rfl rfl (hs.cell (k := 5) rfl rfl) ?_
                    | refine s_load Try.isAgg3 rfl rfl (hs.cell (k := 6) rfl rfl) ?_
                    | refine s_load Try.isAgg3 rfl rfl (hs.cell (k := 7) rfl rfl) ?_
                    | refine s_load Try.isAgg3 rfl rfl (hs.cell (k := 8) rfl rfl) ?_
                    | refine s_load Try.isAgg3 rfl rfl ((hs.oldcell (a := ⟨b1, o1 + i, none⟩) hB1 (by simp)).trans hc1) ?_
                    | refine s_load Try.isAgg3 rfl rfl ((hs.cell (k := 0) rfl (i64s_at (by omega)))) ?_
                    | refine s_load Try.isAgg3 rfl rfl ((hs.cell (k := 1) rfl (i64s_at (by omega)))) ?_
                    | refine s_load Try.isAgg3 rfl rfl ((hs.cell (k := 2) rfl (i64s_at (by omega)))) ?_
                    | refine s_load Try.isAgg3 rfl rfl ((hs.cell (k := 3) rfl (i64s_at (by omega)))) ?_
                    | refine s_load Try.isAgg3 rfl rfl ((hs.cell (k := 4) rfl (i64s_at (by omega)))) ?_
                    | refine s_load Try.isAgg3 rfl rfl ((hs.cell (k := 5) rfl (i64s_at (by omega)))) ?_
                    | refine s_load Try.isAgg3 rfl rfl ((hs.cell (k := 6) rfl (i64s_at (by omega)))) ?_
                    | refine s_load Try.isAgg3 rfl rfl ((hs.cell (k := 7) rfl (i64s_at (by omega)))) ?_
                    | refine s_load Try.isAgg3 rfl rfl ((hs.cell (k := 8) rfl (i64s_at (by omega)))) ?_
                  (refine s_indexAddr1 El22 rfl rfl rfl ?hx ?_; case hx => (constructor <;> first | omega | (simp; omega)))
                  refine s_store Try.sizeOf3 rfl rfl rfl hs (kk := 3) rfl (by simp; omega) ?_
                  clear hs; intro w hs
                  rw [i64s_set] at hs
                  simp only [List.set_cons_zero, List.set_cons_succ] at hs
                  refine WL_nil ?_
                  refine n_then ?_
                  refine W_exit ?_
                  refine x_then ?_
                  refine exit_hit ?_
                  refine n_then ?_
                  refine W_region ?_
                  refine s_move rfl rfl ?_
                  first | (refine s_add' rfl rfl rfl ?hx ?_; case hx => (constructor <;> first | omega | (simp only; omega))) | refine s_add rfl rfl rfl ?_
                  refine s_assign rfl rfl ?_
                  refine WL_nil ?_
                  refine n_loop ?_
                  first
                    | exact ⟨⟨i + 1, tick + stp, _, cs', G, T, H, U, LT3⟩, ⟨rfl, rfl, rfl, rfl, rfl, rfl, rfl, rfl, rfl, rfl, trivial⟩, ⟨St.left (M := Lm) (by simpa using hs.tail), hT', fence_none hR ‹_›, by simp only; omega, by simp only; omega, by simp only; omega, by simp only; omega, by simp only; omega⟩, by simp only; omega⟩
                    | exact ⟨⟨i + 1, tick + stp, _, cs', _, _, _, _, LT3⟩, ⟨rfl, rfl, rfl, rfl, rfl, rfl, rfl, rfl, rfl, rfl, trivial⟩, ⟨St.left (M := Lm) (by simpa using hs.tail.tail), hT', hR2, by simp only; omega, by simp only; omega, by simp only; omega, by simp only; omega, by simp only; omega⟩, by simp only; omega⟩
                · skip
                  try simp only [decide_eq_true_eq, decide_eq_false_iff_not, Bool.not_eq_true', Bool.not_eq_false', bne_iff_ne, bne_eq_false_iff_eq, ne_eq, beq_iff_eq, beq_eq_false_iff_ne] at hc132
                  subst hc132
                  obtain ⟨_, hF2, hF3, hF4, hR2⟩ := fence_cmd hR hr3 hxr ‹_›
                  refine W_skip ?_
                  refine n_then ?_
                  refine W_seq ?_
                  refine W_seq ?_
                  refine W_draw [(0, true, []), (1, true, []), (2, true, []), (3, true, []), (4, true, []), (5, true, []), (6, true, []), (7, true, []), (8, true, []), (9, true, []), (10, true, []), (11, true, []), (12, true, []), (13, true, []), (14, true, []), (15, true, []), (16, true, []), (17, true, []), (18, true, []), (19, true, []), (20, true, []), (21, true, []), (22, true, []), (23, true, [])] MX (by kernel_rfl) ?_
                  intro w1 hw1 hw2 hw3 hw4; replace hs := hs.redrawn hw1 hw2 hw3 hw4; clear hw1 hw2 hw3 hw4
                  obtain ⟨w, rfl⟩ : ∃ w : World, w = w1 := ⟨_, rfl⟩
                  refine D_q rfl rfl ?_
                  refine s_fieldAddr rfl rfl (FA28_2 _ _) ?_
                  refine D_qn ?_
                  refine D_q rfl rfl ?_
                  first
                    | refine s_load Try.isAgg3 rfl rfl (hs.cell (k := 0) rfl rfl) ?_
                    | refine s_load Try.isAgg3 rfl rfl (hs.cell (k := 1) rfl rfl) ?_
                    | refine s_load Try.isAgg3 rfl rfl (hs.cell (k := 2) rfl rfl) ?_
                    | refine s_load Try.isAgg3 rfl rfl (hs.cell (k := 3) rfl rfl) ?_
                    | refine s_load Try.isAgg3 rfl rfl (hs.cell (k := 4) rfl rfl) ?_
                    | refine s_load Try.isAgg3 rfl rfl (hs.cell (k := 5) rfl rfl) ?_
                    | refine s_load Try.isAgg3 rfl rfl (hs.cell (k := 6) rfl rfl) ?_
                    | refine s_load Try.isAgg3 rfl rfl (hs.cell (k := 7) rfl rfl) ?_
                    | refine s_load Try.isAgg3 rfl rfl (hs.cell (k := 8) rfl rfl) ?_
                    | refine s_load Try.isAgg3 rfl rfl ((hs.oldcell (a := ⟨b1, o1 + i, none⟩) hB1 (by simp)).trans hc1) ?_
                    | refine s_load Try.isAgg3 rfl rfl ((hs.cell (k := 0) rfl (i64s_at (by omega)))) ?_
                    | refine s_load Try.isAgg3 rfl rfl ((hs.cell (k := 1) rfl (i64s_at (by omega)))) ?_
                    | refine s_load Try.isAgg3 rfl rfl ((hs.cell (k := 2) rfl (i64s_at (by omega)))) ?_
                    | refine s_load Try.isAgg3 rfl rfl ((hs.cell (k := 3) rfl (i64s_at (by omega)))) ?_
                    | refine s_load Try.isAgg3 rfl rfl ((hs.cell (k := 4) rfl (i64s_at (by omega)))) ?_
                    | refine s_load Try.isAgg3 rfl rfl ((hs.cell (k := 5) rfl (i64s_at (by omega)))) ?_
                    | refine s_load Try.isAgg3 rfl rfl ((hs.cell (k := 6) rfl (i64s_at (by omega)))) ?_
                    | refine s_load Try.isAgg3 rfl rfl ((hs.cell (k := 7) rfl (i64s_at (by omega)))) ?_
                    | refine s_load Try.isAgg3 rfl rfl ((hs.cell (k := 8) rfl (i64s_at (by omega)))) ?_
                  refine D_qn ?_
                  refine D_q rfl rfl ?_
                  refine s_move rfl rfl ?_
                  refine D_qn ?_
                  refine D_q rfl rfl ?_
                  refine s_move rfl rfl ?_
                  refine D_qn ?_
                  refine D_q rfl rfl ?_
                  (refine s_indexAddr1 El22 rfl rfl rfl ?hx ?_; case hx => (constructor <;> first | omega | (simp; omega)))
                  refine D_qn ?_
                  refine D_q rfl rfl ?_
                  first
                    | refine s_load Try.isAgg3 rfl rfl (hs.cell (k := 0) rfl rfl) ?_
                    | refine s_load Try.isAgg3 rfl rfl (hs.cell (k := 1) rfl rfl) ?_
                    | refine s_load Try.isAgg3 rfl rfl (hs.cell (k := 2) rfl rfl) ?_
                    | refine s_load Try.isAgg3 rfl rfl (hs.cell (k := 3) rfl rfl) ?_
                    | refine s_load Try.isAgg3 rfl rfl (hs.cell (k := 4) rfl rfl) ?_
                    | refine s_load Try.isAgg3 rfl rfl (hs.cell (k := 5) rfl rfl) ?_
                    | refine s_load Try.isAgg3 rfl rfl (hs.cell (k := 6) rfl rfl) ?_
                    | refine s_load Try.isAgg3 rfl rfl (hs.cell (k := 7) rfl rfl) ?_
                    | refine s_load Try.isAgg3 rfl rfl (hs.cell (k := 8) rfl rfl) ?_
                    | refine s_load Try.isAgg3 rfl rfl ((hs.oldcell (a := ⟨b1, o1 + i, none⟩) hB1 (by simp)).trans hc1) ?_
                    | refine s_load Try.isAgg3 rfl rfl ((hs.cell (k := 0) rfl (i64s_at (by omega)))) ?_
                    | refine s_load Try.isAgg3 rfl rfl ((hs.cell (k := 1) rfl (i64s_at (by omega)))) ?_
                    | refine s_load Try.isAgg3 rfl rfl ((hs.cell (k := 2) rfl (i64s_at (by omega)))) ?_
                    | refine s_load Try.isAgg3 rfl rfl ((hs.cell (k := 3) rfl (i64s_at (by omega)))) ?_
                    | refine s_load Try.isAgg3 rfl rfl ((hs.cell (k := 4) rfl (i64s_at (by omega)))) ?_
                    | refine s_load Try.isAgg3 rfl rfl ((hs.cell (k := 5) rfl (i64s_at (by omega)))) ?_
                    | refine s_load Try.isAgg3 rfl rfl ((hs.cell (k := 6) rfl (i64s_at (by omega)))) ?_
                    | refine s_load Try.isAgg3 rfl rfl ((hs.cell (k := 7) rfl (i64s_at (by omega)))) ?_
                    | refine s_load Try.isAgg3 rfl rfl ((hs.cell (k := 8) rfl (i64s_at (by omega)))) ?_
                  refine D_qn ?_
                  refine D_q rfl rfl ?_
                  refine s_lss rfl rfl rfl ?_
                  refine D_qn ?_
                  refine D_q rfl rfl ?_
                  refine s_move rfl rfl ?_
                  refine WL_know (s := 162) (c := false) rfl ((decide_eq_false hF2)) ?_
                  refine D_qn ?_
                  refine D_q rfl rfl ?_
                  refine WL_take rfl ?_
                  refine s_fieldAddr rfl rfl (FA28_2 _ _) ?_
                  refine D_qn ?_
                  refine D_q rfl rfl ?_
                  refine WL_take rfl ?_
                  first
                    | refine s_load Try.isAgg3 rfl rfl (hs.cell (k := 0) rfl rfl) ?_
                    | refine s_load Try.isAgg3 rfl rfl (hs.cell (k := 1) rfl rfl) ?_
                    | refine s_load Try.isAgg3 rfl rfl (hs.cell (k := 2) rfl rfl) ?_
                    | refine s_load Try.isAgg3 rfl rfl (hs.cell (k := 3) rfl rfl) ?_
                    | refine s_load Try.isAgg3 rfl rfl (hs.cell (k := 4) rfl rfl) ?_
                    | refine s_load Try.isAgg3 rfl rfl (hs.cell (k := 5) rfl rfl) ?_
                    | refine s_load Try.isAgg3 rfl rfl (hs.cell (k := 6) rfl rfl) ?_
                    | refine s_load Try.isAgg3 rfl rfl (hs.cell (k := 7) rfl rfl) ?_
                    | refine s_load Try.isAgg3 rfl rfl (hs.cell (k := 8) rfl rfl) ?_
                    | refine s_load Try.isAgg3 rfl rfl ((hs.oldcell (a := ⟨b1, o1 + i, none⟩) hB1 (by simp)).trans hc1) ?_
                    | refine s_load Try.isAgg3 rfl rfl ((hs.cell (k := 0) rfl (i64s_at (by omega)))) ?_
                    | refine s_load Try.isAgg3 rfl rfl ((hs.cell (k := 1) rfl (i64s_at (by omega)))) ?_
                    | refine s_load Try.isAgg3 rfl rfl ((hs.cell (k := 2) rfl (i64s_at (by omega)))) ?_
                    | refine s_load Try.isAgg3 rfl rfl ((hs.cell (k := 3) rfl (i64s_at (by omega)))) ?_
                    | refine s_load Try.isAgg3 rfl rfl ((hs.cell (k := 4) rfl (i64s_at (by omega)))) ?_
                    | refine s_load Try.isAgg3 rfl rfl ((hs.cell (k := 5) rfl (i64s_at (by omega)))) ?_
                    | refine s_load Try.isAgg3 rfl rfl ((hs.cell (k := 6) rfl (i64s_at (by omega)))) ?_
                    | refine s_load Try.isAgg3 rfl rfl ((hs.cell (k := 7) rfl (i64s_at (by omega)))) ?_
                    | refine s_load Try.isAgg3 rfl rfl ((hs.cell (k := 8) rfl (i64s_at (by omega)))) ?_
                  refine D_qn ?_
                  refine D_q rfl rfl ?_
                  refine WL_take rfl ?_
                  refine s_move rfl rfl ?_
                  refine D_qn ?_
                  refine D_q rfl rfl ?_
                  refine WL_take rfl ?_
                  refine s_move rfl rfl ?_
                  refine D_qn ?_
                  refine D_q rfl rfl ?_
                  refine WL_take rfl ?_
                  (refine s_indexAddr1 El22 rfl rfl rfl ?hx ?_; case hx => (constructor <;> first | omega | (simp; omega)))
                  refine D_qn ?_
                  refine D_q rfl rfl ?_
                  refine WL_take rfl ?_
                  first
                    | refine s_load Try.isAgg3 rfl rfl (hs.cell (k := 0) rfl rfl) ?_
                    | refine s_load Try.isAgg3 rfl rfl (hs.cell (k := 1) rfl rfl) ?_
                    | refine s_load Try.isAgg3 rfl rfl (hs.cell (k := 2) rfl rfl) ?_
                    | refine s_load Try.isAgg3 rfl rfl (hs.cell (k := 3) rfl rfl) ?_
                    | refine s_load Try.isAgg3 rfl rfl (hs.cell (k := 4) rfl rfl) ?_
                    | refine s_load Try.isAgg3 rfl rfl (hs.cell (k := 5) rfl rfl) ?_
                    | refine s_load Try.isAgg3 rfl rfl (hs.cell (k := 6) rfl rfl) ?_
                    | refine s_load Try.isAgg3 rfl rfl (hs.cell (k := 7) rfl rfl) ?_
                    | refine s_load Try.isAgg3 rfl rfl (hs.cell (k := 8) rfl rfl) ?_
                    | refine s_load Try.isAgg3 rfl rfl ((hs.oldcell (a := ⟨b1, o1 + i, none⟩) hB1 (by simp)).trans hc1) ?_
                    | refine s_load Try.isAgg3 rfl rfl ((hs.cell (k := 0) rfl (i64s_at (by omega)))) ?_
                    | refine s_load Try.isAgg3 rfl rfl ((hs.cell (k := 1) rfl (i64s_at (by omega)))) ?_
                    | refine s_load Try.isAgg3 rfl rfl ((hs.cell (k := 2) rfl (i64s_at (by omega)))) ?_
                    | refine s_load Try.isAgg3 rfl rfl ((hs.cell (k := 3) rfl (i64s_at (by omega)))) ?_
                    | refine s_load Try.isAgg3 rfl rfl ((hs.cell (k := 4) rfl (i64s_at (by omega)))) ?_
                    | refine s_load Try.isAgg3 rfl rfl ((hs.cell (k := 5) rfl (i64s_at (by omega)))) ?_
                    | refine s_load Try.isAgg3 rfl rfl ((hs.cell (k := 6) rfl (i64s_at (by omega)))) ?_
                    | refine s_load Try.isAgg3 rfl rfl ((hs.cell (k := 7) rfl (i64s_at (by omega)))) ?_
                    | refine s_load Try.isAgg3 rfl rfl ((hs.cell (k := 8) rfl (i64s_at (by omega)))) ?_
                  refine D_qn ?_
                  refine D_q rfl rfl ?_
                  refine WL_take rfl ?_
                  refine s_lss rfl rfl rfl ?_
                  refine D_qn ?_
                  refine D_q rfl rfl ?_
                  refine s_pick_f rfl rfl rfl ?_
                  refine D_qn ?_
                  refine D_q rfl rfl ?_
                  refine s_move rfl rfl ?_
                  refine WL_know (s := 171) (c := false) rfl ((decide_eq_false hF3)) ?_
                  refine D_qn ?_
                  refine D_q rfl rfl ?_
                  refine WL_take rfl ?_
                  refine s_move rfl rfl ?_
                  refine D_qn ?_
                  refine D_q rfl rfl ?_
                  refine WL_take rfl ?_
                  refine s_move rfl rfl ?_
                  refine D_qn ?_
                  refine D_q rfl rfl ?_
                  refine WL_take rfl ?_
                  refine s_move rfl rfl ?_
                  refine D_qn ?_
                  refine D_q rfl rfl ?_
                  refine WL_take rfl ?_
                  (refine s_indexAddr1 El22 rfl rfl rfl ?hx ?_; case hx => (constructor <;> first | omega | (simp; omega)))
                  refine D_qn ?_
                  refine D_q rfl rfl ?_
                  refine WL_take rfl ?_
                  first
                    | refine s_load Try.isAgg3 rfl rfl (hs.cell (k := 0) rfl rfl) ?_
                    | refine s_load Try.isAgg3 rfl rfl (hs.cell (k := 1) rfl rfl) ?_
                    | refine s_load Try.isAgg3 rfl rfl (hs.cell (k := 2) rfl rfl) ?_
                    | refine s_load Try.isAgg3 rfl rfl (hs.cell (k := 3) rfl rfl) ?_
                    | refine s_load Try.isAgg3 rfl rfl (hs.cell (k := 4) rfl rfl) ?_
                    | refine s_load Try.isAgg3 rfl rfl (hs.cell (k := 5) rfl rfl) ?_
                    | refine s_load Try.isAgg3 rfl rfl (hs.cell (k := 6) rfl rfl) ?_
                    | refine s_load Try.isAgg3 rfl rfl (hs.cell (k := 7) rfl rfl) ?_
                    | refine s_load Try.isAgg3 rfl rfl (hs.cell (k := 8) rfl rfl) ?_
                    | refine s_load Try.isAgg3 rfl rfl ((hs.oldcell (a := ⟨b1, o1 + i, none⟩) hB1 (by simp)).trans hc1) ?_
                    | refine s_load Try.isAgg3 rfl rfl ((hs.cell (k := 0) rfl (i64s_at (by omega)))) ?_
                    | refine s_load Try.isAgg3 rfl rfl ((hs.cell (k := 1) rfl (i64s_at (by omega)))) ?_
                    | refine s_load Try.isAgg3 rfl rfl ((hs.cell (k := 2) rfl (i64s_at (by omega)))) ?_
                    | refine s_load Try.isAgg3 rfl rfl ((hs.cell (k := 3) rfl (i64s_at (by omega)))) ?_
                    | refine s_load Try.isAgg3 rfl rfl ((hs.cell (k := 4) rfl (i64s_at (by omega)))) ?_
                    | refine s_load Try.isAgg3 rfl rfl ((hs.cell (k := 5) rfl (i64s_at (by omega)))) ?_
                    | refine s_load Try.isAgg3 rfl rfl ((hs.cell (k := 6) rfl (i64s_at (by omega)))) ?_
                    | refine s_load Try.isAgg3 rfl rfl ((hs.cell (k := 7) rfl (i64s_at (by omega)))) ?_
                    | refine s_load Try.isAgg3 rfl rfl ((hs.cell (k := 8) rfl (i64s_at (by omega)))) ?_
                  refine D_qn ?_
                  refine D_q rfl rfl ?_
                  refine WL_take rfl ?_
                  refine s_geq rfl rfl rfl ?_
                  refine D_qn ?_
                  refine D_q rfl rfl ?_
                  refine s_pick_f rfl rfl rfl ?_
                  refine D_qn ?_
                  refine D_nil ?_
                  refine n_then ?_
                  refine W_cond_kf rfl ((decide_eq_false hF4)) ?_
                  refine W_skip ?_
                  refine n_then ?_
                  refine W_region ?_
                  refine s_move rfl rfl ?_
                  refine s_move rfl rfl ?_
                  refine s_fieldAddr rfl rfl (FA28_2 _ _) ?_
                  first
                    | refine s_load Try.isAgg3 rfl rfl (hs.cell (k := 0) rfl rfl) ?_
                    | refine s_load Try.isAgg3 rfl rfl (hs.cell (k := 1) rfl rfl) ?_
                    | refine s_load Try.isAgg3 rfl rfl (hs.cell (k := 2) rfl rfl) ?_
                    | refine s_load Try.isAgg3 rfl rfl (hs.cell (k := 3) rfl rfl) ?_
                    | refine s_load Try.isAgg3 rfl rfl (hs.cell (k := 4) rfl rfl) ?_
                    | refine s_load Try.isAgg3 rfl rfl (hs.cell (k := 5) rfl rfl) ?_
                    | refine s_load Try.isAgg3 rfl rfl (hs.cell (k := 6) rfl rfl) ?_
                    | refine s_load Try.isAgg3 rfl rfl (hs.cell (k := 7) rfl rfl) ?_
                    | refine s_load Try.isAgg3 rfl rfl (hs.cell (k := 8) rfl rfl) ?_
                    | refine s_load Try.isAgg3 rfl rfl ((hs.oldcell (a := ⟨b1, o1 + i, none⟩) hB1 (by simp)).trans hc1) ?_
                    | refine s_load Try.isAgg3 rfl rfl ((hs.cell (k := 0) rfl (i64s_at (by omega)))) ?_
                    | refine s_load Try.isAgg3 rfl rfl ((hs.cell (k := 1) rfl (i64s_at (by omega)))) ?_
                    | refine s_load Try.isAgg3 rfl rfl ((hs.cell (k := 2) rfl (i64s_at (by omega)))) ?_
                    | refine s_load Try.isAgg3 rfl rfl ((hs.cell (k := 3) rfl (i64s_at (by omega)))) ?_
                    | refine s_load Try.isAgg3 rfl rfl ((hs.cell (k := 4) rfl (i64s_at (by omega)))) ?_
                    | refine s_load Try.isAgg3 rfl rfl ((hs.cell (k := 5) rfl (i64s_at (by omega)))) ?_
                    | refine s_load Try.isAgg3 rfl rfl ((hs.cell (k := 6) rfl (i64s_at (by omega)))) ?_
                    | refine s_load Try.isAgg3 rfl rfl ((hs.cell (k := 7) rfl (i64s_at (by omega)))) ?_
                    | refine s_load Try.isAgg3 rfl rfl ((hs.cell (k := 8) rfl (i64s_at (by omega)))) ?_
                  (refine s_indexAddr1 El22 rfl rfl rfl ?hx ?_; case hx => (constructor <;> first | omega | (simp; omega)))
                  refine s_store Try.sizeOf3 rfl rfl rfl hs (kk := 5) rfl (by simp; omega) ?_
                  clear hs; intro w hs
                  rw [i64s_set] at hs
                  simp only [List.set_cons_zero, List.set_cons_succ] at hs
                  refine WL_nil ?_
                  refine n_blk ?_
                  refine n_then ?_
                  refine W_region ?_
                  refine s_move rfl rfl ?_
                  first | (refine s_add' rfl rfl rfl ?hx ?_; case hx => (constructor <;> first | omega | (simp only; omega))) | refine s_add rfl rfl rfl ?_
                  refine s_assign rfl rfl ?_
                  refine WL_nil ?_
                  refine n_loop ?_
                  first
                    | exact ⟨⟨i + 1, tick + stp, _, cs', G, T, H, U, LT3⟩, ⟨rfl, rfl, rfl, rfl, rfl, rfl, rfl, rfl, rfl, rfl, trivial⟩, ⟨St.left (M := Lm) (by simpa using hs.tail), hT', fence_none hR ‹_›, by simp only; omega, by simp only; omega, by simp only; omega, by simp only; omega, by simp only; omega⟩, by simp only; omega⟩
                    | exact ⟨⟨i + 1, tick + stp, _, cs', _, _, _, _, LT3⟩, ⟨rfl, rfl, rfl, rfl, rfl, rfl, rfl, rfl, rfl, rfl, trivial⟩, ⟨St.left (M := Lm) (by simpa using hs.tail.tail), hT', hR2, by simp only; omega, by simp only; omega, by simp only; omega, by simp only; omega, by simp only; omega⟩, by simp only; omega⟩
    · skip
      try simp only [decide_eq_true_eq, decide_eq_false_iff_not, Bool.not_eq_true', Bool.not_eq_false', bne_iff_ne, bne_eq_false_iff_eq, ne_eq, beq_iff_eq, beq_eq_false_iff_ne] at hc35
      refine W_exit ?_
      refine x_then ?_
      refine x_then ?_
      refine exit_hit ?_
      refine n_then ?_
      refine W_seq ?_
      refine W_region ?_
      refine s_call Try.call13 rfl rfl (lives_ok w) ?_
      rintro r w ⟨hst, rfl⟩
      replace hs := hs.fwd1 hst
      refine s_assign rfl rfl ?_
      refine WL_nil ?_
      refine n_then ?_
      refine W_ret ?_
      exact end1 rfl rfl ⟨hs.fwd, rfl⟩
  · skip
    try simp only [decide_eq_true_eq, decide_eq_false_iff_not, Bool.not_eq_true', Bool.not_eq_false', bne_iff_ne, bne_eq_false_iff_eq, ne_eq, beq_iff_eq, beq_eq_false_iff_ne] at hg32
    refine WL_skip rfl rfl rfl ?_
    refine WL_skip rfl rfl rfl ?_
    refine s_pick_f rfl rfl rfl ?_
    refine WL_nil ?_
    refine n_then ?_
    refine W_cond_f rfl ?_
    refine W_exit ?_
    refine x_then ?_
    refine x_then ?_
    refine exit_hit ?_
    refine n_then ?_
    refine W_seq ?_
    refine W_region ?_
    refine s_call Try.call13 rfl rfl (lives_ok w) ?_
    rintro r w ⟨hst, rfl⟩
    replace hs := hs.fwd1 hst
    refine s_assign rfl rfl ?_
    refine WL_nil ?_
    refine n_then ?_
    refine W_ret ?_
    exact end1 rfl rfl ⟨hs.fwd, rfl⟩
end Go.Proofs.Ytlchcfegfonnmaa
