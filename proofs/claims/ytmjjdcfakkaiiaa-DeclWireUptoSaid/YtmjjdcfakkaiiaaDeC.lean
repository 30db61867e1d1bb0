/- The generator of declarations. -/
import Derived.Test.YtmjjdcfakkaiiaaDeB
set_option linter.unusedVariables false
set_option linter.unusedSimpArgs false
namespace Go.Proofs.Ytmjjdcfakkaiiaa
open Go.SL
abbrev sHost : ByteArray := ⟨#[104, 111, 115, 116]⟩
abbrev sZone : ByteArray := ⟨#[122, 111, 110, 101]⟩
theorem labs_one (v : ByteArray) (h : v ≠ ByteArray.empty) (hv : valueP v) : labsP [(sHost, v)] := by
  refine ⟨by simp, fun i hi x hx => ?_⟩
  have : i = 0 := by simpa using hi
  subst this
  simp at hx; subst hx
  exact ⟨(by decide +kernel : nameP sHost), h, hv, fun h => absurd h (by simp)⟩
theorem labs_two : labsP [(sHost, ⟨#[98]⟩), (sZone, ⟨#[120]⟩)] := by
  refine ⟨by simp, fun i hi x hx => ?_⟩
  have : i = 0 ∨ i = 1 := by simp at hi; omega
  rcases this with rfl | rfl
  · simp at hx; subst hx
    exact ⟨by decide +kernel, by decide +kernel, by decide +kernel, fun h => absurd h (by simp)⟩
  · simp at hx; subst hx
    refine ⟨by decide +kernel, by decide +kernel, by decide +kernel, fun _ y hy => ?_⟩
    simp at hy; subst hy
    decide +kernel
theorem genLabels_ok (n : Int) (w0 : World) (hn : isI64 n) : Ret Try.prog 33 [.int .i64 n].toArray w0 fun r w' => ∃ ls Lr, OwnS 51 2 r ls.length (lbcells ls) Lr ∧ labsP ls ∧ ls.length ≤ 2 ∧ (∀ x ∈ ls, x.1.size ≤ 16 ∧ x.2.size ≤ 16) ∧ St [] w0 w' Lr := by
  refine Ret_start fun w hs => ?_
  refine Ret_of Try.func33 rfl Try.ntmps33 rfl ?_
  refine W_seq ?_
  refine W_region ?_
  refine s_assign rfl rfl ?_
  refine WL_nil ?_
  refine n_then ?_
  refine W_seq ?_
  refine W_seq ?_
  refine W_region ?_
  refine s_move rfl rfl ?_
  refine s_call Try.call20 rfl rfl (around_ok n 4 w (by omega) hn) ?_
  rintro r w1 ⟨hw1, rfl⟩
  rw [hw1]; clear hw1 w1
  refine WL_nil ?_
  refine n_then ?_
  refine W_block ?_
  refine W_seq ?_
  refine W_region ?_
  refine s_eql rfl rfl rfl ?_
  refine s_assign rfl rfl ?_
  refine WL_nil ?_
  refine n_then ?_
  refine W_cond rfl (fun hc5 => ?_) (fun hc5 => ?_)
  · skip
    refine W_seq ?_
    refine W_region ?_
    refine s_build rfl rfl (BD51_0_1 _ _) ?_
    refine s_buildSlice rfl rfl (BS23_1 _ _) hs ?_; clear hs; intro b8 w hs
    refine s_assign rfl rfl ?_
    refine WL_nil ?_
    refine n_then ?_
    refine W_ret ?_
    refine r_blk ?_
    refine r_then ?_
    first
      | exact end1 rfl rfl ⟨[(sHost, ⟨#[97]⟩)], _, ⟨rfl, .inr ⟨_, 1, [], rfl, Nat.le_refl _, by decide, rfl, rfl⟩⟩, labs_one _ (by decide +kernel) (by decide +kernel), by simp, by decide +kernel, hs⟩
      | exact end1 rfl rfl ⟨[(sHost, ⟨#[98]⟩)], _, ⟨rfl, .inr ⟨_, 1, [], rfl, Nat.le_refl _, by decide, rfl, rfl⟩⟩, labs_one _ (by decide +kernel) (by decide +kernel), by simp, by decide +kernel, hs⟩
      | exact end1 rfl rfl ⟨[(sHost, ⟨#[98]⟩), (sZone, ⟨#[120]⟩)], _, ⟨rfl, .inr ⟨_, 2, [], rfl, Nat.le_refl _, by decide, rfl, rfl⟩⟩, labs_two, by simp, by decide +kernel, hs⟩
      | exact end1 rfl rfl ⟨[], [], OwnS.nil _ _, labs_nil, by simp, by simp, hs⟩
  · skip
    refine W_seq ?_
    refine W_region ?_
    refine s_eql rfl rfl rfl ?_
    refine s_assign rfl rfl ?_
    refine WL_nil ?_
    refine n_then ?_
    refine W_cond rfl (fun hc9 => ?_) (fun hc9 => ?_)
    · skip
      refine W_seq ?_
      refine W_region ?_
      refine s_build rfl rfl (BD51_0_1 _ _) ?_
      refine s_buildSlice rfl rfl (BS23_1 _ _) hs ?_; clear hs; intro b12 w hs
      refine s_assign rfl rfl ?_
      refine WL_nil ?_
      refine n_then ?_
      refine W_ret ?_
      refine r_blk ?_
      refine r_then ?_
      first
        | exact end1 rfl rfl ⟨[(sHost, ⟨#[97]⟩)], _, ⟨rfl, .inr ⟨_, 1, [], rfl, Nat.le_refl _, by decide, rfl, rfl⟩⟩, labs_one _ (by decide +kernel) (by decide +kernel), by simp, by decide +kernel, hs⟩
        | exact end1 rfl rfl ⟨[(sHost, ⟨#[98]⟩)], _, ⟨rfl, .inr ⟨_, 1, [], rfl, Nat.le_refl _, by decide, rfl, rfl⟩⟩, labs_one _ (by decide +kernel) (by decide +kernel), by simp, by decide +kernel, hs⟩
        | exact end1 rfl rfl ⟨[(sHost, ⟨#[98]⟩), (sZone, ⟨#[120]⟩)], _, ⟨rfl, .inr ⟨_, 2, [], rfl, Nat.le_refl _, by decide, rfl, rfl⟩⟩, labs_two, by simp, by decide +kernel, hs⟩
        | exact end1 rfl rfl ⟨[], [], OwnS.nil _ _, labs_nil, by simp, by simp, hs⟩
    · skip
      refine W_seq ?_
      refine W_region ?_
      refine s_eql rfl rfl rfl ?_
      refine s_assign rfl rfl ?_
      refine WL_nil ?_
      refine n_then ?_
      refine W_cond rfl (fun hc13 => ?_) (fun hc13 => ?_)
      · skip
        refine W_seq ?_
        refine W_region ?_
        refine s_build rfl rfl (BD51_0_1 _ _) ?_
        refine s_build rfl rfl (BD51_0_1 _ _) ?_
        refine s_buildSlice rfl rfl (BS23_2 _ _ _ _) hs ?_; clear hs; intro b17 w hs
        refine s_assign rfl rfl ?_
        refine WL_nil ?_
        refine n_then ?_
        refine W_ret ?_
        refine r_blk ?_
        refine r_then ?_
        first
          | exact end1 rfl rfl ⟨[(sHost, ⟨#[97]⟩)], _, ⟨rfl, .inr ⟨_, 1, [], rfl, Nat.le_refl _, by decide, rfl, rfl⟩⟩, labs_one _ (by decide +kernel) (by decide +kernel), by simp, by decide +kernel, hs⟩
          | exact end1 rfl rfl ⟨[(sHost, ⟨#[98]⟩)], _, ⟨rfl, .inr ⟨_, 1, [], rfl, Nat.le_refl _, by decide, rfl, rfl⟩⟩, labs_one _ (by decide +kernel) (by decide +kernel), by simp, by decide +kernel, hs⟩
          | exact end1 rfl rfl ⟨[(sHost, ⟨#[98]⟩), (sZone, ⟨#[120]⟩)], _, ⟨rfl, .inr ⟨_, 2, [], rfl, Nat.le_refl _, by decide, rfl, rfl⟩⟩, labs_two, by simp, by decide +kernel, hs⟩
          | exact end1 rfl rfl ⟨[], [], OwnS.nil _ _, labs_nil, by simp, by simp, hs⟩
      · skip
        refine W_skip ?_
        refine n_blk ?_
        refine n_then ?_
        refine W_seq ?_
        refine W_region ?_
        refine s_assign rfl rfl ?_
        refine WL_nil ?_
        refine n_then ?_
        refine W_ret ?_
        first
          | exact end1 rfl rfl ⟨[(sHost, ⟨#[97]⟩)], _, ⟨rfl, .inr ⟨_, 1, [], rfl, Nat.le_refl _, by decide, rfl, rfl⟩⟩, labs_one _ (by decide +kernel) (by decide +kernel), by simp, by decide +kernel, hs⟩
          | exact end1 rfl rfl ⟨[(sHost, ⟨#[98]⟩)], _, ⟨rfl, .inr ⟨_, 1, [], rfl, Nat.le_refl _, by decide, rfl, rfl⟩⟩, labs_one _ (by decide +kernel) (by decide +kernel), by simp, by decide +kernel, hs⟩
          | exact end1 rfl rfl ⟨[(sHost, ⟨#[98]⟩), (sZone, ⟨#[120]⟩)], _, ⟨rfl, .inr ⟨_, 2, [], rfl, Nat.le_refl _, by decide, rfl, rfl⟩⟩, labs_two, by simp, by decide +kernel, hs⟩
          | exact end1 rfl rfl ⟨[], [], OwnS.nil _ _, labs_nil, by simp, by simp, hs⟩
structure GenOk (d : De) : Prop where
  name : nameP d.name
  size : d.name.size ≤ 16
  u : d.u0 = 1 ∧ d.u1 = 0 ∧ d.u2 = 0
  lo : -9 ≤ d.lo ∧ d.lo ≤ 0
  hi : d.lo ≤ d.hi ∧ d.hi ≤ 16
  dn : -3 ≤ d.dn ∧ d.dn ≤ 1
  up : d.dn ≤ d.up ∧ d.up ≤ 4
  fi : 0 ≤ d.fi ∧ d.fi ≤ 6
  la : d.fi ≤ d.la ∧ d.la ≤ 19
  bu : 0 ≤ d.bu ∧ d.bu ≤ 39
theorem GenOk.valid {d : De} {ls : List Lb} (h : GenOk d) (hl : labsP ls) : DeclE d ls 0 := by
  have h1 := h.u; have h2 := h.lo; have h3 := h.hi; have h4 := h.dn; have h5 := h.up; have h6 := h.fi; have h7 := h.la; have h8 := h.bu
  refine .inr ⟨⟨h.name, hl⟩, .inr ⟨?_, .inr ⟨?_, rfl⟩⟩⟩
  · unfold De.rangeBad; omega
  · unfold De.limBad; omega
def nameS : Nat → ByteArray
  | 0 => ⟨#[99, 112, 117]⟩
  | _ => ⟨#[109, 101, 109]⟩
theorem nameS_at {j : Nat} (h : j < 2) : ([Value.string ⟨#[99, 112, 117]⟩, .string ⟨#[109, 101, 109]⟩] : List Value)[0 + (j : Int).toNat]? = some (.string (nameS j)) := by
  match j, h with
  | 0, _ => rfl
  | 1, _ => rfl
theorem nameS_ok {j : Nat} (h : j < 2) : nameP (nameS j) ∧ (nameS j).size ≤ 16 := by
  match j, h with
  | 0, _ => decide +kernel
  | 1, _ => decide +kernel
set_option maxHeartbeats 4000000 in
theorem declGen_ok (v : Value) (xs : List Int) (w0 : World) (hv : Sl w0 v xs.length (i64s xs)) (hx : ∀ z ∈ xs, isI64 z) :
    Ret Try.prog 10 [v].toArray w0 fun r w' => ∃ d ls Lr, r = .agg (De.vals d).toArray ∧ GenOk d ∧ OwnS 51 2 d.lv ls.length (lbcells ls) Lr ∧ labsP ls ∧ ls.length ≤ 2 ∧ (∀ x ∈ ls, x.1.size ≤ 16 ∧ x.2.size ≤ 16) ∧ St [] w0 w' Lr := by
  obtain ⟨a, c, rfl, hac⟩ := hv.len_le
  refine Ret_start fun w hs => ?_
  have hp : ∀ i q : Int, 0 < q → 0 ≤ pickV xs i q ∧ pickV xs i q < q := fun i q h => pickV_range h
  have h0 := hp 0 10 (by omega); have h1 := hp 1 5 (by omega); have h2 := hp 2 7 (by omega); have h3 := hp 3 2 (by omega); have h4 := hp 4 4 (by omega)
  have h5 := hp 5 17 (by omega); have h6 := hp 6 4 (by omega); have h7 := hp 7 14 (by omega); have h8 := hp 8 40 (by omega)
  clear hp
  generalize hq0 : pickV xs 0 10 = p0 at *
  generalize hq1 : pickV xs 1 5 = p1 at *
  generalize hq2 : pickV xs 2 7 = p2 at *
  generalize hq3 : pickV xs 3 2 = p3 at *
  generalize hq4 : pickV xs 4 4 = p4 at *
  generalize hq5 : pickV xs 5 17 = p5 at *
  generalize hq6 : pickV xs 6 4 = p6 at *
  generalize hq7 : pickV xs 7 14 = p7 at *
  generalize hq8 : pickV xs 8 40 = p8 at *
  obtain ⟨j3, rfl⟩ : ∃ j3 : Nat, p3 = j3 := ⟨p3.toNat, by omega⟩
  refine Ret_of Try.func10 rfl Try.ntmps10 rfl ?_
  refine W_seq ?_
  refine W_region ?_
  refine s_alloc rfl AL27 hs ?_; clear hs; intro b2 w hs
  refine WL_nil ?_
  refine n_then ?_
  refine W_seq ?_
  refine W_region ?_
  refine s_buildSlice rfl rfl (BS63_2 _ _) hs ?_; clear hs; intro b8 w hs
  refine s_assign rfl rfl ?_
  refine WL_nil ?_
  refine n_then ?_
  refine W_seq ?_
  refine W_region ?_
  refine s_move rfl rfl ?_
  refine s_call Try.call32 rfl rfl (pick_ok _ xs 0 10 w (hv.fwd0 hs.fwd) hx (by omega)) ?_
  rintro r w1 ⟨hw1, rfl⟩
  rw [hw1, hq0]; clear hw1 w1
  first | (refine s_sub' rfl rfl rfl ?hx ?_; case hx => (constructor <;> first | omega | (simp only; omega))) | refine s_sub rfl rfl rfl ?_
  refine s_assign rfl rfl ?_
  refine WL_nil ?_
  refine n_then ?_
  refine W_seq ?_
  refine W_region ?_
  refine s_move rfl rfl ?_
  refine s_call Try.call32 rfl rfl (pick_ok _ xs 1 5 w (hv.fwd0 hs.fwd) hx (by omega)) ?_
  rintro r w1 ⟨hw1, rfl⟩
  rw [hw1, hq1]; clear hw1 w1
  first | (refine s_sub' rfl rfl rfl ?hx ?_; case hx => (constructor <;> first | omega | (simp only; omega))) | refine s_sub rfl rfl rfl ?_
  refine s_assign rfl rfl ?_
  refine WL_nil ?_
  refine n_then ?_
  refine W_seq ?_
  refine W_region ?_
  refine s_move rfl rfl ?_
  refine s_call Try.call32 rfl rfl (pick_ok _ xs 2 7 w (hv.fwd0 hs.fwd) hx (by omega)) ?_
  rintro r w1 ⟨hw1, rfl⟩
  rw [hw1, hq2]; clear hw1 w1
  refine s_assign rfl rfl ?_
  refine WL_nil ?_
  refine n_then ?_
  refine W_cut (σ := Nat × Value × Hp × List Lb) (fun s => [(0, .slice a xs.length c), (2, .pointer (some ⟨b2, 0, none⟩)), (4, .int .i64 (p0 - 9)), (5, .int .i64 (p1 - 3)), (6, .int .i64 p2), (7, .pointer (some ⟨s.1, 0, none⟩))]) (fun s w => St [] w0 w ((s.1, Blk 27 [.string (nameS j3), s.2.1, .int .i64 1, .int .i64 0, .int .i64 0, .int .i64 0, .int .i64 0, .int .i64 0, .int .i64 0, .int .i64 0, .int .i64 0, .int .i64 0]) :: (b8, Blk 9 [.string ⟨#[99, 112, 117]⟩, .string ⟨#[109, 101, 109]⟩]) :: (b2, Blk 27 [.string ByteArray.empty, .slice none 0 0, .int .i64 0, .int .i64 0, .int .i64 0, .int .i64 0, .int .i64 0, .int .i64 0, .int .i64 0, .int .i64 0, .int .i64 0, .int .i64 0]) :: s.2.2.1) ∧ OwnS 51 2 s.2.1 s.2.2.2.length (lbcells s.2.2.2) s.2.2.1 ∧ labsP s.2.2.2 ∧ s.2.2.2.length ≤ 2 ∧ (∀ x ∈ s.2.2.2, x.1.size ≤ 16 ∧ x.2.size ≤ 16) ∧ ∃ a m c, s.2.1 = .slice a m c) ?_ ?_
  · skip
    refine W_tree (.q 0 (.q 1 (.q 5 (.q 8 (.e 2 [0, 5, 8] (.q 3 (.q 4 (.e 6 [0, 8, 3, 4] (.e 7 [0, 8, 3, 4] (.q 9 (.e 10 [0, 1, 5, 8, 3, 4, 9] (.e 11 [] .nil .nil) .nil)) (.e 10 [0, 1, 5, 8, 3, 4] (.e 7 [0, 8, 3, 4] (.q 9 (.e 11 [] .nil .nil)) .nil) .nil)) (.e 10 [0, 1, 5, 8, 3, 4] (.e 6 [0, 8, 3, 4] (.e 7 [0, 8, 3, 4] (.q 9 (.e 11 [] .nil .nil)) .nil) .nil) .nil)))) (.e 10 [0, 1, 5, 8] (.e 2 [0, 5, 8] (.q 3 (.q 4 (.e 6 [0, 8, 3, 4] (.e 7 [0, 8, 3, 4] (.q 9 (.e 11 [] .nil .nil)) .nil) .nil))) .nil) .nil)))))) [0, 1, 3, 4, 5, 8, 9] [[], [], [1], [0, 1, 2], [0, 1, 2, 3], [], [1, 2, 5], [1, 2, 5, 6], [], [0, 1, 2, 3, 4, 5, 6, 7, 8], [], [0, 1, 2, 3, 4, 5, 6, 7, 8, 9, 10]] MX (by kernel_rfl) ?_
    intro w1 hw1 hw2 hw3 hw4; replace hs := hs.redrawn hw1 hw2 hw3 hw4; clear hw1 hw2 hw3 hw4
    obtain ⟨w, rfl⟩ : ∃ w : World, w = w1 := ⟨_, rfl⟩
    refine T_q rfl rfl ?_
    refine s_move rfl rfl ?_
    refine T_qn ?_
    refine T_q rfl rfl ?_
    refine s_move rfl rfl ?_
    refine T_qn ?_
    refine T_q rfl rfl ?_
    refine s_move rfl rfl ?_
    refine T_qn ?_
    refine T_q rfl rfl ?_
    refine s_build rfl rfl (BD25_0_1_2 _ _ _) ?_
    refine T_qn ?_
    refine T_e rfl ?_ ?_
    · skip
      refine s_call Try.call32 rfl rfl (pick_ok _ xs 3 2 w (hv.fwd0 hs.fwd) hx (by omega)) ?_
      rintro r w1 ⟨hw1, rfl⟩
      rw [hw1, hq3]; clear hw1 w1
      refine T_en ?re ?_
      case re =>
        refine Reks_cons rfl rfl rfl rfl ?_ ?_
        · skip
          refine s_move rfl rfl ?_
          exact Rek_end rfl
        refine Reks_cons rfl rfl rfl rfl ?_ ?_
        · skip
          refine s_move rfl rfl ?_
          exact Rek_end rfl
        refine Reks_cons rfl rfl rfl rfl ?_ ?_
        · skip
          refine s_build rfl rfl (BD25_0_1_2 _ _ _) ?_
          exact Rek_end rfl
        exact Reks_nil
      refine T_q rfl rfl ?_
      (refine s_indexAddr1 El63 rfl rfl rfl ?hx ?_; case hx => (constructor <;> first | omega | (simp; omega)))
      refine T_qn ?_
      refine T_q rfl rfl ?_
      first
        | refine s_load Try.isAgg9 rfl rfl (hs.cell (k := 0) rfl (nameS_at (by omega))) ?_
        | refine s_load Try.isAgg9 rfl rfl (hs.cell (k := 1) rfl (nameS_at (by omega))) ?_
      refine T_qn ?_
      refine T_e rfl ?_ ?_
      · skip
        refine s_call Try.call32 rfl rfl (pick_ok _ xs 4 4 w (hv.fwd0 hs.fwd) hx (by omega)) ?_
        rintro r w1 ⟨hw1, rfl⟩
        rw [hw1, hq4]; clear hw1 w1
        refine T_en ?re ?_
        case re =>
          refine Reks_cons rfl rfl rfl rfl ?_ ?_
          · skip
            refine s_move rfl rfl ?_
            exact Rek_end rfl
          refine Reks_cons rfl rfl rfl rfl ?_ ?_
          · skip
            refine s_build rfl rfl (BD25_0_1_2 _ _ _) ?_
            exact Rek_end rfl
          refine Reks_cons rfl rfl rfl rfl ?_ ?_
          · skip
            (refine s_indexAddr1 El63 rfl rfl rfl ?hx ?_; case hx => (constructor <;> first | omega | (simp; omega)))
            exact Rek_end rfl
          refine Reks_cons rfl rfl rfl rfl ?_ ?_
          · skip
            first
              | refine s_load Try.isAgg9 rfl rfl (hs.cell (k := 0) rfl (nameS_at (by omega))) ?_
              | refine s_load Try.isAgg9 rfl rfl (hs.cell (k := 1) rfl (nameS_at (by omega))) ?_
            exact Rek_end rfl
          exact Reks_nil
        refine T_e rfl ?_ ?_
        · skip
          refine s_call Try.call33 rfl rfl (genLabels_ok p4 w (by unfold isI64; omega)) ?_
          rintro r w ⟨ls, Lr, hO, hlp, hl2, hls, hst⟩
          replace hs := (St.back0 hs hst).swap
          clear hst
          simp only [List.cons_append, List.nil_append] at hs
          obtain ⟨_, oc, oa, rfl, rfl⟩ := hO.form
          refine T_en ?re ?_
          case re =>
            refine Reks_cons rfl rfl rfl rfl ?_ ?_
            · skip
              refine s_move rfl rfl ?_
              exact Rek_end rfl
            refine Reks_cons rfl rfl rfl rfl ?_ ?_
            · skip
              refine s_build rfl rfl (BD25_0_1_2 _ _ _) ?_
              exact Rek_end rfl
            refine Reks_cons rfl rfl rfl rfl ?_ ?_
            · skip
              (refine s_indexAddr1 El63 rfl rfl rfl ?hx ?_; case hx => (constructor <;> first | omega | (simp; omega)))
              exact Rek_end rfl
            refine Reks_cons rfl rfl rfl rfl ?_ ?_
            · skip
              first
                | refine s_load Try.isAgg9 rfl rfl (hs.cell (k := 0) rfl (nameS_at (by omega))) ?_
                | refine s_load Try.isAgg9 rfl rfl (hs.cell (k := 1) rfl (nameS_at (by omega))) ?_
              exact Rek_end rfl
            exact Reks_nil
          refine T_q rfl rfl ?_
          refine s_build rfl rfl (BD27_0_1_2 _ _ _ _ _ _ _) ?_
          refine T_qn ?_
          refine T_e rfl ?_ ?_
          · skip
            refine s_alloc rfl AL27 hs ?_; clear hs; intro b7 w hs
            refine T_en ?re ?_
            case re =>
              refine Reks_cons rfl rfl rfl rfl ?_ ?_
              · skip
                refine s_move rfl rfl ?_
                exact Rek_end rfl
              refine Reks_cons rfl rfl rfl rfl ?_ ?_
              · skip
                refine s_move rfl rfl ?_
                exact Rek_end rfl
              refine Reks_cons rfl rfl rfl rfl ?_ ?_
              · skip
                refine s_move rfl rfl ?_
                exact Rek_end rfl
              refine Reks_cons rfl rfl rfl rfl ?_ ?_
              · skip
                refine s_build rfl rfl (BD25_0_1_2 _ _ _) ?_
                exact Rek_end rfl
              refine Reks_cons rfl rfl rfl rfl ?_ ?_
              · skip
                (refine s_indexAddr1 El63 rfl rfl rfl ?hx ?_; case hx => (constructor <;> first | omega | (simp; omega)))
                exact Rek_end rfl
              refine Reks_cons rfl rfl rfl rfl ?_ ?_
              · skip
                first
                  | refine s_load Try.isAgg9 rfl rfl (hs.cell (k := 0) rfl (nameS_at (by omega))) ?_
                  | refine s_load Try.isAgg9 rfl rfl (hs.cell (k := 1) rfl (nameS_at (by omega))) ?_
                exact Rek_end rfl
              refine Reks_cons rfl rfl rfl rfl ?_ ?_
              · skip
                refine s_build rfl rfl (BD27_0_1_2 _ _ _ _ _ _ _) ?_
                exact Rek_end rfl
              exact Reks_nil
            refine T_e rfl ?_ ?_
            · skip
              first
                | refine s_storeW Try.sizeOf27 rfl rfl rfl rfl hs (kk := 0) rfl rfl ?_
                | refine s_storeW Try.sizeOf27 rfl rfl rfl rfl hs (kk := 1) rfl rfl ?_
                | refine s_storeW Try.sizeOf27 rfl rfl rfl rfl hs (kk := 2) rfl rfl ?_
                | refine s_storeAB Try.sizeOf27 rfl rfl rfl rfl hs (kk := 0) rfl rfl ?_
                | refine s_storeAB Try.sizeOf27 rfl rfl rfl rfl hs (kk := 1) rfl rfl ?_
                | refine s_storeAB Try.sizeOf27 rfl rfl rfl rfl hs (kk := 2) rfl rfl ?_
              clear hs; intro w hs; try simp only [List.set_cons_zero, List.set_cons_succ, splice, List.take_succ_cons, List.take_zero, List.drop_succ_cons, List.drop_zero, List.nil_append, List.cons_append, List.length_cons, List.length_nil, Nat.reduceAdd, List.append_assoc] at hs
              refine T_en ?re ?_
              case re =>
                exact Reks_nil
              refine T_nil ?_
              refine n_loop ?_
              exact ⟨(_, _, Lr, ls), ⟨rfl, rfl, rfl, rfl, rfl, rfl, trivial⟩, hs, hO, hlp, hl2, hls, ⟨_, _, _, rfl⟩⟩
            exact T_alt0
          exact T_alt0
        refine T_e rfl ?_ ?_
        · skip
          refine s_alloc rfl AL27 hs ?_; clear hs; intro b7 w hs
          refine T_en ?re ?_
          case re =>
            refine Reks_cons rfl rfl rfl rfl ?_ ?_
            · skip
              refine s_move rfl rfl ?_
              exact Rek_end rfl
            refine Reks_cons rfl rfl rfl rfl ?_ ?_
            · skip
              refine s_move rfl rfl ?_
              exact Rek_end rfl
            refine Reks_cons rfl rfl rfl rfl ?_ ?_
            · skip
              refine s_move rfl rfl ?_
              exact Rek_end rfl
            refine Reks_cons rfl rfl rfl rfl ?_ ?_
            · skip
              refine s_build rfl rfl (BD25_0_1_2 _ _ _) ?_
              exact Rek_end rfl
            refine Reks_cons rfl rfl rfl rfl ?_ ?_
            · skip
              (refine s_indexAddr1 El63 rfl rfl rfl ?hx ?_; case hx => (constructor <;> first | omega | (simp; omega)))
              exact Rek_end rfl
            refine Reks_cons rfl rfl rfl rfl ?_ ?_
            · skip
              first
                | refine s_load Try.isAgg9 rfl rfl (hs.cell (k := 0) rfl (nameS_at (by omega))) ?_
                | refine s_load Try.isAgg9 rfl rfl (hs.cell (k := 1) rfl (nameS_at (by omega))) ?_
              exact Rek_end rfl
            exact Reks_nil
          refine T_e rfl ?_ ?_
          · skip
            refine s_call Try.call33 rfl rfl (genLabels_ok p4 w (by unfold isI64; omega)) ?_
            rintro r w ⟨ls, Lr, hO, hlp, hl2, hls, hst⟩
            replace hs := (St.back0 hs hst).swap
            clear hst
            simp only [List.cons_append, List.nil_append] at hs
            obtain ⟨_, oc, oa, rfl, rfl⟩ := hO.form
            refine T_en ?re ?_
            case re =>
              refine Reks_cons rfl rfl rfl rfl ?_ ?_
              · skip
                refine s_move rfl rfl ?_
                exact Rek_end rfl
              refine Reks_cons rfl rfl rfl rfl ?_ ?_
              · skip
                refine s_build rfl rfl (BD25_0_1_2 _ _ _) ?_
                exact Rek_end rfl
              refine Reks_cons rfl rfl rfl rfl ?_ ?_
              · skip
                (refine s_indexAddr1 El63 rfl rfl rfl ?hx ?_; case hx => (constructor <;> first | omega | (simp; omega)))
                exact Rek_end rfl
              refine Reks_cons rfl rfl rfl rfl ?_ ?_
              · skip
                first
                  | refine s_load Try.isAgg9 rfl rfl (hs.cell (k := 0) rfl (nameS_at (by omega))) ?_
                  | refine s_load Try.isAgg9 rfl rfl (hs.cell (k := 1) rfl (nameS_at (by omega))) ?_
                exact Rek_end rfl
              exact Reks_nil
            refine T_q rfl rfl ?_
            refine s_build rfl rfl (BD27_0_1_2 _ _ _ _ _ _ _) ?_
            refine T_qn ?_
            refine T_e rfl ?_ ?_
            · skip
              first
                | refine s_storeW Try.sizeOf27 rfl rfl rfl rfl hs (kk := 0) rfl rfl ?_
                | refine s_storeW Try.sizeOf27 rfl rfl rfl rfl hs (kk := 1) rfl rfl ?_
                | refine s_storeW Try.sizeOf27 rfl rfl rfl rfl hs (kk := 2) rfl rfl ?_
                | refine s_storeAB Try.sizeOf27 rfl rfl rfl rfl hs (kk := 0) rfl rfl ?_
                | refine s_storeAB Try.sizeOf27 rfl rfl rfl rfl hs (kk := 1) rfl rfl ?_
                | refine s_storeAB Try.sizeOf27 rfl rfl rfl rfl hs (kk := 2) rfl rfl ?_
              clear hs; intro w hs; try simp only [List.set_cons_zero, List.set_cons_succ, splice, List.take_succ_cons, List.take_zero, List.drop_succ_cons, List.drop_zero, List.nil_append, List.cons_append, List.length_cons, List.length_nil, Nat.reduceAdd, List.append_assoc] at hs
              refine T_en ?re ?_
              case re =>
                exact Reks_nil
              refine T_nil ?_
              refine n_loop ?_
              exact ⟨(_, _, Lr, ls), ⟨rfl, rfl, rfl, rfl, rfl, rfl, trivial⟩, hs, hO, hlp, hl2, hls, ⟨_, _, _, rfl⟩⟩
            exact T_alt0
          exact T_alt0
        exact T_alt0
      refine T_e rfl ?_ ?_
      · skip
        refine s_alloc rfl AL27 hs ?_; clear hs; intro b7 w hs
        refine T_en ?re ?_
        case re =>
          refine Reks_cons rfl rfl rfl rfl ?_ ?_
          · skip
            refine s_move rfl rfl ?_
            exact Rek_end rfl
          refine Reks_cons rfl rfl rfl rfl ?_ ?_
          · skip
            refine s_move rfl rfl ?_
            exact Rek_end rfl
          refine Reks_cons rfl rfl rfl rfl ?_ ?_
          · skip
            refine s_move rfl rfl ?_
            exact Rek_end rfl
          refine Reks_cons rfl rfl rfl rfl ?_ ?_
          · skip
            refine s_build rfl rfl (BD25_0_1_2 _ _ _) ?_
            exact Rek_end rfl
          refine Reks_cons rfl rfl rfl rfl ?_ ?_
          · skip
            (refine s_indexAddr1 El63 rfl rfl rfl ?hx ?_; case hx => (constructor <;> first | omega | (simp; omega)))
            exact Rek_end rfl
          refine Reks_cons rfl rfl rfl rfl ?_ ?_
          · skip
            first
              | refine s_load Try.isAgg9 rfl rfl (hs.cell (k := 0) rfl (nameS_at (by omega))) ?_
              | refine s_load Try.isAgg9 rfl rfl (hs.cell (k := 1) rfl (nameS_at (by omega))) ?_
            exact Rek_end rfl
          exact Reks_nil
        refine T_e rfl ?_ ?_
        · skip
          refine s_call Try.call32 rfl rfl (pick_ok _ xs 4 4 w (hv.fwd0 hs.fwd) hx (by omega)) ?_
          rintro r w1 ⟨hw1, rfl⟩
          rw [hw1, hq4]; clear hw1 w1
          refine T_en ?re ?_
          case re =>
            refine Reks_cons rfl rfl rfl rfl ?_ ?_
            · skip
              refine s_move rfl rfl ?_
              exact Rek_end rfl
            refine Reks_cons rfl rfl rfl rfl ?_ ?_
            · skip
              refine s_build rfl rfl (BD25_0_1_2 _ _ _) ?_
              exact Rek_end rfl
            refine Reks_cons rfl rfl rfl rfl ?_ ?_
            · skip
              (refine s_indexAddr1 El63 rfl rfl rfl ?hx ?_; case hx => (constructor <;> first | omega | (simp; omega)))
              exact Rek_end rfl
            refine Reks_cons rfl rfl rfl rfl ?_ ?_
            · skip
              first
                | refine s_load Try.isAgg9 rfl rfl (hs.cell (k := 0) rfl (nameS_at (by omega))) ?_
                | refine s_load Try.isAgg9 rfl rfl (hs.cell (k := 1) rfl (nameS_at (by omega))) ?_
              exact Rek_end rfl
            exact Reks_nil
          refine T_e rfl ?_ ?_
          · skip
            refine s_call Try.call33 rfl rfl (genLabels_ok p4 w (by unfold isI64; omega)) ?_
            rintro r w ⟨ls, Lr, hO, hlp, hl2, hls, hst⟩
            replace hs := (St.back0 hs hst).swap
            clear hst
            simp only [List.cons_append, List.nil_append] at hs
            obtain ⟨_, oc, oa, rfl, rfl⟩ := hO.form
            refine T_en ?re ?_
            case re =>
              refine Reks_cons rfl rfl rfl rfl ?_ ?_
              · skip
                refine s_move rfl rfl ?_
                exact Rek_end rfl
              refine Reks_cons rfl rfl rfl rfl ?_ ?_
              · skip
                refine s_build rfl rfl (BD25_0_1_2 _ _ _) ?_
                exact Rek_end rfl
              refine Reks_cons rfl rfl rfl rfl ?_ ?_
              · skip
                (refine s_indexAddr1 El63 rfl rfl rfl ?hx ?_; case hx => (constructor <;> first | omega | (simp; omega)))
                exact Rek_end rfl
              refine Reks_cons rfl rfl rfl rfl ?_ ?_
              · skip
                first
                  | refine s_load Try.isAgg9 rfl rfl (hs.cell (k := 0) rfl (nameS_at (by omega))) ?_
                  | refine s_load Try.isAgg9 rfl rfl (hs.cell (k := 1) rfl (nameS_at (by omega))) ?_
                exact Rek_end rfl
              exact Reks_nil
            refine T_q rfl rfl ?_
            refine s_build rfl rfl (BD27_0_1_2 _ _ _ _ _ _ _) ?_
            refine T_qn ?_
            refine T_e rfl ?_ ?_
            · skip
              first
                | refine s_storeW Try.sizeOf27 rfl rfl rfl rfl hs (kk := 0) rfl rfl ?_
                | refine s_storeW Try.sizeOf27 rfl rfl rfl rfl hs (kk := 1) rfl rfl ?_
                | refine s_storeW Try.sizeOf27 rfl rfl rfl rfl hs (kk := 2) rfl rfl ?_
                | refine s_storeAB Try.sizeOf27 rfl rfl rfl rfl hs (kk := 0) rfl rfl ?_
                | refine s_storeAB Try.sizeOf27 rfl rfl rfl rfl hs (kk := 1) rfl rfl ?_
                | refine s_storeAB Try.sizeOf27 rfl rfl rfl rfl hs (kk := 2) rfl rfl ?_
              clear hs; intro w hs; try simp only [List.set_cons_zero, List.set_cons_succ, splice, List.take_succ_cons, List.take_zero, List.drop_succ_cons, List.drop_zero, List.nil_append, List.cons_append, List.length_cons, List.length_nil, Nat.reduceAdd, List.append_assoc] at hs
              refine T_en ?re ?_
              case re =>
                exact Reks_nil
              refine T_nil ?_
              refine n_loop ?_
              exact ⟨(_, _, Lr, ls), ⟨rfl, rfl, rfl, rfl, rfl, rfl, trivial⟩, hs, hO, hlp, hl2, hls, ⟨_, _, _, rfl⟩⟩
            exact T_alt0
          exact T_alt0
        exact T_alt0
      exact T_alt0
    refine T_e rfl ?_ ?_
    · skip
      refine s_alloc rfl AL27 hs ?_; clear hs; intro b7 w hs
      refine T_en ?re ?_
      case re =>
        refine Reks_cons rfl rfl rfl rfl ?_ ?_
        · skip
          refine s_move rfl rfl ?_
          exact Rek_end rfl
        refine Reks_cons rfl rfl rfl rfl ?_ ?_
        · skip
          refine s_move rfl rfl ?_
          exact Rek_end rfl
        refine Reks_cons rfl rfl rfl rfl ?_ ?_
        · skip
          refine s_move rfl rfl ?_
          exact Rek_end rfl
        refine Reks_cons rfl rfl rfl rfl ?_ ?_
        · skip
          refine s_build rfl rfl (BD25_0_1_2 _ _ _) ?_
          exact Rek_end rfl
        exact Reks_nil
      refine T_e rfl ?_ ?_
      · skip
        refine s_call Try.call32 rfl rfl (pick_ok _ xs 3 2 w (hv.fwd0 hs.fwd) hx (by omega)) ?_
        rintro r w1 ⟨hw1, rfl⟩
        rw [hw1, hq3]; clear hw1 w1
        refine T_en ?re ?_
        case re =>
          refine Reks_cons rfl rfl rfl rfl ?_ ?_
          · skip
            refine s_move rfl rfl ?_
            exact Rek_end rfl
          refine Reks_cons rfl rfl rfl rfl ?_ ?_
          · skip
            refine s_move rfl rfl ?_
            exact Rek_end rfl
          refine Reks_cons rfl rfl rfl rfl ?_ ?_
          · skip
            refine s_build rfl rfl (BD25_0_1_2 _ _ _) ?_
            exact Rek_end rfl
          exact Reks_nil
        refine T_q rfl rfl ?_
        (refine s_indexAddr1 El63 rfl rfl rfl ?hx ?_; case hx => (constructor <;> first | omega | (simp; omega)))
        refine T_qn ?_
        refine T_q rfl rfl ?_
        first
          | refine s_load Try.isAgg9 rfl rfl (hs.cell (k := 0) rfl (nameS_at (by omega))) ?_
          | refine s_load Try.isAgg9 rfl rfl (hs.cell (k := 1) rfl (nameS_at (by omega))) ?_
        refine T_qn ?_
        refine T_e rfl ?_ ?_
        · skip
          refine s_call Try.call32 rfl rfl (pick_ok _ xs 4 4 w (hv.fwd0 hs.fwd) hx (by omega)) ?_
          rintro r w1 ⟨hw1, rfl⟩
          rw [hw1, hq4]; clear hw1 w1
          refine T_en ?re ?_
          case re =>
            refine Reks_cons rfl rfl rfl rfl ?_ ?_
            · skip
              refine s_move rfl rfl ?_
              exact Rek_end rfl
            refine Reks_cons rfl rfl rfl rfl ?_ ?_
            · skip
              refine s_build rfl rfl (BD25_0_1_2 _ _ _) ?_
              exact Rek_end rfl
            refine Reks_cons rfl rfl rfl rfl ?_ ?_
            · skip
              (refine s_indexAddr1 El63 rfl rfl rfl ?hx ?_; case hx => (constructor <;> first | omega | (simp; omega)))
              exact Rek_end rfl
            refine Reks_cons rfl rfl rfl rfl ?_ ?_
            · skip
              first
                | refine s_load Try.isAgg9 rfl rfl (hs.cell (k := 0) rfl (nameS_at (by omega))) ?_
                | refine s_load Try.isAgg9 rfl rfl (hs.cell (k := 1) rfl (nameS_at (by omega))) ?_
              exact Rek_end rfl
            exact Reks_nil
          refine T_e rfl ?_ ?_
          · skip
            refine s_call Try.call33 rfl rfl (genLabels_ok p4 w (by unfold isI64; omega)) ?_
            rintro r w ⟨ls, Lr, hO, hlp, hl2, hls, hst⟩
            replace hs := (St.back0 hs hst).swap
            clear hst
            simp only [List.cons_append, List.nil_append] at hs
            obtain ⟨_, oc, oa, rfl, rfl⟩ := hO.form
            refine T_en ?re ?_
            case re =>
              refine Reks_cons rfl rfl rfl rfl ?_ ?_
              · skip
                refine s_move rfl rfl ?_
                exact Rek_end rfl
              refine Reks_cons rfl rfl rfl rfl ?_ ?_
              · skip
                refine s_build rfl rfl (BD25_0_1_2 _ _ _) ?_
                exact Rek_end rfl
              refine Reks_cons rfl rfl rfl rfl ?_ ?_
              · skip
                (refine s_indexAddr1 El63 rfl rfl rfl ?hx ?_; case hx => (constructor <;> first | omega | (simp; omega)))
                exact Rek_end rfl
              refine Reks_cons rfl rfl rfl rfl ?_ ?_
              · skip
                first
                  | refine s_load Try.isAgg9 rfl rfl (hs.cell (k := 0) rfl (nameS_at (by omega))) ?_
                  | refine s_load Try.isAgg9 rfl rfl (hs.cell (k := 1) rfl (nameS_at (by omega))) ?_
                exact Rek_end rfl
              exact Reks_nil
            refine T_q rfl rfl ?_
            refine s_build rfl rfl (BD27_0_1_2 _ _ _ _ _ _ _) ?_
            refine T_qn ?_
            refine T_e rfl ?_ ?_
            · skip
              first
                | refine s_storeW Try.sizeOf27 rfl rfl rfl rfl hs (kk := 0) rfl rfl ?_
                | refine s_storeW Try.sizeOf27 rfl rfl rfl rfl hs (kk := 1) rfl rfl ?_
                | refine s_storeW Try.sizeOf27 rfl rfl rfl rfl hs (kk := 2) rfl rfl ?_
                | refine s_storeAB Try.sizeOf27 rfl rfl rfl rfl hs (kk := 0) rfl rfl ?_
                | refine s_storeAB Try.sizeOf27 rfl rfl rfl rfl hs (kk := 1) rfl rfl ?_
                | refine s_storeAB Try.sizeOf27 rfl rfl rfl rfl hs (kk := 2) rfl rfl ?_
              clear hs; intro w hs; try simp only [List.set_cons_zero, List.set_cons_succ, splice, List.take_succ_cons, List.take_zero, List.drop_succ_cons, List.drop_zero, List.nil_append, List.cons_append, List.length_cons, List.length_nil, Nat.reduceAdd, List.append_assoc] at hs
              refine T_en ?re ?_
              case re =>
                exact Reks_nil
              refine T_nil ?_
              refine n_loop ?_
              exact ⟨(_, _, Lr, ls), ⟨rfl, rfl, rfl, rfl, rfl, rfl, trivial⟩, hs, hO, hlp, hl2, hls, ⟨_, _, _, rfl⟩⟩
            exact T_alt0
          exact T_alt0
        exact T_alt0
      exact T_alt0
    exact T_alt0
  · skip
    clear hs
    rintro ⟨b7, lv, Lr, ls⟩ w ⟨hs, hO, hlp, hl2, hls, ⟨la, lm, lc, hlv⟩⟩
    simp only at hs hO hlp hl2 hls hlv ⊢
    subst hlv
    refine W_seq ?_
    refine W_region ?_
    refine s_move rfl rfl ?_
    refine s_fieldAddr rfl rfl (FA27_3 _ _) ?_
    first
      | refine s_storeB Try.sizeOf3 rfl rfl rfl hs (kk := 0) rfl rfl ?_
      | refine s_storeB Try.sizeOf3 rfl rfl rfl hs (kk := 1) rfl rfl ?_
      | refine s_storeB Try.sizeOf3 rfl rfl rfl hs (kk := 2) rfl rfl ?_
    clear hs; intro w hs; try simp only [List.set_cons_zero, List.set_cons_succ, splice, List.take_succ_cons, List.take_zero, List.drop_succ_cons, List.drop_zero, List.nil_append, List.cons_append, List.length_cons, List.length_nil, Nat.reduceAdd, List.append_assoc] at hs
    refine WL_nil ?_
    refine n_then ?_
    refine W_seq ?_
    refine W_region ?_
    refine s_move rfl rfl ?_
    refine s_move rfl rfl ?_
    refine s_call Try.call32 rfl rfl (pick_ok _ xs 5 17 w (hv.fwd0 hs.fwd) hx (by omega)) ?_
    rintro r w1 ⟨hw1, rfl⟩
    rw [hw1, hq5]; clear hw1 w1
    first | (refine s_add' rfl rfl rfl ?hx ?_; case hx => (constructor <;> first | omega | (simp only; omega))) | refine s_add rfl rfl rfl ?_
    refine s_fieldAddr rfl rfl (FA27_4 _ _) ?_
    first
      | refine s_storeB Try.sizeOf3 rfl rfl rfl hs (kk := 0) rfl rfl ?_
      | refine s_storeB Try.sizeOf3 rfl rfl rfl hs (kk := 1) rfl rfl ?_
      | refine s_storeB Try.sizeOf3 rfl rfl rfl hs (kk := 2) rfl rfl ?_
    clear hs; intro w hs; try simp only [List.set_cons_zero, List.set_cons_succ, splice, List.take_succ_cons, List.take_zero, List.drop_succ_cons, List.drop_zero, List.nil_append, List.cons_append, List.length_cons, List.length_nil, Nat.reduceAdd, List.append_assoc] at hs
    refine WL_nil ?_
    refine n_then ?_
    refine W_seq ?_
    refine W_region ?_
    refine s_move rfl rfl ?_
    refine s_fieldAddr rfl rfl (FA27_5 _ _) ?_
    first
      | refine s_storeB Try.sizeOf3 rfl rfl rfl hs (kk := 0) rfl rfl ?_
      | refine s_storeB Try.sizeOf3 rfl rfl rfl hs (kk := 1) rfl rfl ?_
      | refine s_storeB Try.sizeOf3 rfl rfl rfl hs (kk := 2) rfl rfl ?_
    clear hs; intro w hs; try simp only [List.set_cons_zero, List.set_cons_succ, splice, List.take_succ_cons, List.take_zero, List.drop_succ_cons, List.drop_zero, List.nil_append, List.cons_append, List.length_cons, List.length_nil, Nat.reduceAdd, List.append_assoc] at hs
    refine WL_nil ?_
    refine n_then ?_
    refine W_seq ?_
    refine W_region ?_
    refine s_move rfl rfl ?_
    refine s_move rfl rfl ?_
    refine s_call Try.call32 rfl rfl (pick_ok _ xs 6 4 w (hv.fwd0 hs.fwd) hx (by omega)) ?_
    rintro r w1 ⟨hw1, rfl⟩
    rw [hw1, hq6]; clear hw1 w1
    first | (refine s_add' rfl rfl rfl ?hx ?_; case hx => (constructor <;> first | omega | (simp only; omega))) | refine s_add rfl rfl rfl ?_
    refine s_fieldAddr rfl rfl (FA27_6 _ _) ?_
    first
      | refine s_storeB Try.sizeOf3 rfl rfl rfl hs (kk := 0) rfl rfl ?_
      | refine s_storeB Try.sizeOf3 rfl rfl rfl hs (kk := 1) rfl rfl ?_
      | refine s_storeB Try.sizeOf3 rfl rfl rfl hs (kk := 2) rfl rfl ?_
    clear hs; intro w hs; try simp only [List.set_cons_zero, List.set_cons_succ, splice, List.take_succ_cons, List.take_zero, List.drop_succ_cons, List.drop_zero, List.nil_append, List.cons_append, List.length_cons, List.length_nil, Nat.reduceAdd, List.append_assoc] at hs
    refine WL_nil ?_
    refine n_then ?_
    refine W_seq ?_
    refine W_region ?_
    refine s_move rfl rfl ?_
    refine s_fieldAddr rfl rfl (FA27_7 _ _) ?_
    first
      | refine s_storeB Try.sizeOf3 rfl rfl rfl hs (kk := 0) rfl rfl ?_
      | refine s_storeB Try.sizeOf3 rfl rfl rfl hs (kk := 1) rfl rfl ?_
      | refine s_storeB Try.sizeOf3 rfl rfl rfl hs (kk := 2) rfl rfl ?_
    clear hs; intro w hs; try simp only [List.set_cons_zero, List.set_cons_succ, splice, List.take_succ_cons, List.take_zero, List.drop_succ_cons, List.drop_zero, List.nil_append, List.cons_append, List.length_cons, List.length_nil, Nat.reduceAdd, List.append_assoc] at hs
    refine WL_nil ?_
    refine n_then ?_
    refine W_seq ?_
    refine W_region ?_
    refine s_move rfl rfl ?_
    refine s_move rfl rfl ?_
    refine s_call Try.call32 rfl rfl (pick_ok _ xs 7 14 w (hv.fwd0 hs.fwd) hx (by omega)) ?_
    rintro r w1 ⟨hw1, rfl⟩
    rw [hw1, hq7]; clear hw1 w1
    first | (refine s_add' rfl rfl rfl ?hx ?_; case hx => (constructor <;> first | omega | (simp only; omega))) | refine s_add rfl rfl rfl ?_
    refine s_fieldAddr rfl rfl (FA27_8 _ _) ?_
    first
      | refine s_storeB Try.sizeOf3 rfl rfl rfl hs (kk := 0) rfl rfl ?_
      | refine s_storeB Try.sizeOf3 rfl rfl rfl hs (kk := 1) rfl rfl ?_
      | refine s_storeB Try.sizeOf3 rfl rfl rfl hs (kk := 2) rfl rfl ?_
    clear hs; intro w hs; try simp only [List.set_cons_zero, List.set_cons_succ, splice, List.take_succ_cons, List.take_zero, List.drop_succ_cons, List.drop_zero, List.nil_append, List.cons_append, List.length_cons, List.length_nil, Nat.reduceAdd, List.append_assoc] at hs
    refine WL_nil ?_
    refine n_then ?_
    refine W_seq ?_
    refine W_region ?_
    refine s_move rfl rfl ?_
    refine s_call Try.call32 rfl rfl (pick_ok _ xs 8 40 w (hv.fwd0 hs.fwd) hx (by omega)) ?_
    rintro r w1 ⟨hw1, rfl⟩
    rw [hw1, hq8]; clear hw1 w1
    refine s_fieldAddr rfl rfl (FA27_9 _ _) ?_
    first
      | refine s_storeB Try.sizeOf3 rfl rfl rfl hs (kk := 0) rfl rfl ?_
      | refine s_storeB Try.sizeOf3 rfl rfl rfl hs (kk := 1) rfl rfl ?_
      | refine s_storeB Try.sizeOf3 rfl rfl rfl hs (kk := 2) rfl rfl ?_
    clear hs; intro w hs; try simp only [List.set_cons_zero, List.set_cons_succ, splice, List.take_succ_cons, List.take_zero, List.drop_succ_cons, List.drop_zero, List.nil_append, List.cons_append, List.length_cons, List.length_nil, Nat.reduceAdd, List.append_assoc] at hs
    refine WL_nil ?_
    refine n_then ?_
    refine W_seq ?_
    refine W_region ?_
    first
      | refine s_loadW Try.isAgg27 Try.sizeOf27 rfl rfl hs (kk := 0) rfl rfl ?_
      | refine s_loadW Try.isAgg27 Try.sizeOf27 rfl rfl hs (kk := 1) rfl rfl ?_
      | refine s_loadW Try.isAgg27 Try.sizeOf27 rfl rfl hs (kk := 2) rfl rfl ?_
      | refine s_load_12 Try.isAgg27 Try.sizeOf27 rfl rfl (by first | exact hs.cell (k := 0) rfl rfl | exact hs.cell (k := 1) rfl rfl | exact hs.cell (k := 2) rfl rfl) (by first | exact hs.cell (k := 0) rfl rfl | exact hs.cell (k := 1) rfl rfl | exact hs.cell (k := 2) rfl rfl) (by first | exact hs.cell (k := 0) rfl rfl | exact hs.cell (k := 1) rfl rfl | exact hs.cell (k := 2) rfl rfl) (by first | exact hs.cell (k := 0) rfl rfl | exact hs.cell (k := 1) rfl rfl | exact hs.cell (k := 2) rfl rfl) (by first | exact hs.cell (k := 0) rfl rfl | exact hs.cell (k := 1) rfl rfl | exact hs.cell (k := 2) rfl rfl) (by first | exact hs.cell (k := 0) rfl rfl | exact hs.cell (k := 1) rfl rfl | exact hs.cell (k := 2) rfl rfl) (by first | exact hs.cell (k := 0) rfl rfl | exact hs.cell (k := 1) rfl rfl | exact hs.cell (k := 2) rfl rfl) (by first | exact hs.cell (k := 0) rfl rfl | exact hs.cell (k := 1) rfl rfl | exact hs.cell (k := 2) rfl rfl) (by first | exact hs.cell (k := 0) rfl rfl | exact hs.cell (k := 1) rfl rfl | exact hs.cell (k := 2) rfl rfl) (by first | exact hs.cell (k := 0) rfl rfl | exact hs.cell (k := 1) rfl rfl | exact hs.cell (k := 2) rfl rfl) (by first | exact hs.cell (k := 0) rfl rfl | exact hs.cell (k := 1) rfl rfl | exact hs.cell (k := 2) rfl rfl) (by first | exact hs.cell (k := 0) rfl rfl | exact hs.cell (k := 1) rfl rfl | exact hs.cell (k := 2) rfl rfl) ?_
    first
      | refine s_storeW Try.sizeOf27 rfl rfl rfl rfl hs (kk := 0) rfl rfl ?_
      | refine s_storeW Try.sizeOf27 rfl rfl rfl rfl hs (kk := 1) rfl rfl ?_
      | refine s_storeW Try.sizeOf27 rfl rfl rfl rfl hs (kk := 2) rfl rfl ?_
      | refine s_storeAB Try.sizeOf27 rfl rfl rfl rfl hs (kk := 0) rfl rfl ?_
      | refine s_storeAB Try.sizeOf27 rfl rfl rfl rfl hs (kk := 1) rfl rfl ?_
      | refine s_storeAB Try.sizeOf27 rfl rfl rfl rfl hs (kk := 2) rfl rfl ?_
    clear hs; intro w hs; try simp only [List.set_cons_zero, List.set_cons_succ, splice, List.take_succ_cons, List.take_zero, List.drop_succ_cons, List.drop_zero, List.nil_append, List.cons_append, List.length_cons, List.length_nil, Nat.reduceAdd, List.append_assoc] at hs
    refine WL_nil ?_
    refine n_then ?_
    refine W_ret ?_
    refine end1 rfl (resOk_block Try.isAgg27 Try.sizeOf27 hs rfl (kk := 2) rfl rfl) ?_
    refine ⟨⟨nameS j3, .slice la lm lc, 1, 0, 0, p0 - 9, p0 - 9 + p5, p1 - 3, p1 - 3 + p6, p2, p2 + p7, p8⟩, ls, Lr, rfl, ⟨(nameS_ok (by omega)).1, (nameS_ok (by omega)).2, ⟨rfl, rfl, rfl⟩, by simp only; omega, by simp only; omega, by simp only; omega, by simp only; omega, by simp only; omega, by simp only; omega, by simp only; omega⟩, hO, hlp, hl2, hls, hs.tail.tail.tail⟩
end Go.Proofs.Ytmjjdcfakkaiiaa
