/- DeclComposes and DeclReverses: the walks. -/
import Derived.Test.YtmjjdcfakkaiiaaDeD
set_option linter.unusedVariables false
set_option linter.unusedSimpArgs false
namespace Go.Proofs.Ytmjjdcfakkaiiaa
open Go.SL
set_option maxHeartbeats 2000000 in
theorem declComposes_ok (v : Value) (xs : List Int) (s t u lo hi : Int) (w0 : World) (hv : Sl w0 v xs.length (i64s xs)) (hx : ∀ z ∈ xs, isI64 z) (hs1 : isI64 s) (ht1 : isI64 t) (hu1 : isI64 u) (hlo : isI64 lo) (hhi : isI64 hi) :
    Ret Try.prog 5 [v, .int .i64 s, .int .i64 t, .int .i64 u, .int .i64 lo, .int .i64 hi].toArray w0 fun r w' => Fwd [] w0 w' ∧ r = .bool true := by
  refine Ret_start fun w hs => ?_
  refine Ret_of Try.func5 rfl Try.ntmps5 rfl ?_
  refine W_seq ?_
  refine W_region ?_
  refine s_assign rfl rfl ?_
  refine WL_nil ?_
  refine n_then ?_
  refine W_seq ?_
  refine W_region ?_
  refine s_move rfl rfl ?_
  refine s_call Try.call10 rfl rfl (declGen_ok v xs w (hv.fwd0 hs.fwd) hx) ?_
  rintro r w ⟨d, ls, Lr, rfl, hg, hO, -, -, -, hst⟩
  replace hs := St.back0 hs hst
  simp only [List.append_nil] at hs
  clear hst
  obtain ⟨ol, oc, oa, hlv, _⟩ := hO.form
  have hdv : d.vals = [.string d.name, .slice oa ol oc, .int .i64 d.u0, .int .i64 d.u1, .int .i64 d.u2, .int .i64 d.lo, .int .i64 d.hi, .int .i64 d.dn, .int .i64 d.up, .int .i64 d.fi, .int .i64 d.la, .int .i64 d.bu] := by unfold De.vals; rw [hlv]
  rw [hdv]
  refine s_alloc rfl AL27 hs ?_; clear hs; intro b13 w hs
  first
    | refine s_storeW Try.sizeOf27 rfl rfl rfl rfl hs (kk := 0) rfl rfl ?_
    | refine s_storeW Try.sizeOf27 rfl rfl rfl rfl hs (kk := 1) rfl rfl ?_
    | refine s_storeAB Try.sizeOf27 rfl rfl rfl rfl hs (kk := 0) rfl rfl ?_
    | refine s_storeAB Try.sizeOf27 rfl rfl rfl rfl hs (kk := 1) rfl rfl ?_
  clear hs; intro w hs; try simp only [List.set_cons_zero, List.set_cons_succ, splice, List.take_succ_cons, List.take_zero, List.drop_succ_cons, List.drop_zero, List.nil_append, List.cons_append, List.length_cons, List.length_nil, Nat.reduceAdd, List.append_assoc] at hs
  refine WL_nil ?_
  refine n_then ?_
  refine W_seq ?_
  refine W_region ?_
  refine s_move rfl rfl ?_
  refine s_call Try.call20 rfl rfl (around_ok s 1048577 w (by omega) hs1) ?_
  rintro r w1 ⟨hw1, rfl⟩
  rw [hw1]; clear hw1 w1
  have hxr := aroundV_range (m := s) (q := 1048577) (by omega)
  generalize aroundV s 1048577 = x at hxr
  refine s_assign rfl rfl ?_
  refine WL_nil ?_
  refine n_then ?_
  refine W_seq ?_
  refine W_region ?_
  refine s_move rfl rfl ?_
  refine s_call Try.call20 rfl rfl (around_ok t 1048577 w (by omega) ht1) ?_
  rintro r w1 ⟨hw1, rfl⟩
  rw [hw1]; clear hw1 w1
  have hyr := aroundV_range (m := t) (q := 1048577) (by omega)
  generalize aroundV t 1048577 = y at hyr
  refine s_assign rfl rfl ?_
  refine WL_nil ?_
  refine n_then ?_
  refine W_seq ?_
  refine W_region ?_
  refine s_move rfl rfl ?_
  refine s_call Try.call20 rfl rfl (around_ok u 1048577 w (by omega) hu1) ?_
  rintro r w1 ⟨hw1, rfl⟩
  rw [hw1]; clear hw1 w1
  have hzr := aroundV_range (m := u) (q := 1048577) (by omega)
  generalize aroundV u 1048577 = z at hzr
  refine s_assign rfl rfl ?_
  refine WL_nil ?_
  refine n_then ?_
  refine W_seq ?_
  refine W_region ?_
  refine s_move rfl rfl ?_
  refine s_call Try.call21 rfl rfl (bound_ok lo 1073741824 w hlo (by omega)) ?_
  rintro r w1 ⟨hw1, rfl⟩
  rw [hw1]; clear hw1 w1
  have hpr := boundV_range (n := lo) (m := 1073741824) (by omega)
  generalize boundV lo 1073741824 = p at hpr
  refine s_assign rfl rfl ?_
  refine WL_nil ?_
  refine n_then ?_
  refine W_seq ?_
  refine W_region ?_
  refine s_move rfl rfl ?_
  refine s_call Try.call21 rfl rfl (bound_ok hi 1073741824 w hhi (by omega)) ?_
  rintro r w1 ⟨hw1, rfl⟩
  rw [hw1]; clear hw1 w1
  have hqr := boundV_range (n := hi) (m := 1073741824) (by omega)
  generalize boundV hi 1073741824 = q at hqr
  refine s_assign rfl rfl ?_
  refine WL_nil ?_
  refine n_then ?_
  refine W_seq ?_
  refine W_region ?_
  first
    | refine s_loadW Try.isAgg27 Try.sizeOf27 rfl rfl hs (kk := 0) rfl rfl ?_
    | refine s_loadW Try.isAgg27 Try.sizeOf27 rfl rfl hs (kk := 1) rfl rfl ?_
    | refine s_load_12 Try.isAgg27 Try.sizeOf27 rfl rfl (by first | exact hs.cell (k := 0) rfl rfl | exact hs.cell (k := 1) rfl rfl) (by first | exact hs.cell (k := 0) rfl rfl | exact hs.cell (k := 1) rfl rfl) (by first | exact hs.cell (k := 0) rfl rfl | exact hs.cell (k := 1) rfl rfl) (by first | exact hs.cell (k := 0) rfl rfl | exact hs.cell (k := 1) rfl rfl) (by first | exact hs.cell (k := 0) rfl rfl | exact hs.cell (k := 1) rfl rfl) (by first | exact hs.cell (k := 0) rfl rfl | exact hs.cell (k := 1) rfl rfl) (by first | exact hs.cell (k := 0) rfl rfl | exact hs.cell (k := 1) rfl rfl) (by first | exact hs.cell (k := 0) rfl rfl | exact hs.cell (k := 1) rfl rfl) (by first | exact hs.cell (k := 0) rfl rfl | exact hs.cell (k := 1) rfl rfl) (by first | exact hs.cell (k := 0) rfl rfl | exact hs.cell (k := 1) rfl rfl) (by first | exact hs.cell (k := 0) rfl rfl | exact hs.cell (k := 1) rfl rfl) (by first | exact hs.cell (k := 0) rfl rfl | exact hs.cell (k := 1) rfl rfl) ?_
  refine s_move rfl rfl ?_
  refine s_move rfl rfl ?_
  refine s_move rfl rfl ?_
  refine s_move rfl rfl ?_
  refine s_call Try.call16 rfl rfl (by rw [← hdv]; exact spread_ok d x z p q w) ?_
  rintro r w ⟨hst, rfl⟩
  replace hs := hs.fwd1 hst
  clear hst
  rw [spLo_eq hg (by omega) (by omega) (by omega), spHi_eq hg (by omega) (by omega) (by omega)]
  refine s_move rfl rfl ?_
  refine s_extract rfl rfl rfl ?_
  refine s_extract rfl rfl rfl ?_
  refine s_assign rfl rfl ?_
  refine s_assign rfl rfl ?_
  refine WL_nil ?_
  refine n_then ?_
  refine W_seq ?_
  refine W_region ?_
  first
    | refine s_loadW Try.isAgg27 Try.sizeOf27 rfl rfl hs (kk := 0) rfl rfl ?_
    | refine s_loadW Try.isAgg27 Try.sizeOf27 rfl rfl hs (kk := 1) rfl rfl ?_
    | refine s_load_12 Try.isAgg27 Try.sizeOf27 rfl rfl (by first | exact hs.cell (k := 0) rfl rfl | exact hs.cell (k := 1) rfl rfl) (by first | exact hs.cell (k := 0) rfl rfl | exact hs.cell (k := 1) rfl rfl) (by first | exact hs.cell (k := 0) rfl rfl | exact hs.cell (k := 1) rfl rfl) (by first | exact hs.cell (k := 0) rfl rfl | exact hs.cell (k := 1) rfl rfl) (by first | exact hs.cell (k := 0) rfl rfl | exact hs.cell (k := 1) rfl rfl) (by first | exact hs.cell (k := 0) rfl rfl | exact hs.cell (k := 1) rfl rfl) (by first | exact hs.cell (k := 0) rfl rfl | exact hs.cell (k := 1) rfl rfl) (by first | exact hs.cell (k := 0) rfl rfl | exact hs.cell (k := 1) rfl rfl) (by first | exact hs.cell (k := 0) rfl rfl | exact hs.cell (k := 1) rfl rfl) (by first | exact hs.cell (k := 0) rfl rfl | exact hs.cell (k := 1) rfl rfl) (by first | exact hs.cell (k := 0) rfl rfl | exact hs.cell (k := 1) rfl rfl) (by first | exact hs.cell (k := 0) rfl rfl | exact hs.cell (k := 1) rfl rfl) ?_
  refine s_move rfl rfl ?_
  refine s_move rfl rfl ?_
  refine s_move rfl rfl ?_
  refine s_move rfl rfl ?_
  refine s_call Try.call16 rfl rfl (by rw [← hdv]; exact spread_ok d x y p q w) ?_
  rintro r w ⟨hst, rfl⟩
  replace hs := hs.fwd1 hst
  clear hst
  have hmr := pLo_range hg (s := x) (t := y) (v := p) (by omega) (by omega)
  have hnr := pHi_range hg (s := x) (t := y) (v := q) (by omega) (by omega)
  rw [spLo_eq hg (by omega) (by omega) (by omega), spHi_eq hg (by omega) (by omega) (by omega)]
  refine s_move rfl rfl ?_
  refine s_extract rfl rfl rfl ?_
  refine s_extract rfl rfl rfl ?_
  refine s_assign rfl rfl ?_
  refine s_assign rfl rfl ?_
  refine WL_nil ?_
  refine n_then ?_
  refine W_seq ?_
  refine W_region ?_
  first
    | refine s_loadW Try.isAgg27 Try.sizeOf27 rfl rfl hs (kk := 0) rfl rfl ?_
    | refine s_loadW Try.isAgg27 Try.sizeOf27 rfl rfl hs (kk := 1) rfl rfl ?_
    | refine s_load_12 Try.isAgg27 Try.sizeOf27 rfl rfl (by first | exact hs.cell (k := 0) rfl rfl | exact hs.cell (k := 1) rfl rfl) (by first | exact hs.cell (k := 0) rfl rfl | exact hs.cell (k := 1) rfl rfl) (by first | exact hs.cell (k := 0) rfl rfl | exact hs.cell (k := 1) rfl rfl) (by first | exact hs.cell (k := 0) rfl rfl | exact hs.cell (k := 1) rfl rfl) (by first | exact hs.cell (k := 0) rfl rfl | exact hs.cell (k := 1) rfl rfl) (by first | exact hs.cell (k := 0) rfl rfl | exact hs.cell (k := 1) rfl rfl) (by first | exact hs.cell (k := 0) rfl rfl | exact hs.cell (k := 1) rfl rfl) (by first | exact hs.cell (k := 0) rfl rfl | exact hs.cell (k := 1) rfl rfl) (by first | exact hs.cell (k := 0) rfl rfl | exact hs.cell (k := 1) rfl rfl) (by first | exact hs.cell (k := 0) rfl rfl | exact hs.cell (k := 1) rfl rfl) (by first | exact hs.cell (k := 0) rfl rfl | exact hs.cell (k := 1) rfl rfl) (by first | exact hs.cell (k := 0) rfl rfl | exact hs.cell (k := 1) rfl rfl) ?_
  refine s_move rfl rfl ?_
  refine s_move rfl rfl ?_
  refine s_move rfl rfl ?_
  refine s_move rfl rfl ?_
  refine s_call Try.call16 rfl rfl (by rw [← hdv]; exact spread_ok d y z (pLo d x y p) (pHi d x y q) w) ?_
  rintro r w ⟨hst, rfl⟩
  replace hs := hs.fwd1 hst
  clear hst
  rw [spLo_eq hg (by omega) (by omega) (by omega), spHi_eq hg (by omega) (by omega) (by omega)]
  have hcp := composes hg (x := x) (y := y) (z := z) (p := p)
  have hcq := composes hg (x := x) (y := y) (z := z) (p := q)
  generalize pLo d y z (pLo d x y p) = E at *
  generalize pHi d y z (pHi d x y q) = G at *
  generalize pLo d x z p = A at *
  generalize pHi d x z q = B at *
  refine s_move rfl rfl ?_
  refine s_extract rfl rfl rfl ?_
  refine s_extract rfl rfl rfl ?_
  refine s_assign rfl rfl ?_
  refine s_assign rfl rfl ?_
  refine WL_nil ?_
  refine n_then ?_
  refine W_seq ?_
  refine W_seq ?_
  refine W_region ?_
  refine s_move rfl rfl ?_
  refine s_move rfl rfl ?_
  refine s_leq rfl rfl rfl ?_
  refine s_move rfl rfl ?_
  refine WL_case (s := 67) rfl (fun hg67 => ?_) (fun hg67 => ?_)
  · skip
    try simp only [decide_eq_true_eq, decide_eq_false_iff_not, ge_iff_le] at hg67
    refine WL_take rfl ?_
    refine s_move rfl rfl ?_
    refine WL_take rfl ?_
    refine s_move rfl rfl ?_
    refine WL_take rfl ?_
    refine s_leq rfl rfl rfl ?_
    refine s_pick_t rfl rfl rfl ?_
    refine s_move rfl rfl ?_
    refine WL_case (s := 72) rfl (fun hg72 => ?_) (fun hg72 => ?_)
    · skip
      try simp only [decide_eq_true_eq, decide_eq_false_iff_not, ge_iff_le] at hg72
      refine WL_skip rfl rfl rfl ?_
      refine WL_skip rfl rfl rfl ?_
      refine WL_skip rfl rfl rfl ?_
      refine WL_skip rfl rfl rfl ?_
      refine WL_skipU rfl rfl ?_
      refine WL_skipU rfl rfl ?_
      refine WL_skipU rfl rfl ?_
      refine WL_skip rfl rfl rfl ?_
      refine s_pick_t rfl rfl rfl ?_
      refine WL_nil ?_
      refine n_then ?_
      refine W_cond_t rfl ?_
      refine W_seq ?_
      refine W_region ?_
      refine s_move rfl rfl ?_
      refine s_move rfl rfl ?_
      refine s_eql rfl rfl rfl ?_
      refine s_move rfl rfl ?_
      refine WL_know (s := 85) (c := true) rfl ((by rw [beq_iff_eq]; exact (hcp.1 (by omega)).1.symm)) ?_
      refine WL_take rfl ?_
      refine s_move rfl rfl ?_
      refine WL_take rfl ?_
      refine s_move rfl rfl ?_
      refine WL_take rfl ?_
      refine s_eql rfl rfl rfl ?_
      refine s_pick_t rfl rfl rfl ?_
      refine s_move rfl rfl ?_
      refine WL_know (s := 90) (c := true) rfl ((by rw [beq_iff_eq]; exact (hcq.1 (by omega)).2.symm)) ?_
      refine WL_take rfl ?_
      refine s_call Try.call15 rfl rfl (lives_ok w) ?_
      rintro r w ⟨hst, rfl⟩
      replace hs := hs.fwd1 hst
      clear hst
      refine s_pick_t rfl rfl rfl ?_
      refine s_assign rfl rfl ?_
      refine WL_nil ?_
      refine n_then ?_
      refine W_ret ?_
      refine r_then ?_
      exact end1 rfl rfl ⟨hs.fwd, rfl⟩
    · skip
      try simp only [decide_eq_true_eq, decide_eq_false_iff_not, ge_iff_le] at hg72
      refine WL_take rfl ?_
      refine s_move rfl rfl ?_
      refine WL_take rfl ?_
      refine s_move rfl rfl ?_
      refine WL_take rfl ?_
      refine s_geq rfl rfl rfl ?_
      refine WL_take rfl ?_
      refine s_move rfl rfl ?_
      refine WL_case (s := 76) rfl (fun hg76 => ?_) (fun hg76 => ?_)
      · skip
        try simp only [decide_eq_true_eq, decide_eq_false_iff_not, ge_iff_le] at hg76
        refine WL_take rfl ?_
        refine s_move rfl rfl ?_
        refine WL_take rfl ?_
        refine s_move rfl rfl ?_
        refine WL_take rfl ?_
        refine s_geq rfl rfl rfl ?_
        refine WL_take rfl ?_
        refine s_pick_t rfl rfl rfl ?_
        refine s_pick_f rfl rfl rfl ?_
        refine WL_nil ?_
        refine n_then ?_
        refine W_cond rfl (fun hc81 => ?_) (fun hc81 => ?_)
        · skip
          try simp only [decide_eq_true_eq, decide_eq_false_iff_not, ge_iff_le] at hc81
          refine W_seq ?_
          refine W_region ?_
          refine s_move rfl rfl ?_
          refine s_move rfl rfl ?_
          refine s_eql rfl rfl rfl ?_
          refine s_move rfl rfl ?_
          refine WL_know (s := 85) (c := true) rfl ((by rw [beq_iff_eq]; exact (hcp.1 (by omega)).1.symm)) ?_
          refine WL_take rfl ?_
          refine s_move rfl rfl ?_
          refine WL_take rfl ?_
          refine s_move rfl rfl ?_
          refine WL_take rfl ?_
          refine s_eql rfl rfl rfl ?_
          refine s_pick_t rfl rfl rfl ?_
          refine s_move rfl rfl ?_
          refine WL_know (s := 90) (c := true) rfl ((by rw [beq_iff_eq]; exact (hcq.1 (by omega)).2.symm)) ?_
          refine WL_take rfl ?_
          refine s_call Try.call15 rfl rfl (lives_ok w) ?_
          rintro r w ⟨hst, rfl⟩
          replace hs := hs.fwd1 hst
          clear hst
          refine s_pick_t rfl rfl rfl ?_
          refine s_assign rfl rfl ?_
          refine WL_nil ?_
          refine n_then ?_
          refine W_ret ?_
          refine r_then ?_
          exact end1 rfl rfl ⟨hs.fwd, rfl⟩
        · skip
          try simp only [decide_eq_true_eq, decide_eq_false_iff_not, ge_iff_le] at hc81
          refine W_skip ?_
          refine n_then ?_
          refine W_seq ?_
          refine W_region ?_
          refine s_move rfl rfl ?_
          refine s_move rfl rfl ?_
          refine s_leq rfl rfl rfl ?_
          refine s_move rfl rfl ?_
          refine WL_know (s := 96) (c := true) rfl ((by rw [decide_eq_true_eq]; exact hcp.2.1)) ?_
          refine WL_take rfl ?_
          refine s_move rfl rfl ?_
          refine WL_take rfl ?_
          refine s_move rfl rfl ?_
          refine WL_take rfl ?_
          refine s_leq rfl rfl rfl ?_
          refine s_pick_t rfl rfl rfl ?_
          refine s_move rfl rfl ?_
          refine WL_know (s := 101) (c := true) rfl ((by rw [decide_eq_true_eq]; exact hcq.2.2)) ?_
          refine WL_take rfl ?_
          refine s_call Try.call15 rfl rfl (lives_ok w) ?_
          rintro r w ⟨hst, rfl⟩
          replace hs := hs.fwd1 hst
          clear hst
          refine s_pick_t rfl rfl rfl ?_
          refine s_assign rfl rfl ?_
          refine WL_nil ?_
          refine n_then ?_
          refine W_ret ?_
          exact end1 rfl rfl ⟨hs.fwd, rfl⟩
      · skip
        try simp only [decide_eq_true_eq, decide_eq_false_iff_not, ge_iff_le] at hg76
        refine WL_skip rfl rfl rfl ?_
        refine WL_skip rfl rfl rfl ?_
        refine WL_skip rfl rfl rfl ?_
        refine WL_take rfl ?_
        refine s_pick_f rfl rfl rfl ?_
        refine s_pick_f rfl rfl rfl ?_
        refine WL_nil ?_
        refine n_then ?_
        refine W_cond_f rfl ?_
        refine W_skip ?_
        refine n_then ?_
        refine W_seq ?_
        refine W_region ?_
        refine s_move rfl rfl ?_
        refine s_move rfl rfl ?_
        refine s_leq rfl rfl rfl ?_
        refine s_move rfl rfl ?_
        refine WL_know (s := 96) (c := true) rfl ((by rw [decide_eq_true_eq]; exact hcp.2.1)) ?_
        refine WL_take rfl ?_
        refine s_move rfl rfl ?_
        refine WL_take rfl ?_
        refine s_move rfl rfl ?_
        refine WL_take rfl ?_
        refine s_leq rfl rfl rfl ?_
        refine s_pick_t rfl rfl rfl ?_
        refine s_move rfl rfl ?_
        refine WL_know (s := 101) (c := true) rfl ((by rw [decide_eq_true_eq]; exact hcq.2.2)) ?_
        refine WL_take rfl ?_
        refine s_call Try.call15 rfl rfl (lives_ok w) ?_
        rintro r w ⟨hst, rfl⟩
        replace hs := hs.fwd1 hst
        clear hst
        refine s_pick_t rfl rfl rfl ?_
        refine s_assign rfl rfl ?_
        refine WL_nil ?_
        refine n_then ?_
        refine W_ret ?_
        exact end1 rfl rfl ⟨hs.fwd, rfl⟩
  · skip
    try simp only [decide_eq_true_eq, decide_eq_false_iff_not, ge_iff_le] at hg67
    refine WL_skip rfl rfl rfl ?_
    refine WL_skip rfl rfl rfl ?_
    refine WL_skip rfl rfl rfl ?_
    refine s_pick_f rfl rfl rfl ?_
    refine s_move rfl rfl ?_
    refine WL_take rfl ?_
    refine s_move rfl rfl ?_
    refine WL_take rfl ?_
    refine s_move rfl rfl ?_
    refine WL_take rfl ?_
    refine s_geq rfl rfl rfl ?_
    refine WL_take rfl ?_
    refine s_move rfl rfl ?_
    refine WL_case (s := 76) rfl (fun hg76 => ?_) (fun hg76 => ?_)
    · skip
      try simp only [decide_eq_true_eq, decide_eq_false_iff_not, ge_iff_le] at hg76
      refine WL_take rfl ?_
      refine s_move rfl rfl ?_
      refine WL_take rfl ?_
      refine s_move rfl rfl ?_
      refine WL_take rfl ?_
      refine s_geq rfl rfl rfl ?_
      refine WL_take rfl ?_
      refine s_pick_t rfl rfl rfl ?_
      refine s_pick_f rfl rfl rfl ?_
      refine WL_nil ?_
      refine n_then ?_
      refine W_cond rfl (fun hc81 => ?_) (fun hc81 => ?_)
      · skip
        try simp only [decide_eq_true_eq, decide_eq_false_iff_not, ge_iff_le] at hc81
        refine W_seq ?_
        refine W_region ?_
        refine s_move rfl rfl ?_
        refine s_move rfl rfl ?_
        refine s_eql rfl rfl rfl ?_
        refine s_move rfl rfl ?_
        refine WL_know (s := 85) (c := true) rfl ((by rw [beq_iff_eq]; exact (hcp.1 (by omega)).1.symm)) ?_
        refine WL_take rfl ?_
        refine s_move rfl rfl ?_
        refine WL_take rfl ?_
        refine s_move rfl rfl ?_
        refine WL_take rfl ?_
        refine s_eql rfl rfl rfl ?_
        refine s_pick_t rfl rfl rfl ?_
        refine s_move rfl rfl ?_
        refine WL_know (s := 90) (c := true) rfl ((by rw [beq_iff_eq]; exact (hcq.1 (by omega)).2.symm)) ?_
        refine WL_take rfl ?_
        refine s_call Try.call15 rfl rfl (lives_ok w) ?_
        rintro r w ⟨hst, rfl⟩
        replace hs := hs.fwd1 hst
        clear hst
        refine s_pick_t rfl rfl rfl ?_
        refine s_assign rfl rfl ?_
        refine WL_nil ?_
        refine n_then ?_
        refine W_ret ?_
        refine r_then ?_
        exact end1 rfl rfl ⟨hs.fwd, rfl⟩
      · skip
        try simp only [decide_eq_true_eq, decide_eq_false_iff_not, ge_iff_le] at hc81
        refine W_skip ?_
        refine n_then ?_
        refine W_seq ?_
        refine W_region ?_
        refine s_move rfl rfl ?_
        refine s_move rfl rfl ?_
        refine s_leq rfl rfl rfl ?_
        refine s_move rfl rfl ?_
        refine WL_know (s := 96) (c := true) rfl ((by rw [decide_eq_true_eq]; exact hcp.2.1)) ?_
        refine WL_take rfl ?_
        refine s_move rfl rfl ?_
        refine WL_take rfl ?_
        refine s_move rfl rfl ?_
        refine WL_take rfl ?_
        refine s_leq rfl rfl rfl ?_
        refine s_pick_t rfl rfl rfl ?_
        refine s_move rfl rfl ?_
        refine WL_know (s := 101) (c := true) rfl ((by rw [decide_eq_true_eq]; exact hcq.2.2)) ?_
        refine WL_take rfl ?_
        refine s_call Try.call15 rfl rfl (lives_ok w) ?_
        rintro r w ⟨hst, rfl⟩
        replace hs := hs.fwd1 hst
        clear hst
        refine s_pick_t rfl rfl rfl ?_
        refine s_assign rfl rfl ?_
        refine WL_nil ?_
        refine n_then ?_
        refine W_ret ?_
        exact end1 rfl rfl ⟨hs.fwd, rfl⟩
    · skip
      try simp only [decide_eq_true_eq, decide_eq_false_iff_not, ge_iff_le] at hg76
      refine WL_skip rfl rfl rfl ?_
      refine WL_skip rfl rfl rfl ?_
      refine WL_skip rfl rfl rfl ?_
      refine WL_take rfl ?_
      refine s_pick_f rfl rfl rfl ?_
      refine s_pick_f rfl rfl rfl ?_
      refine WL_nil ?_
      refine n_then ?_
      refine W_cond_f rfl ?_
      refine W_skip ?_
      refine n_then ?_
      refine W_seq ?_
      refine W_region ?_
      refine s_move rfl rfl ?_
      refine s_move rfl rfl ?_
      refine s_leq rfl rfl rfl ?_
      refine s_move rfl rfl ?_
      refine WL_know (s := 96) (c := true) rfl ((by rw [decide_eq_true_eq]; exact hcp.2.1)) ?_
      refine WL_take rfl ?_
      refine s_move rfl rfl ?_
      refine WL_take rfl ?_
      refine s_move rfl rfl ?_
      refine WL_take rfl ?_
      refine s_leq rfl rfl rfl ?_
      refine s_pick_t rfl rfl rfl ?_
      refine s_move rfl rfl ?_
      refine WL_know (s := 101) (c := true) rfl ((by rw [decide_eq_true_eq]; exact hcq.2.2)) ?_
      refine WL_take rfl ?_
      refine s_call Try.call15 rfl rfl (lives_ok w) ?_
      rintro r w ⟨hst, rfl⟩
      replace hs := hs.fwd1 hst
      clear hst
      refine s_pick_t rfl rfl rfl ?_
      refine s_assign rfl rfl ?_
      refine WL_nil ?_
      refine n_then ?_
      refine W_ret ?_
      exact end1 rfl rfl ⟨hs.fwd, rfl⟩
set_option maxHeartbeats 2000000 in
theorem declReverses_ok (v : Value) (xs : List Int) (s t m u : Int) (w0 : World) (hv : Sl w0 v xs.length (i64s xs)) (hx : ∀ z ∈ xs, isI64 z) (hs1 : isI64 s) (ht1 : isI64 t) (hm1 : isI64 m) (hu1 : isI64 u) :
    Ret Try.prog 6 [v, .int .i64 s, .int .i64 t, .int .i64 m, .int .i64 u].toArray w0 fun r w' => Fwd [] w0 w' ∧ r = .bool true := by
  refine Ret_start fun w hs => ?_
  refine Ret_of Try.func6 rfl Try.ntmps6 rfl ?_
  refine W_seq ?_
  refine W_region ?_
  refine s_assign rfl rfl ?_
  refine WL_nil ?_
  refine n_then ?_
  refine W_seq ?_
  refine W_region ?_
  refine s_move rfl rfl ?_
  refine s_call Try.call10 rfl rfl (declGen_ok v xs w (hv.fwd0 hs.fwd) hx) ?_
  rintro r w ⟨d, ls, Lr, rfl, hg, hO, -, -, -, hst⟩
  replace hs := St.back0 hs hst
  simp only [List.append_nil] at hs
  clear hst
  obtain ⟨ol, oc, oa, hlv, _⟩ := hO.form
  have hdv : d.vals = [.string d.name, .slice oa ol oc, .int .i64 d.u0, .int .i64 d.u1, .int .i64 d.u2, .int .i64 d.lo, .int .i64 d.hi, .int .i64 d.dn, .int .i64 d.up, .int .i64 d.fi, .int .i64 d.la, .int .i64 d.bu] := by unfold De.vals; rw [hlv]
  rw [hdv]
  refine s_alloc rfl AL27 hs ?_; clear hs; intro b11 w hs
  first
    | refine s_storeW Try.sizeOf27 rfl rfl rfl rfl hs (kk := 0) rfl rfl ?_
    | refine s_storeW Try.sizeOf27 rfl rfl rfl rfl hs (kk := 1) rfl rfl ?_
    | refine s_storeAB Try.sizeOf27 rfl rfl rfl rfl hs (kk := 0) rfl rfl ?_
    | refine s_storeAB Try.sizeOf27 rfl rfl rfl rfl hs (kk := 1) rfl rfl ?_
  clear hs; intro w hs; try simp only [List.set_cons_zero, List.set_cons_succ, splice, List.take_succ_cons, List.take_zero, List.drop_succ_cons, List.drop_zero, List.nil_append, List.cons_append, List.length_cons, List.length_nil, Nat.reduceAdd, List.append_assoc] at hs
  refine WL_nil ?_
  refine n_then ?_
  refine W_seq ?_
  refine W_region ?_
  refine s_move rfl rfl ?_
  refine s_call Try.call20 rfl rfl (around_ok s 1048577 w (by omega) hs1) ?_
  rintro r w1 ⟨hw1, rfl⟩
  rw [hw1]; clear hw1 w1
  have hxr := aroundV_range (m := s) (q := 1048577) (by omega)
  generalize aroundV s 1048577 = x at hxr
  refine s_assign rfl rfl ?_
  refine WL_nil ?_
  refine n_then ?_
  refine W_seq ?_
  refine W_region ?_
  refine s_move rfl rfl ?_
  refine s_call Try.call20 rfl rfl (around_ok t 1048577 w (by omega) ht1) ?_
  rintro r w1 ⟨hw1, rfl⟩
  rw [hw1]; clear hw1 w1
  have hyr := aroundV_range (m := t) (q := 1048577) (by omega)
  generalize aroundV t 1048577 = y at hyr
  refine s_assign rfl rfl ?_
  refine WL_nil ?_
  refine n_then ?_
  refine W_seq ?_
  refine W_region ?_
  refine s_move rfl rfl ?_
  refine s_call Try.call21 rfl rfl (bound_ok m 1073741824 w hm1 (by omega)) ?_
  rintro r w1 ⟨hw1, rfl⟩
  rw [hw1]; clear hw1 w1
  have hpr := boundV_range (n := m) (m := 1073741824) (by omega)
  generalize boundV m 1073741824 = p at hpr
  refine s_assign rfl rfl ?_
  refine WL_nil ?_
  refine n_then ?_
  refine W_seq ?_
  refine W_region ?_
  refine s_move rfl rfl ?_
  refine s_call Try.call21 rfl rfl (bound_ok u 1073741824 w hu1 (by omega)) ?_
  rintro r w1 ⟨hw1, rfl⟩
  rw [hw1]; clear hw1 w1
  have hqr := boundV_range (n := u) (m := 1073741824) (by omega)
  generalize boundV u 1073741824 = q at hqr
  refine s_assign rfl rfl ?_
  refine WL_nil ?_
  refine n_then ?_
  refine W_seq ?_
  refine W_region ?_
  first
    | refine s_loadW Try.isAgg27 Try.sizeOf27 rfl rfl hs (kk := 0) rfl rfl ?_
    | refine s_loadW Try.isAgg27 Try.sizeOf27 rfl rfl hs (kk := 1) rfl rfl ?_
    | refine s_load_12 Try.isAgg27 Try.sizeOf27 rfl rfl (by first | exact hs.cell (k := 0) rfl rfl | exact hs.cell (k := 1) rfl rfl) (by first | exact hs.cell (k := 0) rfl rfl | exact hs.cell (k := 1) rfl rfl) (by first | exact hs.cell (k := 0) rfl rfl | exact hs.cell (k := 1) rfl rfl) (by first | exact hs.cell (k := 0) rfl rfl | exact hs.cell (k := 1) rfl rfl) (by first | exact hs.cell (k := 0) rfl rfl | exact hs.cell (k := 1) rfl rfl) (by first | exact hs.cell (k := 0) rfl rfl | exact hs.cell (k := 1) rfl rfl) (by first | exact hs.cell (k := 0) rfl rfl | exact hs.cell (k := 1) rfl rfl) (by first | exact hs.cell (k := 0) rfl rfl | exact hs.cell (k := 1) rfl rfl) (by first | exact hs.cell (k := 0) rfl rfl | exact hs.cell (k := 1) rfl rfl) (by first | exact hs.cell (k := 0) rfl rfl | exact hs.cell (k := 1) rfl rfl) (by first | exact hs.cell (k := 0) rfl rfl | exact hs.cell (k := 1) rfl rfl) (by first | exact hs.cell (k := 0) rfl rfl | exact hs.cell (k := 1) rfl rfl) ?_
  refine s_move rfl rfl ?_
  refine s_move rfl rfl ?_
  refine s_move rfl rfl ?_
  refine s_move rfl rfl ?_
  refine s_call Try.call16 rfl rfl (by rw [← hdv]; exact spread_ok d x y p p w) ?_
  rintro r w ⟨hst, rfl⟩
  replace hs := hs.fwd1 hst
  clear hst
  rw [spLo_eq hg (by omega) (by omega) (by omega), spHi_eq hg (by omega) (by omega) (by omega)]
  have har := pLo_range hg (s := x) (t := y) (v := p) (by omega) (by omega)
  refine s_move rfl rfl ?_
  refine s_extract rfl rfl rfl ?_
  refine s_extract rfl rfl rfl ?_
  refine s_assign rfl rfl ?_
  refine s_assign rfl rfl ?_
  refine WL_nil ?_
  refine n_then ?_
  refine W_seq ?_
  refine W_region ?_
  first
    | refine s_loadW Try.isAgg27 Try.sizeOf27 rfl rfl hs (kk := 0) rfl rfl ?_
    | refine s_loadW Try.isAgg27 Try.sizeOf27 rfl rfl hs (kk := 1) rfl rfl ?_
    | refine s_load_12 Try.isAgg27 Try.sizeOf27 rfl rfl (by first | exact hs.cell (k := 0) rfl rfl | exact hs.cell (k := 1) rfl rfl) (by first | exact hs.cell (k := 0) rfl rfl | exact hs.cell (k := 1) rfl rfl) (by first | exact hs.cell (k := 0) rfl rfl | exact hs.cell (k := 1) rfl rfl) (by first | exact hs.cell (k := 0) rfl rfl | exact hs.cell (k := 1) rfl rfl) (by first | exact hs.cell (k := 0) rfl rfl | exact hs.cell (k := 1) rfl rfl) (by first | exact hs.cell (k := 0) rfl rfl | exact hs.cell (k := 1) rfl rfl) (by first | exact hs.cell (k := 0) rfl rfl | exact hs.cell (k := 1) rfl rfl) (by first | exact hs.cell (k := 0) rfl rfl | exact hs.cell (k := 1) rfl rfl) (by first | exact hs.cell (k := 0) rfl rfl | exact hs.cell (k := 1) rfl rfl) (by first | exact hs.cell (k := 0) rfl rfl | exact hs.cell (k := 1) rfl rfl) (by first | exact hs.cell (k := 0) rfl rfl | exact hs.cell (k := 1) rfl rfl) (by first | exact hs.cell (k := 0) rfl rfl | exact hs.cell (k := 1) rfl rfl) ?_
  refine s_move rfl rfl ?_
  refine s_move rfl rfl ?_
  refine s_move rfl rfl ?_
  refine s_move rfl rfl ?_
  refine s_call Try.call16 rfl rfl (by rw [← hdv]; exact spread_ok d y x q q w) ?_
  rintro r w ⟨hst, rfl⟩
  replace hs := hs.fwd1 hst
  clear hst
  rw [spLo_eq hg (by omega) (by omega) (by omega), spHi_eq hg (by omega) (by omega) (by omega)]
  refine s_move rfl rfl ?_
  refine s_extract rfl rfl rfl ?_
  refine s_extract rfl rfl rfl ?_
  refine s_assign rfl rfl ?_
  refine s_assign rfl rfl ?_
  refine WL_nil ?_
  refine n_then ?_
  refine W_seq ?_
  refine W_region ?_
  refine s_move rfl rfl ?_
  refine s_move rfl rfl ?_
  refine s_call Try.call20 rfl rfl (around_ok u 20 w (by omega) hu1) ?_
  rintro r w1 ⟨hw1, rfl⟩
  rw [hw1]; clear hw1 w1
  have hkr := aroundV_range (m := u) (q := 20) (by omega)
  generalize aroundV u 20 = k at hkr
  first | (refine s_add' rfl rfl rfl ?hx ?_; case hx => (constructor <;> first | omega | (simp only; omega))) | refine s_add rfl rfl rfl ?_
  first | (refine s_sub' rfl rfl rfl ?hx ?_; case hx => (constructor <;> first | omega | (simp only; omega))) | refine s_sub rfl rfl rfl ?_
  refine s_assign rfl rfl ?_
  refine WL_nil ?_
  refine n_then ?_
  refine W_seq ?_
  refine W_region ?_
  first
    | refine s_loadW Try.isAgg27 Try.sizeOf27 rfl rfl hs (kk := 0) rfl rfl ?_
    | refine s_loadW Try.isAgg27 Try.sizeOf27 rfl rfl hs (kk := 1) rfl rfl ?_
    | refine s_load_12 Try.isAgg27 Try.sizeOf27 rfl rfl (by first | exact hs.cell (k := 0) rfl rfl | exact hs.cell (k := 1) rfl rfl) (by first | exact hs.cell (k := 0) rfl rfl | exact hs.cell (k := 1) rfl rfl) (by first | exact hs.cell (k := 0) rfl rfl | exact hs.cell (k := 1) rfl rfl) (by first | exact hs.cell (k := 0) rfl rfl | exact hs.cell (k := 1) rfl rfl) (by first | exact hs.cell (k := 0) rfl rfl | exact hs.cell (k := 1) rfl rfl) (by first | exact hs.cell (k := 0) rfl rfl | exact hs.cell (k := 1) rfl rfl) (by first | exact hs.cell (k := 0) rfl rfl | exact hs.cell (k := 1) rfl rfl) (by first | exact hs.cell (k := 0) rfl rfl | exact hs.cell (k := 1) rfl rfl) (by first | exact hs.cell (k := 0) rfl rfl | exact hs.cell (k := 1) rfl rfl) (by first | exact hs.cell (k := 0) rfl rfl | exact hs.cell (k := 1) rfl rfl) (by first | exact hs.cell (k := 0) rfl rfl | exact hs.cell (k := 1) rfl rfl) (by first | exact hs.cell (k := 0) rfl rfl | exact hs.cell (k := 1) rfl rfl) ?_
  refine s_move rfl rfl ?_
  refine s_move rfl rfl ?_
  refine s_move rfl rfl ?_
  refine s_move rfl rfl ?_
  refine s_call Try.call16 rfl rfl (by rw [← hdv]; exact spread_ok d y x (pLo d x y p + k - 2) (pLo d x y p + k - 2) w) ?_
  rintro r w ⟨hst, rfl⟩
  replace hs := hs.fwd1 hst
  clear hst
  rw [spLo_eq hg (by omega) (by omega) (by omega), spHi_eq hg (by omega) (by omega) (by omega)]
  have h1 := reverses hg (x := x) (y := y) (p := p) (q := q)
  have h2 := reverses hg (x := x) (y := y) (p := p) (q := pLo d x y p + k - 2)
  generalize pLo d x y p + k - 2 = nr at *
  generalize pLo d x y p = A at *
  generalize pHi d x y p = B at *
  generalize pLo d y x q = E at *
  generalize pHi d y x q = G at *
  generalize pLo d y x nr = I at *
  generalize pHi d y x nr = J at *
  refine s_move rfl rfl ?_
  refine s_extract rfl rfl rfl ?_
  refine s_extract rfl rfl rfl ?_
  refine s_assign rfl rfl ?_
  refine s_assign rfl rfl ?_
  refine WL_nil ?_
  refine n_then ?_
  refine W_seq ?_
  refine W_region ?_
  refine s_move rfl rfl ?_
  refine s_move rfl rfl ?_
  refine s_leq rfl rfl rfl ?_
  refine s_move rfl rfl ?_
  refine WL_case (s := 68) rfl (fun hg68 => ?_) (fun hg68 => ?_)
  · skip
    try simp only [decide_eq_true_eq, decide_eq_false_iff_not, ge_iff_le] at hg68
    refine WL_take rfl ?_
    refine s_move rfl rfl ?_
    refine WL_take rfl ?_
    refine s_move rfl rfl ?_
    refine WL_take rfl ?_
    refine s_leq rfl rfl rfl ?_
    refine s_pick_t rfl rfl rfl ?_
    refine s_move rfl rfl ?_
    refine s_move rfl rfl ?_
    refine s_leq rfl rfl rfl ?_
    refine s_move rfl rfl ?_
    refine WL_case (s := 76) rfl (fun hg76 => ?_) (fun hg76 => ?_)
    · skip
      try simp only [decide_eq_true_eq, decide_eq_false_iff_not, ge_iff_le] at hg76
      refine WL_take rfl ?_
      refine s_move rfl rfl ?_
      refine WL_take rfl ?_
      refine s_move rfl rfl ?_
      refine WL_take rfl ?_
      refine s_leq rfl rfl rfl ?_
      refine s_pick_t rfl rfl rfl ?_
      refine s_eql_bool Try.underlying4 rfl rfl rfl ?_
      refine s_move rfl rfl ?_
      refine WL_know (s := 82) (c := true) rfl ((by first | rfl | (rw [beq_iff_eq, decide_eq_decide]; omega) | (rw [beq_iff_eq]; symm; rw [decide_eq_false_iff_not]; omega) | (rw [beq_iff_eq, decide_eq_false_iff_not]; omega))) ?_
      refine WL_take rfl ?_
      refine s_move rfl rfl ?_
      refine WL_take rfl ?_
      refine s_move rfl rfl ?_
      refine WL_take rfl ?_
      refine s_leq rfl rfl rfl ?_
      refine WL_take rfl ?_
      refine s_move rfl rfl ?_
      refine WL_case (s := 86) rfl (fun hg86 => ?_) (fun hg86 => ?_)
      · skip
        try simp only [decide_eq_true_eq, decide_eq_false_iff_not, ge_iff_le] at hg86
        refine WL_take rfl ?_
        refine s_move rfl rfl ?_
        refine WL_take rfl ?_
        refine s_move rfl rfl ?_
        refine WL_take rfl ?_
        refine s_leq rfl rfl rfl ?_
        refine WL_take rfl ?_
        refine s_pick_t rfl rfl rfl ?_
        refine WL_take rfl ?_
        refine s_move rfl rfl ?_
        refine WL_take rfl ?_
        refine s_move rfl rfl ?_
        refine WL_take rfl ?_
        refine s_leq rfl rfl rfl ?_
        refine WL_take rfl ?_
        refine s_move rfl rfl ?_
        refine WL_case (s := 94) rfl (fun hg94 => ?_) (fun hg94 => ?_)
        · skip
          try simp only [decide_eq_true_eq, decide_eq_false_iff_not, ge_iff_le] at hg94
          refine WL_take rfl ?_
          refine s_move rfl rfl ?_
          refine WL_take rfl ?_
          refine s_move rfl rfl ?_
          refine WL_take rfl ?_
          refine s_leq rfl rfl rfl ?_
          refine WL_take rfl ?_
          refine s_pick_t rfl rfl rfl ?_
          refine WL_take rfl ?_
          refine s_eql_bool Try.underlying4 rfl rfl rfl ?_
          refine s_pick_t rfl rfl rfl ?_
          refine s_move rfl rfl ?_
          refine WL_know (s := 101) (c := true) rfl ((by first | rfl | (rw [beq_iff_eq, decide_eq_decide]; omega) | (rw [beq_iff_eq]; symm; rw [decide_eq_false_iff_not]; omega) | (rw [beq_iff_eq, decide_eq_false_iff_not]; omega))) ?_
          refine WL_take rfl ?_
          refine s_call Try.call15 rfl rfl (lives_ok w) ?_
          rintro r w ⟨hst, rfl⟩
          replace hs := hs.fwd1 hst
          clear hst
          refine s_pick_t rfl rfl rfl ?_
          refine s_assign rfl rfl ?_
          refine WL_nil ?_
          refine n_then ?_
          refine W_ret ?_
          exact end1 rfl rfl ⟨hs.fwd, rfl⟩
        · skip
          try simp only [decide_eq_true_eq, decide_eq_false_iff_not, ge_iff_le] at hg94
          refine WL_skip rfl rfl rfl ?_
          refine WL_skip rfl rfl rfl ?_
          refine WL_skip rfl rfl rfl ?_
          refine WL_take rfl ?_
          refine s_pick_f rfl rfl rfl ?_
          refine WL_take rfl ?_
          refine s_eql_bool Try.underlying4 rfl rfl rfl ?_
          refine s_pick_t rfl rfl rfl ?_
          refine s_move rfl rfl ?_
          refine WL_know (s := 101) (c := true) rfl ((by first | rfl | (rw [beq_iff_eq, decide_eq_decide]; omega) | (rw [beq_iff_eq]; symm; rw [decide_eq_false_iff_not]; omega) | (rw [beq_iff_eq, decide_eq_false_iff_not]; omega))) ?_
          refine WL_take rfl ?_
          refine s_call Try.call15 rfl rfl (lives_ok w) ?_
          rintro r w ⟨hst, rfl⟩
          replace hs := hs.fwd1 hst
          clear hst
          refine s_pick_t rfl rfl rfl ?_
          refine s_assign rfl rfl ?_
          refine WL_nil ?_
          refine n_then ?_
          refine W_ret ?_
          exact end1 rfl rfl ⟨hs.fwd, rfl⟩
      · skip
        try simp only [decide_eq_true_eq, decide_eq_false_iff_not, ge_iff_le] at hg86
        refine WL_skip rfl rfl rfl ?_
        refine WL_skip rfl rfl rfl ?_
        refine WL_skip rfl rfl rfl ?_
        refine WL_take rfl ?_
        refine s_pick_f rfl rfl rfl ?_
        refine WL_take rfl ?_
        refine s_move rfl rfl ?_
        refine WL_take rfl ?_
        refine s_move rfl rfl ?_
        refine WL_take rfl ?_
        refine s_leq rfl rfl rfl ?_
        refine WL_take rfl ?_
        refine s_move rfl rfl ?_
        refine WL_case (s := 94) rfl (fun hg94 => ?_) (fun hg94 => ?_)
        · skip
          try simp only [decide_eq_true_eq, decide_eq_false_iff_not, ge_iff_le] at hg94
          refine WL_take rfl ?_
          refine s_move rfl rfl ?_
          refine WL_take rfl ?_
          refine s_move rfl rfl ?_
          refine WL_take rfl ?_
          refine s_leq rfl rfl rfl ?_
          refine WL_take rfl ?_
          refine s_pick_t rfl rfl rfl ?_
          refine WL_take rfl ?_
          refine s_eql_bool Try.underlying4 rfl rfl rfl ?_
          refine s_pick_t rfl rfl rfl ?_
          refine s_move rfl rfl ?_
          refine WL_know (s := 101) (c := true) rfl ((by first | rfl | (rw [beq_iff_eq, decide_eq_decide]; omega) | (rw [beq_iff_eq]; symm; rw [decide_eq_false_iff_not]; omega) | (rw [beq_iff_eq, decide_eq_false_iff_not]; omega))) ?_
          refine WL_take rfl ?_
          refine s_call Try.call15 rfl rfl (lives_ok w) ?_
          rintro r w ⟨hst, rfl⟩
          replace hs := hs.fwd1 hst
          clear hst
          refine s_pick_t rfl rfl rfl ?_
          refine s_assign rfl rfl ?_
          refine WL_nil ?_
          refine n_then ?_
          refine W_ret ?_
          exact end1 rfl rfl ⟨hs.fwd, rfl⟩
        · skip
          try simp only [decide_eq_true_eq, decide_eq_false_iff_not, ge_iff_le] at hg94
          refine WL_skip rfl rfl rfl ?_
          refine WL_skip rfl rfl rfl ?_
          refine WL_skip rfl rfl rfl ?_
          refine WL_take rfl ?_
          refine s_pick_f rfl rfl rfl ?_
          refine WL_take rfl ?_
          refine s_eql_bool Try.underlying4 rfl rfl rfl ?_
          refine s_pick_t rfl rfl rfl ?_
          refine s_move rfl rfl ?_
          refine WL_know (s := 101) (c := true) rfl ((by first | rfl | (rw [beq_iff_eq, decide_eq_decide]; omega) | (rw [beq_iff_eq]; symm; rw [decide_eq_false_iff_not]; omega) | (rw [beq_iff_eq, decide_eq_false_iff_not]; omega))) ?_
          refine WL_take rfl ?_
          refine s_call Try.call15 rfl rfl (lives_ok w) ?_
          rintro r w ⟨hst, rfl⟩
          replace hs := hs.fwd1 hst
          clear hst
          refine s_pick_t rfl rfl rfl ?_
          refine s_assign rfl rfl ?_
          refine WL_nil ?_
          refine n_then ?_
          refine W_ret ?_
          exact end1 rfl rfl ⟨hs.fwd, rfl⟩
    · skip
      try simp only [decide_eq_true_eq, decide_eq_false_iff_not, ge_iff_le] at hg76
      refine WL_skip rfl rfl rfl ?_
      refine WL_skip rfl rfl rfl ?_
      refine WL_skip rfl rfl rfl ?_
      refine s_pick_f rfl rfl rfl ?_
      refine s_eql_bool Try.underlying4 rfl rfl rfl ?_
      refine s_move rfl rfl ?_
      refine WL_know (s := 82) (c := true) rfl ((by first | rfl | (rw [beq_iff_eq, decide_eq_decide]; omega) | (rw [beq_iff_eq]; symm; rw [decide_eq_false_iff_not]; omega) | (rw [beq_iff_eq, decide_eq_false_iff_not]; omega))) ?_
      refine WL_take rfl ?_
      refine s_move rfl rfl ?_
      refine WL_take rfl ?_
      refine s_move rfl rfl ?_
      refine WL_take rfl ?_
      refine s_leq rfl rfl rfl ?_
      refine WL_take rfl ?_
      refine s_move rfl rfl ?_
      refine WL_case (s := 86) rfl (fun hg86 => ?_) (fun hg86 => ?_)
      · skip
        try simp only [decide_eq_true_eq, decide_eq_false_iff_not, ge_iff_le] at hg86
        refine WL_take rfl ?_
        refine s_move rfl rfl ?_
        refine WL_take rfl ?_
        refine s_move rfl rfl ?_
        refine WL_take rfl ?_
        refine s_leq rfl rfl rfl ?_
        refine WL_take rfl ?_
        refine s_pick_t rfl rfl rfl ?_
        refine WL_take rfl ?_
        refine s_move rfl rfl ?_
        refine WL_take rfl ?_
        refine s_move rfl rfl ?_
        refine WL_take rfl ?_
        refine s_leq rfl rfl rfl ?_
        refine WL_take rfl ?_
        refine s_move rfl rfl ?_
        refine WL_case (s := 94) rfl (fun hg94 => ?_) (fun hg94 => ?_)
        · skip
          try simp only [decide_eq_true_eq, decide_eq_false_iff_not, ge_iff_le] at hg94
          refine WL_take rfl ?_
          refine s_move rfl rfl ?_
          refine WL_take rfl ?_
          refine s_move rfl rfl ?_
          refine WL_take rfl ?_
          refine s_leq rfl rfl rfl ?_
          refine WL_take rfl ?_
          refine s_pick_t rfl rfl rfl ?_
          refine WL_take rfl ?_
          refine s_eql_bool Try.underlying4 rfl rfl rfl ?_
          refine s_pick_t rfl rfl rfl ?_
          refine s_move rfl rfl ?_
          refine WL_know (s := 101) (c := true) rfl ((by first | rfl | (rw [beq_iff_eq, decide_eq_decide]; omega) | (rw [beq_iff_eq]; symm; rw [decide_eq_false_iff_not]; omega) | (rw [beq_iff_eq, decide_eq_false_iff_not]; omega))) ?_
          refine WL_take rfl ?_
          refine s_call Try.call15 rfl rfl (lives_ok w) ?_
          rintro r w ⟨hst, rfl⟩
          replace hs := hs.fwd1 hst
          clear hst
          refine s_pick_t rfl rfl rfl ?_
          refine s_assign rfl rfl ?_
          refine WL_nil ?_
          refine n_then ?_
          refine W_ret ?_
          exact end1 rfl rfl ⟨hs.fwd, rfl⟩
        · skip
          try simp only [decide_eq_true_eq, decide_eq_false_iff_not, ge_iff_le] at hg94
          refine WL_skip rfl rfl rfl ?_
          refine WL_skip rfl rfl rfl ?_
          refine WL_skip rfl rfl rfl ?_
          refine WL_take rfl ?_
          refine s_pick_f rfl rfl rfl ?_
          refine WL_take rfl ?_
          refine s_eql_bool Try.underlying4 rfl rfl rfl ?_
          refine s_pick_t rfl rfl rfl ?_
          refine s_move rfl rfl ?_
          refine WL_know (s := 101) (c := true) rfl ((by first | rfl | (rw [beq_iff_eq, decide_eq_decide]; omega) | (rw [beq_iff_eq]; symm; rw [decide_eq_false_iff_not]; omega) | (rw [beq_iff_eq, decide_eq_false_iff_not]; omega))) ?_
          refine WL_take rfl ?_
          refine s_call Try.call15 rfl rfl (lives_ok w) ?_
          rintro r w ⟨hst, rfl⟩
          replace hs := hs.fwd1 hst
          clear hst
          refine s_pick_t rfl rfl rfl ?_
          refine s_assign rfl rfl ?_
          refine WL_nil ?_
          refine n_then ?_
          refine W_ret ?_
          exact end1 rfl rfl ⟨hs.fwd, rfl⟩
      · skip
        try simp only [decide_eq_true_eq, decide_eq_false_iff_not, ge_iff_le] at hg86
        refine WL_skip rfl rfl rfl ?_
        refine WL_skip rfl rfl rfl ?_
        refine WL_skip rfl rfl rfl ?_
        refine WL_take rfl ?_
        refine s_pick_f rfl rfl rfl ?_
        refine WL_take rfl ?_
        refine s_move rfl rfl ?_
        refine WL_take rfl ?_
        refine s_move rfl rfl ?_
        refine WL_take rfl ?_
        refine s_leq rfl rfl rfl ?_
        refine WL_take rfl ?_
        refine s_move rfl rfl ?_
        refine WL_case (s := 94) rfl (fun hg94 => ?_) (fun hg94 => ?_)
        · skip
          try simp only [decide_eq_true_eq, decide_eq_false_iff_not, ge_iff_le] at hg94
          refine WL_take rfl ?_
          refine s_move rfl rfl ?_
          refine WL_take rfl ?_
          refine s_move rfl rfl ?_
          refine WL_take rfl ?_
          refine s_leq rfl rfl rfl ?_
          refine WL_take rfl ?_
          refine s_pick_t rfl rfl rfl ?_
          refine WL_take rfl ?_
          refine s_eql_bool Try.underlying4 rfl rfl rfl ?_
          refine s_pick_t rfl rfl rfl ?_
          refine s_move rfl rfl ?_
          refine WL_know (s := 101) (c := true) rfl ((by first | rfl | (rw [beq_iff_eq, decide_eq_decide]; omega) | (rw [beq_iff_eq]; symm; rw [decide_eq_false_iff_not]; omega) | (rw [beq_iff_eq, decide_eq_false_iff_not]; omega))) ?_
          refine WL_take rfl ?_
          refine s_call Try.call15 rfl rfl (lives_ok w) ?_
          rintro r w ⟨hst, rfl⟩
          replace hs := hs.fwd1 hst
          clear hst
          refine s_pick_t rfl rfl rfl ?_
          refine s_assign rfl rfl ?_
          refine WL_nil ?_
          refine n_then ?_
          refine W_ret ?_
          exact end1 rfl rfl ⟨hs.fwd, rfl⟩
        · skip
          try simp only [decide_eq_true_eq, decide_eq_false_iff_not, ge_iff_le] at hg94
          refine WL_skip rfl rfl rfl ?_
          refine WL_skip rfl rfl rfl ?_
          refine WL_skip rfl rfl rfl ?_
          refine WL_take rfl ?_
          refine s_pick_f rfl rfl rfl ?_
          refine WL_take rfl ?_
          refine s_eql_bool Try.underlying4 rfl rfl rfl ?_
          refine s_pick_t rfl rfl rfl ?_
          refine s_move rfl rfl ?_
          refine WL_know (s := 101) (c := true) rfl ((by first | rfl | (rw [beq_iff_eq, decide_eq_decide]; omega) | (rw [beq_iff_eq]; symm; rw [decide_eq_false_iff_not]; omega) | (rw [beq_iff_eq, decide_eq_false_iff_not]; omega))) ?_
          refine WL_take rfl ?_
          refine s_call Try.call15 rfl rfl (lives_ok w) ?_
          rintro r w ⟨hst, rfl⟩
          replace hs := hs.fwd1 hst
          clear hst
          refine s_pick_t rfl rfl rfl ?_
          refine s_assign rfl rfl ?_
          refine WL_nil ?_
          refine n_then ?_
          refine W_ret ?_
          exact end1 rfl rfl ⟨hs.fwd, rfl⟩
  · skip
    try simp only [decide_eq_true_eq, decide_eq_false_iff_not, ge_iff_le] at hg68
    refine WL_skip rfl rfl rfl ?_
    refine WL_skip rfl rfl rfl ?_
    refine WL_skip rfl rfl rfl ?_
    refine s_pick_f rfl rfl rfl ?_
    refine s_move rfl rfl ?_
    refine s_move rfl rfl ?_
    refine s_leq rfl rfl rfl ?_
    refine s_move rfl rfl ?_
    refine WL_case (s := 76) rfl (fun hg76 => ?_) (fun hg76 => ?_)
    · skip
      try simp only [decide_eq_true_eq, decide_eq_false_iff_not, ge_iff_le] at hg76
      refine WL_take rfl ?_
      refine s_move rfl rfl ?_
      refine WL_take rfl ?_
      refine s_move rfl rfl ?_
      refine WL_take rfl ?_
      refine s_leq rfl rfl rfl ?_
      refine s_pick_t rfl rfl rfl ?_
      refine s_eql_bool Try.underlying4 rfl rfl rfl ?_
      refine s_move rfl rfl ?_
      refine WL_know (s := 82) (c := true) rfl ((by first | rfl | (rw [beq_iff_eq, decide_eq_decide]; omega) | (rw [beq_iff_eq]; symm; rw [decide_eq_false_iff_not]; omega) | (rw [beq_iff_eq, decide_eq_false_iff_not]; omega))) ?_
      refine WL_take rfl ?_
      refine s_move rfl rfl ?_
      refine WL_take rfl ?_
      refine s_move rfl rfl ?_
      refine WL_take rfl ?_
      refine s_leq rfl rfl rfl ?_
      refine WL_take rfl ?_
      refine s_move rfl rfl ?_
      refine WL_case (s := 86) rfl (fun hg86 => ?_) (fun hg86 => ?_)
      · skip
        try simp only [decide_eq_true_eq, decide_eq_false_iff_not, ge_iff_le] at hg86
        refine WL_take rfl ?_
        refine s_move rfl rfl ?_
        refine WL_take rfl ?_
        refine s_move rfl rfl ?_
        refine WL_take rfl ?_
        refine s_leq rfl rfl rfl ?_
        refine WL_take rfl ?_
        refine s_pick_t rfl rfl rfl ?_
        refine WL_take rfl ?_
        refine s_move rfl rfl ?_
        refine WL_take rfl ?_
        refine s_move rfl rfl ?_
        refine WL_take rfl ?_
        refine s_leq rfl rfl rfl ?_
        refine WL_take rfl ?_
        refine s_move rfl rfl ?_
        refine WL_case (s := 94) rfl (fun hg94 => ?_) (fun hg94 => ?_)
        · skip
          try simp only [decide_eq_true_eq, decide_eq_false_iff_not, ge_iff_le] at hg94
          refine WL_take rfl ?_
          refine s_move rfl rfl ?_
          refine WL_take rfl ?_
          refine s_move rfl rfl ?_
          refine WL_take rfl ?_
          refine s_leq rfl rfl rfl ?_
          refine WL_take rfl ?_
          refine s_pick_t rfl rfl rfl ?_
          refine WL_take rfl ?_
          refine s_eql_bool Try.underlying4 rfl rfl rfl ?_
          refine s_pick_t rfl rfl rfl ?_
          refine s_move rfl rfl ?_
          refine WL_know (s := 101) (c := true) rfl ((by first | rfl | (rw [beq_iff_eq, decide_eq_decide]; omega) | (rw [beq_iff_eq]; symm; rw [decide_eq_false_iff_not]; omega) | (rw [beq_iff_eq, decide_eq_false_iff_not]; omega))) ?_
          refine WL_take rfl ?_
          refine s_call Try.call15 rfl rfl (lives_ok w) ?_
          rintro r w ⟨hst, rfl⟩
          replace hs := hs.fwd1 hst
          clear hst
          refine s_pick_t rfl rfl rfl ?_
          refine s_assign rfl rfl ?_
          refine WL_nil ?_
          refine n_then ?_
          refine W_ret ?_
          exact end1 rfl rfl ⟨hs.fwd, rfl⟩
        · skip
          try simp only [decide_eq_true_eq, decide_eq_false_iff_not, ge_iff_le] at hg94
          refine WL_skip rfl rfl rfl ?_
          refine WL_skip rfl rfl rfl ?_
          refine WL_skip rfl rfl rfl ?_
          refine WL_take rfl ?_
          refine s_pick_f rfl rfl rfl ?_
          refine WL_take rfl ?_
          refine s_eql_bool Try.underlying4 rfl rfl rfl ?_
          refine s_pick_t rfl rfl rfl ?_
          refine s_move rfl rfl ?_
          refine WL_know (s := 101) (c := true) rfl ((by first | rfl | (rw [beq_iff_eq, decide_eq_decide]; omega) | (rw [beq_iff_eq]; symm; rw [decide_eq_false_iff_not]; omega) | (rw [beq_iff_eq, decide_eq_false_iff_not]; omega))) ?_
          refine WL_take rfl ?_
          refine s_call Try.call15 rfl rfl (lives_ok w) ?_
          rintro r w ⟨hst, rfl⟩
          replace hs := hs.fwd1 hst
          clear hst
          refine s_pick_t rfl rfl rfl ?_
          refine s_assign rfl rfl ?_
          refine WL_nil ?_
          refine n_then ?_
          refine W_ret ?_
          exact end1 rfl rfl ⟨hs.fwd, rfl⟩
      · skip
        try simp only [decide_eq_true_eq, decide_eq_false_iff_not, ge_iff_le] at hg86
        refine WL_skip rfl rfl rfl ?_
        refine WL_skip rfl rfl rfl ?_
        refine WL_skip rfl rfl rfl ?_
        refine WL_take rfl ?_
        refine s_pick_f rfl rfl rfl ?_
        refine WL_take rfl ?_
        refine s_move rfl rfl ?_
        refine WL_take rfl ?_
        refine s_move rfl rfl ?_
        refine WL_take rfl ?_
        refine s_leq rfl rfl rfl ?_
        refine WL_take rfl ?_
        refine s_move rfl rfl ?_
        refine WL_case (s := 94) rfl (fun hg94 => ?_) (fun hg94 => ?_)
        · skip
          try simp only [decide_eq_true_eq, decide_eq_false_iff_not, ge_iff_le] at hg94
          refine WL_take rfl ?_
          refine s_move rfl rfl ?_
          refine WL_take rfl ?_
          refine s_move rfl rfl ?_
          refine WL_take rfl ?_
          refine s_leq rfl rfl rfl ?_
          refine WL_take rfl ?_
          refine s_pick_t rfl rfl rfl ?_
          refine WL_take rfl ?_
          refine s_eql_bool Try.underlying4 rfl rfl rfl ?_
          refine s_pick_t rfl rfl rfl ?_
          refine s_move rfl rfl ?_
          refine WL_know (s := 101) (c := true) rfl ((by first | rfl | (rw [beq_iff_eq, decide_eq_decide]; omega) | (rw [beq_iff_eq]; symm; rw [decide_eq_false_iff_not]; omega) | (rw [beq_iff_eq, decide_eq_false_iff_not]; omega))) ?_
          refine WL_take rfl ?_
          refine s_call Try.call15 rfl rfl (lives_ok w) ?_
          rintro r w ⟨hst, rfl⟩
          replace hs := hs.fwd1 hst
          clear hst
          refine s_pick_t rfl rfl rfl ?_
          refine s_assign rfl rfl ?_
          refine WL_nil ?_
          refine n_then ?_
          refine W_ret ?_
          exact end1 rfl rfl ⟨hs.fwd, rfl⟩
        · skip
          try simp only [decide_eq_true_eq, decide_eq_false_iff_not, ge_iff_le] at hg94
          refine WL_skip rfl rfl rfl ?_
          refine WL_skip rfl rfl rfl ?_
          refine WL_skip rfl rfl rfl ?_
          refine WL_take rfl ?_
          refine s_pick_f rfl rfl rfl ?_
          refine WL_take rfl ?_
          refine s_eql_bool Try.underlying4 rfl rfl rfl ?_
          refine s_pick_t rfl rfl rfl ?_
          refine s_move rfl rfl ?_
          refine WL_know (s := 101) (c := true) rfl ((by first | rfl | (rw [beq_iff_eq, decide_eq_decide]; omega) | (rw [beq_iff_eq]; symm; rw [decide_eq_false_iff_not]; omega) | (rw [beq_iff_eq, decide_eq_false_iff_not]; omega))) ?_
          refine WL_take rfl ?_
          refine s_call Try.call15 rfl rfl (lives_ok w) ?_
          rintro r w ⟨hst, rfl⟩
          replace hs := hs.fwd1 hst
          clear hst
          refine s_pick_t rfl rfl rfl ?_
          refine s_assign rfl rfl ?_
          refine WL_nil ?_
          refine n_then ?_
          refine W_ret ?_
          exact end1 rfl rfl ⟨hs.fwd, rfl⟩
    · skip
      try simp only [decide_eq_true_eq, decide_eq_false_iff_not, ge_iff_le] at hg76
      refine WL_skip rfl rfl rfl ?_
      refine WL_skip rfl rfl rfl ?_
      refine WL_skip rfl rfl rfl ?_
      refine s_pick_f rfl rfl rfl ?_
      refine s_eql_bool Try.underlying4 rfl rfl rfl ?_
      refine s_move rfl rfl ?_
      refine WL_know (s := 82) (c := true) rfl ((by first | rfl | (rw [beq_iff_eq, decide_eq_decide]; omega) | (rw [beq_iff_eq]; symm; rw [decide_eq_false_iff_not]; omega) | (rw [beq_iff_eq, decide_eq_false_iff_not]; omega))) ?_
      refine WL_take rfl ?_
      refine s_move rfl rfl ?_
      refine WL_take rfl ?_
      refine s_move rfl rfl ?_
      refine WL_take rfl ?_
      refine s_leq rfl rfl rfl ?_
      refine WL_take rfl ?_
      refine s_move rfl rfl ?_
      refine WL_case (s := 86) rfl (fun hg86 => ?_) (fun hg86 => ?_)
      · skip
        try simp only [decide_eq_true_eq, decide_eq_false_iff_not, ge_iff_le] at hg86
        refine WL_take rfl ?_
        refine s_move rfl rfl ?_
        refine WL_take rfl ?_
        refine s_move rfl rfl ?_
        refine WL_take rfl ?_
        refine s_leq rfl rfl rfl ?_
        refine WL_take rfl ?_
        refine s_pick_t rfl rfl rfl ?_
        refine WL_take rfl ?_
        refine s_move rfl rfl ?_
        refine WL_take rfl ?_
        refine s_move rfl rfl ?_
        refine WL_take rfl ?_
        refine s_leq rfl rfl rfl ?_
        refine WL_take rfl ?_
        refine s_move rfl rfl ?_
        refine WL_case (s := 94) rfl (fun hg94 => ?_) (fun hg94 => ?_)
        · skip
          try simp only [decide_eq_true_eq, decide_eq_false_iff_not, ge_iff_le] at hg94
          refine WL_take rfl ?_
          refine s_move rfl rfl ?_
          refine WL_take rfl ?_
          refine s_move rfl rfl ?_
          refine WL_take rfl ?_
          refine s_leq rfl rfl rfl ?_
          refine WL_take rfl ?_
          refine s_pick_t rfl rfl rfl ?_
          refine WL_take rfl ?_
          refine s_eql_bool Try.underlying4 rfl rfl rfl ?_
          refine s_pick_t rfl rfl rfl ?_
          refine s_move rfl rfl ?_
          refine WL_know (s := 101) (c := true) rfl ((by first | rfl | (rw [beq_iff_eq, decide_eq_decide]; omega) | (rw [beq_iff_eq]; symm; rw [decide_eq_false_iff_not]; omega) | (rw [beq_iff_eq, decide_eq_false_iff_not]; omega))) ?_
          refine WL_take rfl ?_
          refine s_call Try.call15 rfl rfl (lives_ok w) ?_
          rintro r w ⟨hst, rfl⟩
          replace hs := hs.fwd1 hst
          clear hst
          refine s_pick_t rfl rfl rfl ?_
          refine s_assign rfl rfl ?_
          refine WL_nil ?_
          refine n_then ?_
          refine W_ret ?_
          exact end1 rfl rfl ⟨hs.fwd, rfl⟩
        · skip
          try simp only [decide_eq_true_eq, decide_eq_false_iff_not, ge_iff_le] at hg94
          refine WL_skip rfl rfl rfl ?_
          refine WL_skip rfl rfl rfl ?_
          refine WL_skip rfl rfl rfl ?_
          refine WL_take rfl ?_
          refine s_pick_f rfl rfl rfl ?_
          refine WL_take rfl ?_
          refine s_eql_bool Try.underlying4 rfl rfl rfl ?_
          refine s_pick_t rfl rfl rfl ?_
          refine s_move rfl rfl ?_
          refine WL_know (s := 101) (c := true) rfl ((by first | rfl | (rw [beq_iff_eq, decide_eq_decide]; omega) | (rw [beq_iff_eq]; symm; rw [decide_eq_false_iff_not]; omega) | (rw [beq_iff_eq, decide_eq_false_iff_not]; omega))) ?_
          refine WL_take rfl ?_
          refine s_call Try.call15 rfl rfl (lives_ok w) ?_
          rintro r w ⟨hst, rfl⟩
          replace hs := hs.fwd1 hst
          clear hst
          refine s_pick_t rfl rfl rfl ?_
          refine s_assign rfl rfl ?_
          refine WL_nil ?_
          refine n_then ?_
          refine W_ret ?_
          exact end1 rfl rfl ⟨hs.fwd, rfl⟩
      · skip
        try simp only [decide_eq_true_eq, decide_eq_false_iff_not, ge_iff_le] at hg86
        refine WL_skip rfl rfl rfl ?_
        refine WL_skip rfl rfl rfl ?_
        refine WL_skip rfl rfl rfl ?_
        refine WL_take rfl ?_
        refine s_pick_f rfl rfl rfl ?_
        refine WL_take rfl ?_
        refine s_move rfl rfl ?_
        refine WL_take rfl ?_
        refine s_move rfl rfl ?_
        refine WL_take rfl ?_
        refine s_leq rfl rfl rfl ?_
        refine WL_take rfl ?_
        refine s_move rfl rfl ?_
        refine WL_case (s := 94) rfl (fun hg94 => ?_) (fun hg94 => ?_)
        · skip
          try simp only [decide_eq_true_eq, decide_eq_false_iff_not, ge_iff_le] at hg94
          refine WL_take rfl ?_
          refine s_move rfl rfl ?_
          refine WL_take rfl ?_
          refine s_move rfl rfl ?_
          refine WL_take rfl ?_
          refine s_leq rfl rfl rfl ?_
          refine WL_take rfl ?_
          refine s_pick_t rfl rfl rfl ?_
          refine WL_take rfl ?_
          refine s_eql_bool Try.underlying4 rfl rfl rfl ?_
          refine s_pick_t rfl rfl rfl ?_
          refine s_move rfl rfl ?_
          refine WL_know (s := 101) (c := true) rfl ((by first | rfl | (rw [beq_iff_eq, decide_eq_decide]; omega) | (rw [beq_iff_eq]; symm; rw [decide_eq_false_iff_not]; omega) | (rw [beq_iff_eq, decide_eq_false_iff_not]; omega))) ?_
          refine WL_take rfl ?_
          refine s_call Try.call15 rfl rfl (lives_ok w) ?_
          rintro r w ⟨hst, rfl⟩
          replace hs := hs.fwd1 hst
          clear hst
          refine s_pick_t rfl rfl rfl ?_
          refine s_assign rfl rfl ?_
          refine WL_nil ?_
          refine n_then ?_
          refine W_ret ?_
          exact end1 rfl rfl ⟨hs.fwd, rfl⟩
        · skip
          try simp only [decide_eq_true_eq, decide_eq_false_iff_not, ge_iff_le] at hg94
          refine WL_skip rfl rfl rfl ?_
          refine WL_skip rfl rfl rfl ?_
          refine WL_skip rfl rfl rfl ?_
          refine WL_take rfl ?_
          refine s_pick_f rfl rfl rfl ?_
          refine WL_take rfl ?_
          refine s_eql_bool Try.underlying4 rfl rfl rfl ?_
          refine s_pick_t rfl rfl rfl ?_
          refine s_move rfl rfl ?_
          refine WL_know (s := 101) (c := true) rfl ((by first | rfl | (rw [beq_iff_eq, decide_eq_decide]; omega) | (rw [beq_iff_eq]; symm; rw [decide_eq_false_iff_not]; omega) | (rw [beq_iff_eq, decide_eq_false_iff_not]; omega))) ?_
          refine WL_take rfl ?_
          refine s_call Try.call15 rfl rfl (lives_ok w) ?_
          rintro r w ⟨hst, rfl⟩
          replace hs := hs.fwd1 hst
          clear hst
          refine s_pick_t rfl rfl rfl ?_
          refine s_assign rfl rfl ?_
          refine WL_nil ?_
          refine n_then ?_
          refine W_ret ?_
          exact end1 rfl rfl ⟨hs.fwd, rfl⟩
end Go.Proofs.Ytmjjdcfakkaiiaa
