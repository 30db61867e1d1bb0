/- DiskArguments. -/
import Derived.Test.YthfcdjbkbmhjgaaDkI
set_option linter.unusedVariables false
set_option linter.unusedSimpArgs false
namespace Go.Proofs.Ythfcdjbkbmhjgaa
open Go.SL
theorem new_step (room : Int) : (newDk room).step = (newDk room, false) := by simp [Dk.step, newDk]
theorem new_app_arg {room f : Int} {bs : List Int} (h : f < 0 ∨ 63 < f) : (newDk room).app f bs = (newDk room, 1) := by rw [Dk.app, if_pos h]
theorem new_app_full {room f : Int} {bs : List Int} (h : 0 ≤ f ∧ f ≤ 63) (hl : room < (bs.length : Int)) : (newDk room).app f bs = (newDk room, 17) := by
  rw [Dk.app, if_neg (by omega), if_neg (by simp [newDk]), if_pos (by simp only [newDk]; rw [total_nil]; omega)]
theorem new_app_ok {room f : Int} {bs : List Int} (h : 0 ≤ f ∧ f ≤ 63) (hl : (bs.length : Int) ≤ room) : (newDk room).app f bs = ((newDk room).set f bs 0, 0) := by
  rw [Dk.app, if_neg (by omega), if_neg (by simp [newDk]), if_neg (by simp only [newDk]; rw [total_nil]; omega), new_step]
  rfl
theorem new_set_total {room f : Int} {bs : List Int} {d : Nat} (h : 0 ≤ f ∧ f ≤ 63) : total ((newDk room).set f bs d).c = bs.length := by
  have := total_set (D := newDk room) (bs := bs) (d := d) h
  have h0 : total (newDk room).c = 0 := total_nil
  have h1 : ((newDk room).c f).length = 0 := rfl
  omega
theorem set_c (D : Dk) (f : Int) (bs : List Int) (d : Nat) : (D.set f bs d).c f = bs ∧ (D.set f bs d).d f = d ∧ (D.set f bs d).off = D.off ∧ (D.set f bs d).armed = D.armed := ⟨by simp [Dk.set], by simp [Dk.set], rfl, rfl⟩
theorem set_set (D : Dk) (f : Int) (bs bs' : List Int) (d d' : Nat) : (D.set f bs d).set f bs' d' = D.set f bs' d' := by
  simp only [Dk.set]; congr 1
  · funext q; split <;> rfl
  · funext q; split <;> rfl
theorem step_free {D : Dk} (h : D.armed = false) : D.step = (D, false) := by rw [Dk.step, if_pos h]
theorem readE_ok {D : Dk} {f : Int} (h : 0 ≤ f ∧ f ≤ 63) (ho : D.off = false) : D.readE f = 0 ∧ D.readV f = D.c f := by
  have : D.readE f = 0 := by rw [Dk.readE, if_neg (by omega), if_neg (by simp [ho])]
  exact ⟨this, by rw [Dk.readV, if_pos this]⟩
theorem readE_arg {D : Dk} {f : Int} (h : f < 0 ∨ 63 < f) : D.readE f = 1 ∧ D.readV f = [] := by
  have : D.readE f = 1 := by rw [Dk.readE, if_pos h]
  exact ⟨this, by rw [Dk.readV, if_neg (by rw [this]; decide)]⟩
theorem readE_off {D : Dk} {f : Int} (h : 0 ≤ f ∧ f ≤ 63) (ho : D.off = true) : D.readE f = 18 ∧ D.readV f = [] := by
  have : D.readE f = 18 := by rw [Dk.readE, if_neg (by omega), if_pos ho]
  exact ⟨this, by rw [Dk.readV, if_neg (by rw [this]; decide)]⟩
theorem trunc_set_ok {D : Dk} {f n : Int} {bs : List Int} {d : Nat} (hf : 0 ≤ f ∧ f ≤ 63) (hn : 0 ≤ n ∧ n ≤ bs.length) (ho : D.off = false) (ha : D.armed = false) : (D.set f bs d).trunc f n = (D.set f (bs.take n.toNat) (min d n.toNat), 0) := by
  obtain ⟨h1, h2, h3, h4⟩ := set_c D f bs d
  rw [Dk.trunc, h1, if_neg (by omega), if_neg (by rw [h3, ho]; simp), step_free (by rw [h4]; exact ha), if_neg (by simp), h2, set_set]
theorem trunc_arg {D : Dk} {f n : Int} (h : f < 0 ∨ 63 < f ∨ n < 0 ∨ ((D.c f).length : Int) < n) : D.trunc f n = (D, 1) := by rw [Dk.trunc, if_pos h]
set_option maxHeartbeats 2000000 in
theorem diskArguments_ok (vb : Value) (room file size : Int) (bs : List Int) (w0 : World) (hb : Sl w0 vb bs.length (u8s bs)) (hbb : ∀ z ∈ bs, isB z) (hroom : isI64 room) (hfile : isI64 file) (hsize : isI64 size) :
    Ret Try.prog 4 [.int .i64 room, .int .i64 file, .int .i64 size, vb].toArray w0 fun r w' => Fwd [] w0 w' ∧ r = .bool true := by
  obtain ⟨ow, how⟩ : ∃ ow, ow = bs.take 60 := ⟨_, rfl⟩
  have hol : ow.length = min bs.length 60 := by rw [how]; simp [Nat.min_comm]
  have hol2 : min bs.length 60 ≤ 60 := Nat.min_le_right _ _
  have howB : ∀ z ∈ ow, isB z := fun z hz => hbb z (List.mem_of_mem_take (by rw [← how]; exact hz))
  have h0I : isI64 0 := by unfold isI64; omega
  refine Ret_start fun w hs => ?_
  refine Ret_of Try.func4 rfl Try.ntmps4 rfl ?_
  refine W_seq ?_
  refine W_region ?_
  refine s_assign rfl rfl ?_
  refine WL_nil ?_
  refine n_then ?_
  refine W_seq ?_
  refine W_region ?_
  refine s_move rfl rfl ?_
  refine s_call Try.call10 rfl rfl (dNew_ok room w) ?_
  rintro v w (⟨hr1, hr2, p, Ld, rfl, hD, hst⟩ | ⟨hr, rfl, hst⟩)
  · skip
    replace hs := (St.back0 hs hst).left
    clear hst
    refine s_move rfl rfl ?_
    refine s_extract rfl rfl rfl ?_
    refine s_extract rfl rfl rfl ?_
    refine s_assign rfl rfl ?_
    refine s_assign rfl rfl ?_
    refine WL_nil ?_
    refine n_then ?_
    refine W_seq ?_
    refine W_seq ?_
    refine W_region ?_
    refine s_move rfl rfl ?_
    refine s_lss rfl rfl rfl ?_
    refine s_move rfl rfl ?_
    refine WL_know (s := 25) (c := false) rfl ((by simp; omega)) ?_
    refine WL_take rfl ?_
    refine s_move rfl rfl ?_
    refine WL_take rfl ?_
    refine s_gtr rfl rfl rfl ?_
    refine s_pick_f rfl rfl rfl ?_
    refine WL_nil ?_
    refine n_then ?_
    refine W_cond_kf rfl ((by simp; omega)) ?_
    refine W_skip ?_
    refine n_then ?_
    refine W_seq ?_
    refine W_seq ?_
    refine W_region ?_
    refine s_move rfl rfl ?_
    refine s_eql_ptr_nil Try.underlying23 rfl rfl rfl ?_
    refine s_move rfl rfl ?_
    refine WL_know (s := 40) (c := false) rfl (rfl) ?_
    refine WL_take rfl ?_
    refine s_move rfl rfl ?_
    refine WL_take rfl ?_
    refine s_neq rfl rfl rfl ?_
    refine s_pick_f rfl rfl rfl ?_
    refine WL_nil ?_
    refine n_then ?_
    refine W_cond_kf rfl (rfl) ?_
    refine W_skip ?_
    refine n_then ?_
    refine W_seq ?_
    refine W_region ?_
    refine s_move rfl rfl ?_
    refine s_call Try.call12 rfl rfl (few_ok vb bs 60 w (hb.fwd0 hs.fwd) (by omega)) ?_
    rintro r w ⟨Lo, hOo, hst⟩
    replace hs := St.back0 hs hst
    clear hst
    rw [← how, ← hol] at hOo
    obtain ⟨_, co, ao, rfl, hvo⟩ := hOo.form
    subst hvo
    refine s_assign rfl rfl ?_
    refine WL_nil ?_
    refine n_then ?_
    refine W_seq ?_
    refine W_region ?_
    refine s_move rfl rfl ?_
    refine s_move rfl rfl ?_
    refine s_move rfl rfl ?_
    refine s_callL (M := Lo) (L1 := Ld) (X := []) Try.call13 rfl rfl (by simpa using hs) (fun h => dAppend_ok p _ file _ ow Ld w hD (OwnS_slIn hOo fun p hp => hs.own p (by simp [hp])) (fun a m c he hne => by cases he; exact St_frontNot hs (OwnS_in hOo hne)) howB h) ?_
    clear hs hD; rintro u w Ld ⟨hD, rfl⟩ - hs
    simp only [List.append_nil] at hs
    obtain ⟨D1, e1, hDE⟩ : ∃ D1 e1, (newDk room).app file ow = (D1, e1) := ⟨_, _, rfl⟩
    rw [hDE] at hD ⊢
    simp only at hD ⊢
    refine s_assign rfl rfl ?_
    refine WL_nil ?_
    refine n_then ?_
    refine W_seq ?_
    refine W_region ?_
    refine s_move rfl rfl ?_
    refine s_move rfl rfl ?_
    refine s_callL (M := Lo) (L1 := Ld) (X := []) Try.call16 rfl rfl (by simpa using hs) (fun h => dRead_ok p _ file Ld w hD h) ?_
    clear hs; rintro u w L9 ⟨v1, Lr1, rfl, rfl, hO1⟩ - hs
    simp only [List.append_nil] at hs
    obtain ⟨e2, he2⟩ : ∃ e, e = D1.readE file := ⟨_, rfl⟩
    rw [← he2]
    obtain ⟨_, c1, a1, rfl, hv1⟩ := hO1.form
    subst hv1
    refine s_move rfl rfl ?_
    refine s_extract rfl rfl rfl ?_
    refine s_extract rfl rfl rfl ?_
    refine s_assign rfl rfl ?_
    refine s_assign rfl rfl ?_
    refine WL_nil ?_
    refine n_then ?_
    refine W_seq ?_
    refine W_seq ?_
    refine W_region ?_
    refine s_move rfl rfl ?_
    refine s_lss rfl rfl rfl ?_
    refine s_move rfl rfl ?_
    refine WL_case (s := 58) rfl (fun hg58 => ?_) (fun hg58 => ?_)
    · skip
      try simp only [decide_eq_true_eq, decide_eq_false_iff_not, gt_iff_lt] at hg58
      refine WL_skip rfl rfl rfl ?_
      refine WL_skip rfl rfl rfl ?_
      refine s_pick_t rfl rfl rfl ?_
      refine WL_nil ?_
      refine n_then ?_
      refine W_cond_t rfl ?_
      have hout : file < 0 ∨ 63 < file := by first | omega | (left; assumption)
      rw [new_app_arg hout] at hDE
      cases hDE
      obtain ⟨hq1, hq2⟩ := readE_arg (D := newDk room) hout
      rw [hq1] at he2
      rw [hq2] at hO1 ⊢
      have htr := trunc_arg (D := newDk room) (f := file) (n := 0) (by omega)
      refine W_seq ?_
      refine W_region ?_
      refine s_move rfl rfl ?_
      refine s_eql rfl rfl rfl ?_
      refine s_move rfl rfl ?_
      refine WL_know (s := 64) (c := true) rfl (rfl) ?_
      refine WL_take rfl ?_
      refine s_move rfl rfl ?_
      refine WL_take rfl ?_
      refine s_eql rfl rfl rfl ?_
      refine s_pick_t rfl rfl rfl ?_
      refine s_move rfl rfl ?_
      refine WL_know (s := 68) (c := true) rfl ((by simp [he2])) ?_
      refine WL_take rfl ?_
      refine s_move rfl rfl ?_
      refine WL_take rfl ?_
      refine s_len rfl rfl (LN27 _ _ _ _) ?_
      refine WL_take rfl ?_
      refine s_eql rfl rfl rfl ?_
      refine s_pick_t rfl rfl rfl ?_
      refine s_move rfl rfl ?_
      refine WL_know (s := 73) (c := true) rfl ((by simp)) ?_
      refine WL_take rfl ?_
      refine s_move rfl rfl ?_
      refine WL_take rfl ?_
      refine s_move rfl rfl ?_
      refine WL_take rfl ?_
      refine s_callL (M := Lo ++ Lr1) (L1 := Ld) (X := []) Try.call19 rfl rfl (by simpa using hs) (fun h => dTrunc_ok p _ file 0 Ld w hD h0I h) ?_
      rw [htr]
      clear hs hD; rintro u w Ld ⟨hD, rfl⟩ - hs
      simp only [List.append_nil] at hs hD
      refine WL_take rfl ?_
      refine s_eql rfl rfl rfl ?_
      refine s_pick_t rfl rfl rfl ?_
      refine s_move rfl rfl ?_
      refine WL_know (s := 79) (c := true) rfl (rfl) ?_
      refine WL_take rfl ?_
      refine s_move rfl rfl ?_
      refine WL_take rfl ?_
      refine s_callL (M := Lo ++ Lr1) (L1 := Ld) (X := []) Try.call20 rfl rfl (by simpa using hs) (fun h => used_ok p _ Ld w hD h) ?_
      clear hs; rintro u w L9 ⟨hL9, rfl⟩ - hs
      rw [hL9] at hs
      clear hL9
      simp only [List.append_nil] at hs
      rw [show total (newDk room).c = 0 from total_nil]
      refine WL_take rfl ?_
      refine s_eql rfl rfl rfl ?_
      refine s_pick_t rfl rfl rfl ?_
      refine s_move rfl rfl ?_
      refine WL_know (s := 84) (c := true) rfl (rfl) ?_
      refine WL_take rfl ?_
      refine s_call Try.call18 rfl rfl (lives_ok w) ?_
      rintro r w ⟨hst, rfl⟩
      replace hs := hs.fwd1 hst
      clear hst
      refine s_pick_t rfl rfl rfl ?_
      refine s_assign rfl rfl ?_
      refine WL_nil ?_
      refine n_then ?_
      refine W_ret ?_
      refine r_then ?_
      exact end1 rfl rfl ⟨hs.fwd, rfl⟩
    · skip
      try simp only [decide_eq_true_eq, decide_eq_false_iff_not, gt_iff_lt] at hg58
      refine WL_take rfl ?_
      refine s_move rfl rfl ?_
      refine WL_take rfl ?_
      refine s_gtr rfl rfl rfl ?_
      refine s_pick_f rfl rfl rfl ?_
      refine WL_nil ?_
      refine n_then ?_
      refine W_cond rfl (fun hc61 => ?_) (fun hc61 => ?_)
      · skip
        try simp only [decide_eq_true_eq, decide_eq_false_iff_not, gt_iff_lt] at hc61
        have hout : file < 0 ∨ 63 < file := by first | omega | (left; assumption)
        rw [new_app_arg hout] at hDE
        cases hDE
        obtain ⟨hq1, hq2⟩ := readE_arg (D := newDk room) hout
        rw [hq1] at he2
        rw [hq2] at hO1 ⊢
        have htr := trunc_arg (D := newDk room) (f := file) (n := 0) (by omega)
        refine W_seq ?_
        refine W_region ?_
        refine s_move rfl rfl ?_
        refine s_eql rfl rfl rfl ?_
        refine s_move rfl rfl ?_
        refine WL_know (s := 64) (c := true) rfl (rfl) ?_
        refine WL_take rfl ?_
        refine s_move rfl rfl ?_
        refine WL_take rfl ?_
        refine s_eql rfl rfl rfl ?_
        refine s_pick_t rfl rfl rfl ?_
        refine s_move rfl rfl ?_
        refine WL_know (s := 68) (c := true) rfl ((by simp [he2])) ?_
        refine WL_take rfl ?_
        refine s_move rfl rfl ?_
        refine WL_take rfl ?_
        refine s_len rfl rfl (LN27 _ _ _ _) ?_
        refine WL_take rfl ?_
        refine s_eql rfl rfl rfl ?_
        refine s_pick_t rfl rfl rfl ?_
        refine s_move rfl rfl ?_
        refine WL_know (s := 73) (c := true) rfl ((by simp)) ?_
        refine WL_take rfl ?_
        refine s_move rfl rfl ?_
        refine WL_take rfl ?_
        refine s_move rfl rfl ?_
        refine WL_take rfl ?_
        refine s_callL (M := Lo ++ Lr1) (L1 := Ld) (X := []) Try.call19 rfl rfl (by simpa using hs) (fun h => dTrunc_ok p _ file 0 Ld w hD h0I h) ?_
        rw [htr]
        clear hs hD; rintro u w Ld ⟨hD, rfl⟩ - hs
        simp only [List.append_nil] at hs hD
        refine WL_take rfl ?_
        refine s_eql rfl rfl rfl ?_
        refine s_pick_t rfl rfl rfl ?_
        refine s_move rfl rfl ?_
        refine WL_know (s := 79) (c := true) rfl (rfl) ?_
        refine WL_take rfl ?_
        refine s_move rfl rfl ?_
        refine WL_take rfl ?_
        refine s_callL (M := Lo ++ Lr1) (L1 := Ld) (X := []) Try.call20 rfl rfl (by simpa using hs) (fun h => used_ok p _ Ld w hD h) ?_
        clear hs; rintro u w L9 ⟨hL9, rfl⟩ - hs
        rw [hL9] at hs
        clear hL9
        simp only [List.append_nil] at hs
        rw [show total (newDk room).c = 0 from total_nil]
        refine WL_take rfl ?_
        refine s_eql rfl rfl rfl ?_
        refine s_pick_t rfl rfl rfl ?_
        refine s_move rfl rfl ?_
        refine WL_know (s := 84) (c := true) rfl (rfl) ?_
        refine WL_take rfl ?_
        refine s_call Try.call18 rfl rfl (lives_ok w) ?_
        rintro r w ⟨hst, rfl⟩
        replace hs := hs.fwd1 hst
        clear hst
        refine s_pick_t rfl rfl rfl ?_
        refine s_assign rfl rfl ?_
        refine WL_nil ?_
        refine n_then ?_
        refine W_ret ?_
        refine r_then ?_
        exact end1 rfl rfl ⟨hs.fwd, rfl⟩
      · skip
        try simp only [decide_eq_true_eq, decide_eq_false_iff_not, gt_iff_lt] at hc61
        have hin : 0 ≤ file ∧ file ≤ 63 := by omega
        refine W_skip ?_
        refine n_then ?_
        refine W_seq ?_
        refine W_seq ?_
        refine W_region ?_
        refine s_move rfl rfl ?_
        refine s_len rfl rfl (LN27 _ _ _ _) ?_
        refine s_move rfl rfl ?_
        refine s_gtr rfl rfl rfl ?_
        refine WL_nil ?_
        refine n_then ?_
        refine W_cond rfl (fun hc90 => ?_) (fun hc90 => ?_)
        · skip
          try simp only [decide_eq_true_eq, decide_eq_false_iff_not, gt_iff_lt] at hc90
          rw [new_app_full hin (by omega)] at hDE
          cases hDE
          obtain ⟨hq1, hq2⟩ := readE_ok (D := newDk room) hin rfl
          rw [hq1] at he2
          rw [hq2, show (newDk room).c file = [] from rfl] at hO1 ⊢
          refine W_seq ?_
          refine W_region ?_
          refine s_move rfl rfl ?_
          refine s_eql rfl rfl rfl ?_
          refine s_move rfl rfl ?_
          refine WL_know (s := 93) (c := true) rfl (rfl) ?_
          refine WL_take rfl ?_
          refine s_move rfl rfl ?_
          refine WL_take rfl ?_
          refine s_eql rfl rfl rfl ?_
          refine s_pick_t rfl rfl rfl ?_
          refine s_move rfl rfl ?_
          refine WL_know (s := 97) (c := true) rfl ((by simp [he2])) ?_
          refine WL_take rfl ?_
          refine s_move rfl rfl ?_
          refine WL_take rfl ?_
          refine s_len rfl rfl (LN27 _ _ _ _) ?_
          refine WL_take rfl ?_
          refine s_eql rfl rfl rfl ?_
          refine s_pick_t rfl rfl rfl ?_
          refine s_move rfl rfl ?_
          refine WL_know (s := 102) (c := true) rfl ((by simp)) ?_
          refine WL_take rfl ?_
          refine s_move rfl rfl ?_
          refine WL_take rfl ?_
          refine s_callL (M := Lo ++ Lr1) (L1 := Ld) (X := []) Try.call20 rfl rfl (by simpa using hs) (fun h => used_ok p _ Ld w hD h) ?_
          clear hs; rintro u w L9 ⟨hL9, rfl⟩ - hs
          rw [hL9] at hs
          clear hL9
          simp only [List.append_nil] at hs
          rw [show total (newDk room).c = 0 from total_nil]
          refine WL_take rfl ?_
          refine s_eql rfl rfl rfl ?_
          refine s_pick_t rfl rfl rfl ?_
          refine s_move rfl rfl ?_
          refine WL_know (s := 107) (c := true) rfl (rfl) ?_
          refine WL_take rfl ?_
          refine s_call Try.call18 rfl rfl (lives_ok w) ?_
          rintro r w ⟨hst, rfl⟩
          replace hs := hs.fwd1 hst
          clear hst
          refine s_pick_t rfl rfl rfl ?_
          refine s_assign rfl rfl ?_
          refine WL_nil ?_
          refine n_then ?_
          refine W_ret ?_
          refine r_then ?_
          exact end1 rfl rfl ⟨hs.fwd, rfl⟩
        · skip
          try simp only [decide_eq_true_eq, decide_eq_false_iff_not, gt_iff_lt] at hc90
          rw [new_app_ok hin (by omega)] at hDE
          cases hDE
          obtain ⟨hq1, hq2⟩ := readE_ok (D := (newDk room).set file ow 0) hin rfl
          have hsc := (set_c (newDk room) file ow 0).1
          rw [hq1] at he2
          rw [hq2, hsc] at hO1 ⊢
          have htot := new_set_total (room := room) (f := file) (bs := ow) (d := 0) hin
          refine W_skip ?_
          refine n_then ?_
          refine W_seq ?_
          refine W_seq ?_
          refine W_region ?_
          refine s_move rfl rfl ?_
          refine s_neq rfl rfl rfl ?_
          refine s_move rfl rfl ?_
          refine WL_know (s := 112) (c := false) rfl (rfl) ?_
          refine WL_take rfl ?_
          refine s_move rfl rfl ?_
          refine WL_take rfl ?_
          refine s_neq rfl rfl rfl ?_
          refine s_pick_f rfl rfl rfl ?_
          refine s_move rfl rfl ?_
          refine WL_know (s := 116) (c := false) rfl ((by simp [he2])) ?_
          refine WL_take rfl ?_
          refine s_move rfl rfl ?_
          refine WL_take rfl ?_
          refine s_move rfl rfl ?_
          refine WL_take rfl ?_
          refine s_call Try.call17 rfl rfl (sameBytes_ok _ _ ow ow w (OwnS_slIn hO1 fun p hp => hs.own p (by simp [hp])) (OwnS_slIn hOo fun p hp => hs.own p (by simp [hp])) (by omega)) ?_
          rintro r w ⟨hst, rfl⟩
          replace hs := hs.fwd1 hst
          clear hst
          refine WL_take rfl ?_
          refine s_not rfl rfl ?_
          refine s_pick_f rfl rfl rfl ?_
          refine WL_nil ?_
          refine n_then ?_
          refine W_cond_kf rfl ((by simp)) ?_
          refine W_skip ?_
          refine n_then ?_
          refine W_seq ?_
          refine W_region ?_
          refine s_move rfl rfl ?_
          refine s_move rfl rfl ?_
          refine s_move rfl rfl ?_
          refine s_callL (M := Lo ++ Lr1) (L1 := Ld) (X := []) Try.call19 rfl rfl (by simpa using hs) (fun h => dTrunc_ok p _ file size Ld w hD hsize h) ?_
          clear hs hD; rintro u w Ld ⟨hD, rfl⟩ - hs
          simp only [List.append_nil] at hs
          obtain ⟨D2, e3, hD2⟩ : ∃ D2 e3, ((newDk room).set file ow 0).trunc file size = (D2, e3) := ⟨_, _, rfl⟩
          rw [hD2] at hD ⊢
          simp only at hD ⊢
          refine s_assign rfl rfl ?_
          refine WL_nil ?_
          refine n_then ?_
          refine W_seq ?_
          refine W_seq ?_
          refine W_region ?_
          refine s_move rfl rfl ?_
          refine s_lss rfl rfl rfl ?_
          refine s_move rfl rfl ?_
          refine WL_case (s := 128) rfl (fun hg128 => ?_) (fun hg128 => ?_)
          · skip
            try simp only [decide_eq_true_eq, decide_eq_false_iff_not, gt_iff_lt] at hg128
            refine WL_skip rfl rfl rfl ?_
            refine WL_skip rfl rfl rfl ?_
            refine WL_skip rfl rfl rfl ?_
            refine WL_skip rfl rfl rfl ?_
            refine s_pick_t rfl rfl rfl ?_
            refine WL_nil ?_
            refine n_then ?_
            refine W_cond_t rfl ?_
            rw [trunc_arg (by rw [hsc]; omega)] at hD2
            cases hD2
            refine W_seq ?_
            refine W_region ?_
            refine s_move rfl rfl ?_
            refine s_eql rfl rfl rfl ?_
            refine s_move rfl rfl ?_
            refine WL_know (s := 136) (c := true) rfl (rfl) ?_
            refine WL_take rfl ?_
            refine s_move rfl rfl ?_
            refine WL_take rfl ?_
            refine s_callL (M := Lo ++ Lr1) (L1 := Ld) (X := []) Try.call20 rfl rfl (by simpa using hs) (fun h => used_ok p _ Ld w hD h) ?_
            clear hs; rintro u w L9 ⟨hL9, rfl⟩ - hs
            rw [hL9] at hs
            clear hL9
            simp only [List.append_nil] at hs
            rw [htot]
            refine WL_take rfl ?_
            refine s_move rfl rfl ?_
            refine WL_take rfl ?_
            refine s_len rfl rfl (LN27 _ _ _ _) ?_
            refine WL_take rfl ?_
            refine s_eql rfl rfl rfl ?_
            refine s_pick_t rfl rfl rfl ?_
            refine s_move rfl rfl ?_
            refine WL_know (s := 143) (c := true) rfl ((by simp)) ?_
            refine WL_take rfl ?_
            refine s_call Try.call18 rfl rfl (lives_ok w) ?_
            rintro r w ⟨hst, rfl⟩
            replace hs := hs.fwd1 hst
            clear hst
            refine s_pick_t rfl rfl rfl ?_
            refine s_assign rfl rfl ?_
            refine WL_nil ?_
            refine n_then ?_
            refine W_ret ?_
            refine r_then ?_
            exact end1 rfl rfl ⟨hs.fwd, rfl⟩
          · skip
            try simp only [decide_eq_true_eq, decide_eq_false_iff_not, gt_iff_lt] at hg128
            refine WL_take rfl ?_
            refine s_move rfl rfl ?_
            refine WL_take rfl ?_
            refine s_move rfl rfl ?_
            refine WL_take rfl ?_
            refine s_len rfl rfl (LN27 _ _ _ _) ?_
            refine WL_take rfl ?_
            refine s_gtr rfl rfl rfl ?_
            refine s_pick_f rfl rfl rfl ?_
            refine WL_nil ?_
            refine n_then ?_
            refine W_cond rfl (fun hc133 => ?_) (fun hc133 => ?_)
            · skip
              try simp only [decide_eq_true_eq, decide_eq_false_iff_not, gt_iff_lt] at hc133
              rw [trunc_arg (by rw [hsc]; omega)] at hD2
              cases hD2
              refine W_seq ?_
              refine W_region ?_
              refine s_move rfl rfl ?_
              refine s_eql rfl rfl rfl ?_
              refine s_move rfl rfl ?_
              refine WL_know (s := 136) (c := true) rfl (rfl) ?_
              refine WL_take rfl ?_
              refine s_move rfl rfl ?_
              refine WL_take rfl ?_
              refine s_callL (M := Lo ++ Lr1) (L1 := Ld) (X := []) Try.call20 rfl rfl (by simpa using hs) (fun h => used_ok p _ Ld w hD h) ?_
              clear hs; rintro u w L9 ⟨hL9, rfl⟩ - hs
              rw [hL9] at hs
              clear hL9
              simp only [List.append_nil] at hs
              rw [htot]
              refine WL_take rfl ?_
              refine s_move rfl rfl ?_
              refine WL_take rfl ?_
              refine s_len rfl rfl (LN27 _ _ _ _) ?_
              refine WL_take rfl ?_
              refine s_eql rfl rfl rfl ?_
              refine s_pick_t rfl rfl rfl ?_
              refine s_move rfl rfl ?_
              refine WL_know (s := 143) (c := true) rfl ((by simp)) ?_
              refine WL_take rfl ?_
              refine s_call Try.call18 rfl rfl (lives_ok w) ?_
              rintro r w ⟨hst, rfl⟩
              replace hs := hs.fwd1 hst
              clear hst
              refine s_pick_t rfl rfl rfl ?_
              refine s_assign rfl rfl ?_
              refine WL_nil ?_
              refine n_then ?_
              refine W_ret ?_
              refine r_then ?_
              exact end1 rfl rfl ⟨hs.fwd, rfl⟩
            · skip
              try simp only [decide_eq_true_eq, decide_eq_false_iff_not, gt_iff_lt] at hc133
              rw [trunc_set_ok hin (by omega) rfl rfl] at hD2
              cases hD2
              obtain ⟨hq3, hq4⟩ := readE_ok (D := (newDk room).set file (ow.take size.toNat) (min 0 size.toNat)) hin rfl
              rw [(set_c (newDk room) file (ow.take size.toNat) (min 0 size.toNat)).1] at hq4
              refine W_skip ?_
              refine n_then ?_
              refine W_seq ?_
              refine W_region ?_
              refine s_move rfl rfl ?_
              refine s_move rfl rfl ?_
              refine s_callL (M := Lo ++ Lr1) (L1 := Ld) (X := []) Try.call16 rfl rfl (by simpa using hs) (fun h => dRead_ok p _ file Ld w hD h) ?_
              clear hs; rintro u w L9 ⟨v2, Lr2, rfl, rfl, hO2⟩ - hs
              simp only [List.append_nil] at hs
              rw [hq4] at hO2
              refine s_move rfl rfl ?_
              refine s_extract rfl rfl rfl ?_
              refine s_extract rfl rfl rfl ?_
              refine s_assign rfl rfl ?_
              refine s_assign rfl rfl ?_
              refine WL_nil ?_
              refine n_then ?_
              refine W_seq ?_
              refine W_region ?_
              refine s_move rfl rfl ?_
              refine s_eql rfl rfl rfl ?_
              refine s_move rfl rfl ?_
              refine WL_know (s := 154) (c := true) rfl (rfl) ?_
              refine WL_take rfl ?_
              refine s_move rfl rfl ?_
              refine WL_take rfl ?_
              refine s_move rfl rfl ?_
              refine WL_take rfl ?_
              refine s_move rfl rfl ?_
              refine WL_take rfl ?_
              have hcap : ow.length ≤ co := by obtain ⟨a9, c9, h8, h9⟩ := (OwnS_slIn hOo (w := w) fun p hp => hs.own p (by simp [hp])).len_le; cases h8; exact h9
              (refine s_slice_hi El27 rfl rfl rfl ?hx ?_; case hx => (constructor <;> omega))
              refine WL_take rfl ?_
              have hsl2 : Sl w (.slice ao size.toNat co) (ow.take size.toNat).length (u8s (ow.take size.toNat)) := by
                have h1 := (OwnS_slIn hOo (w := w) fun p hp => hs.own p (by simp [hp])).take (k := size.toNat) (size := 1) (by omega) rfl
                rw [Nat.mul_one, ← List.map_take] at h1
                rw [List.length_take, Nat.min_eq_left (by omega)]; exact h1
              refine s_call Try.call17 rfl rfl (sameBytes_ok _ _ (ow.take size.toNat) (ow.take size.toNat) w (OwnS_slIn hO2 fun p hp => hs.own p (by simp [hp])) hsl2 (by rw [List.length_take]; omega)) ?_
              rintro r w ⟨hst, rfl⟩
              replace hs := hs.fwd1 hst
              clear hst
              refine s_pick_t rfl rfl rfl ?_
              refine s_move rfl rfl ?_
              refine WL_know (s := 161) (c := true) rfl ((by simp)) ?_
              refine WL_take rfl ?_
              refine s_call Try.call18 rfl rfl (lives_ok w) ?_
              rintro r w ⟨hst, rfl⟩
              replace hs := hs.fwd1 hst
              clear hst
              refine s_pick_t rfl rfl rfl ?_
              refine s_assign rfl rfl ?_
              refine WL_nil ?_
              refine n_then ?_
              refine W_ret ?_
              exact end1 rfl rfl ⟨hs.fwd, rfl⟩
  · skip
    replace hs := hs.fwd1 hst
    clear hst
    refine s_move rfl rfl ?_
    refine s_extract rfl rfl rfl ?_
    refine s_extract rfl rfl rfl ?_
    refine s_assign rfl rfl ?_
    refine s_assign rfl rfl ?_
    refine WL_nil ?_
    refine n_then ?_
    refine W_seq ?_
    refine W_seq ?_
    refine W_region ?_
    refine s_move rfl rfl ?_
    refine s_lss rfl rfl rfl ?_
    refine s_move rfl rfl ?_
    refine WL_case (s := 25) rfl (fun hg25 => ?_) (fun hg25 => ?_)
    · skip
      try simp only [decide_eq_true_eq, decide_eq_false_iff_not, gt_iff_lt] at hg25
      refine WL_skip rfl rfl rfl ?_
      refine WL_skip rfl rfl rfl ?_
      refine s_pick_t rfl rfl rfl ?_
      refine WL_nil ?_
      refine n_then ?_
      refine W_cond_t rfl ?_
      refine W_seq ?_
      refine W_region ?_
      refine s_move rfl rfl ?_
      refine s_eql_nil_nil Try.underlying23 rfl rfl rfl ?_
      refine s_move rfl rfl ?_
      refine WL_know (s := 31) (c := true) rfl (rfl) ?_
      refine WL_take rfl ?_
      refine s_move rfl rfl ?_
      refine WL_take rfl ?_
      refine s_eql rfl rfl rfl ?_
      refine s_pick_t rfl rfl rfl ?_
      refine s_move rfl rfl ?_
      refine WL_know (s := 35) (c := true) rfl (rfl) ?_
      refine WL_take rfl ?_
      refine s_call Try.call18 rfl rfl (lives_ok w) ?_
      rintro r w ⟨hst, rfl⟩
      replace hs := hs.fwd1 hst
      clear hst
      refine s_pick_t rfl rfl rfl ?_
      refine s_assign rfl rfl ?_
      refine WL_nil ?_
      refine n_then ?_
      refine W_ret ?_
      refine r_then ?_
      exact end1 rfl rfl ⟨hs.fwd, rfl⟩
    · skip
      try simp only [decide_eq_true_eq, decide_eq_false_iff_not, gt_iff_lt] at hg25
      refine WL_take rfl ?_
      refine s_move rfl rfl ?_
      refine WL_take rfl ?_
      refine s_gtr rfl rfl rfl ?_
      refine s_pick_f rfl rfl rfl ?_
      refine WL_nil ?_
      refine n_then ?_
      refine W_cond_kt rfl ((by simp; omega)) ?_
      refine W_seq ?_
      refine W_region ?_
      refine s_move rfl rfl ?_
      refine s_eql_nil_nil Try.underlying23 rfl rfl rfl ?_
      refine s_move rfl rfl ?_
      refine WL_know (s := 31) (c := true) rfl (rfl) ?_
      refine WL_take rfl ?_
      refine s_move rfl rfl ?_
      refine WL_take rfl ?_
      refine s_eql rfl rfl rfl ?_
      refine s_pick_t rfl rfl rfl ?_
      refine s_move rfl rfl ?_
      refine WL_know (s := 35) (c := true) rfl (rfl) ?_
      refine WL_take rfl ?_
      refine s_call Try.call18 rfl rfl (lives_ok w) ?_
      rintro r w ⟨hst, rfl⟩
      replace hs := hs.fwd1 hst
      clear hst
      refine s_pick_t rfl rfl rfl ?_
      refine s_assign rfl rfl ?_
      refine WL_nil ?_
      refine n_then ?_
      refine W_ret ?_
      refine r_then ?_
      exact end1 rfl rfl ⟨hs.fwd, rfl⟩
end Go.Proofs.Ythfcdjbkbmhjgaa
