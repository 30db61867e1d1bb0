/- A disk: Append, Read, Truncate. -/
import Derived.Test.YtbcdnpjcbchbjaaDoorDkC
set_option linter.unusedVariables false
set_option linter.unusedSimpArgs false
namespace Go.Proofs.YtbcdnpjcbchbjaaDoor
open Go.SL
def Dk.app (D : Dk) (f : Int) (bs : List Int) : Dk × Int :=
  if f < 0 ∨ 63 < f then (D, 1) else if D.off then (D, 18) else if D.room - (total D.c : Int) < (bs.length : Int) then (D, 17)
  else (D.step.1.set f (D.c f ++ bs) (D.d f), if D.step.2 then 18 else 0)
theorem set_step (D : Dk) (f : Int) (bs : List Int) (d : Nat) : (D.step.1.set f bs d).c = (D.set f bs d).c ∧ (D.step.1.set f bs d).d = (D.set f bs d).d := by
  obtain ⟨h1, h2, _⟩ := step_c D
  exact ⟨by simp [Dk.set, h1], by simp [Dk.set, h2]⟩
/-- a disk, one file of which is put anew -/
theorem disk_shut {p m : Nat} {o' : Obj} {D : Dk} {fs fs' : List Fl} {f : Int} {v' : Value} {bs : List Int} {d : Nat} {X : Hp} {E : Dk}
    (hM' : MapI o' (fkv fs')) (hF' : FilesOk (D.set f bs d) fs') (hc : E.c = (D.set f bs d).c) (hd : E.d = (D.set f bs d).d) (hR : (total E.c : Int) ≤ E.room ∧ 0 ≤ E.room ∧ E.room ≤ 16777216) (hA : E.armed = true → 0 ≤ E.left ∧ E.left ≤ 9223372036854775807) :
    DiskAt p E ((p, Blk 53 (dkCells E m)) :: (m, o') :: fblks fs') := ⟨m, o', fs', rfl, hM', hF'.of hc hd, hR, hA⟩
set_option maxHeartbeats 1000000 in
theorem dAppend_ok (p : Nat) (D : Dk) (f : Int) (v : Value) (bs : List Int) (L0 : Hp) (w0 : World) (hD : DiskAt p D L0) (hv : Sl w0 v bs.length (u8s bs)) (hap : ∀ a m c, v = .slice (some a) m c → u8s bs ≠ [] → a.block ∉ ids L0) (hB : ∀ b ∈ bs, isB b) (hs : St (ids L0) w0 w0 L0) :
    Ret Tryd.prog 11 [.pointer (some ⟨p, 0, none⟩), .int .i64 f, v].toArray w0 fun r w' => ∃ L', St (ids L0) w0 w' L' ∧ DiskAt p (D.app f bs).1 L' ∧ r = .int .i64 (D.app f bs).2 := by
  obtain ⟨va, vc, rfl, hvc⟩ := hv.len_le
  have hD0 := hD
  obtain ⟨m, o, fs, hL, hM, hF, hR, hA⟩ := hD
  obtain ⟨v0, Lf, rest, hO0, hlk, hperm, hd0, hB0, hback⟩ := file_open hM hF f
  have hstep := step_c D
  have hsl := step_left D hA
  replace hs : St (ids L0) w0 w0 ((p, Blk 53 (dkCells D m)) :: (m, o) :: (Lf ++ fblks rest)) := by
    have : St (ids L0) w0 w0 ((p, Blk 53 (dkCells D m)) :: (m, o) :: fblks fs) := by rw [hL] at hs ⊢; exact hs
    exact this.perm ((hperm.cons _).cons _)
  have hsb : ∀ w, St (ids L0) w0 w ((p, Blk 53 (dkCells D m)) :: (m, o) :: (Lf ++ fblks rest)) → St (ids L0) w0 w L0 := fun w h => by
    have := h.perm ((hperm.symm.cons _).cons _)
    rw [← hL] at this; exact this
  unfold dkCells at hs
  refine Ret_startL hs fun w hs => ?_
  refine Ret_of Tryd.func11 rfl Tryd.ntmps11 rfl ?_
  refine W_seq ?_
  refine W_region ?_
  refine s_assign rfl rfl ?_
  refine WL_nil ?_
  refine n_then ?_
  refine W_seq ?_
  refine W_block ?_
  refine W_seq ?_
  refine W_region ?_
  refine s_move rfl rfl ?_
  refine s_lss rfl rfl rfl ?_
  refine s_move rfl rfl ?_
  refine WL_case (s := 12) rfl (fun hg12 => ?_) (fun hg12 => ?_)
  · skip
    try simp only [decide_eq_true_eq, decide_eq_false_iff_not, gt_iff_lt] at hg12
    refine WL_skip rfl rfl rfl ?_
    refine WL_skip rfl rfl rfl ?_
    refine s_pick_t rfl rfl rfl ?_
    refine s_assign rfl rfl ?_
    refine WL_nil ?_
    refine n_then ?_
    refine W_cond_t rfl ?_
    refine W_seq ?_
    refine W_region ?_
    refine s_assign rfl rfl ?_
    refine WL_nil ?_
    refine n_then ?_
    refine W_ret ?_
    refine r_blk ?_
    refine r_then ?_
    first
      | (refine end1 rfl rfl ⟨_, hsb w hs, ?_⟩
         first
           | (rw [Dk.app, if_pos (by omega)]; exact ⟨hD0, rfl⟩)
           | (rw [Dk.app, if_neg (by omega), if_pos (by assumption)]; exact ⟨hD0, rfl⟩)
           | (rw [Dk.app, if_neg (by omega), if_neg (by simp [*]), if_pos (by omega)]; exact ⟨hD0, rfl⟩))
      | (refine end1 rfl rfl ⟨_, hfin, ?_⟩
         first
           | (rw [Dk.app, if_neg (by omega), if_neg (by simp [*]), if_neg (by omega)]; simp only [hc51, if_true]; rw [← hE]; exact ⟨hDf, rfl⟩)
           | (rw [Dk.app, if_neg (by omega), if_neg (by simp [*]), if_neg (by omega)]; simp only [hc51]; rw [← hE]; exact ⟨hDf, rfl⟩))
  · skip
    try simp only [decide_eq_true_eq, decide_eq_false_iff_not, gt_iff_lt] at hg12
    refine WL_take rfl ?_
    refine s_move rfl rfl ?_
    refine WL_take rfl ?_
    refine s_gtr rfl rfl rfl ?_
    refine s_pick_f rfl rfl rfl ?_
    refine s_assign rfl rfl ?_
    refine WL_nil ?_
    refine n_then ?_
    refine W_cond rfl (fun hc9 => ?_) (fun hc9 => ?_)
    · skip
      try simp only [decide_eq_true_eq, decide_eq_false_iff_not, gt_iff_lt] at hc9
      refine W_seq ?_
      refine W_region ?_
      refine s_assign rfl rfl ?_
      refine WL_nil ?_
      refine n_then ?_
      refine W_ret ?_
      refine r_blk ?_
      refine r_then ?_
      first
        | (refine end1 rfl rfl ⟨_, hsb w hs, ?_⟩
           first
             | (rw [Dk.app, if_pos (by omega)]; exact ⟨hD0, rfl⟩)
             | (rw [Dk.app, if_neg (by omega), if_pos (by assumption)]; exact ⟨hD0, rfl⟩)
             | (rw [Dk.app, if_neg (by omega), if_neg (by simp [*]), if_pos (by omega)]; exact ⟨hD0, rfl⟩))
        | (refine end1 rfl rfl ⟨_, hfin, ?_⟩
           first
             | (rw [Dk.app, if_neg (by omega), if_neg (by simp [*]), if_neg (by omega)]; simp only [hc51, if_true]; rw [← hE]; exact ⟨hDf, rfl⟩)
             | (rw [Dk.app, if_neg (by omega), if_neg (by simp [*]), if_neg (by omega)]; simp only [hc51]; rw [← hE]; exact ⟨hDf, rfl⟩))
    · skip
      try simp only [decide_eq_true_eq, decide_eq_false_iff_not, gt_iff_lt] at hc9
      refine W_seq ?_
      refine W_region ?_
      refine s_move rfl rfl ?_
      refine s_nilCheck rfl rfl ?_
      refine s_fieldAddr rfl rfl (FA53_3 _ _) ?_
      first
        | refine s_load Tryd.isAgg4 rfl rfl (hs.cell (k := 0) rfl rfl) ?_
        | refine s_load Tryd.isAgg4 rfl rfl (hs.cell (k := 1) rfl rfl) ?_
        | refine s_load Tryd.isAgg4 rfl rfl (hs.cell (k := 2) rfl rfl) ?_
      refine s_assign rfl rfl ?_
      refine WL_nil ?_
      refine n_then ?_
      refine W_cond rfl (fun hc16 => ?_) (fun hc16 => ?_)
      · skip
        try simp only [decide_eq_true_eq, decide_eq_false_iff_not, gt_iff_lt] at hc16
        refine W_seq ?_
        refine W_region ?_
        refine s_assign rfl rfl ?_
        refine WL_nil ?_
        refine n_then ?_
        refine W_ret ?_
        refine r_blk ?_
        refine r_then ?_
        first
          | (refine end1 rfl rfl ⟨_, hsb w hs, ?_⟩
             first
               | (rw [Dk.app, if_pos (by omega)]; exact ⟨hD0, rfl⟩)
               | (rw [Dk.app, if_neg (by omega), if_pos (by assumption)]; exact ⟨hD0, rfl⟩)
               | (rw [Dk.app, if_neg (by omega), if_neg (by simp [*]), if_pos (by omega)]; exact ⟨hD0, rfl⟩))
          | (refine end1 rfl rfl ⟨_, hfin, ?_⟩
             first
               | (rw [Dk.app, if_neg (by omega), if_neg (by simp [*]), if_neg (by omega)]; simp only [hc51, if_true]; rw [← hE]; exact ⟨hDf, rfl⟩)
               | (rw [Dk.app, if_neg (by omega), if_neg (by simp [*]), if_neg (by omega)]; simp only [hc51]; rw [← hE]; exact ⟨hDf, rfl⟩))
      · skip
        try simp only [decide_eq_true_eq, decide_eq_false_iff_not, gt_iff_lt] at hc16
        refine W_seq ?_
        refine W_draw [(0, true, []), (1, true, []), (2, true, []), (3, true, []), (4, true, []), (5, true, []), (6, true, []), (7, true, []), (8, true, []), (9, true, []), (10, true, []), (11, true, []), (12, true, [])] [[], [0], [], [2], [2, 3], [2, 3, 4], [], [6], [6, 7], [6, 7, 8], [2, 3, 4, 5, 6, 7, 8, 9], [0, 1, 2, 3, 4, 5, 6, 7, 8, 9, 10], [0, 1, 2, 3, 4, 5, 6, 7, 8, 9, 10, 11]] MX (by kernel_rfl) ?_
        intro w1 hw1 hw2 hw3 hw4; replace hs := hs.redrawn hw1 hw2 hw3 hw4; clear hw1 hw2 hw3 hw4
        obtain ⟨w, rfl⟩ : ∃ w : World, w = w1 := ⟨_, rfl⟩
        refine D_q rfl rfl ?_
        refine s_move rfl rfl ?_
        refine D_qn ?_
        refine D_q rfl rfl ?_
        refine s_len rfl rfl (LN29 _ _ _ _) ?_
        refine D_qn ?_
        refine D_q rfl rfl ?_
        refine s_move rfl rfl ?_
        refine D_qn ?_
        refine D_q rfl rfl ?_
        refine s_nilCheck rfl rfl ?_
        refine D_qn ?_
        refine D_q rfl rfl ?_
        refine s_fieldAddr rfl rfl (FA53_0 _ _) ?_
        refine D_qn ?_
        refine D_q rfl rfl ?_
        first
          | refine s_load Tryd.isAgg3 rfl rfl (hs.cell (k := 0) rfl rfl) ?_
          | refine s_load Tryd.isAgg3 rfl rfl (hs.cell (k := 1) rfl rfl) ?_
          | refine s_load Tryd.isAgg3 rfl rfl (hs.cell (k := 2) rfl rfl) ?_
        refine D_qn ?_
        refine D_q rfl rfl ?_
        refine s_move rfl rfl ?_
        refine D_qn ?_
        refine D_q rfl rfl ?_
        refine s_nilCheck rfl rfl ?_
        refine D_qn ?_
        refine D_q rfl rfl ?_
        refine s_fieldAddr rfl rfl (FA53_1 _ _) ?_
        refine D_qn ?_
        refine D_q rfl rfl ?_
        first
          | refine s_load Tryd.isAgg3 rfl rfl (hs.cell (k := 0) rfl rfl) ?_
          | refine s_load Tryd.isAgg3 rfl rfl (hs.cell (k := 1) rfl rfl) ?_
          | refine s_load Tryd.isAgg3 rfl rfl (hs.cell (k := 2) rfl rfl) ?_
        refine D_qn ?_
        refine D_q rfl rfl ?_
        first | (refine s_sub' rfl rfl rfl ?hx ?_; case hx => (constructor <;> first | omega | (simp only; omega))) | refine s_sub rfl rfl rfl ?_
        refine D_qn ?_
        refine D_q rfl rfl ?_
        refine s_gtr rfl rfl rfl ?_
        refine D_qn ?_
        refine D_q rfl rfl ?_
        refine s_assign rfl rfl ?_
        refine D_qn ?_
        refine D_nil ?_
        refine n_then ?_
        refine W_cond rfl (fun hc21 => ?_) (fun hc21 => ?_)
        · skip
          try simp only [decide_eq_true_eq, decide_eq_false_iff_not, gt_iff_lt] at hc21
          refine W_seq ?_
          refine W_region ?_
          refine s_assign rfl rfl ?_
          refine WL_nil ?_
          refine n_then ?_
          refine W_ret ?_
          refine r_blk ?_
          refine r_then ?_
          first
            | (refine end1 rfl rfl ⟨_, hsb w hs, ?_⟩
               first
                 | (rw [Dk.app, if_pos (by omega)]; exact ⟨hD0, rfl⟩)
                 | (rw [Dk.app, if_neg (by omega), if_pos (by assumption)]; exact ⟨hD0, rfl⟩)
                 | (rw [Dk.app, if_neg (by omega), if_neg (by simp [*]), if_pos (by omega)]; exact ⟨hD0, rfl⟩))
            | (refine end1 rfl rfl ⟨_, hfin, ?_⟩
               first
                 | (rw [Dk.app, if_neg (by omega), if_neg (by simp [*]), if_neg (by omega)]; simp only [hc51, if_true]; rw [← hE]; exact ⟨hDf, rfl⟩)
                 | (rw [Dk.app, if_neg (by omega), if_neg (by simp [*]), if_neg (by omega)]; simp only [hc51]; rw [← hE]; exact ⟨hDf, rfl⟩))
        · skip
          try simp only [decide_eq_true_eq, decide_eq_false_iff_not, gt_iff_lt] at hc21
          refine W_skip ?_
          refine n_blk ?_
          refine n_then ?_
          refine W_seq ?_
          refine W_region ?_
          refine s_move rfl rfl ?_
          have hfr : 0 ≤ f ∧ f ≤ 63 := by omega
          have hlt := len_le_total D hfr
          have hts := total_set (D := D) (bs := D.c f ++ bs) (d := D.d f) hfr
          simp only [List.length_append] at hts
          refine s_callL (M := []) (L1 := [_]) (X := (m, o) :: (Lf ++ fblks rest)) Tryd.call30 rfl rfl hs (fun h => fails_ok p m D w hA h) ?_
          clear hs; rintro v9 w L9 ⟨rfl, rfl⟩ - hs
          simp only [List.nil_append, List.cons_append] at hs
          obtain ⟨_, c0, a0, rfl, h0l⟩ := hO0.form
          subst h0l
          obtain ⟨E, hE⟩ : ∃ E, E = D.step.1 := ⟨_, rfl⟩
          rw [← hE] at hs
          have hEc : E.c = D.c := by rw [hE]; exact hstep.1
          have hEr : E.room = D.room := by rw [hE]; exact hstep.2.2
          unfold dkCells at hs
          refine s_assign rfl rfl ?_
          refine WL_nil ?_
          refine n_then ?_
          refine W_seq ?_
          refine W_region ?_
          refine s_move rfl rfl ?_
          refine s_nilCheck rfl rfl ?_
          refine s_fieldAddr rfl rfl (FA53_2 _ _) ?_
          first
            | refine s_load Tryd.isAgg51 rfl rfl (hs.cell (k := 0) rfl rfl) ?_
            | refine s_load Tryd.isAgg51 rfl rfl (hs.cell (k := 1) rfl rfl) ?_
            | refine s_load Tryd.isAgg51 rfl rfl (hs.cell (k := 2) rfl rfl) ?_
          refine s_move rfl rfl ?_
          refine s_lookupI Tryd.underlying51 Tryd.underlying3 ZV67 rfl rfl rfl hs (kk := 1) rfl hM ?_
          rw [hlk]
          refine s_alloc rfl AL67 hs ?_; clear hs; intro b8 w hs
          first
            | refine s_storeW Tryd.sizeOf67 rfl rfl rfl rfl hs (kk := 0) rfl rfl ?_
            | refine s_storeW Tryd.sizeOf67 rfl rfl rfl rfl hs (kk := 1) rfl rfl ?_
            | refine s_storeW Tryd.sizeOf67 rfl rfl rfl rfl hs (kk := 2) rfl rfl ?_
            | refine s_storeAB Tryd.sizeOf67 rfl rfl rfl rfl hs (kk := 0) rfl rfl ?_
            | refine s_storeAB Tryd.sizeOf67 rfl rfl rfl rfl hs (kk := 1) rfl rfl ?_
            | refine s_storeAB Tryd.sizeOf67 rfl rfl rfl rfl hs (kk := 2) rfl rfl ?_
          clear hs; intro w hs; try simp only [List.set_cons_zero, List.set_cons_succ, splice, List.take_succ_cons, List.take_zero, List.drop_succ_cons, List.drop_zero, List.nil_append, List.cons_append, List.length_cons, List.length_nil, Nat.reduceAdd, List.append_assoc] at hs
          refine WL_nil ?_
          refine n_then ?_
          refine W_seq ?_
          refine W_region ?_
          refine s_fieldAddr rfl rfl (FA67_0 _ _) ?_
          first
            | refine s_load Tryd.isAgg29 rfl rfl (hs.cell (k := 0) rfl rfl) ?_
            | refine s_load Tryd.isAgg29 rfl rfl (hs.cell (k := 1) rfl rfl) ?_
            | refine s_load Tryd.isAgg29 rfl rfl (hs.cell (k := 2) rfl rfl) ?_
          refine s_move rfl rfl ?_
          refine s_appendM (M := [_, _, _]) (X := fblks rest) El29 rfl rfl rfl hO0 hs (hv.fwd hs.fwd hap) (by simp) (u8s_one _) (by omega) ?_
          clear hs; intro v' w Lv hO' hs
          obtain ⟨_, c', a', rfl, hvl⟩ := hO'.form
          subst hvl
          simp only [List.cons_append, List.nil_append] at hs
          refine s_fieldAddr rfl rfl (FA67_0 _ _) ?_
          first
            | refine s_storeB Tryd.sizeOf29 rfl rfl rfl hs (kk := 0) rfl rfl ?_
            | refine s_storeB Tryd.sizeOf29 rfl rfl rfl hs (kk := 1) rfl rfl ?_
            | refine s_storeB Tryd.sizeOf29 rfl rfl rfl hs (kk := 2) rfl rfl ?_
          clear hs; intro w hs; try simp only [List.set_cons_zero, List.set_cons_succ, splice, List.take_succ_cons, List.take_zero, List.drop_succ_cons, List.drop_zero, List.nil_append, List.cons_append, List.length_cons, List.length_nil, Nat.reduceAdd, List.append_assoc] at hs
          refine WL_nil ?_
          refine n_then ?_
          refine W_seq ?_
          refine W_region ?_
          refine s_move rfl rfl ?_
          refine s_move rfl rfl ?_
          first
            | refine s_loadW Tryd.isAgg67 Tryd.sizeOf67 rfl rfl hs (kk := 0) rfl rfl ?_
            | refine s_loadW Tryd.isAgg67 Tryd.sizeOf67 rfl rfl hs (kk := 1) rfl rfl ?_
            | refine s_loadW Tryd.isAgg67 Tryd.sizeOf67 rfl rfl hs (kk := 2) rfl rfl ?_
            | refine s_load_2 Tryd.isAgg67 Tryd.sizeOf67 rfl rfl (by first | exact hs.cell (k := 0) rfl rfl | exact hs.cell (k := 1) rfl rfl | exact hs.cell (k := 2) rfl rfl) (by first | exact hs.cell (k := 0) rfl rfl | exact hs.cell (k := 1) rfl rfl | exact hs.cell (k := 2) rfl rfl) ?_
          refine s_callL (M := [_]) (L1 := [_, _]) (X := Lv ++ fblks rest) Tryd.call31 rfl rfl hs (fun h => put_ok p m o (fkv fs) E.room (total E.c : Int) E.left f E.off E.armed a' a0 _ c' _ c0 (D.d f : Int) (D.d f : Int) w hM hlk (by rw [hEc]; refine ⟨?_, ?_, ?_, ?_⟩ <;> omega) h) ?_
          clear hs; rintro v9 w L9 ⟨o', rfl, hM'⟩ - hs
          simp only [List.nil_append, List.cons_append] at hs
          replace hs := hs.tail
          obtain ⟨fs', X, hF', hkv, hpm⟩ := hback (.slice a' ((D.c f).length + bs.length) c') (D.c f ++ bs) (D.d f) Lv (by rw [List.length_append, u8s, List.map_append]; exact hO') hfr (by rw [List.length_append]; omega) (fun b hb => by rcases List.mem_append.1 hb with hb | hb; exact hB0 b hb; exact hB b hb) (fun h => by rw [List.append_eq_nil_iff] at h; rw [h.1] at hd0; simpa using hd0)
          rw [List.length_append] at hkv
          rw [← hkv] at hM'
          have hss := set_step D f (D.c f ++ bs) (D.d f)
          rw [← hE] at hss
          have hfin : St (ids L0) w0 w ((p, Blk 53 (dkCells (E.set f (D.c f ++ bs) (D.d f)) m)) :: (m, o') :: fblks fs') := by
            have h1 : St (ids L0) w0 w ((p, Blk 53 (dkCells (E.set f (D.c f ++ bs) (D.d f)) m)) :: (m, o') :: (Lv ++ fblks rest)) := by
              have : (total (E.set f (D.c f ++ bs) (D.d f)).c : Int) = (total E.c : Int) + ((((D.c f).length + bs.length : Nat) : Int) - ((D.c f).length : Int)) := by rw [hss.1, hEc]; omega
              simp only [dkCells, this]; exact hs
            exact (h1.perm ((hpm.cons _).cons _)).left (L := _ :: _ :: fblks fs')
          have hDf : DiskAt p (E.set f (D.c f ++ bs) (D.d f)) ((p, Blk 53 (dkCells (E.set f (D.c f ++ bs) (D.d f)) m)) :: (m, o') :: fblks fs') :=
            disk_shut (v' := .slice a' ((D.c f).length + bs.length) c') (fs := fs) (X := X) hM' hF' hss.1 hss.2 ⟨by rw [hss.1]; show _ ≤ E.room; rw [hEr]; omega, by show 0 ≤ E.room; rw [hEr]; omega, by show E.room ≤ _; rw [hEr]; omega⟩ (by rw [hE]; exact hsl)
          refine WL_nil ?_
          refine n_then ?_
          refine W_seq ?_
          refine W_seq ?_
          refine W_region ?_
          refine s_move rfl rfl ?_
          refine WL_nil ?_
          refine n_then ?_
          refine W_cond rfl (fun hc51 => ?_) (fun hc51 => ?_)
          · skip
            try simp only [decide_eq_true_eq, decide_eq_false_iff_not, gt_iff_lt] at hc51
            refine W_seq ?_
            refine W_region ?_
            refine s_assign rfl rfl ?_
            refine WL_nil ?_
            refine n_then ?_
            refine W_ret ?_
            refine r_then ?_
            first
              | (refine end1 rfl rfl ⟨_, hsb w hs, ?_⟩
                 first
                   | (rw [Dk.app, if_pos (by omega)]; exact ⟨hD0, rfl⟩)
                   | (rw [Dk.app, if_neg (by omega), if_pos (by assumption)]; exact ⟨hD0, rfl⟩)
                   | (rw [Dk.app, if_neg (by omega), if_neg (by simp [*]), if_pos (by omega)]; exact ⟨hD0, rfl⟩))
              | (refine end1 rfl rfl ⟨_, hfin, ?_⟩
                 first
                   | (rw [Dk.app, if_neg (by omega), if_neg (by simp [*]), if_neg (by omega)]; simp only [hc51, if_true]; rw [← hE]; exact ⟨hDf, rfl⟩)
                   | (rw [Dk.app, if_neg (by omega), if_neg (by simp [*]), if_neg (by omega)]; simp only [hc51]; rw [← hE]; exact ⟨hDf, rfl⟩))
          · skip
            try simp only [decide_eq_true_eq, decide_eq_false_iff_not, gt_iff_lt] at hc51
            refine W_skip ?_
            refine n_then ?_
            refine W_seq ?_
            refine W_region ?_
            refine s_assign rfl rfl ?_
            refine WL_nil ?_
            refine n_then ?_
            refine W_ret ?_
            first
              | (refine end1 rfl rfl ⟨_, hsb w hs, ?_⟩
                 first
                   | (rw [Dk.app, if_pos (by omega)]; exact ⟨hD0, rfl⟩)
                   | (rw [Dk.app, if_neg (by omega), if_pos (by assumption)]; exact ⟨hD0, rfl⟩)
                   | (rw [Dk.app, if_neg (by omega), if_neg (by simp [*]), if_pos (by omega)]; exact ⟨hD0, rfl⟩))
              | (refine end1 rfl rfl ⟨_, hfin, ?_⟩
                 first
                   | (rw [Dk.app, if_neg (by omega), if_neg (by simp [*]), if_neg (by omega)]; simp only [hc51, if_true]; rw [← hE]; exact ⟨hDf, rfl⟩)
                   | (rw [Dk.app, if_neg (by omega), if_neg (by simp [*]), if_neg (by omega)]; simp only [hc51]; rw [← hE]; exact ⟨hDf, rfl⟩))
def Dk.readE (D : Dk) (f : Int) : Int := if f < 0 ∨ 63 < f then 1 else if D.off then 18 else 0
def Dk.readV (D : Dk) (f : Int) : List Int := if D.readE f = 0 then D.c f else []
theorem dRead_ok (p : Nat) (D : Dk) (f : Int) (L0 : Hp) (w0 : World) (hD : DiskAt p D L0) (hs : St (ids L0) w0 w0 L0) :
    Ret Tryd.prog 15 [.pointer (some ⟨p, 0, none⟩), .int .i64 f].toArray w0 fun r w' => ∃ L', St (ids L0) w0 w' L' ∧ ∃ u Lr, L' = Lr ++ L0 ∧ r = .tuple #[u, .int .i64 (D.readE f)] ∧ OwnS 5 1 u (D.readV f).length (u8s (D.readV f)) Lr := by
  obtain ⟨m, o, fs, hL, hM, hF, hR, hA⟩ := hD
  obtain ⟨v0, Lf, rest, hO0, hlk, hperm, hd0, hB0, hback⟩ := file_open hM hF f
  replace hs : St (ids L0) w0 w0 ((p, Blk 53 (dkCells D m)) :: (m, o) :: (Lf ++ fblks rest)) := by
    have : St (ids L0) w0 w0 ((p, Blk 53 (dkCells D m)) :: (m, o) :: fblks fs) := by rw [hL] at hs ⊢; exact hs
    exact this.perm ((hperm.cons _).cons _)
  have hsb : ∀ w Lr, St (ids L0) w0 w (Lr ++ ((p, Blk 53 (dkCells D m)) :: (m, o) :: (Lf ++ fblks rest))) → St (ids L0) w0 w (Lr ++ L0) := fun w Lr h => by
    have := h.perm (((hperm.symm.cons (m, o)).cons (p, Blk 53 (dkCells D m))).append_left Lr)
    rw [← hL] at this; exact this
  unfold dkCells at hs
  refine Ret_startL hs fun w hs => ?_
  refine Ret_of Tryd.func15 rfl Tryd.ntmps15 rfl ?_
  refine W_seq ?_
  refine W_region ?_
  refine s_assign rfl rfl ?_
  refine s_assign rfl rfl ?_
  refine WL_nil ?_
  refine n_then ?_
  refine W_seq ?_
  refine W_seq ?_
  refine W_region ?_
  refine s_move rfl rfl ?_
  refine s_lss rfl rfl rfl ?_
  refine s_move rfl rfl ?_
  refine WL_case (s := 8) rfl (fun hg8 => ?_) (fun hg8 => ?_)
  · skip
    try simp only [decide_eq_true_eq, decide_eq_false_iff_not, gt_iff_lt] at hg8
    refine WL_skip rfl rfl rfl ?_
    refine WL_skip rfl rfl rfl ?_
    refine s_pick_t rfl rfl rfl ?_
    refine WL_nil ?_
    refine n_then ?_
    refine W_cond_t rfl ?_
    refine W_seq ?_
    refine W_region ?_
    refine s_assign rfl rfl ?_
    refine s_assign rfl rfl ?_
    refine WL_nil ?_
    refine n_then ?_
    refine W_ret ?_
    refine r_then ?_
    first
      | (have hE : D.readE f = 1 := by rw [Dk.readE, if_pos (by omega)]
         refine end2 rfl rfl rfl ⟨_, hsb w [] hs, _, [], rfl, by rw [hE], ?_⟩
         rw [Dk.readV, if_neg (by rw [hE]; decide)]; exact OwnS.nil _ _)
      | (have hE : D.readE f = 18 := by rw [Dk.readE, if_neg (by omega), if_pos (by assumption)]
         refine end2 rfl rfl rfl ⟨_, hsb w [] hs, _, [], rfl, by rw [hE], ?_⟩
         rw [Dk.readV, if_neg (by rw [hE]; decide)]; exact OwnS.nil _ _)
      | (have hE : D.readE f = 0 := by rw [Dk.readE, if_neg (by omega), if_neg (by simp [*])]
         refine end2 rfl rfl rfl ⟨_, hsb w Lr hs, _, Lr, rfl, by rw [hE], ?_⟩
         rw [Dk.readV, if_pos hE]; exact hOr)
  · skip
    try simp only [decide_eq_true_eq, decide_eq_false_iff_not, gt_iff_lt] at hg8
    refine WL_take rfl ?_
    refine s_move rfl rfl ?_
    refine WL_take rfl ?_
    refine s_gtr rfl rfl rfl ?_
    refine s_pick_f rfl rfl rfl ?_
    refine WL_nil ?_
    refine n_then ?_
    refine W_cond rfl (fun hc11 => ?_) (fun hc11 => ?_)
    · skip
      try simp only [decide_eq_true_eq, decide_eq_false_iff_not, gt_iff_lt] at hc11
      refine W_seq ?_
      refine W_region ?_
      refine s_assign rfl rfl ?_
      refine s_assign rfl rfl ?_
      refine WL_nil ?_
      refine n_then ?_
      refine W_ret ?_
      refine r_then ?_
      first
        | (have hE : D.readE f = 1 := by rw [Dk.readE, if_pos (by omega)]
           refine end2 rfl rfl rfl ⟨_, hsb w [] hs, _, [], rfl, by rw [hE], ?_⟩
           rw [Dk.readV, if_neg (by rw [hE]; decide)]; exact OwnS.nil _ _)
        | (have hE : D.readE f = 18 := by rw [Dk.readE, if_neg (by omega), if_pos (by assumption)]
           refine end2 rfl rfl rfl ⟨_, hsb w [] hs, _, [], rfl, by rw [hE], ?_⟩
           rw [Dk.readV, if_neg (by rw [hE]; decide)]; exact OwnS.nil _ _)
        | (have hE : D.readE f = 0 := by rw [Dk.readE, if_neg (by omega), if_neg (by simp [*])]
           refine end2 rfl rfl rfl ⟨_, hsb w Lr hs, _, Lr, rfl, by rw [hE], ?_⟩
           rw [Dk.readV, if_pos hE]; exact hOr)
    · skip
      try simp only [decide_eq_true_eq, decide_eq_false_iff_not, gt_iff_lt] at hc11
      refine W_skip ?_
      refine n_then ?_
      refine W_seq ?_
      refine W_seq ?_
      refine W_region ?_
      refine s_move rfl rfl ?_
      refine s_nilCheck rfl rfl ?_
      refine s_fieldAddr rfl rfl (FA53_3 _ _) ?_
      first
        | refine s_load Tryd.isAgg4 rfl rfl (hs.cell (k := 0) rfl rfl) ?_
        | refine s_load Tryd.isAgg4 rfl rfl (hs.cell (k := 1) rfl rfl) ?_
        | refine s_load Tryd.isAgg4 rfl rfl (hs.cell (k := 2) rfl rfl) ?_
      refine WL_nil ?_
      refine n_then ?_
      refine W_cond rfl (fun hc15 => ?_) (fun hc15 => ?_)
      · skip
        try simp only [decide_eq_true_eq, decide_eq_false_iff_not, gt_iff_lt] at hc15
        refine W_seq ?_
        refine W_region ?_
        refine s_assign rfl rfl ?_
        refine s_assign rfl rfl ?_
        refine WL_nil ?_
        refine n_then ?_
        refine W_ret ?_
        refine r_then ?_
        first
          | (have hE : D.readE f = 1 := by rw [Dk.readE, if_pos (by omega)]
             refine end2 rfl rfl rfl ⟨_, hsb w [] hs, _, [], rfl, by rw [hE], ?_⟩
             rw [Dk.readV, if_neg (by rw [hE]; decide)]; exact OwnS.nil _ _)
          | (have hE : D.readE f = 18 := by rw [Dk.readE, if_neg (by omega), if_pos (by assumption)]
             refine end2 rfl rfl rfl ⟨_, hsb w [] hs, _, [], rfl, by rw [hE], ?_⟩
             rw [Dk.readV, if_neg (by rw [hE]; decide)]; exact OwnS.nil _ _)
          | (have hE : D.readE f = 0 := by rw [Dk.readE, if_neg (by omega), if_neg (by simp [*])]
             refine end2 rfl rfl rfl ⟨_, hsb w Lr hs, _, Lr, rfl, by rw [hE], ?_⟩
             rw [Dk.readV, if_pos hE]; exact hOr)
      · skip
        try simp only [decide_eq_true_eq, decide_eq_false_iff_not, gt_iff_lt] at hc15
        refine W_skip ?_
        refine n_then ?_
        refine W_seq ?_
        refine W_region ?_
        refine s_move rfl rfl ?_
        refine s_nilCheck rfl rfl ?_
        refine s_fieldAddr rfl rfl (FA53_2 _ _) ?_
        first
          | refine s_load Tryd.isAgg51 rfl rfl (hs.cell (k := 0) rfl rfl) ?_
          | refine s_load Tryd.isAgg51 rfl rfl (hs.cell (k := 1) rfl rfl) ?_
          | refine s_load Tryd.isAgg51 rfl rfl (hs.cell (k := 2) rfl rfl) ?_
        refine s_move rfl rfl ?_
        obtain ⟨_, c0, a0, rfl, h0l⟩ := hO0.form
        subst h0l
        refine s_lookupI Tryd.underlying51 Tryd.underlying3 ZV67 rfl rfl rfl hs (kk := 1) rfl hM ?_
        rw [hlk]
        refine s_field rfl rfl (FD67_0 _ _) ?_
        have hlt := len_le_total D (f := f) (by omega)
        refine s_call Tryd.call29 rfl rfl (clone_ok _ (D.c f) w (OwnS_slIn hO0 fun q hq => hs.own q (by simp [hq])) (by omega)) ?_
        rintro r w ⟨Lr, hOr, hst⟩
        replace hs := St.back0 hs hst
        clear hst
        refine s_assign rfl rfl ?_
        refine s_assign rfl rfl ?_
        refine WL_nil ?_
        refine n_then ?_
        refine W_ret ?_
        first
          | (have hE : D.readE f = 1 := by rw [Dk.readE, if_pos (by omega)]
             refine end2 rfl rfl rfl ⟨_, hsb w [] hs, _, [], rfl, by rw [hE], ?_⟩
             rw [Dk.readV, if_neg (by rw [hE]; decide)]; exact OwnS.nil _ _)
          | (have hE : D.readE f = 18 := by rw [Dk.readE, if_neg (by omega), if_pos (by assumption)]
             refine end2 rfl rfl rfl ⟨_, hsb w [] hs, _, [], rfl, by rw [hE], ?_⟩
             rw [Dk.readV, if_neg (by rw [hE]; decide)]; exact OwnS.nil _ _)
          | (have hE : D.readE f = 0 := by rw [Dk.readE, if_neg (by omega), if_neg (by simp [*])]
             refine end2 rfl rfl rfl ⟨_, hsb w Lr hs, _, Lr, rfl, by rw [hE], ?_⟩
             rw [Dk.readV, if_pos hE]; exact hOr)
end Go.Proofs.YtbcdnpjcbchbjaaDoor
