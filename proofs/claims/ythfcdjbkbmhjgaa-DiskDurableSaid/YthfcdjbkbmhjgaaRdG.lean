/- DiskDurable. -/
import Derived.Test.YthfcdjbkbmhjgaaRdF
set_option linter.unusedVariables false
set_option linter.unusedSimpArgs false
namespace Go.Proofs.Ythfcdjbkbmhjgaa
open Go.SL
/-- of each file the durable bytes are as they were, and there are no more bytes than before -/
structure Pre (D E : Dk) : Prop where
  d : E.d = D.d
  len : ∀ f, (E.c f).length ≤ (D.c f).length
  dur : ∀ f, D.d f ≤ (E.c f).length
  pre : ∀ f, (E.c f).take (D.d f) = (D.c f).take (D.d f)
theorem Pre.refl {D : Dk} (h : firmOk D) : Pre D D := ⟨rfl, fun _ => Nat.le_refl _, h, fun _ => rfl⟩
theorem Pre.set {D E : Dk} (h : Pre D E) {f : Int} {bs : List Int} (hl : bs.length ≤ (E.c f).length) (hd : D.d f ≤ bs.length) (hp : bs.take (D.d f) = (E.c f).take (D.d f)) : Pre D (E.set f bs (E.d f)) := by
  refine ⟨?_, fun q => ?_, fun q => ?_, fun q => ?_⟩
  · rw [← h.d]; funext q; simp only [Dk.set]; split
    · rename_i e; rw [e]
    · rfl
  · simp only [Dk.set]; split
    · rename_i e; rw [e]; exact Nat.le_trans hl (h.len f)
    · exact h.len q
  · simp only [Dk.set]; split
    · rename_i e; rw [e]; exact hd
    · exact h.dur q
  · simp only [Dk.set]; split
    · rename_i e; rw [e, hp]; exact h.pre f
    · exact h.pre q
theorem cutL_pre {D : Dk} (keep : List Int) : ∀ (fs : List Int) (i : Nat) (E : Dk) (n : Nat), Pre D E → Pre D (cutL keep fs i E n).1
  | [], _, _, _, h => h
  | f :: r, i, E, n, h => by
    rw [cutL]
    refine cutL_pre keep r _ _ _ (h.set ?_ ?_ ?_)
    · rw [List.length_take]; exact Nat.min_le_right _ _
    · rw [List.length_take]
      have h1 := h.dur f
      have h2 : E.d f = D.d f := congrFun h.d f
      omega
    · rw [List.take_take]
      congr 1
      have h2 : E.d f = D.d f := congrFun h.d f
      omega
theorem invF_take (bs : List Int) (d : Nat) (at_ : Int) : (invF bs d at_).take d = bs.take d := by
  unfold invF; split
  · rw [List.take_set_of_le (by omega)]
  · rfl
theorem invL_pre {D : Dk} : ∀ (fs : List Int) (at_ : Int) (E : Dk), Pre D E → Pre D (invL fs at_ E)
  | [], _, _, h => h
  | f :: r, at_, E, h => by
    rw [invL]
    refine invL_pre r _ _ (h.set ?_ ?_ ?_)
    · rw [invF_length]; exact Nat.le_refl _
    · rw [invF_length]; exact h.dur f
    · have h2 : E.d f = D.d f := congrFun h.d f
      rw [h2, invF_take]
theorem crash_pre {D : Dk} (h : firmOk D) (keep : List Int) (flip : Int) : (∀ f, ((D.crash keep flip).c f).length ≤ (D.c f).length ∧ D.d f ≤ ((D.crash keep flip).c f).length ∧ ((D.crash keep flip).c f).take (D.d f) = (D.c f).take (D.d f)) ∧ (D.crash keep flip).off = false := by
  have h1 := cutL_pre (D := D) keep (filesV D) 0 D 0 (Pre.refl h)
  have h2 : Pre D (if 0 ≤ flip ∧ 0 < (cutL keep (filesV D) 0 D 0).2 then invL (filesV D) (flip % (8 * ((cutL keep (filesV D) 0 D 0).2 : Int))) (cutL keep (filesV D) 0 D 0).1 else (cutL keep (filesV D) 0 D 0).1) := by
    split
    · exact invL_pre _ _ _ h1
    · exact h1
  exact ⟨fun f => ⟨h2.len f, h2.dur f, h2.pre f⟩, rfl⟩
theorem crash_solid {D : Dk} (keep : List Int) (flip : Int) (h : ∀ f, D.d f = (D.c f).length) (f : Int) : (D.crash keep flip).c f = D.c f := by
  obtain ⟨h1, -⟩ := crash_pre (D := D) (fun f => by rw [h f]; exact Nat.le_refl _) keep flip
  obtain ⟨h2, h3, h4⟩ := h1 f
  rw [h f] at h3 h4
  rw [List.take_of_length_le (by omega), List.take_of_length_le (Nat.le_refl _)] at h4
  exact h4
/-- a disk that goes on from D's bytes, all of which are durable -/
structure Onw (D E : Dk) : Prop where
  off : E.off = false
  armed : E.armed = false
  d : ∀ f, E.d f = (D.c f).length
  len : ∀ f, (D.c f).length ≤ (E.c f).length
  pre : ∀ f, (E.c f).take (D.c f).length = D.c f
theorem Onw.start {D : Dk} (ho : D.off = false) : Onw D ((D.arm (-1)).sync).1 ∧ ((D.arm (-1)).sync).2 = 0 := by
  have h1 : D.arm (-1) = { D with armed := false, left := -1 } := by rw [Dk.arm, if_neg (by simp [ho])]; rfl
  have h2 : (D.arm (-1)).sync = ((D.arm (-1)).solid, 0) := by
    rw [Dk.sync, if_neg (by rw [h1]; simp [ho]), step_free (by rw [h1])]; rfl
  rw [h2, h1]
  exact ⟨⟨ho, rfl, fun f => rfl, fun f => Nat.le_refl _, fun f => List.take_length⟩, rfl⟩
theorem Onw.app {D E : Dk} (h : Onw D E) (f : Int) (bs : List Int) : Onw D (E.app f bs).1 := by
  unfold Dk.app
  split
  · exact h
  · split
    · exact h
    · split
      · exact h
      · rw [step_free h.armed]
        refine ⟨h.off, h.armed, fun q => ?_, fun q => ?_, fun q => ?_⟩
        · simp only [Dk.set]; split
          · rename_i e; rw [e]; exact h.d f
          · exact h.d q
        · simp only [Dk.set]; split
          · rename_i e; rw [e, List.length_append]; have := h.len f; omega
          · exact h.len q
        · simp only [Dk.set]; split
          · rename_i e; rw [e, List.take_append_of_le_length (h.len f)]; exact h.pre f
          · exact h.pre q
structure DdS where
  i : Nat
  E : Dk
  L : Hp
set_option maxHeartbeats 4000000 in
theorem diskDurable_ok (vl vm vk : Value) (room flip : Int) (ls ms ks : List Int) (w0 : World) (hl : Sl w0 vl ls.length (i64s ls)) (hli : ∀ z ∈ ls, isI64 z) (hm : Sl w0 vm ms.length (i64s ms)) (hmi : ∀ z ∈ ms, isI64 z) (hk : Sl w0 vk ks.length (i64s ks)) (hroom : isI64 room) (hflip : isI64 flip) :
    Ret Try.prog 5 [.int .i64 room, vl, vm, vk, .int .i64 flip].toArray w0 fun r w' => Fwd [] w0 w' ∧ r = .bool true := by
  obtain ⟨ma, mc, rfl, hmc⟩ := hm.len_le
  have hneg : isI64 (-1) := by unfold isI64; omega
  refine Ret_start fun w hs => ?_
  refine Ret_of Try.func5 rfl Try.ntmps5 rfl ?_
  refine W_seq ?_
  refine W_region ?_
  refine s_assign rfl rfl ?_
  refine WL_nil ?_
  refine n_then ?_
  refine W_seq ?_
  refine W_region ?_
  refine s_move rfl rfl ?_
  refine s_move rfl rfl ?_
  refine s_call Try.call21 rfl rfl (made_ok vl room ls w (hl.fwd0 hs.fwd) hli hroom) ?_
  rintro v w ⟨p, q, D, Ld, Lm, rfl, hD, hR, hst⟩
  replace hs := (St.back0 hs hst).left
  clear hst
  have hR0 := hR
  obtain ⟨gB, gF, rs, hLm, hRs, hK⟩ := hR
  unfold rdCells at hLm
  have hhead : ∀ (F : List Nat) (w0 w : World) (M X : Hp), St F w0 w (M ++ (Lm ++ X)) → w.cell? ⟨q, 1, none⟩ = some (.slice (some ⟨gB, 0, none⟩) 64 64) ∧ ∀ (i : Nat) (u : Value), (rvs rs)[i]? = some u → w.cell? ⟨gB, i, none⟩ = some u := by
    intro F w0 w M X h
    have h1 := h.pull
    rw [hLm] at h1
    exact ⟨h1.cell (k := 0) (i := 1) rfl rfl, fun i u hi => h1.cell (k := 1) rfl hi⟩
  refine s_move rfl rfl ?_
  refine s_extract rfl rfl rfl ?_
  refine s_extract rfl rfl rfl ?_
  refine s_assign rfl rfl ?_
  refine s_assign rfl rfl ?_
  refine WL_nil ?_
  refine n_then ?_
  refine W_seq ?_
  refine W_seq ?_
  refine W_region ?_
  refine s_move rfl rfl ?_
  refine s_eql_ptr_nil Try.underlying23 rfl rfl rfl ?_
  refine s_move rfl rfl ?_
  refine WL_know (s := 32) (c := false) rfl (rfl) ?_
  refine WL_take rfl ?_
  refine s_move rfl rfl ?_
  refine WL_take rfl ?_
  refine s_eql_ptr_nil Try.underlying42 rfl rfl rfl ?_
  refine s_pick_f rfl rfl rfl ?_
  refine WL_nil ?_
  refine n_then ?_
  refine W_cond_kf rfl (rfl) ?_
  refine W_skip ?_
  refine n_then ?_
  refine W_seq ?_
  refine W_region ?_
  refine s_move rfl rfl ?_
  refine s_callL (M := []) (L1 := Ld) (X := Lm) Try.call22 rfl rfl hs (fun h => arm_ok p D (-1) Ld w hD hneg h) ?_
  clear hs hD; rintro u w Ld hD - hs
  simp only [List.nil_append] at hs
  have hao : (D.arm (-1)).off = D.off := by unfold Dk.arm; split <;> rfl
  refine WL_nil ?_
  refine n_then ?_
  refine W_seq ?_
  refine W_seq ?_
  refine W_region ?_
  refine s_move rfl rfl ?_
  refine s_callL (M := []) (L1 := Ld) (X := Lm) Try.call23 rfl rfl hs (fun h => on_ok p _ Ld w hD h) ?_
  clear hs; rintro u w L9 ⟨hL9, rfl⟩ - hs
  rw [hL9] at hs
  clear hL9
  simp only [List.nil_append] at hs
  rw [hao]
  refine s_not rfl rfl ?_
  refine WL_nil ?_
  refine n_then ?_
  refine W_cond rfl (fun hc40 => ?_) (fun hc40 => ?_)
  · skip
    try simp only [decide_eq_true_eq, decide_eq_false_iff_not, gt_iff_lt, Bool.not_eq_true', Bool.not_eq_false', Bool.not_eq_true, Bool.not_eq_false, Bool.not_not] at hc40
    refine W_seq ?_
    refine W_region ?_
    refine s_move rfl rfl ?_
    refine s_callL (M := []) (L1 := Ld) (X := Lm) Try.call14 rfl rfl hs (fun h => dSync_ok p _ Ld w hD h) ?_
    rw [show (D.arm (-1)).sync = (D.arm (-1), 18) by rw [Dk.sync, if_pos (by rw [hao]; simpa using hc40)]]
    clear hs hD; rintro u w Ld ⟨hD, rfl⟩ - hs
    refine s_eql rfl rfl rfl ?_
    refine s_move rfl rfl ?_
    refine WL_know (s := 44) (c := true) rfl (rfl) ?_
    refine WL_take rfl ?_
    refine s_call Try.call18 rfl rfl (lives_ok w) ?_
    rintro r w ⟨hst, rfl⟩
    replace hs := hs.fwd1 hst
    clear hst
    refine s_pick_t rfl rfl rfl ?_
    refine s_assign rfl rfl ?_
    refine WL_nil ?_
    refine n_then ?_
    refine W_ret ?_
    refine r_then ?_
    exact end1 rfl rfl ⟨hs.fwd, rfl⟩
  · skip
    try simp only [decide_eq_true_eq, decide_eq_false_iff_not, gt_iff_lt, Bool.not_eq_true', Bool.not_eq_false', Bool.not_eq_true, Bool.not_eq_false, Bool.not_not] at hc40
    refine W_skip ?_
    refine n_then ?_
    refine W_seq ?_
    refine W_seq ?_
    refine W_region ?_
    refine s_move rfl rfl ?_
    obtain ⟨hon, hz0⟩ := Onw.start (D := D) (by simpa using hc40)
    obtain ⟨E0, hE0⟩ : ∃ E0, E0 = ((D.arm (-1)).sync).1 := ⟨_, rfl⟩
    rw [← hE0] at hon
    refine s_callL (M := []) (L1 := Ld) (X := Lm) Try.call14 rfl rfl hs (fun h => dSync_ok p _ Ld w hD h) ?_
    rw [hz0, ← hE0]
    clear hs hD; rintro u w Ld ⟨hD, rfl⟩ - hs
    simp only [List.nil_append] at hs
    refine s_neq rfl rfl rfl ?_
    refine WL_nil ?_
    refine n_then ?_
    refine W_cond_kf rfl (rfl) ?_
    refine W_skip ?_
    refine n_then ?_
    refine W_seq ?_
    refine W_region ?_
    refine s_move rfl rfl ?_
    refine s_callL (M := []) (L1 := Ld) (X := Lm) Try.call24 rfl rfl hs (fun h => dCopy_ok p E0 Ld w hD h) ?_
    clear hs; rintro u w L9 ⟨pc, Lc, rfl, rfl, hC⟩ - hs
    simp only [List.nil_append, List.append_assoc] at hs
    refine s_assign rfl rfl ?_
    refine WL_nil ?_
    refine n_then ?_
    refine W_seq ?_
    refine W_seq ?_
    refine W_region ?_
    refine s_move rfl rfl ?_
    refine s_eql_ptr_nil Try.underlying23 rfl rfl rfl ?_
    refine WL_nil ?_
    refine n_then ?_
    refine W_cond_kf rfl (rfl) ?_
    refine W_skip ?_
    refine n_then ?_
    refine W_seq ?_
    refine W_region ?_
    refine s_move rfl rfl ?_
    refine s_call Try.call25 rfl rfl (ints_ok vk ks 4 w (hk.fwd0 hs.fwd) (by omega)) ?_
    rintro r w ⟨Lk, hOk, hst⟩
    replace hs := St.back0 hs hst
    clear hst
    obtain ⟨kp, hkp⟩ : ∃ kp, kp = ks.take 4 := ⟨_, rfl⟩
    have hkl : kp.length = min ks.length 4 := by rw [hkp]; simp [Nat.min_comm]
    rw [← hkp, ← hkl] at hOk
    obtain ⟨_, ck, ak, rfl, hkvl⟩ := hOk.form
    subst hkvl
    refine s_assign rfl rfl ?_
    refine WL_nil ?_
    refine n_then ?_
    refine W_seq ?_
    refine W_region ?_
    refine s_move rfl rfl ?_
    refine s_move rfl rfl ?_
    refine s_move rfl rfl ?_
    refine s_callL (M := Lk) (L1 := Lc) (X := Ld ++ Lm) Try.call15 rfl rfl hs (fun h => dCrash_ok pc E0 _ kp flip Lc w hC (OwnS_slIn hOk fun p hp => hs.own p (by simp [hp])) (fun a m c he hne => by cases he; exact hs.notin (OwnS_in hOk hne)) hflip h) ?_
    clear hs hC; rintro u w Lc hC - hs
    have hcs := crash_solid (D := E0) kp flip (fun f => by
      rw [hon.d f, hE0]
      have : (((D.arm (-1)).sync).1).c = D.c := by
        rw [Dk.sync]
        split
        · unfold Dk.arm; split <;> rfl
        · split
          · rw [(step_c _).1]; unfold Dk.arm; split <;> rfl
          · show (D.arm (-1)).step.1.c = D.c; rw [(step_c _).1]; unfold Dk.arm; split <;> rfl
      rw [this])
    have hE0c : E0.c = D.c := by
      rw [hE0, Dk.sync]
      split
      · unfold Dk.arm; split <;> rfl
      · split
        · rw [(step_c _).1]; unfold Dk.arm; split <;> rfl
        · show (D.arm (-1)).step.1.c = D.c; rw [(step_c _).1]; unfold Dk.arm; split <;> rfl
    have hCo := (crash_pre hD.firmOk kp flip).2
    rw [hE0c] at hcs
    obtain ⟨EC, hEC⟩ : ∃ EC, EC = E0.crash kp flip := ⟨_, rfl⟩
    rw [← hEC] at hC hcs hCo
    clear hEC
    replace hs : St [] w0 w (Ld ++ (Lk ++ (Lc ++ Lm))) := by
      have h9 := St.reord [Lk, Lc, Ld, Lm] [2, 0, 1, 3] [] hs rfl
      exact h9
    refine WL_nil ?_
    refine n_then ?_
    refine W_seq ?_
    refine W_seq ?_
    refine W_region ?_
    refine s_assign rfl rfl ?_
    refine WL_nil ?_
    refine n_then ?_
    refine W_block ?_
    refine W_loop (σ := DdS) (fun s => [(2, .slice ma ms.length mc), (4, .int .i64 flip), (11, .pointer (some ⟨p, 0, none⟩)), (12, .pointer (some ⟨q, 0, none⟩)), (13, .pointer (some ⟨pc, 0, none⟩)), (14, .slice ak kp.length ck), (15, .int .i64 (s.i : Int))]) (fun s w => St [] w0 w (s.L ++ (Lk ++ (Lc ++ Lm))) ∧ DiskAt p s.E s.L ∧ Onw D s.E ∧ s.i ≤ 6) (fun s => 6 - s.i) ⟨0, E0, Ld⟩ ⟨rfl, rfl, rfl, rfl, rfl, rfl, rfl, trivial⟩ ⟨hs, hD, hon, by simp⟩ ?_
    clear hs hD hon
    rintro ⟨i, E, Ld⟩ w ⟨hs, hD, hon, hi⟩
    simp only at hs hD hon hi ⊢
    refine W_seq ?_
    refine W_seq ?_
    refine W_region ?_
    refine s_move rfl rfl ?_
    refine s_move rfl rfl ?_
    refine s_len rfl rfl (LN33 _ _ _ _) ?_
    refine s_lss rfl rfl rfl ?_
    refine s_move rfl rfl ?_
    refine WL_case (s := 64) rfl (fun hg64 => ?_) (fun hg64 => ?_)
    · skip
      try simp only [decide_eq_true_eq, decide_eq_false_iff_not, gt_iff_lt, Bool.not_eq_true', Bool.not_eq_false', Bool.not_eq_true, Bool.not_eq_false, Bool.not_not] at hg64
      refine WL_take rfl ?_
      refine s_move rfl rfl ?_
      refine WL_take rfl ?_
      refine s_lss rfl rfl rfl ?_
      refine s_pick_t rfl rfl rfl ?_
      refine WL_nil ?_
      refine n_then ?_
      refine W_cond rfl (fun hc67 => ?_) (fun hc67 => ?_)
      · skip
        try simp only [decide_eq_true_eq, decide_eq_false_iff_not, gt_iff_lt, Bool.not_eq_true', Bool.not_eq_false', Bool.not_eq_true, Bool.not_eq_false, Bool.not_not] at hc67
        have hil : i < ms.length := by omega
        obtain ⟨z, hz⟩ : ∃ z, ms[i]? = some z := ⟨_, List.getElem?_eq_getElem hil⟩
        have hzI := hmi z (List.mem_of_getElem? hz)
        obtain ⟨b1, o1, hA1, -⟩ := hm.at (k := i) (u := .int .i64 z) (by rw [List.getElem?_map, hz]; rfl)
        subst hA1
        refine W_skip ?_
        refine n_then ?_
        refine W_seq ?_
        refine W_block ?_
        refine W_tree (.q 0 (.q 1 (.q 2 (.q 3 (.q 4 (.q 6 (.q 7 (.q 8 (.q 9 (.q 10 (.e 5 [0, 6, 7, 8, 9, 10] (.e 11 [0, 1, 2, 3, 4] (.e 12 [] .nil .nil) .nil) (.e 11 [0, 1, 2, 3, 4] (.e 5 [0, 6, 7, 8, 9, 10] (.e 12 [] .nil .nil) .nil) .nil)))))))))))) [0, 1, 2, 3, 4, 6, 7, 8, 9, 10] [[], [], [], [1, 2], [1, 2, 3], [1, 2, 3, 4], [], [], [6, 7], [6, 7, 8], [6, 7, 8, 9], [6, 7, 8, 9, 10], [0, 1, 2, 3, 4, 5, 6, 7, 8, 9, 10, 11]] MX (by kernel_rfl) ?_
        intro w1 hw1 hw2 hw3 hw4; replace hs := hs.redrawn hw1 hw2 hw3 hw4; clear hw1 hw2 hw3 hw4
        obtain ⟨w, rfl⟩ : ∃ w : World, w = w1 := ⟨_, rfl⟩
        refine T_q rfl rfl ?_
        refine s_move rfl rfl ?_
        refine T_qn ?_
        refine T_q rfl rfl ?_
        refine s_move rfl rfl ?_
        refine T_qn ?_
        refine T_q rfl rfl ?_
        refine s_move rfl rfl ?_
        refine T_qn ?_
        refine T_q rfl rfl ?_
        (refine s_indexAddr1 El33 rfl rfl rfl ?hx ?_; case hx => (constructor <;> first | omega | (simp; omega)))
        refine T_qn ?_
        refine T_q rfl rfl ?_
        first
          | refine s_load Try.isAgg3 rfl rfl (((by intro w9 hs9; obtain ⟨b9, o9, h9, h10⟩ := (hm.fwd0 hs9).at (k := i) (u := .int .i64 z) (by rw [List.getElem?_map, hz]; rfl); cases h9; exact h10 : ∀ w9 : World, Fwd [] w0 w9 → w9.cell? ⟨b1, o1 + i, none⟩ = some (.int .i64 z)) w hs.fwd)) ?_
        refine T_qn ?_
        refine T_q rfl rfl ?_
        refine s_move rfl rfl ?_
        refine T_qn ?_
        refine T_q rfl rfl ?_
        refine s_move rfl rfl ?_
        refine T_qn ?_
        refine T_q rfl rfl ?_
        (refine s_indexAddr1 El33 rfl rfl rfl ?hx ?_; case hx => (constructor <;> first | omega | (simp; omega)))
        refine T_qn ?_
        refine T_q rfl rfl ?_
        first
          | refine s_load Try.isAgg3 rfl rfl (((by intro w9 hs9; obtain ⟨b9, o9, h9, h10⟩ := (hm.fwd0 hs9).at (k := i) (u := .int .i64 z) (by rw [List.getElem?_map, hz]; rfl); cases h9; exact h10 : ∀ w9 : World, Fwd [] w0 w9 → w9.cell? ⟨b1, o1 + i, none⟩ = some (.int .i64 z)) w hs.fwd)) ?_
        refine T_qn ?_
        refine T_q rfl rfl ?_
        refine s_convert rfl rfl (CV3_5 _) ?_
        refine T_qn ?_
        refine T_e rfl ?_ ?_
        · skip
          refine s_call Try.call11 rfl rfl (around_ok z 3 _ (by omega) hzI) ?_
          rintro r w ⟨rfl, rfl⟩
          have hz3 := aroundV_range (m := z) (q := 3) (by omega)
          refine T_en ?re ?_
          case re =>
            refine Reks_cons rfl rfl rfl rfl ?_ ?_
            · skip
              refine s_move rfl rfl ?_
              exact Rek_end rfl
            refine Reks_cons rfl rfl rfl rfl ?_ ?_
            · skip
              refine s_move rfl rfl ?_
              exact Rek_end rfl
            refine Reks_cons rfl rfl rfl rfl ?_ ?_
            · skip
              refine s_move rfl rfl ?_
              exact Rek_end rfl
            refine Reks_cons rfl rfl rfl rfl ?_ ?_
            · skip
              (refine s_indexAddr1 El33 rfl rfl rfl ?hx ?_; case hx => (constructor <;> first | omega | (simp; omega)))
              exact Rek_end rfl
            refine Reks_cons rfl rfl rfl rfl ?_ ?_
            · skip
              first
                | refine s_load Try.isAgg3 rfl rfl (((by intro w9 hs9; obtain ⟨b9, o9, h9, h10⟩ := (hm.fwd0 hs9).at (k := i) (u := .int .i64 z) (by rw [List.getElem?_map, hz]; rfl); cases h9; exact h10 : ∀ w9 : World, Fwd [] w0 w9 → w9.cell? ⟨b1, o1 + i, none⟩ = some (.int .i64 z)) w hs.fwd)) ?_
              exact Rek_end rfl
            refine Reks_cons rfl rfl rfl rfl ?_ ?_
            · skip
              refine s_convert rfl rfl (CV3_5 _) ?_
              exact Rek_end rfl
            exact Reks_nil
          refine T_e rfl ?_ ?_
          · skip
            refine s_buildSlice rfl rfl (BS27_2 _ _) hs ?_; clear hs; intro b81 w hs
            refine T_en ?re ?_
            case re =>
              refine Reks_cons rfl rfl rfl rfl ?_ ?_
              · skip
                refine s_move rfl rfl ?_
                exact Rek_end rfl
              refine Reks_cons rfl rfl rfl rfl ?_ ?_
              · skip
                refine s_move rfl rfl ?_
                exact Rek_end rfl
              refine Reks_cons rfl rfl rfl rfl ?_ ?_
              · skip
                refine s_move rfl rfl ?_
                exact Rek_end rfl
              refine Reks_cons rfl rfl rfl rfl ?_ ?_
              · skip
                (refine s_indexAddr1 El33 rfl rfl rfl ?hx ?_; case hx => (constructor <;> first | omega | (simp; omega)))
                exact Rek_end rfl
              refine Reks_cons rfl rfl rfl rfl ?_ ?_
              · skip
                first
                  | refine s_load Try.isAgg3 rfl rfl (((by intro w9 hs9; obtain ⟨b9, o9, h9, h10⟩ := (hm.fwd0 hs9).at (k := i) (u := .int .i64 z) (by rw [List.getElem?_map, hz]; rfl); cases h9; exact h10 : ∀ w9 : World, Fwd [] w0 w9 → w9.cell? ⟨b1, o1 + i, none⟩ = some (.int .i64 z)) w hs.fwd)) ?_
                exact Rek_end rfl
              exact Reks_nil
            refine T_e rfl ?_ ?_
            · skip
              refine s_callL (M := [_]) (L1 := Ld) (X := Lk ++ (Lc ++ Lm)) Try.call13 rfl rfl hs (fun h => dAppend_ok p E (aroundV z 3) _ [IntKind.u8.wrap z, 7] Ld w hD (Sl_lit hs rfl) (fun a m c he _ => by cases he; exact (St.notin (M := [_]) hs (by simp [ids]))) (by
                intro b hb
                simp only [List.mem_cons, List.not_mem_nil, or_false] at hb
                rcases hb with rfl | rfl
                · exact wrap_isB _
                · exact ⟨by decide, by decide⟩) h) ?_
              clear hs hD; rintro u w Ld ⟨hD, rfl⟩ - hs
              simp only [List.cons_append, List.nil_append] at hs
              replace hs := hs.tail
              refine T_en ?re ?_
              case re =>
                exact Reks_nil
              refine T_nil ?_
              refine n_blk ?_
              refine n_then ?_
              refine W_region ?_
              refine s_move rfl rfl ?_
              first | (refine s_add' rfl rfl rfl ?hx ?_; case hx => (constructor <;> first | omega | (simp only; omega))) | refine s_add rfl rfl rfl ?_
              refine s_assign rfl rfl ?_
              refine WL_nil ?_
              refine n_loop ?_
              exact ⟨⟨i + 1, _, Ld⟩, ⟨rfl, rfl, rfl, rfl, rfl, rfl, rfl, trivial⟩, ⟨hs, hD, hon.app _ _, by simp only; omega⟩, by simp only; omega⟩
            exact T_alt0
          exact T_alt0
        refine T_e rfl ?_ ?_
        · skip
          refine s_buildSlice rfl rfl (BS27_2 _ _) hs ?_; clear hs; intro b81 w hs
          refine T_en ?re ?_
          case re =>
            refine Reks_cons rfl rfl rfl rfl ?_ ?_
            · skip
              refine s_move rfl rfl ?_
              exact Rek_end rfl
            refine Reks_cons rfl rfl rfl rfl ?_ ?_
            · skip
              refine s_move rfl rfl ?_
              exact Rek_end rfl
            refine Reks_cons rfl rfl rfl rfl ?_ ?_
            · skip
              refine s_move rfl rfl ?_
              exact Rek_end rfl
            refine Reks_cons rfl rfl rfl rfl ?_ ?_
            · skip
              (refine s_indexAddr1 El33 rfl rfl rfl ?hx ?_; case hx => (constructor <;> first | omega | (simp; omega)))
              exact Rek_end rfl
            refine Reks_cons rfl rfl rfl rfl ?_ ?_
            · skip
              first
                | refine s_load Try.isAgg3 rfl rfl (((by intro w9 hs9; obtain ⟨b9, o9, h9, h10⟩ := (hm.fwd0 hs9).at (k := i) (u := .int .i64 z) (by rw [List.getElem?_map, hz]; rfl); cases h9; exact h10 : ∀ w9 : World, Fwd [] w0 w9 → w9.cell? ⟨b1, o1 + i, none⟩ = some (.int .i64 z)) w hs.fwd)) ?_
              exact Rek_end rfl
            exact Reks_nil
          refine T_e rfl ?_ ?_
          · skip
            refine s_call Try.call11 rfl rfl (around_ok z 3 _ (by omega) hzI) ?_
            rintro r w ⟨rfl, rfl⟩
            have hz3 := aroundV_range (m := z) (q := 3) (by omega)
            refine T_en ?re ?_
            case re =>
              refine Reks_cons rfl rfl rfl rfl ?_ ?_
              · skip
                refine s_move rfl rfl ?_
                exact Rek_end rfl
              refine Reks_cons rfl rfl rfl rfl ?_ ?_
              · skip
                refine s_move rfl rfl ?_
                exact Rek_end rfl
              refine Reks_cons rfl rfl rfl rfl ?_ ?_
              · skip
                refine s_move rfl rfl ?_
                exact Rek_end rfl
              refine Reks_cons rfl rfl rfl rfl ?_ ?_
              · skip
                (refine s_indexAddr1 El33 rfl rfl rfl ?hx ?_; case hx => (constructor <;> first | omega | (simp; omega)))
                exact Rek_end rfl
              refine Reks_cons rfl rfl rfl rfl ?_ ?_
              · skip
                first
                  | refine s_load Try.isAgg3 rfl rfl (((by intro w9 hs9; obtain ⟨b9, o9, h9, h10⟩ := (hm.fwd0 hs9).at (k := i) (u := .int .i64 z) (by rw [List.getElem?_map, hz]; rfl); cases h9; exact h10 : ∀ w9 : World, Fwd [] w0 w9 → w9.cell? ⟨b1, o1 + i, none⟩ = some (.int .i64 z)) w hs.fwd)) ?_
                exact Rek_end rfl
              refine Reks_cons rfl rfl rfl rfl ?_ ?_
              · skip
                refine s_convert rfl rfl (CV3_5 _) ?_
                exact Rek_end rfl
              exact Reks_nil
            refine T_e rfl ?_ ?_
            · skip
              refine s_callL (M := [_]) (L1 := Ld) (X := Lk ++ (Lc ++ Lm)) Try.call13 rfl rfl hs (fun h => dAppend_ok p E (aroundV z 3) _ [IntKind.u8.wrap z, 7] Ld w hD (Sl_lit hs rfl) (fun a m c he _ => by cases he; exact (St.notin (M := [_]) hs (by simp [ids]))) (by
                intro b hb
                simp only [List.mem_cons, List.not_mem_nil, or_false] at hb
                rcases hb with rfl | rfl
                · exact wrap_isB _
                · exact ⟨by decide, by decide⟩) h) ?_
              clear hs hD; rintro u w Ld ⟨hD, rfl⟩ - hs
              simp only [List.cons_append, List.nil_append] at hs
              replace hs := hs.tail
              refine T_en ?re ?_
              case re =>
                exact Reks_nil
              refine T_nil ?_
              refine n_blk ?_
              refine n_then ?_
              refine W_region ?_
              refine s_move rfl rfl ?_
              first | (refine s_add' rfl rfl rfl ?hx ?_; case hx => (constructor <;> first | omega | (simp only; omega))) | refine s_add rfl rfl rfl ?_
              refine s_assign rfl rfl ?_
              refine WL_nil ?_
              refine n_loop ?_
              exact ⟨⟨i + 1, _, Ld⟩, ⟨rfl, rfl, rfl, rfl, rfl, rfl, rfl, trivial⟩, ⟨hs, hD, hon.app _ _, by simp only; omega⟩, by simp only; omega⟩
            exact T_alt0
          exact T_alt0
        exact T_alt0
      · skip
        try simp only [decide_eq_true_eq, decide_eq_false_iff_not, gt_iff_lt, Bool.not_eq_true', Bool.not_eq_false', Bool.not_eq_true, Bool.not_eq_false, Bool.not_not] at hc67
        refine W_exit ?_
        refine x_then ?_
        refine x_then ?_
        refine exit_hit ?_
        refine n_then ?_
        refine W_seq ?_
        refine W_region ?_
        refine s_move rfl rfl ?_
        refine s_callL (M := []) (L1 := Ld) (X := Lk ++ (Lc ++ Lm)) Try.call24 rfl rfl hs (fun h => dCopy_ok p E Ld w hD h) ?_
        clear hs; rintro u w L9 ⟨pg, Lg, rfl, rfl, hG⟩ - hs
        simp only [List.nil_append, List.append_assoc] at hs
        replace hs : St [] w0 w (Lk ++ (Ld ++ (Lg ++ (Lc ++ Lm)))) := by
          have h9 := St.reord [Lg, Ld, Lk, Lc, Lm] [2, 1, 0, 3, 4] [] hs rfl
          exact h9
        refine s_assign rfl rfl ?_
        refine WL_nil ?_
        refine n_then ?_
        refine W_seq ?_
        refine W_region ?_
        refine s_move rfl rfl ?_
        refine s_move rfl rfl ?_
        refine s_move rfl rfl ?_
        have hfo := hD.firmOk
        refine s_callL (M := Lk) (L1 := Ld) (X := Lg ++ (Lc ++ Lm)) Try.call15 rfl rfl hs (fun h => dCrash_ok p E _ kp flip Ld w hD (OwnS_slIn hOk fun p hp => hs.own p (by simp [hp])) (fun a m c he hne => by cases he; exact hs.notin (OwnS_in hOk hne)) hflip h) ?_
        clear hs hD; rintro u w Ld hD - hs
        obtain ⟨hcp, hDo⟩ := crash_pre hfo kp flip
        obtain ⟨EX, hEX⟩ : ∃ EX, EX = E.crash kp flip := ⟨_, rfl⟩
        rw [← hEX] at hD hcp hDo
        clear hEX
        have hGo := hon.off
        replace hs := hs.right
        refine WL_nil ?_
        refine n_then ?_
        refine W_seq ?_
        refine W_seq ?_
        refine W_region ?_
        refine s_assign rfl rfl ?_
        refine WL_nil ?_
        refine n_then ?_
        refine W_block ?_
        refine W_loop (σ := Nat) (fun k => [(11, .pointer (some ⟨p, 0, none⟩)), (12, .pointer (some ⟨q, 0, none⟩)), (13, .pointer (some ⟨pc, 0, none⟩)), (16, .pointer (some ⟨pg, 0, none⟩)), (17, .int .i64 (k : Int))]) (fun k w => St [] w0 w (Ld ++ (Lg ++ (Lc ++ Lm))) ∧ k ≤ 4) (fun k => 4 - k) 0 ⟨rfl, rfl, rfl, rfl, rfl, trivial⟩ ⟨hs, by omega⟩ ?_
        clear hs
        rintro k w ⟨hs, hk4⟩
        refine W_seq ?_
        refine W_seq ?_
        refine W_region ?_
        refine s_move rfl rfl ?_
        refine s_lss rfl rfl rfl ?_
        refine WL_nil ?_
        refine n_then ?_
        refine W_cond rfl (fun hc90 => ?_) (fun hc90 => ?_)
        · skip
          try simp only [decide_eq_true_eq, decide_eq_false_iff_not, gt_iff_lt, Bool.not_eq_true', Bool.not_eq_false', Bool.not_eq_true, Bool.not_eq_false, Bool.not_not] at hc90
          have hk64 : k < 64 := by omega
          obtain ⟨r, hr, hok, hc, hd, hv, hdv⟩ := hRs.get hk64
          have hq1 := readE_ok (D := EC) (f := (k : Int)) (by omega) hCo
          have hq2 := readE_ok (D := EX) (f := (k : Int)) (by omega) hDo
          have hq3 := readE_ok (D := E) (f := (k : Int)) (by omega) hGo
          have hlt := len_le_total D (f := (k : Int)) (by omega)
          have hK1 := hK.1
          obtain ⟨hx1, hx2, hx3⟩ := hcp (k : Int)
          rw [hon.d] at hx2 hx3
          rw [hon.pre] at hx3
          rw [hcs (k : Int)] at hq1
          refine W_skip ?_
          refine n_then ?_
          refine W_seq ?_
          refine W_block ?_
          refine W_seq ?_
          refine W_region ?_
          refine s_move rfl rfl ?_
          refine s_move rfl rfl ?_
          refine s_callL (M := Ld ++ Lg) (L1 := Lc) (X := Lm) Try.call16 rfl rfl (by simpa using hs) (fun h => dRead_ok pc EC (k : Int) Lc w hC h) ?_
          clear hs; rintro u w L9 ⟨v1, Lr1, rfl, rfl, hO1⟩ - hs
          rw [hq1.1]
          rw [hq1.2] at hO1
          replace hs : St [] w0 w (Lr1 ++ (Ld ++ (Lg ++ (Lc ++ Lm)))) := by
            have h9 := St.reord [Ld, Lg, Lr1, Lc, Lm] [2, 0, 1, 3, 4] [] (by simpa [cat] using hs) rfl
            exact h9
          obtain ⟨_, c1, a1, rfl, hv1⟩ := hO1.form
          subst hv1
          refine s_move rfl rfl ?_
          refine s_extract rfl rfl rfl ?_
          refine s_extract rfl rfl rfl ?_
          refine s_assign rfl rfl ?_
          refine s_assign rfl rfl ?_
          refine WL_nil ?_
          refine n_then ?_
          refine W_seq ?_
          refine W_region ?_
          refine s_move rfl rfl ?_
          refine s_move rfl rfl ?_
          refine s_callL (M := Lr1) (L1 := Ld) (X := Lg ++ (Lc ++ Lm)) Try.call16 rfl rfl hs (fun h => dRead_ok p EX (k : Int) Ld w hD h) ?_
          clear hs; rintro u w L9 ⟨v2, Lr2, rfl, rfl, hO2⟩ - hs
          rw [hq2.1]
          rw [hq2.2] at hO2
          simp only [List.append_assoc] at hs
          obtain ⟨_, c2, a2, rfl, hv2⟩ := hO2.form
          subst hv2
          refine s_move rfl rfl ?_
          refine s_extract rfl rfl rfl ?_
          refine s_extract rfl rfl rfl ?_
          refine s_assign rfl rfl ?_
          refine s_assign rfl rfl ?_
          refine WL_nil ?_
          refine n_then ?_
          refine W_seq ?_
          refine W_seq ?_
          refine W_region ?_
          refine s_move rfl rfl ?_
          refine s_neq rfl rfl rfl ?_
          refine s_move rfl rfl ?_
          refine WL_know (s := 107) (c := false) rfl (rfl) ?_
          refine WL_take rfl ?_
          refine s_move rfl rfl ?_
          refine WL_take rfl ?_
          refine s_neq rfl rfl rfl ?_
          refine s_pick_f rfl rfl rfl ?_
          refine s_move rfl rfl ?_
          refine WL_know (s := 111) (c := false) rfl (rfl) ?_
          refine WL_take rfl ?_
          refine s_move rfl rfl ?_
          refine WL_take rfl ?_
          refine s_move rfl rfl ?_
          refine WL_take rfl ?_
          refine s_nilCheck rfl rfl ?_
          refine WL_take rfl ?_
          refine s_fieldAddr rfl rfl (FA49_1 _ _) ?_
          refine WL_take rfl ?_
          refine s_load Try.isAgg22 rfl rfl (hhead _ _ w (Lr1 ++ (Lr2 ++ (Ld ++ (Lg ++ Lc)))) [] (by simpa using hs)).1 ?_
          refine WL_take rfl ?_
          refine s_move rfl rfl ?_
          refine WL_take rfl ?_
          (refine s_indexAddr1 El22 rfl rfl rfl ?hx ?_; case hx => (constructor <;> first | omega | (simp; omega)))
          refine WL_take rfl ?_
          refine s_load Try.isAgg27 rfl rfl (by rw [Nat.zero_add, Int.toNat_natCast]; exact (hhead _ _ w (Lr1 ++ (Lr2 ++ (Ld ++ (Lg ++ Lc)))) [] (by simpa using hs)).2 k _ hv) ?_
          refine WL_take rfl ?_
          have hS2 := OwnS_slIn hok.1 (w := w) fun x hx => hs.own x (by
            obtain ⟨R, h1, _⟩ := rw_open hr
            rw [hLm]
            simp only [List.mem_append, List.mem_cons]
            exact .inr (.inr (.inr (.inr (.inr (.inr (.inr (.inr (h1.mem_iff.2 (List.mem_append_left _ hx))))))))))
          have hS1 := OwnS_slIn hO1 (w := w) fun x hx => hs.own x (by simp [hx])
          rw [← hc] at hS2
          refine s_call Try.call17 rfl rfl (sameBytes_ok _ _ (D.c (k : Int)) (D.c (k : Int)) w hS1 hS2 (by omega)) ?_
          rintro r2 w ⟨hst, rfl⟩
          replace hs := hs.fwd1 hst
          clear hst hS1 hS2
          refine WL_take rfl ?_
          refine s_not rfl rfl ?_
          refine s_pick_f rfl rfl rfl ?_
          refine s_move rfl rfl ?_
          refine WL_know (s := 123) (c := false) rfl ((by simp)) ?_
          refine WL_take rfl ?_
          refine s_move rfl rfl ?_
          refine WL_take rfl ?_
          refine s_len rfl rfl (LN27 _ _ _ _) ?_
          refine WL_take rfl ?_
          refine s_move rfl rfl ?_
          refine WL_take rfl ?_
          refine s_len rfl rfl (LN27 _ _ _ _) ?_
          refine WL_take rfl ?_
          refine s_lss rfl rfl rfl ?_
          refine s_pick_f rfl rfl rfl ?_
          refine s_move rfl rfl ?_
          refine WL_know (s := 130) (c := false) rfl ((by simp; omega)) ?_
          refine WL_take rfl ?_
          refine s_move rfl rfl ?_
          refine WL_take rfl ?_
          refine s_move rfl rfl ?_
          refine WL_take rfl ?_
          refine s_len rfl rfl (LN27 _ _ _ _) ?_
          refine WL_take rfl ?_
          have hcap : (EX.c (k : Int)).length ≤ c2 := by obtain ⟨a9, c9, h8, h9⟩ := (OwnS_slIn hO2 (w := w) fun p hp => hs.own p (by simp [hp])).len_le; cases h8; exact h9
          (refine s_slice_hi El27 rfl rfl rfl ?hx ?_; case hx => (constructor <;> omega))
          rw [Int.toNat_natCast]
          refine WL_take rfl ?_
          refine s_move rfl rfl ?_
          refine WL_take rfl ?_
          have hS1 := OwnS_slIn hO1 (w := w) fun x hx => hs.own x (by simp [hx])
          have hS2 := (OwnS_slIn hO2 (w := w) fun x hx => hs.own x (by simp [hx])).take (k := (D.c (k : Int)).length) (size := 1) hx2 rfl
          rw [Nat.mul_one, ← List.map_take, hx3] at hS2
          refine s_call Try.call17 rfl rfl (sameBytes_ok _ _ (D.c (k : Int)) (D.c (k : Int)) w hS2 hS1 (by omega)) ?_
          rintro r2 w ⟨hst, rfl⟩
          replace hs := hs.fwd1 hst
          clear hst hS1 hS2
          refine WL_take rfl ?_
          refine s_not rfl rfl ?_
          refine s_pick_f rfl rfl rfl ?_
          refine WL_nil ?_
          refine n_then ?_
          refine W_cond_kf rfl ((by simp)) ?_
          refine W_skip ?_
          refine n_then ?_
          refine W_seq ?_
          refine W_seq ?_
          refine W_region ?_
          refine s_move rfl rfl ?_
          refine s_eql_ptr_nil Try.underlying23 rfl rfl rfl ?_
          refine WL_nil ?_
          refine n_then ?_
          refine W_cond_kf rfl (rfl) ?_
          refine W_skip ?_
          refine n_then ?_
          refine W_seq ?_
          refine W_region ?_
          refine s_move rfl rfl ?_
          refine s_move rfl rfl ?_
          replace hs : St [] w0 w (Ld ++ (Lg ++ (Lc ++ Lm))) := hs.right.right
          refine s_callL (M := Ld) (L1 := Lg) (X := Lc ++ Lm) Try.call16 rfl rfl hs (fun h => dRead_ok pg E (k : Int) Lg w hG h) ?_
          clear hs; rintro u w L9 ⟨v3, Lr3, rfl, rfl, hO3⟩ - hs
          rw [hq3.2] at hO3
          obtain ⟨_, c3, a3, rfl, hv3⟩ := hO3.form
          subst hv3
          replace hs : St [] w0 w (Ld ++ (Lg ++ (Lc ++ Lm))) := by
            have h9 := St.reord [Ld, Lr3, Lg, Lc, Lm] [0, 2, 3, 4] [1] (by simpa [cat] using hs) rfl
            exact h9
          refine s_move rfl rfl ?_
          refine s_extract rfl rfl rfl ?_
          refine s_extract rfl rfl rfl ?_
          refine s_assign rfl rfl ?_
          refine s_assign rfl rfl ?_
          refine WL_nil ?_
          refine n_then ?_
          refine W_seq ?_
          refine W_region ?_
          refine s_move rfl rfl ?_
          refine s_len rfl rfl (LN27 _ _ _ _) ?_
          refine s_move rfl rfl ?_
          refine s_len rfl rfl (LN27 _ _ _ _) ?_
          refine s_gtr rfl rfl rfl ?_
          refine WL_nil ?_
          refine n_then ?_
          refine W_cond_kf rfl ((by simp; omega)) ?_
          refine W_skip ?_
          refine n_blk ?_
          refine n_then ?_
          refine W_region ?_
          refine s_move rfl rfl ?_
          first | (refine s_add' rfl rfl rfl ?hx ?_; case hx => (constructor <;> first | omega | (simp only; omega))) | refine s_add rfl rfl rfl ?_
          refine s_assign rfl rfl ?_
          refine WL_nil ?_
          refine n_loop ?_
          exact ⟨k + 1, ⟨rfl, rfl, rfl, rfl, rfl, trivial⟩, ⟨hs, by omega⟩, by omega⟩
        · skip
          try simp only [decide_eq_true_eq, decide_eq_false_iff_not, gt_iff_lt, Bool.not_eq_true', Bool.not_eq_false', Bool.not_eq_true, Bool.not_eq_false, Bool.not_not] at hc90
          refine W_exit ?_
          refine x_then ?_
          refine x_then ?_
          refine exit_hit ?_
          refine n_then ?_
          refine W_seq ?_
          refine W_region ?_
          refine s_call Try.call18 rfl rfl (lives_ok w) ?_
          rintro r w ⟨hst, rfl⟩
          replace hs := hs.fwd1 hst
          clear hst
          refine s_assign rfl rfl ?_
          refine WL_nil ?_
          refine n_then ?_
          refine W_ret ?_
          exact end1 rfl rfl ⟨hs.fwd, rfl⟩
    · skip
      try simp only [decide_eq_true_eq, decide_eq_false_iff_not, gt_iff_lt, Bool.not_eq_true', Bool.not_eq_false', Bool.not_eq_true, Bool.not_eq_false, Bool.not_not] at hg64
      refine WL_skip rfl rfl rfl ?_
      refine WL_skip rfl rfl rfl ?_
      refine s_pick_f rfl rfl rfl ?_
      refine WL_nil ?_
      refine n_then ?_
      refine W_cond_f rfl ?_
      refine W_exit ?_
      refine x_then ?_
      refine x_then ?_
      refine exit_hit ?_
      refine n_then ?_
      refine W_seq ?_
      refine W_region ?_
      refine s_move rfl rfl ?_
      refine s_callL (M := []) (L1 := Ld) (X := Lk ++ (Lc ++ Lm)) Try.call24 rfl rfl hs (fun h => dCopy_ok p E Ld w hD h) ?_
      clear hs; rintro u w L9 ⟨pg, Lg, rfl, rfl, hG⟩ - hs
      simp only [List.nil_append, List.append_assoc] at hs
      replace hs : St [] w0 w (Lk ++ (Ld ++ (Lg ++ (Lc ++ Lm)))) := by
        have h9 := St.reord [Lg, Ld, Lk, Lc, Lm] [2, 1, 0, 3, 4] [] hs rfl
        exact h9
      refine s_assign rfl rfl ?_
      refine WL_nil ?_
      refine n_then ?_
      refine W_seq ?_
      refine W_region ?_
      refine s_move rfl rfl ?_
      refine s_move rfl rfl ?_
      refine s_move rfl rfl ?_
      have hfo := hD.firmOk
      refine s_callL (M := Lk) (L1 := Ld) (X := Lg ++ (Lc ++ Lm)) Try.call15 rfl rfl hs (fun h => dCrash_ok p E _ kp flip Ld w hD (OwnS_slIn hOk fun p hp => hs.own p (by simp [hp])) (fun a m c he hne => by cases he; exact hs.notin (OwnS_in hOk hne)) hflip h) ?_
      clear hs hD; rintro u w Ld hD - hs
      obtain ⟨hcp, hDo⟩ := crash_pre hfo kp flip
      obtain ⟨EX, hEX⟩ : ∃ EX, EX = E.crash kp flip := ⟨_, rfl⟩
      rw [← hEX] at hD hcp hDo
      clear hEX
      have hGo := hon.off
      replace hs := hs.right
      refine WL_nil ?_
      refine n_then ?_
      refine W_seq ?_
      refine W_seq ?_
      refine W_region ?_
      refine s_assign rfl rfl ?_
      refine WL_nil ?_
      refine n_then ?_
      refine W_block ?_
      refine W_loop (σ := Nat) (fun k => [(11, .pointer (some ⟨p, 0, none⟩)), (12, .pointer (some ⟨q, 0, none⟩)), (13, .pointer (some ⟨pc, 0, none⟩)), (16, .pointer (some ⟨pg, 0, none⟩)), (17, .int .i64 (k : Int))]) (fun k w => St [] w0 w (Ld ++ (Lg ++ (Lc ++ Lm))) ∧ k ≤ 4) (fun k => 4 - k) 0 ⟨rfl, rfl, rfl, rfl, rfl, trivial⟩ ⟨hs, by omega⟩ ?_
      clear hs
      rintro k w ⟨hs, hk4⟩
      refine W_seq ?_
      refine W_seq ?_
      refine W_region ?_
      refine s_move rfl rfl ?_
      refine s_lss rfl rfl rfl ?_
      refine WL_nil ?_
      refine n_then ?_
      refine W_cond rfl (fun hc90 => ?_) (fun hc90 => ?_)
      · skip
        try simp only [decide_eq_true_eq, decide_eq_false_iff_not, gt_iff_lt, Bool.not_eq_true', Bool.not_eq_false', Bool.not_eq_true, Bool.not_eq_false, Bool.not_not] at hc90
        have hk64 : k < 64 := by omega
        obtain ⟨r, hr, hok, hc, hd, hv, hdv⟩ := hRs.get hk64
        have hq1 := readE_ok (D := EC) (f := (k : Int)) (by omega) hCo
        have hq2 := readE_ok (D := EX) (f := (k : Int)) (by omega) hDo
        have hq3 := readE_ok (D := E) (f := (k : Int)) (by omega) hGo
        have hlt := len_le_total D (f := (k : Int)) (by omega)
        have hK1 := hK.1
        obtain ⟨hx1, hx2, hx3⟩ := hcp (k : Int)
        rw [hon.d] at hx2 hx3
        rw [hon.pre] at hx3
        rw [hcs (k : Int)] at hq1
        refine W_skip ?_
        refine n_then ?_
        refine W_seq ?_
        refine W_block ?_
        refine W_seq ?_
        refine W_region ?_
        refine s_move rfl rfl ?_
        refine s_move rfl rfl ?_
        refine s_callL (M := Ld ++ Lg) (L1 := Lc) (X := Lm) Try.call16 rfl rfl (by simpa using hs) (fun h => dRead_ok pc EC (k : Int) Lc w hC h) ?_
        clear hs; rintro u w L9 ⟨v1, Lr1, rfl, rfl, hO1⟩ - hs
        rw [hq1.1]
        rw [hq1.2] at hO1
        replace hs : St [] w0 w (Lr1 ++ (Ld ++ (Lg ++ (Lc ++ Lm)))) := by
          have h9 := St.reord [Ld, Lg, Lr1, Lc, Lm] [2, 0, 1, 3, 4] [] (by simpa [cat] using hs) rfl
          exact h9
        obtain ⟨_, c1, a1, rfl, hv1⟩ := hO1.form
        subst hv1
        refine s_move rfl rfl ?_
        refine s_extract rfl rfl rfl ?_
        refine s_extract rfl rfl rfl ?_
        refine s_assign rfl rfl ?_
        refine s_assign rfl rfl ?_
        refine WL_nil ?_
        refine n_then ?_
        refine W_seq ?_
        refine W_region ?_
        refine s_move rfl rfl ?_
        refine s_move rfl rfl ?_
        refine s_callL (M := Lr1) (L1 := Ld) (X := Lg ++ (Lc ++ Lm)) Try.call16 rfl rfl hs (fun h => dRead_ok p EX (k : Int) Ld w hD h) ?_
        clear hs; rintro u w L9 ⟨v2, Lr2, rfl, rfl, hO2⟩ - hs
        rw [hq2.1]
        rw [hq2.2] at hO2
        simp only [List.append_assoc] at hs
        obtain ⟨_, c2, a2, rfl, hv2⟩ := hO2.form
        subst hv2
        refine s_move rfl rfl ?_
        refine s_extract rfl rfl rfl ?_
        refine s_extract rfl rfl rfl ?_
        refine s_assign rfl rfl ?_
        refine s_assign rfl rfl ?_
        refine WL_nil ?_
        refine n_then ?_
        refine W_seq ?_
        refine W_seq ?_
        refine W_region ?_
        refine s_move rfl rfl ?_
        refine s_neq rfl rfl rfl ?_
        refine s_move rfl rfl ?_
        refine WL_know (s := 107) (c := false) rfl (rfl) ?_
        refine WL_take rfl ?_
        refine s_move rfl rfl ?_
        refine WL_take rfl ?_
        refine s_neq rfl rfl rfl ?_
        refine s_pick_f rfl rfl rfl ?_
        refine s_move rfl rfl ?_
        refine WL_know (s := 111) (c := false) rfl (rfl) ?_
        refine WL_take rfl ?_
        refine s_move rfl rfl ?_
        refine WL_take rfl ?_
        refine s_move rfl rfl ?_
        refine WL_take rfl ?_
        refine s_nilCheck rfl rfl ?_
        refine WL_take rfl ?_
        refine s_fieldAddr rfl rfl (FA49_1 _ _) ?_
        refine WL_take rfl ?_
        refine s_load Try.isAgg22 rfl rfl (hhead _ _ w (Lr1 ++ (Lr2 ++ (Ld ++ (Lg ++ Lc)))) [] (by simpa using hs)).1 ?_
        refine WL_take rfl ?_
        refine s_move rfl rfl ?_
        refine WL_take rfl ?_
        (refine s_indexAddr1 El22 rfl rfl rfl ?hx ?_; case hx => (constructor <;> first | omega | (simp; omega)))
        refine WL_take rfl ?_
        refine s_load Try.isAgg27 rfl rfl (by rw [Nat.zero_add, Int.toNat_natCast]; exact (hhead _ _ w (Lr1 ++ (Lr2 ++ (Ld ++ (Lg ++ Lc)))) [] (by simpa using hs)).2 k _ hv) ?_
        refine WL_take rfl ?_
        have hS2 := OwnS_slIn hok.1 (w := w) fun x hx => hs.own x (by
          obtain ⟨R, h1, _⟩ := rw_open hr
          rw [hLm]
          simp only [List.mem_append, List.mem_cons]
          exact .inr (.inr (.inr (.inr (.inr (.inr (.inr (.inr (h1.mem_iff.2 (List.mem_append_left _ hx))))))))))
        have hS1 := OwnS_slIn hO1 (w := w) fun x hx => hs.own x (by simp [hx])
        rw [← hc] at hS2
        refine s_call Try.call17 rfl rfl (sameBytes_ok _ _ (D.c (k : Int)) (D.c (k : Int)) w hS1 hS2 (by omega)) ?_
        rintro r2 w ⟨hst, rfl⟩
        replace hs := hs.fwd1 hst
        clear hst hS1 hS2
        refine WL_take rfl ?_
        refine s_not rfl rfl ?_
        refine s_pick_f rfl rfl rfl ?_
        refine s_move rfl rfl ?_
        refine WL_know (s := 123) (c := false) rfl ((by simp)) ?_
        refine WL_take rfl ?_
        refine s_move rfl rfl ?_
        refine WL_take rfl ?_
        refine s_len rfl rfl (LN27 _ _ _ _) ?_
        refine WL_take rfl ?_
        refine s_move rfl rfl ?_
        refine WL_take rfl ?_
        refine s_len rfl rfl (LN27 _ _ _ _) ?_
        refine WL_take rfl ?_
        refine s_lss rfl rfl rfl ?_
        refine s_pick_f rfl rfl rfl ?_
        refine s_move rfl rfl ?_
        refine WL_know (s := 130) (c := false) rfl ((by simp; omega)) ?_
        refine WL_take rfl ?_
        refine s_move rfl rfl ?_
        refine WL_take rfl ?_
        refine s_move rfl rfl ?_
        refine WL_take rfl ?_
        refine s_len rfl rfl (LN27 _ _ _ _) ?_
        refine WL_take rfl ?_
        have hcap : (EX.c (k : Int)).length ≤ c2 := by obtain ⟨a9, c9, h8, h9⟩ := (OwnS_slIn hO2 (w := w) fun p hp => hs.own p (by simp [hp])).len_le; cases h8; exact h9
        (refine s_slice_hi El27 rfl rfl rfl ?hx ?_; case hx => (constructor <;> omega))
        rw [Int.toNat_natCast]
        refine WL_take rfl ?_
        refine s_move rfl rfl ?_
        refine WL_take rfl ?_
        have hS1 := OwnS_slIn hO1 (w := w) fun x hx => hs.own x (by simp [hx])
        have hS2 := (OwnS_slIn hO2 (w := w) fun x hx => hs.own x (by simp [hx])).take (k := (D.c (k : Int)).length) (size := 1) hx2 rfl
        rw [Nat.mul_one, ← List.map_take, hx3] at hS2
        refine s_call Try.call17 rfl rfl (sameBytes_ok _ _ (D.c (k : Int)) (D.c (k : Int)) w hS2 hS1 (by omega)) ?_
        rintro r2 w ⟨hst, rfl⟩
        replace hs := hs.fwd1 hst
        clear hst hS1 hS2
        refine WL_take rfl ?_
        refine s_not rfl rfl ?_
        refine s_pick_f rfl rfl rfl ?_
        refine WL_nil ?_
        refine n_then ?_
        refine W_cond_kf rfl ((by simp)) ?_
        refine W_skip ?_
        refine n_then ?_
        refine W_seq ?_
        refine W_seq ?_
        refine W_region ?_
        refine s_move rfl rfl ?_
        refine s_eql_ptr_nil Try.underlying23 rfl rfl rfl ?_
        refine WL_nil ?_
        refine n_then ?_
        refine W_cond_kf rfl (rfl) ?_
        refine W_skip ?_
        refine n_then ?_
        refine W_seq ?_
        refine W_region ?_
        refine s_move rfl rfl ?_
        refine s_move rfl rfl ?_
        replace hs : St [] w0 w (Ld ++ (Lg ++ (Lc ++ Lm))) := hs.right.right
        refine s_callL (M := Ld) (L1 := Lg) (X := Lc ++ Lm) Try.call16 rfl rfl hs (fun h => dRead_ok pg E (k : Int) Lg w hG h) ?_
        clear hs; rintro u w L9 ⟨v3, Lr3, rfl, rfl, hO3⟩ - hs
        rw [hq3.2] at hO3
        obtain ⟨_, c3, a3, rfl, hv3⟩ := hO3.form
        subst hv3
        replace hs : St [] w0 w (Ld ++ (Lg ++ (Lc ++ Lm))) := by
          have h9 := St.reord [Ld, Lr3, Lg, Lc, Lm] [0, 2, 3, 4] [1] (by simpa [cat] using hs) rfl
          exact h9
        refine s_move rfl rfl ?_
        refine s_extract rfl rfl rfl ?_
        refine s_extract rfl rfl rfl ?_
        refine s_assign rfl rfl ?_
        refine s_assign rfl rfl ?_
        refine WL_nil ?_
        refine n_then ?_
        refine W_seq ?_
        refine W_region ?_
        refine s_move rfl rfl ?_
        refine s_len rfl rfl (LN27 _ _ _ _) ?_
        refine s_move rfl rfl ?_
        refine s_len rfl rfl (LN27 _ _ _ _) ?_
        refine s_gtr rfl rfl rfl ?_
        refine WL_nil ?_
        refine n_then ?_
        refine W_cond_kf rfl ((by simp; omega)) ?_
        refine W_skip ?_
        refine n_blk ?_
        refine n_then ?_
        refine W_region ?_
        refine s_move rfl rfl ?_
        first | (refine s_add' rfl rfl rfl ?hx ?_; case hx => (constructor <;> first | omega | (simp only; omega))) | refine s_add rfl rfl rfl ?_
        refine s_assign rfl rfl ?_
        refine WL_nil ?_
        refine n_loop ?_
        exact ⟨k + 1, ⟨rfl, rfl, rfl, rfl, rfl, trivial⟩, ⟨hs, by omega⟩, by omega⟩
      · skip
        try simp only [decide_eq_true_eq, decide_eq_false_iff_not, gt_iff_lt, Bool.not_eq_true', Bool.not_eq_false', Bool.not_eq_true, Bool.not_eq_false, Bool.not_not] at hc90
        refine W_exit ?_
        refine x_then ?_
        refine x_then ?_
        refine exit_hit ?_
        refine n_then ?_
        refine W_seq ?_
        refine W_region ?_
        refine s_call Try.call18 rfl rfl (lives_ok w) ?_
        rintro r w ⟨hst, rfl⟩
        replace hs := hs.fwd1 hst
        clear hst
        refine s_assign rfl rfl ?_
        refine WL_nil ?_
        refine n_then ?_
        refine W_ret ?_
        exact end1 rfl rfl ⟨hs.fwd, rfl⟩
end Go.Proofs.Ythfcdjbkbmhjgaa
