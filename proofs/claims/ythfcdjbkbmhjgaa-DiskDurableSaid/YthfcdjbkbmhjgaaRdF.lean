/- DiskCopies. -/
import Derived.Test.YthfcdjbkbmhjgaaRdE
set_option linter.unusedVariables false
set_option linter.unusedSimpArgs false
namespace Go.Proofs.Ythfcdjbkbmhjgaa
open Go.SL
def runOps : List OpV → Dk → Dk
  | [], D => D
  | o :: r, D => runOps r (D.op o).1
theorem drop_cons {α : Type} {l : List α} {i : Nat} {x : α} (h : l[i]? = some x) : l.drop i = x :: l.drop (i + 1) := by
  have hil : i < l.length := (List.getElem?_eq_some_iff.1 h).1
  rw [List.drop_eq_getElem_cons hil]; congr 1; rw [List.getElem?_eq_getElem hil] at h; exact Option.some.inj h
structure DcS where
  i : Nat
  D : Dk
  L : Hp
set_option maxHeartbeats 4000000 in
theorem diskCopies_ok (vl vm : Value) (room : Int) (ls ms : List Int) (w0 : World) (hl : Sl w0 vl ls.length (i64s ls)) (hli : ∀ z ∈ ls, isI64 z) (hm : Sl w0 vm ms.length (i64s ms)) (hmi : ∀ z ∈ ms, isI64 z) (hroom : isI64 room) :
    Ret Try.prog 8 [.int .i64 room, vl, vm].toArray w0 fun r w' => Fwd [] w0 w' ∧ r = .bool true := by
  refine Ret_start fun w hs => ?_
  refine Ret_of Try.func8 rfl Try.ntmps8 rfl ?_
  refine W_seq ?_
  refine W_region ?_
  refine s_assign rfl rfl ?_
  refine WL_nil ?_
  refine n_then ?_
  refine W_seq ?_
  refine W_region ?_
  refine s_move rfl rfl ?_
  refine s_move rfl rfl ?_
  refine s_call Try.call21 rfl rfl (made_ok vl room ls w (hl.fwd0 hs.fwd) hli hroom) ?_
  rintro v w ⟨p, q, D, L1, L2, rfl, hD, hR, hst⟩
  replace hs := (St.back0 hs hst).left
  clear hst
  refine s_move rfl rfl ?_
  refine s_extract rfl rfl rfl ?_
  refine s_extract rfl rfl rfl ?_
  refine s_assign rfl rfl ?_
  refine s_assign rfl rfl ?_
  refine WL_nil ?_
  refine n_then ?_
  refine W_seq ?_
  refine W_seq ?_
  refine W_region ?_
  refine s_move rfl rfl ?_
  refine s_eql_ptr_nil Try.underlying23 rfl rfl rfl ?_
  refine s_move rfl rfl ?_
  refine WL_know (s := 22) (c := false) rfl (rfl) ?_
  refine WL_take rfl ?_
  refine s_move rfl rfl ?_
  refine WL_take rfl ?_
  refine s_eql_ptr_nil Try.underlying42 rfl rfl rfl ?_
  refine s_pick_f rfl rfl rfl ?_
  refine WL_nil ?_
  refine n_then ?_
  refine W_cond_kf rfl (rfl) ?_
  refine W_skip ?_
  refine n_then ?_
  refine W_seq ?_
  refine W_region ?_
  refine s_move rfl rfl ?_
  refine s_callL (M := []) (L1 := L1) (X := L2) Try.call24 rfl rfl hs (fun h => dCopy_ok p D L1 w hD h) ?_
  clear hs; rintro u w L9 ⟨pc, Lc, rfl, rfl, hC⟩ - hs
  simp only [List.nil_append, List.append_assoc] at hs
  refine s_assign rfl rfl ?_
  refine WL_nil ?_
  refine n_then ?_
  refine W_seq ?_
  refine W_seq ?_
  refine W_region ?_
  refine s_move rfl rfl ?_
  refine s_eql_ptr_nil Try.underlying23 rfl rfl rfl ?_
  refine s_move rfl rfl ?_
  refine WL_know (s := 30) (c := false) rfl (rfl) ?_
  refine WL_take rfl ?_
  refine s_move rfl rfl ?_
  refine WL_take rfl ?_
  refine s_move rfl rfl ?_
  refine WL_take rfl ?_
  replace hs : St [] w0 w (L1 ++ (Lc ++ L2)) := hs.pull
  refine s_callL (M := L1) (L1 := Lc ++ L2) (X := []) Try.call30 rfl rfl (by simpa using hs) (fun h => same_ok pc q D Lc L2 w hC hR h) ?_
  clear hs; rintro u w L9 ⟨hL9, rfl⟩ - hs
  rw [hL9] at hs
  clear hL9
  simp only [List.append_nil] at hs
  refine WL_take rfl ?_
  refine s_not rfl rfl ?_
  refine s_pick_f rfl rfl rfl ?_
  refine WL_nil ?_
  refine n_then ?_
  refine W_cond_kf rfl (rfl) ?_
  refine W_skip ?_
  refine n_then ?_
  refine W_seq ?_
  refine W_region ?_
  refine s_move rfl rfl ?_
  refine s_call Try.call27 rfl rfl (ops_ok vm ms w (hm.fwd0 hs.fwd) hmi) ?_
  rintro v w ⟨os, Lv, LX, hO, hst, hok, hosl⟩
  replace hs := (St.back0 hs hst).swap
  simp only [List.append_assoc] at hs
  clear hst
  obtain ⟨_, cv, av, rfl, hvl⟩ := hO.form
  subst hvl
  replace hs : St [] w0 w (Lc ++ (L1 ++ (L2 ++ (Lv ++ LX)))) := hs.pull
  refine s_assign rfl rfl ?_
  refine WL_nil ?_
  refine n_then ?_
  refine W_seq ?_
  refine W_seq ?_
  refine W_region ?_
  refine s_assign rfl rfl ?_
  refine WL_nil ?_
  refine n_then ?_
  refine W_block ?_
  refine W_loop (σ := DcS) (fun s => [(7, .pointer (some ⟨p, 0, none⟩)), (8, .pointer (some ⟨q, 0, none⟩)), (9, .pointer (some ⟨pc, 0, none⟩)), (10, .slice av os.length cv), (11, .int .i64 (s.i : Int))]) (fun s w => St [] w0 w (s.L ++ (L1 ++ (L2 ++ (Lv ++ LX)))) ∧ DiskAt pc s.D s.L ∧ s.i ≤ os.length ∧ runOps (os.drop s.i) s.D = runOps os D) (fun s => os.length - s.i) ⟨0, D, Lc⟩ ⟨rfl, rfl, rfl, rfl, rfl, trivial⟩ ⟨hs, hC, Nat.zero_le _, rfl⟩ ?_
  clear hs hC
  rintro ⟨i, E, Lc⟩ w ⟨hs, hC, hi, hrun⟩
  simp only at hs hC hi hrun ⊢
  refine W_seq ?_
  refine W_seq ?_
  refine W_region ?_
  refine s_move rfl rfl ?_
  refine s_move rfl rfl ?_
  refine s_len rfl rfl (LN52 _ _ _ _) ?_
  refine s_lss rfl rfl rfl ?_
  refine WL_nil ?_
  refine n_then ?_
  refine W_cond rfl (fun hc41 => ?_) (fun hc41 => ?_)
  · skip
    try simp only [decide_eq_true_eq, decide_eq_false_iff_not, gt_iff_lt] at hc41
    have hil : i < os.length := by omega
    obtain ⟨o, ho⟩ : ∃ o, os[i]? = some o := ⟨_, List.getElem?_eq_getElem hil⟩
    have hoo := hok o (List.mem_of_getElem? ho)
    obtain ⟨b1, o1, hA1, -⟩ := loadOp (w := w) hO (fun x hx => hs.own x (by simp [hx])) ho
    subst hA1
    rw [drop_cons ho, runOps] at hrun
    refine W_skip ?_
    refine n_then ?_
    refine W_seq ?_
    refine W_block ?_
    refine W_region ?_
    refine s_move rfl rfl ?_
    refine s_move rfl rfl ?_
    refine s_move rfl rfl ?_
    (refine s_indexAddr El52 rfl rfl rfl ?hx ?_; case hx => (constructor <;> first | omega | (simp; omega)))
    refine s_loadA (cs := o.cells) Try.isAgg56 Try.sizeOf56 rfl rfl rfl (by intro j u hj; rw [Int.toNat_natCast]; exact loadOpAt hO (fun x hx => hs.own x (by simp [hx])) ho j u hj) ?_
    have hdj := ids_disj (A := Lc) (B := L1 ++ (L2 ++ Lv)) (C := LX) (by simpa using hs)
    refine s_callL (M := []) (L1 := Lc) (X := L1 ++ (L2 ++ (Lv ++ LX))) Try.call28 rfl rfl hs (fun h => do_ok pc E o LX Lc w hC hoo (fun x hx => hs.own x (by simp [hx])) hdj.1 h) ?_
    clear hs hC; rintro u w Lc ⟨hC, rfl⟩ - hs
    simp only [List.nil_append] at hs
    refine WL_nil ?_
    refine n_blk ?_
    refine n_then ?_
    refine W_region ?_
    refine s_move rfl rfl ?_
    first | (refine s_add' rfl rfl rfl ?hx ?_; case hx => (constructor <;> first | omega | (simp only; omega))) | refine s_add rfl rfl rfl ?_
    refine s_assign rfl rfl ?_
    refine WL_nil ?_
    refine n_loop ?_
    exact ⟨⟨i + 1, _, Lc⟩, ⟨rfl, rfl, rfl, rfl, rfl, trivial⟩, ⟨hs, hC, hil, hrun⟩, by simp only; omega⟩
  · skip
    try simp only [decide_eq_true_eq, decide_eq_false_iff_not, gt_iff_lt] at hc41
    rw [List.drop_eq_nil_of_le (by omega), runOps] at hrun
    rw [hrun] at hC
    clear hrun
    refine W_exit ?_
    refine x_then ?_
    refine x_then ?_
    refine exit_hit ?_
    refine n_then ?_
    refine W_seq ?_
    refine W_seq ?_
    refine W_region ?_
    refine s_move rfl rfl ?_
    refine s_move rfl rfl ?_
    refine s_callL (M := Lc) (L1 := L1 ++ L2) (X := Lv ++ LX) Try.call30 rfl rfl (by simpa using hs) (fun h => same_ok p q D L1 L2 w hD hR h) ?_
    clear hs; rintro u w L9 ⟨hL9, rfl⟩ - hs
    rw [hL9] at hs
    clear hL9
    simp only [List.append_assoc] at hs
    refine s_not rfl rfl ?_
    refine WL_nil ?_
    refine n_then ?_
    refine W_cond_kf rfl (rfl) ?_
    refine W_skip ?_
    refine n_then ?_
    refine W_seq ?_
    refine W_region ?_
    refine s_move rfl rfl ?_
    refine s_callL (M := Lc) (L1 := L1) (X := L2 ++ (Lv ++ LX)) Try.call24 rfl rfl hs (fun h => dCopy_ok p D L1 w hD h) ?_
    clear hs; rintro u w L9 ⟨pa, La, rfl, rfl, hA⟩ - hs
    replace hs : St [] w0 w (La ++ (L2 ++ (Lc ++ (Lv ++ LX)))) := by
      have h9 := St.reord [Lc, La, L1, L2, Lv, LX] [1, 3, 0, 4, 5] [2] (by simpa [cat] using hs) rfl
      simpa [cat] using h9
    refine s_assign rfl rfl ?_
    refine WL_nil ?_
    refine n_then ?_
    refine W_seq ?_
    refine W_seq ?_
    refine W_region ?_
    refine s_move rfl rfl ?_
    refine s_eql_ptr_nil Try.underlying23 rfl rfl rfl ?_
    refine WL_nil ?_
    refine n_then ?_
    refine W_cond_kf rfl (rfl) ?_
    refine W_skip ?_
    refine n_then ?_
    refine W_seq ?_
    refine W_seq ?_
    refine W_region ?_
    refine s_assign rfl rfl ?_
    refine WL_nil ?_
    refine n_then ?_
    refine W_block ?_
    refine W_loop (σ := MdS) (fun s => [(8, .pointer (some ⟨q, 0, none⟩)), (9, .pointer (some ⟨pc, 0, none⟩)), (10, .slice av os.length cv), (12, .pointer (some ⟨pa, 0, none⟩)), (13, .int .i64 (s.i : Int))]) (fun s w => St [] w0 w (s.L1 ++ (s.L2 ++ (Lc ++ (Lv ++ LX)))) ∧ DiskAt pa s.D s.L1 ∧ RefAt q s.D s.L2 ∧ s.i ≤ os.length ∧ runOps (os.drop s.i) s.D = runOps os D) (fun s => os.length - s.i) ⟨0, D, La, L2⟩ ⟨rfl, rfl, rfl, rfl, rfl, trivial⟩ ⟨hs, hA, hR, Nat.zero_le _, rfl⟩ ?_
    clear hs hA hR
    rintro ⟨i, E, La, Lm⟩ w ⟨hs, hA, hR, hi, hrun⟩
    simp only at hs hA hR hi hrun ⊢
    refine W_seq ?_
    refine W_seq ?_
    refine W_region ?_
    refine s_move rfl rfl ?_
    refine s_move rfl rfl ?_
    refine s_len rfl rfl (LN52 _ _ _ _) ?_
    refine s_lss rfl rfl rfl ?_
    refine WL_nil ?_
    refine n_then ?_
    refine W_cond rfl (fun hc61 => ?_) (fun hc61 => ?_)
    · skip
      try simp only [decide_eq_true_eq, decide_eq_false_iff_not, gt_iff_lt] at hc61
      have hil : i < os.length := by omega
      obtain ⟨o, ho⟩ : ∃ o, os[i]? = some o := ⟨_, List.getElem?_eq_getElem hil⟩
      have hoo := hok o (List.mem_of_getElem? ho)
      obtain ⟨b1, o1, hA1, -⟩ := loadOp (w := w) hO (fun x hx => hs.own x (by simp [hx])) ho
      subst hA1
      rw [drop_cons ho, runOps] at hrun
      refine W_skip ?_
      refine n_then ?_
      refine W_seq ?_
      refine W_block ?_
      refine W_seq ?_
      refine W_draw [(0, true, []), (1, true, []), (2, true, []), (3, true, []), (4, true, []), (6, true, []), (7, true, []), (8, true, []), (9, true, []), (10, true, []), (5, false, [6, 7, 8, 9, 10]), (11, false, []), (12, true, [])] [[], [], [], [1, 2], [1, 2, 3], [0, 1, 2, 3, 4], [], [], [], [7, 8], [7, 8, 9], [0, 1, 2, 3, 4, 5, 6, 7, 8, 9, 10], [0, 1, 2, 3, 4, 5, 6, 7, 8, 9, 10, 11]] MX (by kernel_rfl) ?_
      intro w1 hw1 hw2 hw3 hw4; replace hs := hs.redrawn hw1 hw2 hw3 hw4; clear hw1 hw2 hw3 hw4
      obtain ⟨w, rfl⟩ : ∃ w : World, w = w1 := ⟨_, rfl⟩
      refine D_q rfl rfl ?_
      refine s_move rfl rfl ?_
      refine D_qn ?_
      refine D_q rfl rfl ?_
      refine s_move rfl rfl ?_
      refine D_qn ?_
      refine D_q rfl rfl ?_
      refine s_move rfl rfl ?_
      refine D_qn ?_
      refine D_q rfl rfl ?_
      (refine s_indexAddr El52 rfl rfl rfl ?hx ?_; case hx => (constructor <;> first | omega | (simp; omega)))
      refine D_qn ?_
      refine D_q rfl rfl ?_
      refine s_loadA (cs := o.cells) Try.isAgg56 Try.sizeOf56 rfl rfl rfl (by intro j u hj; rw [Int.toNat_natCast]; exact loadOpAt hO (fun x hx => hs.own x (by simp [hx])) ho j u hj) ?_
      refine D_qn ?_
      refine D_q rfl rfl ?_
      refine s_move rfl rfl ?_
      refine D_qn ?_
      refine D_q rfl rfl ?_
      refine s_move rfl rfl ?_
      refine D_qn ?_
      refine D_q rfl rfl ?_
      refine s_move rfl rfl ?_
      refine D_qn ?_
      refine D_q rfl rfl ?_
      (refine s_indexAddr El52 rfl rfl rfl ?hx ?_; case hx => (constructor <;> first | omega | (simp; omega)))
      refine D_qn ?_
      refine D_q rfl rfl ?_
      refine s_loadA (cs := o.cells) Try.isAgg56 Try.sizeOf56 rfl rfl rfl (by intro j u hj; rw [Int.toNat_natCast]; exact loadOpAt hO (fun x hx => hs.own x (by simp [hx])) ho j u hj) ?_
      refine D_qn ?_
      refine D_e rfl ?_
      have hdj := ids_disj (A := La) (B := Lm ++ (Lc ++ Lv)) (C := LX) (by simpa using hs)
      refine s_callL (M := []) (L1 := La) (X := Lm ++ (Lc ++ (Lv ++ LX))) Try.call28 rfl rfl hs (fun h => do_ok pa E o LX La w hA hoo (fun x hx => hs.own x (by simp [hx])) hdj.1 h) ?_
      have hfo := hA.firmOk
      clear hs hA; rintro u w La ⟨hA, rfl⟩ - hs
      simp only [List.nil_append] at hs
      refine D_en ?re ?_
      case re =>
        refine Reks_cons rfl rfl rfl rfl ?_ ?_
        · skip
          refine s_move rfl rfl ?_
          exact Rek_end rfl
        refine Reks_cons rfl rfl rfl rfl ?_ ?_
        · skip
          refine s_move rfl rfl ?_
          exact Rek_end rfl
        refine Reks_cons rfl rfl rfl rfl ?_ ?_
        · skip
          refine s_move rfl rfl ?_
          exact Rek_end rfl
        refine Reks_cons rfl rfl rfl rfl ?_ ?_
        · skip
          (refine s_indexAddr El52 rfl rfl rfl ?hx ?_; case hx => (constructor <;> first | omega | (simp; omega)))
          exact Rek_end rfl
        refine Reks_cons rfl rfl rfl rfl ?_ ?_
        · skip
          refine s_loadA (cs := o.cells) Try.isAgg56 Try.sizeOf56 rfl rfl rfl (by intro j u hj; rw [Int.toNat_natCast]; exact loadOpAt hO (fun x hx => hs.own x (by simp [hx])) ho j u hj) ?_
          exact Rek_end rfl
        exact Reks_nil
      refine D_e rfl ?_
      have hdj := ids_disj (A := La ++ (Lc ++ Lv)) (B := Lm) (C := LX) (by have h9 := St.reord [La, Lm, Lc, Lv, LX] [0, 2, 3, 1, 4] [] hs rfl; simpa [cat] using h9)
      refine s_callL (M := La) (L1 := Lm) (X := Lc ++ (Lv ++ LX)) Try.call29 rfl rfl hs (fun h => rDo_ok q E o LX Lm w hfo hR hoo (fun x hx => hs.own x (by simp [hx])) hdj.2.1 h) ?_
      clear hs hR; rintro u w Lm ⟨hR, rfl⟩ - hs
      refine D_en ?re ?_
      case re =>
        exact Reks_nil
      refine D_q rfl rfl ?_
      refine s_neq rfl rfl rfl ?_
      refine D_qn ?_
      refine D_nil ?_
      refine n_then ?_
      refine W_cond_kf rfl ((by simp)) ?_
      refine W_skip ?_
      refine n_blk ?_
      refine n_then ?_
      refine W_region ?_
      refine s_move rfl rfl ?_
      first | (refine s_add' rfl rfl rfl ?hx ?_; case hx => (constructor <;> first | omega | (simp only; omega))) | refine s_add rfl rfl rfl ?_
      refine s_assign rfl rfl ?_
      refine WL_nil ?_
      refine n_loop ?_
      exact ⟨⟨i + 1, _, La, Lm⟩, ⟨rfl, rfl, rfl, rfl, rfl, trivial⟩, ⟨hs, hA, hR, hil, hrun⟩, by simp only; omega⟩
    · skip
      try simp only [decide_eq_true_eq, decide_eq_false_iff_not, gt_iff_lt] at hc61
      rw [List.drop_eq_nil_of_le (by omega), runOps] at hrun
      rw [hrun] at hA hR
      clear hrun
      refine W_exit ?_
      refine x_then ?_
      refine x_then ?_
      refine exit_hit ?_
      refine n_then ?_
      refine W_seq ?_
      refine W_region ?_
      refine s_move rfl rfl ?_
      refine s_move rfl rfl ?_
      refine s_callL (M := []) (L1 := La ++ Lm) (X := Lc ++ (Lv ++ LX)) Try.call30 rfl rfl (by simpa using hs) (fun h => same_ok pa q _ La Lm w hA hR h) ?_
      clear hs; rintro u w L9 ⟨hL9, rfl⟩ - hs
      rw [hL9] at hs
      clear hL9
      simp only [List.nil_append, List.append_assoc] at hs
      refine s_move rfl rfl ?_
      refine WL_know (s := 80) (c := true) rfl (rfl) ?_
      refine WL_take rfl ?_
      refine s_move rfl rfl ?_
      refine WL_take rfl ?_
      refine s_move rfl rfl ?_
      refine WL_take rfl ?_
      replace hs : St [] w0 w (La ++ (Lc ++ (Lm ++ (Lv ++ LX)))) := by
        have h9 := St.reord [La, Lm, Lc, Lv, LX] [0, 2, 1, 3, 4] [] hs rfl
        simpa [cat] using h9
      refine s_callL (M := La) (L1 := Lc ++ Lm) (X := Lv ++ LX) Try.call30 rfl rfl (by simpa using hs) (fun h => same_ok pc q _ Lc Lm w hC hR h) ?_
      clear hs; rintro u w L9 ⟨hL9, rfl⟩ - hs
      rw [hL9] at hs
      clear hL9
      refine s_pick_t rfl rfl rfl ?_
      refine s_move rfl rfl ?_
      refine WL_know (s := 85) (c := true) rfl (rfl) ?_
      refine WL_take rfl ?_
      refine s_call Try.call18 rfl rfl (lives_ok w) ?_
      rintro r w ⟨hst, rfl⟩
      replace hs := hs.fwd1 hst
      clear hst
      refine s_pick_t rfl rfl rfl ?_
      refine s_assign rfl rfl ?_
      refine WL_nil ?_
      refine n_then ?_
      refine W_ret ?_
      exact end1 rfl rfl ⟨hs.fwd, rfl⟩
end Go.Proofs.Ythfcdjbkbmhjgaa
