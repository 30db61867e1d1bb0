/- A disk: Crash. -/
import Derived.Test.YtgppcfgnhahnaaaDoorDkF
set_option linter.unusedVariables false
set_option linter.unusedSimpArgs false
namespace Go.Proofs.YtgppcfgnhahnaaaDoor
open Go.SL
theorem St_last {F : List Nat} {w0 w : World} {A B C : Hp} {P Q : Nat × Obj} (h : St F w0 w (P :: Q :: (A ++ (B ++ C)))) : St F w0 w (C ++ (P :: Q :: (A ++ B))) := St.swap (A := P :: Q :: (A ++ B)) (by simpa using h)
structure CrS where
  i : Nat
  n : Nat
  E : Dk
  L : Hp
structure Cr2 where
  E : Dk
  L : Hp
theorem set_ok {E : Dk} (h : dkOk E) {f : Int} (hf : 0 ≤ f ∧ f ≤ 63) {bs : List Int} {d : Nat} (hl : bs.length ≤ (E.c f).length) : dkOk (E.set f bs d) := by
  have := total_set (D := E) (bs := bs) (d := d) hf
  exact ⟨⟨by show _ ≤ E.room; have := h.1; omega, h.1.2.1, h.1.2.2⟩, h.2⟩
theorem kept_eq {keep : List Int} {i room : Nat} {z : Int} (hz : keep[i]? = some z) : (if (room : Int) < (if z < 0 then (0 : Int) else z) then (room : Int) else (if z < 0 then (0 : Int) else z)) = (keptV keep i room : Int) := by
  have hil : i < keep.length := (List.getElem?_eq_some_iff.1 hz).1
  unfold keptV
  rw [if_pos hil, List.getD_eq_getElem?_getD, hz]
  simp only [Option.getD_some]
  split
  · omega
  · split <;> omega
set_option maxHeartbeats 2000000 in
theorem dCrash_ok (p : Nat) (D : Dk) (vk : Value) (keep : List Int) (flip : Int) (L0 : Hp) (w0 : World) (hD : DiskAt p D L0) (hv : Sl w0 vk keep.length (i64s keep)) (hap : ∀ a m c, vk = .slice (some a) m c → i64s keep ≠ [] → a.block ∉ ids L0) (hfl : isI64 flip) (hs : St (ids L0) w0 w0 L0) :
    Ret Tryd.prog 11 [.pointer (some ⟨p, 0, none⟩), vk, .int .i64 flip].toArray w0 fun r w' => ∃ L', St (ids L0) w0 w' L' ∧ DiskAt p (D.crash keep flip) L' := by
  obtain ⟨ka, kc, rfl, hkc⟩ := hv.len_le
  unfold isI64 at hfl
  obtain ⟨X, hX⟩ : ∃ X, X = cutL keep (filesV D) 0 D 0 := ⟨_, rfl⟩
  have hff : ∀ f ∈ filesV D, 0 ≤ f ∧ f ≤ 63 := fun f h => ((filesV_mem D f).1 h).1
  have hfn := filesV_len D
  refine Ret_startL hs fun w hs => ?_
  refine Ret_of Tryd.func11 rfl Tryd.ntmps11 rfl ?_
  refine W_seq ?_
  refine W_region ?_
  refine s_move rfl rfl ?_
  refine s_callL (M := []) (L1 := L0) (X := []) Tryd.call28 rfl rfl (by simpa using hs) (fun h => files_ok p D L0 w hD h) ?_
  clear hs; rintro v w L' ⟨Lv, rfl, hO⟩ - hs
  simp only [List.nil_append, List.append_nil] at hs
  obtain ⟨_, cv, av, rfl, hvl⟩ := hO.form
  subst hvl
  refine s_assign rfl rfl ?_
  refine WL_nil ?_
  refine n_then ?_
  refine W_seq ?_
  refine W_region ?_
  refine s_assign rfl rfl ?_
  refine WL_nil ?_
  refine n_then ?_
  refine W_seq ?_
  refine W_seq ?_
  refine W_region ?_
  refine s_move rfl rfl ?_
  refine s_len rfl rfl (LN22 _ _ _ _) ?_
  refine s_move rfl rfl ?_
  refine WL_nil ?_
  refine n_then ?_
  refine W_block ?_
  refine W_loop (σ := CrS) (fun s => [(0, .pointer (some ⟨p, 0, none⟩)), (1, .slice ka keep.length kc), (2, .int .i64 flip), (6, .slice av (filesV D).length cv), (7, .int .i64 (8 * (s.n : Int))), (17, .slice av (filesV D).length cv), (18, .int .i64 ((filesV D).length : Int)), (19, .int .i64 (s.i : Int))]) (fun s w => St (ids L0) w0 w (Lv ++ s.L) ∧ DiskAt p s.E s.L ∧ s.i ≤ (filesV D).length ∧ s.n ≤ s.i * 16777216 ∧ cutL keep ((filesV D).drop s.i) s.i s.E s.n = X) (fun s => (filesV D).length - s.i) ⟨0, 0, D, L0⟩ ⟨rfl, rfl, rfl, rfl, rfl, rfl, rfl, rfl, trivial⟩ ⟨hs, hD, Nat.zero_le _, Nat.zero_le _, by rw [hX]; rfl⟩ ?_
  clear hs
  rintro ⟨i, bn, E, LE⟩ w ⟨hs, hDE, hi, hbn, hcut⟩
  simp only at hs hDE hi hbn hcut ⊢
  have hi64 : i * 16777216 ≤ 64 * 16777216 := Nat.mul_le_mul_right _ (by omega)
  refine W_seq ?_
  refine W_region ?_
  refine s_lss rfl rfl rfl ?_
  refine WL_nil ?_
  refine n_then ?_
  refine W_seq ?_
  refine W_cond rfl (fun hc20 => ?_) (fun hc20 => ?_)
  · skip
    try simp only [decide_eq_true_eq, decide_eq_false_iff_not, gt_iff_lt] at hc20
    have hil : i < (filesV D).length := by omega
    obtain ⟨f, hfi⟩ : ∃ f, (filesV D)[i]? = some f := ⟨_, List.getElem?_eq_getElem hil⟩
    have hfm := hff f (List.mem_of_getElem? hfi)
    have hdrop : (filesV D).drop i = f :: (filesV D).drop (i + 1) := by
      rw [List.drop_eq_getElem_cons hil]; congr 1; rw [List.getElem?_eq_getElem hil] at hfi; exact Option.some.inj hfi
    rw [hdrop, cutL] at hcut
    obtain ⟨b1, o1, hA1, hc1⟩ := (OwnS_slIn hO (w := w) fun p hp => hs.own p (by simp [hp])).at (k := i) (u := .int .i64 f) (by rw [List.getElem?_map, hfi]; rfl)
    obtain ⟨m1, q1, v1, Lf1, R1, es1, hP1⟩ := disk_open hDE f
    have hM1 := hP1.map
    have hlk1 := hP1.look
    have hO1 := hP1.own
    have hdur := hP1.dur
    have hlt := len_le_total E hfm
    have hgd := hP1.good.1
    have hkle := keptV_le keep i ((E.c f).length - E.d f)
    obtain ⟨_, c1, a1, rfl, h1l⟩ := hO1.form
    subst h1l
    have hcap1 : (E.c f).length ≤ c1 := by obtain ⟨a9, c9, h8, h9⟩ := (OwnS_slIn hO1 (w := w) fun p hp => hs.own p (List.mem_append_right _ (hP1.perm.mem_iff.2 (by simp [hp])))).len_le; cases h8; exact h9
    replace hs := (hs.perm (hP1.perm.append_left Lv)).swap
    unfold dkCells at hs
    simp only [List.cons_append, List.append_assoc] at hs
    refine W_skip ?_
    refine n_then ?_
    refine W_seq ?_
    refine W_block ?_
    refine W_seq ?_
    refine W_region ?_
    refine s_move rfl rfl ?_
    (refine s_indexAddrO El22 rfl rfl rfl hA1 ?hx ?_; case hx => (constructor <;> omega))
    refine s_load Tryd.isAgg3 rfl rfl (by rw [Int.toNat_natCast]; exact hc1) ?_
    refine s_assign rfl rfl ?_
    refine s_assign rfl rfl ?_
    refine WL_nil ?_
    refine n_then ?_
    refine W_seq ?_
    refine W_region ?_
    refine s_assign rfl rfl ?_
    refine WL_nil ?_
    refine n_then ?_
    refine W_seq ?_
    refine W_region ?_
    refine s_move rfl rfl ?_
    refine s_nilCheck rfl rfl ?_
    refine s_fieldAddr rfl rfl (FA60_2 _ _) ?_
    first
      | refine s_load Tryd.isAgg58 rfl rfl (hs.cell (k := 0) rfl rfl) ?_
      | refine s_load Tryd.isAgg58 rfl rfl (hs.cell (k := 1) rfl rfl) ?_
      | refine s_load Tryd.isAgg58 rfl rfl (hs.cell (k := 2) rfl rfl) ?_
    refine s_move rfl rfl ?_
    refine s_lookupI Tryd.underlying58 Tryd.underlying3 ZV70 rfl rfl rfl hs (kk := 1) rfl hM1 ?_
    rw [hlk1]
    refine s_alloc rfl AL70 hs ?_; clear hs; intro b11 w hs
    first
      | refine s_storeW Tryd.sizeOf70 rfl rfl rfl rfl hs (kk := 0) rfl rfl ?_
      | refine s_storeW Tryd.sizeOf70 rfl rfl rfl rfl hs (kk := 1) rfl rfl ?_
      | refine s_storeW Tryd.sizeOf70 rfl rfl rfl rfl hs (kk := 2) rfl rfl ?_
      | refine s_storeAB Tryd.sizeOf70 rfl rfl rfl rfl hs (kk := 0) rfl rfl ?_
      | refine s_storeAB Tryd.sizeOf70 rfl rfl rfl rfl hs (kk := 1) rfl rfl ?_
      | refine s_storeAB Tryd.sizeOf70 rfl rfl rfl rfl hs (kk := 2) rfl rfl ?_
    clear hs; intro w hs; try simp only [List.set_cons_zero, List.set_cons_succ, splice, List.take_succ_cons, List.take_zero, List.drop_succ_cons, List.drop_zero, List.nil_append, List.cons_append, List.length_cons, List.length_nil, Nat.reduceAdd, List.append_assoc] at hs
    refine WL_nil ?_
    refine n_then ?_
    refine W_cut (σ := Unit) (fun _ => [(0, .pointer (some ⟨p, 0, none⟩)), (1, .slice ka keep.length kc), (2, .int .i64 flip), (6, .slice av (filesV D).length cv), (7, .int .i64 (8 * (bn : Int))), (9, .int .i64 f), (10, .int .i64 ((keptV keep i ((E.c f).length - E.d f) : Nat) : Int)), (11, .pointer (some ⟨b11, 0, none⟩)), (17, .slice av (filesV D).length cv), (18, .int .i64 ((filesV D).length : Int)), (19, .int .i64 (i : Int))]) (fun _ w => St (ids L0) w0 w ((b11, Blk 70 [.slice a1 (E.c f).length c1, .int .i64 (E.d f : Int)]) :: (p, Blk 60 [.int .i64 E.room, .int .i64 (total E.c : Int), .map (some m1), .bool E.off, .bool E.armed, .int .i64 E.left]) :: (m1, q1) :: (Lf1 ++ (R1 ++ Lv)))) ?_ ?_
    · skip
      refine W_seq ?_
      refine W_region ?_
      refine s_move rfl rfl ?_
      refine s_move rfl rfl ?_
      refine s_len rfl rfl (LN22 _ _ _ _) ?_
      refine s_lss rfl rfl rfl ?_
      refine WL_nil ?_
      refine n_then ?_
      refine W_cond rfl (fun hc33 => ?_) (fun hc33 => ?_)
      · skip
        try simp only [decide_eq_true_eq, decide_eq_false_iff_not, gt_iff_lt] at hc33
        have hik : i < keep.length := by omega
        obtain ⟨z, hz⟩ : ∃ z, keep[i]? = some z := ⟨_, List.getElem?_eq_getElem hik⟩
        have hke := kept_eq (room := (E.c f).length - E.d f) hz
        refine W_draw [(0, true, []), (1, true, []), (2, true, []), (3, true, []), (4, true, []), (5, true, []), (6, true, []), (7, true, []), (8, true, []), (9, true, []), (10, true, []), (11, true, []), (12, true, [])] [[], [], [0, 1], [0, 1, 2], [0, 1, 2, 3], [], [5], [5, 6], [], [8], [5, 6, 7, 8, 9], [0, 1, 2, 3, 4, 5, 6, 7, 8, 9, 10], [0, 1, 2, 3, 4, 5, 6, 7, 8, 9, 10, 11]] MX (by kernel_rfl) ?_
        intro w1 hw1 hw2 hw3 hw4; replace hs := hs.redrawn hw1 hw2 hw3 hw4; clear hw1 hw2 hw3 hw4
        obtain ⟨w, rfl⟩ : ∃ w : World, w = w1 := ⟨_, rfl⟩
        refine D_q rfl rfl ?_
        refine s_move rfl rfl ?_
        refine D_qn ?_
        refine D_q rfl rfl ?_
        refine s_move rfl rfl ?_
        refine D_qn ?_
        refine D_q rfl rfl ?_
        obtain ⟨b2, o2, hA2, hc2⟩ := (hv.fwd hs.fwd hap).at (k := i) (u := .int .i64 z) (by rw [List.getElem?_map, hz]; rfl)
        (refine s_indexAddrO El22 rfl rfl rfl hA2 ?hx ?_; case hx => (constructor <;> omega))
        refine D_qn ?_
        refine D_q rfl rfl ?_
        refine s_load Tryd.isAgg3 rfl rfl (by rw [Int.toNat_natCast]; exact hc2) ?_
        refine D_qn ?_
        refine D_q rfl rfl ?_
        refine s_max rfl rfl rfl ?_
        refine D_qn ?_
        refine D_q rfl rfl ?_
        refine s_fieldAddr rfl rfl (FA70_0 _ _) ?_
        refine D_qn ?_
        refine D_q rfl rfl ?_
        first
          | refine s_load Tryd.isAgg35 rfl rfl (hs.cell (k := 0) rfl rfl) ?_
          | refine s_load Tryd.isAgg35 rfl rfl (hs.cell (k := 1) rfl rfl) ?_
          | refine s_load Tryd.isAgg35 rfl rfl (hs.cell (k := 2) rfl rfl) ?_
        refine D_qn ?_
        refine D_q rfl rfl ?_
        refine s_len rfl rfl (LN35 _ _ _ _) ?_
        refine D_qn ?_
        refine D_q rfl rfl ?_
        refine s_fieldAddr rfl rfl (FA70_1 _ _) ?_
        refine D_qn ?_
        refine D_q rfl rfl ?_
        first
          | refine s_load Tryd.isAgg3 rfl rfl (hs.cell (k := 0) rfl rfl) ?_
          | refine s_load Tryd.isAgg3 rfl rfl (hs.cell (k := 1) rfl rfl) ?_
          | refine s_load Tryd.isAgg3 rfl rfl (hs.cell (k := 2) rfl rfl) ?_
        refine D_qn ?_
        refine D_q rfl rfl ?_
        (refine s_sub' rfl rfl rfl ?hx ?_; case hx => (constructor <;> omega))
        rw [show ((E.c f).length : Int) - (E.d f : Int) = (((E.c f).length - E.d f : Nat) : Int) by omega]
        refine D_qn ?_
        refine D_q rfl rfl ?_
        refine s_min rfl rfl rfl ?_
        rw [hke]
        refine D_qn ?_
        refine D_q rfl rfl ?_
        refine s_assign rfl rfl ?_
        refine D_qn ?_
        refine D_nil ?_
        refine n_loop ?_
        first
          | exact ⟨(), ⟨rfl, rfl, rfl, rfl, rfl, rfl, rfl, rfl, rfl, rfl, rfl, trivial⟩, hs⟩
          | (have hk0 : keptV keep i ((E.c f).length - E.d f) = 0 := by rw [keptV, if_neg (by omega)]
             rw [hk0]
             exact ⟨(), ⟨rfl, rfl, rfl, rfl, rfl, rfl, rfl, rfl, rfl, rfl, rfl, trivial⟩, hs⟩)
      · skip
        try simp only [decide_eq_true_eq, decide_eq_false_iff_not, gt_iff_lt] at hc33
        refine W_skip ?_
        refine n_loop ?_
        first
          | exact ⟨(), ⟨rfl, rfl, rfl, rfl, rfl, rfl, rfl, rfl, rfl, rfl, rfl, trivial⟩, hs⟩
          | (have hk0 : keptV keep i ((E.c f).length - E.d f) = 0 := by rw [keptV, if_neg (by omega)]
             rw [hk0]
             exact ⟨(), ⟨rfl, rfl, rfl, rfl, rfl, rfl, rfl, rfl, rfl, rfl, rfl, trivial⟩, hs⟩)
    · skip
      clear hs
      rintro - w hs
      generalize hkq : keptV keep i ((E.c f).length - E.d f) = kq at hcut hkle
      refine W_seq ?_
      refine W_region ?_
      refine s_move rfl rfl ?_
      refine s_move rfl rfl ?_
      first | (refine s_mul' rfl rfl rfl ?hx ?_; case hx => (constructor <;> first | omega | (simp only; omega))) | refine s_mul rfl rfl rfl ?_
      (refine s_add' rfl rfl rfl ?hx ?_; case hx => (constructor <;> omega))
      rw [show (8 : Int) * (bn : Int) + (kq : Int) * 8 = 8 * ((bn + kq : Nat) : Int) by omega]
      refine s_assign rfl rfl ?_
      refine WL_nil ?_
      refine n_then ?_
      refine W_draw [(0, true, []), (1, true, []), (2, true, []), (3, true, []), (4, true, []), (5, true, []), (6, true, []), (7, true, []), (8, true, []), (9, true, []), (10, true, []), (11, true, []), (12, false, [])] [[], [], [], [2], [], [4], [], [4, 5, 6], [2, 3, 4, 5, 6, 7], [], [9], [2, 3, 4, 5, 6, 7, 8, 9, 10], [0, 1, 2, 3, 4, 5, 6, 7, 8, 9, 10, 11]] MX (by kernel_rfl) ?_
      intro w1 hw1 hw2 hw3 hw4; replace hs := hs.redrawn hw1 hw2 hw3 hw4; clear hw1 hw2 hw3 hw4
      obtain ⟨w, rfl⟩ : ∃ w : World, w = w1 := ⟨_, rfl⟩
      refine D_q rfl rfl ?_
      refine s_move rfl rfl ?_
      refine D_qn ?_
      refine D_q rfl rfl ?_
      refine s_move rfl rfl ?_
      refine D_qn ?_
      refine D_q rfl rfl ?_
      refine s_fieldAddr rfl rfl (FA70_0 _ _) ?_
      refine D_qn ?_
      refine D_q rfl rfl ?_
      first
        | refine s_load Tryd.isAgg35 rfl rfl (hs.cell (k := 0) rfl rfl) ?_
        | refine s_load Tryd.isAgg35 rfl rfl (hs.cell (k := 1) rfl rfl) ?_
        | refine s_load Tryd.isAgg35 rfl rfl (hs.cell (k := 2) rfl rfl) ?_
      refine D_qn ?_
      refine D_q rfl rfl ?_
      refine s_fieldAddr rfl rfl (FA70_1 _ _) ?_
      refine D_qn ?_
      refine D_q rfl rfl ?_
      first
        | refine s_load Tryd.isAgg3 rfl rfl (hs.cell (k := 0) rfl rfl) ?_
        | refine s_load Tryd.isAgg3 rfl rfl (hs.cell (k := 1) rfl rfl) ?_
        | refine s_load Tryd.isAgg3 rfl rfl (hs.cell (k := 2) rfl rfl) ?_
      refine D_qn ?_
      refine D_q rfl rfl ?_
      refine s_move rfl rfl ?_
      refine D_qn ?_
      refine D_q rfl rfl ?_
      (refine s_add' rfl rfl rfl ?hx ?_; case hx => (constructor <;> omega))
      rw [show (E.d f : Int) + (kq : Int) = ((E.d f + kq : Nat) : Int) by omega]
      refine D_qn ?_
      refine D_q rfl rfl ?_
      (refine s_slice_hi El35 rfl rfl rfl ?hx ?_; case hx => (constructor <;> omega))
      rw [Int.toNat_natCast]
      refine D_qn ?_
      refine D_q rfl rfl ?_
      refine s_fieldAddr rfl rfl (FA70_1 _ _) ?_
      refine D_qn ?_
      refine D_q rfl rfl ?_
      first
        | refine s_load Tryd.isAgg3 rfl rfl (hs.cell (k := 0) rfl rfl) ?_
        | refine s_load Tryd.isAgg3 rfl rfl (hs.cell (k := 1) rfl rfl) ?_
        | refine s_load Tryd.isAgg3 rfl rfl (hs.cell (k := 2) rfl rfl) ?_
      refine D_qn ?_
      refine D_q rfl rfl ?_
      refine s_build rfl rfl (BD70_0_1 _ _ _ _) ?_
      refine D_qn ?_
      refine D_e rfl ?_
      refine s_callL (M := [_]) (L1 := [_, _]) (X := Lf1 ++ (R1 ++ Lv)) Tryd.call29 rfl rfl hs (fun h => put_ok p m1 q1 es1 E.room (total E.c : Int) E.left f E.off E.armed a1 a1 (E.d f + kq) c1 _ c1 (E.d f : Int) (E.d f : Int) w hM1 hlk1 (by refine ⟨?_, ?_, ?_, ?_⟩ <;> omega) h) ?_
      clear hs; rintro v9 w L9 ⟨o', rfl, hM'⟩ - hs
      simp only [List.nil_append, List.cons_append] at hs
      replace hs := hs.tail
      have htl : ((E.c f).take (E.d f + kq)).length = E.d f + kq := by rw [List.length_take]; omega
      have hcut1 := OwnS.cut hO1 (k := E.d f + kq) (by omega)
      rw [Nat.mul_one, ← List.map_take] at hcut1
      have hts := total_set (D := E) (bs := (E.c f).take (E.d f + kq)) (d := E.d f) hfm
      rw [htl] at hts
      have hso := set_ok hP1.good hfm (bs := (E.c f).take (E.d f + kq)) (d := E.d f) (by omega)
      obtain ⟨E2, hE2⟩ : ∃ E2, E2 = E.set f ((E.c f).take (E.d f + kq)) (E.d f) := ⟨_, rfl⟩
      have hE2r : E2.room = E.room ∧ E2.off = E.off ∧ E2.armed = E.armed ∧ E2.left = E.left := by rw [hE2]; exact ⟨rfl, rfl, rfl, rfl⟩
      have htot : (total E2.c : Int) = (total E.c : Int) + (((E.d f + kq : Nat) : Int) - ((E.c f).length : Int)) := by rw [hE2]; omega
      obtain ⟨L2, hfin, hDf⟩ := hP1.back E2 (.slice a1 (E.d f + kq) c1) ((E.c f).take (E.d f + kq)) (E.d f) Lf1 o' (by rw [htl]; exact hcut1) hfm (by rw [htl]; omega) (fun b hb => hP1.byt b (List.mem_of_mem_take hb)) (by rw [hE2]) (by rw [hE2]) (by rw [hE2]; exact hso) (by rw [htl]; exact hM') (ids L0) w0 w Lv (by
        simp only [dkCells, htot, hE2r.1, hE2r.2.1, hE2r.2.2.1, hE2r.2.2.2]
        exact St_last hs)
      rw [← hE2] at hcut
      refine D_en ?re ?_
      case re =>
        exact Reks_nil
      refine D_nil ?_
      refine n_blk ?_
      refine n_then ?_
      refine W_region ?_
      first | (refine s_add' rfl rfl rfl ?hx ?_; case hx => (constructor <;> first | omega | (simp only; omega))) | refine s_add rfl rfl rfl ?_
      refine s_move rfl rfl ?_
      refine WL_nil ?_
      refine n_loop ?_
      refine ⟨⟨i + 1, bn + kq, E2, L2⟩, ⟨rfl, rfl, rfl, rfl, rfl, rfl, rfl, rfl, trivial⟩, ⟨hfin, hDf, hil, ?_, hcut⟩, by simp only; omega⟩
      simp only; omega
  · skip
    try simp only [decide_eq_true_eq, decide_eq_false_iff_not, gt_iff_lt] at hc20
    rw [List.drop_eq_nil_of_le (by omega), cutL] at hcut
    have hX1 : X.1 = E := by rw [← hcut]
    have hX2 : X.2 = bn := by rw [← hcut]
    refine W_exit ?_
    refine x_then ?_
    refine x_then ?_
    refine exit_hit ?_
    refine n_then ?_
    refine W_cut (σ := Cr2) (fun _ => [(0, .pointer (some ⟨p, 0, none⟩))]) (fun s w => St (ids L0) w0 w s.L ∧ DiskAt p s.E s.L ∧ s.E = (if 0 ≤ flip ∧ 0 < X.2 then invL (filesV D) (flip % (8 * (X.2 : Int))) X.1 else X.1)) ?_ ?_
    · skip
      refine W_seq ?_
      refine W_region ?_
      refine s_move rfl rfl ?_
      refine s_geq rfl rfl rfl ?_
      refine s_move rfl rfl ?_
      refine WL_case (s := 66) rfl (fun hg66 => ?_) (fun hg66 => ?_)
      · skip
        try simp only [decide_eq_true_eq, decide_eq_false_iff_not, gt_iff_lt] at hg66
        refine WL_take rfl ?_
        refine s_move rfl rfl ?_
        refine WL_take rfl ?_
        refine s_gtr rfl rfl rfl ?_
        refine s_pick_t rfl rfl rfl ?_
        refine WL_nil ?_
        refine n_then ?_
        refine W_cond rfl (fun hc69 => ?_) (fun hc69 => ?_)
        · skip
          try simp only [decide_eq_true_eq, decide_eq_false_iff_not, gt_iff_lt] at hc69
          refine W_region ?_
          refine s_move rfl rfl ?_
          refine s_move rfl rfl ?_
          refine s_move rfl rfl ?_
          refine s_move rfl rfl ?_
          first | (refine s_rem' rfl rfl rfl ?hx ?_; case hx => (refine ⟨?_, ?_⟩ <;> omega)) | (refine s_rem rfl rfl rfl ?hx ?_; case hx => omega)
          have hmod : 0 ≤ flip % (8 * (bn : Int)) ∧ flip % (8 * (bn : Int)) < 8 * (bn : Int) := ⟨Int.emod_nonneg _ (by omega), Int.emod_lt_of_pos _ (by omega)⟩
          have hsl := OwnS_slIn hO (w := w) fun p hp => hs.own p (by simp [hp])
          refine s_callL (M := Lv) (L1 := LE) (X := []) Tryd.call30 rfl rfl (by simpa using hs) (fun h => invert_ok p E (filesV D) _ _ LE w hDE hsl (fun a m c he hne => by
            cases he
            intro hmem
            have := hs.nodup
            rw [ids_append, List.nodup_append] at this
            exact this.2.2 _ (OwnS_in hO hne) _ hmem rfl) hff hfn ⟨hmod.1, by omega⟩ h) ?_
          clear hs; rintro v9 w L9 hD9 - hs
          simp only [List.append_nil] at hs
          refine WL_nil ?_
          refine n_loop ?_
          first
            | (refine ⟨⟨_, L9⟩, ⟨rfl, trivial⟩, hs.right, hD9, ?_⟩
               rw [if_pos ⟨by omega, by rw [hX2]; omega⟩, hX1, hX2])
            | (refine ⟨⟨E, LE⟩, ⟨rfl, trivial⟩, hs.right, hDE, ?_⟩
               rw [if_neg (by rw [hX2]; omega), hX1])
        · skip
          try simp only [decide_eq_true_eq, decide_eq_false_iff_not, gt_iff_lt] at hc69
          refine W_skip ?_
          refine n_loop ?_
          first
            | (refine ⟨⟨_, L9⟩, ⟨rfl, trivial⟩, hs.right, hD9, ?_⟩
               rw [if_pos ⟨by omega, by rw [hX2]; omega⟩, hX1, hX2])
            | (refine ⟨⟨E, LE⟩, ⟨rfl, trivial⟩, hs.right, hDE, ?_⟩
               rw [if_neg (by rw [hX2]; omega), hX1])
      · skip
        try simp only [decide_eq_true_eq, decide_eq_false_iff_not, gt_iff_lt] at hg66
        refine WL_skip rfl rfl rfl ?_
        refine WL_skip rfl rfl rfl ?_
        refine s_pick_f rfl rfl rfl ?_
        refine WL_nil ?_
        refine n_then ?_
        refine W_cond_f rfl ?_
        refine W_skip ?_
        refine n_loop ?_
        first
          | (refine ⟨⟨_, L9⟩, ⟨rfl, trivial⟩, hs.right, hD9, ?_⟩
             rw [if_pos ⟨by omega, by rw [hX2]; omega⟩, hX1, hX2])
          | (refine ⟨⟨E, LE⟩, ⟨rfl, trivial⟩, hs.right, hDE, ?_⟩
             rw [if_neg (by rw [hX2]; omega), hX1])
    · skip
      clear hs hDE hO
      clear hX1 hX2 hcut hbn hi hi64
      rintro ⟨E2, L2⟩ w ⟨hs, hDE, hE⟩
      simp only at hs hDE hE ⊢
      have hend : ∀ E3 : Dk, E3 = E2.solid → { E3 with off := false, armed := false } = D.crash keep flip := by
        intro E3 h3
        rw [h3, hE, hX]; rfl
      clear hE
      refine W_seq ?_
      refine W_seq ?_
      refine W_region ?_
      refine s_move rfl rfl ?_
      refine s_callL (M := []) (L1 := L2) (X := []) Tryd.call28 rfl rfl (by simpa using hs) (fun h => files_ok p E2 L2 w hDE h) ?_
      clear hs; rintro v w L' ⟨Lv, rfl, hO⟩ - hs
      simp only [List.nil_append, List.append_nil] at hs
      obtain ⟨_, cv, av, rfl, hvl⟩ := hO.form
      subst hvl
      have hfl2 := filesV_len E2
      have hsg := hDE.good
      refine s_len rfl rfl (LN22 _ _ _ _) ?_
      refine s_move rfl rfl ?_
      refine WL_nil ?_
      refine n_then ?_
      refine W_block ?_
      refine W_loop (σ := SyS) (fun s => [(0, .pointer (some ⟨p, 0, none⟩)), (77, .slice av (filesV E2).length cv), (78, .int .i64 ((filesV E2).length : Int)), (79, .int .i64 (s.k : Int))]) (fun s w => St (ids L0) w0 w (Lv ++ s.L) ∧ DiskAt p (E2.firm ((filesV E2).take s.k)) s.L ∧ s.k ≤ (filesV E2).length) (fun s => (filesV E2).length - s.k) ⟨0, L2⟩ ⟨rfl, rfl, rfl, rfl, trivial⟩ ⟨hs, by rw [List.take_zero, firm_nil]; exact hDE, Nat.zero_le _⟩ ?_
      clear hs
      rintro ⟨k, LK⟩ w ⟨hs, hDk, hk⟩
      simp only at hs hDk hk ⊢
      refine W_seq ?_
      refine W_region ?_
      refine s_lss rfl rfl rfl ?_
      refine WL_nil ?_
      refine n_then ?_
      refine W_seq ?_
      refine W_cond rfl (fun hc80 => ?_) (fun hc80 => ?_)
      · skip
        try simp only [decide_eq_true_eq, decide_eq_false_iff_not, gt_iff_lt] at hc80
        have hkl : k < (filesV E2).length := by omega
        obtain ⟨f, hf⟩ : ∃ f, (filesV E2)[k]? = some f := ⟨_, List.getElem?_eq_getElem hkl⟩
        have hfm := (filesV_mem E2 f).1 (List.mem_of_getElem? hf)
        obtain ⟨b1, o1, hA1, hc1⟩ := (OwnS_slIn hO (w := w) fun p hp => hs.own p (by simp [hp])).at (k := k) (u := .int .i64 f) (by rw [List.getElem?_map, hf]; rfl)
        obtain ⟨m1, q1, v1, Lf1, R1, es1, hP1⟩ := disk_open hDk f
        have hM1 := hP1.map
        have hlk1 := hP1.look
        have hO1 := hP1.own
        have hff2 : (E2.firm ((filesV E2).take k)).c f = E2.c f := rfl
        rw [hff2] at hO1
        obtain ⟨_, c1, a1, rfl, h1l⟩ := hO1.form
        subst h1l
        replace hs := (hs.perm (hP1.perm.append_left Lv)).swap
        unfold dkCells at hs
        simp only [List.cons_append, List.append_assoc] at hs
        refine W_skip ?_
        refine n_then ?_
        refine W_seq ?_
        refine W_block ?_
        refine W_seq ?_
        refine W_region ?_
        (refine s_indexAddrO El22 rfl rfl rfl hA1 ?hx ?_; case hx => (constructor <;> omega))
        refine s_load Tryd.isAgg3 rfl rfl (by rw [Int.toNat_natCast]; exact hc1) ?_
        refine s_assign rfl rfl ?_
        refine WL_nil ?_
        refine n_then ?_
        refine W_seq ?_
        refine W_region ?_
        refine s_move rfl rfl ?_
        refine s_nilCheck rfl rfl ?_
        refine s_fieldAddr rfl rfl (FA60_2 _ _) ?_
        first
          | refine s_load Tryd.isAgg58 rfl rfl (hs.cell (k := 0) rfl rfl) ?_
          | refine s_load Tryd.isAgg58 rfl rfl (hs.cell (k := 1) rfl rfl) ?_
          | refine s_load Tryd.isAgg58 rfl rfl (hs.cell (k := 2) rfl rfl) ?_
        refine s_move rfl rfl ?_
        refine s_lookupI Tryd.underlying58 Tryd.underlying3 ZV70 rfl rfl rfl hs (kk := 1) rfl hM1 ?_
        rw [hlk1]
        refine s_alloc rfl AL70 hs ?_; clear hs; intro b14 w hs
        first
          | refine s_storeW Tryd.sizeOf70 rfl rfl rfl rfl hs (kk := 0) rfl rfl ?_
          | refine s_storeW Tryd.sizeOf70 rfl rfl rfl rfl hs (kk := 1) rfl rfl ?_
          | refine s_storeW Tryd.sizeOf70 rfl rfl rfl rfl hs (kk := 2) rfl rfl ?_
          | refine s_storeAB Tryd.sizeOf70 rfl rfl rfl rfl hs (kk := 0) rfl rfl ?_
          | refine s_storeAB Tryd.sizeOf70 rfl rfl rfl rfl hs (kk := 1) rfl rfl ?_
          | refine s_storeAB Tryd.sizeOf70 rfl rfl rfl rfl hs (kk := 2) rfl rfl ?_
        clear hs; intro w hs; try simp only [List.set_cons_zero, List.set_cons_succ, splice, List.take_succ_cons, List.take_zero, List.drop_succ_cons, List.drop_zero, List.nil_append, List.cons_append, List.length_cons, List.length_nil, Nat.reduceAdd, List.append_assoc] at hs
        refine WL_nil ?_
        refine n_then ?_
        refine W_seq ?_
        refine W_region ?_
        refine s_fieldAddr rfl rfl (FA70_0 _ _) ?_
        first
          | refine s_load Tryd.isAgg35 rfl rfl (hs.cell (k := 0) rfl rfl) ?_
          | refine s_load Tryd.isAgg35 rfl rfl (hs.cell (k := 1) rfl rfl) ?_
          | refine s_load Tryd.isAgg35 rfl rfl (hs.cell (k := 2) rfl rfl) ?_
        refine s_len rfl rfl (LN35 _ _ _ _) ?_
        refine s_fieldAddr rfl rfl (FA70_1 _ _) ?_
        first
          | refine s_storeB Tryd.sizeOf3 rfl rfl rfl hs (kk := 0) rfl rfl ?_
          | refine s_storeB Tryd.sizeOf3 rfl rfl rfl hs (kk := 1) rfl rfl ?_
          | refine s_storeB Tryd.sizeOf3 rfl rfl rfl hs (kk := 2) rfl rfl ?_
        clear hs; intro w hs; try simp only [List.set_cons_zero, List.set_cons_succ, splice, List.take_succ_cons, List.take_zero, List.drop_succ_cons, List.drop_zero, List.nil_append, List.cons_append, List.length_cons, List.length_nil, Nat.reduceAdd, List.append_assoc] at hs
        refine WL_nil ?_
        refine n_then ?_
        refine W_draw [(0, true, []), (1, true, []), (2, true, []), (3, true, []), (4, true, []), (5, true, []), (6, false, [])] [[], [0], [0, 1], [0, 1, 2], [], [], [0, 1, 2, 3, 4, 5]] MX (by kernel_rfl) ?_
        intro w1 hw1 hw2 hw3 hw4; replace hs := hs.redrawn hw1 hw2 hw3 hw4; clear hw1 hw2 hw3 hw4
        obtain ⟨w, rfl⟩ : ∃ w : World, w = w1 := ⟨_, rfl⟩
        refine D_q rfl rfl ?_
        refine s_move rfl rfl ?_
        refine D_qn ?_
        refine D_q rfl rfl ?_
        refine s_nilCheck rfl rfl ?_
        refine D_qn ?_
        refine D_q rfl rfl ?_
        refine s_fieldAddr rfl rfl (FA60_2 _ _) ?_
        refine D_qn ?_
        refine D_q rfl rfl ?_
        first
          | refine s_load Tryd.isAgg58 rfl rfl (hs.cell (k := 0) rfl rfl) ?_
          | refine s_load Tryd.isAgg58 rfl rfl (hs.cell (k := 1) rfl rfl) ?_
          | refine s_load Tryd.isAgg58 rfl rfl (hs.cell (k := 2) rfl rfl) ?_
        refine D_qn ?_
        refine D_q rfl rfl ?_
        refine s_move rfl rfl ?_
        refine D_qn ?_
        refine D_q rfl rfl ?_
        first
          | refine s_loadW Tryd.isAgg70 Tryd.sizeOf70 rfl rfl hs (kk := 0) rfl rfl ?_
          | refine s_loadW Tryd.isAgg70 Tryd.sizeOf70 rfl rfl hs (kk := 1) rfl rfl ?_
          | refine s_loadW Tryd.isAgg70 Tryd.sizeOf70 rfl rfl hs (kk := 2) rfl rfl ?_
          | refine s_load_2 Tryd.isAgg70 Tryd.sizeOf70 rfl rfl (by first | exact hs.cell (k := 0) rfl rfl | exact hs.cell (k := 1) rfl rfl | exact hs.cell (k := 2) rfl rfl) (by first | exact hs.cell (k := 0) rfl rfl | exact hs.cell (k := 1) rfl rfl | exact hs.cell (k := 2) rfl rfl) ?_
        refine D_qn ?_
        refine D_e rfl ?_
        refine s_mapUpdateI Tryd.underlying58 Tryd.underlying3 rfl rfl rfl hs (kk := 2) rfl hM1 ?_
        clear hs; intro w o' hM' hs
        try simp only [List.set_cons_succ, List.set_cons_zero] at hs
        refine D_en ?re ?_
        case re =>
          exact Reks_nil
        refine D_nil ?_
        refine n_blk ?_
        refine n_then ?_
        refine W_region ?_
        first | (refine s_add' rfl rfl rfl ?hx ?_; case hx => (constructor <;> first | omega | (simp only; omega))) | refine s_add rfl rfl rfl ?_
        refine s_move rfl rfl ?_
        refine WL_nil ?_
        refine n_loop ?_
        have hsn := firm_snoc E2 ((filesV E2).take k) f
        have htk : (filesV E2).take (k + 1) = (filesV E2).take k ++ [f] := by rw [List.take_add_one, hf]; rfl
        obtain ⟨L2', hfin, hDf⟩ := hP1.back (E2.firm ((filesV E2).take (k + 1))) (.slice a1 (E2.c f).length c1) (E2.c f) (E2.c f).length Lf1 o' hO1 hfm.1 (Nat.le_refl _) hP1.byt (by rw [htk]; exact hsn.1) (by rw [htk]; exact hsn.2) hsg (by rw [if_neg (by have := List.length_pos_iff.2 hfm.2; omega)]; exact hM') _ _ w Lv (by
          have h1 := hs.tail
          have : St (ids L0) w0 w ((((p, Blk 60 (dkCells (E2.firm ((filesV E2).take (k + 1))) m1)) :: (m1, o') :: (Lf1 ++ R1)) ++ Lv)) := by simp only [dkCells, List.cons_append, List.append_assoc]; exact h1
          exact this.swap)
        exact ⟨⟨k + 1, L2'⟩, ⟨rfl, rfl, rfl, rfl, trivial⟩, ⟨hfin, hDf, by simp only; omega⟩, by simp only; omega⟩
      · skip
        try simp only [decide_eq_true_eq, decide_eq_false_iff_not, gt_iff_lt] at hc80
        rw [List.take_of_length_le (by omega), firm_all hDE] at hDk
        replace hs := hs.right
        obtain ⟨m1, q1, v1, Lf1, R1, es1, hP1⟩ := disk_open hDk 0
        replace hs := hs.perm hP1.perm
        unfold dkCells at hs
        refine W_exit ?_
        refine x_then ?_
        refine x_then ?_
        refine exit_hit ?_
        refine n_then ?_
        refine W_region ?_
        refine s_move rfl rfl ?_
        refine s_move rfl rfl ?_
        refine s_nilCheck rfl rfl ?_
        refine s_fieldAddr rfl rfl (FA60_3 _ _) ?_
        first
          | refine s_storeB Tryd.sizeOf4 rfl rfl rfl hs (kk := 0) rfl rfl ?_
          | refine s_storeB Tryd.sizeOf4 rfl rfl rfl hs (kk := 1) rfl rfl ?_
          | refine s_storeB Tryd.sizeOf4 rfl rfl rfl hs (kk := 2) rfl rfl ?_
        clear hs; intro w hs; try simp only [List.set_cons_zero, List.set_cons_succ, splice, List.take_succ_cons, List.take_zero, List.drop_succ_cons, List.drop_zero, List.nil_append, List.cons_append, List.length_cons, List.length_nil, Nat.reduceAdd, List.append_assoc] at hs
        refine s_nilCheck rfl rfl ?_
        refine s_fieldAddr rfl rfl (FA60_4 _ _) ?_
        first
          | refine s_storeB Tryd.sizeOf4 rfl rfl rfl hs (kk := 0) rfl rfl ?_
          | refine s_storeB Tryd.sizeOf4 rfl rfl rfl hs (kk := 1) rfl rfl ?_
          | refine s_storeB Tryd.sizeOf4 rfl rfl rfl hs (kk := 2) rfl rfl ?_
        clear hs; intro w hs; try simp only [List.set_cons_zero, List.set_cons_succ, splice, List.take_succ_cons, List.take_zero, List.drop_succ_cons, List.drop_zero, List.nil_append, List.cons_append, List.length_cons, List.length_nil, Nat.reduceAdd, List.append_assoc] at hs
        refine WL_nil ?_
        obtain ⟨L3, hfin, hDf⟩ := hP1.same { E2.solid with off := false, armed := false } rfl rfl ⟨hP1.good.1, fun h => by cases h⟩ _ _ w [] hs
        rw [hend E2.solid rfl] at hDf
        exact end0' rfl ⟨_, hfin, hDf⟩
end Go.Proofs.YtgppcfgnhahnaaaDoor
