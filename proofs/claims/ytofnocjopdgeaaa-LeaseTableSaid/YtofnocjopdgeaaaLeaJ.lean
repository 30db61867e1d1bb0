/- LeaseTable. -/
import Derived.Test.YtofnocjopdgeaaaLeaI
set_option linter.unusedVariables false
set_option linter.unusedSimpArgs false
namespace Go.Proofs.Ytofnocjopdgeaaa
open Go.SL
/-- the entry of a round -/
structure LS where
  g : Bool
  x : Lz
  v : Value
  bs : List Int
  Lv : Hp
  tk : Int
abbrev LS.cells (S : LS) : List Value := [.bool S.g, .string S.x.rule, .int .i64 S.x.holder, .int .i64 S.x.token, .int .i64 S.x.til, S.v]
abbrev rulesB : Obj := Blk 9 [.string ⟨#[104, 111, 116]⟩, .string ⟨#[99, 111, 108, 100]⟩, .string ⟨#[97]⟩]
structure TS where
  i : Nat
  f : ByteArray → Option Lz
  cs : List Cmd
  ks : List RCmd
  LT : Hp
  LR : Hp
def TokB (f : ByteArray → Option Lz) : Prop := ∀ s y, f s = some y → 0 ≤ y.token ∧ y.token ≤ 1073741824
theorem TokB.apply {f : ByteArray → Option Lz} (h : TokB f) (g : Bool) (x : Lz) (n : Nat) (t : Int) : TokB (applyF f g x n t) := by
  intro s y hy
  unfold applyF at hy
  split at hy
  · rename_i hE
    simp only at hy
    by_cases hs : s = x.rule
    · rw [if_pos hs] at hy
      cases hy
      have hv : validP g x n := by
        by_cases hv : validP g x n
        · exact hv
        · have := applyE_bad (f := f) (t := t) (.inl hv : ¬ validP g x n ∨ ¬ (0 ≤ t ∧ t ≤ 1048576)); omega
      exact ⟨by have := hv.2.2.1; omega, hv.2.2.1.2⟩
    · rw [if_neg hs] at hy; exact h s y hy
  · exact h s y hy
theorem bs_apply {A : Int} {g : Bool} {bs : List Int} {cs cs' : List Cmd} {ks ks' : List RCmd} (h : cs.map (·.bs) = ks.map (·.bs)) (h1 : ¬ (A = 0 ∧ g = false) → cs' = cs) (h2 : A = 0 ∧ g = false → ∃ c : Cmd, c.bs = bs ∧ cs' = cs ++ [c])
    (h3 : ¬ (A = 0 ∧ g = false) → ks' = ks) (h4 : A = 0 ∧ g = false → ∃ c : RCmd, c.bs = bs ∧ ks' = ks ++ [c]) : cs'.map (·.bs) = ks'.map (·.bs) := by
  by_cases hc : A = 0 ∧ g = false
  · obtain ⟨c, hb, rfl⟩ := h2 hc
    obtain ⟨d, hd, rfl⟩ := h4 hc
    simp [h, hb, hd]
  · rw [h1 hc, h3 hc, h]
theorem slNil (w : World) : Sl w (.slice none 0 0) ([] : List Int).length (u8s []) := ⟨none, 0, rfl, Nat.le_refl _, .inl rfl⟩
set_option maxHeartbeats 8000000 in
theorem leaseTable_ok (v u : Value) (xs ts : List Int) (at_ n : Int) (s : ByteArray) (w0 : World) (hv : Sl w0 v xs.length (i64s xs)) (hx : ∀ z ∈ xs, isI64 z) (hu : Sl w0 u ts.length (i64s ts)) (hxt : ∀ z ∈ ts, isI64 z) (hat : isI64 at_) :
    Ret Try.prog 3 [v, u, .int .i64 at_, .int .i64 n, .string s].toArray w0 fun r w' => Fwd [] w0 w' ∧ r = .bool true := by
  obtain ⟨a, c, rfl, hac⟩ := hv.len_le
  obtain ⟨ua, uc, rfl, huc⟩ := hu.len_le
  refine Ret_start fun w hs => ?_
  refine Ret_of Try.func3 rfl Try.ntmps3 rfl ?_
  refine W_seq ?_
  refine W_region ?_
  refine s_assign rfl rfl ?_
  refine WL_nil ?_
  refine n_then ?_
  refine W_seq ?_
  refine W_region ?_
  refine s_call Try.call9 rfl rfl (new_ok w) ?_
  rintro r w ⟨p, LT, rfl, hT, hst⟩
  replace hs := St.back0 hs hst
  simp only [List.append_nil] at hs
  clear hst
  refine s_assign rfl rfl ?_
  refine WL_nil ?_
  refine n_then ?_
  refine W_seq ?_
  refine W_region ?_
  refine s_build rfl rfl (BD29_ ) ?_
  first | refine s_box rfl rfl hs ?_ | refine s_box1 rfl rfl rfl hs ?_
  clear hs; intro b31 w hs
  refine s_assign rfl rfl ?_
  refine WL_nil ?_
  refine n_then ?_
  refine W_seq ?_
  refine W_seq ?_
  refine W_region ?_
  refine s_move rfl rfl ?_
  refine s_eql_ptr_nil Try.underlying23 rfl rfl rfl ?_
  refine WL_nil ?_
  refine n_then ?_
  refine W_cond_kf rfl (rfl) ?_
  refine W_skip ?_
  refine n_then ?_
  refine W_seq ?_
  refine W_region ?_
  refine s_buildSlice rfl rfl (BS30_3 _ _ _) hs ?_; clear hs; intro b34 w hs
  refine s_assign rfl rfl ?_
  refine WL_nil ?_
  refine n_then ?_
  refine W_seq ?_
  refine W_seq ?_
  refine W_region ?_
  refine s_assign rfl rfl ?_
  refine WL_nil ?_
  refine n_then ?_
  refine W_block ?_
  replace hs : St [] w0 w ((b34, rulesB) :: (LT ++ [(b31, Blk 29 [.slice none 0 0, .slice none 0 0])])) := by simpa [cat] using St.reord [[_], [_], LT] [0, 2, 1] [] (by simpa [cat] using hs) rfl
  refine W_loop (σ := TS) (fun S => [(0, .slice a xs.length c), (1, .slice ua ts.length uc), (2, .int .i64 at_), (3, .int .i64 n), (4, .string s), (11, .pointer (some ⟨p, 0, none⟩)), (12, .pointer (some ⟨b31, 0, none⟩)), (13, .slice (some ⟨b34, 0, none⟩) 3 3), (14, .int .i64 (S.i : Int))])
    (fun S w => St [] w0 w ((b34, rulesB) :: (S.LT ++ S.LR)) ∧ TabAt p S.f S.cs S.LT ∧ RTab b31 S.f S.ks S.i S.LR ∧ S.cs.map (·.bs) = S.ks.map (·.bs) ∧ TokB S.f ∧ S.i ≤ 16) (fun S => 16 - S.i) ⟨0, fun _ => none, [], [], LT, [(b31, Blk 29 [.slice none 0 0, .slice none 0 0])]⟩ ⟨rfl, rfl, rfl, rfl, rfl, rfl, rfl, rfl, rfl, trivial⟩
    ⟨hs, hT, ⟨[], _, _, [], [], rfl, rfl, OwnS.nil _ _, OwnS.nil _ _, by simp, by simp, by simp, by simp⟩, rfl, fun s y h => by simp at h, Nat.zero_le _⟩ ?_
  clear hs hT LT
  rintro ⟨i, f, cs, ks, LT, LR⟩ w ⟨hs, hT, hR, hbs, hB, hi⟩
  simp only at hs hT hR hbs hB hi ⊢
  refine W_seq ?_
  refine W_seq ?_
  refine W_region ?_
  refine s_move rfl rfl ?_
  refine s_move rfl rfl ?_
  refine s_len rfl rfl (LN22 _ _ _ _) ?_
  refine s_lss rfl rfl rfl ?_
  refine s_move rfl rfl ?_
  refine WL_case (s := 39) rfl (fun hg39 => ?_) (fun hg39 => ?_)
  · skip
    try simp only [decide_eq_true_eq, decide_eq_false_iff_not, beq_iff_eq, beq_eq_false_iff_ne, ne_eq, bne_iff_ne, bne_eq_false_iff_eq, Bool.not_eq_true', Bool.not_eq_false'] at hg39
    refine WL_take rfl ?_
    refine s_move rfl rfl ?_
    refine WL_take rfl ?_
    refine s_lss rfl rfl rfl ?_
    refine s_pick_t rfl rfl rfl ?_
    refine WL_nil ?_
    refine n_then ?_
    refine W_cond rfl (fun hc42 => ?_) (fun hc42 => ?_)
    · skip
      try simp only [decide_eq_true_eq, decide_eq_false_iff_not, beq_iff_eq, beq_eq_false_iff_ne, ne_eq, bne_iff_ne, bne_eq_false_iff_eq, Bool.not_eq_true', Bool.not_eq_false'] at hc42
      have hix : i < xs.length := by omega
      obtain ⟨b1, o1, hA1, hc1⟩ := hv.at (k := i) (i64s_at' hix)
      have hB1 : b1 < w0.heap.size := World.block_lt_of_cell? w0 _ hc1
      have hm : isI64 (xs.getD i 0) := hx _ (by rw [List.getD_eq_getElem?_getD, List.getElem?_eq_getElem hix]; simp)
      generalize xs.getD i 0 = q at hc1 hm
      refine W_skip ?_
      refine n_then ?_
      refine W_seq ?_
      refine W_block ?_
      refine W_seq ?_
      refine W_region ?_
      refine s_move rfl rfl ?_
      refine s_move rfl rfl ?_
      (refine s_indexAddrO El22 rfl rfl rfl hA1 ?hx ?_; case hx => (constructor <;> omega))
      refine s_load Try.isAgg3 rfl rfl ((hs.oldcell (a := ⟨b1, o1 + i, none⟩) hB1 (by simp)).trans hc1) ?_
      refine s_call Try.call10 rfl rfl (around_ok q 1073741824 w (by omega) hm) ?_
      rintro r w1 ⟨hw1, rfl⟩
      rw [hw1]; clear hw1 w1
      have hk := aroundV_range (m := q) (q := 1073741824) (by omega)
      generalize aroundV q 1073741824 = k at hk
      refine s_assign rfl rfl ?_
      refine WL_nil ?_
      refine n_then ?_
      refine W_seq ?_
      refine W_region ?_
      refine s_move rfl rfl ?_
      refine s_move rfl rfl ?_
      refine s_call Try.call11 rfl rfl (pick_ok _ ts i 20 w (hu.fwd0 hs.fwd) hxt (by omega)) ?_
      rintro r w1 ⟨hw1, rfl⟩
      rw [hw1]; clear hw1 w1
      generalize pickV ts i 20 = tk0
      refine s_assign rfl rfl ?_
      refine WL_nil ?_
      refine n_then ?_
      refine W_seq ?_
      refine W_region ?_
      refine s_move rfl rfl ?_
      refine s_call Try.call12 rfl rfl (made_ok k w (by unfold isI64; omega)) ?_
      rintro r w ⟨mv, Lv, rfl, hO, hst⟩
      replace hs := St.back0 hs hst
      clear hst
      replace hs : St [] w0 w ((b34, rulesB) :: (Lv ++ (LT ++ LR))) := by simpa [cat] using St.reord [Lv, [_], LT, LR] [1, 0, 2, 3] [] (by simpa [cat] using hs) rfl
      have hrd := hO.rdS
      obtain ⟨_, mc, ma, rfl, rfl⟩ := hO.form
      have hml : (madeC k).length ≤ 65536 := by unfold madeC; split <;> simp
      refine s_alloc rfl AL37 hs ?_; clear hs; intro b17 w hs
      first
        | refine s_storeW Try.sizeOf37 rfl rfl rfl rfl hs (kk := 0) rfl rfl ?_
        | refine s_storeW Try.sizeOf37 rfl rfl rfl rfl hs (kk := 1) rfl rfl ?_
        | refine s_storeW Try.sizeOf37 rfl rfl rfl rfl hs (kk := 2) rfl rfl ?_
        | refine s_storeW Try.sizeOf37 rfl rfl rfl rfl hs (kk := 3) rfl rfl ?_
        | refine s_storeAB Try.sizeOf37 rfl rfl rfl rfl hs (kk := 0) rfl rfl ?_
        | refine s_storeAB Try.sizeOf37 rfl rfl rfl rfl hs (kk := 1) rfl rfl ?_
        | refine s_storeAB Try.sizeOf37 rfl rfl rfl rfl hs (kk := 2) rfl rfl ?_
        | refine s_storeAB Try.sizeOf37 rfl rfl rfl rfl hs (kk := 3) rfl rfl ?_
      clear hs; intro w hs; try simp only [List.set_cons_zero, List.set_cons_succ, splice, List.take_succ_cons, List.take_zero, List.drop_succ_cons, List.drop_zero, List.nil_append, List.cons_append, List.length_cons, List.length_nil, Nat.reduceAdd, List.append_assoc] at hs
      refine WL_nil ?_
      refine n_then ?_
      refine W_cut (σ := LS) (fun S => [(0, .slice a xs.length c), (1, .slice ua ts.length uc), (2, .int .i64 at_), (3, .int .i64 n), (4, .string s), (11, .pointer (some ⟨p, 0, none⟩)), (12, .pointer (some ⟨b31, 0, none⟩)), (13, .slice (some ⟨b34, 0, none⟩) 3 3), (14, .int .i64 (i : Int)), (15, .int .i64 k), (16, .int .i64 S.tk), (17, .pointer (some ⟨b17, 0, none⟩))])
        (fun S w => St [] w0 w ((b17, Blk 37 S.cells) :: (b34, rulesB) :: (S.Lv ++ (LT ++ LR))) ∧ RdS S.v S.bs.length (u8s S.bs) S.Lv ∧ ∃ a m c, S.v = .slice a m c) ?_ ?_
      · skip
        refine W_seq ?_
        refine W_region ?_
        refine s_move rfl rfl ?_
        first | (refine s_rem' rfl rfl rfl ?hx ?_; case hx => (refine ⟨?_, ?_⟩ <;> omega)) | (refine s_rem rfl rfl rfl ?hx ?_; case hx => omega)
        refine s_eql rfl rfl rfl ?_
        refine WL_nil ?_
        refine n_then ?_
        refine W_cond rfl (fun hc57 => ?_) (fun hc57 => ?_)
        · skip
          try simp only [decide_eq_true_eq, decide_eq_false_iff_not, beq_iff_eq, beq_eq_false_iff_ne, ne_eq, bne_iff_ne, bne_eq_false_iff_eq, Bool.not_eq_true', Bool.not_eq_false'] at hc57
          refine W_seq ?_
          refine W_draw [(0, true, []), (1, true, []), (2, true, []), (3, true, []), (4, false, [0, 1, 2]), (5, false, []), (6, false, [])] MX (by kernel_rfl) ?_
          intro w1 hw1 hw2 hw3 hw4; replace hs := hs.redrawn hw1 hw2 hw3 hw4; clear hw1 hw2 hw3 hw4
          obtain ⟨w, rfl⟩ : ∃ w : World, w = w1 := ⟨_, rfl⟩
          refine D_q rfl rfl ?_
          first
            | refine s_loadW Try.isAgg37 Try.sizeOf37 rfl rfl hs (kk := 0) rfl rfl ?_
            | refine s_loadW Try.isAgg37 Try.sizeOf37 rfl rfl hs (kk := 1) rfl rfl ?_
            | refine s_loadW Try.isAgg37 Try.sizeOf37 rfl rfl hs (kk := 2) rfl rfl ?_
            | refine s_loadW Try.isAgg37 Try.sizeOf37 rfl rfl hs (kk := 3) rfl rfl ?_
            | refine s_load_6 Try.isAgg37 Try.sizeOf37 rfl rfl (by first | exact hs.cell (k := 0) rfl rfl | exact hs.cell (k := 1) rfl rfl | exact hs.cell (k := 2) rfl rfl | exact hs.cell (k := 3) rfl rfl) (by first | exact hs.cell (k := 0) rfl rfl | exact hs.cell (k := 1) rfl rfl | exact hs.cell (k := 2) rfl rfl | exact hs.cell (k := 3) rfl rfl) (by first | exact hs.cell (k := 0) rfl rfl | exact hs.cell (k := 1) rfl rfl | exact hs.cell (k := 2) rfl rfl | exact hs.cell (k := 3) rfl rfl) (by first | exact hs.cell (k := 0) rfl rfl | exact hs.cell (k := 1) rfl rfl | exact hs.cell (k := 2) rfl rfl | exact hs.cell (k := 3) rfl rfl) (by first | exact hs.cell (k := 0) rfl rfl | exact hs.cell (k := 1) rfl rfl | exact hs.cell (k := 2) rfl rfl | exact hs.cell (k := 3) rfl rfl) (by first | exact hs.cell (k := 0) rfl rfl | exact hs.cell (k := 1) rfl rfl | exact hs.cell (k := 2) rfl rfl | exact hs.cell (k := 3) rfl rfl) ?_
          refine D_qn ?_
          refine D_q rfl rfl ?_
          refine s_move rfl rfl ?_
          refine D_qn ?_
          refine D_q rfl rfl ?_
          refine s_move rfl rfl ?_
          refine D_qn ?_
          refine D_q rfl rfl ?_
          refine s_move rfl rfl ?_
          refine D_qn ?_
          refine D_e rfl ?_
          refine s_call Try.call14 rfl rfl (short_ok s 20 w) ?_
          rintro r w1 ⟨hw1, s', rfl, hsz⟩
          rw [hw1]; clear hw1 w1
          refine D_en ?re ?_
          case re =>
            refine Reks_cons rfl rfl rfl rfl ?_ ?_
            · skip
              first
                | refine s_loadW Try.isAgg37 Try.sizeOf37 rfl rfl hs (kk := 0) rfl rfl ?_
                | refine s_loadW Try.isAgg37 Try.sizeOf37 rfl rfl hs (kk := 1) rfl rfl ?_
                | refine s_loadW Try.isAgg37 Try.sizeOf37 rfl rfl hs (kk := 2) rfl rfl ?_
                | refine s_loadW Try.isAgg37 Try.sizeOf37 rfl rfl hs (kk := 3) rfl rfl ?_
                | refine s_load_6 Try.isAgg37 Try.sizeOf37 rfl rfl (by first | exact hs.cell (k := 0) rfl rfl | exact hs.cell (k := 1) rfl rfl | exact hs.cell (k := 2) rfl rfl | exact hs.cell (k := 3) rfl rfl) (by first | exact hs.cell (k := 0) rfl rfl | exact hs.cell (k := 1) rfl rfl | exact hs.cell (k := 2) rfl rfl | exact hs.cell (k := 3) rfl rfl) (by first | exact hs.cell (k := 0) rfl rfl | exact hs.cell (k := 1) rfl rfl | exact hs.cell (k := 2) rfl rfl | exact hs.cell (k := 3) rfl rfl) (by first | exact hs.cell (k := 0) rfl rfl | exact hs.cell (k := 1) rfl rfl | exact hs.cell (k := 2) rfl rfl | exact hs.cell (k := 3) rfl rfl) (by first | exact hs.cell (k := 0) rfl rfl | exact hs.cell (k := 1) rfl rfl | exact hs.cell (k := 2) rfl rfl | exact hs.cell (k := 3) rfl rfl) (by first | exact hs.cell (k := 0) rfl rfl | exact hs.cell (k := 1) rfl rfl | exact hs.cell (k := 2) rfl rfl | exact hs.cell (k := 3) rfl rfl) ?_
              exact Rek_end rfl
            refine Reks_cons rfl rfl rfl rfl ?_ ?_
            · skip
              refine s_move rfl rfl ?_
              exact Rek_end rfl
            refine Reks_cons rfl rfl rfl rfl ?_ ?_
            · skip
              refine s_move rfl rfl ?_
              exact Rek_end rfl
            exact Reks_nil
          refine D_e rfl ?_
          refine s_call Try.call13 rfl rfl (bent_ok _ (madeX k) _ (madeC k) at_ n s' Lv w hrd ⟨_, _, _, rfl⟩ hat) ?_
          rintro r w ⟨Ln, g', x', v', bs', rfl, hrd', ⟨a', m', c', rfl⟩, hst, hbl⟩
          replace hs := St.back0 hs hst
          clear hst
          replace hs : St [] w0 w ((b17, Blk 37 [.bool (madeG k), .string (madeX k).rule, .int .i64 (madeX k).holder, .int .i64 (madeX k).token, .int .i64 (madeX k).til, .slice ma (madeC k).length mc]) :: (b34, rulesB) :: ((Ln ++ Lv) ++ (LT ++ LR))) := by simpa [cat] using St.reord [Ln, [_], [_], Lv, LT ++ LR] [1, 2, 0, 3, 4] [] (by simpa [cat] using hs) rfl
          refine D_en ?re ?_
          case re =>
            exact Reks_nil
          refine D_e rfl ?_
          first
            | refine s_storeW Try.sizeOf37 rfl rfl rfl rfl hs (kk := 0) rfl rfl ?_
            | refine s_storeW Try.sizeOf37 rfl rfl rfl rfl hs (kk := 1) rfl rfl ?_
            | refine s_storeW Try.sizeOf37 rfl rfl rfl rfl hs (kk := 2) rfl rfl ?_
            | refine s_storeW Try.sizeOf37 rfl rfl rfl rfl hs (kk := 3) rfl rfl ?_
            | refine s_storeAB Try.sizeOf37 rfl rfl rfl rfl hs (kk := 0) rfl rfl ?_
            | refine s_storeAB Try.sizeOf37 rfl rfl rfl rfl hs (kk := 1) rfl rfl ?_
            | refine s_storeAB Try.sizeOf37 rfl rfl rfl rfl hs (kk := 2) rfl rfl ?_
            | refine s_storeAB Try.sizeOf37 rfl rfl rfl rfl hs (kk := 3) rfl rfl ?_
          clear hs; intro w hs; try simp only [List.set_cons_zero, List.set_cons_succ, splice, List.take_succ_cons, List.take_zero, List.drop_succ_cons, List.drop_zero, List.nil_append, List.cons_append, List.length_cons, List.length_nil, Nat.reduceAdd, List.append_assoc] at hs
          refine D_en ?re ?_
          case re =>
            exact Reks_nil
          refine D_nil ?_
          refine n_then ?_
          refine W_region ?_
          refine s_move rfl rfl ?_
          refine s_assign rfl rfl ?_
          refine WL_nil ?_
          refine n_loop ?_
          first
            | exact ⟨⟨g', x', _, bs', Ln ++ Lv, n⟩, ⟨rfl, rfl, rfl, rfl, rfl, rfl, rfl, rfl, rfl, rfl, rfl, rfl, trivial⟩, (by simp only [List.append_assoc]; exact hs), hrd', ⟨_, _, _, rfl⟩⟩
            | exact ⟨⟨madeG k, madeX k, _, madeC k, Lv, tk0⟩, ⟨rfl, rfl, rfl, rfl, rfl, rfl, rfl, rfl, rfl, rfl, rfl, rfl, trivial⟩, hs, hrd, ⟨_, _, _, rfl⟩⟩
        · skip
          try simp only [decide_eq_true_eq, decide_eq_false_iff_not, beq_iff_eq, beq_eq_false_iff_ne, ne_eq, bne_iff_ne, bne_eq_false_iff_eq, Bool.not_eq_true', Bool.not_eq_false'] at hc57
          refine W_skip ?_
          refine n_loop ?_
          first
            | exact ⟨⟨g', x', _, bs', Ln ++ Lv, n⟩, ⟨rfl, rfl, rfl, rfl, rfl, rfl, rfl, rfl, rfl, rfl, rfl, rfl, trivial⟩, (by simp only [List.append_assoc]; exact hs), hrd', ⟨_, _, _, rfl⟩⟩
            | exact ⟨⟨madeG k, madeX k, _, madeC k, Lv, tk0⟩, ⟨rfl, rfl, rfl, rfl, rfl, rfl, rfl, rfl, rfl, rfl, rfl, rfl, trivial⟩, hs, hrd, ⟨_, _, _, rfl⟩⟩
      · skip
        clear hs hrd hO hml
        rintro ⟨eg, ex, ev0, ebs, Lv, tk⟩ w ⟨hs, hrd, ⟨ea, em, ec, hev⟩⟩
        simp only at hs hrd hev ⊢
        subst hev
        refine W_cut (σ := LS) (fun S => [(0, .slice a xs.length c), (1, .slice ua ts.length uc), (2, .int .i64 at_), (3, .int .i64 n), (4, .string s), (11, .pointer (some ⟨p, 0, none⟩)), (12, .pointer (some ⟨b31, 0, none⟩)), (13, .slice (some ⟨b34, 0, none⟩) 3 3), (14, .int .i64 (i : Int)), (15, .int .i64 k), (16, .int .i64 S.tk), (17, .pointer (some ⟨b17, 0, none⟩))])
          (fun S w => St [] w0 w ((b17, Blk 37 S.cells) :: (b34, rulesB) :: (S.Lv ++ (LT ++ LR))) ∧ RdS S.v S.bs.length (u8s S.bs) S.Lv ∧ ∃ a m c, S.v = .slice a m c) ?_ ?_
        · skip
          refine W_seq ?_
          refine W_region ?_
          refine s_move rfl rfl ?_
          first | (refine s_rem' rfl rfl rfl ?hx ?_; case hx => (refine ⟨?_, ?_⟩ <;> omega)) | (refine s_rem rfl rfl rfl ?hx ?_; case hx => omega)
          refine s_eql rfl rfl rfl ?_
          refine WL_nil ?_
          refine n_then ?_
          refine W_cond rfl (fun hc67 => ?_) (fun hc67 => ?_)
          · skip
            try simp only [decide_eq_true_eq, decide_eq_false_iff_not, beq_iff_eq, beq_eq_false_iff_ne, ne_eq, bne_iff_ne, bne_eq_false_iff_eq, Bool.not_eq_true', Bool.not_eq_false'] at hc67
            refine W_seq ?_
            refine W_region ?_
            refine s_move rfl rfl ?_
            refine s_fieldAddr rfl rfl (FA37_1 _ _) ?_
            refine s_fieldAddr rfl rfl (FA34_0 _ _) ?_
            first
              | refine s_load Try.isAgg9 rfl rfl (hs.cell (k := 0) rfl rfl) ?_
              | refine s_load Try.isAgg9 rfl rfl (hs.cell (k := 1) rfl rfl) ?_
              | refine s_load Try.isAgg9 rfl rfl (hs.cell (k := 2) rfl rfl) ?_
              | refine s_load Try.isAgg9 rfl rfl (hs.cell (k := 3) rfl rfl) ?_
            refine s_fieldAddr rfl rfl (FA37_1 _ _) ?_
            refine s_fieldAddr rfl rfl (FA34_1 _ _) ?_
            first
              | refine s_load Try.isAgg3 rfl rfl (hs.cell (k := 0) rfl rfl) ?_
              | refine s_load Try.isAgg3 rfl rfl (hs.cell (k := 1) rfl rfl) ?_
              | refine s_load Try.isAgg3 rfl rfl (hs.cell (k := 2) rfl rfl) ?_
              | refine s_load Try.isAgg3 rfl rfl (hs.cell (k := 3) rfl rfl) ?_
            refine s_move rfl rfl ?_
            refine s_move rfl rfl ?_
            first | (refine s_quo' rfl rfl rfl ?hx ?_; case hx => (refine ⟨?_, ?_, ?_⟩ <;> omega)) | (refine s_quo rfl rfl rfl ?hx ?_; case hx => omega)
            first | (refine s_rem' rfl rfl rfl ?hx ?_; case hx => (refine ⟨?_, ?_⟩ <;> omega)) | (refine s_rem rfl rfl rfl ?hx ?_; case hx => omega)
            refine s_callL (M := _ :: _ :: Lv) (L1 := LT) (X := LR) Try.call15 rfl rfl hs (fun h => grant_ok p f cs ex.rule ex.holder tk (k / 7 % 12) LT w hT h (hB _)) ?_
            clear hs; rintro v w L9 ⟨hL9, g1, x1, rfl, hx1, hx2⟩ - hs
            rw [hL9] at hs; clear hL9 L9
            simp only [List.cons_append] at hs
            refine s_move rfl rfl ?_
            refine s_extract rfl rfl rfl ?_
            refine s_extract rfl rfl rfl ?_
            refine s_alloc rfl AL41 hs ?_; clear hs; intro b18 w hs
            first
              | refine s_storeW Try.sizeOf41 rfl rfl rfl rfl hs (kk := 0) rfl rfl ?_
              | refine s_storeW Try.sizeOf41 rfl rfl rfl rfl hs (kk := 1) rfl rfl ?_
              | refine s_storeW Try.sizeOf41 rfl rfl rfl rfl hs (kk := 2) rfl rfl ?_
              | refine s_storeW Try.sizeOf41 rfl rfl rfl rfl hs (kk := 3) rfl rfl ?_
              | refine s_storeAB Try.sizeOf41 rfl rfl rfl rfl hs (kk := 0) rfl rfl ?_
              | refine s_storeAB Try.sizeOf41 rfl rfl rfl rfl hs (kk := 1) rfl rfl ?_
              | refine s_storeAB Try.sizeOf41 rfl rfl rfl rfl hs (kk := 2) rfl rfl ?_
              | refine s_storeAB Try.sizeOf41 rfl rfl rfl rfl hs (kk := 3) rfl rfl ?_
            clear hs; intro w hs; try simp only [List.set_cons_zero, List.set_cons_succ, splice, List.take_succ_cons, List.take_zero, List.drop_succ_cons, List.drop_zero, List.nil_append, List.cons_append, List.length_cons, List.length_nil, Nat.reduceAdd, List.append_assoc] at hs
            refine s_assign rfl rfl ?_
            refine WL_nil ?_
            refine n_then ?_
            refine W_seq ?_
            refine W_region ?_
            refine s_move rfl rfl ?_
            refine s_fieldAddr rfl rfl (FA37_1 _ _) ?_
            refine s_fieldAddr rfl rfl (FA34_0 _ _) ?_
            first
              | refine s_load Try.isAgg9 rfl rfl (hs.cell (k := 0) rfl rfl) ?_
              | refine s_load Try.isAgg9 rfl rfl (hs.cell (k := 1) rfl rfl) ?_
              | refine s_load Try.isAgg9 rfl rfl (hs.cell (k := 2) rfl rfl) ?_
              | refine s_load Try.isAgg9 rfl rfl (hs.cell (k := 3) rfl rfl) ?_
            refine s_fieldAddr rfl rfl (FA37_1 _ _) ?_
            refine s_fieldAddr rfl rfl (FA34_1 _ _) ?_
            first
              | refine s_load Try.isAgg3 rfl rfl (hs.cell (k := 0) rfl rfl) ?_
              | refine s_load Try.isAgg3 rfl rfl (hs.cell (k := 1) rfl rfl) ?_
              | refine s_load Try.isAgg3 rfl rfl (hs.cell (k := 2) rfl rfl) ?_
              | refine s_load Try.isAgg3 rfl rfl (hs.cell (k := 3) rfl rfl) ?_
            refine s_move rfl rfl ?_
            refine s_move rfl rfl ?_
            first | (refine s_quo' rfl rfl rfl ?hx ?_; case hx => (refine ⟨?_, ?_, ?_⟩ <;> omega)) | (refine s_quo rfl rfl rfl ?hx ?_; case hx => omega)
            first | (refine s_rem' rfl rfl rfl ?hx ?_; case hx => (refine ⟨?_, ?_⟩ <;> omega)) | (refine s_rem rfl rfl rfl ?hx ?_; case hx => omega)
            refine s_callL (M := _ :: _ :: _ :: (Lv ++ LT)) (L1 := LR) (X := []) Try.call16 rfl rfl (by simp only [List.append_nil, List.cons_append, List.append_assoc]; exact hs) (fun h => fGrant_ok b31 f ks i ex.rule ex.holder tk (k / 7 % 12) LR w hR h (hB _)) ?_
            clear hs; rintro v w L9 ⟨hL9, g2, x2, rfl, hy1, hy2⟩ - hs
            rw [hL9] at hs; clear hL9 L9
            simp only [List.append_nil, List.cons_append, List.append_assoc] at hs
            obtain ⟨rfl, rfl⟩ : g2 = g1 ∧ x2 = x1 := by
              by_cases h : grantE f ex.rule ex.holder tk (k / 7 % 12) = 0
              · exact ⟨(hy1 h).1.trans (hx1 h).1.symm, (hy1 h).2.1.trans (hx1 h).2.1.symm⟩
              · exact ⟨(hy2 h).1.trans (hx2 h).1.symm, (hy2 h).2.trans (hx2 h).2.symm⟩
            refine s_move rfl rfl ?_
            refine s_extract rfl rfl rfl ?_
            refine s_extract rfl rfl rfl ?_
            refine s_alloc rfl AL37 hs ?_; clear hs; intro b20 w hs
            first
              | refine s_storeW Try.sizeOf37 rfl rfl rfl rfl hs (kk := 0) rfl rfl ?_
              | refine s_storeW Try.sizeOf37 rfl rfl rfl rfl hs (kk := 1) rfl rfl ?_
              | refine s_storeW Try.sizeOf37 rfl rfl rfl rfl hs (kk := 2) rfl rfl ?_
              | refine s_storeW Try.sizeOf37 rfl rfl rfl rfl hs (kk := 3) rfl rfl ?_
              | refine s_storeAB Try.sizeOf37 rfl rfl rfl rfl hs (kk := 0) rfl rfl ?_
              | refine s_storeAB Try.sizeOf37 rfl rfl rfl rfl hs (kk := 1) rfl rfl ?_
              | refine s_storeAB Try.sizeOf37 rfl rfl rfl rfl hs (kk := 2) rfl rfl ?_
              | refine s_storeAB Try.sizeOf37 rfl rfl rfl rfl hs (kk := 3) rfl rfl ?_
            clear hs; intro w hs; try simp only [List.set_cons_zero, List.set_cons_succ, splice, List.take_succ_cons, List.take_zero, List.drop_succ_cons, List.drop_zero, List.nil_append, List.cons_append, List.length_cons, List.length_nil, Nat.reduceAdd, List.append_assoc] at hs
            refine s_assign rfl rfl ?_
            refine WL_nil ?_
            refine n_then ?_
            refine W_seq ?_
            refine W_seq ?_
            refine W_draw [(0, true, []), (1, true, []), (2, true, []), (3, true, []), (4, true, []), (6, true, []), (5, false, [6]), (7, false, []), (8, true, []), (9, true, [])] MX (by kernel_rfl) ?_
            intro w1 hw1 hw2 hw3 hw4; replace hs := hs.redrawn hw1 hw2 hw3 hw4; clear hw1 hw2 hw3 hw4
            obtain ⟨w, rfl⟩ : ∃ w : World, w = w1 := ⟨_, rfl⟩
            refine D_q rfl rfl ?_
            refine s_move rfl rfl ?_
            refine D_qn ?_
            refine D_q rfl rfl ?_
            refine s_move rfl rfl ?_
            refine D_qn ?_
            refine D_q rfl rfl ?_
            refine s_neq rfl rfl rfl ?_
            refine D_qn ?_
            refine D_q rfl rfl ?_
            refine s_move rfl rfl ?_
            refine WL_know (s := 101) (c := false) rfl ((by simp)) ?_
            refine D_qn ?_
            refine D_q rfl rfl ?_
            refine WL_take rfl ?_
            first
              | refine s_loadW Try.isAgg41 Try.sizeOf41 rfl rfl hs (kk := 0) rfl rfl ?_
              | refine s_loadW Try.isAgg41 Try.sizeOf41 rfl rfl hs (kk := 1) rfl rfl ?_
              | refine s_loadW Try.isAgg41 Try.sizeOf41 rfl rfl hs (kk := 2) rfl rfl ?_
              | refine s_loadW Try.isAgg41 Try.sizeOf41 rfl rfl hs (kk := 3) rfl rfl ?_
              | refine s_load_6 Try.isAgg41 Try.sizeOf41 rfl rfl (by first | exact hs.cell (k := 0) rfl rfl | exact hs.cell (k := 1) rfl rfl | exact hs.cell (k := 2) rfl rfl | exact hs.cell (k := 3) rfl rfl) (by first | exact hs.cell (k := 0) rfl rfl | exact hs.cell (k := 1) rfl rfl | exact hs.cell (k := 2) rfl rfl | exact hs.cell (k := 3) rfl rfl) (by first | exact hs.cell (k := 0) rfl rfl | exact hs.cell (k := 1) rfl rfl | exact hs.cell (k := 2) rfl rfl | exact hs.cell (k := 3) rfl rfl) (by first | exact hs.cell (k := 0) rfl rfl | exact hs.cell (k := 1) rfl rfl | exact hs.cell (k := 2) rfl rfl | exact hs.cell (k := 3) rfl rfl) (by first | exact hs.cell (k := 0) rfl rfl | exact hs.cell (k := 1) rfl rfl | exact hs.cell (k := 2) rfl rfl | exact hs.cell (k := 3) rfl rfl) (by first | exact hs.cell (k := 0) rfl rfl | exact hs.cell (k := 1) rfl rfl | exact hs.cell (k := 2) rfl rfl | exact hs.cell (k := 3) rfl rfl) ?_
            refine D_qn ?_
            refine D_q rfl rfl ?_
            refine WL_take rfl ?_
            first
              | refine s_loadW Try.isAgg37 Try.sizeOf37 rfl rfl hs (kk := 0) rfl rfl ?_
              | refine s_loadW Try.isAgg37 Try.sizeOf37 rfl rfl hs (kk := 1) rfl rfl ?_
              | refine s_loadW Try.isAgg37 Try.sizeOf37 rfl rfl hs (kk := 2) rfl rfl ?_
              | refine s_loadW Try.isAgg37 Try.sizeOf37 rfl rfl hs (kk := 3) rfl rfl ?_
              | refine s_load_6 Try.isAgg37 Try.sizeOf37 rfl rfl (by first | exact hs.cell (k := 0) rfl rfl | exact hs.cell (k := 1) rfl rfl | exact hs.cell (k := 2) rfl rfl | exact hs.cell (k := 3) rfl rfl) (by first | exact hs.cell (k := 0) rfl rfl | exact hs.cell (k := 1) rfl rfl | exact hs.cell (k := 2) rfl rfl | exact hs.cell (k := 3) rfl rfl) (by first | exact hs.cell (k := 0) rfl rfl | exact hs.cell (k := 1) rfl rfl | exact hs.cell (k := 2) rfl rfl | exact hs.cell (k := 3) rfl rfl) (by first | exact hs.cell (k := 0) rfl rfl | exact hs.cell (k := 1) rfl rfl | exact hs.cell (k := 2) rfl rfl | exact hs.cell (k := 3) rfl rfl) (by first | exact hs.cell (k := 0) rfl rfl | exact hs.cell (k := 1) rfl rfl | exact hs.cell (k := 2) rfl rfl | exact hs.cell (k := 3) rfl rfl) (by first | exact hs.cell (k := 0) rfl rfl | exact hs.cell (k := 1) rfl rfl | exact hs.cell (k := 2) rfl rfl | exact hs.cell (k := 3) rfl rfl) ?_
            refine D_qn ?_
            refine D_e rfl ?_
            refine WL_take rfl ?_
            refine s_call Try.call18 rfl rfl (plain_ok _ _ none 0 0 w) ?_
            rintro r w ⟨hst, rfl⟩
            replace hs := hs.fwd1 hst
            clear hst
            refine D_en ?re ?_
            case re =>
              refine Reks_cons rfl rfl rfl rfl ?_ ?_
              · skip
                refine WL_take rfl ?_
                first
                  | refine s_loadW Try.isAgg37 Try.sizeOf37 rfl rfl hs (kk := 0) rfl rfl ?_
                  | refine s_loadW Try.isAgg37 Try.sizeOf37 rfl rfl hs (kk := 1) rfl rfl ?_
                  | refine s_loadW Try.isAgg37 Try.sizeOf37 rfl rfl hs (kk := 2) rfl rfl ?_
                  | refine s_loadW Try.isAgg37 Try.sizeOf37 rfl rfl hs (kk := 3) rfl rfl ?_
                  | refine s_load_6 Try.isAgg37 Try.sizeOf37 rfl rfl (by first | exact hs.cell (k := 0) rfl rfl | exact hs.cell (k := 1) rfl rfl | exact hs.cell (k := 2) rfl rfl | exact hs.cell (k := 3) rfl rfl) (by first | exact hs.cell (k := 0) rfl rfl | exact hs.cell (k := 1) rfl rfl | exact hs.cell (k := 2) rfl rfl | exact hs.cell (k := 3) rfl rfl) (by first | exact hs.cell (k := 0) rfl rfl | exact hs.cell (k := 1) rfl rfl | exact hs.cell (k := 2) rfl rfl | exact hs.cell (k := 3) rfl rfl) (by first | exact hs.cell (k := 0) rfl rfl | exact hs.cell (k := 1) rfl rfl | exact hs.cell (k := 2) rfl rfl | exact hs.cell (k := 3) rfl rfl) (by first | exact hs.cell (k := 0) rfl rfl | exact hs.cell (k := 1) rfl rfl | exact hs.cell (k := 2) rfl rfl | exact hs.cell (k := 3) rfl rfl) (by first | exact hs.cell (k := 0) rfl rfl | exact hs.cell (k := 1) rfl rfl | exact hs.cell (k := 2) rfl rfl | exact hs.cell (k := 3) rfl rfl) ?_
                exact Rek_end rfl
              exact Reks_nil
            refine D_e rfl ?_
            refine WL_take rfl ?_
            refine s_call Try.call17 rfl rfl (same_ok _ _ _ _ _ _ [] [] w (slNil w) (slNil w) (by simp)) ?_
            rintro r w ⟨hst, rfl⟩
            replace hs := hs.fwd1 hst
            clear hst
            refine D_en ?re ?_
            case re =>
              exact Reks_nil
            refine D_q rfl rfl ?_
            refine WL_take rfl ?_
            refine s_not rfl rfl ?_
            refine D_qn ?_
            refine D_q rfl rfl ?_
            refine s_pick_f rfl rfl rfl ?_
            refine D_qn ?_
            refine D_nil ?_
            refine n_then ?_
            refine W_cond_kf rfl ((by simp)) ?_
            refine W_skip ?_
            refine n_then ?_
            refine W_seq ?_
            refine W_region ?_
            refine s_move rfl rfl ?_
            refine s_eql rfl rfl rfl ?_
            refine WL_nil ?_
            refine n_then ?_
            refine W_cond rfl (fun hc109 => ?_) (fun hc109 => ?_)
            · skip
              try simp only [decide_eq_true_eq, decide_eq_false_iff_not, beq_iff_eq, beq_eq_false_iff_ne, ne_eq, bne_iff_ne, bne_eq_false_iff_eq, Bool.not_eq_true', Bool.not_eq_false'] at hc109
              refine W_region ?_
              first
                | refine s_loadW Try.isAgg37 Try.sizeOf37 rfl rfl hs (kk := 0) rfl rfl ?_
                | refine s_loadW Try.isAgg37 Try.sizeOf37 rfl rfl hs (kk := 1) rfl rfl ?_
                | refine s_loadW Try.isAgg37 Try.sizeOf37 rfl rfl hs (kk := 2) rfl rfl ?_
                | refine s_loadW Try.isAgg37 Try.sizeOf37 rfl rfl hs (kk := 3) rfl rfl ?_
                | refine s_load_6 Try.isAgg37 Try.sizeOf37 rfl rfl (by first | exact hs.cell (k := 0) rfl rfl | exact hs.cell (k := 1) rfl rfl | exact hs.cell (k := 2) rfl rfl | exact hs.cell (k := 3) rfl rfl) (by first | exact hs.cell (k := 0) rfl rfl | exact hs.cell (k := 1) rfl rfl | exact hs.cell (k := 2) rfl rfl | exact hs.cell (k := 3) rfl rfl) (by first | exact hs.cell (k := 0) rfl rfl | exact hs.cell (k := 1) rfl rfl | exact hs.cell (k := 2) rfl rfl | exact hs.cell (k := 3) rfl rfl) (by first | exact hs.cell (k := 0) rfl rfl | exact hs.cell (k := 1) rfl rfl | exact hs.cell (k := 2) rfl rfl | exact hs.cell (k := 3) rfl rfl) (by first | exact hs.cell (k := 0) rfl rfl | exact hs.cell (k := 1) rfl rfl | exact hs.cell (k := 2) rfl rfl | exact hs.cell (k := 3) rfl rfl) (by first | exact hs.cell (k := 0) rfl rfl | exact hs.cell (k := 1) rfl rfl | exact hs.cell (k := 2) rfl rfl | exact hs.cell (k := 3) rfl rfl) ?_
              first
                | refine s_storeW Try.sizeOf37 rfl rfl rfl rfl hs (kk := 0) rfl rfl ?_
                | refine s_storeW Try.sizeOf37 rfl rfl rfl rfl hs (kk := 1) rfl rfl ?_
                | refine s_storeW Try.sizeOf37 rfl rfl rfl rfl hs (kk := 2) rfl rfl ?_
                | refine s_storeW Try.sizeOf37 rfl rfl rfl rfl hs (kk := 3) rfl rfl ?_
                | refine s_storeAB Try.sizeOf37 rfl rfl rfl rfl hs (kk := 0) rfl rfl ?_
                | refine s_storeAB Try.sizeOf37 rfl rfl rfl rfl hs (kk := 1) rfl rfl ?_
                | refine s_storeAB Try.sizeOf37 rfl rfl rfl rfl hs (kk := 2) rfl rfl ?_
                | refine s_storeAB Try.sizeOf37 rfl rfl rfl rfl hs (kk := 3) rfl rfl ?_
              clear hs; intro w hs; try simp only [List.set_cons_zero, List.set_cons_succ, splice, List.take_succ_cons, List.take_zero, List.drop_succ_cons, List.drop_zero, List.nil_append, List.cons_append, List.length_cons, List.length_nil, Nat.reduceAdd, List.append_assoc] at hs
              refine WL_nil ?_
              refine n_loop ?_
              first
                | exact ⟨⟨_, _, .slice none 0 0, [], Lv, tk⟩, ⟨rfl, rfl, rfl, rfl, rfl, rfl, rfl, rfl, rfl, rfl, rfl, rfl, trivial⟩, hs.tail.tail, rds_more RdS.nil [] Lv, ⟨_, _, _, rfl⟩⟩
                | exact ⟨⟨eg, ex, _, ebs, Lv, tk⟩, ⟨rfl, rfl, rfl, rfl, rfl, rfl, rfl, rfl, rfl, rfl, rfl, rfl, trivial⟩, hs.tail.tail, hrd, ⟨_, _, _, rfl⟩⟩
                | exact ⟨⟨eg, ex, _, ebs, Lv, tk⟩, ⟨rfl, rfl, rfl, rfl, rfl, rfl, rfl, rfl, rfl, rfl, rfl, rfl, trivial⟩, hs, hrd, ⟨_, _, _, rfl⟩⟩
            · skip
              try simp only [decide_eq_true_eq, decide_eq_false_iff_not, beq_iff_eq, beq_eq_false_iff_ne, ne_eq, bne_iff_ne, bne_eq_false_iff_eq, Bool.not_eq_true', Bool.not_eq_false'] at hc109
              refine W_skip ?_
              refine n_loop ?_
              first
                | exact ⟨⟨_, _, .slice none 0 0, [], Lv, tk⟩, ⟨rfl, rfl, rfl, rfl, rfl, rfl, rfl, rfl, rfl, rfl, rfl, rfl, trivial⟩, hs.tail.tail, rds_more RdS.nil [] Lv, ⟨_, _, _, rfl⟩⟩
                | exact ⟨⟨eg, ex, _, ebs, Lv, tk⟩, ⟨rfl, rfl, rfl, rfl, rfl, rfl, rfl, rfl, rfl, rfl, rfl, rfl, trivial⟩, hs.tail.tail, hrd, ⟨_, _, _, rfl⟩⟩
                | exact ⟨⟨eg, ex, _, ebs, Lv, tk⟩, ⟨rfl, rfl, rfl, rfl, rfl, rfl, rfl, rfl, rfl, rfl, rfl, rfl, trivial⟩, hs, hrd, ⟨_, _, _, rfl⟩⟩
          · skip
            try simp only [decide_eq_true_eq, decide_eq_false_iff_not, beq_iff_eq, beq_eq_false_iff_ne, ne_eq, bne_iff_ne, bne_eq_false_iff_eq, Bool.not_eq_true', Bool.not_eq_false'] at hc67
            refine W_skip ?_
            refine n_loop ?_
            first
              | exact ⟨⟨_, _, .slice none 0 0, [], Lv, tk⟩, ⟨rfl, rfl, rfl, rfl, rfl, rfl, rfl, rfl, rfl, rfl, rfl, rfl, trivial⟩, hs.tail.tail, rds_more RdS.nil [] Lv, ⟨_, _, _, rfl⟩⟩
              | exact ⟨⟨eg, ex, _, ebs, Lv, tk⟩, ⟨rfl, rfl, rfl, rfl, rfl, rfl, rfl, rfl, rfl, rfl, rfl, rfl, trivial⟩, hs.tail.tail, hrd, ⟨_, _, _, rfl⟩⟩
              | exact ⟨⟨eg, ex, _, ebs, Lv, tk⟩, ⟨rfl, rfl, rfl, rfl, rfl, rfl, rfl, rfl, rfl, rfl, rfl, rfl, trivial⟩, hs, hrd, ⟨_, _, _, rfl⟩⟩
        · skip
          clear hs hrd ea em ec eg ex ebs
          clear Lv tk
          rintro ⟨eg, ex, ev0, ebs, Lv, tk⟩ w ⟨hs, hrd, ⟨ea, em, ec, hev⟩⟩
          simp only at hs hrd hev ⊢
          subst hev
          refine W_seq ?_
          refine W_region ?_
          refine s_move rfl rfl ?_
          refine s_fieldAddr rfl rfl (FA37_1 _ _) ?_
          refine s_fieldAddr rfl rfl (FA34_0 _ _) ?_
          first
            | refine s_load Try.isAgg9 rfl rfl (hs.cell (k := 0) rfl rfl) ?_
            | refine s_load Try.isAgg9 rfl rfl (hs.cell (k := 1) rfl rfl) ?_
            | refine s_load Try.isAgg9 rfl rfl (hs.cell (k := 2) rfl rfl) ?_
            | refine s_load Try.isAgg9 rfl rfl (hs.cell (k := 3) rfl rfl) ?_
          refine s_move rfl rfl ?_
          refine s_callL (M := _ :: _ :: (Lv ++ LT)) (L1 := LR) (X := []) Try.call19 rfl rfl (by simp only [List.append_nil, List.cons_append, List.append_assoc]; exact hs) (fun h => fHolder_ok b31 f ks i ex.rule tk LR w hR h) ?_
          clear hs; rintro v w L9 ⟨hL9, y, kn, rfl, hy1, hy2⟩ - hs
          rw [hL9] at hs; clear hL9 L9
          simp only [List.append_nil, List.cons_append, List.append_assoc] at hs
          refine s_move rfl rfl ?_
          refine s_extract rfl rfl rfl ?_
          refine s_extract rfl rfl rfl ?_
          refine s_alloc rfl AL34 hs ?_; clear hs; intro b22 w hs
          first
            | refine s_storeW Try.sizeOf34 rfl rfl rfl rfl hs (kk := 0) rfl rfl ?_
            | refine s_storeW Try.sizeOf34 rfl rfl rfl rfl hs (kk := 1) rfl rfl ?_
            | refine s_storeW Try.sizeOf34 rfl rfl rfl rfl hs (kk := 2) rfl rfl ?_
            | refine s_storeW Try.sizeOf34 rfl rfl rfl rfl hs (kk := 3) rfl rfl ?_
            | refine s_storeAB Try.sizeOf34 rfl rfl rfl rfl hs (kk := 0) rfl rfl ?_
            | refine s_storeAB Try.sizeOf34 rfl rfl rfl rfl hs (kk := 1) rfl rfl ?_
            | refine s_storeAB Try.sizeOf34 rfl rfl rfl rfl hs (kk := 2) rfl rfl ?_
            | refine s_storeAB Try.sizeOf34 rfl rfl rfl rfl hs (kk := 3) rfl rfl ?_
          clear hs; intro w hs; try simp only [List.set_cons_zero, List.set_cons_succ, splice, List.take_succ_cons, List.take_zero, List.drop_succ_cons, List.drop_zero, List.nil_append, List.cons_append, List.length_cons, List.length_nil, Nat.reduceAdd, List.append_assoc] at hs
          refine s_assign rfl rfl ?_
          refine WL_nil ?_
          refine n_then ?_
          refine W_cut (σ := LS) (fun S => [(0, .slice a xs.length c), (1, .slice ua ts.length uc), (2, .int .i64 at_), (3, .int .i64 n), (4, .string s), (11, .pointer (some ⟨p, 0, none⟩)), (12, .pointer (some ⟨b31, 0, none⟩)), (13, .slice (some ⟨b34, 0, none⟩) 3 3), (14, .int .i64 (i : Int)), (15, .int .i64 k), (16, .int .i64 S.tk), (17, .pointer (some ⟨b17, 0, none⟩))])
            (fun S w => St [] w0 w ((b17, Blk 37 S.cells) :: (b34, rulesB) :: (S.Lv ++ (LT ++ LR))) ∧ RdS S.v S.bs.length (u8s S.bs) S.Lv ∧ ∃ a m c, S.v = .slice a m c) ?_ ?_
          · skip
            refine W_seq ?_
            refine W_region ?_
            refine s_move rfl rfl ?_
            refine s_move rfl rfl ?_
            refine WL_case (s := 121) rfl (fun hg121 => ?_) (fun hg121 => ?_)
            · skip
              try simp only [decide_eq_true_eq, decide_eq_false_iff_not, beq_iff_eq, beq_eq_false_iff_ne, ne_eq, bne_iff_ne, bne_eq_false_iff_eq, Bool.not_eq_true', Bool.not_eq_false'] at hg121
              refine WL_take rfl ?_
              refine s_fieldAddr rfl rfl (FA37_0 _ _) ?_
              refine WL_take rfl ?_
              first
                | refine s_load Try.isAgg4 rfl rfl (hs.cell (k := 0) rfl rfl) ?_
                | refine s_load Try.isAgg4 rfl rfl (hs.cell (k := 1) rfl rfl) ?_
                | refine s_load Try.isAgg4 rfl rfl (hs.cell (k := 2) rfl rfl) ?_
                | refine s_load Try.isAgg4 rfl rfl (hs.cell (k := 3) rfl rfl) ?_
              refine WL_take rfl ?_
              refine s_not rfl rfl ?_
              refine s_pick_t rfl rfl rfl ?_
              refine s_move rfl rfl ?_
              refine WL_case (s := 126) rfl (fun hg126 => ?_) (fun hg126 => ?_)
              · skip
                try simp only [decide_eq_true_eq, decide_eq_false_iff_not, beq_iff_eq, beq_eq_false_iff_ne, ne_eq, bne_iff_ne, bne_eq_false_iff_eq, Bool.not_eq_true', Bool.not_eq_false'] at hg126
                refine WL_take rfl ?_
                refine s_move rfl rfl ?_
                refine WL_take rfl ?_
                first | (refine s_rem' rfl rfl rfl ?hx ?_; case hx => (refine ⟨?_, ?_⟩ <;> omega)) | (refine s_rem rfl rfl rfl ?hx ?_; case hx => omega)
                refine WL_take rfl ?_
                refine s_lss rfl rfl rfl ?_
                refine s_pick_t rfl rfl rfl ?_
                refine WL_nil ?_
                refine n_then ?_
                refine W_cond rfl (fun hc130 => ?_) (fun hc130 => ?_)
                · skip
                  try simp only [decide_eq_true_eq, decide_eq_false_iff_not, beq_iff_eq, beq_eq_false_iff_ne, ne_eq, bne_iff_ne, bne_eq_false_iff_eq, Bool.not_eq_true', Bool.not_eq_false'] at hc130
                  refine W_region ?_
                  first
                    | refine s_loadW Try.isAgg34 Try.sizeOf34 rfl rfl hs (kk := 0) rfl rfl ?_
                    | refine s_loadW Try.isAgg34 Try.sizeOf34 rfl rfl hs (kk := 1) rfl rfl ?_
                    | refine s_loadW Try.isAgg34 Try.sizeOf34 rfl rfl hs (kk := 2) rfl rfl ?_
                    | refine s_loadW Try.isAgg34 Try.sizeOf34 rfl rfl hs (kk := 3) rfl rfl ?_
                    | refine s_load_4 Try.isAgg34 Try.sizeOf34 rfl rfl (by first | exact hs.cell (k := 0) rfl rfl | exact hs.cell (k := 1) rfl rfl | exact hs.cell (k := 2) rfl rfl | exact hs.cell (k := 3) rfl rfl) (by first | exact hs.cell (k := 0) rfl rfl | exact hs.cell (k := 1) rfl rfl | exact hs.cell (k := 2) rfl rfl | exact hs.cell (k := 3) rfl rfl) (by first | exact hs.cell (k := 0) rfl rfl | exact hs.cell (k := 1) rfl rfl | exact hs.cell (k := 2) rfl rfl | exact hs.cell (k := 3) rfl rfl) (by first | exact hs.cell (k := 0) rfl rfl | exact hs.cell (k := 1) rfl rfl | exact hs.cell (k := 2) rfl rfl | exact hs.cell (k := 3) rfl rfl) ?_
                  refine s_fieldAddr rfl rfl (FA37_1 _ _) ?_
                  first
                    | refine s_storeW Try.sizeOf34 rfl rfl rfl rfl hs (kk := 0) rfl rfl ?_
                    | refine s_storeW Try.sizeOf34 rfl rfl rfl rfl hs (kk := 1) rfl rfl ?_
                    | refine s_storeW Try.sizeOf34 rfl rfl rfl rfl hs (kk := 2) rfl rfl ?_
                    | refine s_storeW Try.sizeOf34 rfl rfl rfl rfl hs (kk := 3) rfl rfl ?_
                    | refine s_storeAB Try.sizeOf34 rfl rfl rfl rfl hs (kk := 0) rfl rfl ?_
                    | refine s_storeAB Try.sizeOf34 rfl rfl rfl rfl hs (kk := 1) rfl rfl ?_
                    | refine s_storeAB Try.sizeOf34 rfl rfl rfl rfl hs (kk := 2) rfl rfl ?_
                    | refine s_storeAB Try.sizeOf34 rfl rfl rfl rfl hs (kk := 3) rfl rfl ?_
                  clear hs; intro w hs; try simp only [List.set_cons_zero, List.set_cons_succ, splice, List.take_succ_cons, List.take_zero, List.drop_succ_cons, List.drop_zero, List.nil_append, List.cons_append, List.length_cons, List.length_nil, Nat.reduceAdd, List.append_assoc] at hs
                  refine WL_nil ?_
                  refine n_loop ?_
                  first
                    | exact ⟨⟨eg, y, _, ebs, Lv, tk⟩, ⟨rfl, rfl, rfl, rfl, rfl, rfl, rfl, rfl, rfl, rfl, rfl, rfl, trivial⟩, hs.tail, hrd, ⟨_, _, _, rfl⟩⟩
                    | exact ⟨⟨eg, ex, _, ebs, Lv, tk⟩, ⟨rfl, rfl, rfl, rfl, rfl, rfl, rfl, rfl, rfl, rfl, rfl, rfl, trivial⟩, hs.tail, hrd, ⟨_, _, _, rfl⟩⟩
                · skip
                  try simp only [decide_eq_true_eq, decide_eq_false_iff_not, beq_iff_eq, beq_eq_false_iff_ne, ne_eq, bne_iff_ne, bne_eq_false_iff_eq, Bool.not_eq_true', Bool.not_eq_false'] at hc130
                  refine W_skip ?_
                  refine n_loop ?_
                  first
                    | exact ⟨⟨eg, y, _, ebs, Lv, tk⟩, ⟨rfl, rfl, rfl, rfl, rfl, rfl, rfl, rfl, rfl, rfl, rfl, rfl, trivial⟩, hs.tail, hrd, ⟨_, _, _, rfl⟩⟩
                    | exact ⟨⟨eg, ex, _, ebs, Lv, tk⟩, ⟨rfl, rfl, rfl, rfl, rfl, rfl, rfl, rfl, rfl, rfl, rfl, rfl, trivial⟩, hs.tail, hrd, ⟨_, _, _, rfl⟩⟩
              · skip
                try simp only [decide_eq_true_eq, decide_eq_false_iff_not, beq_iff_eq, beq_eq_false_iff_ne, ne_eq, bne_iff_ne, bne_eq_false_iff_eq, Bool.not_eq_true', Bool.not_eq_false'] at hg126
                refine WL_skip rfl rfl rfl ?_
                refine WL_skip rfl rfl rfl ?_
                refine WL_skip rfl rfl rfl ?_
                refine s_pick_f rfl rfl rfl ?_
                refine WL_nil ?_
                refine n_then ?_
                refine W_cond_f rfl ?_
                refine W_skip ?_
                refine n_loop ?_
                first
                  | exact ⟨⟨eg, y, _, ebs, Lv, tk⟩, ⟨rfl, rfl, rfl, rfl, rfl, rfl, rfl, rfl, rfl, rfl, rfl, rfl, trivial⟩, hs.tail, hrd, ⟨_, _, _, rfl⟩⟩
                  | exact ⟨⟨eg, ex, _, ebs, Lv, tk⟩, ⟨rfl, rfl, rfl, rfl, rfl, rfl, rfl, rfl, rfl, rfl, rfl, rfl, trivial⟩, hs.tail, hrd, ⟨_, _, _, rfl⟩⟩
            · skip
              try simp only [decide_eq_true_eq, decide_eq_false_iff_not, beq_iff_eq, beq_eq_false_iff_ne, ne_eq, bne_iff_ne, bne_eq_false_iff_eq, Bool.not_eq_true', Bool.not_eq_false'] at hg121
              refine WL_skip rfl rfl rfl ?_
              refine WL_skip rfl rfl rfl ?_
              refine WL_skip rfl rfl rfl ?_
              refine s_pick_f rfl rfl rfl ?_
              refine s_move rfl rfl ?_
              refine WL_skip rfl rfl rfl ?_
              refine WL_skip rfl rfl rfl ?_
              refine WL_skip rfl rfl rfl ?_
              refine s_pick_f rfl rfl rfl ?_
              refine WL_nil ?_
              refine n_then ?_
              refine W_cond_f rfl ?_
              refine W_skip ?_
              refine n_loop ?_
              first
                | exact ⟨⟨eg, y, _, ebs, Lv, tk⟩, ⟨rfl, rfl, rfl, rfl, rfl, rfl, rfl, rfl, rfl, rfl, rfl, rfl, trivial⟩, hs.tail, hrd, ⟨_, _, _, rfl⟩⟩
                | exact ⟨⟨eg, ex, _, ebs, Lv, tk⟩, ⟨rfl, rfl, rfl, rfl, rfl, rfl, rfl, rfl, rfl, rfl, rfl, rfl, trivial⟩, hs.tail, hrd, ⟨_, _, _, rfl⟩⟩
          · skip
            clear hs hrd hy1 hy2
            clear y kn ea em ec eg ex ebs
            clear Lv tk
            rintro ⟨eg, ex, ev0, ebs, Lv, tk⟩ w ⟨hs, hrd, ⟨ea, em, ec, hev⟩⟩
            simp only at hs hrd hev ⊢
            subst hev
            have hcl : cs.length ≤ 1000000 := by
              have h1 := congrArg List.length hbs
              simp only [List.length_map] at h1
              obtain ⟨_, _, _, _, _, _, _, _, _, _, _, h2, h3⟩ := id hR
              omega
            refine W_seq ?_
            refine W_seq ?_
            refine W_draw [(0, true, []), (1, true, []), (3, true, []), (5, true, []), (6, true, []), (7, true, []), (2, false, [0, 3, 5, 6, 7]), (4, false, [5, 6, 7]), (8, false, []), (9, true, [])] MX (by kernel_rfl) ?_
            intro w1 hw1 hw2 hw3 hw4; replace hs := hs.redrawn hw1 hw2 hw3 hw4; clear hw1 hw2 hw3 hw4
            obtain ⟨w, rfl⟩ : ∃ w : World, w = w1 := ⟨_, rfl⟩
            refine D_q rfl rfl ?_
            refine s_move rfl rfl ?_
            refine D_qn ?_
            refine D_q rfl rfl ?_
            first
              | refine s_loadW Try.isAgg37 Try.sizeOf37 rfl rfl hs (kk := 0) rfl rfl ?_
              | refine s_loadW Try.isAgg37 Try.sizeOf37 rfl rfl hs (kk := 1) rfl rfl ?_
              | refine s_loadW Try.isAgg37 Try.sizeOf37 rfl rfl hs (kk := 2) rfl rfl ?_
              | refine s_loadW Try.isAgg37 Try.sizeOf37 rfl rfl hs (kk := 3) rfl rfl ?_
              | refine s_load_6 Try.isAgg37 Try.sizeOf37 rfl rfl (by first | exact hs.cell (k := 0) rfl rfl | exact hs.cell (k := 1) rfl rfl | exact hs.cell (k := 2) rfl rfl | exact hs.cell (k := 3) rfl rfl) (by first | exact hs.cell (k := 0) rfl rfl | exact hs.cell (k := 1) rfl rfl | exact hs.cell (k := 2) rfl rfl | exact hs.cell (k := 3) rfl rfl) (by first | exact hs.cell (k := 0) rfl rfl | exact hs.cell (k := 1) rfl rfl | exact hs.cell (k := 2) rfl rfl | exact hs.cell (k := 3) rfl rfl) (by first | exact hs.cell (k := 0) rfl rfl | exact hs.cell (k := 1) rfl rfl | exact hs.cell (k := 2) rfl rfl | exact hs.cell (k := 3) rfl rfl) (by first | exact hs.cell (k := 0) rfl rfl | exact hs.cell (k := 1) rfl rfl | exact hs.cell (k := 2) rfl rfl | exact hs.cell (k := 3) rfl rfl) (by first | exact hs.cell (k := 0) rfl rfl | exact hs.cell (k := 1) rfl rfl | exact hs.cell (k := 2) rfl rfl | exact hs.cell (k := 3) rfl rfl) ?_
            refine D_qn ?_
            refine D_q rfl rfl ?_
            refine s_move rfl rfl ?_
            refine D_qn ?_
            refine D_q rfl rfl ?_
            refine s_move rfl rfl ?_
            refine D_qn ?_
            refine D_q rfl rfl ?_
            first
              | refine s_loadW Try.isAgg37 Try.sizeOf37 rfl rfl hs (kk := 0) rfl rfl ?_
              | refine s_loadW Try.isAgg37 Try.sizeOf37 rfl rfl hs (kk := 1) rfl rfl ?_
              | refine s_loadW Try.isAgg37 Try.sizeOf37 rfl rfl hs (kk := 2) rfl rfl ?_
              | refine s_loadW Try.isAgg37 Try.sizeOf37 rfl rfl hs (kk := 3) rfl rfl ?_
              | refine s_load_6 Try.isAgg37 Try.sizeOf37 rfl rfl (by first | exact hs.cell (k := 0) rfl rfl | exact hs.cell (k := 1) rfl rfl | exact hs.cell (k := 2) rfl rfl | exact hs.cell (k := 3) rfl rfl) (by first | exact hs.cell (k := 0) rfl rfl | exact hs.cell (k := 1) rfl rfl | exact hs.cell (k := 2) rfl rfl | exact hs.cell (k := 3) rfl rfl) (by first | exact hs.cell (k := 0) rfl rfl | exact hs.cell (k := 1) rfl rfl | exact hs.cell (k := 2) rfl rfl | exact hs.cell (k := 3) rfl rfl) (by first | exact hs.cell (k := 0) rfl rfl | exact hs.cell (k := 1) rfl rfl | exact hs.cell (k := 2) rfl rfl | exact hs.cell (k := 3) rfl rfl) (by first | exact hs.cell (k := 0) rfl rfl | exact hs.cell (k := 1) rfl rfl | exact hs.cell (k := 2) rfl rfl | exact hs.cell (k := 3) rfl rfl) (by first | exact hs.cell (k := 0) rfl rfl | exact hs.cell (k := 1) rfl rfl | exact hs.cell (k := 2) rfl rfl | exact hs.cell (k := 3) rfl rfl) ?_
            refine D_qn ?_
            refine D_q rfl rfl ?_
            refine s_move rfl rfl ?_
            refine D_qn ?_
            refine D_e rfl ?_
            refine s_call Try.call21 rfl rfl (of_ok eg ex ea em ec w) ?_
            rintro r w ⟨hst, rfl⟩
            replace hs := hs.fwd1 hst
            clear hst
            refine D_en ?re ?_
            case re =>
              refine Reks_cons rfl rfl rfl rfl ?_ ?_
              · skip
                refine s_move rfl rfl ?_
                exact Rek_end rfl
              refine Reks_cons rfl rfl rfl rfl ?_ ?_
              · skip
                refine s_move rfl rfl ?_
                exact Rek_end rfl
              refine Reks_cons rfl rfl rfl rfl ?_ ?_
              · skip
                refine s_move rfl rfl ?_
                exact Rek_end rfl
              refine Reks_cons rfl rfl rfl rfl ?_ ?_
              · skip
                first
                  | refine s_loadW Try.isAgg37 Try.sizeOf37 rfl rfl hs (kk := 0) rfl rfl ?_
                  | refine s_loadW Try.isAgg37 Try.sizeOf37 rfl rfl hs (kk := 1) rfl rfl ?_
                  | refine s_loadW Try.isAgg37 Try.sizeOf37 rfl rfl hs (kk := 2) rfl rfl ?_
                  | refine s_loadW Try.isAgg37 Try.sizeOf37 rfl rfl hs (kk := 3) rfl rfl ?_
                  | refine s_load_6 Try.isAgg37 Try.sizeOf37 rfl rfl (by first | exact hs.cell (k := 0) rfl rfl | exact hs.cell (k := 1) rfl rfl | exact hs.cell (k := 2) rfl rfl | exact hs.cell (k := 3) rfl rfl) (by first | exact hs.cell (k := 0) rfl rfl | exact hs.cell (k := 1) rfl rfl | exact hs.cell (k := 2) rfl rfl | exact hs.cell (k := 3) rfl rfl) (by first | exact hs.cell (k := 0) rfl rfl | exact hs.cell (k := 1) rfl rfl | exact hs.cell (k := 2) rfl rfl | exact hs.cell (k := 3) rfl rfl) (by first | exact hs.cell (k := 0) rfl rfl | exact hs.cell (k := 1) rfl rfl | exact hs.cell (k := 2) rfl rfl | exact hs.cell (k := 3) rfl rfl) (by first | exact hs.cell (k := 0) rfl rfl | exact hs.cell (k := 1) rfl rfl | exact hs.cell (k := 2) rfl rfl | exact hs.cell (k := 3) rfl rfl) (by first | exact hs.cell (k := 0) rfl rfl | exact hs.cell (k := 1) rfl rfl | exact hs.cell (k := 2) rfl rfl | exact hs.cell (k := 3) rfl rfl) ?_
                exact Rek_end rfl
              refine Reks_cons rfl rfl rfl rfl ?_ ?_
              · skip
                refine s_move rfl rfl ?_
                exact Rek_end rfl
              exact Reks_nil
            refine D_e rfl ?_
            refine s_callL (M := _ :: _ :: Lv) (L1 := LT) (X := LR) Try.call20 rfl rfl hs (fun h => apply_ok p f cs eg ex _ ebs tk LT w hT h (hrd.sl w (fun q hq => hs.own q (by simp [hq]))) (by omega) (fun a m c he hne => St.notin (M := _ :: _ :: Lv) (L := LT) (X := LR) hs (by have := hrd.inL a m c he hne; simp [ids, this]))) ?_
            clear hs; rintro v w LT' ⟨rfl, cs', hT', hcA, hcB⟩ - hs
            simp only [List.cons_append] at hs
            refine D_en ?re ?_
            case re =>
              refine Reks_cons rfl rfl rfl rfl ?_ ?_
              · skip
                refine s_move rfl rfl ?_
                exact Rek_end rfl
              refine Reks_cons rfl rfl rfl rfl ?_ ?_
              · skip
                first
                  | refine s_loadW Try.isAgg37 Try.sizeOf37 rfl rfl hs (kk := 0) rfl rfl ?_
                  | refine s_loadW Try.isAgg37 Try.sizeOf37 rfl rfl hs (kk := 1) rfl rfl ?_
                  | refine s_loadW Try.isAgg37 Try.sizeOf37 rfl rfl hs (kk := 2) rfl rfl ?_
                  | refine s_loadW Try.isAgg37 Try.sizeOf37 rfl rfl hs (kk := 3) rfl rfl ?_
                  | refine s_load_6 Try.isAgg37 Try.sizeOf37 rfl rfl (by first | exact hs.cell (k := 0) rfl rfl | exact hs.cell (k := 1) rfl rfl | exact hs.cell (k := 2) rfl rfl | exact hs.cell (k := 3) rfl rfl) (by first | exact hs.cell (k := 0) rfl rfl | exact hs.cell (k := 1) rfl rfl | exact hs.cell (k := 2) rfl rfl | exact hs.cell (k := 3) rfl rfl) (by first | exact hs.cell (k := 0) rfl rfl | exact hs.cell (k := 1) rfl rfl | exact hs.cell (k := 2) rfl rfl | exact hs.cell (k := 3) rfl rfl) (by first | exact hs.cell (k := 0) rfl rfl | exact hs.cell (k := 1) rfl rfl | exact hs.cell (k := 2) rfl rfl | exact hs.cell (k := 3) rfl rfl) (by first | exact hs.cell (k := 0) rfl rfl | exact hs.cell (k := 1) rfl rfl | exact hs.cell (k := 2) rfl rfl | exact hs.cell (k := 3) rfl rfl) (by first | exact hs.cell (k := 0) rfl rfl | exact hs.cell (k := 1) rfl rfl | exact hs.cell (k := 2) rfl rfl | exact hs.cell (k := 3) rfl rfl) ?_
                exact Rek_end rfl
              refine Reks_cons rfl rfl rfl rfl ?_ ?_
              · skip
                refine s_move rfl rfl ?_
                exact Rek_end rfl
              exact Reks_nil
            refine D_e rfl ?_
            have hs2 : St [] w0 w (((b17, Blk 37 [.bool eg, .string ex.rule, .int .i64 ex.holder, .int .i64 ex.token, .int .i64 ex.til, .slice ea em ec]) :: (b34, rulesB) :: LT') ++ ((LR ++ Lv) ++ [])) := by simpa [cat] using St.reord [[_], [_], Lv, LT', LR] [0, 1, 3, 4, 2] [] (by simpa [cat] using hs) rfl
            refine s_callL (M := _ :: _ :: LT') (L1 := LR ++ Lv) (X := []) Try.call22 rfl rfl hs2 (fun h => fApply_ok b31 f ks i eg ex _ ebs tk LR Lv w hR hrd h (by omega)) ?_
            clear hs hs2; rintro v w LR' ⟨rfl, ks', hR', hcC, hcD⟩ - hs
            simp only [List.append_nil, List.cons_append] at hs
            refine D_en ?re ?_
            case re =>
              exact Reks_nil
            refine D_q rfl rfl ?_
            refine s_neq rfl rfl rfl ?_
            refine D_qn ?_
            refine D_nil ?_
            refine n_then ?_
            refine W_cond_kf rfl ((by simp)) ?_
            refine W_skip ?_
            refine n_then ?_
            refine W_seq ?_
            refine W_seq ?_
            refine W_region ?_
            refine s_assign rfl rfl ?_
            refine WL_nil ?_
            refine n_then ?_
            refine W_block ?_
            have hB' := hB.apply eg ex ebs.length tk
            have hbs' := bs_apply hbs hcA hcB hcC hcD
            generalize applyF f eg ex ebs.length tk = f' at hT' hR' hB'
            refine W_loop (σ := Nat) (fun j => [(0, .slice a xs.length c), (1, .slice ua ts.length uc), (2, .int .i64 at_), (3, .int .i64 n), (4, .string s), (11, .pointer (some ⟨p, 0, none⟩)), (12, .pointer (some ⟨b31, 0, none⟩)), (13, .slice (some ⟨b34, 0, none⟩) 3 3), (14, .int .i64 (i : Int)), (16, .int .i64 tk), (24, .int .i64 (j : Int))])
              (fun j w => St [] w0 w ((b34, rulesB) :: (LT' ++ LR')) ∧ j ≤ 3) (fun j => 3 - j) 0 ⟨rfl, rfl, rfl, rfl, rfl, rfl, rfl, rfl, rfl, rfl, rfl, trivial⟩ ⟨hs.tail, by omega⟩ ?_
            clear hs hT hR hcA hcB hcC hcD hbs
            rintro j w ⟨hs, hj3⟩
            refine W_seq ?_
            refine W_seq ?_
            refine W_region ?_
            refine s_move rfl rfl ?_
            refine s_lss rfl rfl rfl ?_
            refine WL_nil ?_
            refine n_then ?_
            refine W_cond rfl (fun hc144 => ?_) (fun hc144 => ?_)
            · skip
              try simp only [decide_eq_true_eq, decide_eq_false_iff_not, beq_iff_eq, beq_eq_false_iff_ne, ne_eq, bne_iff_ne, bne_eq_false_iff_eq, Bool.not_eq_true', Bool.not_eq_false'] at hc144
              refine W_skip ?_
              refine n_then ?_
              refine W_seq ?_
              refine W_block ?_
              refine W_seq ?_
              refine W_region ?_
              refine s_move rfl rfl ?_
              refine s_move rfl rfl ?_
              refine s_move rfl rfl ?_
              (refine s_indexAddr1 El30 rfl rfl rfl ?hx ?_; case hx => (constructor <;> first | omega | (simp; omega)))
              refine s_load Try.isAgg9 rfl rfl (hs.cell (k := 0) rfl (ruleS_at (show j < 3 by omega))) ?_
              refine s_move rfl rfl ?_
              refine s_move rfl rfl ?_
              refine s_add rfl rfl rfl ?_
              refine s_callL (M := [_]) (L1 := LT') (X := LR') Try.call23 rfl rfl hs (fun h => holder_ok p f' cs' (ruleS j) _ LT' w hT' h) ?_
              clear hs; rintro v w L9 ⟨hL9, y1, kn1, rfl, hx1, hx2⟩ - hs
              rw [hL9] at hs; clear hL9 L9
              simp only [List.cons_append, List.nil_append] at hs
              refine s_move rfl rfl ?_
              refine s_extract rfl rfl rfl ?_
              refine s_extract rfl rfl rfl ?_
              refine s_alloc rfl AL34 hs ?_; clear hs; intro b25 w hs
              first
                | refine s_storeW Try.sizeOf34 rfl rfl rfl rfl hs (kk := 0) rfl rfl ?_
                | refine s_storeW Try.sizeOf34 rfl rfl rfl rfl hs (kk := 1) rfl rfl ?_
                | refine s_storeW Try.sizeOf34 rfl rfl rfl rfl hs (kk := 2) rfl rfl ?_
                | refine s_storeW Try.sizeOf34 rfl rfl rfl rfl hs (kk := 3) rfl rfl ?_
                | refine s_storeAB Try.sizeOf34 rfl rfl rfl rfl hs (kk := 0) rfl rfl ?_
                | refine s_storeAB Try.sizeOf34 rfl rfl rfl rfl hs (kk := 1) rfl rfl ?_
                | refine s_storeAB Try.sizeOf34 rfl rfl rfl rfl hs (kk := 2) rfl rfl ?_
                | refine s_storeAB Try.sizeOf34 rfl rfl rfl rfl hs (kk := 3) rfl rfl ?_
              clear hs; intro w hs; try simp only [List.set_cons_zero, List.set_cons_succ, splice, List.take_succ_cons, List.take_zero, List.drop_succ_cons, List.drop_zero, List.nil_append, List.cons_append, List.length_cons, List.length_nil, Nat.reduceAdd, List.append_assoc] at hs
              refine s_assign rfl rfl ?_
              refine WL_nil ?_
              refine n_then ?_
              refine W_seq ?_
              refine W_region ?_
              refine s_move rfl rfl ?_
              refine s_move rfl rfl ?_
              refine s_move rfl rfl ?_
              (refine s_indexAddr1 El30 rfl rfl rfl ?hx ?_; case hx => (constructor <;> first | omega | (simp; omega)))
              refine s_load Try.isAgg9 rfl rfl (hs.cell (k := 1) rfl (ruleS_at (show j < 3 by omega))) ?_
              refine s_move rfl rfl ?_
              refine s_move rfl rfl ?_
              refine s_add rfl rfl rfl ?_
              refine s_callL (M := _ :: _ :: LT') (L1 := LR') (X := []) Try.call19 rfl rfl (by simp only [List.append_nil, List.cons_append]; exact hs) (fun h => fHolder_ok b31 f' ks' _ (ruleS j) _ LR' w hR' h) ?_
              clear hs; rintro v w L9 ⟨hL9, y2, kn2, rfl, hy1, hy2⟩ - hs
              rw [hL9] at hs; clear hL9 L9
              simp only [List.append_nil, List.cons_append] at hs
              obtain ⟨rfl, rfl⟩ := holder_eq hx1 hx2 hy1 hy2
              refine s_move rfl rfl ?_
              refine s_extract rfl rfl rfl ?_
              refine s_extract rfl rfl rfl ?_
              refine s_alloc rfl AL34 hs ?_; clear hs; intro b27 w hs
              first
                | refine s_storeW Try.sizeOf34 rfl rfl rfl rfl hs (kk := 0) rfl rfl ?_
                | refine s_storeW Try.sizeOf34 rfl rfl rfl rfl hs (kk := 1) rfl rfl ?_
                | refine s_storeW Try.sizeOf34 rfl rfl rfl rfl hs (kk := 2) rfl rfl ?_
                | refine s_storeW Try.sizeOf34 rfl rfl rfl rfl hs (kk := 3) rfl rfl ?_
                | refine s_storeAB Try.sizeOf34 rfl rfl rfl rfl hs (kk := 0) rfl rfl ?_
                | refine s_storeAB Try.sizeOf34 rfl rfl rfl rfl hs (kk := 1) rfl rfl ?_
                | refine s_storeAB Try.sizeOf34 rfl rfl rfl rfl hs (kk := 2) rfl rfl ?_
                | refine s_storeAB Try.sizeOf34 rfl rfl rfl rfl hs (kk := 3) rfl rfl ?_
              clear hs; intro w hs; try simp only [List.set_cons_zero, List.set_cons_succ, splice, List.take_succ_cons, List.take_zero, List.drop_succ_cons, List.drop_zero, List.nil_append, List.cons_append, List.length_cons, List.length_nil, Nat.reduceAdd, List.append_assoc] at hs
              refine s_assign rfl rfl ?_
              refine WL_nil ?_
              refine n_then ?_
              refine W_seq ?_
              refine W_region ?_
              first
                | refine s_loadW Try.isAgg34 Try.sizeOf34 rfl rfl hs (kk := 0) rfl rfl ?_
                | refine s_loadW Try.isAgg34 Try.sizeOf34 rfl rfl hs (kk := 1) rfl rfl ?_
                | refine s_loadW Try.isAgg34 Try.sizeOf34 rfl rfl hs (kk := 2) rfl rfl ?_
                | refine s_loadW Try.isAgg34 Try.sizeOf34 rfl rfl hs (kk := 3) rfl rfl ?_
                | refine s_load_4 Try.isAgg34 Try.sizeOf34 rfl rfl (by first | exact hs.cell (k := 0) rfl rfl | exact hs.cell (k := 1) rfl rfl | exact hs.cell (k := 2) rfl rfl | exact hs.cell (k := 3) rfl rfl) (by first | exact hs.cell (k := 0) rfl rfl | exact hs.cell (k := 1) rfl rfl | exact hs.cell (k := 2) rfl rfl | exact hs.cell (k := 3) rfl rfl) (by first | exact hs.cell (k := 0) rfl rfl | exact hs.cell (k := 1) rfl rfl | exact hs.cell (k := 2) rfl rfl | exact hs.cell (k := 3) rfl rfl) (by first | exact hs.cell (k := 0) rfl rfl | exact hs.cell (k := 1) rfl rfl | exact hs.cell (k := 2) rfl rfl | exact hs.cell (k := 3) rfl rfl) ?_
              first
                | refine s_loadW Try.isAgg34 Try.sizeOf34 rfl rfl hs (kk := 0) rfl rfl ?_
                | refine s_loadW Try.isAgg34 Try.sizeOf34 rfl rfl hs (kk := 1) rfl rfl ?_
                | refine s_loadW Try.isAgg34 Try.sizeOf34 rfl rfl hs (kk := 2) rfl rfl ?_
                | refine s_loadW Try.isAgg34 Try.sizeOf34 rfl rfl hs (kk := 3) rfl rfl ?_
                | refine s_load_4 Try.isAgg34 Try.sizeOf34 rfl rfl (by first | exact hs.cell (k := 0) rfl rfl | exact hs.cell (k := 1) rfl rfl | exact hs.cell (k := 2) rfl rfl | exact hs.cell (k := 3) rfl rfl) (by first | exact hs.cell (k := 0) rfl rfl | exact hs.cell (k := 1) rfl rfl | exact hs.cell (k := 2) rfl rfl | exact hs.cell (k := 3) rfl rfl) (by first | exact hs.cell (k := 0) rfl rfl | exact hs.cell (k := 1) rfl rfl | exact hs.cell (k := 2) rfl rfl | exact hs.cell (k := 3) rfl rfl) (by first | exact hs.cell (k := 0) rfl rfl | exact hs.cell (k := 1) rfl rfl | exact hs.cell (k := 2) rfl rfl | exact hs.cell (k := 3) rfl rfl) ?_
              refine s_neq_agg EG34 rfl rfl rfl (SE34 _ _ _ _ _ _ _ _) ?_
              refine s_move rfl rfl ?_
              refine WL_know (s := 174) (c := false) rfl ((by simp)) ?_
              refine WL_take rfl ?_
              refine s_move rfl rfl ?_
              refine WL_take rfl ?_
              refine s_move rfl rfl ?_
              refine WL_take rfl ?_
              refine s_neq_bool Try.underlying4 rfl rfl rfl ?_
              refine s_pick_f rfl rfl rfl ?_
              refine WL_nil ?_
              refine n_then ?_
              refine W_cond_kf rfl ((by simp)) ?_
              refine W_skip ?_
              refine n_blk ?_
              refine n_then ?_
              refine W_region ?_
              refine s_move rfl rfl ?_
              first | (refine s_add' rfl rfl rfl ?hx ?_; case hx => (constructor <;> first | omega | (simp only; omega))) | refine s_add rfl rfl rfl ?_
              refine s_assign rfl rfl ?_
              refine WL_nil ?_
              refine n_loop ?_
              exact ⟨j + 1, ⟨rfl, rfl, rfl, rfl, rfl, rfl, rfl, rfl, rfl, rfl, rfl, trivial⟩, ⟨hs.tail.tail, by omega⟩, by omega⟩
            · skip
              try simp only [decide_eq_true_eq, decide_eq_false_iff_not, beq_iff_eq, beq_eq_false_iff_ne, ne_eq, bne_iff_ne, bne_eq_false_iff_eq, Bool.not_eq_true', Bool.not_eq_false'] at hc144
              refine W_exit ?_
              refine x_then ?_
              refine x_then ?_
              refine exit_hit ?_
              refine n_then ?_
              refine W_seq ?_
              refine W_draw [(0, true, []), (2, true, []), (3, true, []), (4, true, []), (5, true, []), (1, false, [2, 3, 4, 5]), (6, false, []), (7, true, [])] MX (by kernel_rfl) ?_
              intro w1 hw1 hw2 hw3 hw4; replace hs := hs.redrawn hw1 hw2 hw3 hw4; clear hw1 hw2 hw3 hw4
              obtain ⟨w, rfl⟩ : ∃ w : World, w = w1 := ⟨_, rfl⟩
              refine D_q rfl rfl ?_
              obtain ⟨zs, lv, cv, Ll, Lc, hLR, hf', hOl, hOc, hkok, hzm, hkm, hmm⟩ := id hR'
              subst hLR
              replace hs : St [] w0 w ((b31, Blk 29 [lv, cv]) :: (b34, rulesB) :: (LT' ++ (Ll ++ (Lc ++ rblks ks')))) := by simpa [cat] using St.reord [[_], LT', [_], Ll, Lc, rblks ks'] [2, 0, 1, 3, 4, 5] [] (by simpa [cat] using hs) rfl
              have hkl : cs'.length = ks'.length := by simpa using congrArg List.length hbs'
              refine s_move rfl rfl ?_
              refine D_qn ?_
              refine D_q rfl rfl ?_
              refine s_move rfl rfl ?_
              refine D_qn ?_
              refine D_q rfl rfl ?_
              refine s_nilCheck rfl rfl ?_
              refine D_qn ?_
              refine D_q rfl rfl ?_
              refine s_fieldAddr rfl rfl (FA29_1 _ _) ?_
              refine D_qn ?_
              refine D_q rfl rfl ?_
              first
                | refine s_load Try.isAgg27 rfl rfl (hs.cell (k := 0) rfl rfl) ?_
                | refine s_load Try.isAgg27 rfl rfl (hs.cell (k := 1) rfl rfl) ?_
                | refine s_load Try.isAgg27 rfl rfl (hs.cell (k := 2) rfl rfl) ?_
                | refine s_load Try.isAgg27 rfl rfl (hs.cell (k := 3) rfl rfl) ?_
              refine D_qn ?_
              refine D_e rfl ?_
              refine s_callL (M := [_, _]) (L1 := LT') (X := Ll ++ (Lc ++ rblks ks')) Try.call25 rfl rfl hs (fun h => commands_ok p f' cs' LT' w hT' h (by omega)) ?_
              clear hs; rintro rv w L9 ⟨cs2, Lr, rfl, hOr, hbs2, hok2⟩ - hs
              simp only [List.cons_append, List.nil_append, List.append_assoc] at hs
              have h2l : cs2.length = cs'.length := by simpa using congrArg List.length hbs2
              refine D_en ?re ?_
              case re =>
                refine Reks_cons rfl rfl rfl rfl ?_ ?_
                · skip
                  refine s_move rfl rfl ?_
                  exact Rek_end rfl
                refine Reks_cons rfl rfl rfl rfl ?_ ?_
                · skip
                  refine s_nilCheck rfl rfl ?_
                  exact Rek_end rfl
                refine Reks_cons rfl rfl rfl rfl ?_ ?_
                · skip
                  refine s_fieldAddr rfl rfl (FA29_1 _ _) ?_
                  exact Rek_end rfl
                refine Reks_cons rfl rfl rfl rfl ?_ ?_
                · skip
                  first
                    | refine s_load Try.isAgg27 rfl rfl (hs.cell (k := 0) rfl rfl) ?_
                    | refine s_load Try.isAgg27 rfl rfl (hs.cell (k := 1) rfl rfl) ?_
                    | refine s_load Try.isAgg27 rfl rfl (hs.cell (k := 2) rfl rfl) ?_
                    | refine s_load Try.isAgg27 rfl rfl (hs.cell (k := 3) rfl rfl) ?_
                  exact Rek_end rfl
                exact Reks_nil
              refine D_e rfl ?_
              refine s_call Try.call24 rfl rfl (sameLists_ok _ _ (cs2.map fun c => (c.v, c.bs)) (ks'.map fun c => (c.v, c.bs)) w
                (by rw [List.length_map, h2l, List.map_map]; exact hOr.slM (M := _ :: _ :: LT') (X := cblks cs2 ++ (Ll ++ (Lc ++ rblks ks'))) (by simp only [List.cons_append]; exact hs))
                (by rw [List.length_map, List.map_map]; exact hOc.slM (M := _ :: _ :: (LT' ++ (Lr ++ (cblks cs2 ++ Ll)))) (X := rblks ks') (by simp only [List.cons_append, List.append_assoc]; exact hs))
                (fun x hx => by
                  obtain ⟨d, hd, rfl⟩ := List.mem_map.1 hx
                  exact ⟨OwnS_slIn (hok2 d hd).1 (fun q hq => hs.own q (by have := cblks_of hd q hq; simp [this])), (hok2 d hd).2⟩)
                (fun x hx => by
                  obtain ⟨d, hd, rfl⟩ := List.mem_map.1 hx
                  exact (hkok d hd).1.sl w (fun q hq => hs.own q (by have : q ∈ rblks ks' := List.mem_flatMap.2 ⟨d, hd, hq⟩; simp [this])))
                (by rw [List.length_map]; omega)) ?_
              rintro r w ⟨hst, rfl⟩
              replace hs := hs.fwd1 hst
              clear hst
              have hsame : (cs2.map fun c => (c.v, c.bs)).map (·.2) = (ks'.map fun c => (c.v, c.bs)).map (·.2) := by
                rw [List.map_map, List.map_map]
                exact hbs2.trans hbs'
              rw [decide_eq_true hsame]
              refine D_en ?re ?_
              case re =>
                exact Reks_nil
              refine D_q rfl rfl ?_
              refine s_not rfl rfl ?_
              refine D_qn ?_
              refine D_nil ?_
              refine n_then ?_
              refine W_cond_kf rfl (rfl) ?_
              refine W_skip ?_
              refine n_blk ?_
              refine n_then ?_
              refine W_region ?_
              refine s_move rfl rfl ?_
              first | (refine s_add' rfl rfl rfl ?hx ?_; case hx => (constructor <;> first | omega | (simp only; omega))) | refine s_add rfl rfl rfl ?_
              refine s_assign rfl rfl ?_
              refine WL_nil ?_
              refine n_loop ?_
              refine ⟨⟨i + 1, f', cs', ks', LT', _⟩, ⟨rfl, rfl, rfl, rfl, rfl, rfl, rfl, rfl, rfl, trivial⟩, ⟨?_, hT', hR', hbs', hB', by simp only; omega⟩, by simp only; omega⟩
              simpa [cat] using St.reord [[_], [_], LT', Lr ++ cblks cs2, Ll, Lc, rblks ks'] [1, 2, 0, 4, 5, 6] [3] (by simpa [cat] using hs) rfl
    · skip
      try simp only [decide_eq_true_eq, decide_eq_false_iff_not, beq_iff_eq, beq_eq_false_iff_ne, ne_eq, bne_iff_ne, bne_eq_false_iff_eq, Bool.not_eq_true', Bool.not_eq_false'] at hc42
      refine W_exit ?_
      refine x_then ?_
      refine x_then ?_
      refine exit_hit ?_
      refine n_then ?_
      refine W_seq ?_
      refine W_region ?_
      refine s_call Try.call26 rfl rfl (lives_ok w) ?_
      rintro r w ⟨hst, rfl⟩
      replace hs := hs.fwd1 hst
      clear hst
      refine s_assign rfl rfl ?_
      refine WL_nil ?_
      refine n_then ?_
      refine W_ret ?_
      exact end1 rfl rfl ⟨hs.fwd, rfl⟩
  · skip
    try simp only [decide_eq_true_eq, decide_eq_false_iff_not, beq_iff_eq, beq_eq_false_iff_ne, ne_eq, bne_iff_ne, bne_eq_false_iff_eq, Bool.not_eq_true', Bool.not_eq_false'] at hg39
    refine WL_skip rfl rfl rfl ?_
    refine WL_skip rfl rfl rfl ?_
    refine s_pick_f rfl rfl rfl ?_
    refine WL_nil ?_
    refine n_then ?_
    refine W_cond_f rfl ?_
    refine W_exit ?_
    refine x_then ?_
    refine x_then ?_
    refine exit_hit ?_
    refine n_then ?_
    refine W_seq ?_
    refine W_region ?_
    refine s_call Try.call26 rfl rfl (lives_ok w) ?_
    rintro r w ⟨hst, rfl⟩
    replace hs := hs.fwd1 hst
    clear hst
    refine s_assign rfl rfl ?_
    refine WL_nil ?_
    refine n_then ?_
    refine W_ret ?_
    exact end1 rfl rfl ⟨hs.fwd, rfl⟩
end Go.Proofs.Ytofnocjopdgeaaa
