/- Contracts of package bits: the writer (names apart from those of package wire). -/
import Derived.Test.YtbcdnpjcbchbjaaDoorBtP
import Derived.Test.YtbcdnpjcbchbjaaDoorRng
import Derived.Test.YtbcdnpjcbchbjaaDoorCut
set_option linter.unusedVariables false
set_option linter.unusedSimpArgs false
namespace Go.Proofs.YtbcdnpjcbchbjaaDoor
open Go.SL
/-- the writer at p: the bits so far -/
def WbAt (p : Nat) (bs : List Bool) (L : Hp) : Prop := ∃ v Lb, L = (p, Blk 59 [v, .int .i64 (bs.length : Int)]) :: Lb ∧ OwnS 5 1 v (pk bs).length (u8s (pk bs)) Lb
def clampV (c : Int) : Int := if 64 < (if c < 0 then 0 else c) then 64 else (if c < 0 then 0 else c)
theorem clamp_ok (c : Int) (w0 : World) : Ret Tryd.prog 56 [.int .i64 c].toArray w0 fun r w' => w' = w0 ∧ r = .int .i64 (clampV c) := by
  refine Ret_of Tryd.func56 rfl Tryd.ntmps56 rfl ?_
  refine W_seq ?_
  refine W_region ?_
  refine s_assign rfl rfl ?_
  refine WL_nil ?_
  refine n_then ?_
  refine W_seq ?_
  refine W_region ?_
  refine s_move rfl rfl ?_
  refine s_max rfl rfl rfl ?_
  refine s_min rfl rfl rfl ?_
  refine s_assign rfl rfl ?_
  refine WL_nil ?_
  refine n_then ?_
  refine W_ret ?_
  exact end1 rfl rfl ⟨rfl, rfl⟩
theorem positions_ok (c : Int) (w0 : World) : Ret Tryd.prog 55 [.int .i64 c].toArray w0 fun r w' => ∃ b, r = .func (.func 60) [].toArray [.pointer (some ⟨b, 0, none⟩)].toArray ∧ St [] w0 w' [(b, Blk 3 [.int .i64 c])] := by
  refine Ret_start fun w hs => ?_
  refine Ret_of Tryd.func55 rfl Tryd.ntmps55 rfl ?_
  refine W_seq ?_
  refine W_region ?_
  first | refine s_box rfl rfl hs ?_ | refine s_box1 rfl rfl rfl hs ?_
  clear hs; intro b1 w hs
  refine s_assign rfl rfl ?_
  refine WL_nil ?_
  refine n_then ?_
  refine W_seq ?_
  refine W_region ?_
  refine s_makeFunc rfl rfl rfl ?_
  refine s_assign rfl rfl ?_
  refine WL_nil ?_
  refine n_then ?_
  refine W_ret ?_
  exact end1 rfl rfl ⟨b1, rfl, hs⟩
theorem posIter_ok (lp b c : Nat) (hc : c ≤ 64) (I : Nat → World → Prop) (hrd : ∀ i w, I i w → w.cell? ⟨b, 0, none⟩ = some (.int .i64 (c : Int)))
    (round : ∀ i w, i < c → I (i + 1) w → YieldAt Fence.wide 0 Tryd.prog lp #[.int .i64 (i : Int)] w (fun e w' => e = .returned (.bool true) ∧ I i w')) (w0 : World) (h0 : I c w0) :
    Ret Tryd.prog 60 [.func (.yield lp) #[] #[], .pointer (some ⟨b, 0, none⟩)].toArray w0 fun _ w' => I 0 w' := by
  refine Ret_of Tryd.func60 rfl Tryd.ntmps60 rfl ?_
  refine W_seq ?_
  refine W_region ?_
  first
    | refine s_load Tryd.isAgg3 rfl rfl (hrd _ _ h0) ?_
  first | (refine s_sub' rfl rfl rfl ?hx ?_; case hx => (constructor <;> first | omega | (simp only; omega))) | refine s_sub rfl rfl rfl ?_
  refine s_assign rfl rfl ?_
  refine WL_nil ?_
  refine n_then ?_
  refine W_block ?_
  refine W_loop (σ := Nat) (fun s => [(0, .func (.yield lp) #[] #[]), (1, .pointer (some ⟨b, 0, none⟩)), (3, .int .i64 ((s : Int) - 1))]) (fun s w => I s w ∧ s ≤ c) (fun s => s) c ⟨rfl, rfl, rfl, trivial⟩ ⟨h0, Nat.le_refl _⟩ ?_
  rintro i w ⟨hI, hi⟩
  refine W_seq ?_
  refine W_seq ?_
  refine W_region ?_
  refine s_move rfl rfl ?_
  refine s_geq rfl rfl rfl ?_
  refine WL_nil ?_
  refine n_then ?_
  refine W_cond rfl (fun hc7 => ?_) (fun hc7 => ?_)
  · skip
    simp only [decide_eq_true_eq, decide_eq_false_iff_not] at hc7
    obtain ⟨j, rfl⟩ : ∃ j, i = j + 1 := ⟨i - 1, by omega⟩
    have e9 : ((j + 1 : Nat) : Int) - 1 = (j : Int) := by omega
    rw [e9]
    refine W_skip ?_
    refine n_then ?_
    refine W_seq ?_
    refine W_block ?_
    refine W_seq ?_
    refine I_region ?_
    refine I_step rfl ?_
    refine s_move rfl rfl ?_
    refine I_next ?_
    refine I_step rfl ?_
    refine s_move rfl rfl ?_
    refine I_next ?_
    refine I_yield (R := fun w' => I j w') rfl rfl rfl (round j w (by omega) hI) ?_
    clear hI; intro w hI
    refine I_step rfl ?_
    refine s_not rfl rfl ?_
    refine I_next ?_
    refine I_nil ?_
    refine n_then ?_
    refine W_cond_f rfl ?_
    refine W_skip ?_
    refine n_blk ?_
    refine n_then ?_
    refine W_region ?_
    refine s_move rfl rfl ?_
    first | (refine s_sub' rfl rfl rfl ?hx ?_; case hx => (constructor <;> first | omega | (simp only; omega))) | refine s_sub rfl rfl rfl ?_
    refine s_assign rfl rfl ?_
    refine WL_nil ?_
    refine n_loop ?_
    exact ⟨j, ⟨rfl, rfl, rfl, trivial⟩, ⟨hI, by omega⟩, Nat.lt_succ_self _⟩
  · skip
    simp only [decide_eq_true_eq, decide_eq_false_iff_not] at hc7
    refine W_exit ?_
    refine x_then ?_
    refine x_then ?_
    refine exit_hit ?_
    obtain rfl : i = 0 := by omega
    exact end0' rfl hI
/-! bit -/
theorem own_set8 {e n c g i : Nat} {zs : List Int} {sp : List Value} (x : Int) (h : OwnS e 1 (.slice (some ⟨g, 0, none⟩) n c) n (u8s zs) [(g, Blk e (u8s zs ++ sp))]) (hi : i < n) :
    OwnS e 1 (.slice (some ⟨g, 0, none⟩) n c) n (u8s (zs.set i x)) [(g, Blk e ((u8s zs ++ sp).set i (.int .u8 x)))] := by
  obtain ⟨h1, h2⟩ := h
  have hl : zs.length = n := by simpa using h1
  rcases h2 with ⟨_, h2, _⟩ | ⟨g', cap, sp', h2, h3, h4, h5, h6⟩
  · omega
  · cases h2
    have e : (u8s zs ++ sp).set i (.int .u8 x) = u8s (zs.set i x) ++ sp := by rw [List.set_append_left _ _ (by simpa [hl] using hi)]; simp [u8s, List.map_set]
    simp only [List.cons.injEq, Prod.mk.injEq, and_true, true_and] at h6
    have h7 : sp = sp' := by injection h6 with h6; simpa using h6
    subst h7
    exact ⟨by simp [hl], .inr ⟨_, _, sp, rfl, h3, by simpa using h4, by simpa using h5, by rw [e]⟩⟩
theorem bit_ok (p : Nat) (bs : List Bool) (b : Bool) (L0 : Hp) (w0 : World) (hW : WbAt p bs L0) (hs : St (ids L0) w0 w0 L0) (hl : bs.length ≤ 1099511627776) :
    Ret Tryd.prog 54 [.pointer (some ⟨p, 0, none⟩), .bool b].toArray w0 fun r w' => ∃ L', St (ids L0) w0 w' L' ∧ WbAt p (bs ++ [b]) L' ∧ r = .tuple #[] := by
  obtain ⟨v, Lb, hL, hO⟩ := hW
  have hpl := pk_length bs
  obtain ⟨_, vc, va, rfl, rfl⟩ := hO.form
  replace hs : St (ids L0) w0 w0 ((p, Blk 59 [.slice va (pk bs).length vc, .int .i64 (bs.length : Int)]) :: Lb) := by rw [hL] at hs ⊢; exact hs
  refine Ret_startL hs fun w hs => ?_
  refine Ret_of Tryd.func54 rfl Tryd.ntmps54 rfl ?_
  refine W_cut (σ := Value × Hp) (fun s => [(0, .pointer (some ⟨p, 0, none⟩)), (1, .bool b)]) (fun s w => St (ids L0) w0 w ((p, Blk 59 [s.1, .int .i64 (bs.length : Int)]) :: s.2) ∧ OwnS 5 1 s.1 (pkx bs).length (u8s (pkx bs)) s.2) ?_ ?_
  · skip
    refine W_seq ?_
    refine W_region ?_
    refine s_move rfl rfl ?_
    refine s_nilCheck rfl rfl ?_
    refine s_fieldAddr rfl rfl (FA59_1 _ _) ?_
    first
      | refine s_load Tryd.isAgg3 rfl rfl (hs.cell (k := 0) rfl rfl) ?_
      | refine s_load Tryd.isAgg3 rfl rfl (hs.cell (k := 1) rfl rfl) ?_
      | refine s_load Tryd.isAgg3 rfl rfl (hs.cell (k := 2) rfl rfl) ?_
      | refine s_load Tryd.isAgg3 rfl rfl (hs.cell (k := 3) rfl rfl) ?_
      | refine s_load Tryd.isAgg3 rfl rfl (hs.cell (k := 4) rfl rfl) ?_
      | refine s_load Tryd.isAgg3 rfl rfl (hs.cell (k := 5) rfl rfl) ?_
      | refine s_load Tryd.isAgg3 rfl rfl (hs.cell (k := 6) rfl rfl) ?_
      | refine s_load Tryd.isAgg3 rfl rfl (hs.cell (k := 7) rfl rfl) ?_
      | refine s_load Tryd.isAgg3 rfl rfl (hs.cell (k := 8) rfl rfl) ?_
      | refine s_load Tryd.isAgg3 rfl rfl (hs.cell (k := 9) rfl rfl) ?_
    first | (refine s_rem' rfl rfl rfl ?hx ?_; case hx => (refine ⟨?_, ?_⟩ <;> omega)) | (refine s_rem rfl rfl rfl ?hx ?_; case hx => omega)
    refine s_eql rfl rfl rfl ?_
    refine WL_nil ?_
    refine n_then ?_
    refine W_cond rfl (fun hc9 => ?_) (fun hc9 => ?_)
    · skip
      try simp only [decide_eq_true_eq, decide_eq_false_iff_not, beq_iff_eq, beq_eq_false_iff_ne, ne_eq] at hc9
      refine W_region ?_
      refine s_move rfl rfl ?_
      refine s_move rfl rfl ?_
      refine s_nilCheck rfl rfl ?_
      refine s_fieldAddr rfl rfl (FA59_0 _ _) ?_
      first
        | refine s_load Tryd.isAgg29 rfl rfl (hs.cell (k := 0) rfl rfl) ?_
        | refine s_load Tryd.isAgg29 rfl rfl (hs.cell (k := 1) rfl rfl) ?_
        | refine s_load Tryd.isAgg29 rfl rfl (hs.cell (k := 2) rfl rfl) ?_
        | refine s_load Tryd.isAgg29 rfl rfl (hs.cell (k := 3) rfl rfl) ?_
        | refine s_load Tryd.isAgg29 rfl rfl (hs.cell (k := 4) rfl rfl) ?_
        | refine s_load Tryd.isAgg29 rfl rfl (hs.cell (k := 5) rfl rfl) ?_
        | refine s_load Tryd.isAgg29 rfl rfl (hs.cell (k := 6) rfl rfl) ?_
        | refine s_load Tryd.isAgg29 rfl rfl (hs.cell (k := 7) rfl rfl) ?_
        | refine s_load Tryd.isAgg29 rfl rfl (hs.cell (k := 8) rfl rfl) ?_
        | refine s_load Tryd.isAgg29 rfl rfl (hs.cell (k := 9) rfl rfl) ?_
      refine s_buildSlice rfl rfl (BS29_1 _) hs ?_; clear hs; intro b15 w hs
      refine s_appendM (M := [_, _]) (X := []) El29 rfl rfl rfl hO (by simpa using hs) (hs.sl (k := 0) (ds := [_]) rfl (Nat.le_refl _) (by intro j u hj; rw [Nat.zero_add]; exact hj)) rfl (by simp [Value.oneCell']) (by omega) ?_
      clear hs; intro v' w Lv' hO' hs
      obtain ⟨_, vc', va', rfl, rfl⟩ := hO'.form
      simp only [List.cons_append, List.nil_append, List.append_nil] at hs
      refine s_nilCheck rfl rfl ?_
      refine s_fieldAddr rfl rfl (FA59_0 _ _) ?_
      first
        | refine s_storeB Tryd.sizeOf29 rfl rfl rfl hs (kk := 0) rfl rfl ?_
        | refine s_storeB Tryd.sizeOf29 rfl rfl rfl hs (kk := 1) rfl rfl ?_
        | refine s_storeB Tryd.sizeOf29 rfl rfl rfl hs (kk := 2) rfl rfl ?_
        | refine s_storeB Tryd.sizeOf29 rfl rfl rfl hs (kk := 3) rfl rfl ?_
        | refine s_storeB Tryd.sizeOf29 rfl rfl rfl hs (kk := 4) rfl rfl ?_
        | refine s_storeB Tryd.sizeOf29 rfl rfl rfl hs (kk := 5) rfl rfl ?_
        | refine s_storeB Tryd.sizeOf29 rfl rfl rfl hs (kk := 6) rfl rfl ?_
        | refine s_storeB Tryd.sizeOf29 rfl rfl rfl hs (kk := 7) rfl rfl ?_
        | refine s_storeB Tryd.sizeOf29 rfl rfl rfl hs (kk := 8) rfl rfl ?_
        | refine s_storeB Tryd.sizeOf29 rfl rfl rfl hs (kk := 9) rfl rfl ?_
      clear hs; intro w hs; try simp only [List.set_cons_zero, List.set_cons_succ, splice, List.take_succ_cons, List.take_zero, List.drop_succ_cons, List.drop_zero, List.nil_append, List.cons_append, List.length_cons, List.length_nil, Nat.reduceAdd, List.append_assoc] at hs
      refine WL_nil ?_
      refine n_loop ?_
      first
        | exact ⟨(_, _), ⟨rfl, rfl, trivial⟩, hs.tail, by simp only; rw [← pk_pkx_new (by omega)]; simpa using hO'⟩
        | exact ⟨(_, _), ⟨rfl, rfl, trivial⟩, hs, by simp only; rw [← pk_pkx_old (by omega)]; exact hO⟩
    · skip
      try simp only [decide_eq_true_eq, decide_eq_false_iff_not, beq_iff_eq, beq_eq_false_iff_ne, ne_eq] at hc9
      refine W_skip ?_
      refine n_loop ?_
      first
        | exact ⟨(_, _), ⟨rfl, rfl, trivial⟩, hs.tail, by simp only; rw [← pk_pkx_new (by omega)]; simpa using hO'⟩
        | exact ⟨(_, _), ⟨rfl, rfl, trivial⟩, hs, by simp only; rw [← pk_pkx_old (by omega)]; exact hO⟩
  · skip
    clear hs hO hpl
    rintro ⟨v, Lb⟩ w ⟨hs, hO⟩
    simp only at hs hO
    have hxl := pkx_length bs
    obtain ⟨g, vc, sp, rfl, hgc, rfl⟩ := hO.block (by omega)
    rw [hxl] at hs hO
    have hat : (u8s (pkx bs) ++ sp)[bs.length / 8]? = some (.int .u8 (byteAt bs (bs.length / 8) : Int)) := by
      rw [List.getElem?_append_left (by simp [hxl])]; simp [u8s, pkx_at (show bs.length / 8 < bs.length / 8 + 1 by omega)]
    have hor : byteAt bs (bs.length / 8) ||| 128 / 2 ^ (bs.length % 8) = byteAt bs (bs.length / 8) + 128 / 2 ^ (bs.length % 8) := b8_or (fun i => gb bs (8 * (bs.length / 8) + i)) (bs.length % 8) (by omega) (gb_ge (by omega))
    refine W_seq ?_
    refine W_seq ?_
    refine W_region ?_
    refine s_move rfl rfl ?_
    refine WL_nil ?_
    refine n_then ?_
    refine W_cond rfl (fun hc19 => ?_) (fun hc19 => ?_)
    · skip
      try simp only [decide_eq_true_eq, decide_eq_false_iff_not, beq_iff_eq, beq_eq_false_iff_ne, ne_eq] at hc19
      refine W_draw [(0, true, []), (1, true, []), (2, true, []), (3, true, []), (4, true, []), (5, true, []), (6, true, []), (7, true, []), (8, true, []), (9, true, []), (10, true, []), (11, true, []), (12, true, []), (13, true, []), (14, true, []), (15, true, []), (16, true, []), (17, true, []), (18, true, []), (19, true, []), (20, false, [])] [[], [0], [0, 1], [0, 1, 2], [], [4], [4, 5], [4, 5, 6], [4, 5, 6, 7], [4, 5, 6, 7, 8], [0, 1, 2, 3, 4, 5, 6, 7, 8, 9], [0, 1, 2, 3, 4, 5, 6, 7, 8, 9, 10], [], [12], [12, 13], [12, 13, 14], [12, 13, 14, 15], [12, 13, 14, 15, 16], [0, 1, 2, 3, 4, 5, 6, 7, 8, 9, 10, 11, 12, 13, 14, 15, 16, 17], [0, 1, 2, 3, 4, 5, 6, 7, 8, 9, 10, 11, 12, 13, 14, 15, 16, 17, 18], [0, 1, 2, 3, 4, 5, 6, 7, 8, 9, 10, 11, 12, 13, 14, 15, 16, 17, 18, 19]] MX (by kernel_rfl) ?_
      intro w1 hw1 hw2 hw3 hw4; replace hs := hs.redrawn hw1 hw2 hw3 hw4; clear hw1 hw2 hw3 hw4
      obtain ⟨w, rfl⟩ : ∃ w : World, w = w1 := ⟨_, rfl⟩
      refine D_q rfl rfl ?_
      refine s_move rfl rfl ?_
      refine D_qn ?_
      refine D_q rfl rfl ?_
      refine s_nilCheck rfl rfl ?_
      refine D_qn ?_
      refine D_q rfl rfl ?_
      refine s_fieldAddr rfl rfl (FA59_0 _ _) ?_
      refine D_qn ?_
      refine D_q rfl rfl ?_
      first
        | refine s_load Tryd.isAgg29 rfl rfl (hs.cell (k := 0) rfl rfl) ?_
        | refine s_load Tryd.isAgg29 rfl rfl (hs.cell (k := 1) rfl rfl) ?_
        | refine s_load Tryd.isAgg29 rfl rfl (hs.cell (k := 2) rfl rfl) ?_
        | refine s_load Tryd.isAgg29 rfl rfl (hs.cell (k := 3) rfl rfl) ?_
        | refine s_load Tryd.isAgg29 rfl rfl (hs.cell (k := 4) rfl rfl) ?_
        | refine s_load Tryd.isAgg29 rfl rfl (hs.cell (k := 5) rfl rfl) ?_
        | refine s_load Tryd.isAgg29 rfl rfl (hs.cell (k := 6) rfl rfl) ?_
        | refine s_load Tryd.isAgg29 rfl rfl (hs.cell (k := 7) rfl rfl) ?_
        | refine s_load Tryd.isAgg29 rfl rfl (hs.cell (k := 8) rfl rfl) ?_
        | refine s_load Tryd.isAgg29 rfl rfl (hs.cell (k := 9) rfl rfl) ?_
      refine D_qn ?_
      refine D_q rfl rfl ?_
      refine s_move rfl rfl ?_
      refine D_qn ?_
      refine D_q rfl rfl ?_
      refine s_nilCheck rfl rfl ?_
      refine D_qn ?_
      refine D_q rfl rfl ?_
      refine s_fieldAddr rfl rfl (FA59_0 _ _) ?_
      refine D_qn ?_
      refine D_q rfl rfl ?_
      first
        | refine s_load Tryd.isAgg29 rfl rfl (hs.cell (k := 0) rfl rfl) ?_
        | refine s_load Tryd.isAgg29 rfl rfl (hs.cell (k := 1) rfl rfl) ?_
        | refine s_load Tryd.isAgg29 rfl rfl (hs.cell (k := 2) rfl rfl) ?_
        | refine s_load Tryd.isAgg29 rfl rfl (hs.cell (k := 3) rfl rfl) ?_
        | refine s_load Tryd.isAgg29 rfl rfl (hs.cell (k := 4) rfl rfl) ?_
        | refine s_load Tryd.isAgg29 rfl rfl (hs.cell (k := 5) rfl rfl) ?_
        | refine s_load Tryd.isAgg29 rfl rfl (hs.cell (k := 6) rfl rfl) ?_
        | refine s_load Tryd.isAgg29 rfl rfl (hs.cell (k := 7) rfl rfl) ?_
        | refine s_load Tryd.isAgg29 rfl rfl (hs.cell (k := 8) rfl rfl) ?_
        | refine s_load Tryd.isAgg29 rfl rfl (hs.cell (k := 9) rfl rfl) ?_
      refine D_qn ?_
      refine D_q rfl rfl ?_
      refine s_len rfl rfl (LN29 _ _ _ _) ?_
      refine D_qn ?_
      refine D_q rfl rfl ?_
      (refine s_sub' rfl rfl rfl ?hx ?_; case hx => (constructor <;> omega))
      rw [show ((bs.length / 8 + 1 : Nat) : Int) - 1 = ((bs.length / 8 : Nat) : Int) from by omega]
      refine D_qn ?_
      refine D_q rfl rfl ?_
      (refine s_indexAddr1 El29 rfl rfl rfl ?hx ?_; case hx => (constructor <;> omega))
      rw [show 0 + ((bs.length / 8 : Nat) : Int).toNat = bs.length / 8 from by omega]
      refine D_qn ?_
      refine D_q rfl rfl ?_
      refine s_load Tryd.isAgg5 rfl rfl (hs.cell (k := 1) rfl hat) ?_
      refine D_qn ?_
      refine D_q rfl rfl ?_
      refine s_move rfl rfl ?_
      refine D_qn ?_
      refine D_q rfl rfl ?_
      refine s_nilCheck rfl rfl ?_
      refine D_qn ?_
      refine D_q rfl rfl ?_
      refine s_fieldAddr rfl rfl (FA59_1 _ _) ?_
      refine D_qn ?_
      refine D_q rfl rfl ?_
      first
        | refine s_load Tryd.isAgg3 rfl rfl (hs.cell (k := 0) rfl rfl) ?_
        | refine s_load Tryd.isAgg3 rfl rfl (hs.cell (k := 1) rfl rfl) ?_
        | refine s_load Tryd.isAgg3 rfl rfl (hs.cell (k := 2) rfl rfl) ?_
        | refine s_load Tryd.isAgg3 rfl rfl (hs.cell (k := 3) rfl rfl) ?_
        | refine s_load Tryd.isAgg3 rfl rfl (hs.cell (k := 4) rfl rfl) ?_
        | refine s_load Tryd.isAgg3 rfl rfl (hs.cell (k := 5) rfl rfl) ?_
        | refine s_load Tryd.isAgg3 rfl rfl (hs.cell (k := 6) rfl rfl) ?_
        | refine s_load Tryd.isAgg3 rfl rfl (hs.cell (k := 7) rfl rfl) ?_
        | refine s_load Tryd.isAgg3 rfl rfl (hs.cell (k := 8) rfl rfl) ?_
        | refine s_load Tryd.isAgg3 rfl rfl (hs.cell (k := 9) rfl rfl) ?_
      refine D_qn ?_
      refine D_q rfl rfl ?_
      (refine s_rem' rfl rfl rfl ?hx ?_; case hx => (refine ⟨?_, ?_⟩ <;> omega))
      rw [show (bs.length : Int) % 8 = ((bs.length % 8 : Nat) : Int) from by omega]
      refine D_qn ?_
      refine D_q rfl rfl ?_
      (refine s_shr rfl rfl rfl ?hx ?_; case hx => omega)
      rw [shr128 _ (by omega)]
      refine D_qn ?_
      refine D_q rfl rfl ?_
      refine s_or rfl rfl rfl ?_
      rw [or8 _ _ (byteAt_lt _ _) (p2_le _), hor]
      refine D_qn ?_
      refine D_q rfl rfl ?_
      (refine s_indexAddr1 El29 rfl rfl rfl ?hx ?_; case hx => (constructor <;> omega))
      rw [show 0 + ((bs.length / 8 : Nat) : Int).toNat = bs.length / 8 from by omega]
      refine D_qn ?_
      refine D_e rfl ?_
      refine s_store Tryd.sizeOf5 rfl rfl rfl hs (kk := 1) rfl (by simp [hxl]; omega) ?_
      clear hs; intro w hs
      simp only [List.set_cons_zero, List.set_cons_succ] at hs
      refine D_en ?re ?_
      case re =>
        exact Reks_nil
      refine D_nil ?_
      refine n_then ?_
      refine W_region ?_
      refine s_move rfl rfl ?_
      refine s_nilCheck rfl rfl ?_
      refine s_fieldAddr rfl rfl (FA59_1 _ _) ?_
      first
        | refine s_load Tryd.isAgg3 rfl rfl (hs.cell (k := 0) rfl rfl) ?_
        | refine s_load Tryd.isAgg3 rfl rfl (hs.cell (k := 1) rfl rfl) ?_
        | refine s_load Tryd.isAgg3 rfl rfl (hs.cell (k := 2) rfl rfl) ?_
        | refine s_load Tryd.isAgg3 rfl rfl (hs.cell (k := 3) rfl rfl) ?_
        | refine s_load Tryd.isAgg3 rfl rfl (hs.cell (k := 4) rfl rfl) ?_
        | refine s_load Tryd.isAgg3 rfl rfl (hs.cell (k := 5) rfl rfl) ?_
        | refine s_load Tryd.isAgg3 rfl rfl (hs.cell (k := 6) rfl rfl) ?_
        | refine s_load Tryd.isAgg3 rfl rfl (hs.cell (k := 7) rfl rfl) ?_
        | refine s_load Tryd.isAgg3 rfl rfl (hs.cell (k := 8) rfl rfl) ?_
        | refine s_load Tryd.isAgg3 rfl rfl (hs.cell (k := 9) rfl rfl) ?_
      first | (refine s_add' rfl rfl rfl ?hx ?_; case hx => (constructor <;> first | omega | (simp only; omega))) | refine s_add rfl rfl rfl ?_
      refine s_nilCheck rfl rfl ?_
      refine s_fieldAddr rfl rfl (FA59_1 _ _) ?_
      first
        | refine s_storeB Tryd.sizeOf3 rfl rfl rfl hs (kk := 0) rfl rfl ?_
        | refine s_storeB Tryd.sizeOf3 rfl rfl rfl hs (kk := 1) rfl rfl ?_
        | refine s_storeB Tryd.sizeOf3 rfl rfl rfl hs (kk := 2) rfl rfl ?_
        | refine s_storeB Tryd.sizeOf3 rfl rfl rfl hs (kk := 3) rfl rfl ?_
        | refine s_storeB Tryd.sizeOf3 rfl rfl rfl hs (kk := 4) rfl rfl ?_
        | refine s_storeB Tryd.sizeOf3 rfl rfl rfl hs (kk := 5) rfl rfl ?_
        | refine s_storeB Tryd.sizeOf3 rfl rfl rfl hs (kk := 6) rfl rfl ?_
        | refine s_storeB Tryd.sizeOf3 rfl rfl rfl hs (kk := 7) rfl rfl ?_
        | refine s_storeB Tryd.sizeOf3 rfl rfl rfl hs (kk := 8) rfl rfl ?_
        | refine s_storeB Tryd.sizeOf3 rfl rfl rfl hs (kk := 9) rfl rfl ?_
      clear hs; intro w hs; try simp only [List.set_cons_zero, List.set_cons_succ, splice, List.take_succ_cons, List.take_zero, List.drop_succ_cons, List.drop_zero, List.nil_append, List.cons_append, List.length_cons, List.length_nil, Nat.reduceAdd, List.append_assoc] at hs
      refine WL_nil ?_
      first
        | (subst hc19
           refine end0' rfl ⟨_, hs, ⟨_, _, by simp only [List.length_append, List.length_cons, List.length_nil, Int.natCast_add, Int.natCast_one]; rfl, ?_⟩, rfl⟩
           rw [pk_snoc]
           simp only [Bool.toNat_true, Nat.one_mul, List.length_set, hxl]
           exact own_set8 _ hO (by omega))
        | (subst hc19
           refine end0' rfl ⟨_, hs, ⟨_, _, by simp only [List.length_append, List.length_cons, List.length_nil, Int.natCast_add, Int.natCast_one]; rfl, ?_⟩, rfl⟩
           rw [pk_snoc_false, hxl]; exact hO)
    · skip
      try simp only [decide_eq_true_eq, decide_eq_false_iff_not, beq_iff_eq, beq_eq_false_iff_ne, ne_eq] at hc19
      refine W_skip ?_
      refine n_then ?_
      refine W_region ?_
      refine s_move rfl rfl ?_
      refine s_nilCheck rfl rfl ?_
      refine s_fieldAddr rfl rfl (FA59_1 _ _) ?_
      first
        | refine s_load Tryd.isAgg3 rfl rfl (hs.cell (k := 0) rfl rfl) ?_
        | refine s_load Tryd.isAgg3 rfl rfl (hs.cell (k := 1) rfl rfl) ?_
        | refine s_load Tryd.isAgg3 rfl rfl (hs.cell (k := 2) rfl rfl) ?_
        | refine s_load Tryd.isAgg3 rfl rfl (hs.cell (k := 3) rfl rfl) ?_
        | refine s_load Tryd.isAgg3 rfl rfl (hs.cell (k := 4) rfl rfl) ?_
        | refine s_load Tryd.isAgg3 rfl rfl (hs.cell (k := 5) rfl rfl) ?_
        | refine s_load Tryd.isAgg3 rfl rfl (hs.cell (k := 6) rfl rfl) ?_
        | refine s_load Tryd.isAgg3 rfl rfl (hs.cell (k := 7) rfl rfl) ?_
        | refine s_load Tryd.isAgg3 rfl rfl (hs.cell (k := 8) rfl rfl) ?_
        | refine s_load Tryd.isAgg3 rfl rfl (hs.cell (k := 9) rfl rfl) ?_
      first | (refine s_add' rfl rfl rfl ?hx ?_; case hx => (constructor <;> first | omega | (simp only; omega))) | refine s_add rfl rfl rfl ?_
      refine s_nilCheck rfl rfl ?_
      refine s_fieldAddr rfl rfl (FA59_1 _ _) ?_
      first
        | refine s_storeB Tryd.sizeOf3 rfl rfl rfl hs (kk := 0) rfl rfl ?_
        | refine s_storeB Tryd.sizeOf3 rfl rfl rfl hs (kk := 1) rfl rfl ?_
        | refine s_storeB Tryd.sizeOf3 rfl rfl rfl hs (kk := 2) rfl rfl ?_
        | refine s_storeB Tryd.sizeOf3 rfl rfl rfl hs (kk := 3) rfl rfl ?_
        | refine s_storeB Tryd.sizeOf3 rfl rfl rfl hs (kk := 4) rfl rfl ?_
        | refine s_storeB Tryd.sizeOf3 rfl rfl rfl hs (kk := 5) rfl rfl ?_
        | refine s_storeB Tryd.sizeOf3 rfl rfl rfl hs (kk := 6) rfl rfl ?_
        | refine s_storeB Tryd.sizeOf3 rfl rfl rfl hs (kk := 7) rfl rfl ?_
        | refine s_storeB Tryd.sizeOf3 rfl rfl rfl hs (kk := 8) rfl rfl ?_
        | refine s_storeB Tryd.sizeOf3 rfl rfl rfl hs (kk := 9) rfl rfl ?_
      clear hs; intro w hs; try simp only [List.set_cons_zero, List.set_cons_succ, splice, List.take_succ_cons, List.take_zero, List.drop_succ_cons, List.drop_zero, List.nil_append, List.cons_append, List.length_cons, List.length_nil, Nat.reduceAdd, List.append_assoc] at hs
      refine WL_nil ?_
      first
        | (subst hc19
           refine end0' rfl ⟨_, hs, ⟨_, _, by simp only [List.length_append, List.length_cons, List.length_nil, Int.natCast_add, Int.natCast_one]; rfl, ?_⟩, rfl⟩
           rw [pk_snoc]
           simp only [Bool.toNat_true, Nat.one_mul, List.length_set, hxl]
           exact own_set8 _ hO (by omega))
        | (subst hc19
           refine end0' rfl ⟨_, hs, ⟨_, _, by simp only [List.length_append, List.length_cons, List.length_nil, Int.natCast_add, Int.natCast_one]; rfl, ?_⟩, rfl⟩
           rw [pk_snoc_false, hxl]; exact hO)
/-! Bits -/
theorem clampV_nat (c : Int) : clampV c = ((clampV c).toNat : Int) ∧ (clampV c).toNat ≤ 64 := by unfold clampV; split <;> split at * <;> omega
theorem shrN (n i : Nat) (hi : i < 64) : (n : Int).fdiv (2 ^ (min ((i : Nat) : Int).toNat IntKind.u64.bits)) = ((n / 2 ^ i : Nat) : Int) := by
  rw [bits64, show min ((i : Nat) : Int).toNat 64 = i by omega, Int.fdiv_eq_ediv_of_nonneg _ (Int.le_of_lt (Int.pow_pos (by decide)))]
  simp
theorem bitOf (n i : Nat) : ((((n / 2 ^ i) % 2 : Nat) : Int) == 1) = n.testBit i := by
  rw [Nat.testBit_eq_decide_div_mod_eq]
  rcases Nat.mod_two_eq_zero_or_one (n / 2 ^ i) with h | h <;> rw [h] <;> rfl
theorem wBits_ok (p : Nat) (bs : List Bool) (n : Nat) (cnt : Int) (L0 : Hp) (w0 : World) (hW : WbAt p bs L0) (hs : St (ids L0) w0 w0 L0) (hn : n < 18446744073709551616) (hl : bs.length ≤ 549755813888) :
    Ret Tryd.prog 46 [.pointer (some ⟨p, 0, none⟩), .int .u64 (n : Int), .int .i64 cnt].toArray w0 fun r w' => ∃ L', St (ids L0) w0 w' L' ∧ WbAt p (bs ++ nb n (clampV cnt).toNat) L' ∧ r = .tuple #[] := by
  obtain ⟨hcv, hc⟩ := clampV_nat cnt
  generalize (clampV cnt).toNat = c at *
  refine Ret_startL hs fun w hs => ?_
  refine Ret_ofM Tryd.func46 rfl Tryd.ntmps46 rfl ?_
  refine M_seq ?_
  refine M_W ?_
  refine W_region ?_
  first | refine s_box rfl rfl hs ?_ | refine s_box1 rfl rfl rfl hs ?_
  clear hs; intro b3 w hs
  first | refine s_box rfl rfl hs ?_ | refine s_box1 rfl rfl rfl hs ?_
  clear hs; intro b4 w hs
  refine WL_nil ?_
  refine n_loop ?_
  refine M_seq ?_
  refine M_W ?_
  refine W_region ?_
  refine s_move rfl rfl ?_
  refine s_call Tryd.call56 rfl rfl (clamp_ok cnt w) ?_
  rintro v w1 ⟨hw1, rfl⟩
  rw [hw1, hcv]; clear hw1 w1
  refine s_call Tryd.call55 rfl rfl (positions_ok (c : Int) w) ?_
  rintro v w ⟨bq, rfl, hst⟩
  replace hs := St.back0 hs hst
  clear hst
  simp only [List.cons_append, List.nil_append] at hs
  refine WL_nil ?_
  refine n_loop ?_
  refine M_block ?_
  refine M_range Tryd.call60 rfl hs ?_
  clear hs; intro fn tm D w asg bo has hbo hA hs
  refine Ret.mono (posIter_ok (D + 1) bq c hc (fun i w => ∃ cs L, cs ++ nb n i = bs ++ nb n c ∧ WbAt p cs L ∧ St (ids L0) w0 w ((D + 1, .loop (lrec .ready fn tm #[10] asg bo D)) :: (D, .deferred (some [])) :: (bq, Blk 3 [.int .i64 (c : Int)]) :: (b4, Blk 56 [.int .u64 (n : Int)]) :: (b3, Blk 61 [.pointer (some ⟨p, 0, none⟩)]) :: L)) ?hrd ?round w ?h0) ?next
  case hrd => rintro i w ⟨cs, L, -, -, hs⟩; exact hs.cell (k := 2) rfl rfl
  case h0 => exact ⟨bs, L0, rfl, hW, hs⟩
  case round =>
    clear hs hW; rintro i w hi ⟨cs, L, hcat, hW, hs⟩
    have hcl : cs.length ≤ bs.length + 64 := by
      have := congrArg List.length hcat
      simp only [List.length_append, nb_length] at this; omega
    refine round_St hs rfl hA ?_
    refine R_eq has ?_
    refine R_region rfl ?_
    refine s_assign rfl rfl ?_
    refine WL_nil ?_
    refine q_n ?_
    refine ⟨hs, ?_⟩; clear hs; intro w hs
    refine R_eq hbo ?_
    refine R_block ?_
    refine R_draw [(0, true, []), (1, true, []), (2, true, []), (3, true, []), (4, true, []), (5, true, []), (6, false, [])] [[], [], [], [1, 2], [1, 2, 3], [1, 2, 3, 4], [0, 1, 2, 3, 4, 5]] MX (by kernel_rfl) rfl ?_
    intro w1 hw1 hw2 hw3 hw4; replace hs := hs.redrawn hw1 hw2 hw3 hw4; clear hw1 hw2 hw3 hw4
    obtain ⟨w, rfl⟩ : ∃ w : World, w = w1 := ⟨_, rfl⟩
    refine D_q rfl rfl ?_
    first
      | refine s_load Tryd.isAgg61 rfl rfl (hs.cell (k := 0) rfl rfl) ?_
      | refine s_load Tryd.isAgg61 rfl rfl (hs.cell (k := 1) rfl rfl) ?_
      | refine s_load Tryd.isAgg61 rfl rfl (hs.cell (k := 2) rfl rfl) ?_
      | refine s_load Tryd.isAgg61 rfl rfl (hs.cell (k := 3) rfl rfl) ?_
      | refine s_load Tryd.isAgg61 rfl rfl (hs.cell (k := 4) rfl rfl) ?_
      | refine s_load Tryd.isAgg61 rfl rfl (hs.cell (k := 5) rfl rfl) ?_
      | refine s_load Tryd.isAgg61 rfl rfl (hs.cell (k := 6) rfl rfl) ?_
      | refine s_load Tryd.isAgg61 rfl rfl (hs.cell (k := 7) rfl rfl) ?_
      | refine s_load Tryd.isAgg61 rfl rfl (hs.cell (k := 8) rfl rfl) ?_
      | refine s_load Tryd.isAgg61 rfl rfl (hs.cell (k := 9) rfl rfl) ?_
    refine D_qn ?_
    refine D_q rfl rfl ?_
    first
      | refine s_load Tryd.isAgg56 rfl rfl (hs.cell (k := 0) rfl rfl) ?_
      | refine s_load Tryd.isAgg56 rfl rfl (hs.cell (k := 1) rfl rfl) ?_
      | refine s_load Tryd.isAgg56 rfl rfl (hs.cell (k := 2) rfl rfl) ?_
      | refine s_load Tryd.isAgg56 rfl rfl (hs.cell (k := 3) rfl rfl) ?_
      | refine s_load Tryd.isAgg56 rfl rfl (hs.cell (k := 4) rfl rfl) ?_
      | refine s_load Tryd.isAgg56 rfl rfl (hs.cell (k := 5) rfl rfl) ?_
      | refine s_load Tryd.isAgg56 rfl rfl (hs.cell (k := 6) rfl rfl) ?_
      | refine s_load Tryd.isAgg56 rfl rfl (hs.cell (k := 7) rfl rfl) ?_
      | refine s_load Tryd.isAgg56 rfl rfl (hs.cell (k := 8) rfl rfl) ?_
      | refine s_load Tryd.isAgg56 rfl rfl (hs.cell (k := 9) rfl rfl) ?_
    refine D_qn ?_
    refine D_q rfl rfl ?_
    refine s_move rfl rfl ?_
    refine D_qn ?_
    refine D_q rfl rfl ?_
    (refine s_shr rfl rfl rfl ?hx ?_; case hx => omega)
    rw [shrN n i (by omega)]
    refine D_qn ?_
    refine D_q rfl rfl ?_
    refine s_and rfl rfl rfl ?_
    rw [and1 _ (Nat.lt_of_le_of_lt (Nat.div_le_self _ _) hn)]
    refine D_qn ?_
    refine D_q rfl rfl ?_
    refine s_eql rfl rfl rfl ?_
    rw [bitOf]
    refine D_qn ?_
    refine D_e rfl ?_
    refine s_callL (M := [_, _, _, _, _]) (L1 := L) (X := []) Tryd.call54 rfl rfl (by simpa using hs) (fun h => bit_ok p cs (n.testBit i) L w hW h (by omega)) ?_
    clear hs; rintro v w L2 ⟨hW2, rfl⟩ - hs
    simp only [List.cons_append, List.nil_append, List.append_nil] at hs
    refine D_en ?re ?_
    case re =>
      exact Reks_nil
    refine D_nil ?_
    refine q_n ?_
    exact ⟨_, hs, fun w hs => ⟨cs ++ [n.testBit i], L2, by rw [← hcat]; simp [nb], hW2, hs⟩⟩
  case next =>
    rintro _ w ⟨cs, L, hcat, hW, hs⟩
    refine ⟨_, hs, ?_⟩
    clear hs; intro w hs
    refine n_blk ?_
    refine M_end hs ?_
    clear hs; intro w hs
    have hcs : cs = bs ++ nb n c := by simpa [nb] using hcat
    exact end0' rfl ⟨L, hs.tail.tail.tail, hcs ▸ hW, rfl⟩
/-! the rest of the writer -/
def capV (c : Int) : Int := if 65536 < (if c < 0 then 0 else c) then 65536 else (if c < 0 then 0 else c)
theorem capV_nat (c : Int) : capV c = ((capV c).toNat : Int) ∧ (capV c).toNat ≤ 65536 := by unfold capV; split <;> split at * <;> omega
theorem wUnary_ok (p : Nat) (bs : List Bool) (cnt : Int) (L0 : Hp) (w0 : World) (hW : WbAt p bs L0) (hs : St (ids L0) w0 w0 L0) (hl : bs.length ≤ 549755813888) :
    Ret Tryd.prog 45 [.pointer (some ⟨p, 0, none⟩), .int .i64 cnt].toArray w0 fun r w' => ∃ L', St (ids L0) w0 w' L' ∧ WbAt p (bs ++ (List.replicate (capV cnt).toNat true ++ [false])) L' ∧ r = .tuple #[] := by
  obtain ⟨hcv, hc⟩ := capV_nat cnt
  generalize (capV cnt).toNat = c at *
  refine Ret_of Tryd.func45 rfl Tryd.ntmps45 rfl ?_
  refine W_seq ?_
  refine W_seq ?_
  refine W_region ?_
  refine s_move rfl rfl ?_
  refine s_max rfl rfl rfl ?_
  refine s_min rfl rfl rfl ?_
  rw [show (if 65536 < (if cnt < 0 then 0 else cnt) then 65536 else (if cnt < 0 then 0 else cnt)) = (c : Int) from hcv]
  refine s_move rfl rfl ?_
  refine WL_nil ?_
  refine n_then ?_
  refine W_block ?_
  refine W_loop (σ := Nat × Hp) (fun s => [(0, .pointer (some ⟨p, 0, none⟩)), (6, .int .i64 (c : Int)), (7, .int .i64 (s.1 : Int))]) (fun s w => St (ids L0) w0 w s.2 ∧ WbAt p (bs ++ List.replicate s.1 true) s.2 ∧ s.1 ≤ c) (fun s => c - s.1) (0, L0) ⟨rfl, rfl, rfl, trivial⟩ ⟨hs, by simpa using hW, Nat.zero_le _⟩ ?_
  clear hs hW
  rintro ⟨i, L⟩ w ⟨hs, hW, hi⟩
  simp only at hs hW hi ⊢
  refine W_seq ?_
  refine W_region ?_
  refine s_lss rfl rfl rfl ?_
  refine WL_nil ?_
  refine n_then ?_
  refine W_seq ?_
  refine W_cond rfl (fun hc8 => ?_) (fun hc8 => ?_)
  · skip
    simp only [decide_eq_true_eq, decide_eq_false_iff_not] at hc8
    refine W_skip ?_
    refine n_then ?_
    refine W_seq ?_
    refine W_block ?_
    refine W_region ?_
    refine s_move rfl rfl ?_
    refine s_callL (M := []) (L1 := L) (X := []) Tryd.call54 rfl rfl (by simpa using hs) (fun h => bit_ok p _ true L w hW h (by simp; omega)) ?_
    clear hs; rintro v w L2 ⟨hW2, rfl⟩ - hs
    simp only [List.nil_append, List.append_nil] at hs
    refine WL_nil ?_
    refine n_blk ?_
    refine n_then ?_
    refine W_region ?_
    first | (refine s_add' rfl rfl rfl ?hx ?_; case hx => (constructor <;> first | omega | (simp only; omega))) | refine s_add rfl rfl rfl ?_
    refine s_move rfl rfl ?_
    refine WL_nil ?_
    refine n_loop ?_
    exact ⟨(i + 1, L2), ⟨rfl, rfl, rfl, trivial⟩, ⟨hs, by simpa [List.replicate_succ'] using hW2, by simp only; omega⟩, by simp only; omega⟩
  · skip
    simp only [decide_eq_true_eq, decide_eq_false_iff_not] at hc8
    refine W_exit ?_
    refine x_then ?_
    refine x_then ?_
    refine exit_hit ?_
    refine n_then ?_
    refine W_region ?_
    refine s_move rfl rfl ?_
    refine s_callL (M := []) (L1 := L) (X := []) Tryd.call54 rfl rfl (by simpa using hs) (fun h => bit_ok p _ false L w hW h (by simp; omega)) ?_
    clear hs; rintro v w L2 ⟨hW2, rfl⟩ - hs
    simp only [List.nil_append, List.append_nil] at hs
    refine WL_nil ?_
    obtain rfl : i = c := by omega
    exact end0' rfl ⟨_, hs, by simpa using hW2, rfl⟩
theorem bDone_ok (p : Nat) (bs : List Bool) (L0 : Hp) (w0 : World) (hW : WbAt p bs L0) (hs : St (ids L0) w0 w0 L0) (hl : bs.length ≤ 4294967296) :
    Ret Tryd.prog 27 [.pointer (some ⟨p, 0, none⟩)].toArray w0 fun r w' => ∃ L', St (ids L0) w0 w' L' ∧ ∃ Lr, L' = L0 ++ Lr ∧ OwnS 5 1 r (pk bs).length (u8s (pk bs)) Lr := by
  obtain ⟨v, Lb, hL, hO⟩ := hW
  have hpl := pk_length bs
  obtain ⟨_, vc, va, rfl, rfl⟩ := hO.form
  replace hs : St (ids L0) w0 w0 ((p, Blk 59 [.slice va (pk bs).length vc, .int .i64 (bs.length : Int)]) :: Lb) := by rw [hL] at hs ⊢; exact hs
  refine Ret_startL hs fun w hs => ?_
  refine Ret_of Tryd.func27 rfl Tryd.ntmps27 rfl ?_
  refine W_seq ?_
  refine W_region ?_
  refine s_assign rfl rfl ?_
  refine WL_nil ?_
  refine n_then ?_
  refine W_seq ?_
  refine W_region ?_
  refine s_move rfl rfl ?_
  refine s_nilCheck rfl rfl ?_
  refine s_fieldAddr rfl rfl (FA59_0 _ _) ?_
  first
    | refine s_load Tryd.isAgg29 rfl rfl (hs.cell (k := 0) rfl rfl) ?_
    | refine s_load Tryd.isAgg29 rfl rfl (hs.cell (k := 1) rfl rfl) ?_
    | refine s_load Tryd.isAgg29 rfl rfl (hs.cell (k := 2) rfl rfl) ?_
    | refine s_load Tryd.isAgg29 rfl rfl (hs.cell (k := 3) rfl rfl) ?_
    | refine s_load Tryd.isAgg29 rfl rfl (hs.cell (k := 4) rfl rfl) ?_
    | refine s_load Tryd.isAgg29 rfl rfl (hs.cell (k := 5) rfl rfl) ?_
    | refine s_load Tryd.isAgg29 rfl rfl (hs.cell (k := 6) rfl rfl) ?_
    | refine s_load Tryd.isAgg29 rfl rfl (hs.cell (k := 7) rfl rfl) ?_
    | refine s_load Tryd.isAgg29 rfl rfl (hs.cell (k := 8) rfl rfl) ?_
    | refine s_load Tryd.isAgg29 rfl rfl (hs.cell (k := 9) rfl rfl) ?_
  refine s_call Tryd.call29 rfl rfl (clone_ok _ (pk bs) w (hO.slM (M := [_]) (X := []) (by simpa using hs)) (by omega)) ?_
  rintro r w ⟨Lr, hr, hst⟩
  replace hs := (St.back0 hs hst).swap
  clear hst
  refine s_assign rfl rfl ?_
  refine WL_nil ?_
  refine n_then ?_
  refine W_ret ?_
  exact end1 rfl rfl ⟨_, hs, Lr, by rw [hL], hr⟩
end Go.Proofs.YtbcdnpjcbchbjaaDoor
