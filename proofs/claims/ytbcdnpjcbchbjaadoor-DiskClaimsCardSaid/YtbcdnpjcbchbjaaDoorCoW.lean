/- Contracts of package codec: the code of a number, written and read. -/
import Derived.Test.YtbcdnpjcbchbjaaDoorCoP
set_option linter.unusedVariables false
set_option linter.unusedSimpArgs false
namespace Go.SL
section
variable {P : Program} {n : Nat} {ops : Array Oper} {Q : Post} {l : Fr} {w : World} {rest : List Oper} {d ty : Nat} {pos : String} {aft : Array Edge}
theorem s_indexAddrA {x y : Operand} {t e len b o : Nat} {kd : IntKind} {i : Int} (hu : P.underlying t = some (.array len e)) (hsz : ∀ w, (sizeOf e).run P w = .ok 1 w) (hd : Nat.blt d n = true) (hx : ev l x = some (.pointer (some ⟨b, o, none⟩))) (hy : ev l y = some (.int kd i)) (h : 0 ≤ i ∧ i < len)
    (k : WL P n ops Q rest ((d, .pointer (some ⟨b, o + i.toNat, none⟩)) :: l) w) : WL P n ops Q (⟨some d, .indexAddr t x y, ty, pos, aft, none⟩ :: rest) l w := WL_val hd (fun a ha => by
      simp [execOp, ha.eval hx, ha.eval hy, Instr.indexAt, asIntOf, run_underlying hu, Instr.sureAddr, h.1, h.2, hsz, Addr.add_lit]) k
theorem s_indexV {x y : Operand} {t : Nat} {p q v : Value} (hd : Nat.blt d n = true) (hx : ev l x = some p) (hy : ev l y = some q) (hr : ∀ w, (Instr.index t p q).run P w = .ok v w) (k : WL P n ops Q rest ((d, v) :: l) w) :
    WL P n ops Q (⟨some d, .index t x y, ty, pos, aft, none⟩ :: rest) l w := WL_val hd (fun a ha => by simp [execOp, ha.eval hx, ha.eval hy, hr]) k
end
theorem St.new0 {w0 w : World} {L : Hp} (hs : St [] w0 w L) {b : Nat} (hb : b < w0.heap.size) : b ∉ ids L := fun h => by
  obtain ⟨o, ho⟩ := mem_ids.1 h
  rcases hs.new _ ho with h1 | h1
  · cases h1
  · simp only at h1; omega
end Go.SL
namespace Go.Proofs.YtbcdnpjcbchbjaaDoor
open Go.SL
/-- the table of widths, as the program's text lays it -/
def Wd (w : World) : Prop := ∀ j, j < 6 → w.cell? ⟨0, 0 + j, none⟩ = some (.int .i64 (cwd j : Int))
theorem Wd.lt {w : World} (h : Wd w) : 0 < w.heap.size := World.block_lt_of_cell? w _ (h 0 (by decide))
theorem Wd.fwd {F : List Nat} {w0 w : World} (h : Wd w0) (hf : Fwd F w0 w) (hn : 0 ∉ F) : Wd w := fun j hj => by
  rw [World.cell?_of_block (hf.block _ h.lt hn)]; exact h j hj
theorem Wd.st {F : List Nat} {w0 w : World} {L : Hp} (h : Wd w0) (hs : St F w0 w L) (hn : 0 ∉ F) : Wd w := h.fwd hs.fwd hn
theorem Wd.at {w : World} (h : Wd w) {j : Nat} (hj : j < 6) : w.cell? ⟨0, 0 + ((j : Nat) : Int).toNat, none⟩ = some (.int .i64 (cwd j : Int)) := h j hj
theorem Wd.not {w0 w : World} {L : Hp} (h : Wd w0) (hs : St [] w0 w L) : 0 ∉ ids L := hs.new0 h.lt
theorem shrC (z c : Nat) (hc : c < 64) : (z : Int).fdiv (2 ^ (min ((c : Nat) : Int).toNat IntKind.u64.bits)) = ((z / 2 ^ c : Nat) : Int) := by
  rw [bits64, show min ((c : Nat) : Int).toNat 64 = c by omega, Int.fdiv_eq_ediv_of_nonneg _ (Int.le_of_lt (Int.pow_pos (by decide)))]
  simp
theorem fits_ok (z c : Nat) (w0 : World) (hz : z < 18446744073709551616) (hc : c ≤ 64) :
    Ret Tryd.prog 44 [.int .u64 (z : Int), .int .i64 (c : Int)].toArray w0 fun r w' => w' = w0 ∧ r = .bool (decide (z < 2 ^ c)) := by
  refine Ret_of Tryd.func44 rfl Tryd.ntmps44 rfl ?_
  refine W_seq ?_
  refine W_region ?_
  refine s_assign rfl rfl ?_
  refine WL_nil ?_
  refine n_then ?_
  refine W_seq ?_
  refine W_region ?_
  refine s_move rfl rfl ?_
  refine s_geq rfl rfl rfl ?_
  refine s_move rfl rfl ?_
  refine WL_case (s := 7) rfl (fun hg7 => ?_) (fun hg7 => ?_)
  · skip
    simp only [decide_eq_true_eq, decide_eq_false_iff_not] at hg7
    refine WL_skip rfl rfl rfl ?_
    refine WL_skip rfl rfl rfl ?_
    refine WL_skip rfl rfl rfl ?_
    refine WL_skip rfl rfl rfl ?_
    refine s_pick_t rfl rfl rfl ?_
    refine s_assign rfl rfl ?_
    refine WL_nil ?_
    refine n_then ?_
    refine W_ret ?_
    first
      | (refine end1 rfl rfl ⟨rfl, ?_⟩
         obtain rfl : c = 64 := by omega
         have : z < 2 ^ 64 := by omega
         simp [this]; done)
      | (refine end1 rfl rfl ⟨rfl, ?_⟩
         refine congrArg Value.bool ?_
         rw [Bool.eq_iff_iff, beq_iff_eq, decide_eq_true_eq]
         have h1 := Nat.div_eq_zero_iff (a := z) (b := 2 ^ c)
         have h2 : 0 < 2 ^ c := Nat.pow_pos (by decide)
         generalize 2 ^ c = q at *
         omega)
  · skip
    simp only [decide_eq_true_eq, decide_eq_false_iff_not] at hg7
    refine WL_take rfl ?_
    refine s_move rfl rfl ?_
    refine WL_take rfl ?_
    refine s_move rfl rfl ?_
    refine WL_take rfl ?_
    (refine s_shr rfl rfl rfl ?hx ?_; case hx => omega)
    rw [shrC z c (by omega)]
    refine WL_take rfl ?_
    refine s_eql rfl rfl rfl ?_
    refine s_pick_f rfl rfl rfl ?_
    refine s_assign rfl rfl ?_
    refine WL_nil ?_
    refine n_then ?_
    refine W_ret ?_
    first
      | (refine end1 rfl rfl ⟨rfl, ?_⟩
         obtain rfl : c = 64 := by omega
         have : z < 2 ^ 64 := by omega
         simp [this]; done)
      | (refine end1 rfl rfl ⟨rfl, ?_⟩
         refine congrArg Value.bool ?_
         rw [Bool.eq_iff_iff, beq_iff_eq, decide_eq_true_eq]
         have h1 := Nat.div_eq_zero_iff (a := z) (b := 2 ^ c)
         have h2 : 0 < 2 ^ c := Nat.pow_pos (by decide)
         generalize 2 ^ c = q at *
         omega)
theorem coWrite_ok (p : Nat) (bs : List Bool) (n : Int) (L0 : Hp) (w0 : World) (hg : Wd w0) (hg0 : 0 ∉ ids L0) (hW : WbAt p bs L0) (hs : St (ids L0) w0 w0 L0) (hn : isI64 n) (hl : bs.length ≤ 274877906944) :
    Ret Tryd.prog 26 [.pointer (some ⟨p, 0, none⟩), .int .i64 n].toArray w0 fun r w' => ∃ L', St (ids L0) w0 w' L' ∧ WbAt p (bs ++ code n) L' ∧ r = .tuple #[] := by
  have hz := zz_lt hn
  have h5 := ci_le (zz n)
  refine Ret_startL hs fun w hs => ?_
  refine Ret_of Tryd.func26 rfl Tryd.ntmps26 rfl ?_
  refine W_seq ?_
  refine W_region ?_
  refine s_move rfl rfl ?_
  refine s_convert rfl rfl (CV3_56 _) ?_
  (refine s_shl rfl rfl rfl ?hx ?_; case hx => omega)
  refine s_move rfl rfl ?_
  (refine s_shr rfl rfl rfl ?hx ?_; case hx => omega)
  refine s_convert rfl rfl (CV3_56 _) ?_
  refine s_xor rfl rfl rfl ?_
  rw [zig n hn]
  refine s_assign rfl rfl ?_
  refine WL_nil ?_
  refine n_then ?_
  refine W_seq ?_
  refine W_region ?_
  refine s_assign rfl rfl ?_
  refine WL_nil ?_
  refine n_then ?_
  refine W_seq ?_
  refine W_block ?_
  refine W_loop (σ := Nat) (fun s => [(0, .pointer (some ⟨p, 0, none⟩)), (4, .int .u64 (zz n : Int)), (5, .int .i64 (s : Int))]) (fun s w => St (ids L0) w0 w L0 ∧ s ≤ ci (zz n)) (fun s => ci (zz n) - s) 0 ⟨rfl, rfl, rfl, trivial⟩ ⟨hs, Nat.zero_le _⟩ ?_
  clear hs
  rintro i w ⟨hs, hi⟩
  refine W_seq ?_
  refine W_seq ?_
  refine W_region ?_
  refine s_move rfl rfl ?_
  refine s_move rfl rfl ?_
  (refine s_indexAddrA Tryd.underlying83 Tryd.sizeOf3 rfl rfl rfl ?hx ?_; case hx => (constructor <;> omega))
  first
    | refine s_load Tryd.isAgg3 rfl rfl (hs.cell (k := 0) rfl rfl) ?_
    | refine s_load Tryd.isAgg3 rfl rfl (hs.cell (k := 1) rfl rfl) ?_
    | refine s_load Tryd.isAgg3 rfl rfl (hs.cell (k := 2) rfl rfl) ?_
    | refine s_load Tryd.isAgg3 rfl rfl (hs.cell (k := 3) rfl rfl) ?_
    | refine s_load Tryd.isAgg3 rfl rfl (hs.cell (k := 4) rfl rfl) ?_
    | refine s_load Tryd.isAgg3 rfl rfl (hs.cell (k := 5) rfl rfl) ?_
    | refine s_load Tryd.isAgg3 rfl rfl (hs.cell (k := 6) rfl rfl) ?_
    | refine s_load Tryd.isAgg3 rfl rfl (hs.cell (k := 7) rfl rfl) ?_
    | refine s_load Tryd.isAgg3 rfl rfl (hs.cell (k := 8) rfl rfl) ?_
    | refine s_load Tryd.isAgg3 rfl rfl (hs.cell (k := 9) rfl rfl) ?_
    | refine s_load Tryd.isAgg3 rfl rfl ((hg.st hs hg0).at (by omega)) ?_
  refine s_call Tryd.call44 rfl rfl (fits_ok (zz n) (cwd i) w hz (cwd_le _)) ?_
  rintro v w1 ⟨hw1, rfl⟩
  rw [hw1]; clear hw1 w1
  refine s_not rfl rfl ?_
  refine WL_nil ?_
  refine n_then ?_
  refine W_cond rfl (fun hc18 => ?_) (fun hc18 => ?_)
  · skip
    simp only [decide_eq_true_eq, decide_eq_false_iff_not, Bool.not_eq_true', Bool.not_eq_false'] at hc18
    refine W_skip ?_
    refine n_then ?_
    refine W_block ?_
    refine W_region ?_
    refine s_move rfl rfl ?_
    first | (refine s_add' rfl rfl rfl ?hx ?_; case hx => (constructor <;> first | omega | (simp only; omega))) | refine s_add rfl rfl rfl ?_
    refine s_assign rfl rfl ?_
    refine WL_nil ?_
    refine n_blk ?_
    refine n_loop ?_
    have hlt : i < ci (zz n) := by
      rcases Nat.lt_or_ge i (ci (zz n)) with h | h
      · exact h
      · obtain rfl : i = ci (zz n) := by omega
        exact absurd (ci_fits hz) (by simpa using hc18)
    exact ⟨i + 1, ⟨rfl, rfl, rfl, trivial⟩, ⟨hs, hlt⟩, by omega⟩
  · skip
    simp only [decide_eq_true_eq, decide_eq_false_iff_not, Bool.not_eq_true', Bool.not_eq_false'] at hc18
    refine W_exit ?_
    refine x_then ?_
    refine x_then ?_
    refine exit_hit ?_
    refine n_then ?_
    refine W_seq ?_
    refine W_region ?_
    refine s_move rfl rfl ?_
    refine s_move rfl rfl ?_
    obtain rfl : i = ci (zz n) := by
      rcases Nat.lt_or_ge i (ci (zz n)) with h | h
      · exact absurd (by simpa using hc18) (ci_min h)
      · omega
    refine s_callL (M := []) (L1 := L0) (X := []) Tryd.call45 rfl rfl (by simpa using hs) (fun h => wUnary_ok p bs _ _ w hW h (by omega)) ?_
    rw [show (capV ((ci (zz n) : Nat) : Int)).toNat = ci (zz n) from by have := capV_nat ((ci (zz n) : Nat) : Int); unfold capV at *; split <;> split at * <;> omega]
    clear hs; rintro v w L2 ⟨hW2, rfl⟩ - hs
    simp only [List.nil_append, List.append_nil] at hs
    refine WL_nil ?_
    refine n_then ?_
    refine W_region ?_
    refine s_move rfl rfl ?_
    refine s_move rfl rfl ?_
    refine s_move rfl rfl ?_
    (refine s_indexAddrA Tryd.underlying83 Tryd.sizeOf3 rfl rfl rfl ?hx ?_; case hx => (constructor <;> omega))
    first
      | refine s_load Tryd.isAgg3 rfl rfl (hs.cell (k := 0) rfl rfl) ?_
      | refine s_load Tryd.isAgg3 rfl rfl (hs.cell (k := 1) rfl rfl) ?_
      | refine s_load Tryd.isAgg3 rfl rfl (hs.cell (k := 2) rfl rfl) ?_
      | refine s_load Tryd.isAgg3 rfl rfl (hs.cell (k := 3) rfl rfl) ?_
      | refine s_load Tryd.isAgg3 rfl rfl (hs.cell (k := 4) rfl rfl) ?_
      | refine s_load Tryd.isAgg3 rfl rfl (hs.cell (k := 5) rfl rfl) ?_
      | refine s_load Tryd.isAgg3 rfl rfl (hs.cell (k := 6) rfl rfl) ?_
      | refine s_load Tryd.isAgg3 rfl rfl (hs.cell (k := 7) rfl rfl) ?_
      | refine s_load Tryd.isAgg3 rfl rfl (hs.cell (k := 8) rfl rfl) ?_
      | refine s_load Tryd.isAgg3 rfl rfl (hs.cell (k := 9) rfl rfl) ?_
      | refine s_load Tryd.isAgg3 rfl rfl ((hg.st hs hg0).at (by omega)) ?_
    refine s_callL (M := []) (L1 := L2) (X := []) Tryd.call46 rfl rfl (by simpa using hs) (fun h => wBits_ok p _ (zz n) _ L2 w hW2 h hz (by simp; omega)) ?_
    rw [clampV_cwd]
    clear hs; rintro v w L3 ⟨hW3, rfl⟩ - hs
    simp only [List.nil_append, List.append_nil] at hs
    refine WL_nil ?_
    exact end0' rfl ⟨_, hs, by rw [code, ← List.append_assoc]; exact hW3, rfl⟩
theorem coRead_ok (p : Nat) (bs : List Bool) (k : Nat) (n : Int) (L0 : Hp) (w0 : World) (hg : Wd w0) (hg0 : 0 ∉ ids L0) (hR : RbAt p (pk bs) k 0 L0) (hs : St (ids L0) w0 w0 L0) (hn : isI64 n) (hA : AtBits bs (code n) k) (hl : bs.length ≤ 4294967296) :
    Ret Tryd.prog 35 [.pointer (some ⟨p, 0, none⟩)].toArray w0 fun r w' => ∃ L', St (ids L0) w0 w' L' ∧ RbAt p (pk bs) (k + (code n).length) 0 L' ∧ r = .tuple #[.int .i64 n, .bool true] := by
  have hz := zz_lt hn
  have h5 := ci_le (zz n)
  have hcl := code_length n
  obtain ⟨hru, hrb, hle⟩ := code_read hn hA
  have hwd := cwd_le (ci (zz n))
  have hfit := ci_fits hz
  have hmin : ∀ j, j < ci (zz n) → ¬ zz n < 2 ^ cwd j := fun j hj => ci_min hj
  have hun : unzz (zz n) = n := unzz_zz n
  generalize zz n = m at *
  generalize ci m = c at *
  refine Ret_startL hs fun w hs => ?_
  refine Ret_of Tryd.func35 rfl Tryd.ntmps35 rfl ?_
  refine W_seq ?_
  refine W_region ?_
  refine s_assign rfl rfl ?_
  refine s_assign rfl rfl ?_
  refine WL_nil ?_
  refine n_then ?_
  refine W_seq ?_
  refine W_region ?_
  refine s_move rfl rfl ?_
  refine s_callL (M := []) (L1 := L0) (X := []) Tryd.call49 rfl rfl (by simpa using hs) (fun h => rAt_ok p _ _ _ L0 w hR h) ?_
  clear hs; rintro v w L9 ⟨hL9, rfl⟩ - hs
  rw [hL9] at hs; clear hL9 L9
  simp only [List.nil_append, List.append_nil] at hs
  refine s_assign rfl rfl ?_
  refine WL_nil ?_
  refine n_then ?_
  refine W_seq ?_
  refine W_region ?_
  refine s_move rfl rfl ?_
  refine s_callL (M := []) (L1 := L0) (X := []) Tryd.call50 rfl rfl (by simpa using hs) (fun h => rUnary_ok p _ _ _ 5 L0 w hR h) ?_
  rw [hru]; simp only
  clear hs hR; rintro v w L2 ⟨hR, rfl⟩ - hs
  simp only [List.nil_append, List.append_nil] at hs hR
  refine s_assign rfl rfl ?_
  refine WL_nil ?_
  refine n_then ?_
  refine W_seq ?_
  refine W_region ?_
  refine s_move rfl rfl ?_
  refine s_callL (M := []) (L1 := L2) (X := []) Tryd.call49 rfl rfl (by simpa using hs) (fun h => rAt_ok p _ _ _ L2 w hR h) ?_
  clear hs; rintro v w L9 ⟨hL9, rfl⟩ - hs
  rw [hL9] at hs; clear hL9 L9
  simp only [List.nil_append, List.append_nil] at hs
  refine s_assign rfl rfl ?_
  refine WL_nil ?_
  refine n_then ?_
  refine W_seq ?_
  refine W_seq ?_
  refine W_region ?_
  refine s_move rfl rfl ?_
  refine s_move rfl rfl ?_
  refine s_eql rfl rfl rfl ?_
  refine WL_nil ?_
  refine n_then ?_
  refine W_cond_kf rfl ((by simp; omega)) ?_
  refine W_skip ?_
  refine n_then ?_
  refine W_seq ?_
  refine W_region ?_
  refine s_move rfl rfl ?_
  refine s_move rfl rfl ?_
  (refine s_indexAddrA Tryd.underlying83 Tryd.sizeOf3 rfl rfl rfl ?hx ?_; case hx => (constructor <;> omega))
  first
    | refine s_load Tryd.isAgg3 rfl rfl (hs.cell (k := 0) rfl rfl) ?_
    | refine s_load Tryd.isAgg3 rfl rfl (hs.cell (k := 1) rfl rfl) ?_
    | refine s_load Tryd.isAgg3 rfl rfl (hs.cell (k := 2) rfl rfl) ?_
    | refine s_load Tryd.isAgg3 rfl rfl (hs.cell (k := 3) rfl rfl) ?_
    | refine s_load Tryd.isAgg3 rfl rfl (hs.cell (k := 4) rfl rfl) ?_
    | refine s_load Tryd.isAgg3 rfl rfl (hs.cell (k := 5) rfl rfl) ?_
    | refine s_load Tryd.isAgg3 rfl rfl (hs.cell (k := 6) rfl rfl) ?_
    | refine s_load Tryd.isAgg3 rfl rfl (hs.cell (k := 7) rfl rfl) ?_
    | refine s_load Tryd.isAgg3 rfl rfl (hs.cell (k := 8) rfl rfl) ?_
    | refine s_load Tryd.isAgg3 rfl rfl (hs.cell (k := 9) rfl rfl) ?_
    | refine s_load Tryd.isAgg3 rfl rfl ((hg.st hs hg0).at (j := c) (by omega)) ?_
    | refine s_load Tryd.isAgg3 rfl rfl ((hg.st hs hg0).at (j := c - 1) (by omega)) ?_
  refine s_callL (M := []) (L1 := L2) (X := []) Tryd.call51 rfl rfl (by simpa using hs) (fun h => rBits_ok p _ _ _ _ L2 w hR h) ?_
  rw [hrb]; simp only
  clear hs hR; rintro v w L3 ⟨hR, rfl⟩ - hs
  simp only [List.nil_append, List.append_nil] at hs hR
  refine s_assign rfl rfl ?_
  refine WL_nil ?_
  refine n_then ?_
  refine W_seq ?_
  refine W_seq ?_
  refine W_draw [(0, true, []), (2, true, []), (3, true, []), (4, true, []), (5, true, []), (6, true, []), (1, false, [2, 3, 4, 5, 6]), (7, true, []), (8, true, []), (9, true, []), (10, true, []), (11, true, []), (12, true, []), (13, true, []), (14, true, []), (15, true, []), (16, true, []), (17, false, []), (18, true, []), (19, true, [])] [[], [0], [], [], [3], [3, 4], [2, 3, 4, 5], [0, 1, 2, 3, 4, 5, 6], [0, 1, 2, 3, 4, 5, 6, 7], [0, 1, 2, 3, 4, 5, 6, 7, 8], [0, 1, 2, 3, 4, 5, 6, 7, 8, 9], [0, 1, 2, 3, 4, 5, 6, 7, 8, 9, 10], [0, 1, 2, 3, 4, 5, 6, 7, 8, 9, 10, 11], [0, 1, 2, 3, 4, 5, 6, 7, 8, 9, 10, 11], [0, 1, 2, 3, 4, 5, 6, 7, 8, 9, 10, 11, 13], [0, 1, 2, 3, 4, 5, 6, 7, 8, 9, 10, 11, 13, 14], [0, 1, 2, 3, 4, 5, 6, 7, 8, 9, 10, 11, 13, 14, 15], [0, 1, 2, 3, 4, 5, 6, 7, 8, 9, 10, 11, 12, 13, 14, 15, 16], [0, 1, 2, 3, 4, 5, 6, 7, 8, 9, 10, 11, 12, 13, 14, 15, 16, 17], [0, 1, 2, 3, 4, 5, 6, 7, 8, 9, 10, 11, 12, 13, 14, 15, 16, 17, 18]] MX (by kernel_rfl) ?_
  intro w1 hw1 hw2 hw3 hw4; replace hs := hs.redrawn hw1 hw2 hw3 hw4; clear hw1 hw2 hw3 hw4
  obtain ⟨w, rfl⟩ : ∃ w : World, w = w1 := ⟨_, rfl⟩
  refine D_q rfl rfl ?_
  refine s_move rfl rfl ?_
  refine D_qn ?_
  refine D_q rfl rfl ?_
  refine s_move rfl rfl ?_
  refine D_qn ?_
  refine D_q rfl rfl ?_
  refine s_move rfl rfl ?_
  refine D_qn ?_
  refine D_q rfl rfl ?_
  (refine s_indexAddrA Tryd.underlying83 Tryd.sizeOf3 rfl rfl rfl ?hx ?_; case hx => (constructor <;> omega))
  refine D_qn ?_
  refine D_q rfl rfl ?_
  first
    | refine s_load Tryd.isAgg3 rfl rfl (hs.cell (k := 0) rfl rfl) ?_
    | refine s_load Tryd.isAgg3 rfl rfl (hs.cell (k := 1) rfl rfl) ?_
    | refine s_load Tryd.isAgg3 rfl rfl (hs.cell (k := 2) rfl rfl) ?_
    | refine s_load Tryd.isAgg3 rfl rfl (hs.cell (k := 3) rfl rfl) ?_
    | refine s_load Tryd.isAgg3 rfl rfl (hs.cell (k := 4) rfl rfl) ?_
    | refine s_load Tryd.isAgg3 rfl rfl (hs.cell (k := 5) rfl rfl) ?_
    | refine s_load Tryd.isAgg3 rfl rfl (hs.cell (k := 6) rfl rfl) ?_
    | refine s_load Tryd.isAgg3 rfl rfl (hs.cell (k := 7) rfl rfl) ?_
    | refine s_load Tryd.isAgg3 rfl rfl (hs.cell (k := 8) rfl rfl) ?_
    | refine s_load Tryd.isAgg3 rfl rfl (hs.cell (k := 9) rfl rfl) ?_
    | refine s_load Tryd.isAgg3 rfl rfl ((hg.st hs hg0).at (j := c) (by omega)) ?_
    | refine s_load Tryd.isAgg3 rfl rfl ((hg.st hs hg0).at (j := c - 1) (by omega)) ?_
  refine D_qn ?_
  refine D_q rfl rfl ?_
  first | (refine s_add' rfl rfl rfl ?hx ?_; case hx => (constructor <;> first | omega | (simp only; omega))) | refine s_add rfl rfl rfl ?_
  refine D_qn ?_
  refine D_e rfl ?_
  refine s_callL (M := []) (L1 := L3) (X := []) Tryd.call49 rfl rfl (by simpa using hs) (fun h => rAt_ok p _ _ _ L3 w hR h) ?_
  clear hs; rintro v w L9 ⟨hL9, rfl⟩ - hs
  rw [hL9] at hs; clear hL9 L9
  simp only [List.nil_append, List.append_nil] at hs
  refine D_en ?re ?_
  case re =>
    refine Reks_cons rfl rfl rfl rfl ?_ ?_
    · skip
      refine s_move rfl rfl ?_
      exact Rek_end rfl
    refine Reks_cons rfl rfl rfl rfl ?_ ?_
    · skip
      refine s_move rfl rfl ?_
      exact Rek_end rfl
    refine Reks_cons rfl rfl rfl rfl ?_ ?_
    · skip
      (refine s_indexAddrA Tryd.underlying83 Tryd.sizeOf3 rfl rfl rfl ?hx ?_; case hx => (constructor <;> omega))
      exact Rek_end rfl
    refine Reks_cons rfl rfl rfl rfl ?_ ?_
    · skip
      first
        | refine s_load Tryd.isAgg3 rfl rfl (hs.cell (k := 0) rfl rfl) ?_
        | refine s_load Tryd.isAgg3 rfl rfl (hs.cell (k := 1) rfl rfl) ?_
        | refine s_load Tryd.isAgg3 rfl rfl (hs.cell (k := 2) rfl rfl) ?_
        | refine s_load Tryd.isAgg3 rfl rfl (hs.cell (k := 3) rfl rfl) ?_
        | refine s_load Tryd.isAgg3 rfl rfl (hs.cell (k := 4) rfl rfl) ?_
        | refine s_load Tryd.isAgg3 rfl rfl (hs.cell (k := 5) rfl rfl) ?_
        | refine s_load Tryd.isAgg3 rfl rfl (hs.cell (k := 6) rfl rfl) ?_
        | refine s_load Tryd.isAgg3 rfl rfl (hs.cell (k := 7) rfl rfl) ?_
        | refine s_load Tryd.isAgg3 rfl rfl (hs.cell (k := 8) rfl rfl) ?_
        | refine s_load Tryd.isAgg3 rfl rfl (hs.cell (k := 9) rfl rfl) ?_
        | refine s_load Tryd.isAgg3 rfl rfl ((hg.st hs hg0).at (j := c) (by omega)) ?_
        | refine s_load Tryd.isAgg3 rfl rfl ((hg.st hs hg0).at (j := c - 1) (by omega)) ?_
      exact Rek_end rfl
    refine Reks_cons rfl rfl rfl rfl ?_ ?_
    · skip
      first | (refine s_add' rfl rfl rfl ?hx ?_; case hx => (constructor <;> first | omega | (simp only; omega))) | refine s_add rfl rfl rfl ?_
      exact Rek_end rfl
    exact Reks_nil
  refine D_q rfl rfl ?_
  refine s_neq rfl rfl rfl ?_
  refine D_qn ?_
  refine D_q rfl rfl ?_
  refine s_move rfl rfl ?_
  refine WL_know (s := 30) (c := false) rfl ((by simp; omega)) ?_
  refine D_qn ?_
  refine D_q rfl rfl ?_
  refine WL_take rfl ?_
  refine s_move rfl rfl ?_
  refine D_qn ?_
  refine D_q rfl rfl ?_
  refine WL_take rfl ?_
  refine s_gtr rfl rfl rfl ?_
  refine D_qn ?_
  refine D_q rfl rfl ?_
  refine WL_take rfl ?_
  refine s_move rfl rfl ?_
  refine WL_case (s := 33) rfl (fun hg33 => ?_) (fun hg33 => ?_)
  · skip
    simp only [decide_eq_true_eq, decide_eq_false_iff_not, Bool.not_eq_true', Bool.not_eq_false'] at hg33
    refine D_qn ?_
    refine D_q rfl rfl ?_
    refine WL_take rfl ?_
    refine s_move rfl rfl ?_
    refine D_qn ?_
    refine D_q rfl rfl ?_
    refine WL_take rfl ?_
    refine s_move rfl rfl ?_
    refine D_qn ?_
    refine D_q rfl rfl ?_
    refine WL_take rfl ?_
    (refine s_sub' rfl rfl rfl ?hx ?_; case hx => (constructor <;> omega))
    rw [show ((c : Nat) : Int) - 1 = ((c - 1 : Nat) : Int) from by omega]
    refine D_qn ?_
    refine D_q rfl rfl ?_
    refine WL_take rfl ?_
    (refine s_indexAddrA Tryd.underlying83 Tryd.sizeOf3 rfl rfl rfl ?hx ?_; case hx => (constructor <;> omega))
    refine D_qn ?_
    refine D_q rfl rfl ?_
    refine WL_take rfl ?_
    first
      | refine s_load Tryd.isAgg3 rfl rfl (hs.cell (k := 0) rfl rfl) ?_
      | refine s_load Tryd.isAgg3 rfl rfl (hs.cell (k := 1) rfl rfl) ?_
      | refine s_load Tryd.isAgg3 rfl rfl (hs.cell (k := 2) rfl rfl) ?_
      | refine s_load Tryd.isAgg3 rfl rfl (hs.cell (k := 3) rfl rfl) ?_
      | refine s_load Tryd.isAgg3 rfl rfl (hs.cell (k := 4) rfl rfl) ?_
      | refine s_load Tryd.isAgg3 rfl rfl (hs.cell (k := 5) rfl rfl) ?_
      | refine s_load Tryd.isAgg3 rfl rfl (hs.cell (k := 6) rfl rfl) ?_
      | refine s_load Tryd.isAgg3 rfl rfl (hs.cell (k := 7) rfl rfl) ?_
      | refine s_load Tryd.isAgg3 rfl rfl (hs.cell (k := 8) rfl rfl) ?_
      | refine s_load Tryd.isAgg3 rfl rfl (hs.cell (k := 9) rfl rfl) ?_
      | refine s_load Tryd.isAgg3 rfl rfl ((hg.st hs hg0).at (j := c) (by omega)) ?_
      | refine s_load Tryd.isAgg3 rfl rfl ((hg.st hs hg0).at (j := c - 1) (by omega)) ?_
    refine D_qn ?_
    refine D_e rfl ?_
    refine WL_take rfl ?_
    refine s_call Tryd.call44 rfl rfl (fits_ok m (cwd (c - 1)) w hz (cwd_le _)) ?_
    rintro v w1 ⟨hw1, rfl⟩
    rw [hw1, decide_eq_false (hmin (c - 1) (by omega))]; clear hw1 w1
    refine D_en ?re ?_
    case re =>
      exact Reks_nil
    refine D_q rfl rfl ?_
    refine WL_take rfl ?_
    refine s_pick_t rfl rfl rfl ?_
    refine D_qn ?_
    refine D_q rfl rfl ?_
    refine s_pick_f rfl rfl rfl ?_
    refine D_qn ?_
    refine D_nil ?_
    refine n_then ?_
    refine W_cond_kf rfl (rfl) ?_
    refine W_skip ?_
    refine n_then ?_
    refine W_seq ?_
    refine W_region ?_
    refine s_move rfl rfl ?_
    (refine s_shr rfl rfl rfl ?hx ?_; case hx => omega)
    have hsh : (m : Int).fdiv (2 ^ (min (1 : Int).toNat IntKind.u64.bits)) = ((m / 2 : Nat) : Int) := by
      rw [show (2 : Int) ^ (min (1 : Int).toNat IntKind.u64.bits) = 2 from rfl, Int.fdiv_eq_ediv_of_nonneg _ (by omega)]; rfl
    rw [hsh]
    refine s_convert rfl rfl (CV56_3 _) ?_
    refine s_move rfl rfl ?_
    refine s_and rfl rfl rfl ?_
    rw [and1 m hz]
    refine s_convert rfl rfl (CV56_3 _) ?_
    rw [IntWalk.i64_in _ (by omega)]
    first | (refine s_neg' rfl rfl ?hx ?_; case hx => omega) | refine s_neg rfl rfl ?_
    refine s_xor rfl rfl rfl ?_
    rw [zag m hz, hun]
    refine s_assign rfl rfl ?_
    refine s_assign rfl rfl ?_
    refine WL_nil ?_
    refine n_then ?_
    refine W_ret ?_
    exact end2 rfl rfl rfl ⟨_, hs, hR, rfl⟩
  · skip
    simp only [decide_eq_true_eq, decide_eq_false_iff_not, Bool.not_eq_true', Bool.not_eq_false'] at hg33
    refine D_qn ?_
    refine D_q rfl rfl ?_
    refine WL_skip rfl rfl rfl ?_
    refine D_qn ?_
    refine D_q rfl rfl ?_
    refine WL_skip rfl rfl rfl ?_
    refine D_qn ?_
    refine D_q rfl rfl ?_
    refine WL_skip rfl rfl rfl ?_
    refine D_qn ?_
    refine D_q rfl rfl ?_
    refine WL_skip rfl rfl rfl ?_
    refine D_qn ?_
    refine D_q rfl rfl ?_
    refine WL_skip rfl rfl rfl ?_
    refine D_qn ?_
    refine D_e rfl ?_
    refine WL_skip rfl rfl rfl ?_
    refine D_en ?re ?_
    case re =>
      exact Reks_nil
    refine D_q rfl rfl ?_
    refine WL_take rfl ?_
    refine s_pick_f rfl rfl rfl ?_
    refine D_qn ?_
    refine D_q rfl rfl ?_
    refine s_pick_f rfl rfl rfl ?_
    refine D_qn ?_
    refine D_nil ?_
    refine n_then ?_
    refine W_cond_f rfl ?_
    refine W_skip ?_
    refine n_then ?_
    refine W_seq ?_
    refine W_region ?_
    refine s_move rfl rfl ?_
    (refine s_shr rfl rfl rfl ?hx ?_; case hx => omega)
    have hsh : (m : Int).fdiv (2 ^ (min (1 : Int).toNat IntKind.u64.bits)) = ((m / 2 : Nat) : Int) := by
      rw [show (2 : Int) ^ (min (1 : Int).toNat IntKind.u64.bits) = 2 from rfl, Int.fdiv_eq_ediv_of_nonneg _ (by omega)]; rfl
    rw [hsh]
    refine s_convert rfl rfl (CV56_3 _) ?_
    refine s_move rfl rfl ?_
    refine s_and rfl rfl rfl ?_
    rw [and1 m hz]
    refine s_convert rfl rfl (CV56_3 _) ?_
    rw [IntWalk.i64_in _ (by omega)]
    first | (refine s_neg' rfl rfl ?hx ?_; case hx => omega) | refine s_neg rfl rfl ?_
    refine s_xor rfl rfl rfl ?_
    rw [zag m hz, hun]
    refine s_assign rfl rfl ?_
    refine s_assign rfl rfl ?_
    refine WL_nil ?_
    refine n_then ?_
    refine W_ret ?_
    exact end2 rfl rfl rfl ⟨_, hs, hR, rfl⟩
end Go.Proofs.YtbcdnpjcbchbjaaDoor
