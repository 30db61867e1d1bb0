/- Contracts of package codec: the code of a number, written and read. -/
import Derived.Test.YtgjjdlgbbgijgaaDoorCoP
import Derived.Test.YtgjjdlgbbgijgaaDoorStr
set_option linter.unusedVariables false
set_option linter.unusedSimpArgs false
namespace Go.SL
section
variable {P : Program} {n : Nat} {ops : Array Oper} {Q : Post} {l : Fr} {w : World} {rest : List Oper} {d ty : Nat} {pos : String} {aft : Array Edge}
theorem s_indexAddrA {x y : Operand} {t e len b o : Nat} {kd : IntKind} {i : Int} (hu : P.underlying t = some (.array len e)) (hsz : ∀ w, (sizeOf e).run P w = .ok 1 w) (hd : Nat.blt d n = true) (hx : ev l x = some (.pointer (some ⟨b, o, none⟩))) (hy : ev l y = some (.int kd i)) (h : 0 ≤ i ∧ i < len)
    (k : WL P n ops Q rest ((d, .pointer (some ⟨b, o + i.toNat, none⟩)) :: l) w) : WL P n ops Q (⟨some d, .indexAddr t x y, ty, pos, aft, none⟩ :: rest) l w := WL_val hd (fun a ha => by
      simp [execOp, ha.eval hx, ha.eval hy, Instr.indexAt, asIntOf, run_underlying hu, Instr.sureAddr, h.1, h.2, hsz, Addr.add_lit]) k
theorem s_indexV {x y : Operand} {t : Nat} {p q v : Value} (hd : Nat.blt d n = true) (hx : ev l x = some p) (hy : ev l y = some q) (hr : ∀ w, (Instr.index t p q).run P w = .ok v w) (k : WL P n ops Q rest ((d, v) :: l) w) :
    WL P n ops Q (⟨some d, .index t x y, ty, pos, aft, none⟩ :: rest) l w := WL_val hd (fun a ha => by simp [execOp, ha.eval hx, ha.eval hy, hr]) k
end
theorem St.new0 {w0 w : World} {L : Hp} (hs : St [] w0 w L) {b : Nat} (hb : b < w0.heap.size) : b ∉ ids L := fun h => by
  obtain ⟨o, ho⟩ := mem_ids.1 h
  rcases hs.new _ ho with h1 | h1
  · cases h1
  · simp only at h1; omega
end Go.SL
namespace Go.Proofs.YtgjjdlgbbgijgaaDoor
open Go.SL
/-- the table of widths, as the program's text lays it -/
def Wd (w : World) : Prop := ∀ j, j < 6 → w.cell? ⟨1, 0 + j, none⟩ = some (.int .i64 (cwd j : Int))
theorem Wd.lt {w : World} (h : Wd w) : 1 < w.heap.size := World.block_lt_of_cell? w _ (h 0 (by decide))
theorem Wd.fwd {F : List Nat} {w0 w : World} (h : Wd w0) (hf : Fwd F w0 w) (hn : 1 ∉ F) : Wd w := fun j hj => by
  rw [World.cell?_of_block (hf.block _ h.lt hn)]; exact h j hj
theorem Wd.st {F : List Nat} {w0 w : World} {L : Hp} (h : Wd w0) (hs : St F w0 w L) (hn : 1 ∉ F) : Wd w := h.fwd hs.fwd hn
theorem Wd.at {w : World} (h : Wd w) {j : Nat} (hj : j < 6) : w.cell? ⟨1, 0 + ((j : Nat) : Int).toNat, none⟩ = some (.int .i64 (cwd j : Int)) := h j hj
theorem Wd.not {w0 w : World} {L : Hp} (h : Wd w0) (hs : St [] w0 w L) : 1 ∉ ids L := hs.new0 h.lt
theorem shrC (z c : Nat) (hc : c < 64) : (z : Int).fdiv (2 ^ (min ((c : Nat) : Int).toNat IntKind.u64.bits)) = ((z / 2 ^ c : Nat) : Int) := by
  rw [bits64, show min ((c : Nat) : Int).toNat 64 = c by omega, Int.fdiv_eq_ediv_of_nonneg _ (Int.le_of_lt (Int.pow_pos (by decide)))]
  simp
theorem fits_ok (z c : Nat) (w0 : World) (hz : z < 18446744073709551616) (hc : c ≤ 64) :
    Ret Tryd.prog 47 [.int .u64 (z : Int), .int .i64 (c : Int)].toArray w0 fun r w' => w' = w0 ∧ r = .bool (decide (z < 2 ^ c)) := by
  refine Ret_of Tryd.func47 rfl Tryd.ntmps47 rfl ?_
  refine W_seq ?_
  refine W_region ?_
  refine s_assign rfl rfl ?_
  refine WL_nil ?_
  refine n_then ?_
  refine W_seq ?_
  refine W_region ?_
  refine s_move rfl rfl ?_
  refine s_geq rfl rfl rfl ?_
  refine s_move rfl rfl ?_
  refine WL_case (s := 7) rfl (fun hg7 => ?_) (fun hg7 => ?_)
  · skip
    simp only [decide_eq_true_eq, decide_eq_false_iff_not] at hg7
    refine WL_skip rfl rfl rfl ?_
    refine WL_skip rfl rfl rfl ?_
    refine WL_skip rfl rfl rfl ?_
    refine WL_skip rfl rfl rfl ?_
    refine s_pick_t rfl rfl rfl ?_
    refine s_assign rfl rfl ?_
    refine WL_nil ?_
    refine n_then ?_
    refine W_ret ?_
    first
      | (refine end1 rfl rfl ⟨rfl, ?_⟩
         obtain rfl : c = 64 := by omega
         have : z < 2 ^ 64 := by omega
         simp [this]; done)
      | (refine end1 rfl rfl ⟨rfl, ?_⟩
         refine congrArg Value.bool ?_
         rw [Bool.eq_iff_iff, beq_iff_eq, decide_eq_true_eq]
         have h1 := Nat.div_eq_zero_iff (a := z) (b := 2 ^ c)
         have h2 : 0 < 2 ^ c := Nat.pow_pos (by decide)
         generalize 2 ^ c = q at *
         omega)
  · skip
    simp only [decide_eq_true_eq, decide_eq_false_iff_not] at hg7
    refine WL_take rfl ?_
    refine s_move rfl rfl ?_
    refine WL_take rfl ?_
    refine s_move rfl rfl ?_
    refine WL_take rfl ?_
    (refine s_shr rfl rfl rfl ?hx ?_; case hx => omega)
    rw [shrC z c (by omega)]
    refine WL_take rfl ?_
    refine s_eql rfl rfl rfl ?_
    refine s_pick_f rfl rfl rfl ?_
    refine s_assign rfl rfl ?_
    refine WL_nil ?_
    refine n_then ?_
    refine W_ret ?_
    first
      | (refine end1 rfl rfl ⟨rfl, ?_⟩
         obtain rfl : c = 64 := by omega
         have : z < 2 ^ 64 := by omega
         simp [this]; done)
      | (refine end1 rfl rfl ⟨rfl, ?_⟩
         refine congrArg Value.bool ?_
         rw [Bool.eq_iff_iff, beq_iff_eq, decide_eq_true_eq]
         have h1 := Nat.div_eq_zero_iff (a := z) (b := 2 ^ c)
         have h2 : 0 < 2 ^ c := Nat.pow_pos (by decide)
         generalize 2 ^ c = q at *
         omega)
theorem coWrite_ok (p : Nat) (bs : List Bool) (n : Int) (L0 : Hp) (w0 : World) (hg : Wd w0) (hg0 : 1 ∉ ids L0) (hW : WbAt p bs L0) (hs : St (ids L0) w0 w0 L0) (hn : isI64 n) (hl : bs.length ≤ 274877906944) :
    Ret Tryd.prog 41 [.pointer (some ⟨p, 0, none⟩), .int .i64 n].toArray w0 fun r w' => ∃ L', St (ids L0) w0 w' L' ∧ WbAt p (bs ++ code n) L' ∧ r = .tuple #[] := by
  have hz := zz_lt hn
  have h5 := ci_le (zz n)
  refine Ret_startL hs fun w hs => ?_
  refine Ret_of Tryd.func41 rfl Tryd.ntmps41 rfl ?_
  refine W_seq ?_
  refine W_region ?_
  refine s_move rfl rfl ?_
  refine s_convert rfl rfl (CV3_64 _) ?_
  (refine s_shl rfl rfl rfl ?hx ?_; case hx => omega)
  refine s_move rfl rfl ?_
  (refine s_shr rfl rfl rfl ?hx ?_; case hx => omega)
  refine s_convert rfl rfl (CV3_64 _) ?_
  refine s_xor rfl rfl rfl ?_
  rw [zig n hn]
  refine s_assign rfl rfl ?_
  refine WL_nil ?_
  refine n_then ?_
  refine W_seq ?_
  refine W_region ?_
  refine s_assign rfl rfl ?_
  refine WL_nil ?_
  refine n_then ?_
  refine W_seq ?_
  refine W_block ?_
  refine W_loop (σ := Nat) (fun s => [(0, .pointer (some ⟨p, 0, none⟩)), (4, .int .u64 (zz n : Int)), (5, .int .i64 (s : Int))]) (fun s w => St (ids L0) w0 w L0 ∧ s ≤ ci (zz n)) (fun s => ci (zz n) - s) 0 ⟨rfl, rfl, rfl, trivial⟩ ⟨hs, Nat.zero_le _⟩ ?_
  clear hs
  rintro i w ⟨hs, hi⟩
  refine W_seq ?_
  refine W_seq ?_
  refine W_region ?_
  refine s_move rfl rfl ?_
  refine s_move rfl rfl ?_
  (refine s_indexAddrA Tryd.underlying98 Tryd.sizeOf3 rfl rfl rfl ?hx ?_; case hx => (constructor <;> omega))
  first
    | refine s_load Tryd.isAgg3 rfl rfl (hs.cell (k := 0) rfl rfl) ?_
    | refine s_load Tryd.isAgg3 rfl rfl (hs.cell (k := 1) rfl rfl) ?_
    | refine s_load Tryd.isAgg3 rfl rfl (hs.cell (k := 2) rfl rfl) ?_
    | refine s_load Tryd.isAgg3 rfl rfl (hs.cell (k := 3) rfl rfl) ?_
    | refine s_load Tryd.isAgg3 rfl rfl (hs.cell (k := 4) rfl rfl) ?_
    | refine s_load Tryd.isAgg3 rfl rfl (hs.cell (k := 5) rfl rfl) ?_
    | refine s_load Tryd.isAgg3 rfl rfl (hs.cell (k := 6) rfl rfl) ?_
    | refine s_load Tryd.isAgg3 rfl rfl (hs.cell (k := 7) rfl rfl) ?_
    | refine s_load Tryd.isAgg3 rfl rfl (hs.cell (k := 8) rfl rfl) ?_
    | refine s_load Tryd.isAgg3 rfl rfl (hs.cell (k := 9) rfl rfl) ?_
    | refine s_load Tryd.isAgg3 rfl rfl ((hg.st hs hg0).at (by omega)) ?_
  refine s_call Tryd.call47 rfl rfl (fits_ok (zz n) (cwd i) w hz (cwd_le _)) ?_
  rintro v w1 ⟨hw1, rfl⟩
  rw [hw1]; clear hw1 w1
  refine s_not rfl rfl ?_
  refine WL_nil ?_
  refine n_then ?_
  refine W_cond rfl (fun hc18 => ?_) (fun hc18 => ?_)
  · skip
    simp only [decide_eq_true_eq, decide_eq_false_iff_not, Bool.not_eq_true', Bool.not_eq_false'] at hc18
    refine W_skip ?_
    refine n_then ?_
    refine W_block ?_
    refine W_region ?_
    refine s_move rfl rfl ?_
    first | (refine s_add' rfl rfl rfl ?hx ?_; case hx => (constructor <;> first | omega | (simp only; omega))) | refine s_add rfl rfl rfl ?_
    refine s_assign rfl rfl ?_
    refine WL_nil ?_
    refine n_blk ?_
    refine n_loop ?_
    have hlt : i < ci (zz n) := by
      rcases Nat.lt_or_ge i (ci (zz n)) with h | h
      · exact h
      · obtain rfl : i = ci (zz n) := by omega
        exact absurd (ci_fits hz) (by simpa using hc18)
    exact ⟨i + 1, ⟨rfl, rfl, rfl, trivial⟩, ⟨hs, hlt⟩, by omega⟩
  · skip
    simp only [decide_eq_true_eq, decide_eq_false_iff_not, Bool.not_eq_true', Bool.not_eq_false'] at hc18
    refine W_exit ?_
    refine x_then ?_
    refine x_then ?_
    refine exit_hit ?_
    refine n_then ?_
    refine W_seq ?_
    refine W_region ?_
    refine s_move rfl rfl ?_
    refine s_move rfl rfl ?_
    obtain rfl : i = ci (zz n) := by
      rcases Nat.lt_or_ge i (ci (zz n)) with h | h
      · exact absurd (by simpa using hc18) (ci_min h)
      · omega
    refine s_callL (M := []) (L1 := L0) (X := []) Tryd.call48 rfl rfl (by simpa using hs) (fun h => wUnary_ok p bs _ _ w hW h (by omega)) ?_
    rw [show (capV ((ci (zz n) : Nat) : Int)).toNat = ci (zz n) from by have := capV_nat ((ci (zz n) : Nat) : Int); unfold capV at *; split <;> split at * <;> omega]
    clear hs; rintro v w L2 ⟨hW2, rfl⟩ - hs
    simp only [List.nil_append, List.append_nil] at hs
    refine WL_nil ?_
    refine n_then ?_
    refine W_region ?_
    refine s_move rfl rfl ?_
    refine s_move rfl rfl ?_
    refine s_move rfl rfl ?_
    (refine s_indexAddrA Tryd.underlying98 Tryd.sizeOf3 rfl rfl rfl ?hx ?_; case hx => (constructor <;> omega))
    first
      | refine s_load Tryd.isAgg3 rfl rfl (hs.cell (k := 0) rfl rfl) ?_
      | refine s_load Tryd.isAgg3 rfl rfl (hs.cell (k := 1) rfl rfl) ?_
      | refine s_load Tryd.isAgg3 rfl rfl (hs.cell (k := 2) rfl rfl) ?_
      | refine s_load Tryd.isAgg3 rfl rfl (hs.cell (k := 3) rfl rfl) ?_
      | refine s_load Tryd.isAgg3 rfl rfl (hs.cell (k := 4) rfl rfl) ?_
      | refine s_load Tryd.isAgg3 rfl rfl (hs.cell (k := 5) rfl rfl) ?_
      | refine s_load Tryd.isAgg3 rfl rfl (hs.cell (k := 6) rfl rfl) ?_
      | refine s_load Tryd.isAgg3 rfl rfl (hs.cell (k := 7) rfl rfl) ?_
      | refine s_load Tryd.isAgg3 rfl rfl (hs.cell (k := 8) rfl rfl) ?_
      | refine s_load Tryd.isAgg3 rfl rfl (hs.cell (k := 9) rfl rfl) ?_
      | refine s_load Tryd.isAgg3 rfl rfl ((hg.st hs hg0).at (by omega)) ?_
    refine s_callL (M := []) (L1 := L2) (X := []) Tryd.call49 rfl rfl (by simpa using hs) (fun h => wBits_ok p _ (zz n) _ L2 w hW2 h hz (by simp; omega)) ?_
    rw [clampV_cwd]
    clear hs; rintro v w L3 ⟨hW3, rfl⟩ - hs
    simp only [List.nil_append, List.append_nil] at hs
    refine WL_nil ?_
    exact end0' rfl ⟨_, hs, by rw [code, ← List.append_assoc]; exact hW3, rfl⟩
theorem coRead_ok (p : Nat) (bs : List Bool) (k : Nat) (n : Int) (L0 : Hp) (w0 : World) (hg : Wd w0) (hg0 : 1 ∉ ids L0) (hR : RbAt p (pk bs) k 0 L0) (hs : St (ids L0) w0 w0 L0) (hn : isI64 n) (hA : AtBits bs (code n) k) (hl : bs.length ≤ 4294967296) :
    Ret Tryd.prog 45 [.pointer (some ⟨p, 0, none⟩)].toArray w0 fun r w' => ∃ L', St (ids L0) w0 w' L' ∧ RbAt p (pk bs) (k + (code n).length) 0 L' ∧ r = .tuple #[.int .i64 n, .bool true] := by
  have hz := zz_lt hn
  have h5 := ci_le (zz n)
  have hcl := code_length n
  obtain ⟨hru, hrb, hle⟩ := code_read hn hA
  have hwd := cwd_le (ci (zz n))
  have hfit := ci_fits hz
  have hmin : ∀ j, j < ci (zz n) → ¬ zz n < 2 ^ cwd j := fun j hj => ci_min hj
  have hun : unzz (zz n) = n := unzz_zz n
  generalize zz n = m at *
  generalize ci m = c at *
  refine Ret_startL hs fun w hs => ?_
  refine Ret_of Tryd.func45 rfl Tryd.ntmps45 rfl ?_
  refine W_seq ?_
  refine W_region ?_
  refine s_assign rfl rfl ?_
  refine s_assign rfl rfl ?_
  refine WL_nil ?_
  refine n_then ?_
  refine W_seq ?_
  refine W_region ?_
  refine s_move rfl rfl ?_
  refine s_callL (M := []) (L1 := L0) (X := []) Tryd.call52 rfl rfl (by simpa using hs) (fun h => rAt_ok p _ _ _ L0 w hR h) ?_
  clear hs; rintro v w L9 ⟨hL9, rfl⟩ - hs
  rw [hL9] at hs; clear hL9 L9
  simp only [List.nil_append, List.append_nil] at hs
  refine s_assign rfl rfl ?_
  refine WL_nil ?_
  refine n_then ?_
  refine W_seq ?_
  refine W_region ?_
  refine s_move rfl rfl ?_
  refine s_callL (M := []) (L1 := L0) (X := []) Tryd.call53 rfl rfl (by simpa using hs) (fun h => rUnary_ok p _ _ _ 5 L0 w hR h) ?_
  rw [hru]; simp only
  clear hs hR; rintro v w L2 ⟨hR, rfl⟩ - hs
  simp only [List.nil_append, List.append_nil] at hs hR
  refine s_assign rfl rfl ?_
  refine WL_nil ?_
  refine n_then ?_
  refine W_seq ?_
  refine W_region ?_
  refine s_move rfl rfl ?_
  refine s_callL (M := []) (L1 := L2) (X := []) Tryd.call52 rfl rfl (by simpa using hs) (fun h => rAt_ok p _ _ _ L2 w hR h) ?_
  clear hs; rintro v w L9 ⟨hL9, rfl⟩ - hs
  rw [hL9] at hs; clear hL9 L9
  simp only [List.nil_append, List.append_nil] at hs
  refine s_assign rfl rfl ?_
  refine WL_nil ?_
  refine n_then ?_
  refine W_seq ?_
  refine W_seq ?_
  refine W_region ?_
  refine s_move rfl rfl ?_
  refine s_move rfl rfl ?_
  refine s_eql rfl rfl rfl ?_
  refine WL_nil ?_
  refine n_then ?_
  refine W_cond_kf rfl ((by simp; omega)) ?_
  refine W_skip ?_
  refine n_then ?_
  refine W_seq ?_
  refine W_region ?_
  refine s_move rfl rfl ?_
  refine s_move rfl rfl ?_
  (refine s_indexAddrA Tryd.underlying98 Tryd.sizeOf3 rfl rfl rfl ?hx ?_; case hx => (constructor <;> omega))
  first
    | refine s_load Tryd.isAgg3 rfl rfl (hs.cell (k := 0) rfl rfl) ?_
    | refine s_load Tryd.isAgg3 rfl rfl (hs.cell (k := 1) rfl rfl) ?_
    | refine s_load Tryd.isAgg3 rfl rfl (hs.cell (k := 2) rfl rfl) ?_
    | refine s_load Tryd.isAgg3 rfl rfl (hs.cell (k := 3) rfl rfl) ?_
    | refine s_load Tryd.isAgg3 rfl rfl (hs.cell (k := 4) rfl rfl) ?_
    | refine s_load Tryd.isAgg3 rfl rfl (hs.cell (k := 5) rfl rfl) ?_
    | refine s_load Tryd.isAgg3 rfl rfl (hs.cell (k := 6) rfl rfl) ?_
    | refine s_load Tryd.isAgg3 rfl rfl (hs.cell (k := 7) rfl rfl) ?_
    | refine s_load Tryd.isAgg3 rfl rfl (hs.cell (k := 8) rfl rfl) ?_
    | refine s_load Tryd.isAgg3 rfl rfl (hs.cell (k := 9) rfl rfl) ?_
    | refine s_load Tryd.isAgg3 rfl rfl ((hg.st hs hg0).at (j := c) (by omega)) ?_
    | refine s_load Tryd.isAgg3 rfl rfl ((hg.st hs hg0).at (j := c - 1) (by omega)) ?_
  refine s_callL (M := []) (L1 := L2) (X := []) Tryd.call54 rfl rfl (by simpa using hs) (fun h => rBits_ok p _ _ _ _ L2 w hR h) ?_
  rw [hrb]; simp only
  clear hs hR; rintro v w L3 ⟨hR, rfl⟩ - hs
  simp only [List.nil_append, List.append_nil] at hs hR
  refine s_assign rfl rfl ?_
  refine WL_nil ?_
  refine n_then ?_
  refine W_seq ?_
  refine W_seq ?_
  refine W_draw [(0, true, []), (2, true, []), (3, true, []), (4, true, []), (5, true, []), (6, true, []), (1, false, [2, 3, 4, 5, 6]), (7, true, []), (8, true, []), (9, true, []), (10, true, []), (11, true, []), (12, true, []), (13, true, []), (14, true, []), (15, true, []), (16, true, []), (17, false, []), (18, true, []), (19, true, [])] [[], [0], [], [], [3], [3, 4], [2, 3, 4, 5], [0, 1, 2, 3, 4, 5, 6], [0, 1, 2, 3, 4, 5, 6, 7], [0, 1, 2, 3, 4, 5, 6, 7, 8], [0, 1, 2, 3, 4, 5, 6, 7, 8, 9], [0, 1, 2, 3, 4, 5, 6, 7, 8, 9, 10], [0, 1, 2, 3, 4, 5, 6, 7, 8, 9, 10, 11], [0, 1, 2, 3, 4, 5, 6, 7, 8, 9, 10, 11], [0, 1, 2, 3, 4, 5, 6, 7, 8, 9, 10, 11, 13], [0, 1, 2, 3, 4, 5, 6, 7, 8, 9, 10, 11, 13, 14], [0, 1, 2, 3, 4, 5, 6, 7, 8, 9, 10, 11, 13, 14, 15], [0, 1, 2, 3, 4, 5, 6, 7, 8, 9, 10, 11, 12, 13, 14, 15, 16], [0, 1, 2, 3, 4, 5, 6, 7, 8, 9, 10, 11, 12, 13, 14, 15, 16, 17], [0, 1, 2, 3, 4, 5, 6, 7, 8, 9, 10, 11, 12, 13, 14, 15, 16, 17, 18]] MX (by kernel_rfl) ?_
  intro w1 hw1 hw2 hw3 hw4; replace hs := hs.redrawn hw1 hw2 hw3 hw4; clear hw1 hw2 hw3 hw4
  obtain ⟨w, rfl⟩ : ∃ w : World, w = w1 := ⟨_, rfl⟩
  refine D_q rfl rfl ?_
  refine s_move rfl rfl ?_
  refine D_qn ?_
  refine D_q rfl rfl ?_
  refine s_move rfl rfl ?_
  refine D_qn ?_
  refine D_q rfl rfl ?_
  refine s_move rfl rfl ?_
  refine D_qn ?_
  refine D_q rfl rfl ?_
  (refine s_indexAddrA Tryd.underlying98 Tryd.sizeOf3 rfl rfl rfl ?hx ?_; case hx => (constructor <;> omega))
  refine D_qn ?_
  refine D_q rfl rfl ?_
  first
    | refine s_load Tryd.isAgg3 rfl rfl (hs.cell (k := 0) rfl rfl) ?_
    | refine s_load Tryd.isAgg3 rfl rfl (hs.cell (k := 1) rfl rfl) ?_
    | refine s_load Tryd.isAgg3 rfl rfl (hs.cell (k := 2) rfl rfl) ?_
    | refine s_load Tryd.isAgg3 rfl rfl (hs.cell (k := 3) rfl rfl) ?_
    | refine s_load Tryd.isAgg3 rfl rfl (hs.cell (k := 4) rfl rfl) ?_
    | refine s_load Tryd.isAgg3 rfl rfl (hs.cell (k := 5) rfl rfl) ?_
    | refine s_load Tryd.isAgg3 rfl rfl (hs.cell (k := 6) rfl rfl) ?_
    | refine s_load Tryd.isAgg3 rfl rfl (hs.cell (k := 7) rfl rfl) ?_
    | refine s_load Tryd.isAgg3 rfl rfl (hs.cell (k := 8) rfl rfl) ?_
    | refine s_load Tryd.isAgg3 rfl rfl (hs.cell (k := 9) rfl rfl) ?_
    | refine s_load Tryd.isAgg3 rfl rfl ((hg.st hs hg0).at (j := c) (by omega)) ?_
    | refine s_load Tryd.isAgg3 rfl rfl ((hg.st hs hg0).at (j := c - 1) (by omega)) ?_
  refine D_qn ?_
  refine D_q rfl rfl ?_
  first | (refine s_add' rfl rfl rfl ?hx ?_; case hx => (constructor <;> first | omega | (simp only; omega))) | refine s_add rfl rfl rfl ?_
  refine D_qn ?_
  refine D_e rfl ?_
  refine s_callL (M := []) (L1 := L3) (X := []) Tryd.call52 rfl rfl (by simpa using hs) (fun h => rAt_ok p _ _ _ L3 w hR h) ?_
  clear hs; rintro v w L9 ⟨hL9, rfl⟩ - hs
  rw [hL9] at hs; clear hL9 L9
  simp only [List.nil_append, List.append_nil] at hs
  refine D_en ?re ?_
  case re =>
    refine Reks_cons rfl rfl rfl rfl ?_ ?_
    · skip
      refine s_move rfl rfl ?_
      exact Rek_end rfl
    refine Reks_cons rfl rfl rfl rfl ?_ ?_
    · skip
      refine s_move rfl rfl ?_
      exact Rek_end rfl
    refine Reks_cons rfl rfl rfl rfl ?_ ?_
    · skip
      (refine s_indexAddrA Tryd.underlying98 Tryd.sizeOf3 rfl rfl rfl ?hx ?_; case hx => (constructor <;> omega))
      exact Rek_end rfl
    refine Reks_cons rfl rfl rfl rfl ?_ ?_
    · skip
      first
        | refine s_load Tryd.isAgg3 rfl rfl (hs.cell (k := 0) rfl rfl) ?_
        | refine s_load Tryd.isAgg3 rfl rfl (hs.cell (k := 1) rfl rfl) ?_
        | refine s_load Tryd.isAgg3 rfl rfl (hs.cell (k := 2) rfl rfl) ?_
        | refine s_load Tryd.isAgg3 rfl rfl (hs.cell (k := 3) rfl rfl) ?_
        | refine s_load Tryd.isAgg3 rfl rfl (hs.cell (k := 4) rfl rfl) ?_
        | refine s_load Tryd.isAgg3 rfl rfl (hs.cell (k := 5) rfl rfl) ?_
        | refine s_load Tryd.isAgg3 rfl rfl (hs.cell (k := 6) rfl rfl) ?_
        | refine s_load Tryd.isAgg3 rfl rfl (hs.cell (k := 7) rfl rfl) ?_
        | refine s_load Tryd.isAgg3 rfl rfl (hs.cell (k := 8) rfl rfl) ?_
        | refine s_load Tryd.isAgg3 rfl rfl (hs.cell (k := 9) rfl rfl) ?_
        | refine s_load Tryd.isAgg3 rfl rfl ((hg.st hs hg0).at (j := c) (by omega)) ?_
        | refine s_load Tryd.isAgg3 rfl rfl ((hg.st hs hg0).at (j := c - 1) (by omega)) ?_
      exact Rek_end rfl
    refine Reks_cons rfl rfl rfl rfl ?_ ?_
    · skip
      first | (refine s_add' rfl rfl rfl ?hx ?_; case hx => (constructor <;> first | omega | (simp only; omega))) | refine s_add rfl rfl rfl ?_
      exact Rek_end rfl
    exact Reks_nil
  refine D_q rfl rfl ?_
  refine s_neq rfl rfl rfl ?_
  refine D_qn ?_
  refine D_q rfl rfl ?_
  refine s_move rfl rfl ?_
  refine WL_know (s := 30) (c := false) rfl ((by simp; omega)) ?_
  refine D_qn ?_
  refine D_q rfl rfl ?_
  refine WL_take rfl ?_
  refine s_move rfl rfl ?_
  refine D_qn ?_
  refine D_q rfl rfl ?_
  refine WL_take rfl ?_
  refine s_gtr rfl rfl rfl ?_
  refine D_qn ?_
  refine D_q rfl rfl ?_
  refine WL_take rfl ?_
  refine s_move rfl rfl ?_
  refine WL_case (s := 33) rfl (fun hg33 => ?_) (fun hg33 => ?_)
  · skip
    simp only [decide_eq_true_eq, decide_eq_false_iff_not, Bool.not_eq_true', Bool.not_eq_false'] at hg33
    refine D_qn ?_
    refine D_q rfl rfl ?_
    refine WL_take rfl ?_
    refine s_move rfl rfl ?_
    refine D_qn ?_
    refine D_q rfl rfl ?_
    refine WL_take rfl ?_
    refine s_move rfl rfl ?_
    refine D_qn ?_
    refine D_q rfl rfl ?_
    refine WL_take rfl ?_
    (refine s_sub' rfl rfl rfl ?hx ?_; case hx => (constructor <;> omega))
    rw [show ((c : Nat) : Int) - 1 = ((c - 1 : Nat) : Int) from by omega]
    refine D_qn ?_
    refine D_q rfl rfl ?_
    refine WL_take rfl ?_
    (refine s_indexAddrA Tryd.underlying98 Tryd.sizeOf3 rfl rfl rfl ?hx ?_; case hx => (constructor <;> omega))
    refine D_qn ?_
    refine D_q rfl rfl ?_
    refine WL_take rfl ?_
    first
      | refine s_load Tryd.isAgg3 rfl rfl (hs.cell (k := 0) rfl rfl) ?_
      | refine s_load Tryd.isAgg3 rfl rfl (hs.cell (k := 1) rfl rfl) ?_
      | refine s_load Tryd.isAgg3 rfl rfl (hs.cell (k := 2) rfl rfl) ?_
      | refine s_load Tryd.isAgg3 rfl rfl (hs.cell (k := 3) rfl rfl) ?_
      | refine s_load Tryd.isAgg3 rfl rfl (hs.cell (k := 4) rfl rfl) ?_
      | refine s_load Tryd.isAgg3 rfl rfl (hs.cell (k := 5) rfl rfl) ?_
      | refine s_load Tryd.isAgg3 rfl rfl (hs.cell (k := 6) rfl rfl) ?_
      | refine s_load Tryd.isAgg3 rfl rfl (hs.cell (k := 7) rfl rfl) ?_
      | refine s_load Tryd.isAgg3 rfl rfl (hs.cell (k := 8) rfl rfl) ?_
      | refine s_load Tryd.isAgg3 rfl rfl (hs.cell (k := 9) rfl rfl) ?_
      | refine s_load Tryd.isAgg3 rfl rfl ((hg.st hs hg0).at (j := c) (by omega)) ?_
      | refine s_load Tryd.isAgg3 rfl rfl ((hg.st hs hg0).at (j := c - 1) (by omega)) ?_
    refine D_qn ?_
    refine D_e rfl ?_
    refine WL_take rfl ?_
    refine s_call Tryd.call47 rfl rfl (fits_ok m (cwd (c - 1)) w hz (cwd_le _)) ?_
    rintro v w1 ⟨hw1, rfl⟩
    rw [hw1, decide_eq_false (hmin (c - 1) (by omega))]; clear hw1 w1
    refine D_en ?re ?_
    case re =>
      exact Reks_nil
    refine D_q rfl rfl ?_
    refine WL_take rfl ?_
    refine s_pick_t rfl rfl rfl ?_
    refine D_qn ?_
    refine D_q rfl rfl ?_
    refine s_pick_f rfl rfl rfl ?_
    refine D_qn ?_
    refine D_nil ?_
    refine n_then ?_
    refine W_cond_kf rfl (rfl) ?_
    refine W_skip ?_
    refine n_then ?_
    refine W_seq ?_
    refine W_region ?_
    refine s_move rfl rfl ?_
    (refine s_shr rfl rfl rfl ?hx ?_; case hx => omega)
    have hsh : (m : Int).fdiv (2 ^ (min (1 : Int).toNat IntKind.u64.bits)) = ((m / 2 : Nat) : Int) := by
      rw [show (2 : Int) ^ (min (1 : Int).toNat IntKind.u64.bits) = 2 from rfl, Int.fdiv_eq_ediv_of_nonneg _ (by omega)]; rfl
    rw [hsh]
    refine s_convert rfl rfl (CV64_3 _) ?_
    refine s_move rfl rfl ?_
    refine s_and rfl rfl rfl ?_
    rw [and1 m hz]
    refine s_convert rfl rfl (CV64_3 _) ?_
    rw [IntWalk.i64_in _ (by omega)]
    first | (refine s_neg' rfl rfl ?hx ?_; case hx => omega) | refine s_neg rfl rfl ?_
    refine s_xor rfl rfl rfl ?_
    rw [zag m hz, hun]
    refine s_assign rfl rfl ?_
    refine s_assign rfl rfl ?_
    refine WL_nil ?_
    refine n_then ?_
    refine W_ret ?_
    exact end2 rfl rfl rfl ⟨_, hs, hR, rfl⟩
  · skip
    simp only [decide_eq_true_eq, decide_eq_false_iff_not, Bool.not_eq_true', Bool.not_eq_false'] at hg33
    refine D_qn ?_
    refine D_q rfl rfl ?_
    refine WL_skip rfl rfl rfl ?_
    refine D_qn ?_
    refine D_q rfl rfl ?_
    refine WL_skip rfl rfl rfl ?_
    refine D_qn ?_
    refine D_q rfl rfl ?_
    refine WL_skip rfl rfl rfl ?_
    refine D_qn ?_
    refine D_q rfl rfl ?_
    refine WL_skip rfl rfl rfl ?_
    refine D_qn ?_
    refine D_q rfl rfl ?_
    refine WL_skip rfl rfl rfl ?_
    refine D_qn ?_
    refine D_e rfl ?_
    refine WL_skip rfl rfl rfl ?_
    refine D_en ?re ?_
    case re =>
      exact Reks_nil
    refine D_q rfl rfl ?_
    refine WL_take rfl ?_
    refine s_pick_f rfl rfl rfl ?_
    refine D_qn ?_
    refine D_q rfl rfl ?_
    refine s_pick_f rfl rfl rfl ?_
    refine D_qn ?_
    refine D_nil ?_
    refine n_then ?_
    refine W_cond_f rfl ?_
    refine W_skip ?_
    refine n_then ?_
    refine W_seq ?_
    refine W_region ?_
    refine s_move rfl rfl ?_
    (refine s_shr rfl rfl rfl ?hx ?_; case hx => omega)
    have hsh : (m : Int).fdiv (2 ^ (min (1 : Int).toNat IntKind.u64.bits)) = ((m / 2 : Nat) : Int) := by
      rw [show (2 : Int) ^ (min (1 : Int).toNat IntKind.u64.bits) = 2 from rfl, Int.fdiv_eq_ediv_of_nonneg _ (by omega)]; rfl
    rw [hsh]
    refine s_convert rfl rfl (CV64_3 _) ?_
    refine s_move rfl rfl ?_
    refine s_and rfl rfl rfl ?_
    rw [and1 m hz]
    refine s_convert rfl rfl (CV64_3 _) ?_
    rw [IntWalk.i64_in _ (by omega)]
    first | (refine s_neg' rfl rfl ?hx ?_; case hx => omega) | refine s_neg rfl rfl ?_
    refine s_xor rfl rfl rfl ?_
    rw [zag m hz, hun]
    refine s_assign rfl rfl ?_
    refine s_assign rfl rfl ?_
    refine WL_nil ?_
    refine n_then ?_
    refine W_ret ?_
    exact end2 rfl rfl rfl ⟨_, hs, hR, rfl⟩
end Go.Proofs.YtgjjdlgbbgijgaaDoor

/- Contracts of package codec: Encode. -/
namespace Go.SL
theorem St.new0M {w0 w : World} {M L X : Hp} (hs : St [] w0 w (M ++ (L ++ X))) {b : Nat} (hb : b < w0.heap.size) : b ∉ ids L := fun h => hs.new0 hb (by rw [ids_append, ids_append]; simp [h])
end Go.SL
namespace Go.Proofs.YtgjjdlgbbgijgaaDoor
open Go.SL
theorem Cl.cells_length (x : Cl) : x.cells.length = 4 := rfl
/-- element i of a slice of claims -/
theorem cl_at {w : World} {a : Option Addr} {n m c i : Nat} {cl : List Cl} {x : Cl} (h : Sl w (.slice a n c) m (cls cl)) (hx : cl[i]? = some x) : ∃ b o, a = some ⟨b, o, none⟩ ∧ b < w.heap.size ∧ ∀ j u, j < 4 → x.cells[j]? = some u → w.cell? ⟨b, o + ((i : Nat) : Int).toNat * 4 + j, none⟩ = some u := by
  have hlt : i < cl.length := (List.getElem?_eq_some_iff.1 hx).1
  obtain ⟨b, o, h1, h2, h3⟩ := Sl_all h (by intro h0; have := cls_length cl; rw [h0] at this; simp at this; omega)
  refine ⟨b, o, h1, h2, fun j u hj hu => ?_⟩
  have := h3 (i * 4 + j) u (by rw [cls, flat_at Cl.cells_length hj hx]; exact hu)
  rw [Int.toNat_natCast, Nat.add_assoc]; exact this
/-- number i of a claim -/
def Cl.num (x : Cl) : Nat → Int
  | 0 => x.a
  | 1 => x.b
  | 2 => x.c
  | _ => x.d
theorem IXC0 (x : Cl) (w : World) : (Instr.index 96 (.agg #[.int .i64 x.a, .int .i64 x.b, .int .i64 x.c, .int .i64 x.d]) (.int .i64 0)).run Tryd.prog w = .ok (.int .i64 x.a) w := by kernel_rfl
theorem IXC1 (x : Cl) (w : World) : (Instr.index 96 (.agg #[.int .i64 x.a, .int .i64 x.b, .int .i64 x.c, .int .i64 x.d]) (.int .i64 1)).run Tryd.prog w = .ok (.int .i64 x.b) w := by kernel_rfl
theorem IXC2 (x : Cl) (w : World) : (Instr.index 96 (.agg #[.int .i64 x.a, .int .i64 x.b, .int .i64 x.c, .int .i64 x.d]) (.int .i64 2)).run Tryd.prog w = .ok (.int .i64 x.c) w := by kernel_rfl
theorem IXC3 (x : Cl) (w : World) : (Instr.index 96 (.agg #[.int .i64 x.a, .int .i64 x.b, .int .i64 x.c, .int .i64 x.d]) (.int .i64 3)).run Tryd.prog w = .ok (.int .i64 x.d) w := by kernel_rfl
theorem IXC (x : Cl) (i : Nat) (h : i < 4) (w : World) : (Instr.index 96 (.agg #[.int .i64 x.a, .int .i64 x.b, .int .i64 x.c, .int .i64 x.d]) (.int .i64 (i : Int))).run Tryd.prog w = .ok (.int .i64 (x.num i)) w := by
  match i, h with
  | 0, _ => exact IXC0 x w
  | 1, _ => exact IXC1 x w
  | 2, _ => exact IXC2 x w
  | 3, _ => exact IXC3 x w
theorem Cl.ok_num {x : Cl} : x.ok ↔ ∀ j, j < 4 → inR (x.num j) := by
  constructor
  · rintro ⟨h0, h1, h2, h3⟩ j hj
    match j, hj with
    | 0, _ => exact h0
    | 1, _ => exact h1
    | 2, _ => exact h2
    | 3, _ => exact h3
  · exact fun h => ⟨h 0 (by decide), h 1 (by decide), h 2 (by decide), h 3 (by decide)⟩
theorem encodable_ok (x : Cl) (w0 : World) : Ret Tryd.prog 40 [.agg x.cells.toArray].toArray w0 fun r w' => Fwd [] w0 w' ∧ r = .bool (decide x.ok) := by
  refine Ret_start fun w hs => ?_
  refine Ret_of Tryd.func40 rfl Tryd.ntmps40 rfl ?_
  refine W_seq ?_
  refine W_region ?_
  first | refine s_box rfl rfl hs ?_ | refine s_box1 rfl rfl rfl hs ?_
  clear hs; intro b1 w hs
  refine s_assign rfl rfl ?_
  refine WL_nil ?_
  refine n_then ?_
  refine W_seq ?_
  refine W_seq ?_
  refine W_region ?_
  refine s_fieldAddr rfl rfl (FA82_0 _ _) ?_
  first
    | refine s_load Tryd.isAgg3 rfl rfl (hs.cell (k := 0) rfl rfl) ?_
  refine s_fieldAddr rfl rfl (FA82_1 _ _) ?_
  first
    | refine s_load Tryd.isAgg3 rfl rfl (hs.cell (k := 0) rfl rfl) ?_
  refine s_fieldAddr rfl rfl (FA82_2 _ _) ?_
  first
    | refine s_load Tryd.isAgg3 rfl rfl (hs.cell (k := 0) rfl rfl) ?_
  refine s_fieldAddr rfl rfl (FA82_3 _ _) ?_
  first
    | refine s_load Tryd.isAgg3 rfl rfl (hs.cell (k := 0) rfl rfl) ?_
  refine s_build rfl rfl (BD96_0_1_2_3 _ _ _ _) ?_
  refine s_move rfl rfl ?_
  refine WL_nil ?_
  refine n_then ?_
  refine W_block ?_
  refine W_loop (σ := Nat) (fun s => [(13, .agg #[.int .i64 x.a, .int .i64 x.b, .int .i64 x.c, .int .i64 x.d]), (14, .int .i64 (s : Int))]) (fun s w => St [] w0 w [(b1, Blk 82 x.cells)] ∧ s ≤ 4 ∧ ∀ j, j < s → inR (x.num j)) (fun s => 4 - s) 0 ⟨rfl, rfl, trivial⟩ ⟨hs, Nat.zero_le _, fun j hj => absurd hj (Nat.not_lt_zero _)⟩ ?_
  clear hs
  rintro i w ⟨hs, hi, hj⟩
  refine W_seq ?_
  refine W_region ?_
  refine s_lss rfl rfl rfl ?_
  refine WL_nil ?_
  refine n_then ?_
  refine W_seq ?_
  refine W_cond rfl (fun hc15 => ?_) (fun hc15 => ?_)
  · skip
    simp only [decide_eq_true_eq, decide_eq_false_iff_not] at hc15
    refine W_skip ?_
    refine n_then ?_
    refine W_seq ?_
    refine W_block ?_
    refine W_seq ?_
    refine W_region ?_
    refine s_indexV rfl rfl rfl (IXC x i (by omega)) ?_
    refine s_assign rfl rfl ?_
    refine WL_nil ?_
    refine n_then ?_
    refine W_seq ?_
    refine W_region ?_
    refine s_move rfl rfl ?_
    refine s_lss rfl rfl rfl ?_
    refine s_move rfl rfl ?_
    refine WL_case (s := 19) rfl (fun hg19 => ?_) (fun hg19 => ?_)
    · skip
      simp only [decide_eq_true_eq, decide_eq_false_iff_not] at hg19
      refine WL_skip rfl rfl rfl ?_
      refine WL_skip rfl rfl rfl ?_
      refine s_pick_t rfl rfl rfl ?_
      refine WL_nil ?_
      refine n_then ?_
      refine W_cond_t rfl ?_
      refine W_seq ?_
      refine W_region ?_
      refine s_assign rfl rfl ?_
      refine WL_nil ?_
      refine n_then ?_
      refine W_ret ?_
      refine r_blk ?_
      refine r_then ?_
      refine r_then ?_
      refine r_blk ?_
      refine r_then ?_
      first
        | (refine end1 rfl rfl ⟨hs.tail.fwd, ?_⟩
           have : x.ok := Cl.ok_num.2 fun j hj4 => hj j (by omega)
           rw [decide_eq_true this]; done)
        | (refine end1 rfl rfl ⟨hs.tail.fwd, ?_⟩
           have : ¬ x.ok := fun h => by
             have := Cl.ok_num.1 h i (by omega)
             unfold inR at this; omega
           rw [decide_eq_false this])
    · skip
      simp only [decide_eq_true_eq, decide_eq_false_iff_not] at hg19
      refine WL_take rfl ?_
      refine s_move rfl rfl ?_
      refine WL_take rfl ?_
      refine s_gtr rfl rfl rfl ?_
      refine s_pick_f rfl rfl rfl ?_
      refine WL_nil ?_
      refine n_then ?_
      refine W_cond rfl (fun hc22 => ?_) (fun hc22 => ?_)
      · skip
        simp only [decide_eq_true_eq, decide_eq_false_iff_not] at hc22
        refine W_seq ?_
        refine W_region ?_
        refine s_assign rfl rfl ?_
        refine WL_nil ?_
        refine n_then ?_
        refine W_ret ?_
        refine r_blk ?_
        refine r_then ?_
        refine r_then ?_
        refine r_blk ?_
        refine r_then ?_
        first
          | (refine end1 rfl rfl ⟨hs.tail.fwd, ?_⟩
             have : x.ok := Cl.ok_num.2 fun j hj4 => hj j (by omega)
             rw [decide_eq_true this]; done)
          | (refine end1 rfl rfl ⟨hs.tail.fwd, ?_⟩
             have : ¬ x.ok := fun h => by
               have := Cl.ok_num.1 h i (by omega)
               unfold inR at this; omega
             rw [decide_eq_false this])
      · skip
        simp only [decide_eq_true_eq, decide_eq_false_iff_not] at hc22
        refine W_skip ?_
        refine n_blk ?_
        refine n_then ?_
        refine W_region ?_
        first | (refine s_add' rfl rfl rfl ?hx ?_; case hx => (constructor <;> first | omega | (simp only; omega))) | refine s_add rfl rfl rfl ?_
        refine s_move rfl rfl ?_
        refine WL_nil ?_
        refine n_loop ?_
        exact ⟨i + 1, ⟨rfl, rfl, trivial⟩, ⟨hs, by omega, fun j hji => by
          rcases Nat.lt_or_ge j i with h | h
          · exact hj j h
          · rw [show j = i by omega]; unfold inR; omega⟩, by omega⟩
  · skip
    simp only [decide_eq_true_eq, decide_eq_false_iff_not] at hc15
    refine W_exit ?_
    refine x_then ?_
    refine x_then ?_
    refine exit_hit ?_
    refine n_then ?_
    refine W_seq ?_
    refine W_region ?_
    refine s_assign rfl rfl ?_
    refine WL_nil ?_
    refine n_then ?_
    refine W_ret ?_
    first
      | (refine end1 rfl rfl ⟨hs.tail.fwd, ?_⟩
         have : x.ok := Cl.ok_num.2 fun j hj4 => hj j (by omega)
         rw [decide_eq_true this]; done)
      | (refine end1 rfl rfl ⟨hs.tail.fwd, ?_⟩
         have : ¬ x.ok := fun h => by
           have := Cl.ok_num.1 h i (by omega)
           unfold inR at this; omega
         rw [decide_eq_false this])
structure EnS where
  i : Nat
  L : Hp
set_option maxHeartbeats 1000000 in
theorem coEncode_ok (v : Value) (cl : List Cl) (w0 : World) (hg : Wd w0) (hv : Sl w0 v cl.length (cls cl)) (hok : ∀ x ∈ cl, x.ok) (hl : cl.length ≤ 4096) :
    Ret Tryd.prog 23 [v].toArray w0 fun r w' => ∃ u Lr, r = .tuple #[u, .int .i64 0] ∧ OwnS 5 1 u (pk (encB cl)).length (u8s (pk (encB cl))) Lr ∧ St [] w0 w' Lr := by
  obtain ⟨a, c, rfl, hc⟩ := hv.len_le
  have hbl := encB_length cl
  refine Ret_start fun w hs => ?_
  refine Ret_of Tryd.func23 rfl Tryd.ntmps23 rfl ?_
  refine W_seq ?_
  refine W_region ?_
  refine s_assign rfl rfl ?_
  refine s_assign rfl rfl ?_
  refine WL_nil ?_
  refine n_then ?_
  refine W_seq ?_
  refine W_seq ?_
  refine W_region ?_
  refine s_move rfl rfl ?_
  refine s_len rfl rfl (LN28 _ _ _ _) ?_
  refine s_gtr rfl rfl rfl ?_
  refine WL_nil ?_
  refine n_then ?_
  refine W_cond_kf rfl ((by simp; omega)) ?_
  refine W_skip ?_
  refine n_then ?_
  refine W_seq ?_
  refine W_seq ?_
  refine W_region ?_
  refine s_move rfl rfl ?_
  refine s_len rfl rfl (LN28 _ _ _ _) ?_
  refine s_move rfl rfl ?_
  refine WL_nil ?_
  refine n_then ?_
  refine W_block ?_
  refine W_loop (σ := Nat) (fun s => [(0, .slice a cl.length c), (14, .slice a cl.length c), (15, .int .i64 (cl.length : Int)), (16, .int .i64 (s : Int))]) (fun s w => St [] w0 w [] ∧ s ≤ cl.length) (fun s => cl.length - s) 0 ⟨rfl, rfl, rfl, rfl, trivial⟩ ⟨hs, Nat.zero_le _⟩ ?_
  clear hs
  rintro i w ⟨hs, hi⟩
  refine W_seq ?_
  refine W_region ?_
  refine s_lss rfl rfl rfl ?_
  refine WL_nil ?_
  refine n_then ?_
  refine W_seq ?_
  refine W_cond rfl (fun hc17 => ?_) (fun hc17 => ?_)
  · skip
    simp only [decide_eq_true_eq, decide_eq_false_iff_not, Bool.not_eq_true', Bool.not_eq_false'] at hc17
    have hil : i < cl.length := by omega
    have hxi : cl[i]? = some cl[i] := List.getElem?_eq_getElem hil
    have hxo : cl[i].ok := hok _ (List.getElem_mem hil)
    obtain ⟨b, o, hA, hB, hcc⟩ := cl_at hv hxi
    generalize cl[i] = x at hxi hxo hcc
    refine W_skip ?_
    refine n_then ?_
    refine W_seq ?_
    refine W_block ?_
    refine W_seq ?_
    refine W_region ?_
    (refine s_indexAddrP El28 rfl rfl rfl hA ?hx ?_; case hx => (constructor <;> omega))
    refine s_load_4 Tryd.isAgg82 Tryd.sizeOf82 rfl rfl ((hs.oldcell (a := ⟨b, _, none⟩) hB (by simp)).trans (hcc 0 _ (by omega) rfl)) ((hs.oldcell (a := ⟨b, _, none⟩) hB (by simp)).trans (hcc 1 _ (by omega) rfl)) ((hs.oldcell (a := ⟨b, _, none⟩) hB (by simp)).trans (hcc 2 _ (by omega) rfl)) ((hs.oldcell (a := ⟨b, _, none⟩) hB (by simp)).trans (hcc 3 _ (by omega) rfl)) ?_
    refine s_alloc rfl AL82 hs ?_; clear hs; intro b5 w hs
    first
      | refine s_storeW Tryd.sizeOf82 rfl rfl rfl rfl hs (kk := 0) rfl rfl ?_
      | refine s_storeW Tryd.sizeOf82 rfl rfl rfl rfl hs (kk := 1) rfl rfl ?_
      | refine s_storeW Tryd.sizeOf82 rfl rfl rfl rfl hs (kk := 2) rfl rfl ?_
      | refine s_storeAB Tryd.sizeOf82 rfl rfl rfl rfl hs (kk := 0) rfl rfl ?_
      | refine s_storeAB Tryd.sizeOf82 rfl rfl rfl rfl hs (kk := 1) rfl rfl ?_
      | refine s_storeAB Tryd.sizeOf82 rfl rfl rfl rfl hs (kk := 2) rfl rfl ?_
    clear hs; intro w hs; try simp only [List.set_cons_zero, List.set_cons_succ, splice, List.take_succ_cons, List.take_zero, List.drop_succ_cons, List.drop_zero, List.nil_append, List.cons_append, List.length_cons, List.length_nil, Nat.reduceAdd, List.append_assoc] at hs
    refine WL_nil ?_
    refine n_then ?_
    refine W_seq ?_
    refine W_region ?_
    first
      | refine s_loadW Tryd.isAgg82 Tryd.sizeOf82 rfl rfl hs (kk := 0) rfl rfl ?_
      | refine s_loadW Tryd.isAgg82 Tryd.sizeOf82 rfl rfl hs (kk := 1) rfl rfl ?_
      | refine s_loadW Tryd.isAgg82 Tryd.sizeOf82 rfl rfl hs (kk := 2) rfl rfl ?_
      | refine s_load_4 Tryd.isAgg82 Tryd.sizeOf82 rfl rfl (by first | exact hs.cell (k := 0) rfl rfl | exact hs.cell (k := 1) rfl rfl | exact hs.cell (k := 2) rfl rfl) (by first | exact hs.cell (k := 0) rfl rfl | exact hs.cell (k := 1) rfl rfl | exact hs.cell (k := 2) rfl rfl) (by first | exact hs.cell (k := 0) rfl rfl | exact hs.cell (k := 1) rfl rfl | exact hs.cell (k := 2) rfl rfl) (by first | exact hs.cell (k := 0) rfl rfl | exact hs.cell (k := 1) rfl rfl | exact hs.cell (k := 2) rfl rfl) ?_
    refine s_call Tryd.call40 rfl rfl (encodable_ok x w) ?_
    rintro r w ⟨hst, rfl⟩
    replace hs := hs.fwd1 hst
    clear hst
    refine s_not rfl rfl ?_
    refine WL_nil ?_
    refine n_then ?_
    refine W_cond_kf rfl ((by simp [hxo])) ?_
    refine W_skip ?_
    refine n_blk ?_
    refine n_then ?_
    refine W_region ?_
    first | (refine s_add' rfl rfl rfl ?hx ?_; case hx => (constructor <;> first | omega | (simp only; omega))) | refine s_add rfl rfl rfl ?_
    refine s_move rfl rfl ?_
    refine WL_nil ?_
    refine n_loop ?_
    exact ⟨i + 1, ⟨rfl, rfl, rfl, rfl, trivial⟩, ⟨hs.tail, by omega⟩, by omega⟩
  · skip
    simp only [decide_eq_true_eq, decide_eq_false_iff_not, Bool.not_eq_true', Bool.not_eq_false'] at hc17
    refine W_exit ?_
    refine x_then ?_
    refine x_then ?_
    refine exit_hit ?_
    refine n_then ?_
    refine W_seq ?_
    refine W_region ?_
    refine s_alloc rfl AL88 hs ?_; clear hs; intro b6 w hs
    refine WL_nil ?_
    refine n_then ?_
    refine W_seq ?_
    refine W_region ?_
    refine s_move rfl rfl ?_
    refine s_len rfl rfl (LN28 _ _ _ _) ?_
    refine s_callL (M := []) (L1 := [_]) (X := []) Tryd.call41 rfl rfl hs (fun h => coWrite_ok b6 [] (cl.length : Int) _ w (hg.st hs (by simp)) (hg.not hs) (wb_new b6) h (by unfold isI64; omega) (by simp)) ?_
    clear hs; rintro v w LW ⟨hW, rfl⟩ - hs
    simp only [List.nil_append, List.append_nil] at hs hW
    refine WL_nil ?_
    refine n_then ?_
    refine W_seq ?_
    refine W_region ?_
    refine s_alloc rfl AL82 hs ?_; clear hs; intro b7 w hs
    refine s_alloc rfl AL82 hs ?_; clear hs; intro b8 w hs
    refine WL_nil ?_
    refine n_then ?_
    refine W_seq ?_
    refine W_seq ?_
    refine W_region ?_
    refine s_move rfl rfl ?_
    refine s_len rfl rfl (LN28 _ _ _ _) ?_
    refine s_move rfl rfl ?_
    refine WL_nil ?_
    refine n_then ?_
    refine W_block ?_
    refine W_loop (σ := EnS) (fun s => [(6, .pointer (some ⟨b6, 0, none⟩)), (7, .pointer (some ⟨b7, 0, none⟩)), (8, .pointer (some ⟨b8, 0, none⟩)), (27, .slice a cl.length c), (28, .int .i64 (cl.length : Int)), (29, .int .i64 (s.i : Int))])
      (fun s w => St [] w0 w ((b8, Blk 82 (befC (cl.take s.i)).cells) :: (b7, Blk 82 (lastC (cl.take s.i)).cells) :: s.L) ∧ WbAt b6 (code cl.length ++ encC .z .z (cl.take s.i)) s.L ∧ s.i ≤ cl.length) (fun s => cl.length - s.i) ⟨0, LW⟩ ⟨rfl, rfl, rfl, rfl, rfl, rfl, trivial⟩ ⟨hs, by simpa [encC] using hW, Nat.zero_le _⟩ ?_
    clear hs hW LW
    rintro ⟨i, LW⟩ w ⟨hs, hW, hi⟩
    simp only at hs hW hi ⊢
    refine W_seq ?_
    refine W_region ?_
    refine s_lss rfl rfl rfl ?_
    refine WL_nil ?_
    refine n_then ?_
    refine W_seq ?_
    refine W_cond rfl (fun hc30 => ?_) (fun hc30 => ?_)
    · skip
      simp only [decide_eq_true_eq, decide_eq_false_iff_not, Bool.not_eq_true', Bool.not_eq_false'] at hc30
      have hil : i < cl.length := by omega
      have hxi : cl[i]? = some cl[i] := List.getElem?_eq_getElem hil
      have hxo : cl[i].ok := hok _ (List.getElem_mem hil)
      have htk : cl.take (i + 1) = cl.take i ++ [cl[i]] := List.take_succ_eq_append_getElem hil
      obtain ⟨b, o, hA, hB, hcc⟩ := cl_at hv hxi
      have hao := lastC_mem Cl.z_ok (l := cl.take i) (P := Cl.ok) fun x hx => hok x (List.mem_of_mem_take hx)
      have hbo := befC_mem Cl.z_ok (l := cl.take i) (P := Cl.ok) fun x hx => hok x (List.mem_of_mem_take hx)
      have h4 := four_in hao hbo hxo
      have hlen := encC_length (cl.take i) .z .z
      have hcl0 := code_len (cl.length : Int)
      have htl : (cl.take i).length = i := by simp; omega
      have hsplit := encC_split (cl.take i) cl[i] []
      rw [← htk, encC, List.append_nil] at hsplit
      have hla : lastC (cl.take (i + 1)) = cl[i] := by rw [htk, lastC_snoc]
      have hbe : befC (cl.take (i + 1)) = lastC (cl.take i) := by rw [htk, befC_snoc]
      rw [htl] at hlen
      generalize cl[i] = x at *
      generalize lastC (cl.take i) = la at *
      generalize befC (cl.take i) = be at *
      generalize encC .z .z (cl.take i) = bs at *
      have hcd := fun n => code_len n
      have e0 := h4 _ (show x.a - 2 * la.a + be.a ∈ four la be x by simp [four])
      have e1 := h4 _ (show (x.b - x.a) - (la.b - la.a) ∈ four la be x by simp [four])
      have e2 := h4 _ (show x.c - la.c ∈ four la be x by simp [four])
      have e3 := h4 _ (show (x.d - x.c) - (la.d - la.c) ∈ four la be x by simp [four])
      obtain ⟨ha1, ha2, ha3, ha4⟩ := hao
      obtain ⟨hb1, hb2, hb3, hb4⟩ := hbo
      obtain ⟨hx1, hx2, hx3, hx4⟩ := hxo
      unfold inR at ha1 ha2 ha3 ha4 hb1 hb2 hb3 hb4 hx1 hx2 hx3 hx4
      refine W_skip ?_
      refine n_then ?_
      refine W_seq ?_
      refine W_block ?_
      refine W_seq ?_
      refine W_region ?_
      (refine s_indexAddrP El28 rfl rfl rfl hA ?hx ?_; case hx => (constructor <;> omega))
      refine s_load_4 Tryd.isAgg82 Tryd.sizeOf82 rfl rfl ((hs.oldcell (a := ⟨b, _, none⟩) hB (by simp)).trans (hcc 0 _ (by omega) rfl)) ((hs.oldcell (a := ⟨b, _, none⟩) hB (by simp)).trans (hcc 1 _ (by omega) rfl)) ((hs.oldcell (a := ⟨b, _, none⟩) hB (by simp)).trans (hcc 2 _ (by omega) rfl)) ((hs.oldcell (a := ⟨b, _, none⟩) hB (by simp)).trans (hcc 3 _ (by omega) rfl)) ?_
      refine s_alloc rfl AL82 hs ?_; clear hs; intro b10 w hs
      first
        | refine s_storeW Tryd.sizeOf82 rfl rfl rfl rfl hs (kk := 0) rfl rfl ?_
        | refine s_storeW Tryd.sizeOf82 rfl rfl rfl rfl hs (kk := 1) rfl rfl ?_
        | refine s_storeW Tryd.sizeOf82 rfl rfl rfl rfl hs (kk := 2) rfl rfl ?_
        | refine s_storeAB Tryd.sizeOf82 rfl rfl rfl rfl hs (kk := 0) rfl rfl ?_
        | refine s_storeAB Tryd.sizeOf82 rfl rfl rfl rfl hs (kk := 1) rfl rfl ?_
        | refine s_storeAB Tryd.sizeOf82 rfl rfl rfl rfl hs (kk := 2) rfl rfl ?_
      clear hs; intro w hs; try simp only [List.set_cons_zero, List.set_cons_succ, splice, List.take_succ_cons, List.take_zero, List.drop_succ_cons, List.drop_zero, List.nil_append, List.cons_append, List.length_cons, List.length_nil, Nat.reduceAdd, List.append_assoc] at hs
      refine WL_nil ?_
      refine n_then ?_
      refine W_seq ?_
      refine W_region ?_
      refine s_fieldAddr rfl rfl (FA82_0 _ _) ?_
      first
        | refine s_load Tryd.isAgg3 rfl rfl (hs.cell (k := 0) rfl rfl) ?_
        | refine s_load Tryd.isAgg3 rfl rfl (hs.cell (k := 1) rfl rfl) ?_
        | refine s_load Tryd.isAgg3 rfl rfl (hs.cell (k := 2) rfl rfl) ?_
      refine s_fieldAddr rfl rfl (FA82_0 _ _) ?_
      first
        | refine s_load Tryd.isAgg3 rfl rfl (hs.cell (k := 0) rfl rfl) ?_
        | refine s_load Tryd.isAgg3 rfl rfl (hs.cell (k := 1) rfl rfl) ?_
        | refine s_load Tryd.isAgg3 rfl rfl (hs.cell (k := 2) rfl rfl) ?_
      first | (refine s_mul' rfl rfl rfl ?hx ?_; case hx => (constructor <;> first | omega | (simp only; omega))) | refine s_mul rfl rfl rfl ?_
      first | (refine s_sub' rfl rfl rfl ?hx ?_; case hx => (constructor <;> first | omega | (simp only; omega))) | refine s_sub rfl rfl rfl ?_
      refine s_fieldAddr rfl rfl (FA82_0 _ _) ?_
      first
        | refine s_load Tryd.isAgg3 rfl rfl (hs.cell (k := 0) rfl rfl) ?_
        | refine s_load Tryd.isAgg3 rfl rfl (hs.cell (k := 1) rfl rfl) ?_
        | refine s_load Tryd.isAgg3 rfl rfl (hs.cell (k := 2) rfl rfl) ?_
      first | (refine s_add' rfl rfl rfl ?hx ?_; case hx => (constructor <;> first | omega | (simp only; omega))) | refine s_add rfl rfl rfl ?_
      refine s_callL (M := [_, _, _]) (L1 := LW) (X := []) Tryd.call41 rfl rfl (by simpa using hs) (fun h => coWrite_ok b6 _ _ _ w (hg.st hs (by simp)) (St.new0M (M := [_, _, _]) (X := []) (by simpa using hs) hg.lt) hW h e0 (by simp; omega)) ?_
      clear hs hW; rintro v w LW ⟨hW, rfl⟩ - hs
      simp only [List.cons_append, List.nil_append, List.append_nil] at hs hW
      refine WL_nil ?_
      refine n_then ?_
      refine W_seq ?_
      refine W_region ?_
      refine s_fieldAddr rfl rfl (FA82_1 _ _) ?_
      first
        | refine s_load Tryd.isAgg3 rfl rfl (hs.cell (k := 0) rfl rfl) ?_
        | refine s_load Tryd.isAgg3 rfl rfl (hs.cell (k := 1) rfl rfl) ?_
        | refine s_load Tryd.isAgg3 rfl rfl (hs.cell (k := 2) rfl rfl) ?_
      refine s_fieldAddr rfl rfl (FA82_0 _ _) ?_
      first
        | refine s_load Tryd.isAgg3 rfl rfl (hs.cell (k := 0) rfl rfl) ?_
        | refine s_load Tryd.isAgg3 rfl rfl (hs.cell (k := 1) rfl rfl) ?_
        | refine s_load Tryd.isAgg3 rfl rfl (hs.cell (k := 2) rfl rfl) ?_
      first | (refine s_sub' rfl rfl rfl ?hx ?_; case hx => (constructor <;> first | omega | (simp only; omega))) | refine s_sub rfl rfl rfl ?_
      refine s_fieldAddr rfl rfl (FA82_1 _ _) ?_
      first
        | refine s_load Tryd.isAgg3 rfl rfl (hs.cell (k := 0) rfl rfl) ?_
        | refine s_load Tryd.isAgg3 rfl rfl (hs.cell (k := 1) rfl rfl) ?_
        | refine s_load Tryd.isAgg3 rfl rfl (hs.cell (k := 2) rfl rfl) ?_
      refine s_fieldAddr rfl rfl (FA82_0 _ _) ?_
      first
        | refine s_load Tryd.isAgg3 rfl rfl (hs.cell (k := 0) rfl rfl) ?_
        | refine s_load Tryd.isAgg3 rfl rfl (hs.cell (k := 1) rfl rfl) ?_
        | refine s_load Tryd.isAgg3 rfl rfl (hs.cell (k := 2) rfl rfl) ?_
      first | (refine s_sub' rfl rfl rfl ?hx ?_; case hx => (constructor <;> first | omega | (simp only; omega))) | refine s_sub rfl rfl rfl ?_
      first | (refine s_sub' rfl rfl rfl ?hx ?_; case hx => (constructor <;> first | omega | (simp only; omega))) | refine s_sub rfl rfl rfl ?_
      refine s_callL (M := [_, _, _]) (L1 := LW) (X := []) Tryd.call41 rfl rfl (by simpa using hs) (fun h => coWrite_ok b6 _ _ _ w (hg.st hs (by simp)) (St.new0M (M := [_, _, _]) (X := []) (by simpa using hs) hg.lt) hW h e1 (by simp; have := hcd (x.a - 2 * la.a + be.a); omega)) ?_
      clear hs hW; rintro v w LW ⟨hW, rfl⟩ - hs
      simp only [List.cons_append, List.nil_append, List.append_nil] at hs hW
      refine WL_nil ?_
      refine n_then ?_
      refine W_seq ?_
      refine W_region ?_
      refine s_fieldAddr rfl rfl (FA82_2 _ _) ?_
      first
        | refine s_load Tryd.isAgg3 rfl rfl (hs.cell (k := 0) rfl rfl) ?_
        | refine s_load Tryd.isAgg3 rfl rfl (hs.cell (k := 1) rfl rfl) ?_
        | refine s_load Tryd.isAgg3 rfl rfl (hs.cell (k := 2) rfl rfl) ?_
      refine s_fieldAddr rfl rfl (FA82_2 _ _) ?_
      first
        | refine s_load Tryd.isAgg3 rfl rfl (hs.cell (k := 0) rfl rfl) ?_
        | refine s_load Tryd.isAgg3 rfl rfl (hs.cell (k := 1) rfl rfl) ?_
        | refine s_load Tryd.isAgg3 rfl rfl (hs.cell (k := 2) rfl rfl) ?_
      first | (refine s_sub' rfl rfl rfl ?hx ?_; case hx => (constructor <;> first | omega | (simp only; omega))) | refine s_sub rfl rfl rfl ?_
      refine s_callL (M := [_, _, _]) (L1 := LW) (X := []) Tryd.call41 rfl rfl (by simpa using hs) (fun h => coWrite_ok b6 _ _ _ w (hg.st hs (by simp)) (St.new0M (M := [_, _, _]) (X := []) (by simpa using hs) hg.lt) hW h e2 (by simp; have := hcd (x.a - 2 * la.a + be.a); have := hcd ((x.b - x.a) - (la.b - la.a)); omega)) ?_
      clear hs hW; rintro v w LW ⟨hW, rfl⟩ - hs
      simp only [List.cons_append, List.nil_append, List.append_nil] at hs hW
      refine WL_nil ?_
      refine n_then ?_
      refine W_seq ?_
      refine W_region ?_
      refine s_fieldAddr rfl rfl (FA82_3 _ _) ?_
      first
        | refine s_load Tryd.isAgg3 rfl rfl (hs.cell (k := 0) rfl rfl) ?_
        | refine s_load Tryd.isAgg3 rfl rfl (hs.cell (k := 1) rfl rfl) ?_
        | refine s_load Tryd.isAgg3 rfl rfl (hs.cell (k := 2) rfl rfl) ?_
      refine s_fieldAddr rfl rfl (FA82_2 _ _) ?_
      first
        | refine s_load Tryd.isAgg3 rfl rfl (hs.cell (k := 0) rfl rfl) ?_
        | refine s_load Tryd.isAgg3 rfl rfl (hs.cell (k := 1) rfl rfl) ?_
        | refine s_load Tryd.isAgg3 rfl rfl (hs.cell (k := 2) rfl rfl) ?_
      first | (refine s_sub' rfl rfl rfl ?hx ?_; case hx => (constructor <;> first | omega | (simp only; omega))) | refine s_sub rfl rfl rfl ?_
      refine s_fieldAddr rfl rfl (FA82_3 _ _) ?_
      first
        | refine s_load Tryd.isAgg3 rfl rfl (hs.cell (k := 0) rfl rfl) ?_
        | refine s_load Tryd.isAgg3 rfl rfl (hs.cell (k := 1) rfl rfl) ?_
        | refine s_load Tryd.isAgg3 rfl rfl (hs.cell (k := 2) rfl rfl) ?_
      refine s_fieldAddr rfl rfl (FA82_2 _ _) ?_
      first
        | refine s_load Tryd.isAgg3 rfl rfl (hs.cell (k := 0) rfl rfl) ?_
        | refine s_load Tryd.isAgg3 rfl rfl (hs.cell (k := 1) rfl rfl) ?_
        | refine s_load Tryd.isAgg3 rfl rfl (hs.cell (k := 2) rfl rfl) ?_
      first | (refine s_sub' rfl rfl rfl ?hx ?_; case hx => (constructor <;> first | omega | (simp only; omega))) | refine s_sub rfl rfl rfl ?_
      first | (refine s_sub' rfl rfl rfl ?hx ?_; case hx => (constructor <;> first | omega | (simp only; omega))) | refine s_sub rfl rfl rfl ?_
      refine s_callL (M := [_, _, _]) (L1 := LW) (X := []) Tryd.call41 rfl rfl (by simpa using hs) (fun h => coWrite_ok b6 _ _ _ w (hg.st hs (by simp)) (St.new0M (M := [_, _, _]) (X := []) (by simpa using hs) hg.lt) hW h e3 (by simp; have := hcd (x.a - 2 * la.a + be.a); have := hcd ((x.b - x.a) - (la.b - la.a)); have := hcd (x.c - la.c); omega)) ?_
      clear hs hW; rintro v w LW ⟨hW, rfl⟩ - hs
      simp only [List.cons_append, List.nil_append, List.append_nil] at hs hW
      refine WL_nil ?_
      refine n_then ?_
      refine W_region ?_
      first
        | refine s_loadW Tryd.isAgg82 Tryd.sizeOf82 rfl rfl hs (kk := 0) rfl rfl ?_
        | refine s_loadW Tryd.isAgg82 Tryd.sizeOf82 rfl rfl hs (kk := 1) rfl rfl ?_
        | refine s_loadW Tryd.isAgg82 Tryd.sizeOf82 rfl rfl hs (kk := 2) rfl rfl ?_
        | refine s_load_4 Tryd.isAgg82 Tryd.sizeOf82 rfl rfl (by first | exact hs.cell (k := 0) rfl rfl | exact hs.cell (k := 1) rfl rfl | exact hs.cell (k := 2) rfl rfl) (by first | exact hs.cell (k := 0) rfl rfl | exact hs.cell (k := 1) rfl rfl | exact hs.cell (k := 2) rfl rfl) (by first | exact hs.cell (k := 0) rfl rfl | exact hs.cell (k := 1) rfl rfl | exact hs.cell (k := 2) rfl rfl) (by first | exact hs.cell (k := 0) rfl rfl | exact hs.cell (k := 1) rfl rfl | exact hs.cell (k := 2) rfl rfl) ?_
      first
        | refine s_loadW Tryd.isAgg82 Tryd.sizeOf82 rfl rfl hs (kk := 0) rfl rfl ?_
        | refine s_loadW Tryd.isAgg82 Tryd.sizeOf82 rfl rfl hs (kk := 1) rfl rfl ?_
        | refine s_loadW Tryd.isAgg82 Tryd.sizeOf82 rfl rfl hs (kk := 2) rfl rfl ?_
        | refine s_load_4 Tryd.isAgg82 Tryd.sizeOf82 rfl rfl (by first | exact hs.cell (k := 0) rfl rfl | exact hs.cell (k := 1) rfl rfl | exact hs.cell (k := 2) rfl rfl) (by first | exact hs.cell (k := 0) rfl rfl | exact hs.cell (k := 1) rfl rfl | exact hs.cell (k := 2) rfl rfl) (by first | exact hs.cell (k := 0) rfl rfl | exact hs.cell (k := 1) rfl rfl | exact hs.cell (k := 2) rfl rfl) (by first | exact hs.cell (k := 0) rfl rfl | exact hs.cell (k := 1) rfl rfl | exact hs.cell (k := 2) rfl rfl) ?_
      first
        | refine s_storeW Tryd.sizeOf82 rfl rfl rfl rfl hs (kk := 0) rfl rfl ?_
        | refine s_storeW Tryd.sizeOf82 rfl rfl rfl rfl hs (kk := 1) rfl rfl ?_
        | refine s_storeW Tryd.sizeOf82 rfl rfl rfl rfl hs (kk := 2) rfl rfl ?_
        | refine s_storeAB Tryd.sizeOf82 rfl rfl rfl rfl hs (kk := 0) rfl rfl ?_
        | refine s_storeAB Tryd.sizeOf82 rfl rfl rfl rfl hs (kk := 1) rfl rfl ?_
        | refine s_storeAB Tryd.sizeOf82 rfl rfl rfl rfl hs (kk := 2) rfl rfl ?_
      clear hs; intro w hs; try simp only [List.set_cons_zero, List.set_cons_succ, splice, List.take_succ_cons, List.take_zero, List.drop_succ_cons, List.drop_zero, List.nil_append, List.cons_append, List.length_cons, List.length_nil, Nat.reduceAdd, List.append_assoc] at hs
      first
        | refine s_storeW Tryd.sizeOf82 rfl rfl rfl rfl hs (kk := 0) rfl rfl ?_
        | refine s_storeW Tryd.sizeOf82 rfl rfl rfl rfl hs (kk := 1) rfl rfl ?_
        | refine s_storeW Tryd.sizeOf82 rfl rfl rfl rfl hs (kk := 2) rfl rfl ?_
        | refine s_storeAB Tryd.sizeOf82 rfl rfl rfl rfl hs (kk := 0) rfl rfl ?_
        | refine s_storeAB Tryd.sizeOf82 rfl rfl rfl rfl hs (kk := 1) rfl rfl ?_
        | refine s_storeAB Tryd.sizeOf82 rfl rfl rfl rfl hs (kk := 2) rfl rfl ?_
      clear hs; intro w hs; try simp only [List.set_cons_zero, List.set_cons_succ, splice, List.take_succ_cons, List.take_zero, List.drop_succ_cons, List.drop_zero, List.nil_append, List.cons_append, List.length_cons, List.length_nil, Nat.reduceAdd, List.append_assoc] at hs
      refine WL_nil ?_
      refine n_blk ?_
      refine n_then ?_
      refine W_region ?_
      first | (refine s_add' rfl rfl rfl ?hx ?_; case hx => (constructor <;> first | omega | (simp only; omega))) | refine s_add rfl rfl rfl ?_
      refine s_move rfl rfl ?_
      refine WL_nil ?_
      refine n_loop ?_
      refine ⟨⟨i + 1, LW⟩, ⟨rfl, rfl, rfl, rfl, rfl, rfl, trivial⟩, ⟨?_, ?_, by simp only; omega⟩, by simp only; omega⟩
      · simp only; rw [hla, hbe]; exact hs.tail
      · simp only; rw [hsplit, ← List.append_assoc]
        simpa [fourB, four] using hW
    · skip
      simp only [decide_eq_true_eq, decide_eq_false_iff_not, Bool.not_eq_true', Bool.not_eq_false'] at hc30
      refine W_exit ?_
      refine x_then ?_
      refine x_then ?_
      refine exit_hit ?_
      refine n_then ?_
      refine W_seq ?_
      refine W_region ?_
      have hib : i = cl.length := by omega
      rw [hib, List.take_of_length_le (Nat.le_refl _)] at hW
      replace hW : WbAt b6 (encB cl) LW := hW
      refine s_callL (M := [_, _]) (L1 := LW) (X := []) Tryd.call42 rfl rfl (by simpa using hs) (fun h => bDone_ok b6 _ LW w hW h (by omega)) ?_
      clear hs; rintro u w L9 ⟨Lr, rfl, hOr⟩ - hs
      simp only [List.cons_append, List.nil_append, List.append_nil] at hs
      refine s_assign rfl rfl ?_
      refine s_assign rfl rfl ?_
      refine WL_nil ?_
      refine n_then ?_
      refine W_ret ?_
      exact end2 rfl rfl rfl ⟨u, Lr, rfl, hOr, St.right (M := LW) hs.tail.tail⟩
end Go.Proofs.YtgjjdlgbbgijgaaDoor

/- Contracts of package codec: Decode of what Encode wrote; the reference's comparison of claims. -/
namespace Go.Proofs.YtgjjdlgbbgijgaaDoor
open Go.SL
/-- the four numbers that were read so far, the others 0 -/
def fourD (l : List Int) (j : Nat) : List Int := l.take j ++ List.replicate (4 - j) 0
theorem fourD_set (l : List Int) (j : Nat) (hl : l.length = 4) (hj : j < 4) : (fourD l j).set j (l.getD j 0) = fourD l (j + 1) := by
  match l, hl with
  | [a, b, c, d], _ =>
    match j, hj with
    | 0, _ => rfl
    | 1, _ => rfl
    | 2, _ => rfl
    | 3, _ => rfl
theorem fourD_length (l : List Int) (j : Nat) (hl : l.length = 4) (hj : j ≤ 4) : (fourD l j).length = 4 := by simp [fourD]; omega
theorem four_length (la be x : Cl) : (four la be x).length = 4 := rfl
theorem flat_split (l : List Int) (j : Nat) (hj : j < l.length) : l.flatMap code = (l.take j).flatMap code ++ (code (l.getD j 0) ++ (l.drop (j + 1)).flatMap code) := by
  have h1 : l = l.take j ++ l[j] :: l.drop (j + 1) := by rw [List.getElem_cons_drop, List.take_append_drop]
  refine (congrArg (List.flatMap code) h1).trans ?_
  rw [List.flatMap_append, List.flatMap_cons, List.getD_eq_getElem?_getD, List.getElem?_eq_getElem hj]; rfl
theorem take_flat (l : List Int) (j : Nat) (hj : j < l.length) : (l.take (j + 1)).flatMap code = (l.take j).flatMap code ++ code (l.getD j 0) := by
  rw [List.take_succ_eq_append_getElem hj, List.flatMap_append, List.getD_eq_getElem?_getD, List.getElem?_eq_getElem hj]; simp
structure DeS where
  i : Nat
  v : Value
  LR : Hp
  Lc : Hp
structure DeJ where
  j : Nat
  LR : Hp
set_option maxHeartbeats 2000000 in
theorem coDecode_ok (v : Value) (cl : List Cl) (w0 : World) (hg : Wd w0) (hv : Sl w0 v (pk (encB cl)).length (u8s (pk (encB cl)))) (hok : ∀ x ∈ cl, x.ok) (hl : cl.length ≤ 4096) :
    Ret Tryd.prog 31 [v].toArray w0 fun r w' => ∃ u Lr, r = .tuple #[u, .int .i64 0] ∧ OwnS 82 4 u cl.length (cls cl) Lr ∧ St [] w0 w' Lr := by
  obtain ⟨a, c, rfl, hc⟩ := hv.len_le
  have hbl := encB_length cl
  have hpl := pk_length (encB cl)
  have hisB : ∀ b ∈ pk (encB cl), isB b := by
    intro b hb
    obtain ⟨j, _, rfl⟩ := List.mem_map.1 hb
    have := byteAt_lt (encB cl) j
    unfold isB; omega
  refine Ret_start fun w hs => ?_
  refine Ret_of Tryd.func31 rfl Tryd.ntmps31 rfl ?_
  refine W_seq ?_
  refine W_region ?_
  refine s_assign rfl rfl ?_
  refine s_assign rfl rfl ?_
  refine WL_nil ?_
  refine n_then ?_
  refine W_seq ?_
  refine W_region ?_
  refine s_move rfl rfl ?_
  refine s_call Tryd.call44 rfl rfl (bRead_ok _ (pk (encB cl)) w (hv.fwd0 hs.fwd) (by omega) hisB) ?_
  rintro r w ⟨p, LR, rfl, hR, hst⟩
  replace hs := St.back0 hs hst
  simp only [List.append_nil] at hs
  clear hst
  refine s_assign rfl rfl ?_
  refine WL_nil ?_
  refine n_then ?_
  refine W_seq ?_
  refine W_region ?_
  refine s_move rfl rfl ?_
  refine s_callL (M := []) (L1 := LR) (X := []) Tryd.call45 rfl rfl (by simpa using hs) (fun h => coRead_ok p (encB cl) 0 (cl.length : Int) _ w (hg.st hs (by simp)) (hg.not hs) hR h (by unfold isI64; omega) ⟨encC .z .z cl, rfl⟩ (by omega)) ?_
  clear hs hR; rintro v w LR ⟨hR, rfl⟩ - hs
  simp only [List.nil_append, List.append_nil, Nat.zero_add] at hs hR
  refine s_move rfl rfl ?_
  refine s_extract rfl rfl rfl ?_
  refine s_extract rfl rfl rfl ?_
  refine s_assign rfl rfl ?_
  refine s_assign rfl rfl ?_
  refine WL_nil ?_
  refine n_then ?_
  refine W_seq ?_
  refine W_seq ?_
  refine W_region ?_
  refine s_move rfl rfl ?_
  refine s_not rfl rfl ?_
  refine s_move rfl rfl ?_
  refine WL_know (s := 22) (c := false) rfl (rfl) ?_
  refine WL_take rfl ?_
  refine s_move rfl rfl ?_
  refine WL_take rfl ?_
  refine s_lss rfl rfl rfl ?_
  refine s_pick_f rfl rfl rfl ?_
  refine s_move rfl rfl ?_
  refine WL_know (s := 26) (c := false) rfl ((by simp)) ?_
  refine WL_take rfl ?_
  refine s_move rfl rfl ?_
  refine WL_take rfl ?_
  refine s_gtr rfl rfl rfl ?_
  refine s_pick_f rfl rfl rfl ?_
  refine WL_nil ?_
  refine n_then ?_
  refine W_cond_kf rfl ((by simp; omega)) ?_
  refine W_skip ?_
  refine n_then ?_
  refine W_seq ?_
  refine W_region ?_
  refine s_assign rfl rfl ?_
  refine WL_nil ?_
  refine n_then ?_
  refine W_seq ?_
  refine W_region ?_
  refine s_alloc rfl AL82 hs ?_; clear hs; intro b8 w hs
  refine s_alloc rfl AL82 hs ?_; clear hs; intro b9 w hs
  refine WL_nil ?_
  refine n_then ?_
  refine W_seq ?_
  refine W_seq ?_
  refine W_region ?_
  refine s_move rfl rfl ?_
  refine s_move rfl rfl ?_
  refine WL_nil ?_
  refine n_then ?_
  refine W_block ?_
  refine W_loop (σ := DeS) (fun s => [(4, .pointer (some ⟨p, 0, none⟩)), (7, s.v), (8, .pointer (some ⟨b8, 0, none⟩)), (9, .pointer (some ⟨b9, 0, none⟩)), (30, .int .i64 (cl.length : Int)), (31, .int .i64 (s.i : Int))])
    (fun s w => St [] w0 w ((b9, Blk 82 (befC (cl.take s.i)).cells) :: (b8, Blk 82 (lastC (cl.take s.i)).cells) :: (s.LR ++ s.Lc)) ∧ RbAt p (pk (encB cl)) (code cl.length ++ encC .z .z (cl.take s.i)).length 0 s.LR ∧ OwnS 82 4 s.v s.i (cls (cl.take s.i)) s.Lc ∧ s.i ≤ cl.length) (fun s => cl.length - s.i) ⟨0, .slice none 0 0, LR, []⟩ ⟨rfl, rfl, rfl, rfl, rfl, rfl, trivial⟩ ⟨by simp only [List.append_nil]; exact hs, by simpa [encC] using hR, OwnS.nil _ _, Nat.zero_le _⟩ ?_
  clear hs hR LR
  rintro ⟨i, v7, LR, Lc⟩ w ⟨hs, hR, hO, hi⟩
  simp only at hs hR hO hi ⊢
  refine W_seq ?_
  refine W_region ?_
  refine s_lss rfl rfl rfl ?_
  refine WL_nil ?_
  refine n_then ?_
  refine W_seq ?_
  refine W_cond rfl (fun hc32 => ?_) (fun hc32 => ?_)
  · skip
    simp only [decide_eq_true_eq, decide_eq_false_iff_not, Bool.not_eq_true', Bool.not_eq_false'] at hc32
    have hil : i < cl.length := by omega
    have hxi : cl[i]? = some cl[i] := List.getElem?_eq_getElem hil
    have hxo : cl[i].ok := hok _ (List.getElem_mem hil)
    have htk : cl.take (i + 1) = cl.take i ++ [cl[i]] := List.take_succ_eq_append_getElem hil
    have hcl4 : cls (cl.take (i + 1)) = cls (cl.take i) ++ cl[i].cells := by rw [htk, cls_append]; simp [cls]
    have hao := lastC_mem Cl.z_ok (l := cl.take i) (P := Cl.ok) fun x hx => hok x (List.mem_of_mem_take hx)
    have hbo := befC_mem Cl.z_ok (l := cl.take i) (P := Cl.ok) fun x hx => hok x (List.mem_of_mem_take hx)
    have h4 := four_in hao hbo hxo
    have hsplit := encC_split (cl.take i) cl[i] []
    rw [← htk, encC, List.append_nil] at hsplit
    have hall := encC_split (cl.take i) cl[i] (cl.drop (i + 1))
    rw [List.getElem_cons_drop, List.take_append_drop] at hall
    have hAt : AtBits (encB cl) ((four (lastC (cl.take i)) (befC (cl.take i)) cl[i]).flatMap code) (code cl.length ++ encC .z .z (cl.take i)).length := by
      refine ⟨encC cl[i] (lastC (cl.take i)) (cl.drop (i + 1)), ?_⟩
      rw [encB, hall, ← List.append_assoc, List.drop_left]; rfl
    have hla : lastC (cl.take (i + 1)) = cl[i] := by rw [htk, lastC_snoc]
    have hbe : befC (cl.take (i + 1)) = lastC (cl.take i) := by rw [htk, befC_snoc]
    have hK : (code cl.length ++ encC .z .z (cl.take (i + 1))).length = (code cl.length ++ encC .z .z (cl.take i)).length + ((four (lastC (cl.take i)) (befC (cl.take i)) cl[i]).flatMap code).length := by
      rw [hsplit]; simp only [List.length_append, fourB]; omega
    generalize cl[i] = x at *
    generalize lastC (cl.take i) = la at *
    generalize befC (cl.take i) = be at *
    generalize (code cl.length ++ encC .z .z (cl.take i)).length = K at *
    obtain ⟨ha1, ha2, ha3, ha4⟩ := hao
    obtain ⟨hb1, hb2, hb3, hb4⟩ := hbo
    have hxok := hxo
    obtain ⟨hx1, hx2, hx3, hx4⟩ := hxo
    unfold inR at ha1 ha2 ha3 ha4 hb1 hb2 hb3 hb4 hx1 hx2 hx3 hx4
    have hf4 := four_length la be x
    refine W_skip ?_
    refine n_then ?_
    refine W_seq ?_
    refine W_block ?_
    refine W_seq ?_
    refine W_region ?_
    refine s_alloc rfl AL96 hs ?_; clear hs; intro b10 w hs
    refine WL_nil ?_
    refine n_then ?_
    refine W_seq ?_
    refine W_seq ?_
    refine W_region ?_
    refine s_move rfl rfl ?_
    refine WL_nil ?_
    refine n_then ?_
    refine W_block ?_
    refine W_loop (σ := DeJ) (fun s => [(4, .pointer (some ⟨p, 0, none⟩)), (7, v7), (8, .pointer (some ⟨b8, 0, none⟩)), (9, .pointer (some ⟨b9, 0, none⟩)), (10, .pointer (some ⟨b10, 0, none⟩)), (30, .int .i64 (cl.length : Int)), (31, .int .i64 (i : Int)), (33, .int .i64 (s.j : Int))])
      (fun s w => St [] w0 w ((b10, Blk 96 (i64s (fourD (four la be x) s.j))) :: (b9, Blk 82 be.cells) :: (b8, Blk 82 la.cells) :: (s.LR ++ Lc)) ∧ RbAt p (pk (encB cl)) (K + (((four la be x).take s.j).flatMap code).length) 0 s.LR ∧ s.j ≤ 4) (fun s => 4 - s.j) ⟨0, LR⟩ ⟨rfl, rfl, rfl, rfl, rfl, rfl, rfl, rfl, trivial⟩ ⟨hs, by simpa using hR, Nat.zero_le _⟩ ?_
    clear hs hR LR
    rintro ⟨j, LR⟩ w ⟨hs, hR, hj⟩
    simp only at hs hR hj ⊢
    refine W_seq ?_
    refine W_region ?_
    refine s_lss rfl rfl rfl ?_
    refine WL_nil ?_
    refine n_then ?_
    refine W_seq ?_
    refine W_cond rfl (fun hc34 => ?_) (fun hc34 => ?_)
    · skip
      simp only [decide_eq_true_eq, decide_eq_false_iff_not, Bool.not_eq_true', Bool.not_eq_false'] at hc34
      have hj4 : j < 4 := by omega
      have hm : (four la be x).getD j 0 ∈ four la be x := by rw [List.getD_eq_getElem?_getD, List.getElem?_eq_getElem (by omega)]; simp
      have hAj : AtBits (encB cl) (code ((four la be x).getD j 0)) (K + (((four la be x).take j).flatMap code).length) := by
        have h1 := hAt
        rw [flat_split _ j (by omega)] at h1
        exact h1.right.left
      have hset := fourD_set (four la be x) j hf4 hj4
      have htf := take_flat (four la be x) j (by omega)
      have hdl := fourD_length (four la be x) j hf4 (by omega)
      generalize (four la be x).getD j 0 = z at *
      refine W_skip ?_
      refine n_then ?_
      refine W_seq ?_
      refine W_block ?_
      refine W_seq ?_
      refine W_region ?_
      refine s_move rfl rfl ?_
      refine s_assign rfl rfl ?_
      refine WL_nil ?_
      refine n_then ?_
      refine W_seq ?_
      refine W_region ?_
      refine s_move rfl rfl ?_
      refine s_move rfl rfl ?_
      refine s_callL (M := [_, _, _]) (L1 := LR) (X := Lc) Tryd.call45 rfl rfl hs (fun h => coRead_ok p (encB cl) _ z LR w (hg.st hs (by simp)) (St.new0M (M := [_, _, _]) (X := Lc) hs hg.lt) hR h (h4 z hm) hAj (by omega)) ?_
      clear hs hR; rintro v w LR ⟨hR, rfl⟩ - hs
      simp only [List.cons_append, List.nil_append] at hs
      refine s_move rfl rfl ?_
      refine s_extract rfl rfl rfl ?_
      refine s_extract rfl rfl rfl ?_
      (refine s_indexAddrA Tryd.underlying96 Tryd.sizeOf3 rfl rfl rfl ?hx ?_; case hx => (constructor <;> omega))
      refine s_store Tryd.sizeOf3 rfl rfl rfl hs (kk := 0) rfl (by simp [hdl]; omega) ?_
      clear hs; intro w hs
      simp only [List.set_cons_zero] at hs
      have hmap : (i64s (fourD (four la be x) j)).set (0 + ((j : Nat) : Int).toNat) (.int .i64 z) = i64s (fourD (four la be x) (j + 1)) := by
        rw [← hset, i64s, i64s, List.map_set, Nat.zero_add, Int.toNat_natCast]
      rw [hmap] at hs
      refine s_assign rfl rfl ?_
      refine WL_nil ?_
      refine n_then ?_
      refine W_seq ?_
      refine W_region ?_
      refine s_move rfl rfl ?_
      refine s_not rfl rfl ?_
      refine WL_nil ?_
      refine n_then ?_
      refine W_cond_kf rfl (rfl) ?_
      refine W_skip ?_
      refine n_blk ?_
      refine n_then ?_
      refine W_region ?_
      first | (refine s_add' rfl rfl rfl ?hx ?_; case hx => (constructor <;> first | omega | (simp only; omega))) | refine s_add rfl rfl rfl ?_
      refine s_move rfl rfl ?_
      refine WL_nil ?_
      refine n_loop ?_
      exact ⟨⟨j + 1, LR⟩, ⟨rfl, rfl, rfl, rfl, rfl, rfl, rfl, rfl, trivial⟩, ⟨hs, by simp only; rw [htf, List.length_append, ← Nat.add_assoc]; exact hR, by simp only; omega⟩, by simp only; omega⟩
    · skip
      simp only [decide_eq_true_eq, decide_eq_false_iff_not, Bool.not_eq_true', Bool.not_eq_false'] at hc34
      refine W_exit ?_
      refine x_then ?_
      refine x_then ?_
      refine exit_hit ?_
      refine n_then ?_
      refine W_seq ?_
      refine W_region ?_
      have hj4 : j = 4 := by omega
      subst hj4
      rw [List.take_of_length_le (by omega), ← hK] at hR
      replace hs : St [] w0 w ((b10, Blk 96 [.int .i64 (x.a - 2 * la.a + be.a), .int .i64 ((x.b - x.a) - (la.b - la.a)), .int .i64 (x.c - la.c), .int .i64 ((x.d - x.c) - (la.d - la.c))]) :: (b9, Blk 82 be.cells) :: (b8, Blk 82 la.cells) :: (LR ++ Lc)) := hs
      refine s_alloc rfl AL82 hs ?_; clear hs; intro b12 w hs
      refine WL_nil ?_
      refine n_then ?_
      refine W_seq ?_
      refine W_region ?_
      (refine s_indexAddrA Tryd.underlying96 Tryd.sizeOf3 rfl rfl rfl ?hx ?_; case hx => (constructor <;> omega))
      first
        | refine s_load Tryd.isAgg3 rfl rfl (hs.cell (k := 0) rfl rfl) ?_
        | refine s_load Tryd.isAgg3 rfl rfl (hs.cell (k := 1) rfl rfl) ?_
        | refine s_load Tryd.isAgg3 rfl rfl (hs.cell (k := 2) rfl rfl) ?_
        | refine s_load Tryd.isAgg3 rfl rfl (hs.cell (k := 3) rfl rfl) ?_
        | refine s_load Tryd.isAgg3 rfl rfl (hs.cell (k := 4) rfl rfl) ?_
        | refine s_load Tryd.isAgg3 rfl rfl (hs.cell (k := 5) rfl rfl) ?_
      refine s_fieldAddr rfl rfl (FA82_0 _ _) ?_
      first
        | refine s_load Tryd.isAgg3 rfl rfl (hs.cell (k := 0) rfl rfl) ?_
        | refine s_load Tryd.isAgg3 rfl rfl (hs.cell (k := 1) rfl rfl) ?_
        | refine s_load Tryd.isAgg3 rfl rfl (hs.cell (k := 2) rfl rfl) ?_
        | refine s_load Tryd.isAgg3 rfl rfl (hs.cell (k := 3) rfl rfl) ?_
        | refine s_load Tryd.isAgg3 rfl rfl (hs.cell (k := 4) rfl rfl) ?_
        | refine s_load Tryd.isAgg3 rfl rfl (hs.cell (k := 5) rfl rfl) ?_
      first | (refine s_mul' rfl rfl rfl ?hx ?_; case hx => (constructor <;> first | omega | (simp only; omega))) | refine s_mul rfl rfl rfl ?_
      first | (refine s_add' rfl rfl rfl ?hx ?_; case hx => (constructor <;> first | omega | (simp only; omega))) | refine s_add rfl rfl rfl ?_
      refine s_fieldAddr rfl rfl (FA82_0 _ _) ?_
      first
        | refine s_load Tryd.isAgg3 rfl rfl (hs.cell (k := 0) rfl rfl) ?_
        | refine s_load Tryd.isAgg3 rfl rfl (hs.cell (k := 1) rfl rfl) ?_
        | refine s_load Tryd.isAgg3 rfl rfl (hs.cell (k := 2) rfl rfl) ?_
        | refine s_load Tryd.isAgg3 rfl rfl (hs.cell (k := 3) rfl rfl) ?_
        | refine s_load Tryd.isAgg3 rfl rfl (hs.cell (k := 4) rfl rfl) ?_
        | refine s_load Tryd.isAgg3 rfl rfl (hs.cell (k := 5) rfl rfl) ?_
      (refine s_sub' rfl rfl rfl ?hx ?_; case hx => (constructor <;> omega))
      rw [show x.a - 2 * la.a + be.a + 2 * la.a - be.a = x.a from by omega]
      refine s_fieldAddr rfl rfl (FA82_0 _ _) ?_
      first
        | refine s_storeB Tryd.sizeOf3 rfl rfl rfl hs (kk := 0) rfl rfl ?_
        | refine s_storeB Tryd.sizeOf3 rfl rfl rfl hs (kk := 1) rfl rfl ?_
        | refine s_storeB Tryd.sizeOf3 rfl rfl rfl hs (kk := 2) rfl rfl ?_
        | refine s_storeB Tryd.sizeOf3 rfl rfl rfl hs (kk := 3) rfl rfl ?_
        | refine s_storeB Tryd.sizeOf3 rfl rfl rfl hs (kk := 4) rfl rfl ?_
        | refine s_storeB Tryd.sizeOf3 rfl rfl rfl hs (kk := 5) rfl rfl ?_
      clear hs; intro w hs; try simp only [List.set_cons_zero, List.set_cons_succ, splice, List.take_succ_cons, List.take_zero, List.drop_succ_cons, List.drop_zero, List.nil_append, List.cons_append, List.length_cons, List.length_nil, Nat.reduceAdd, List.append_assoc] at hs
      refine WL_nil ?_
      refine n_then ?_
      refine W_seq ?_
      refine W_region ?_
      refine s_fieldAddr rfl rfl (FA82_0 _ _) ?_
      first
        | refine s_load Tryd.isAgg3 rfl rfl (hs.cell (k := 0) rfl rfl) ?_
        | refine s_load Tryd.isAgg3 rfl rfl (hs.cell (k := 1) rfl rfl) ?_
        | refine s_load Tryd.isAgg3 rfl rfl (hs.cell (k := 2) rfl rfl) ?_
        | refine s_load Tryd.isAgg3 rfl rfl (hs.cell (k := 3) rfl rfl) ?_
        | refine s_load Tryd.isAgg3 rfl rfl (hs.cell (k := 4) rfl rfl) ?_
        | refine s_load Tryd.isAgg3 rfl rfl (hs.cell (k := 5) rfl rfl) ?_
      (refine s_indexAddrA Tryd.underlying96 Tryd.sizeOf3 rfl rfl rfl ?hx ?_; case hx => (constructor <;> omega))
      first
        | refine s_load Tryd.isAgg3 rfl rfl (hs.cell (k := 0) rfl rfl) ?_
        | refine s_load Tryd.isAgg3 rfl rfl (hs.cell (k := 1) rfl rfl) ?_
        | refine s_load Tryd.isAgg3 rfl rfl (hs.cell (k := 2) rfl rfl) ?_
        | refine s_load Tryd.isAgg3 rfl rfl (hs.cell (k := 3) rfl rfl) ?_
        | refine s_load Tryd.isAgg3 rfl rfl (hs.cell (k := 4) rfl rfl) ?_
        | refine s_load Tryd.isAgg3 rfl rfl (hs.cell (k := 5) rfl rfl) ?_
      first | (refine s_add' rfl rfl rfl ?hx ?_; case hx => (constructor <;> first | omega | (simp only; omega))) | refine s_add rfl rfl rfl ?_
      refine s_fieldAddr rfl rfl (FA82_1 _ _) ?_
      first
        | refine s_load Tryd.isAgg3 rfl rfl (hs.cell (k := 0) rfl rfl) ?_
        | refine s_load Tryd.isAgg3 rfl rfl (hs.cell (k := 1) rfl rfl) ?_
        | refine s_load Tryd.isAgg3 rfl rfl (hs.cell (k := 2) rfl rfl) ?_
        | refine s_load Tryd.isAgg3 rfl rfl (hs.cell (k := 3) rfl rfl) ?_
        | refine s_load Tryd.isAgg3 rfl rfl (hs.cell (k := 4) rfl rfl) ?_
        | refine s_load Tryd.isAgg3 rfl rfl (hs.cell (k := 5) rfl rfl) ?_
      refine s_fieldAddr rfl rfl (FA82_0 _ _) ?_
      first
        | refine s_load Tryd.isAgg3 rfl rfl (hs.cell (k := 0) rfl rfl) ?_
        | refine s_load Tryd.isAgg3 rfl rfl (hs.cell (k := 1) rfl rfl) ?_
        | refine s_load Tryd.isAgg3 rfl rfl (hs.cell (k := 2) rfl rfl) ?_
        | refine s_load Tryd.isAgg3 rfl rfl (hs.cell (k := 3) rfl rfl) ?_
        | refine s_load Tryd.isAgg3 rfl rfl (hs.cell (k := 4) rfl rfl) ?_
        | refine s_load Tryd.isAgg3 rfl rfl (hs.cell (k := 5) rfl rfl) ?_
      first | (refine s_sub' rfl rfl rfl ?hx ?_; case hx => (constructor <;> first | omega | (simp only; omega))) | refine s_sub rfl rfl rfl ?_
      (refine s_add' rfl rfl rfl ?hx ?_; case hx => (constructor <;> omega))
      rw [show x.a + ((x.b - x.a) - (la.b - la.a)) + (la.b - la.a) = x.b from by omega]
      refine s_fieldAddr rfl rfl (FA82_1 _ _) ?_
      first
        | refine s_storeB Tryd.sizeOf3 rfl rfl rfl hs (kk := 0) rfl rfl ?_
        | refine s_storeB Tryd.sizeOf3 rfl rfl rfl hs (kk := 1) rfl rfl ?_
        | refine s_storeB Tryd.sizeOf3 rfl rfl rfl hs (kk := 2) rfl rfl ?_
        | refine s_storeB Tryd.sizeOf3 rfl rfl rfl hs (kk := 3) rfl rfl ?_
        | refine s_storeB Tryd.sizeOf3 rfl rfl rfl hs (kk := 4) rfl rfl ?_
        | refine s_storeB Tryd.sizeOf3 rfl rfl rfl hs (kk := 5) rfl rfl ?_
      clear hs; intro w hs; try simp only [List.set_cons_zero, List.set_cons_succ, splice, List.take_succ_cons, List.take_zero, List.drop_succ_cons, List.drop_zero, List.nil_append, List.cons_append, List.length_cons, List.length_nil, Nat.reduceAdd, List.append_assoc] at hs
      refine WL_nil ?_
      refine n_then ?_
      refine W_seq ?_
      refine W_region ?_
      (refine s_indexAddrA Tryd.underlying96 Tryd.sizeOf3 rfl rfl rfl ?hx ?_; case hx => (constructor <;> omega))
      first
        | refine s_load Tryd.isAgg3 rfl rfl (hs.cell (k := 0) rfl rfl) ?_
        | refine s_load Tryd.isAgg3 rfl rfl (hs.cell (k := 1) rfl rfl) ?_
        | refine s_load Tryd.isAgg3 rfl rfl (hs.cell (k := 2) rfl rfl) ?_
        | refine s_load Tryd.isAgg3 rfl rfl (hs.cell (k := 3) rfl rfl) ?_
        | refine s_load Tryd.isAgg3 rfl rfl (hs.cell (k := 4) rfl rfl) ?_
        | refine s_load Tryd.isAgg3 rfl rfl (hs.cell (k := 5) rfl rfl) ?_
      refine s_fieldAddr rfl rfl (FA82_2 _ _) ?_
      first
        | refine s_load Tryd.isAgg3 rfl rfl (hs.cell (k := 0) rfl rfl) ?_
        | refine s_load Tryd.isAgg3 rfl rfl (hs.cell (k := 1) rfl rfl) ?_
        | refine s_load Tryd.isAgg3 rfl rfl (hs.cell (k := 2) rfl rfl) ?_
        | refine s_load Tryd.isAgg3 rfl rfl (hs.cell (k := 3) rfl rfl) ?_
        | refine s_load Tryd.isAgg3 rfl rfl (hs.cell (k := 4) rfl rfl) ?_
        | refine s_load Tryd.isAgg3 rfl rfl (hs.cell (k := 5) rfl rfl) ?_
      (refine s_add' rfl rfl rfl ?hx ?_; case hx => (constructor <;> omega))
      rw [show x.c - la.c + la.c = x.c from by omega]
      refine s_fieldAddr rfl rfl (FA82_2 _ _) ?_
      first
        | refine s_storeB Tryd.sizeOf3 rfl rfl rfl hs (kk := 0) rfl rfl ?_
        | refine s_storeB Tryd.sizeOf3 rfl rfl rfl hs (kk := 1) rfl rfl ?_
        | refine s_storeB Tryd.sizeOf3 rfl rfl rfl hs (kk := 2) rfl rfl ?_
        | refine s_storeB Tryd.sizeOf3 rfl rfl rfl hs (kk := 3) rfl rfl ?_
        | refine s_storeB Tryd.sizeOf3 rfl rfl rfl hs (kk := 4) rfl rfl ?_
        | refine s_storeB Tryd.sizeOf3 rfl rfl rfl hs (kk := 5) rfl rfl ?_
      clear hs; intro w hs; try simp only [List.set_cons_zero, List.set_cons_succ, splice, List.take_succ_cons, List.take_zero, List.drop_succ_cons, List.drop_zero, List.nil_append, List.cons_append, List.length_cons, List.length_nil, Nat.reduceAdd, List.append_assoc] at hs
      refine WL_nil ?_
      refine n_then ?_
      refine W_seq ?_
      refine W_region ?_
      refine s_fieldAddr rfl rfl (FA82_2 _ _) ?_
      first
        | refine s_load Tryd.isAgg3 rfl rfl (hs.cell (k := 0) rfl rfl) ?_
        | refine s_load Tryd.isAgg3 rfl rfl (hs.cell (k := 1) rfl rfl) ?_
        | refine s_load Tryd.isAgg3 rfl rfl (hs.cell (k := 2) rfl rfl) ?_
        | refine s_load Tryd.isAgg3 rfl rfl (hs.cell (k := 3) rfl rfl) ?_
        | refine s_load Tryd.isAgg3 rfl rfl (hs.cell (k := 4) rfl rfl) ?_
        | refine s_load Tryd.isAgg3 rfl rfl (hs.cell (k := 5) rfl rfl) ?_
      (refine s_indexAddrA Tryd.underlying96 Tryd.sizeOf3 rfl rfl rfl ?hx ?_; case hx => (constructor <;> omega))
      first
        | refine s_load Tryd.isAgg3 rfl rfl (hs.cell (k := 0) rfl rfl) ?_
        | refine s_load Tryd.isAgg3 rfl rfl (hs.cell (k := 1) rfl rfl) ?_
        | refine s_load Tryd.isAgg3 rfl rfl (hs.cell (k := 2) rfl rfl) ?_
        | refine s_load Tryd.isAgg3 rfl rfl (hs.cell (k := 3) rfl rfl) ?_
        | refine s_load Tryd.isAgg3 rfl rfl (hs.cell (k := 4) rfl rfl) ?_
        | refine s_load Tryd.isAgg3 rfl rfl (hs.cell (k := 5) rfl rfl) ?_
      first | (refine s_add' rfl rfl rfl ?hx ?_; case hx => (constructor <;> first | omega | (simp only; omega))) | refine s_add rfl rfl rfl ?_
      refine s_fieldAddr rfl rfl (FA82_3 _ _) ?_
      first
        | refine s_load Tryd.isAgg3 rfl rfl (hs.cell (k := 0) rfl rfl) ?_
        | refine s_load Tryd.isAgg3 rfl rfl (hs.cell (k := 1) rfl rfl) ?_
        | refine s_load Tryd.isAgg3 rfl rfl (hs.cell (k := 2) rfl rfl) ?_
        | refine s_load Tryd.isAgg3 rfl rfl (hs.cell (k := 3) rfl rfl) ?_
        | refine s_load Tryd.isAgg3 rfl rfl (hs.cell (k := 4) rfl rfl) ?_
        | refine s_load Tryd.isAgg3 rfl rfl (hs.cell (k := 5) rfl rfl) ?_
      refine s_fieldAddr rfl rfl (FA82_2 _ _) ?_
      first
        | refine s_load Tryd.isAgg3 rfl rfl (hs.cell (k := 0) rfl rfl) ?_
        | refine s_load Tryd.isAgg3 rfl rfl (hs.cell (k := 1) rfl rfl) ?_
        | refine s_load Tryd.isAgg3 rfl rfl (hs.cell (k := 2) rfl rfl) ?_
        | refine s_load Tryd.isAgg3 rfl rfl (hs.cell (k := 3) rfl rfl) ?_
        | refine s_load Tryd.isAgg3 rfl rfl (hs.cell (k := 4) rfl rfl) ?_
        | refine s_load Tryd.isAgg3 rfl rfl (hs.cell (k := 5) rfl rfl) ?_
      first | (refine s_sub' rfl rfl rfl ?hx ?_; case hx => (constructor <;> first | omega | (simp only; omega))) | refine s_sub rfl rfl rfl ?_
      (refine s_add' rfl rfl rfl ?hx ?_; case hx => (constructor <;> omega))
      rw [show x.c + ((x.d - x.c) - (la.d - la.c)) + (la.d - la.c) = x.d from by omega]
      refine s_fieldAddr rfl rfl (FA82_3 _ _) ?_
      first
        | refine s_storeB Tryd.sizeOf3 rfl rfl rfl hs (kk := 0) rfl rfl ?_
        | refine s_storeB Tryd.sizeOf3 rfl rfl rfl hs (kk := 1) rfl rfl ?_
        | refine s_storeB Tryd.sizeOf3 rfl rfl rfl hs (kk := 2) rfl rfl ?_
        | refine s_storeB Tryd.sizeOf3 rfl rfl rfl hs (kk := 3) rfl rfl ?_
        | refine s_storeB Tryd.sizeOf3 rfl rfl rfl hs (kk := 4) rfl rfl ?_
        | refine s_storeB Tryd.sizeOf3 rfl rfl rfl hs (kk := 5) rfl rfl ?_
      clear hs; intro w hs; try simp only [List.set_cons_zero, List.set_cons_succ, splice, List.take_succ_cons, List.take_zero, List.drop_succ_cons, List.drop_zero, List.nil_append, List.cons_append, List.length_cons, List.length_nil, Nat.reduceAdd, List.append_assoc] at hs
      refine WL_nil ?_
      refine n_then ?_
      refine W_seq ?_
      refine W_seq ?_
      refine W_region ?_
      first
        | refine s_loadW Tryd.isAgg82 Tryd.sizeOf82 rfl rfl hs (kk := 0) rfl rfl ?_
        | refine s_loadW Tryd.isAgg82 Tryd.sizeOf82 rfl rfl hs (kk := 1) rfl rfl ?_
        | refine s_loadW Tryd.isAgg82 Tryd.sizeOf82 rfl rfl hs (kk := 2) rfl rfl ?_
        | refine s_loadW Tryd.isAgg82 Tryd.sizeOf82 rfl rfl hs (kk := 3) rfl rfl ?_
        | refine s_loadW Tryd.isAgg82 Tryd.sizeOf82 rfl rfl hs (kk := 4) rfl rfl ?_
        | refine s_loadW Tryd.isAgg82 Tryd.sizeOf82 rfl rfl hs (kk := 5) rfl rfl ?_
        | refine s_load_4 Tryd.isAgg82 Tryd.sizeOf82 rfl rfl (by first | exact hs.cell (k := 0) rfl rfl | exact hs.cell (k := 1) rfl rfl | exact hs.cell (k := 2) rfl rfl | exact hs.cell (k := 3) rfl rfl | exact hs.cell (k := 4) rfl rfl | exact hs.cell (k := 5) rfl rfl) (by first | exact hs.cell (k := 0) rfl rfl | exact hs.cell (k := 1) rfl rfl | exact hs.cell (k := 2) rfl rfl | exact hs.cell (k := 3) rfl rfl | exact hs.cell (k := 4) rfl rfl | exact hs.cell (k := 5) rfl rfl) (by first | exact hs.cell (k := 0) rfl rfl | exact hs.cell (k := 1) rfl rfl | exact hs.cell (k := 2) rfl rfl | exact hs.cell (k := 3) rfl rfl | exact hs.cell (k := 4) rfl rfl | exact hs.cell (k := 5) rfl rfl) (by first | exact hs.cell (k := 0) rfl rfl | exact hs.cell (k := 1) rfl rfl | exact hs.cell (k := 2) rfl rfl | exact hs.cell (k := 3) rfl rfl | exact hs.cell (k := 4) rfl rfl | exact hs.cell (k := 5) rfl rfl) ?_
      refine s_call Tryd.call40 rfl rfl (encodable_ok x w) ?_
      rintro r w ⟨hst, rfl⟩
      replace hs := hs.fwd1 hst
      clear hst
      refine s_not rfl rfl ?_
      refine WL_nil ?_
      refine n_then ?_
      refine W_cond_kf rfl ((by simp [hxok])) ?_
      refine W_skip ?_
      refine n_then ?_
      refine W_seq ?_
      refine W_region ?_
      refine s_move rfl rfl ?_
      first
        | refine s_loadW Tryd.isAgg82 Tryd.sizeOf82 rfl rfl hs (kk := 0) rfl rfl ?_
        | refine s_loadW Tryd.isAgg82 Tryd.sizeOf82 rfl rfl hs (kk := 1) rfl rfl ?_
        | refine s_loadW Tryd.isAgg82 Tryd.sizeOf82 rfl rfl hs (kk := 2) rfl rfl ?_
        | refine s_loadW Tryd.isAgg82 Tryd.sizeOf82 rfl rfl hs (kk := 3) rfl rfl ?_
        | refine s_loadW Tryd.isAgg82 Tryd.sizeOf82 rfl rfl hs (kk := 4) rfl rfl ?_
        | refine s_loadW Tryd.isAgg82 Tryd.sizeOf82 rfl rfl hs (kk := 5) rfl rfl ?_
        | refine s_load_4 Tryd.isAgg82 Tryd.sizeOf82 rfl rfl (by first | exact hs.cell (k := 0) rfl rfl | exact hs.cell (k := 1) rfl rfl | exact hs.cell (k := 2) rfl rfl | exact hs.cell (k := 3) rfl rfl | exact hs.cell (k := 4) rfl rfl | exact hs.cell (k := 5) rfl rfl) (by first | exact hs.cell (k := 0) rfl rfl | exact hs.cell (k := 1) rfl rfl | exact hs.cell (k := 2) rfl rfl | exact hs.cell (k := 3) rfl rfl | exact hs.cell (k := 4) rfl rfl | exact hs.cell (k := 5) rfl rfl) (by first | exact hs.cell (k := 0) rfl rfl | exact hs.cell (k := 1) rfl rfl | exact hs.cell (k := 2) rfl rfl | exact hs.cell (k := 3) rfl rfl | exact hs.cell (k := 4) rfl rfl | exact hs.cell (k := 5) rfl rfl) (by first | exact hs.cell (k := 0) rfl rfl | exact hs.cell (k := 1) rfl rfl | exact hs.cell (k := 2) rfl rfl | exact hs.cell (k := 3) rfl rfl | exact hs.cell (k := 4) rfl rfl | exact hs.cell (k := 5) rfl rfl) ?_
      refine s_buildSlice rfl rfl (BS28_1 _ _ _ _) hs ?_; clear hs; intro b91 w hs
      refine s_appendM (M := [_, _, _, _, _] ++ LR) (X := []) El28 rfl rfl rfl hO (by simpa using hs) (hs.sl (k := 0) (ds := x.cells) rfl (Nat.le_refl _) (by intro j u hj; rw [Nat.zero_add]; exact hj)) rfl (by intro u hu; simp only [Cl.cells, List.mem_cons, List.not_mem_nil, or_false] at hu; rcases hu with rfl | rfl | rfl | rfl <;> rfl) (by omega) ?_
      clear hs; intro v' w Lc' hO' hs
      simp only [List.cons_append, List.nil_append, List.append_nil] at hs
      rw [← hcl4] at hO'
      refine s_assign rfl rfl ?_
      refine WL_nil ?_
      refine n_then ?_
      refine W_region ?_
      first
        | refine s_loadW Tryd.isAgg82 Tryd.sizeOf82 rfl rfl hs (kk := 0) rfl rfl ?_
        | refine s_loadW Tryd.isAgg82 Tryd.sizeOf82 rfl rfl hs (kk := 1) rfl rfl ?_
        | refine s_loadW Tryd.isAgg82 Tryd.sizeOf82 rfl rfl hs (kk := 2) rfl rfl ?_
        | refine s_loadW Tryd.isAgg82 Tryd.sizeOf82 rfl rfl hs (kk := 3) rfl rfl ?_
        | refine s_loadW Tryd.isAgg82 Tryd.sizeOf82 rfl rfl hs (kk := 4) rfl rfl ?_
        | refine s_loadW Tryd.isAgg82 Tryd.sizeOf82 rfl rfl hs (kk := 5) rfl rfl ?_
        | refine s_load_4 Tryd.isAgg82 Tryd.sizeOf82 rfl rfl (by first | exact hs.cell (k := 0) rfl rfl | exact hs.cell (k := 1) rfl rfl | exact hs.cell (k := 2) rfl rfl | exact hs.cell (k := 3) rfl rfl | exact hs.cell (k := 4) rfl rfl | exact hs.cell (k := 5) rfl rfl) (by first | exact hs.cell (k := 0) rfl rfl | exact hs.cell (k := 1) rfl rfl | exact hs.cell (k := 2) rfl rfl | exact hs.cell (k := 3) rfl rfl | exact hs.cell (k := 4) rfl rfl | exact hs.cell (k := 5) rfl rfl) (by first | exact hs.cell (k := 0) rfl rfl | exact hs.cell (k := 1) rfl rfl | exact hs.cell (k := 2) rfl rfl | exact hs.cell (k := 3) rfl rfl | exact hs.cell (k := 4) rfl rfl | exact hs.cell (k := 5) rfl rfl) (by first | exact hs.cell (k := 0) rfl rfl | exact hs.cell (k := 1) rfl rfl | exact hs.cell (k := 2) rfl rfl | exact hs.cell (k := 3) rfl rfl | exact hs.cell (k := 4) rfl rfl | exact hs.cell (k := 5) rfl rfl) ?_
      first
        | refine s_loadW Tryd.isAgg82 Tryd.sizeOf82 rfl rfl hs (kk := 0) rfl rfl ?_
        | refine s_loadW Tryd.isAgg82 Tryd.sizeOf82 rfl rfl hs (kk := 1) rfl rfl ?_
        | refine s_loadW Tryd.isAgg82 Tryd.sizeOf82 rfl rfl hs (kk := 2) rfl rfl ?_
        | refine s_loadW Tryd.isAgg82 Tryd.sizeOf82 rfl rfl hs (kk := 3) rfl rfl ?_
        | refine s_loadW Tryd.isAgg82 Tryd.sizeOf82 rfl rfl hs (kk := 4) rfl rfl ?_
        | refine s_loadW Tryd.isAgg82 Tryd.sizeOf82 rfl rfl hs (kk := 5) rfl rfl ?_
        | refine s_load_4 Tryd.isAgg82 Tryd.sizeOf82 rfl rfl (by first | exact hs.cell (k := 0) rfl rfl | exact hs.cell (k := 1) rfl rfl | exact hs.cell (k := 2) rfl rfl | exact hs.cell (k := 3) rfl rfl | exact hs.cell (k := 4) rfl rfl | exact hs.cell (k := 5) rfl rfl) (by first | exact hs.cell (k := 0) rfl rfl | exact hs.cell (k := 1) rfl rfl | exact hs.cell (k := 2) rfl rfl | exact hs.cell (k := 3) rfl rfl | exact hs.cell (k := 4) rfl rfl | exact hs.cell (k := 5) rfl rfl) (by first | exact hs.cell (k := 0) rfl rfl | exact hs.cell (k := 1) rfl rfl | exact hs.cell (k := 2) rfl rfl | exact hs.cell (k := 3) rfl rfl | exact hs.cell (k := 4) rfl rfl | exact hs.cell (k := 5) rfl rfl) (by first | exact hs.cell (k := 0) rfl rfl | exact hs.cell (k := 1) rfl rfl | exact hs.cell (k := 2) rfl rfl | exact hs.cell (k := 3) rfl rfl | exact hs.cell (k := 4) rfl rfl | exact hs.cell (k := 5) rfl rfl) ?_
      first
        | refine s_storeW Tryd.sizeOf82 rfl rfl rfl rfl hs (kk := 0) rfl rfl ?_
        | refine s_storeW Tryd.sizeOf82 rfl rfl rfl rfl hs (kk := 1) rfl rfl ?_
        | refine s_storeW Tryd.sizeOf82 rfl rfl rfl rfl hs (kk := 2) rfl rfl ?_
        | refine s_storeW Tryd.sizeOf82 rfl rfl rfl rfl hs (kk := 3) rfl rfl ?_
        | refine s_storeW Tryd.sizeOf82 rfl rfl rfl rfl hs (kk := 4) rfl rfl ?_
        | refine s_storeW Tryd.sizeOf82 rfl rfl rfl rfl hs (kk := 5) rfl rfl ?_
        | refine s_storeAB Tryd.sizeOf82 rfl rfl rfl rfl hs (kk := 0) rfl rfl ?_
        | refine s_storeAB Tryd.sizeOf82 rfl rfl rfl rfl hs (kk := 1) rfl rfl ?_
        | refine s_storeAB Tryd.sizeOf82 rfl rfl rfl rfl hs (kk := 2) rfl rfl ?_
        | refine s_storeAB Tryd.sizeOf82 rfl rfl rfl rfl hs (kk := 3) rfl rfl ?_
        | refine s_storeAB Tryd.sizeOf82 rfl rfl rfl rfl hs (kk := 4) rfl rfl ?_
        | refine s_storeAB Tryd.sizeOf82 rfl rfl rfl rfl hs (kk := 5) rfl rfl ?_
      clear hs; intro w hs; try simp only [List.set_cons_zero, List.set_cons_succ, splice, List.take_succ_cons, List.take_zero, List.drop_succ_cons, List.drop_zero, List.nil_append, List.cons_append, List.length_cons, List.length_nil, Nat.reduceAdd, List.append_assoc] at hs
      first
        | refine s_storeW Tryd.sizeOf82 rfl rfl rfl rfl hs (kk := 0) rfl rfl ?_
        | refine s_storeW Tryd.sizeOf82 rfl rfl rfl rfl hs (kk := 1) rfl rfl ?_
        | refine s_storeW Tryd.sizeOf82 rfl rfl rfl rfl hs (kk := 2) rfl rfl ?_
        | refine s_storeW Tryd.sizeOf82 rfl rfl rfl rfl hs (kk := 3) rfl rfl ?_
        | refine s_storeW Tryd.sizeOf82 rfl rfl rfl rfl hs (kk := 4) rfl rfl ?_
        | refine s_storeW Tryd.sizeOf82 rfl rfl rfl rfl hs (kk := 5) rfl rfl ?_
        | refine s_storeAB Tryd.sizeOf82 rfl rfl rfl rfl hs (kk := 0) rfl rfl ?_
        | refine s_storeAB Tryd.sizeOf82 rfl rfl rfl rfl hs (kk := 1) rfl rfl ?_
        | refine s_storeAB Tryd.sizeOf82 rfl rfl rfl rfl hs (kk := 2) rfl rfl ?_
        | refine s_storeAB Tryd.sizeOf82 rfl rfl rfl rfl hs (kk := 3) rfl rfl ?_
        | refine s_storeAB Tryd.sizeOf82 rfl rfl rfl rfl hs (kk := 4) rfl rfl ?_
        | refine s_storeAB Tryd.sizeOf82 rfl rfl rfl rfl hs (kk := 5) rfl rfl ?_
      clear hs; intro w hs; try simp only [List.set_cons_zero, List.set_cons_succ, splice, List.take_succ_cons, List.take_zero, List.drop_succ_cons, List.drop_zero, List.nil_append, List.cons_append, List.length_cons, List.length_nil, Nat.reduceAdd, List.append_assoc] at hs
      refine WL_nil ?_
      refine n_blk ?_
      refine n_then ?_
      refine W_region ?_
      first | (refine s_add' rfl rfl rfl ?hx ?_; case hx => (constructor <;> first | omega | (simp only; omega))) | refine s_add rfl rfl rfl ?_
      refine s_move rfl rfl ?_
      refine WL_nil ?_
      refine n_loop ?_
      refine ⟨⟨i + 1, v', LR, Lc'⟩, ⟨rfl, rfl, rfl, rfl, rfl, rfl, trivial⟩, ⟨?_, hR, hO', by simp only; omega⟩, by simp only; omega⟩
      simp only; rw [hla, hbe]; exact hs.tail.tail.tail
  · skip
    simp only [decide_eq_true_eq, decide_eq_false_iff_not, Bool.not_eq_true', Bool.not_eq_false'] at hc32
    refine W_exit ?_
    refine x_then ?_
    refine x_then ?_
    refine exit_hit ?_
    refine n_then ?_
    refine W_seq ?_
    refine W_seq ?_
    refine W_region ?_
    refine s_move rfl rfl ?_
    have hib : i = cl.length := by omega
    rw [hib, List.take_of_length_le (Nat.le_refl _)] at hR hO
    replace hR : RbAt p (pk (encB cl)) (encB cl).length 0 LR := hR
    refine s_callL (M := [_, _]) (L1 := LR) (X := Lc) Tryd.call46 rfl rfl hs (fun h => bEnd_ok p _ _ _ LR w hR h) ?_
    rw [reV_end]
    clear hs; rintro v w L9 ⟨hL9, rfl⟩ - hs
    rw [hL9] at hs; clear hL9 L9
    simp only [List.cons_append, List.nil_append] at hs
    refine s_neq rfl rfl rfl ?_
    refine WL_nil ?_
    refine n_then ?_
    refine W_cond_kf rfl (rfl) ?_
    refine W_skip ?_
    refine n_then ?_
    refine W_seq ?_
    refine W_region ?_
    refine s_move rfl rfl ?_
    refine s_assign rfl rfl ?_
    refine s_assign rfl rfl ?_
    refine WL_nil ?_
    refine n_then ?_
    refine W_ret ?_
    exact end2 rfl rfl rfl ⟨v7, Lc, rfl, hO, St.right (M := LR) hs.tail.tail⟩
end Go.Proofs.YtgjjdlgbbgijgaaDoor

/- The reference's generator of claims. -/
namespace Go.Proofs.YtgjjdlgbbgijgaaDoor
open Go.SL
theorem wrap64 (z : Int) : isI64 (IntKind.i64.wrap z) := by
  unfold isI64; rw [wrapI64]; split <;> omega
theorem Cl.num_at (x : Cl) {i : Nat} (h : i < 4) : ([.int .i64 x.a, .int .i64 x.b, .int .i64 x.c, .int .i64 x.d] : List Value)[0 + ((i : Nat) : Int).toNat]? = some (.int .i64 (x.num i)) := by
  rw [Nat.zero_add, Int.toNat_natCast]
  match i, h with
  | 0, _ => rfl
  | 1, _ => rfl
  | 2, _ => rfl
  | 3, _ => rfl
theorem refEncodable_ok (x : Cl) (w0 : World) : Ret Tryd.prog 39 [.agg x.cells.toArray].toArray w0 fun r w' => Fwd [] w0 w' ∧ r = .bool (decide x.ok) := by
  refine Ret_start fun w hs => ?_
  refine Ret_of Tryd.func39 rfl Tryd.ntmps39 rfl ?_
  refine W_seq ?_
  refine W_region ?_
  first | refine s_box rfl rfl hs ?_ | refine s_box1 rfl rfl rfl hs ?_
  clear hs; intro b1 w hs
  refine s_assign rfl rfl ?_
  refine WL_nil ?_
  refine n_then ?_
  refine W_seq ?_
  refine W_region ?_
  refine s_fieldAddr rfl rfl (FA82_0 _ _) ?_
  first
    | refine s_load Tryd.isAgg3 rfl rfl (hs.cell (k := 0) rfl rfl) ?_
    | refine s_load Tryd.isAgg3 rfl rfl (hs.cell (k := 0) rfl (x.num_at (show i < 4 by omega))) ?_
  refine s_fieldAddr rfl rfl (FA82_1 _ _) ?_
  first
    | refine s_load Tryd.isAgg3 rfl rfl (hs.cell (k := 0) rfl rfl) ?_
    | refine s_load Tryd.isAgg3 rfl rfl (hs.cell (k := 0) rfl (x.num_at (show i < 4 by omega))) ?_
  refine s_fieldAddr rfl rfl (FA82_2 _ _) ?_
  first
    | refine s_load Tryd.isAgg3 rfl rfl (hs.cell (k := 0) rfl rfl) ?_
    | refine s_load Tryd.isAgg3 rfl rfl (hs.cell (k := 0) rfl (x.num_at (show i < 4 by omega))) ?_
  refine s_fieldAddr rfl rfl (FA82_3 _ _) ?_
  first
    | refine s_load Tryd.isAgg3 rfl rfl (hs.cell (k := 0) rfl rfl) ?_
    | refine s_load Tryd.isAgg3 rfl rfl (hs.cell (k := 0) rfl (x.num_at (show i < 4 by omega))) ?_
  refine s_buildSlice rfl rfl (BS22_4 _ _ _ _) hs ?_; clear hs; intro b13 w hs
  refine s_assign rfl rfl ?_
  refine WL_nil ?_
  refine n_then ?_
  refine W_seq ?_
  refine W_seq ?_
  refine W_region ?_
  refine s_assign rfl rfl ?_
  refine WL_nil ?_
  refine n_then ?_
  refine W_block ?_
  refine W_loop (σ := Nat) (fun s => [(3, .slice (some ⟨b13, 0, none⟩) 4 4), (4, .int .i64 (s : Int))]) (fun s w => St [] w0 w ((b13, Blk 3 [.int .i64 x.a, .int .i64 x.b, .int .i64 x.c, .int .i64 x.d]) :: [(b1, Blk 82 x.cells)]) ∧ s ≤ 4 ∧ ∀ j, j < s → inR (x.num j)) (fun s => 4 - s) 0 ⟨rfl, rfl, trivial⟩ ⟨hs, Nat.zero_le _, fun j hj => absurd hj (Nat.not_lt_zero _)⟩ ?_
  clear hs
  rintro i w ⟨hs, hi, hj⟩
  refine W_seq ?_
  refine W_seq ?_
  refine W_region ?_
  refine s_move rfl rfl ?_
  refine s_lss rfl rfl rfl ?_
  refine WL_nil ?_
  refine n_then ?_
  refine W_cond rfl (fun hc15 => ?_) (fun hc15 => ?_)
  · skip
    simp only [decide_eq_true_eq, decide_eq_false_iff_not] at hc15
    refine W_skip ?_
    refine n_then ?_
    refine W_seq ?_
    refine W_block ?_
    refine W_seq ?_
    refine W_region ?_
    refine s_move rfl rfl ?_
    refine s_move rfl rfl ?_
    (refine s_indexAddr1 El22 rfl rfl rfl ?hx ?_; case hx => (constructor <;> first | omega | (simp; omega)))
    first
      | refine s_load Tryd.isAgg3 rfl rfl (hs.cell (k := 0) rfl rfl) ?_
      | refine s_load Tryd.isAgg3 rfl rfl (hs.cell (k := 0) rfl (x.num_at (show i < 4 by omega))) ?_
    refine s_lss rfl rfl rfl ?_
    refine s_move rfl rfl ?_
    refine WL_case (s := 23) rfl (fun hg23 => ?_) (fun hg23 => ?_)
    · skip
      simp only [decide_eq_true_eq, decide_eq_false_iff_not] at hg23
      refine WL_skip rfl rfl rfl ?_
      refine WL_skip rfl rfl rfl ?_
      refine WL_skip rfl rfl rfl ?_
      refine WL_skip rfl rfl rfl ?_
      refine WL_skip rfl rfl rfl ?_
      refine s_pick_t rfl rfl rfl ?_
      refine WL_nil ?_
      refine n_then ?_
      refine W_cond_t rfl ?_
      refine W_seq ?_
      refine W_region ?_
      refine s_assign rfl rfl ?_
      refine WL_nil ?_
      refine n_then ?_
      refine W_ret ?_
      refine r_blk ?_
      refine r_then ?_
      refine r_then ?_
      refine r_blk ?_
      refine r_then ?_
      first
        | (refine end1 rfl rfl ⟨hs.tail.tail.fwd, ?_⟩
           have : x.ok := Cl.ok_num.2 fun j hj4 => hj j (by omega)
           rw [decide_eq_true this]; done)
        | (refine end1 rfl rfl ⟨hs.tail.tail.fwd, ?_⟩
           have : ¬ x.ok := fun h => by
             have := Cl.ok_num.1 h i (by omega)
             unfold inR at this; omega
           rw [decide_eq_false this])
    · skip
      simp only [decide_eq_true_eq, decide_eq_false_iff_not] at hg23
      refine WL_take rfl ?_
      refine s_move rfl rfl ?_
      refine WL_take rfl ?_
      refine s_move rfl rfl ?_
      refine WL_take rfl ?_
      (refine s_indexAddr1 El22 rfl rfl rfl ?hx ?_; case hx => (constructor <;> first | omega | (simp; omega)))
      refine WL_take rfl ?_
      first
        | refine s_load Tryd.isAgg3 rfl rfl (hs.cell (k := 0) rfl rfl) ?_
        | refine s_load Tryd.isAgg3 rfl rfl (hs.cell (k := 0) rfl (x.num_at (show i < 4 by omega))) ?_
      refine WL_take rfl ?_
      refine s_gtr rfl rfl rfl ?_
      refine s_pick_f rfl rfl rfl ?_
      refine WL_nil ?_
      refine n_then ?_
      refine W_cond rfl (fun hc29 => ?_) (fun hc29 => ?_)
      · skip
        simp only [decide_eq_true_eq, decide_eq_false_iff_not] at hc29
        refine W_seq ?_
        refine W_region ?_
        refine s_assign rfl rfl ?_
        refine WL_nil ?_
        refine n_then ?_
        refine W_ret ?_
        refine r_blk ?_
        refine r_then ?_
        refine r_then ?_
        refine r_blk ?_
        refine r_then ?_
        first
          | (refine end1 rfl rfl ⟨hs.tail.tail.fwd, ?_⟩
             have : x.ok := Cl.ok_num.2 fun j hj4 => hj j (by omega)
             rw [decide_eq_true this]; done)
          | (refine end1 rfl rfl ⟨hs.tail.tail.fwd, ?_⟩
             have : ¬ x.ok := fun h => by
               have := Cl.ok_num.1 h i (by omega)
               unfold inR at this; omega
             rw [decide_eq_false this])
      · skip
        simp only [decide_eq_true_eq, decide_eq_false_iff_not] at hc29
        refine W_skip ?_
        refine n_blk ?_
        refine n_then ?_
        refine W_region ?_
        refine s_move rfl rfl ?_
        first | (refine s_add' rfl rfl rfl ?hx ?_; case hx => (constructor <;> first | omega | (simp only; omega))) | refine s_add rfl rfl rfl ?_
        refine s_assign rfl rfl ?_
        refine WL_nil ?_
        refine n_loop ?_
        exact ⟨i + 1, ⟨rfl, rfl, trivial⟩, ⟨hs, by omega, fun j hji => by
          rcases Nat.lt_or_ge j i with h | h
          · exact hj j h
          · rw [show j = i by omega]; unfold inR; omega⟩, by omega⟩
  · skip
    simp only [decide_eq_true_eq, decide_eq_false_iff_not] at hc15
    refine W_exit ?_
    refine x_then ?_
    refine x_then ?_
    refine exit_hit ?_
    refine n_then ?_
    refine W_seq ?_
    refine W_region ?_
    refine s_assign rfl rfl ?_
    refine WL_nil ?_
    refine n_then ?_
    refine W_ret ?_
    first
      | (refine end1 rfl rfl ⟨hs.tail.tail.fwd, ?_⟩
         have : x.ok := Cl.ok_num.2 fun j hj4 => hj j (by omega)
         rw [decide_eq_true this]; done)
      | (refine end1 rfl rfl ⟨hs.tail.tail.fwd, ?_⟩
         have : ¬ x.ok := fun h => by
           have := Cl.ok_num.1 h i (by omega)
           unfold inR at this; omega
         rw [decide_eq_false this])
structure GcS where
  i : Nat
  v : Value
  x : Cl
  cl : List Cl
  Lc : Hp
set_option maxHeartbeats 2000000 in
theorem genClaims_ok (v : Value) (xs : List Int) (w0 : World) (hv : Sl w0 v xs.length (i64s xs)) (hx : ∀ z ∈ xs, isI64 z) (hl : xs.length ≤ 4611686018427387904) :
    Ret Tryd.prog 21 [v].toArray w0 fun r w' => ∃ cl Lr, OwnS 82 4 r cl.length (cls cl) Lr ∧ St [] w0 w' Lr ∧ (∀ x ∈ cl, x.ok) ∧ cl.length ≤ 9 := by
  obtain ⟨a, c, rfl, hc⟩ := hv.len_le
  refine Ret_start fun w hs => ?_
  refine Ret_of Tryd.func21 rfl Tryd.ntmps21 rfl ?_
  refine W_seq ?_
  refine W_region ?_
  refine s_assign rfl rfl ?_
  refine WL_nil ?_
  refine n_then ?_
  refine W_seq ?_
  refine W_region ?_
  refine s_assign rfl rfl ?_
  refine WL_nil ?_
  refine n_then ?_
  refine W_seq ?_
  refine W_region ?_
  refine s_build rfl rfl (BD82_ ) ?_
  refine s_alloc rfl AL82 hs ?_; clear hs; intro b4 w hs
  first
    | refine s_storeW Tryd.sizeOf82 rfl rfl rfl rfl hs (kk := 0) rfl rfl ?_
    | refine s_storeW Tryd.sizeOf82 rfl rfl rfl rfl hs (kk := 1) rfl rfl ?_
    | refine s_storeAB Tryd.sizeOf82 rfl rfl rfl rfl hs (kk := 0) rfl rfl ?_
    | refine s_storeAB Tryd.sizeOf82 rfl rfl rfl rfl hs (kk := 1) rfl rfl ?_
  clear hs; intro w hs; try simp only [List.set_cons_zero, List.set_cons_succ, splice, List.take_succ_cons, List.take_zero, List.drop_succ_cons, List.drop_zero, List.nil_append, List.cons_append, List.length_cons, List.length_nil, Nat.reduceAdd, List.append_assoc] at hs
  refine WL_nil ?_
  refine n_then ?_
  refine W_seq ?_
  refine W_seq ?_
  refine W_region ?_
  refine s_assign rfl rfl ?_
  refine WL_nil ?_
  refine n_then ?_
  refine W_block ?_
  refine W_loop (σ := GcS) (fun s => [(0, .slice a xs.length c), (3, s.v), (4, .pointer (some ⟨b4, 0, none⟩)), (5, .int .i64 (s.i : Int))])
    (fun s w => St [] w0 w ((b4, Blk 82 s.x.cells) :: s.Lc) ∧ OwnS 82 4 s.v s.cl.length (cls s.cl) s.Lc ∧ (∀ x ∈ s.cl, x.ok) ∧ s.cl.length ≤ 9 ∧ s.i ≤ xs.length) (fun s => xs.length - s.i) ⟨0, .slice none 0 0, .z, [], []⟩ ⟨rfl, rfl, rfl, rfl, trivial⟩ ⟨hs, OwnS.nil _ _, by simp, by simp, Nat.zero_le _⟩ ?_
  clear hs
  rintro ⟨i, v3, x, cl, Lc⟩ w ⟨hs, hO, hok, hcl, hi⟩
  simp only at hs hO hok hcl hi ⊢
  obtain ⟨_, c3, a3, rfl, hvl⟩ := hO.form
  subst hvl
  refine W_seq ?_
  refine W_seq ?_
  refine W_region ?_
  refine s_move rfl rfl ?_
  first | (refine s_add' rfl rfl rfl ?hx ?_; case hx => (constructor <;> first | omega | (simp only; omega))) | refine s_add rfl rfl rfl ?_
  refine s_move rfl rfl ?_
  refine s_len rfl rfl (LN22 _ _ _ _) ?_
  refine s_lss rfl rfl rfl ?_
  refine s_move rfl rfl ?_
  refine WL_case (s := 13) rfl (fun hg13 => ?_) (fun hg13 => ?_)
  · skip
    try simp only [decide_eq_true_eq, decide_eq_false_iff_not, beq_iff_eq, beq_eq_false_iff_ne, ne_eq] at hg13
    refine WL_take rfl ?_
    refine s_move rfl rfl ?_
    refine WL_take rfl ?_
    refine s_len rfl rfl (LN28 _ _ _ _) ?_
    refine WL_take rfl ?_
    refine s_lss rfl rfl rfl ?_
    refine s_pick_t rfl rfl rfl ?_
    refine WL_nil ?_
    refine n_then ?_
    refine W_cond rfl (fun hc17 => ?_) (fun hc17 => ?_)
    · skip
      try simp only [decide_eq_true_eq, decide_eq_false_iff_not, beq_iff_eq, beq_eq_false_iff_ne, ne_eq] at hc17
      have hi3 : i + 3 < xs.length := by omega
      have hmem : ∀ k, k < xs.length → isI64 (xs.getD k 0) := fun k hk => hx _ (by rw [List.getD_eq_getElem?_getD, List.getElem?_eq_getElem hk]; simp)
      obtain ⟨bx, ox, hA, -⟩ := hv.at (k := 0) (i64s_at' (show 0 < xs.length by omega))
      have hB : bx < w0.heap.size := by
        obtain ⟨b1, o1, h1, h2⟩ := hv.at (k := 0) (i64s_at' (show 0 < xs.length by omega))
        rw [hA] at h1; cases h1
        exact World.block_lt_of_cell? w0 _ h2
      have hcell : ∀ k, k < xs.length → w0.cell? ⟨bx, ox + ((k : Nat) : Int).toNat, none⟩ = some (.int .i64 (xs.getD k 0)) := fun k hk => by
        obtain ⟨b1, o1, h1, h2⟩ := hv.at (k := k) (i64s_at' hk)
        rw [hA] at h1; cases h1
        rw [Int.toNat_natCast]; exact h2
      have i1 : (i : Int) + 1 = ((i + 1 : Nat) : Int) := by omega
      have i2 : (i : Int) + 2 = ((i + 2 : Nat) : Int) := by omega
      have i3 : (i : Int) + 3 = ((i + 3 : Nat) : Int) := by omega
      refine W_skip ?_
      refine n_then ?_
      refine W_seq ?_
      refine W_block ?_
      refine W_seq ?_
      refine W_region ?_
      refine s_move rfl rfl ?_
      refine s_move rfl rfl ?_
      (refine s_indexAddrO El22 rfl rfl rfl hA ?hx ?_; case hx => (constructor <;> omega))
      first
        | refine s_load Tryd.isAgg3 rfl rfl (hs.cell (k := 0) rfl rfl) ?_
        | refine s_load Tryd.isAgg3 rfl rfl (hs.cell (k := 1) rfl rfl) ?_
        | refine s_load Tryd.isAgg3 rfl rfl ((hs.oldcell (a := ⟨bx, _, none⟩) hB (by simp)).trans (hcell i (by omega))) ?_
        | refine s_load Tryd.isAgg3 rfl rfl ((hs.oldcell (a := ⟨bx, _, none⟩) hB (by simp)).trans (hcell (i + 1) (by omega))) ?_
        | refine s_load Tryd.isAgg3 rfl rfl ((hs.oldcell (a := ⟨bx, _, none⟩) hB (by simp)).trans (hcell (i + 2) (by omega))) ?_
        | refine s_load Tryd.isAgg3 rfl rfl ((hs.oldcell (a := ⟨bx, _, none⟩) hB (by simp)).trans (hcell (i + 3) (by omega))) ?_
      (refine s_quo rfl rfl rfl ?hx ?_; case hx => omega)
      refine s_call Tryd.call11 rfl rfl (around_ok _ 38 w (by decide) (wrap64 _)) ?_
      rintro r w1 ⟨hw1, rfl⟩
      rw [hw1]; clear hw1 w1
      have hbig := aroundV_range (m := IntKind.i64.wrap ((xs.getD i 0).tdiv 8)) (q := 38) (by decide)
      generalize aroundV (IntKind.i64.wrap ((xs.getD i 0).tdiv 8)) 38 = big at hbig ⊢
      refine s_convert rfl rfl (CV3_64 _) ?_
      rw [IntWalk.u64_in _ (by omega)]
      refine s_assign rfl rfl ?_
      refine WL_nil ?_
      refine n_then ?_
      refine W_cut (σ := Cl) (fun _ => [(0, .slice a xs.length c), (3, .slice a3 cl.length c3), (4, .pointer (some ⟨b4, 0, none⟩)), (5, .int .i64 (i : Int))]) (fun y w => St [] w0 w ((b4, Blk 82 y.cells) :: Lc)) ?_ ?_
      · skip
        refine W_seq ?_
        refine W_region ?_
        refine s_move rfl rfl ?_
        refine s_move rfl rfl ?_
        (refine s_indexAddrO El22 rfl rfl rfl hA ?hx ?_; case hx => (constructor <;> omega))
        first
          | refine s_load Tryd.isAgg3 rfl rfl (hs.cell (k := 0) rfl rfl) ?_
          | refine s_load Tryd.isAgg3 rfl rfl (hs.cell (k := 1) rfl rfl) ?_
          | refine s_load Tryd.isAgg3 rfl rfl ((hs.oldcell (a := ⟨bx, _, none⟩) hB (by simp)).trans (hcell i (by omega))) ?_
          | refine s_load Tryd.isAgg3 rfl rfl ((hs.oldcell (a := ⟨bx, _, none⟩) hB (by simp)).trans (hcell (i + 1) (by omega))) ?_
          | refine s_load Tryd.isAgg3 rfl rfl ((hs.oldcell (a := ⟨bx, _, none⟩) hB (by simp)).trans (hcell (i + 2) (by omega))) ?_
          | refine s_load Tryd.isAgg3 rfl rfl ((hs.oldcell (a := ⟨bx, _, none⟩) hB (by simp)).trans (hcell (i + 3) (by omega))) ?_
        refine s_call Tryd.call11 rfl rfl (around_ok _ 8 w (by decide) (hmem i (by omega))) ?_
        rintro r w1 ⟨hw1, rfl⟩
        rw [hw1]; clear hw1 w1
        refine WL_nil ?_
        refine n_then ?_
        refine W_block ?_
        refine W_seq ?_
        refine W_region ?_
        refine s_eql rfl rfl rfl ?_
        refine s_assign rfl rfl ?_
        refine WL_nil ?_
        refine n_then ?_
        refine W_cond rfl (fun hc40 => ?_) (fun hc40 => ?_)
        · skip
          try simp only [decide_eq_true_eq, decide_eq_false_iff_not, beq_iff_eq, beq_eq_false_iff_ne, ne_eq] at hc40
          refine W_draw [(0, true, []), (1, true, []), (2, true, []), (3, true, []), (5, true, []), (6, true, []), (7, true, []), (8, true, []), (9, true, []), (11, true, []), (12, true, []), (13, true, []), (14, true, []), (15, true, []), (17, true, []), (18, true, []), (19, true, []), (20, true, []), (21, true, []), (4, false, [5, 6, 7, 8, 9, 11, 12, 13, 14, 15, 17, 18, 19, 20, 21]), (10, false, [11, 12, 13, 14, 15, 17, 18, 19, 20, 21]), (16, false, [17, 18, 19, 20, 21]), (22, false, []), (23, true, []), (24, false, [])] [[], [], [0, 1], [0, 1, 2], [0, 1, 2, 3], [], [], [6], [5, 6, 7], [5, 6, 7, 8], [0, 1, 2, 3, 4, 5, 6, 7, 8, 9], [], [], [12], [11, 12, 13], [11, 12, 13, 14], [0, 1, 2, 3, 4, 5, 6, 7, 8, 9, 10, 11, 12, 13, 14, 15], [], [], [18], [17, 18, 19], [17, 18, 19, 20], [0, 1, 2, 3, 4, 5, 6, 7, 8, 9, 10, 11, 12, 13, 14, 15, 16, 17, 18, 19, 20, 21], [0, 1, 2, 3, 4, 5, 6, 7, 8, 9, 10, 11, 12, 13, 14, 15, 16, 17, 18, 19, 20, 21, 22], [0, 1, 2, 3, 4, 5, 6, 7, 8, 9, 10, 11, 12, 13, 14, 15, 16, 17, 18, 19, 20, 21, 22, 23]] MX (by kernel_rfl) ?_
          intro w1 hw1 hw2 hw3 hw4; replace hs := hs.redrawn hw1 hw2 hw3 hw4; clear hw1 hw2 hw3 hw4
          obtain ⟨w, rfl⟩ : ∃ w : World, w = w1 := ⟨_, rfl⟩
          refine D_q rfl rfl ?_
          refine s_move rfl rfl ?_
          refine D_qn ?_
          refine D_q rfl rfl ?_
          refine s_move rfl rfl ?_
          refine D_qn ?_
          refine D_q rfl rfl ?_
          (refine s_indexAddrO El22 rfl rfl rfl hA ?hx ?_; case hx => (constructor <;> omega))
          refine D_qn ?_
          refine D_q rfl rfl ?_
          first
            | refine s_load Tryd.isAgg3 rfl rfl (hs.cell (k := 0) rfl rfl) ?_
            | refine s_load Tryd.isAgg3 rfl rfl (hs.cell (k := 1) rfl rfl) ?_
            | refine s_load Tryd.isAgg3 rfl rfl ((hs.oldcell (a := ⟨bx, _, none⟩) hB (by simp)).trans (hcell i (by omega))) ?_
            | refine s_load Tryd.isAgg3 rfl rfl ((hs.oldcell (a := ⟨bx, _, none⟩) hB (by simp)).trans (hcell (i + 1) (by omega))) ?_
            | refine s_load Tryd.isAgg3 rfl rfl ((hs.oldcell (a := ⟨bx, _, none⟩) hB (by simp)).trans (hcell (i + 2) (by omega))) ?_
            | refine s_load Tryd.isAgg3 rfl rfl ((hs.oldcell (a := ⟨bx, _, none⟩) hB (by simp)).trans (hcell (i + 3) (by omega))) ?_
          refine D_qn ?_
          refine D_q rfl rfl ?_
          refine s_move rfl rfl ?_
          refine D_qn ?_
          refine D_q rfl rfl ?_
          refine s_move rfl rfl ?_
          refine D_qn ?_
          refine D_q rfl rfl ?_
          (refine s_add' rfl rfl rfl ?hx ?_; case hx => (constructor <;> omega))
          rw [i1]
          refine D_qn ?_
          refine D_q rfl rfl ?_
          (refine s_indexAddrO El22 rfl rfl rfl hA ?hx ?_; case hx => (constructor <;> omega))
          refine D_qn ?_
          refine D_q rfl rfl ?_
          first
            | refine s_load Tryd.isAgg3 rfl rfl (hs.cell (k := 0) rfl rfl) ?_
            | refine s_load Tryd.isAgg3 rfl rfl (hs.cell (k := 1) rfl rfl) ?_
            | refine s_load Tryd.isAgg3 rfl rfl ((hs.oldcell (a := ⟨bx, _, none⟩) hB (by simp)).trans (hcell i (by omega))) ?_
            | refine s_load Tryd.isAgg3 rfl rfl ((hs.oldcell (a := ⟨bx, _, none⟩) hB (by simp)).trans (hcell (i + 1) (by omega))) ?_
            | refine s_load Tryd.isAgg3 rfl rfl ((hs.oldcell (a := ⟨bx, _, none⟩) hB (by simp)).trans (hcell (i + 2) (by omega))) ?_
            | refine s_load Tryd.isAgg3 rfl rfl ((hs.oldcell (a := ⟨bx, _, none⟩) hB (by simp)).trans (hcell (i + 3) (by omega))) ?_
          refine D_qn ?_
          refine D_q rfl rfl ?_
          refine s_move rfl rfl ?_
          refine D_qn ?_
          refine D_q rfl rfl ?_
          refine s_move rfl rfl ?_
          refine D_qn ?_
          refine D_q rfl rfl ?_
          (refine s_add' rfl rfl rfl ?hx ?_; case hx => (constructor <;> omega))
          rw [i2]
          refine D_qn ?_
          refine D_q rfl rfl ?_
          (refine s_indexAddrO El22 rfl rfl rfl hA ?hx ?_; case hx => (constructor <;> omega))
          refine D_qn ?_
          refine D_q rfl rfl ?_
          first
            | refine s_load Tryd.isAgg3 rfl rfl (hs.cell (k := 0) rfl rfl) ?_
            | refine s_load Tryd.isAgg3 rfl rfl (hs.cell (k := 1) rfl rfl) ?_
            | refine s_load Tryd.isAgg3 rfl rfl ((hs.oldcell (a := ⟨bx, _, none⟩) hB (by simp)).trans (hcell i (by omega))) ?_
            | refine s_load Tryd.isAgg3 rfl rfl ((hs.oldcell (a := ⟨bx, _, none⟩) hB (by simp)).trans (hcell (i + 1) (by omega))) ?_
            | refine s_load Tryd.isAgg3 rfl rfl ((hs.oldcell (a := ⟨bx, _, none⟩) hB (by simp)).trans (hcell (i + 2) (by omega))) ?_
            | refine s_load Tryd.isAgg3 rfl rfl ((hs.oldcell (a := ⟨bx, _, none⟩) hB (by simp)).trans (hcell (i + 3) (by omega))) ?_
          refine D_qn ?_
          refine D_q rfl rfl ?_
          refine s_move rfl rfl ?_
          refine D_qn ?_
          refine D_q rfl rfl ?_
          refine s_move rfl rfl ?_
          refine D_qn ?_
          refine D_q rfl rfl ?_
          (refine s_add' rfl rfl rfl ?hx ?_; case hx => (constructor <;> omega))
          rw [i3]
          refine D_qn ?_
          refine D_q rfl rfl ?_
          (refine s_indexAddrO El22 rfl rfl rfl hA ?hx ?_; case hx => (constructor <;> omega))
          refine D_qn ?_
          refine D_q rfl rfl ?_
          first
            | refine s_load Tryd.isAgg3 rfl rfl (hs.cell (k := 0) rfl rfl) ?_
            | refine s_load Tryd.isAgg3 rfl rfl (hs.cell (k := 1) rfl rfl) ?_
            | refine s_load Tryd.isAgg3 rfl rfl ((hs.oldcell (a := ⟨bx, _, none⟩) hB (by simp)).trans (hcell i (by omega))) ?_
            | refine s_load Tryd.isAgg3 rfl rfl ((hs.oldcell (a := ⟨bx, _, none⟩) hB (by simp)).trans (hcell (i + 1) (by omega))) ?_
            | refine s_load Tryd.isAgg3 rfl rfl ((hs.oldcell (a := ⟨bx, _, none⟩) hB (by simp)).trans (hcell (i + 2) (by omega))) ?_
            | refine s_load Tryd.isAgg3 rfl rfl ((hs.oldcell (a := ⟨bx, _, none⟩) hB (by simp)).trans (hcell (i + 3) (by omega))) ?_
          refine D_qn ?_
          refine D_e rfl ?_
          refine s_call Tryd.call38 rfl rfl (bound_ok _ 1099511627776 w (hmem i (by omega)) (by decide)) ?_
          rintro r w1 ⟨hw1, rfl⟩
          rw [hw1]; clear hw1 w1
          refine D_en ?re ?_
          case re =>
            refine Reks_cons rfl rfl rfl rfl ?_ ?_
            · skip
              refine s_move rfl rfl ?_
              exact Rek_end rfl
            refine Reks_cons rfl rfl rfl rfl ?_ ?_
            · skip
              refine s_move rfl rfl ?_
              exact Rek_end rfl
            refine Reks_cons rfl rfl rfl rfl ?_ ?_
            · skip
              (refine s_add' rfl rfl rfl ?hx ?_; case hx => (constructor <;> omega))
              rw [i1]
              exact Rek_end rfl
            refine Reks_cons rfl rfl rfl rfl ?_ ?_
            · skip
              (refine s_indexAddrO El22 rfl rfl rfl hA ?hx ?_; case hx => (constructor <;> omega))
              exact Rek_end rfl
            refine Reks_cons rfl rfl rfl rfl ?_ ?_
            · skip
              first
                | refine s_load Tryd.isAgg3 rfl rfl (hs.cell (k := 0) rfl rfl) ?_
                | refine s_load Tryd.isAgg3 rfl rfl (hs.cell (k := 1) rfl rfl) ?_
                | refine s_load Tryd.isAgg3 rfl rfl ((hs.oldcell (a := ⟨bx, _, none⟩) hB (by simp)).trans (hcell i (by omega))) ?_
                | refine s_load Tryd.isAgg3 rfl rfl ((hs.oldcell (a := ⟨bx, _, none⟩) hB (by simp)).trans (hcell (i + 1) (by omega))) ?_
                | refine s_load Tryd.isAgg3 rfl rfl ((hs.oldcell (a := ⟨bx, _, none⟩) hB (by simp)).trans (hcell (i + 2) (by omega))) ?_
                | refine s_load Tryd.isAgg3 rfl rfl ((hs.oldcell (a := ⟨bx, _, none⟩) hB (by simp)).trans (hcell (i + 3) (by omega))) ?_
              exact Rek_end rfl
            refine Reks_cons rfl rfl rfl rfl ?_ ?_
            · skip
              refine s_move rfl rfl ?_
              exact Rek_end rfl
            refine Reks_cons rfl rfl rfl rfl ?_ ?_
            · skip
              refine s_move rfl rfl ?_
              exact Rek_end rfl
            refine Reks_cons rfl rfl rfl rfl ?_ ?_
            · skip
              (refine s_add' rfl rfl rfl ?hx ?_; case hx => (constructor <;> omega))
              rw [i2]
              exact Rek_end rfl
            refine Reks_cons rfl rfl rfl rfl ?_ ?_
            · skip
              (refine s_indexAddrO El22 rfl rfl rfl hA ?hx ?_; case hx => (constructor <;> omega))
              exact Rek_end rfl
            refine Reks_cons rfl rfl rfl rfl ?_ ?_
            · skip
              first
                | refine s_load Tryd.isAgg3 rfl rfl (hs.cell (k := 0) rfl rfl) ?_
                | refine s_load Tryd.isAgg3 rfl rfl (hs.cell (k := 1) rfl rfl) ?_
                | refine s_load Tryd.isAgg3 rfl rfl ((hs.oldcell (a := ⟨bx, _, none⟩) hB (by simp)).trans (hcell i (by omega))) ?_
                | refine s_load Tryd.isAgg3 rfl rfl ((hs.oldcell (a := ⟨bx, _, none⟩) hB (by simp)).trans (hcell (i + 1) (by omega))) ?_
                | refine s_load Tryd.isAgg3 rfl rfl ((hs.oldcell (a := ⟨bx, _, none⟩) hB (by simp)).trans (hcell (i + 2) (by omega))) ?_
                | refine s_load Tryd.isAgg3 rfl rfl ((hs.oldcell (a := ⟨bx, _, none⟩) hB (by simp)).trans (hcell (i + 3) (by omega))) ?_
              exact Rek_end rfl
            refine Reks_cons rfl rfl rfl rfl ?_ ?_
            · skip
              refine s_move rfl rfl ?_
              exact Rek_end rfl
            refine Reks_cons rfl rfl rfl rfl ?_ ?_
            · skip
              refine s_move rfl rfl ?_
              exact Rek_end rfl
            refine Reks_cons rfl rfl rfl rfl ?_ ?_
            · skip
              (refine s_add' rfl rfl rfl ?hx ?_; case hx => (constructor <;> omega))
              rw [i3]
              exact Rek_end rfl
            refine Reks_cons rfl rfl rfl rfl ?_ ?_
            · skip
              (refine s_indexAddrO El22 rfl rfl rfl hA ?hx ?_; case hx => (constructor <;> omega))
              exact Rek_end rfl
            refine Reks_cons rfl rfl rfl rfl ?_ ?_
            · skip
              first
                | refine s_load Tryd.isAgg3 rfl rfl (hs.cell (k := 0) rfl rfl) ?_
                | refine s_load Tryd.isAgg3 rfl rfl (hs.cell (k := 1) rfl rfl) ?_
                | refine s_load Tryd.isAgg3 rfl rfl ((hs.oldcell (a := ⟨bx, _, none⟩) hB (by simp)).trans (hcell i (by omega))) ?_
                | refine s_load Tryd.isAgg3 rfl rfl ((hs.oldcell (a := ⟨bx, _, none⟩) hB (by simp)).trans (hcell (i + 1) (by omega))) ?_
                | refine s_load Tryd.isAgg3 rfl rfl ((hs.oldcell (a := ⟨bx, _, none⟩) hB (by simp)).trans (hcell (i + 2) (by omega))) ?_
                | refine s_load Tryd.isAgg3 rfl rfl ((hs.oldcell (a := ⟨bx, _, none⟩) hB (by simp)).trans (hcell (i + 3) (by omega))) ?_
              exact Rek_end rfl
            exact Reks_nil
          refine D_e rfl ?_
          refine s_call Tryd.call38 rfl rfl (bound_ok _ 1099511627776 w (hmem (i + 1) (by omega)) (by decide)) ?_
          rintro r w1 ⟨hw1, rfl⟩
          rw [hw1]; clear hw1 w1
          refine D_en ?re ?_
          case re =>
            refine Reks_cons rfl rfl rfl rfl ?_ ?_
            · skip
              refine s_move rfl rfl ?_
              exact Rek_end rfl
            refine Reks_cons rfl rfl rfl rfl ?_ ?_
            · skip
              refine s_move rfl rfl ?_
              exact Rek_end rfl
            refine Reks_cons rfl rfl rfl rfl ?_ ?_
            · skip
              (refine s_add' rfl rfl rfl ?hx ?_; case hx => (constructor <;> omega))
              rw [i2]
              exact Rek_end rfl
            refine Reks_cons rfl rfl rfl rfl ?_ ?_
            · skip
              (refine s_indexAddrO El22 rfl rfl rfl hA ?hx ?_; case hx => (constructor <;> omega))
              exact Rek_end rfl
            refine Reks_cons rfl rfl rfl rfl ?_ ?_
            · skip
              first
                | refine s_load Tryd.isAgg3 rfl rfl (hs.cell (k := 0) rfl rfl) ?_
                | refine s_load Tryd.isAgg3 rfl rfl (hs.cell (k := 1) rfl rfl) ?_
                | refine s_load Tryd.isAgg3 rfl rfl ((hs.oldcell (a := ⟨bx, _, none⟩) hB (by simp)).trans (hcell i (by omega))) ?_
                | refine s_load Tryd.isAgg3 rfl rfl ((hs.oldcell (a := ⟨bx, _, none⟩) hB (by simp)).trans (hcell (i + 1) (by omega))) ?_
                | refine s_load Tryd.isAgg3 rfl rfl ((hs.oldcell (a := ⟨bx, _, none⟩) hB (by simp)).trans (hcell (i + 2) (by omega))) ?_
                | refine s_load Tryd.isAgg3 rfl rfl ((hs.oldcell (a := ⟨bx, _, none⟩) hB (by simp)).trans (hcell (i + 3) (by omega))) ?_
              exact Rek_end rfl
            refine Reks_cons rfl rfl rfl rfl ?_ ?_
            · skip
              refine s_move rfl rfl ?_
              exact Rek_end rfl
            refine Reks_cons rfl rfl rfl rfl ?_ ?_
            · skip
              refine s_move rfl rfl ?_
              exact Rek_end rfl
            refine Reks_cons rfl rfl rfl rfl ?_ ?_
            · skip
              (refine s_add' rfl rfl rfl ?hx ?_; case hx => (constructor <;> omega))
              rw [i3]
              exact Rek_end rfl
            refine Reks_cons rfl rfl rfl rfl ?_ ?_
            · skip
              (refine s_indexAddrO El22 rfl rfl rfl hA ?hx ?_; case hx => (constructor <;> omega))
              exact Rek_end rfl
            refine Reks_cons rfl rfl rfl rfl ?_ ?_
            · skip
              first
                | refine s_load Tryd.isAgg3 rfl rfl (hs.cell (k := 0) rfl rfl) ?_
                | refine s_load Tryd.isAgg3 rfl rfl (hs.cell (k := 1) rfl rfl) ?_
                | refine s_load Tryd.isAgg3 rfl rfl ((hs.oldcell (a := ⟨bx, _, none⟩) hB (by simp)).trans (hcell i (by omega))) ?_
                | refine s_load Tryd.isAgg3 rfl rfl ((hs.oldcell (a := ⟨bx, _, none⟩) hB (by simp)).trans (hcell (i + 1) (by omega))) ?_
                | refine s_load Tryd.isAgg3 rfl rfl ((hs.oldcell (a := ⟨bx, _, none⟩) hB (by simp)).trans (hcell (i + 2) (by omega))) ?_
                | refine s_load Tryd.isAgg3 rfl rfl ((hs.oldcell (a := ⟨bx, _, none⟩) hB (by simp)).trans (hcell (i + 3) (by omega))) ?_
              exact Rek_end rfl
            exact Reks_nil
          refine D_e rfl ?_
          refine s_call Tryd.call38 rfl rfl (bound_ok _ 1099511627776 w (hmem (i + 2) (by omega)) (by decide)) ?_
          rintro r w1 ⟨hw1, rfl⟩
          rw [hw1]; clear hw1 w1
          refine D_en ?re ?_
          case re =>
            refine Reks_cons rfl rfl rfl rfl ?_ ?_
            · skip
              refine s_move rfl rfl ?_
              exact Rek_end rfl
            refine Reks_cons rfl rfl rfl rfl ?_ ?_
            · skip
              refine s_move rfl rfl ?_
              exact Rek_end rfl
            refine Reks_cons rfl rfl rfl rfl ?_ ?_
            · skip
              (refine s_add' rfl rfl rfl ?hx ?_; case hx => (constructor <;> omega))
              rw [i3]
              exact Rek_end rfl
            refine Reks_cons rfl rfl rfl rfl ?_ ?_
            · skip
              (refine s_indexAddrO El22 rfl rfl rfl hA ?hx ?_; case hx => (constructor <;> omega))
              exact Rek_end rfl
            refine Reks_cons rfl rfl rfl rfl ?_ ?_
            · skip
              first
                | refine s_load Tryd.isAgg3 rfl rfl (hs.cell (k := 0) rfl rfl) ?_
                | refine s_load Tryd.isAgg3 rfl rfl (hs.cell (k := 1) rfl rfl) ?_
                | refine s_load Tryd.isAgg3 rfl rfl ((hs.oldcell (a := ⟨bx, _, none⟩) hB (by simp)).trans (hcell i (by omega))) ?_
                | refine s_load Tryd.isAgg3 rfl rfl ((hs.oldcell (a := ⟨bx, _, none⟩) hB (by simp)).trans (hcell (i + 1) (by omega))) ?_
                | refine s_load Tryd.isAgg3 rfl rfl ((hs.oldcell (a := ⟨bx, _, none⟩) hB (by simp)).trans (hcell (i + 2) (by omega))) ?_
                | refine s_load Tryd.isAgg3 rfl rfl ((hs.oldcell (a := ⟨bx, _, none⟩) hB (by simp)).trans (hcell (i + 3) (by omega))) ?_
              exact Rek_end rfl
            exact Reks_nil
          refine D_e rfl ?_
          refine s_call Tryd.call38 rfl rfl (bound_ok _ 1099511627776 w (hmem (i + 3) (by omega)) (by decide)) ?_
          rintro r w1 ⟨hw1, rfl⟩
          rw [hw1]; clear hw1 w1
          refine D_en ?re ?_
          case re =>
            exact Reks_nil
          refine D_q rfl rfl ?_
          refine s_build rfl rfl (BD82_0_1_2_3 _ _ _ _) ?_
          refine D_qn ?_
          refine D_e rfl ?_
          first
            | refine s_storeW Tryd.sizeOf82 rfl rfl rfl rfl hs (kk := 0) rfl rfl ?_
            | refine s_storeW Tryd.sizeOf82 rfl rfl rfl rfl hs (kk := 1) rfl rfl ?_
            | refine s_storeAB Tryd.sizeOf82 rfl rfl rfl rfl hs (kk := 0) rfl rfl ?_
            | refine s_storeAB Tryd.sizeOf82 rfl rfl rfl rfl hs (kk := 1) rfl rfl ?_
          clear hs; intro w hs; try simp only [List.set_cons_zero, List.set_cons_succ, splice, List.take_succ_cons, List.take_zero, List.drop_succ_cons, List.drop_zero, List.nil_append, List.cons_append, List.length_cons, List.length_nil, Nat.reduceAdd, List.append_assoc] at hs
          refine D_en ?re ?_
          case re =>
            exact Reks_nil
          refine D_nil ?_
          refine n_blk ?_
          refine n_loop ?_
          exact ⟨⟨_, _, _, _⟩, ⟨rfl, rfl, rfl, rfl, trivial⟩, hs⟩
        · skip
          try simp only [decide_eq_true_eq, decide_eq_false_iff_not, beq_iff_eq, beq_eq_false_iff_ne, ne_eq] at hc40
          refine W_seq ?_
          refine W_region ?_
          refine s_eql rfl rfl rfl ?_
          refine s_assign rfl rfl ?_
          refine WL_nil ?_
          refine n_then ?_
          refine W_cond rfl (fun hc66 => ?_) (fun hc66 => ?_)
          · skip
            try simp only [decide_eq_true_eq, decide_eq_false_iff_not, beq_iff_eq, beq_eq_false_iff_ne, ne_eq] at hc66
            refine W_draw [(0, true, []), (1, true, []), (2, true, []), (3, true, []), (4, true, []), (5, true, []), (6, true, []), (7, true, []), (8, true, []), (11, true, []), (12, true, []), (13, true, []), (14, true, []), (15, true, []), (16, true, []), (17, true, []), (18, true, []), (9, false, [0, 1, 2, 3, 11, 12, 13, 14, 15, 16, 17, 18]), (10, true, []), (19, false, [0, 1, 2, 3, 11, 12, 13, 10]), (20, true, []), (21, false, [])] [[], [0], [], [2], [], [], [5], [4, 5, 6], [4, 5, 6, 7], [4, 5, 6, 7, 8], [2, 3, 4, 5, 6, 7, 8, 9], [], [11], [11, 12], [], [], [15], [14, 15, 16], [14, 15, 16, 17], [4, 5, 6, 7, 8, 9, 14, 15, 16, 17, 18], [0, 1, 2, 3, 4, 5, 6, 7, 8, 9, 10, 11, 12, 13, 14, 15, 16, 17, 18, 19], [0, 1, 2, 3, 4, 5, 6, 7, 8, 9, 10, 11, 12, 13, 14, 15, 16, 17, 18, 19, 20]] MX (by kernel_rfl) ?_
            intro w1 hw1 hw2 hw3 hw4; replace hs := hs.redrawn hw1 hw2 hw3 hw4; clear hw1 hw2 hw3 hw4
            obtain ⟨w, rfl⟩ : ∃ w : World, w = w1 := ⟨_, rfl⟩
            refine D_q rfl rfl ?_
            refine s_move rfl rfl ?_
            refine D_qn ?_
            refine D_q rfl rfl ?_
            (refine s_shl rfl rfl rfl ?hx ?_; case hx => omega)
            refine D_qn ?_
            refine D_q rfl rfl ?_
            refine s_move rfl rfl ?_
            refine D_qn ?_
            refine D_q rfl rfl ?_
            (refine s_shl rfl rfl rfl ?hx ?_; case hx => omega)
            refine D_qn ?_
            refine D_q rfl rfl ?_
            refine s_move rfl rfl ?_
            refine D_qn ?_
            refine D_q rfl rfl ?_
            refine s_move rfl rfl ?_
            refine D_qn ?_
            refine D_q rfl rfl ?_
            (refine s_add' rfl rfl rfl ?hx ?_; case hx => (constructor <;> omega))
            rw [i1]
            refine D_qn ?_
            refine D_q rfl rfl ?_
            (refine s_indexAddrO El22 rfl rfl rfl hA ?hx ?_; case hx => (constructor <;> omega))
            refine D_qn ?_
            refine D_q rfl rfl ?_
            first
              | refine s_load Tryd.isAgg3 rfl rfl (hs.cell (k := 0) rfl rfl) ?_
              | refine s_load Tryd.isAgg3 rfl rfl (hs.cell (k := 1) rfl rfl) ?_
              | refine s_load Tryd.isAgg3 rfl rfl ((hs.oldcell (a := ⟨bx, _, none⟩) hB (by simp)).trans (hcell i (by omega))) ?_
              | refine s_load Tryd.isAgg3 rfl rfl ((hs.oldcell (a := ⟨bx, _, none⟩) hB (by simp)).trans (hcell (i + 1) (by omega))) ?_
              | refine s_load Tryd.isAgg3 rfl rfl ((hs.oldcell (a := ⟨bx, _, none⟩) hB (by simp)).trans (hcell (i + 2) (by omega))) ?_
              | refine s_load Tryd.isAgg3 rfl rfl ((hs.oldcell (a := ⟨bx, _, none⟩) hB (by simp)).trans (hcell (i + 3) (by omega))) ?_
            refine D_qn ?_
            refine D_q rfl rfl ?_
            refine s_move rfl rfl ?_
            refine D_qn ?_
            refine D_q rfl rfl ?_
            (refine s_shl rfl rfl rfl ?hx ?_; case hx => omega)
            refine D_qn ?_
            refine D_q rfl rfl ?_
            first | (refine s_neg' rfl rfl ?hx ?_; case hx => omega) | refine s_neg rfl rfl ?_
            refine D_qn ?_
            refine D_q rfl rfl ?_
            refine s_move rfl rfl ?_
            refine D_qn ?_
            refine D_q rfl rfl ?_
            refine s_move rfl rfl ?_
            refine D_qn ?_
            refine D_q rfl rfl ?_
            (refine s_add' rfl rfl rfl ?hx ?_; case hx => (constructor <;> omega))
            rw [i3]
            refine D_qn ?_
            refine D_q rfl rfl ?_
            (refine s_indexAddrO El22 rfl rfl rfl hA ?hx ?_; case hx => (constructor <;> omega))
            refine D_qn ?_
            refine D_q rfl rfl ?_
            first
              | refine s_load Tryd.isAgg3 rfl rfl (hs.cell (k := 0) rfl rfl) ?_
              | refine s_load Tryd.isAgg3 rfl rfl (hs.cell (k := 1) rfl rfl) ?_
              | refine s_load Tryd.isAgg3 rfl rfl ((hs.oldcell (a := ⟨bx, _, none⟩) hB (by simp)).trans (hcell i (by omega))) ?_
              | refine s_load Tryd.isAgg3 rfl rfl ((hs.oldcell (a := ⟨bx, _, none⟩) hB (by simp)).trans (hcell (i + 1) (by omega))) ?_
              | refine s_load Tryd.isAgg3 rfl rfl ((hs.oldcell (a := ⟨bx, _, none⟩) hB (by simp)).trans (hcell (i + 2) (by omega))) ?_
              | refine s_load Tryd.isAgg3 rfl rfl ((hs.oldcell (a := ⟨bx, _, none⟩) hB (by simp)).trans (hcell (i + 3) (by omega))) ?_
            refine D_qn ?_
            refine D_e rfl ?_
            refine s_call Tryd.call11 rfl rfl (around_ok _ 40 w (by decide) (hmem (i + 1) (by omega))) ?_
            rintro r w1 ⟨hw1, rfl⟩
            rw [hw1]; clear hw1 w1
            refine D_en ?re ?_
            case re =>
              refine Reks_cons rfl rfl rfl rfl ?_ ?_
              · skip
                refine s_move rfl rfl ?_
                exact Rek_end rfl
              refine Reks_cons rfl rfl rfl rfl ?_ ?_
              · skip
                (refine s_shl rfl rfl rfl ?hx ?_; case hx => omega)
                exact Rek_end rfl
              refine Reks_cons rfl rfl rfl rfl ?_ ?_
              · skip
                refine s_move rfl rfl ?_
                exact Rek_end rfl
              refine Reks_cons rfl rfl rfl rfl ?_ ?_
              · skip
                (refine s_shl rfl rfl rfl ?hx ?_; case hx => omega)
                exact Rek_end rfl
              refine Reks_cons rfl rfl rfl rfl ?_ ?_
              · skip
                refine s_move rfl rfl ?_
                exact Rek_end rfl
              refine Reks_cons rfl rfl rfl rfl ?_ ?_
              · skip
                (refine s_shl rfl rfl rfl ?hx ?_; case hx => omega)
                exact Rek_end rfl
              refine Reks_cons rfl rfl rfl rfl ?_ ?_
              · skip
                first | (refine s_neg' rfl rfl ?hx ?_; case hx => omega) | refine s_neg rfl rfl ?_
                exact Rek_end rfl
              refine Reks_cons rfl rfl rfl rfl ?_ ?_
              · skip
                refine s_move rfl rfl ?_
                exact Rek_end rfl
              refine Reks_cons rfl rfl rfl rfl ?_ ?_
              · skip
                refine s_move rfl rfl ?_
                exact Rek_end rfl
              refine Reks_cons rfl rfl rfl rfl ?_ ?_
              · skip
                (refine s_add' rfl rfl rfl ?hx ?_; case hx => (constructor <;> omega))
                rw [i3]
                exact Rek_end rfl
              refine Reks_cons rfl rfl rfl rfl ?_ ?_
              · skip
                (refine s_indexAddrO El22 rfl rfl rfl hA ?hx ?_; case hx => (constructor <;> omega))
                exact Rek_end rfl
              refine Reks_cons rfl rfl rfl rfl ?_ ?_
              · skip
                first
                  | refine s_load Tryd.isAgg3 rfl rfl (hs.cell (k := 0) rfl rfl) ?_
                  | refine s_load Tryd.isAgg3 rfl rfl (hs.cell (k := 1) rfl rfl) ?_
                  | refine s_load Tryd.isAgg3 rfl rfl ((hs.oldcell (a := ⟨bx, _, none⟩) hB (by simp)).trans (hcell i (by omega))) ?_
                  | refine s_load Tryd.isAgg3 rfl rfl ((hs.oldcell (a := ⟨bx, _, none⟩) hB (by simp)).trans (hcell (i + 1) (by omega))) ?_
                  | refine s_load Tryd.isAgg3 rfl rfl ((hs.oldcell (a := ⟨bx, _, none⟩) hB (by simp)).trans (hcell (i + 2) (by omega))) ?_
                  | refine s_load Tryd.isAgg3 rfl rfl ((hs.oldcell (a := ⟨bx, _, none⟩) hB (by simp)).trans (hcell (i + 3) (by omega))) ?_
                exact Rek_end rfl
              exact Reks_nil
            refine D_q rfl rfl ?_
            refine s_add rfl rfl rfl ?_
            refine D_qn ?_
            refine D_e rfl ?_
            refine s_call Tryd.call38 rfl rfl (bound_ok _ 300 w (hmem (i + 3) (by omega)) (by decide)) ?_
            rintro r w1 ⟨hw1, rfl⟩
            rw [hw1]; clear hw1 w1
            refine D_en ?re ?_
            case re =>
              refine Reks_cons rfl rfl rfl rfl ?_ ?_
              · skip
                refine s_move rfl rfl ?_
                exact Rek_end rfl
              refine Reks_cons rfl rfl rfl rfl ?_ ?_
              · skip
                (refine s_shl rfl rfl rfl ?hx ?_; case hx => omega)
                exact Rek_end rfl
              refine Reks_cons rfl rfl rfl rfl ?_ ?_
              · skip
                refine s_move rfl rfl ?_
                exact Rek_end rfl
              refine Reks_cons rfl rfl rfl rfl ?_ ?_
              · skip
                (refine s_shl rfl rfl rfl ?hx ?_; case hx => omega)
                exact Rek_end rfl
              refine Reks_cons rfl rfl rfl rfl ?_ ?_
              · skip
                refine s_move rfl rfl ?_
                exact Rek_end rfl
              refine Reks_cons rfl rfl rfl rfl ?_ ?_
              · skip
                (refine s_shl rfl rfl rfl ?hx ?_; case hx => omega)
                exact Rek_end rfl
              refine Reks_cons rfl rfl rfl rfl ?_ ?_
              · skip
                first | (refine s_neg' rfl rfl ?hx ?_; case hx => omega) | refine s_neg rfl rfl ?_
                exact Rek_end rfl
              refine Reks_cons rfl rfl rfl rfl ?_ ?_
              · skip
                refine s_add rfl rfl rfl ?_
                exact Rek_end rfl
              exact Reks_nil
            refine D_q rfl rfl ?_
            refine s_build rfl rfl (BD82_0_1_2_3 _ _ _ _) ?_
            refine D_qn ?_
            refine D_e rfl ?_
            first
              | refine s_storeW Tryd.sizeOf82 rfl rfl rfl rfl hs (kk := 0) rfl rfl ?_
              | refine s_storeW Tryd.sizeOf82 rfl rfl rfl rfl hs (kk := 1) rfl rfl ?_
              | refine s_storeAB Tryd.sizeOf82 rfl rfl rfl rfl hs (kk := 0) rfl rfl ?_
              | refine s_storeAB Tryd.sizeOf82 rfl rfl rfl rfl hs (kk := 1) rfl rfl ?_
            clear hs; intro w hs; try simp only [List.set_cons_zero, List.set_cons_succ, splice, List.take_succ_cons, List.take_zero, List.drop_succ_cons, List.drop_zero, List.nil_append, List.cons_append, List.length_cons, List.length_nil, Nat.reduceAdd, List.append_assoc] at hs
            refine D_en ?re ?_
            case re =>
              exact Reks_nil
            refine D_nil ?_
            refine n_blk ?_
            refine n_loop ?_
            exact ⟨⟨_, _, _, _⟩, ⟨rfl, rfl, rfl, rfl, trivial⟩, hs⟩
          · skip
            try simp only [decide_eq_true_eq, decide_eq_false_iff_not, beq_iff_eq, beq_eq_false_iff_ne, ne_eq] at hc66
            refine W_seq ?_
            refine W_seq ?_
            refine W_region ?_
            refine s_eql rfl rfl rfl ?_
            refine s_assign rfl rfl ?_
            refine WL_nil ?_
            refine n_then ?_
            refine W_cond rfl (fun hc89 => ?_) (fun hc89 => ?_)
            · skip
              try simp only [decide_eq_true_eq, decide_eq_false_iff_not, beq_iff_eq, beq_eq_false_iff_ne, ne_eq] at hc89
              refine W_skip ?_
              refine n_then ?_
              refine W_cond rfl (fun hc89 => ?_) (fun hc89 => ?_)
              · skip
                try simp only [decide_eq_true_eq, decide_eq_false_iff_not, beq_iff_eq, beq_eq_false_iff_ne, ne_eq] at hc89
                refine W_seq ?_
                refine W_draw [(0, true, []), (1, true, []), (2, true, []), (3, true, []), (4, true, []), (5, true, []), (6, true, []), (7, false, [0, 1]), (8, true, []), (9, true, []), (10, false, [])] [[], [0], [], [], [3], [2, 3, 4], [2, 3, 4, 5], [2, 3, 4, 5, 6], [0, 1, 2, 3, 4, 5, 6, 7], [0, 1, 2, 3, 4, 5, 6, 7, 8], [0, 1, 2, 3, 4, 5, 6, 7, 8, 9]] MX (by kernel_rfl) ?_
                intro w1 hw1 hw2 hw3 hw4; replace hs := hs.redrawn hw1 hw2 hw3 hw4; clear hw1 hw2 hw3 hw4
                obtain ⟨w, rfl⟩ : ∃ w : World, w = w1 := ⟨_, rfl⟩
                refine D_q rfl rfl ?_
                refine s_fieldAddr rfl rfl (FA82_0 _ _) ?_
                refine D_qn ?_
                refine D_q rfl rfl ?_
                first
                  | refine s_load Tryd.isAgg3 rfl rfl (hs.cell (k := 0) rfl rfl) ?_
                  | refine s_load Tryd.isAgg3 rfl rfl (hs.cell (k := 1) rfl rfl) ?_
                  | refine s_load Tryd.isAgg3 rfl rfl ((hs.oldcell (a := ⟨bx, _, none⟩) hB (by simp)).trans (hcell i (by omega))) ?_
                  | refine s_load Tryd.isAgg3 rfl rfl ((hs.oldcell (a := ⟨bx, _, none⟩) hB (by simp)).trans (hcell (i + 1) (by omega))) ?_
                  | refine s_load Tryd.isAgg3 rfl rfl ((hs.oldcell (a := ⟨bx, _, none⟩) hB (by simp)).trans (hcell (i + 2) (by omega))) ?_
                  | refine s_load Tryd.isAgg3 rfl rfl ((hs.oldcell (a := ⟨bx, _, none⟩) hB (by simp)).trans (hcell (i + 3) (by omega))) ?_
                refine D_qn ?_
                refine D_q rfl rfl ?_
                refine s_move rfl rfl ?_
                refine D_qn ?_
                refine D_q rfl rfl ?_
                refine s_move rfl rfl ?_
                refine D_qn ?_
                refine D_q rfl rfl ?_
                (refine s_add' rfl rfl rfl ?hx ?_; case hx => (constructor <;> omega))
                rw [i1]
                refine D_qn ?_
                refine D_q rfl rfl ?_
                (refine s_indexAddrO El22 rfl rfl rfl hA ?hx ?_; case hx => (constructor <;> omega))
                refine D_qn ?_
                refine D_q rfl rfl ?_
                first
                  | refine s_load Tryd.isAgg3 rfl rfl (hs.cell (k := 0) rfl rfl) ?_
                  | refine s_load Tryd.isAgg3 rfl rfl (hs.cell (k := 1) rfl rfl) ?_
                  | refine s_load Tryd.isAgg3 rfl rfl ((hs.oldcell (a := ⟨bx, _, none⟩) hB (by simp)).trans (hcell i (by omega))) ?_
                  | refine s_load Tryd.isAgg3 rfl rfl ((hs.oldcell (a := ⟨bx, _, none⟩) hB (by simp)).trans (hcell (i + 1) (by omega))) ?_
                  | refine s_load Tryd.isAgg3 rfl rfl ((hs.oldcell (a := ⟨bx, _, none⟩) hB (by simp)).trans (hcell (i + 2) (by omega))) ?_
                  | refine s_load Tryd.isAgg3 rfl rfl ((hs.oldcell (a := ⟨bx, _, none⟩) hB (by simp)).trans (hcell (i + 3) (by omega))) ?_
                refine D_qn ?_
                refine D_e rfl ?_
                refine s_call Tryd.call11 rfl rfl (around_ok _ 20 w (by decide) (hmem (i + 1) (by omega))) ?_
                rintro r w1 ⟨hw1, rfl⟩
                rw [hw1]; clear hw1 w1
                refine D_en ?re ?_
                case re =>
                  refine Reks_cons rfl rfl rfl rfl ?_ ?_
                  · skip
                    refine s_fieldAddr rfl rfl (FA82_0 _ _) ?_
                    exact Rek_end rfl
                  refine Reks_cons rfl rfl rfl rfl ?_ ?_
                  · skip
                    first
                      | refine s_load Tryd.isAgg3 rfl rfl (hs.cell (k := 0) rfl rfl) ?_
                      | refine s_load Tryd.isAgg3 rfl rfl (hs.cell (k := 1) rfl rfl) ?_
                      | refine s_load Tryd.isAgg3 rfl rfl ((hs.oldcell (a := ⟨bx, _, none⟩) hB (by simp)).trans (hcell i (by omega))) ?_
                      | refine s_load Tryd.isAgg3 rfl rfl ((hs.oldcell (a := ⟨bx, _, none⟩) hB (by simp)).trans (hcell (i + 1) (by omega))) ?_
                      | refine s_load Tryd.isAgg3 rfl rfl ((hs.oldcell (a := ⟨bx, _, none⟩) hB (by simp)).trans (hcell (i + 2) (by omega))) ?_
                      | refine s_load Tryd.isAgg3 rfl rfl ((hs.oldcell (a := ⟨bx, _, none⟩) hB (by simp)).trans (hcell (i + 3) (by omega))) ?_
                    exact Rek_end rfl
                  exact Reks_nil
                refine D_q rfl rfl ?_
                refine s_add rfl rfl rfl ?_
                refine D_qn ?_
                refine D_q rfl rfl ?_
                refine s_fieldAddr rfl rfl (FA82_0 _ _) ?_
                refine D_qn ?_
                refine D_e rfl ?_
                first
                  | refine s_storeB Tryd.sizeOf3 rfl rfl rfl hs (kk := 0) rfl rfl ?_
                  | refine s_storeB Tryd.sizeOf3 rfl rfl rfl hs (kk := 1) rfl rfl ?_
                clear hs; intro w hs; try simp only [List.set_cons_zero, List.set_cons_succ, splice, List.take_succ_cons, List.take_zero, List.drop_succ_cons, List.drop_zero, List.nil_append, List.cons_append, List.length_cons, List.length_nil, Nat.reduceAdd, List.append_assoc] at hs
                refine D_en ?re ?_
                case re =>
                  exact Reks_nil
                refine D_nil ?_
                refine n_then ?_
                refine W_seq ?_
                refine W_draw [(0, true, []), (1, true, []), (2, true, []), (3, true, []), (4, true, []), (5, true, []), (6, true, []), (7, false, [0, 1]), (8, true, []), (9, true, []), (10, false, [])] [[], [0], [], [], [3], [2, 3, 4], [2, 3, 4, 5], [2, 3, 4, 5, 6], [0, 1, 2, 3, 4, 5, 6, 7], [0, 1, 2, 3, 4, 5, 6, 7, 8], [0, 1, 2, 3, 4, 5, 6, 7, 8, 9]] MX (by kernel_rfl) ?_
                intro w1 hw1 hw2 hw3 hw4; replace hs := hs.redrawn hw1 hw2 hw3 hw4; clear hw1 hw2 hw3 hw4
                obtain ⟨w, rfl⟩ : ∃ w : World, w = w1 := ⟨_, rfl⟩
                refine D_q rfl rfl ?_
                refine s_fieldAddr rfl rfl (FA82_0 _ _) ?_
                refine D_qn ?_
                refine D_q rfl rfl ?_
                first
                  | refine s_load Tryd.isAgg3 rfl rfl (hs.cell (k := 0) rfl rfl) ?_
                  | refine s_load Tryd.isAgg3 rfl rfl (hs.cell (k := 1) rfl rfl) ?_
                  | refine s_load Tryd.isAgg3 rfl rfl ((hs.oldcell (a := ⟨bx, _, none⟩) hB (by simp)).trans (hcell i (by omega))) ?_
                  | refine s_load Tryd.isAgg3 rfl rfl ((hs.oldcell (a := ⟨bx, _, none⟩) hB (by simp)).trans (hcell (i + 1) (by omega))) ?_
                  | refine s_load Tryd.isAgg3 rfl rfl ((hs.oldcell (a := ⟨bx, _, none⟩) hB (by simp)).trans (hcell (i + 2) (by omega))) ?_
                  | refine s_load Tryd.isAgg3 rfl rfl ((hs.oldcell (a := ⟨bx, _, none⟩) hB (by simp)).trans (hcell (i + 3) (by omega))) ?_
                refine D_qn ?_
                refine D_q rfl rfl ?_
                refine s_move rfl rfl ?_
                refine D_qn ?_
                refine D_q rfl rfl ?_
                refine s_move rfl rfl ?_
                refine D_qn ?_
                refine D_q rfl rfl ?_
                (refine s_add' rfl rfl rfl ?hx ?_; case hx => (constructor <;> omega))
                rw [i2]
                refine D_qn ?_
                refine D_q rfl rfl ?_
                (refine s_indexAddrO El22 rfl rfl rfl hA ?hx ?_; case hx => (constructor <;> omega))
                refine D_qn ?_
                refine D_q rfl rfl ?_
                first
                  | refine s_load Tryd.isAgg3 rfl rfl (hs.cell (k := 0) rfl rfl) ?_
                  | refine s_load Tryd.isAgg3 rfl rfl (hs.cell (k := 1) rfl rfl) ?_
                  | refine s_load Tryd.isAgg3 rfl rfl ((hs.oldcell (a := ⟨bx, _, none⟩) hB (by simp)).trans (hcell i (by omega))) ?_
                  | refine s_load Tryd.isAgg3 rfl rfl ((hs.oldcell (a := ⟨bx, _, none⟩) hB (by simp)).trans (hcell (i + 1) (by omega))) ?_
                  | refine s_load Tryd.isAgg3 rfl rfl ((hs.oldcell (a := ⟨bx, _, none⟩) hB (by simp)).trans (hcell (i + 2) (by omega))) ?_
                  | refine s_load Tryd.isAgg3 rfl rfl ((hs.oldcell (a := ⟨bx, _, none⟩) hB (by simp)).trans (hcell (i + 3) (by omega))) ?_
                refine D_qn ?_
                refine D_e rfl ?_
                refine s_call Tryd.call11 rfl rfl (around_ok _ 3 w (by decide) (hmem (i + 2) (by omega))) ?_
                rintro r w1 ⟨hw1, rfl⟩
                rw [hw1]; clear hw1 w1
                refine D_en ?re ?_
                case re =>
                  refine Reks_cons rfl rfl rfl rfl ?_ ?_
                  · skip
                    refine s_fieldAddr rfl rfl (FA82_0 _ _) ?_
                    exact Rek_end rfl
                  refine Reks_cons rfl rfl rfl rfl ?_ ?_
                  · skip
                    first
                      | refine s_load Tryd.isAgg3 rfl rfl (hs.cell (k := 0) rfl rfl) ?_
                      | refine s_load Tryd.isAgg3 rfl rfl (hs.cell (k := 1) rfl rfl) ?_
                      | refine s_load Tryd.isAgg3 rfl rfl ((hs.oldcell (a := ⟨bx, _, none⟩) hB (by simp)).trans (hcell i (by omega))) ?_
                      | refine s_load Tryd.isAgg3 rfl rfl ((hs.oldcell (a := ⟨bx, _, none⟩) hB (by simp)).trans (hcell (i + 1) (by omega))) ?_
                      | refine s_load Tryd.isAgg3 rfl rfl ((hs.oldcell (a := ⟨bx, _, none⟩) hB (by simp)).trans (hcell (i + 2) (by omega))) ?_
                      | refine s_load Tryd.isAgg3 rfl rfl ((hs.oldcell (a := ⟨bx, _, none⟩) hB (by simp)).trans (hcell (i + 3) (by omega))) ?_
                    exact Rek_end rfl
                  exact Reks_nil
                refine D_q rfl rfl ?_
                refine s_add rfl rfl rfl ?_
                refine D_qn ?_
                refine D_q rfl rfl ?_
                refine s_fieldAddr rfl rfl (FA82_1 _ _) ?_
                refine D_qn ?_
                refine D_e rfl ?_
                first
                  | refine s_storeB Tryd.sizeOf3 rfl rfl rfl hs (kk := 0) rfl rfl ?_
                  | refine s_storeB Tryd.sizeOf3 rfl rfl rfl hs (kk := 1) rfl rfl ?_
                clear hs; intro w hs; try simp only [List.set_cons_zero, List.set_cons_succ, splice, List.take_succ_cons, List.take_zero, List.drop_succ_cons, List.drop_zero, List.nil_append, List.cons_append, List.length_cons, List.length_nil, Nat.reduceAdd, List.append_assoc] at hs
                refine D_en ?re ?_
                case re =>
                  exact Reks_nil
                refine D_nil ?_
                refine n_then ?_
                refine W_draw [(0, true, []), (1, true, []), (2, true, []), (3, true, []), (4, true, []), (5, true, []), (6, true, []), (7, false, [0, 1]), (8, true, []), (9, true, []), (10, false, [])] [[], [0], [], [], [3], [2, 3, 4], [2, 3, 4, 5], [2, 3, 4, 5, 6], [0, 1, 2, 3, 4, 5, 6, 7], [0, 1, 2, 3, 4, 5, 6, 7, 8], [0, 1, 2, 3, 4, 5, 6, 7, 8, 9]] MX (by kernel_rfl) ?_
                intro w1 hw1 hw2 hw3 hw4; replace hs := hs.redrawn hw1 hw2 hw3 hw4; clear hw1 hw2 hw3 hw4
                obtain ⟨w, rfl⟩ : ∃ w : World, w = w1 := ⟨_, rfl⟩
                refine D_q rfl rfl ?_
                refine s_fieldAddr rfl rfl (FA82_2 _ _) ?_
                refine D_qn ?_
                refine D_q rfl rfl ?_
                first
                  | refine s_load Tryd.isAgg3 rfl rfl (hs.cell (k := 0) rfl rfl) ?_
                  | refine s_load Tryd.isAgg3 rfl rfl (hs.cell (k := 1) rfl rfl) ?_
                  | refine s_load Tryd.isAgg3 rfl rfl ((hs.oldcell (a := ⟨bx, _, none⟩) hB (by simp)).trans (hcell i (by omega))) ?_
                  | refine s_load Tryd.isAgg3 rfl rfl ((hs.oldcell (a := ⟨bx, _, none⟩) hB (by simp)).trans (hcell (i + 1) (by omega))) ?_
                  | refine s_load Tryd.isAgg3 rfl rfl ((hs.oldcell (a := ⟨bx, _, none⟩) hB (by simp)).trans (hcell (i + 2) (by omega))) ?_
                  | refine s_load Tryd.isAgg3 rfl rfl ((hs.oldcell (a := ⟨bx, _, none⟩) hB (by simp)).trans (hcell (i + 3) (by omega))) ?_
                refine D_qn ?_
                refine D_q rfl rfl ?_
                refine s_move rfl rfl ?_
                refine D_qn ?_
                refine D_q rfl rfl ?_
                refine s_move rfl rfl ?_
                refine D_qn ?_
                refine D_q rfl rfl ?_
                (refine s_add' rfl rfl rfl ?hx ?_; case hx => (constructor <;> omega))
                rw [i3]
                refine D_qn ?_
                refine D_q rfl rfl ?_
                (refine s_indexAddrO El22 rfl rfl rfl hA ?hx ?_; case hx => (constructor <;> omega))
                refine D_qn ?_
                refine D_q rfl rfl ?_
                first
                  | refine s_load Tryd.isAgg3 rfl rfl (hs.cell (k := 0) rfl rfl) ?_
                  | refine s_load Tryd.isAgg3 rfl rfl (hs.cell (k := 1) rfl rfl) ?_
                  | refine s_load Tryd.isAgg3 rfl rfl ((hs.oldcell (a := ⟨bx, _, none⟩) hB (by simp)).trans (hcell i (by omega))) ?_
                  | refine s_load Tryd.isAgg3 rfl rfl ((hs.oldcell (a := ⟨bx, _, none⟩) hB (by simp)).trans (hcell (i + 1) (by omega))) ?_
                  | refine s_load Tryd.isAgg3 rfl rfl ((hs.oldcell (a := ⟨bx, _, none⟩) hB (by simp)).trans (hcell (i + 2) (by omega))) ?_
                  | refine s_load Tryd.isAgg3 rfl rfl ((hs.oldcell (a := ⟨bx, _, none⟩) hB (by simp)).trans (hcell (i + 3) (by omega))) ?_
                refine D_qn ?_
                refine D_e rfl ?_
                refine s_call Tryd.call11 rfl rfl (around_ok _ 9 w (by decide) (hmem (i + 3) (by omega))) ?_
                rintro r w1 ⟨hw1, rfl⟩
                rw [hw1]; clear hw1 w1
                refine D_en ?re ?_
                case re =>
                  refine Reks_cons rfl rfl rfl rfl ?_ ?_
                  · skip
                    refine s_fieldAddr rfl rfl (FA82_2 _ _) ?_
                    exact Rek_end rfl
                  refine Reks_cons rfl rfl rfl rfl ?_ ?_
                  · skip
                    first
                      | refine s_load Tryd.isAgg3 rfl rfl (hs.cell (k := 0) rfl rfl) ?_
                      | refine s_load Tryd.isAgg3 rfl rfl (hs.cell (k := 1) rfl rfl) ?_
                      | refine s_load Tryd.isAgg3 rfl rfl ((hs.oldcell (a := ⟨bx, _, none⟩) hB (by simp)).trans (hcell i (by omega))) ?_
                      | refine s_load Tryd.isAgg3 rfl rfl ((hs.oldcell (a := ⟨bx, _, none⟩) hB (by simp)).trans (hcell (i + 1) (by omega))) ?_
                      | refine s_load Tryd.isAgg3 rfl rfl ((hs.oldcell (a := ⟨bx, _, none⟩) hB (by simp)).trans (hcell (i + 2) (by omega))) ?_
                      | refine s_load Tryd.isAgg3 rfl rfl ((hs.oldcell (a := ⟨bx, _, none⟩) hB (by simp)).trans (hcell (i + 3) (by omega))) ?_
                    exact Rek_end rfl
                  exact Reks_nil
                refine D_q rfl rfl ?_
                refine s_add rfl rfl rfl ?_
                refine D_qn ?_
                refine D_q rfl rfl ?_
                refine s_fieldAddr rfl rfl (FA82_3 _ _) ?_
                refine D_qn ?_
                refine D_e rfl ?_
                first
                  | refine s_storeB Tryd.sizeOf3 rfl rfl rfl hs (kk := 0) rfl rfl ?_
                  | refine s_storeB Tryd.sizeOf3 rfl rfl rfl hs (kk := 1) rfl rfl ?_
                clear hs; intro w hs; try simp only [List.set_cons_zero, List.set_cons_succ, splice, List.take_succ_cons, List.take_zero, List.drop_succ_cons, List.drop_zero, List.nil_append, List.cons_append, List.length_cons, List.length_nil, Nat.reduceAdd, List.append_assoc] at hs
                refine D_en ?re ?_
                case re =>
                  exact Reks_nil
                refine D_nil ?_
                refine n_blk ?_
                refine n_loop ?_
                exact ⟨⟨_, _, _, _⟩, ⟨rfl, rfl, rfl, rfl, trivial⟩, hs⟩
              · skip
                try simp only [decide_eq_true_eq, decide_eq_false_iff_not, beq_iff_eq, beq_eq_false_iff_ne, ne_eq] at hc89
                refine W_seq ?_
                refine W_region ?_
                refine s_fieldAddr rfl rfl (FA82_0 _ _) ?_
                first
                  | refine s_load Tryd.isAgg3 rfl rfl (hs.cell (k := 0) rfl rfl) ?_
                  | refine s_load Tryd.isAgg3 rfl rfl (hs.cell (k := 1) rfl rfl) ?_
                  | refine s_load Tryd.isAgg3 rfl rfl ((hs.oldcell (a := ⟨bx, _, none⟩) hB (by simp)).trans (hcell i (by omega))) ?_
                  | refine s_load Tryd.isAgg3 rfl rfl ((hs.oldcell (a := ⟨bx, _, none⟩) hB (by simp)).trans (hcell (i + 1) (by omega))) ?_
                  | refine s_load Tryd.isAgg3 rfl rfl ((hs.oldcell (a := ⟨bx, _, none⟩) hB (by simp)).trans (hcell (i + 2) (by omega))) ?_
                  | refine s_load Tryd.isAgg3 rfl rfl ((hs.oldcell (a := ⟨bx, _, none⟩) hB (by simp)).trans (hcell (i + 3) (by omega))) ?_
                refine s_add rfl rfl rfl ?_
                refine s_fieldAddr rfl rfl (FA82_0 _ _) ?_
                first
                  | refine s_storeB Tryd.sizeOf3 rfl rfl rfl hs (kk := 0) rfl rfl ?_
                  | refine s_storeB Tryd.sizeOf3 rfl rfl rfl hs (kk := 1) rfl rfl ?_
                clear hs; intro w hs; try simp only [List.set_cons_zero, List.set_cons_succ, splice, List.take_succ_cons, List.take_zero, List.drop_succ_cons, List.drop_zero, List.nil_append, List.cons_append, List.length_cons, List.length_nil, Nat.reduceAdd, List.append_assoc] at hs
                refine WL_nil ?_
                refine n_then ?_
                refine W_region ?_
                refine s_fieldAddr rfl rfl (FA82_1 _ _) ?_
                first
                  | refine s_load Tryd.isAgg3 rfl rfl (hs.cell (k := 0) rfl rfl) ?_
                  | refine s_load Tryd.isAgg3 rfl rfl (hs.cell (k := 1) rfl rfl) ?_
                  | refine s_load Tryd.isAgg3 rfl rfl ((hs.oldcell (a := ⟨bx, _, none⟩) hB (by simp)).trans (hcell i (by omega))) ?_
                  | refine s_load Tryd.isAgg3 rfl rfl ((hs.oldcell (a := ⟨bx, _, none⟩) hB (by simp)).trans (hcell (i + 1) (by omega))) ?_
                  | refine s_load Tryd.isAgg3 rfl rfl ((hs.oldcell (a := ⟨bx, _, none⟩) hB (by simp)).trans (hcell (i + 2) (by omega))) ?_
                  | refine s_load Tryd.isAgg3 rfl rfl ((hs.oldcell (a := ⟨bx, _, none⟩) hB (by simp)).trans (hcell (i + 3) (by omega))) ?_
                refine s_add rfl rfl rfl ?_
                refine s_fieldAddr rfl rfl (FA82_1 _ _) ?_
                first
                  | refine s_storeB Tryd.sizeOf3 rfl rfl rfl hs (kk := 0) rfl rfl ?_
                  | refine s_storeB Tryd.sizeOf3 rfl rfl rfl hs (kk := 1) rfl rfl ?_
                clear hs; intro w hs; try simp only [List.set_cons_zero, List.set_cons_succ, splice, List.take_succ_cons, List.take_zero, List.drop_succ_cons, List.drop_zero, List.nil_append, List.cons_append, List.length_cons, List.length_nil, Nat.reduceAdd, List.append_assoc] at hs
                refine WL_nil ?_
                refine n_blk ?_
                refine n_loop ?_
                exact ⟨⟨_, _, _, _⟩, ⟨rfl, rfl, rfl, rfl, trivial⟩, hs⟩
            · skip
              try simp only [decide_eq_true_eq, decide_eq_false_iff_not, beq_iff_eq, beq_eq_false_iff_ne, ne_eq] at hc89
              refine W_region ?_
              refine s_eql rfl rfl rfl ?_
              refine s_assign rfl rfl ?_
              refine WL_nil ?_
              refine n_then ?_
              refine W_cond rfl (fun hc89 => ?_) (fun hc89 => ?_)
              · skip
                try simp only [decide_eq_true_eq, decide_eq_false_iff_not, beq_iff_eq, beq_eq_false_iff_ne, ne_eq] at hc89
                refine W_seq ?_
                refine W_draw [(0, true, []), (1, true, []), (2, true, []), (3, true, []), (4, true, []), (5, true, []), (6, true, []), (7, false, [0, 1]), (8, true, []), (9, true, []), (10, false, [])] [[], [0], [], [], [3], [2, 3, 4], [2, 3, 4, 5], [2, 3, 4, 5, 6], [0, 1, 2, 3, 4, 5, 6, 7], [0, 1, 2, 3, 4, 5, 6, 7, 8], [0, 1, 2, 3, 4, 5, 6, 7, 8, 9]] MX (by kernel_rfl) ?_
                intro w1 hw1 hw2 hw3 hw4; replace hs := hs.redrawn hw1 hw2 hw3 hw4; clear hw1 hw2 hw3 hw4
                obtain ⟨w, rfl⟩ : ∃ w : World, w = w1 := ⟨_, rfl⟩
                refine D_q rfl rfl ?_
                refine s_fieldAddr rfl rfl (FA82_0 _ _) ?_
                refine D_qn ?_
                refine D_q rfl rfl ?_
                first
                  | refine s_load Tryd.isAgg3 rfl rfl (hs.cell (k := 0) rfl rfl) ?_
                  | refine s_load Tryd.isAgg3 rfl rfl (hs.cell (k := 1) rfl rfl) ?_
                  | refine s_load Tryd.isAgg3 rfl rfl ((hs.oldcell (a := ⟨bx, _, none⟩) hB (by simp)).trans (hcell i (by omega))) ?_
                  | refine s_load Tryd.isAgg3 rfl rfl ((hs.oldcell (a := ⟨bx, _, none⟩) hB (by simp)).trans (hcell (i + 1) (by omega))) ?_
                  | refine s_load Tryd.isAgg3 rfl rfl ((hs.oldcell (a := ⟨bx, _, none⟩) hB (by simp)).trans (hcell (i + 2) (by omega))) ?_
                  | refine s_load Tryd.isAgg3 rfl rfl ((hs.oldcell (a := ⟨bx, _, none⟩) hB (by simp)).trans (hcell (i + 3) (by omega))) ?_
                refine D_qn ?_
                refine D_q rfl rfl ?_
                refine s_move rfl rfl ?_
                refine D_qn ?_
                refine D_q rfl rfl ?_
                refine s_move rfl rfl ?_
                refine D_qn ?_
                refine D_q rfl rfl ?_
                (refine s_add' rfl rfl rfl ?hx ?_; case hx => (constructor <;> omega))
                rw [i1]
                refine D_qn ?_
                refine D_q rfl rfl ?_
                (refine s_indexAddrO El22 rfl rfl rfl hA ?hx ?_; case hx => (constructor <;> omega))
                refine D_qn ?_
                refine D_q rfl rfl ?_
                first
                  | refine s_load Tryd.isAgg3 rfl rfl (hs.cell (k := 0) rfl rfl) ?_
                  | refine s_load Tryd.isAgg3 rfl rfl (hs.cell (k := 1) rfl rfl) ?_
                  | refine s_load Tryd.isAgg3 rfl rfl ((hs.oldcell (a := ⟨bx, _, none⟩) hB (by simp)).trans (hcell i (by omega))) ?_
                  | refine s_load Tryd.isAgg3 rfl rfl ((hs.oldcell (a := ⟨bx, _, none⟩) hB (by simp)).trans (hcell (i + 1) (by omega))) ?_
                  | refine s_load Tryd.isAgg3 rfl rfl ((hs.oldcell (a := ⟨bx, _, none⟩) hB (by simp)).trans (hcell (i + 2) (by omega))) ?_
                  | refine s_load Tryd.isAgg3 rfl rfl ((hs.oldcell (a := ⟨bx, _, none⟩) hB (by simp)).trans (hcell (i + 3) (by omega))) ?_
                refine D_qn ?_
                refine D_e rfl ?_
                refine s_call Tryd.call11 rfl rfl (around_ok _ 20 w (by decide) (hmem (i + 1) (by omega))) ?_
                rintro r w1 ⟨hw1, rfl⟩
                rw [hw1]; clear hw1 w1
                refine D_en ?re ?_
                case re =>
                  refine Reks_cons rfl rfl rfl rfl ?_ ?_
                  · skip
                    refine s_fieldAddr rfl rfl (FA82_0 _ _) ?_
                    exact Rek_end rfl
                  refine Reks_cons rfl rfl rfl rfl ?_ ?_
                  · skip
                    first
                      | refine s_load Tryd.isAgg3 rfl rfl (hs.cell (k := 0) rfl rfl) ?_
                      | refine s_load Tryd.isAgg3 rfl rfl (hs.cell (k := 1) rfl rfl) ?_
                      | refine s_load Tryd.isAgg3 rfl rfl ((hs.oldcell (a := ⟨bx, _, none⟩) hB (by simp)).trans (hcell i (by omega))) ?_
                      | refine s_load Tryd.isAgg3 rfl rfl ((hs.oldcell (a := ⟨bx, _, none⟩) hB (by simp)).trans (hcell (i + 1) (by omega))) ?_
                      | refine s_load Tryd.isAgg3 rfl rfl ((hs.oldcell (a := ⟨bx, _, none⟩) hB (by simp)).trans (hcell (i + 2) (by omega))) ?_
                      | refine s_load Tryd.isAgg3 rfl rfl ((hs.oldcell (a := ⟨bx, _, none⟩) hB (by simp)).trans (hcell (i + 3) (by omega))) ?_
                    exact Rek_end rfl
                  exact Reks_nil
                refine D_q rfl rfl ?_
                refine s_add rfl rfl rfl ?_
                refine D_qn ?_
                refine D_q rfl rfl ?_
                refine s_fieldAddr rfl rfl (FA82_0 _ _) ?_
                refine D_qn ?_
                refine D_e rfl ?_
                first
                  | refine s_storeB Tryd.sizeOf3 rfl rfl rfl hs (kk := 0) rfl rfl ?_
                  | refine s_storeB Tryd.sizeOf3 rfl rfl rfl hs (kk := 1) rfl rfl ?_
                clear hs; intro w hs; try simp only [List.set_cons_zero, List.set_cons_succ, splice, List.take_succ_cons, List.take_zero, List.drop_succ_cons, List.drop_zero, List.nil_append, List.cons_append, List.length_cons, List.length_nil, Nat.reduceAdd, List.append_assoc] at hs
                refine D_en ?re ?_
                case re =>
                  exact Reks_nil
                refine D_nil ?_
                refine n_then ?_
                refine W_seq ?_
                refine W_draw [(0, true, []), (1, true, []), (2, true, []), (3, true, []), (4, true, []), (5, true, []), (6, true, []), (7, false, [0, 1]), (8, true, []), (9, true, []), (10, false, [])] [[], [0], [], [], [3], [2, 3, 4], [2, 3, 4, 5], [2, 3, 4, 5, 6], [0, 1, 2, 3, 4, 5, 6, 7], [0, 1, 2, 3, 4, 5, 6, 7, 8], [0, 1, 2, 3, 4, 5, 6, 7, 8, 9]] MX (by kernel_rfl) ?_
                intro w1 hw1 hw2 hw3 hw4; replace hs := hs.redrawn hw1 hw2 hw3 hw4; clear hw1 hw2 hw3 hw4
                obtain ⟨w, rfl⟩ : ∃ w : World, w = w1 := ⟨_, rfl⟩
                refine D_q rfl rfl ?_
                refine s_fieldAddr rfl rfl (FA82_0 _ _) ?_
                refine D_qn ?_
                refine D_q rfl rfl ?_
                first
                  | refine s_load Tryd.isAgg3 rfl rfl (hs.cell (k := 0) rfl rfl) ?_
                  | refine s_load Tryd.isAgg3 rfl rfl (hs.cell (k := 1) rfl rfl) ?_
                  | refine s_load Tryd.isAgg3 rfl rfl ((hs.oldcell (a := ⟨bx, _, none⟩) hB (by simp)).trans (hcell i (by omega))) ?_
                  | refine s_load Tryd.isAgg3 rfl rfl ((hs.oldcell (a := ⟨bx, _, none⟩) hB (by simp)).trans (hcell (i + 1) (by omega))) ?_
                  | refine s_load Tryd.isAgg3 rfl rfl ((hs.oldcell (a := ⟨bx, _, none⟩) hB (by simp)).trans (hcell (i + 2) (by omega))) ?_
                  | refine s_load Tryd.isAgg3 rfl rfl ((hs.oldcell (a := ⟨bx, _, none⟩) hB (by simp)).trans (hcell (i + 3) (by omega))) ?_
                refine D_qn ?_
                refine D_q rfl rfl ?_
                refine s_move rfl rfl ?_
                refine D_qn ?_
                refine D_q rfl rfl ?_
                refine s_move rfl rfl ?_
                refine D_qn ?_
                refine D_q rfl rfl ?_
                (refine s_add' rfl rfl rfl ?hx ?_; case hx => (constructor <;> omega))
                rw [i2]
                refine D_qn ?_
                refine D_q rfl rfl ?_
                (refine s_indexAddrO El22 rfl rfl rfl hA ?hx ?_; case hx => (constructor <;> omega))
                refine D_qn ?_
                refine D_q rfl rfl ?_
                first
                  | refine s_load Tryd.isAgg3 rfl rfl (hs.cell (k := 0) rfl rfl) ?_
                  | refine s_load Tryd.isAgg3 rfl rfl (hs.cell (k := 1) rfl rfl) ?_
                  | refine s_load Tryd.isAgg3 rfl rfl ((hs.oldcell (a := ⟨bx, _, none⟩) hB (by simp)).trans (hcell i (by omega))) ?_
                  | refine s_load Tryd.isAgg3 rfl rfl ((hs.oldcell (a := ⟨bx, _, none⟩) hB (by simp)).trans (hcell (i + 1) (by omega))) ?_
                  | refine s_load Tryd.isAgg3 rfl rfl ((hs.oldcell (a := ⟨bx, _, none⟩) hB (by simp)).trans (hcell (i + 2) (by omega))) ?_
                  | refine s_load Tryd.isAgg3 rfl rfl ((hs.oldcell (a := ⟨bx, _, none⟩) hB (by simp)).trans (hcell (i + 3) (by omega))) ?_
                refine D_qn ?_
                refine D_e rfl ?_
                refine s_call Tryd.call11 rfl rfl (around_ok _ 3 w (by decide) (hmem (i + 2) (by omega))) ?_
                rintro r w1 ⟨hw1, rfl⟩
                rw [hw1]; clear hw1 w1
                refine D_en ?re ?_
                case re =>
                  refine Reks_cons rfl rfl rfl rfl ?_ ?_
                  · skip
                    refine s_fieldAddr rfl rfl (FA82_0 _ _) ?_
                    exact Rek_end rfl
                  refine Reks_cons rfl rfl rfl rfl ?_ ?_
                  · skip
                    first
                      | refine s_load Tryd.isAgg3 rfl rfl (hs.cell (k := 0) rfl rfl) ?_
                      | refine s_load Tryd.isAgg3 rfl rfl (hs.cell (k := 1) rfl rfl) ?_
                      | refine s_load Tryd.isAgg3 rfl rfl ((hs.oldcell (a := ⟨bx, _, none⟩) hB (by simp)).trans (hcell i (by omega))) ?_
                      | refine s_load Tryd.isAgg3 rfl rfl ((hs.oldcell (a := ⟨bx, _, none⟩) hB (by simp)).trans (hcell (i + 1) (by omega))) ?_
                      | refine s_load Tryd.isAgg3 rfl rfl ((hs.oldcell (a := ⟨bx, _, none⟩) hB (by simp)).trans (hcell (i + 2) (by omega))) ?_
                      | refine s_load Tryd.isAgg3 rfl rfl ((hs.oldcell (a := ⟨bx, _, none⟩) hB (by simp)).trans (hcell (i + 3) (by omega))) ?_
                    exact Rek_end rfl
                  exact Reks_nil
                refine D_q rfl rfl ?_
                refine s_add rfl rfl rfl ?_
                refine D_qn ?_
                refine D_q rfl rfl ?_
                refine s_fieldAddr rfl rfl (FA82_1 _ _) ?_
                refine D_qn ?_
                refine D_e rfl ?_
                first
                  | refine s_storeB Tryd.sizeOf3 rfl rfl rfl hs (kk := 0) rfl rfl ?_
                  | refine s_storeB Tryd.sizeOf3 rfl rfl rfl hs (kk := 1) rfl rfl ?_
                clear hs; intro w hs; try simp only [List.set_cons_zero, List.set_cons_succ, splice, List.take_succ_cons, List.take_zero, List.drop_succ_cons, List.drop_zero, List.nil_append, List.cons_append, List.length_cons, List.length_nil, Nat.reduceAdd, List.append_assoc] at hs
                refine D_en ?re ?_
                case re =>
                  exact Reks_nil
                refine D_nil ?_
                refine n_then ?_
                refine W_draw [(0, true, []), (1, true, []), (2, true, []), (3, true, []), (4, true, []), (5, true, []), (6, true, []), (7, false, [0, 1]), (8, true, []), (9, true, []), (10, false, [])] [[], [0], [], [], [3], [2, 3, 4], [2, 3, 4, 5], [2, 3, 4, 5, 6], [0, 1, 2, 3, 4, 5, 6, 7], [0, 1, 2, 3, 4, 5, 6, 7, 8], [0, 1, 2, 3, 4, 5, 6, 7, 8, 9]] MX (by kernel_rfl) ?_
                intro w1 hw1 hw2 hw3 hw4; replace hs := hs.redrawn hw1 hw2 hw3 hw4; clear hw1 hw2 hw3 hw4
                obtain ⟨w, rfl⟩ : ∃ w : World, w = w1 := ⟨_, rfl⟩
                refine D_q rfl rfl ?_
                refine s_fieldAddr rfl rfl (FA82_2 _ _) ?_
                refine D_qn ?_
                refine D_q rfl rfl ?_
                first
                  | refine s_load Tryd.isAgg3 rfl rfl (hs.cell (k := 0) rfl rfl) ?_
                  | refine s_load Tryd.isAgg3 rfl rfl (hs.cell (k := 1) rfl rfl) ?_
                  | refine s_load Tryd.isAgg3 rfl rfl ((hs.oldcell (a := ⟨bx, _, none⟩) hB (by simp)).trans (hcell i (by omega))) ?_
                  | refine s_load Tryd.isAgg3 rfl rfl ((hs.oldcell (a := ⟨bx, _, none⟩) hB (by simp)).trans (hcell (i + 1) (by omega))) ?_
                  | refine s_load Tryd.isAgg3 rfl rfl ((hs.oldcell (a := ⟨bx, _, none⟩) hB (by simp)).trans (hcell (i + 2) (by omega))) ?_
                  | refine s_load Tryd.isAgg3 rfl rfl ((hs.oldcell (a := ⟨bx, _, none⟩) hB (by simp)).trans (hcell (i + 3) (by omega))) ?_
                refine D_qn ?_
                refine D_q rfl rfl ?_
                refine s_move rfl rfl ?_
                refine D_qn ?_
                refine D_q rfl rfl ?_
                refine s_move rfl rfl ?_
                refine D_qn ?_
                refine D_q rfl rfl ?_
                (refine s_add' rfl rfl rfl ?hx ?_; case hx => (constructor <;> omega))
                rw [i3]
                refine D_qn ?_
                refine D_q rfl rfl ?_
                (refine s_indexAddrO El22 rfl rfl rfl hA ?hx ?_; case hx => (constructor <;> omega))
                refine D_qn ?_
                refine D_q rfl rfl ?_
                first
                  | refine s_load Tryd.isAgg3 rfl rfl (hs.cell (k := 0) rfl rfl) ?_
                  | refine s_load Tryd.isAgg3 rfl rfl (hs.cell (k := 1) rfl rfl) ?_
                  | refine s_load Tryd.isAgg3 rfl rfl ((hs.oldcell (a := ⟨bx, _, none⟩) hB (by simp)).trans (hcell i (by omega))) ?_
                  | refine s_load Tryd.isAgg3 rfl rfl ((hs.oldcell (a := ⟨bx, _, none⟩) hB (by simp)).trans (hcell (i + 1) (by omega))) ?_
                  | refine s_load Tryd.isAgg3 rfl rfl ((hs.oldcell (a := ⟨bx, _, none⟩) hB (by simp)).trans (hcell (i + 2) (by omega))) ?_
                  | refine s_load Tryd.isAgg3 rfl rfl ((hs.oldcell (a := ⟨bx, _, none⟩) hB (by simp)).trans (hcell (i + 3) (by omega))) ?_
                refine D_qn ?_
                refine D_e rfl ?_
                refine s_call Tryd.call11 rfl rfl (around_ok _ 9 w (by decide) (hmem (i + 3) (by omega))) ?_
                rintro r w1 ⟨hw1, rfl⟩
                rw [hw1]; clear hw1 w1
                refine D_en ?re ?_
                case re =>
                  refine Reks_cons rfl rfl rfl rfl ?_ ?_
                  · skip
                    refine s_fieldAddr rfl rfl (FA82_2 _ _) ?_
                    exact Rek_end rfl
                  refine Reks_cons rfl rfl rfl rfl ?_ ?_
                  · skip
                    first
                      | refine s_load Tryd.isAgg3 rfl rfl (hs.cell (k := 0) rfl rfl) ?_
                      | refine s_load Tryd.isAgg3 rfl rfl (hs.cell (k := 1) rfl rfl) ?_
                      | refine s_load Tryd.isAgg3 rfl rfl ((hs.oldcell (a := ⟨bx, _, none⟩) hB (by simp)).trans (hcell i (by omega))) ?_
                      | refine s_load Tryd.isAgg3 rfl rfl ((hs.oldcell (a := ⟨bx, _, none⟩) hB (by simp)).trans (hcell (i + 1) (by omega))) ?_
                      | refine s_load Tryd.isAgg3 rfl rfl ((hs.oldcell (a := ⟨bx, _, none⟩) hB (by simp)).trans (hcell (i + 2) (by omega))) ?_
                      | refine s_load Tryd.isAgg3 rfl rfl ((hs.oldcell (a := ⟨bx, _, none⟩) hB (by simp)).trans (hcell (i + 3) (by omega))) ?_
                    exact Rek_end rfl
                  exact Reks_nil
                refine D_q rfl rfl ?_
                refine s_add rfl rfl rfl ?_
                refine D_qn ?_
                refine D_q rfl rfl ?_
                refine s_fieldAddr rfl rfl (FA82_3 _ _) ?_
                refine D_qn ?_
                refine D_e rfl ?_
                first
                  | refine s_storeB Tryd.sizeOf3 rfl rfl rfl hs (kk := 0) rfl rfl ?_
                  | refine s_storeB Tryd.sizeOf3 rfl rfl rfl hs (kk := 1) rfl rfl ?_
                clear hs; intro w hs; try simp only [List.set_cons_zero, List.set_cons_succ, splice, List.take_succ_cons, List.take_zero, List.drop_succ_cons, List.drop_zero, List.nil_append, List.cons_append, List.length_cons, List.length_nil, Nat.reduceAdd, List.append_assoc] at hs
                refine D_en ?re ?_
                case re =>
                  exact Reks_nil
                refine D_nil ?_
                refine n_blk ?_
                refine n_loop ?_
                exact ⟨⟨_, _, _, _⟩, ⟨rfl, rfl, rfl, rfl, trivial⟩, hs⟩
              · skip
                try simp only [decide_eq_true_eq, decide_eq_false_iff_not, beq_iff_eq, beq_eq_false_iff_ne, ne_eq] at hc89
                refine W_seq ?_
                refine W_region ?_
                refine s_fieldAddr rfl rfl (FA82_0 _ _) ?_
                first
                  | refine s_load Tryd.isAgg3 rfl rfl (hs.cell (k := 0) rfl rfl) ?_
                  | refine s_load Tryd.isAgg3 rfl rfl (hs.cell (k := 1) rfl rfl) ?_
                  | refine s_load Tryd.isAgg3 rfl rfl ((hs.oldcell (a := ⟨bx, _, none⟩) hB (by simp)).trans (hcell i (by omega))) ?_
                  | refine s_load Tryd.isAgg3 rfl rfl ((hs.oldcell (a := ⟨bx, _, none⟩) hB (by simp)).trans (hcell (i + 1) (by omega))) ?_
                  | refine s_load Tryd.isAgg3 rfl rfl ((hs.oldcell (a := ⟨bx, _, none⟩) hB (by simp)).trans (hcell (i + 2) (by omega))) ?_
                  | refine s_load Tryd.isAgg3 rfl rfl ((hs.oldcell (a := ⟨bx, _, none⟩) hB (by simp)).trans (hcell (i + 3) (by omega))) ?_
                refine s_add rfl rfl rfl ?_
                refine s_fieldAddr rfl rfl (FA82_0 _ _) ?_
                first
                  | refine s_storeB Tryd.sizeOf3 rfl rfl rfl hs (kk := 0) rfl rfl ?_
                  | refine s_storeB Tryd.sizeOf3 rfl rfl rfl hs (kk := 1) rfl rfl ?_
                clear hs; intro w hs; try simp only [List.set_cons_zero, List.set_cons_succ, splice, List.take_succ_cons, List.take_zero, List.drop_succ_cons, List.drop_zero, List.nil_append, List.cons_append, List.length_cons, List.length_nil, Nat.reduceAdd, List.append_assoc] at hs
                refine WL_nil ?_
                refine n_then ?_
                refine W_region ?_
                refine s_fieldAddr rfl rfl (FA82_1 _ _) ?_
                first
                  | refine s_load Tryd.isAgg3 rfl rfl (hs.cell (k := 0) rfl rfl) ?_
                  | refine s_load Tryd.isAgg3 rfl rfl (hs.cell (k := 1) rfl rfl) ?_
                  | refine s_load Tryd.isAgg3 rfl rfl ((hs.oldcell (a := ⟨bx, _, none⟩) hB (by simp)).trans (hcell i (by omega))) ?_
                  | refine s_load Tryd.isAgg3 rfl rfl ((hs.oldcell (a := ⟨bx, _, none⟩) hB (by simp)).trans (hcell (i + 1) (by omega))) ?_
                  | refine s_load Tryd.isAgg3 rfl rfl ((hs.oldcell (a := ⟨bx, _, none⟩) hB (by simp)).trans (hcell (i + 2) (by omega))) ?_
                  | refine s_load Tryd.isAgg3 rfl rfl ((hs.oldcell (a := ⟨bx, _, none⟩) hB (by simp)).trans (hcell (i + 3) (by omega))) ?_
                refine s_add rfl rfl rfl ?_
                refine s_fieldAddr rfl rfl (FA82_1 _ _) ?_
                first
                  | refine s_storeB Tryd.sizeOf3 rfl rfl rfl hs (kk := 0) rfl rfl ?_
                  | refine s_storeB Tryd.sizeOf3 rfl rfl rfl hs (kk := 1) rfl rfl ?_
                clear hs; intro w hs; try simp only [List.set_cons_zero, List.set_cons_succ, splice, List.take_succ_cons, List.take_zero, List.drop_succ_cons, List.drop_zero, List.nil_append, List.cons_append, List.length_cons, List.length_nil, Nat.reduceAdd, List.append_assoc] at hs
                refine WL_nil ?_
                refine n_blk ?_
                refine n_loop ?_
                exact ⟨⟨_, _, _, _⟩, ⟨rfl, rfl, rfl, rfl, trivial⟩, hs⟩
      · skip
        clear hs
        rintro y w hs
        refine W_seq ?_
        refine W_region ?_
        first
          | refine s_loadW Tryd.isAgg82 Tryd.sizeOf82 rfl rfl hs (kk := 0) rfl rfl ?_
          | refine s_loadW Tryd.isAgg82 Tryd.sizeOf82 rfl rfl hs (kk := 1) rfl rfl ?_
          | refine s_load_4 Tryd.isAgg82 Tryd.sizeOf82 rfl rfl (by first | exact hs.cell (k := 0) rfl rfl | exact hs.cell (k := 1) rfl rfl) (by first | exact hs.cell (k := 0) rfl rfl | exact hs.cell (k := 1) rfl rfl) (by first | exact hs.cell (k := 0) rfl rfl | exact hs.cell (k := 1) rfl rfl) (by first | exact hs.cell (k := 0) rfl rfl | exact hs.cell (k := 1) rfl rfl) ?_
        refine s_call Tryd.call39 rfl rfl (refEncodable_ok y w) ?_
        rintro r w ⟨hst, rfl⟩
        replace hs := hs.fwd1 hst
        clear hst
        refine WL_nil ?_
        refine n_then ?_
        refine W_cond rfl (fun hc123 => ?_) (fun hc123 => ?_)
        · skip
          try simp only [decide_eq_true_eq, decide_eq_false_iff_not, beq_iff_eq, beq_eq_false_iff_ne, ne_eq] at hc123
          refine W_region ?_
          refine s_move rfl rfl ?_
          first
            | refine s_loadW Tryd.isAgg82 Tryd.sizeOf82 rfl rfl hs (kk := 0) rfl rfl ?_
            | refine s_loadW Tryd.isAgg82 Tryd.sizeOf82 rfl rfl hs (kk := 1) rfl rfl ?_
            | refine s_load_4 Tryd.isAgg82 Tryd.sizeOf82 rfl rfl (by first | exact hs.cell (k := 0) rfl rfl | exact hs.cell (k := 1) rfl rfl) (by first | exact hs.cell (k := 0) rfl rfl | exact hs.cell (k := 1) rfl rfl) (by first | exact hs.cell (k := 0) rfl rfl | exact hs.cell (k := 1) rfl rfl) (by first | exact hs.cell (k := 0) rfl rfl | exact hs.cell (k := 1) rfl rfl) ?_
          refine s_buildSlice rfl rfl (BS28_1 _ _ _ _) hs ?_; clear hs; intro b126 w hs
          refine s_appendM (M := [_, _]) (X := []) El28 rfl rfl rfl hO (by simpa using hs) (hs.sl (k := 0) (ds := y.cells) rfl (Nat.le_refl _) (by intro j u hj; rw [Nat.zero_add]; exact hj)) rfl (by intro u hu; simp only [Cl.cells, List.mem_cons, List.not_mem_nil, or_false] at hu; rcases hu with rfl | rfl | rfl | rfl <;> rfl) (by omega) ?_
          clear hs; intro v' w Lc' hO' hs
          simp only [List.cons_append, List.nil_append, List.append_nil] at hs
          replace hs := hs.tail
          have hcl4 : cls (cl ++ [y]) = cls cl ++ y.cells := by rw [cls_append]; simp [cls]
          rw [← hcl4] at hO'
          refine s_assign rfl rfl ?_
          refine WL_nil ?_
          refine n_blk ?_
          refine n_then ?_
          refine W_region ?_
          refine s_move rfl rfl ?_
          first | (refine s_add' rfl rfl rfl ?hx ?_; case hx => (constructor <;> first | omega | (simp only; omega))) | refine s_add rfl rfl rfl ?_
          refine s_assign rfl rfl ?_
          refine WL_nil ?_
          refine n_loop ?_
          first
            | exact ⟨⟨i + 4, v', y, cl ++ [y], Lc'⟩, ⟨rfl, rfl, rfl, rfl, trivial⟩, ⟨hs, by simp only [List.length_append, List.length_cons, List.length_nil]; exact hO', fun z hz => by
                rcases List.mem_append.1 hz with h | h
                · exact hok z h
                · rw [List.mem_singleton.1 h]; assumption, by simp only [List.length_append, List.length_cons, List.length_nil]; omega, by simp only; omega⟩, by simp only; omega⟩
            | exact ⟨⟨i + 4, _, y, cl, Lc⟩, ⟨rfl, rfl, rfl, rfl, trivial⟩, ⟨hs, hO, hok, hcl, by simp only; omega⟩, by simp only; omega⟩
        · skip
          try simp only [decide_eq_true_eq, decide_eq_false_iff_not, beq_iff_eq, beq_eq_false_iff_ne, ne_eq] at hc123
          refine W_skip ?_
          refine n_blk ?_
          refine n_then ?_
          refine W_region ?_
          refine s_move rfl rfl ?_
          first | (refine s_add' rfl rfl rfl ?hx ?_; case hx => (constructor <;> first | omega | (simp only; omega))) | refine s_add rfl rfl rfl ?_
          refine s_assign rfl rfl ?_
          refine WL_nil ?_
          refine n_loop ?_
          first
            | exact ⟨⟨i + 4, v', y, cl ++ [y], Lc'⟩, ⟨rfl, rfl, rfl, rfl, trivial⟩, ⟨hs, by simp only [List.length_append, List.length_cons, List.length_nil]; exact hO', fun z hz => by
                rcases List.mem_append.1 hz with h | h
                · exact hok z h
                · rw [List.mem_singleton.1 h]; assumption, by simp only [List.length_append, List.length_cons, List.length_nil]; omega, by simp only; omega⟩, by simp only; omega⟩
            | exact ⟨⟨i + 4, _, y, cl, Lc⟩, ⟨rfl, rfl, rfl, rfl, trivial⟩, ⟨hs, hO, hok, hcl, by simp only; omega⟩, by simp only; omega⟩
    · skip
      try simp only [decide_eq_true_eq, decide_eq_false_iff_not, beq_iff_eq, beq_eq_false_iff_ne, ne_eq] at hc17
      refine W_exit ?_
      refine x_then ?_
      refine x_then ?_
      refine exit_hit ?_
      refine n_then ?_
      refine W_seq ?_
      refine W_region ?_
      refine s_move rfl rfl ?_
      refine s_assign rfl rfl ?_
      refine WL_nil ?_
      refine n_then ?_
      refine W_ret ?_
      exact end1 rfl rfl ⟨cl, Lc, hO, hs.tail, hok, hcl⟩
  · skip
    try simp only [decide_eq_true_eq, decide_eq_false_iff_not, beq_iff_eq, beq_eq_false_iff_ne, ne_eq] at hg13
    refine WL_skip rfl rfl rfl ?_
    refine WL_skip rfl rfl rfl ?_
    refine WL_skip rfl rfl rfl ?_
    refine s_pick_f rfl rfl rfl ?_
    refine WL_nil ?_
    refine n_then ?_
    refine W_cond_f rfl ?_
    refine W_exit ?_
    refine x_then ?_
    refine x_then ?_
    refine exit_hit ?_
    refine n_then ?_
    refine W_seq ?_
    refine W_region ?_
    refine s_move rfl rfl ?_
    refine s_assign rfl rfl ?_
    refine WL_nil ?_
    refine n_then ?_
    refine W_ret ?_
    exact end1 rfl rfl ⟨cl, Lc, hO, hs.tail, hok, hcl⟩
end Go.Proofs.YtgjjdlgbbgijgaaDoor
