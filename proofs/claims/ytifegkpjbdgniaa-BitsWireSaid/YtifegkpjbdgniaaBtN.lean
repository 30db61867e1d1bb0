/- BitsWrites: the reference's bits, and the law. -/
import Derived.Test.YtifegkpjbdgniaaBtM
set_option linter.unusedVariables false
set_option linter.unusedSimpArgs false
namespace Go.Proofs.Ytifegkpjbdgniaa
open Go.SL
abbrev bls (bs : List Bool) : List Value := bs.map Value.bool
theorem bls_one (bs : List Bool) : ∀ c ∈ bls bs, c.oneCell' = true := by
  intro c hc
  obtain ⟨x, _, rfl⟩ := List.mem_map.1 hc
  rfl
theorem tmod2 (m : Nat) : ((m : Nat) : Int).tmod 2 = ((m % 2 : Nat) : Int) := rfl
theorem refBits_ok (n : Nat) (cnt : Int) (w0 : World) : Ret Try.prog 45 [.int .u64 (n : Int), .int .i64 cnt].toArray w0 fun r w' => ∃ Lr, OwnS 4 1 r (nb n (clampV cnt).toNat).length (bls (nb n (clampV cnt).toNat)) Lr ∧ St [] w0 w' Lr := by
  obtain ⟨hcv, hc⟩ := clampV_nat cnt
  generalize (clampV cnt).toNat = c at *
  refine Ret_start fun w hs => ?_
  refine Ret_of Try.func45 rfl Try.ntmps45 rfl ?_
  refine W_seq ?_
  refine W_region ?_
  refine s_assign rfl rfl ?_
  refine WL_nil ?_
  refine n_then ?_
  refine W_seq ?_
  refine W_region ?_
  refine s_assign rfl rfl ?_
  refine WL_nil ?_
  refine n_then ?_
  refine W_seq ?_
  refine W_seq ?_
  refine W_region ?_
  refine s_move rfl rfl ?_
  refine s_call Try.call51 rfl rfl (count_ok cnt w) ?_
  rintro v w1 ⟨hw1, rfl⟩
  rw [hw1, hcv]; clear hw1 w1
  first | (refine s_sub' rfl rfl rfl ?hx ?_; case hx => (constructor <;> first | omega | (simp only; omega))) | refine s_sub rfl rfl rfl ?_
  refine s_assign rfl rfl ?_
  refine WL_nil ?_
  refine n_then ?_
  refine W_block ?_
  refine W_loop (σ := Nat × Value × Hp × List Bool) (fun s => [(0, .int .u64 (n : Int)), (5, s.2.1), (6, .int .i64 ((s.1 : Int) - 1))]) (fun s w => St [] w0 w s.2.2.1 ∧ OwnS 4 1 s.2.1 s.2.2.2.length (bls s.2.2.2) s.2.2.1 ∧ s.2.2.2 ++ nb n s.1 = nb n c ∧ s.1 ≤ c) (fun s => s.1) (c, .slice none 0 0, [], []) ⟨rfl, rfl, rfl, trivial⟩ ⟨hs, OwnS.nil _ _, rfl, Nat.le_refl _⟩ ?_
  clear hs
  rintro ⟨i, v5, Lv, cs⟩ w ⟨hs, hO, hcat, hi⟩
  simp only at hs hO hcat hi ⊢
  have hcl := congrArg List.length hcat
  simp only [List.length_append, nb_length] at hcl
  refine W_seq ?_
  refine W_seq ?_
  refine W_region ?_
  refine s_move rfl rfl ?_
  refine s_geq rfl rfl rfl ?_
  refine WL_nil ?_
  refine n_then ?_
  refine W_cond rfl (fun hc11 => ?_) (fun hc11 => ?_)
  · skip
    try simp only [decide_eq_true_eq, decide_eq_false_iff_not, ge_iff_le] at hc11
    obtain ⟨j, rfl⟩ : ∃ j, i = j + 1 := ⟨i - 1, by omega⟩
    have e9 : ((j + 1 : Nat) : Int) - 1 = (j : Int) := by omega
    rw [e9]
    refine W_skip ?_
    refine n_then ?_
    refine W_seq ?_
    refine W_block ?_
    refine W_region ?_
    refine s_move rfl rfl ?_
    refine s_move rfl rfl ?_
    refine s_move rfl rfl ?_
    refine s_convert rfl rfl (CV3_23 _) ?_
    rw [IntWalk.u64_in _ (by omega)]
    (refine s_shr rfl rfl rfl ?hx ?_; case hx => omega)
    rw [shrN n j (by omega)]
    (refine s_rem rfl rfl rfl ?hx ?_; case hx => omega)
    rw [tmod2]
    refine s_eql rfl rfl rfl ?_
    rw [bitOf]
    refine s_buildSlice rfl rfl (BS32_1 _) hs ?_; clear hs; intro b21 w hs
    refine s_appendM (M := [_]) (X := []) El32 rfl rfl rfl hO (by simpa using hs) (hs.sl (k := 0) (ds := [_]) rfl (Nat.le_refl _) (by intro j u hj; rw [Nat.zero_add]; exact hj)) rfl (by simp [Value.oneCell']) (by omega) ?_
    clear hs; intro v' w Lv' hO' hs
    simp only [List.cons_append, List.nil_append, List.append_nil] at hs
    refine s_assign rfl rfl ?_
    refine WL_nil ?_
    refine n_blk ?_
    refine n_then ?_
    refine W_region ?_
    refine s_move rfl rfl ?_
    first | (refine s_sub' rfl rfl rfl ?hx ?_; case hx => (constructor <;> first | omega | (simp only; omega))) | refine s_sub rfl rfl rfl ?_
    refine s_assign rfl rfl ?_
    refine WL_nil ?_
    refine n_loop ?_
    exact ⟨(j, v', Lv', cs ++ [n.testBit j]), ⟨rfl, rfl, rfl, trivial⟩, ⟨hs.tail, by simpa [bls] using hO', by rw [← hcat]; simp [nb], by simp only; omega⟩, Nat.lt_succ_self _⟩
  · skip
    try simp only [decide_eq_true_eq, decide_eq_false_iff_not, ge_iff_le] at hc11
    refine W_exit ?_
    refine x_then ?_
    refine x_then ?_
    refine exit_hit ?_
    refine n_then ?_
    refine W_seq ?_
    refine W_region ?_
    refine s_move rfl rfl ?_
    refine s_assign rfl rfl ?_
    refine WL_nil ?_
    refine n_then ?_
    refine W_ret ?_
    obtain rfl : i = 0 := by omega
    have hcs : cs = nb n c := by simpa [nb] using hcat
    exact end1 rfl rfl ⟨Lv, hcs ▸ hO, hs⟩
theorem capV_cases (c : Int) : (c < 0 ∧ (capV c).toNat = 0) ∨ (0 ≤ c ∧ c ≤ 65536 ∧ ((capV c).toNat : Int) = c) ∨ (65536 < c ∧ (capV c).toNat = 65536) := by unfold capV; split <;> split at * <;> omega
theorem refUnary_ok (cnt : Int) (w0 : World) : Ret Try.prog 44 [.int .i64 cnt].toArray w0 fun r w' => ∃ Lr, OwnS 4 1 r (List.replicate (capV cnt).toNat true ++ [false]).length (bls (List.replicate (capV cnt).toNat true ++ [false])) Lr ∧ St [] w0 w' Lr := by
  have hcc := capV_cases cnt
  generalize (capV cnt).toNat = n at *
  refine Ret_start fun w hs => ?_
  refine Ret_of Try.func44 rfl Try.ntmps44 rfl ?_
  refine W_seq ?_
  refine W_region ?_
  refine s_assign rfl rfl ?_
  refine WL_nil ?_
  refine n_then ?_
  refine W_seq ?_
  refine W_region ?_
  refine s_assign rfl rfl ?_
  refine WL_nil ?_
  refine n_then ?_
  refine W_seq ?_
  refine W_seq ?_
  refine W_region ?_
  refine s_assign rfl rfl ?_
  refine WL_nil ?_
  refine n_then ?_
  refine W_block ?_
  refine W_loop (σ := Nat × Value × Hp) (fun s => [(0, .int .i64 cnt), (3, s.2.1), (4, .int .i64 (s.1 : Int))]) (fun s w => St [] w0 w s.2.2 ∧ OwnS 4 1 s.2.1 s.1 (bls (List.replicate s.1 true)) s.2.2 ∧ s.1 ≤ n) (fun s => n - s.1) (0, .slice none 0 0, []) ⟨rfl, rfl, rfl, trivial⟩ ⟨hs, OwnS.nil _ _, Nat.zero_le _⟩ ?_
  clear hs
  rintro ⟨i, v3, Lv⟩ w ⟨hs, hO, hi⟩
  simp only at hs hO hi ⊢
  refine W_seq ?_
  refine W_seq ?_
  refine W_region ?_
  refine s_move rfl rfl ?_
  refine s_move rfl rfl ?_
  refine s_lss rfl rfl rfl ?_
  refine s_move rfl rfl ?_
  refine WL_case (s := 8) rfl (fun hg8 => ?_) (fun hg8 => ?_)
  · skip
    try simp only [decide_eq_true_eq, decide_eq_false_iff_not] at hg8
    refine WL_take rfl ?_
    refine s_move rfl rfl ?_
    refine WL_take rfl ?_
    refine s_lss rfl rfl rfl ?_
    refine s_pick_t rfl rfl rfl ?_
    refine WL_nil ?_
    refine n_then ?_
    refine W_cond rfl (fun hc11 => ?_) (fun hc11 => ?_)
    · skip
      try simp only [decide_eq_true_eq, decide_eq_false_iff_not] at hc11
      refine W_skip ?_
      refine n_then ?_
      refine W_seq ?_
      refine W_block ?_
      refine W_region ?_
      refine s_move rfl rfl ?_
      refine s_buildSlice rfl rfl (BS32_1 _) hs ?_; clear hs; intro b15 w hs
      refine s_appendM (M := [_]) (X := []) El32 rfl rfl rfl hO (by simpa using hs) (hs.sl (k := 0) (ds := [_]) rfl (Nat.le_refl _) (by intro j u hj; rw [Nat.zero_add]; exact hj)) rfl (by simp [Value.oneCell']) (by omega) ?_
      clear hs; intro v' w Lv' hO' hs
      simp only [List.cons_append, List.nil_append, List.append_nil] at hs
      refine s_assign rfl rfl ?_
      refine WL_nil ?_
      refine n_blk ?_
      refine n_then ?_
      refine W_region ?_
      refine s_move rfl rfl ?_
      first | (refine s_add' rfl rfl rfl ?hx ?_; case hx => (constructor <;> first | omega | (simp only; omega))) | refine s_add rfl rfl rfl ?_
      refine s_assign rfl rfl ?_
      refine WL_nil ?_
      refine n_loop ?_
      exact ⟨(i + 1, v', Lv'), ⟨rfl, rfl, rfl, trivial⟩, ⟨hs.tail, by simpa [bls, List.replicate_succ'] using hO', by simp only; omega⟩, by simp only; omega⟩
    · skip
      try simp only [decide_eq_true_eq, decide_eq_false_iff_not] at hc11
      refine W_exit ?_
      refine x_then ?_
      refine x_then ?_
      refine exit_hit ?_
      refine n_then ?_
      refine W_seq ?_
      refine W_region ?_
      refine s_move rfl rfl ?_
      refine s_buildSlice rfl rfl (BS32_1 _) hs ?_; clear hs; intro b18 w hs
      refine s_appendM (M := [_]) (X := []) El32 rfl rfl rfl hO (by simpa using hs) (hs.sl (k := 0) (ds := [_]) rfl (Nat.le_refl _) (by intro j u hj; rw [Nat.zero_add]; exact hj)) rfl (by simp [Value.oneCell']) (by omega) ?_
      clear hs; intro v' w Lv' hO' hs
      simp only [List.cons_append, List.nil_append, List.append_nil] at hs
      refine s_assign rfl rfl ?_
      refine WL_nil ?_
      refine n_then ?_
      refine W_ret ?_
      obtain rfl : i = n := by omega
      exact end1 rfl rfl ⟨Lv', by simpa [bls] using hO', hs.tail⟩
  · skip
    try simp only [decide_eq_true_eq, decide_eq_false_iff_not] at hg8
    refine WL_skip rfl rfl rfl ?_
    refine WL_skip rfl rfl rfl ?_
    refine s_pick_f rfl rfl rfl ?_
    refine WL_nil ?_
    refine n_then ?_
    refine W_cond_f rfl ?_
    refine W_exit ?_
    refine x_then ?_
    refine x_then ?_
    refine exit_hit ?_
    refine n_then ?_
    refine W_seq ?_
    refine W_region ?_
    refine s_move rfl rfl ?_
    refine s_buildSlice rfl rfl (BS32_1 _) hs ?_; clear hs; intro b18 w hs
    refine s_appendM (M := [_]) (X := []) El32 rfl rfl rfl hO (by simpa using hs) (hs.sl (k := 0) (ds := [_]) rfl (Nat.le_refl _) (by intro j u hj; rw [Nat.zero_add]; exact hj)) rfl (by simp [Value.oneCell']) (by omega) ?_
    clear hs; intro v' w Lv' hO' hs
    simp only [List.cons_append, List.nil_append, List.append_nil] at hs
    refine s_assign rfl rfl ?_
    refine WL_nil ?_
    refine n_then ?_
    refine W_ret ?_
    obtain rfl : i = n := by omega
    exact end1 rfl rfl ⟨Lv', by simpa [bls] using hO', hs.tail⟩
/-- the bits of a value, whatever it is -/
def BO.bits2 (o : BO) : List Bool := if o.u = true then List.replicate (capV (IntKind.i64.wrap (o.n : Int))).toNat true ++ [false] else nb o.n (clampV o.c).toNat
theorem BO.bits2_len (o : BO) : o.bits2.length ≤ 65537 := by
  unfold BO.bits2
  have h1 := (capV_nat (IntKind.i64.wrap (o.n : Int))).2
  have h2 := (clampV_nat o.c).2
  split
  · simp; omega
  · rw [nb_length]; omega
theorem of_ok (o : BO) (w0 : World) : Ret Try.prog 15 [.agg o.cells.toArray].toArray w0 fun r w' => ∃ Lr, OwnS 4 1 r o.bits2.length (bls o.bits2) Lr ∧ St [] w0 w' Lr := by
  obtain ⟨u, n, c⟩ := o
  refine Ret_start fun w hs => ?_
  simp only [BO.cells]
  refine Ret_of Try.func15 rfl Try.ntmps15 rfl ?_
  refine W_seq ?_
  refine W_region ?_
  first | refine s_box rfl rfl hs ?_ | refine s_box1 rfl rfl rfl hs ?_
  clear hs; intro b1 w hs
  refine s_assign rfl rfl ?_
  refine WL_nil ?_
  refine n_then ?_
  refine W_seq ?_
  refine W_seq ?_
  refine W_region ?_
  refine s_fieldAddr rfl rfl (FA27_0 _ _) ?_
  first
    | refine s_load Try.isAgg4 rfl rfl (hs.cell (k := 0) rfl rfl) ?_
    | refine s_load Try.isAgg4 rfl rfl (hs.cell (k := 1) rfl rfl) ?_
    | refine s_load Try.isAgg4 rfl rfl (hs.cell (k := 2) rfl rfl) ?_
    | refine s_load Try.isAgg4 rfl rfl (hs.cell (k := 3) rfl rfl) ?_
    | refine s_load Try.isAgg4 rfl rfl (hs.cell (k := 4) rfl rfl) ?_
    | refine s_load Try.isAgg4 rfl rfl (hs.cell (k := 5) rfl rfl) ?_
    | refine s_load Try.isAgg4 rfl rfl (hs.cell (k := 6) rfl rfl) ?_
    | refine s_load Try.isAgg4 rfl rfl (hs.cell (k := 7) rfl rfl) ?_
    | refine s_load Try.isAgg4 rfl rfl (hs.cell (k := 8) rfl rfl) ?_
    | refine s_load Try.isAgg4 rfl rfl (hs.cell (k := 9) rfl rfl) ?_
  refine WL_nil ?_
  refine n_then ?_
  refine W_cond rfl (fun hc4 => ?_) (fun hc4 => ?_)
  · skip
    refine W_seq ?_
    refine W_region ?_
    refine s_fieldAddr rfl rfl (FA27_1 _ _) ?_
    first
      | refine s_load Try.isAgg23 rfl rfl (hs.cell (k := 0) rfl rfl) ?_
      | refine s_load Try.isAgg23 rfl rfl (hs.cell (k := 1) rfl rfl) ?_
      | refine s_load Try.isAgg23 rfl rfl (hs.cell (k := 2) rfl rfl) ?_
      | refine s_load Try.isAgg23 rfl rfl (hs.cell (k := 3) rfl rfl) ?_
      | refine s_load Try.isAgg23 rfl rfl (hs.cell (k := 4) rfl rfl) ?_
      | refine s_load Try.isAgg23 rfl rfl (hs.cell (k := 5) rfl rfl) ?_
      | refine s_load Try.isAgg23 rfl rfl (hs.cell (k := 6) rfl rfl) ?_
      | refine s_load Try.isAgg23 rfl rfl (hs.cell (k := 7) rfl rfl) ?_
      | refine s_load Try.isAgg23 rfl rfl (hs.cell (k := 8) rfl rfl) ?_
      | refine s_load Try.isAgg23 rfl rfl (hs.cell (k := 9) rfl rfl) ?_
    refine s_convert rfl rfl (CV23_3 _) ?_
    refine s_call Try.call44 rfl rfl (refUnary_ok _ w) ?_
    rintro r w ⟨Lr, hr, hst⟩
    replace hs := St.back0 hs hst
    clear hst
    refine s_assign rfl rfl ?_
    refine WL_nil ?_
    refine n_then ?_
    refine W_ret ?_
    refine r_then ?_
    first
      | exact end1 rfl rfl ⟨Lr, by simp only [BO.bits2, hc4, if_true]; exact hr, hs.left⟩
      | exact end1 rfl rfl ⟨Lr, by simp only [BO.bits2, hc4, Bool.false_eq_true, if_false]; exact hr, hs.left⟩
  · skip
    refine W_skip ?_
    refine n_then ?_
    refine W_seq ?_
    refine W_region ?_
    refine s_fieldAddr rfl rfl (FA27_1 _ _) ?_
    first
      | refine s_load Try.isAgg23 rfl rfl (hs.cell (k := 0) rfl rfl) ?_
      | refine s_load Try.isAgg23 rfl rfl (hs.cell (k := 1) rfl rfl) ?_
      | refine s_load Try.isAgg23 rfl rfl (hs.cell (k := 2) rfl rfl) ?_
      | refine s_load Try.isAgg23 rfl rfl (hs.cell (k := 3) rfl rfl) ?_
      | refine s_load Try.isAgg23 rfl rfl (hs.cell (k := 4) rfl rfl) ?_
      | refine s_load Try.isAgg23 rfl rfl (hs.cell (k := 5) rfl rfl) ?_
      | refine s_load Try.isAgg23 rfl rfl (hs.cell (k := 6) rfl rfl) ?_
      | refine s_load Try.isAgg23 rfl rfl (hs.cell (k := 7) rfl rfl) ?_
      | refine s_load Try.isAgg23 rfl rfl (hs.cell (k := 8) rfl rfl) ?_
      | refine s_load Try.isAgg23 rfl rfl (hs.cell (k := 9) rfl rfl) ?_
    refine s_fieldAddr rfl rfl (FA27_2 _ _) ?_
    first
      | refine s_load Try.isAgg3 rfl rfl (hs.cell (k := 0) rfl rfl) ?_
      | refine s_load Try.isAgg3 rfl rfl (hs.cell (k := 1) rfl rfl) ?_
      | refine s_load Try.isAgg3 rfl rfl (hs.cell (k := 2) rfl rfl) ?_
      | refine s_load Try.isAgg3 rfl rfl (hs.cell (k := 3) rfl rfl) ?_
      | refine s_load Try.isAgg3 rfl rfl (hs.cell (k := 4) rfl rfl) ?_
      | refine s_load Try.isAgg3 rfl rfl (hs.cell (k := 5) rfl rfl) ?_
      | refine s_load Try.isAgg3 rfl rfl (hs.cell (k := 6) rfl rfl) ?_
      | refine s_load Try.isAgg3 rfl rfl (hs.cell (k := 7) rfl rfl) ?_
      | refine s_load Try.isAgg3 rfl rfl (hs.cell (k := 8) rfl rfl) ?_
      | refine s_load Try.isAgg3 rfl rfl (hs.cell (k := 9) rfl rfl) ?_
    refine s_call Try.call45 rfl rfl (refBits_ok n c w) ?_
    rintro r w ⟨Lr, hr, hst⟩
    replace hs := St.back0 hs hst
    clear hst
    refine s_assign rfl rfl ?_
    refine WL_nil ?_
    refine n_then ?_
    refine W_ret ?_
    first
      | exact end1 rfl rfl ⟨Lr, by simp only [BO.bits2, hc4, if_true]; exact hr, hs.left⟩
      | exact end1 rfl rfl ⟨Lr, by simp only [BO.bits2, hc4, Bool.false_eq_true, if_false]; exact hr, hs.left⟩
theorem write2_ok (p : Nat) (bs : List Bool) (o : BO) (hn : o.n < 18446744073709551616) (L0 : Hp) (w0 : World) (hW : WbAt p bs L0) (hs : St (ids L0) w0 w0 L0) (hl : bs.length ≤ 549755813888) :
    Ret Try.prog 14 [.pointer (some ⟨p, 0, none⟩), .agg o.cells.toArray].toArray w0 fun r w' => ∃ L', St (ids L0) w0 w' L' ∧ WbAt p (bs ++ o.bits2) L' ∧ r = .tuple #[] := by
  obtain ⟨u, n, c⟩ := o
  simp only at hn
  refine Ret_startL hs fun w hs => ?_
  simp only [BO.cells]
  refine Ret_of Try.func14 rfl Try.ntmps14 rfl ?_
  refine W_seq ?_
  refine W_region ?_
  first | refine s_box rfl rfl hs ?_ | refine s_box1 rfl rfl rfl hs ?_
  clear hs; intro b3 w hs
  refine WL_nil ?_
  refine n_then ?_
  refine W_seq ?_
  refine W_region ?_
  refine s_fieldAddr rfl rfl (FA27_0 _ _) ?_
  first
    | refine s_load Try.isAgg4 rfl rfl (hs.cell (k := 0) rfl rfl) ?_
    | refine s_load Try.isAgg4 rfl rfl (hs.cell (k := 1) rfl rfl) ?_
    | refine s_load Try.isAgg4 rfl rfl (hs.cell (k := 2) rfl rfl) ?_
    | refine s_load Try.isAgg4 rfl rfl (hs.cell (k := 3) rfl rfl) ?_
    | refine s_load Try.isAgg4 rfl rfl (hs.cell (k := 4) rfl rfl) ?_
    | refine s_load Try.isAgg4 rfl rfl (hs.cell (k := 5) rfl rfl) ?_
    | refine s_load Try.isAgg4 rfl rfl (hs.cell (k := 6) rfl rfl) ?_
    | refine s_load Try.isAgg4 rfl rfl (hs.cell (k := 7) rfl rfl) ?_
    | refine s_load Try.isAgg4 rfl rfl (hs.cell (k := 8) rfl rfl) ?_
    | refine s_load Try.isAgg4 rfl rfl (hs.cell (k := 9) rfl rfl) ?_
  refine WL_nil ?_
  refine n_then ?_
  refine W_cond rfl (fun hc5 => ?_) (fun hc5 => ?_)
  · skip
    refine W_region ?_
    refine s_move rfl rfl ?_
    refine s_fieldAddr rfl rfl (FA27_1 _ _) ?_
    first
      | refine s_load Try.isAgg23 rfl rfl (hs.cell (k := 0) rfl rfl) ?_
      | refine s_load Try.isAgg23 rfl rfl (hs.cell (k := 1) rfl rfl) ?_
      | refine s_load Try.isAgg23 rfl rfl (hs.cell (k := 2) rfl rfl) ?_
      | refine s_load Try.isAgg23 rfl rfl (hs.cell (k := 3) rfl rfl) ?_
      | refine s_load Try.isAgg23 rfl rfl (hs.cell (k := 4) rfl rfl) ?_
      | refine s_load Try.isAgg23 rfl rfl (hs.cell (k := 5) rfl rfl) ?_
      | refine s_load Try.isAgg23 rfl rfl (hs.cell (k := 6) rfl rfl) ?_
      | refine s_load Try.isAgg23 rfl rfl (hs.cell (k := 7) rfl rfl) ?_
      | refine s_load Try.isAgg23 rfl rfl (hs.cell (k := 8) rfl rfl) ?_
      | refine s_load Try.isAgg23 rfl rfl (hs.cell (k := 9) rfl rfl) ?_
    refine s_convert rfl rfl (CV23_3 _) ?_
    refine s_callL (M := [_]) (L1 := L0) (X := []) Try.call34 rfl rfl (by simpa using hs) (fun h => wUnary_ok p bs _ L0 w hW h hl) ?_
    clear hs; rintro v w L2 ⟨hW2, rfl⟩ - hs
    simp only [List.cons_append, List.nil_append, List.append_nil] at hs
    refine WL_nil ?_
    refine end0' rfl ⟨L2, hs.tail, ?_, rfl⟩
    first
      | (simp only [BO.bits2, hc5, if_true]; exact hW2)
      | (simp only [BO.bits2, hc5, Bool.false_eq_true, if_false]; exact hW2)
  · skip
    refine W_region ?_
    refine s_move rfl rfl ?_
    refine s_fieldAddr rfl rfl (FA27_1 _ _) ?_
    first
      | refine s_load Try.isAgg23 rfl rfl (hs.cell (k := 0) rfl rfl) ?_
      | refine s_load Try.isAgg23 rfl rfl (hs.cell (k := 1) rfl rfl) ?_
      | refine s_load Try.isAgg23 rfl rfl (hs.cell (k := 2) rfl rfl) ?_
      | refine s_load Try.isAgg23 rfl rfl (hs.cell (k := 3) rfl rfl) ?_
      | refine s_load Try.isAgg23 rfl rfl (hs.cell (k := 4) rfl rfl) ?_
      | refine s_load Try.isAgg23 rfl rfl (hs.cell (k := 5) rfl rfl) ?_
      | refine s_load Try.isAgg23 rfl rfl (hs.cell (k := 6) rfl rfl) ?_
      | refine s_load Try.isAgg23 rfl rfl (hs.cell (k := 7) rfl rfl) ?_
      | refine s_load Try.isAgg23 rfl rfl (hs.cell (k := 8) rfl rfl) ?_
      | refine s_load Try.isAgg23 rfl rfl (hs.cell (k := 9) rfl rfl) ?_
    refine s_fieldAddr rfl rfl (FA27_2 _ _) ?_
    first
      | refine s_load Try.isAgg3 rfl rfl (hs.cell (k := 0) rfl rfl) ?_
      | refine s_load Try.isAgg3 rfl rfl (hs.cell (k := 1) rfl rfl) ?_
      | refine s_load Try.isAgg3 rfl rfl (hs.cell (k := 2) rfl rfl) ?_
      | refine s_load Try.isAgg3 rfl rfl (hs.cell (k := 3) rfl rfl) ?_
      | refine s_load Try.isAgg3 rfl rfl (hs.cell (k := 4) rfl rfl) ?_
      | refine s_load Try.isAgg3 rfl rfl (hs.cell (k := 5) rfl rfl) ?_
      | refine s_load Try.isAgg3 rfl rfl (hs.cell (k := 6) rfl rfl) ?_
      | refine s_load Try.isAgg3 rfl rfl (hs.cell (k := 7) rfl rfl) ?_
      | refine s_load Try.isAgg3 rfl rfl (hs.cell (k := 8) rfl rfl) ?_
      | refine s_load Try.isAgg3 rfl rfl (hs.cell (k := 9) rfl rfl) ?_
    refine s_callL (M := [_]) (L1 := L0) (X := []) Try.call33 rfl rfl (by simpa using hs) (fun h => wBits_ok p bs n c L0 w hW h hn hl) ?_
    clear hs; rintro v w L2 ⟨hW2, rfl⟩ - hs
    simp only [List.cons_append, List.nil_append, List.append_nil] at hs
    refine WL_nil ?_
    refine end0' rfl ⟨L2, hs.tail, ?_, rfl⟩
    first
      | (simp only [BO.bits2, hc5, if_true]; exact hW2)
      | (simp only [BO.bits2, hc5, Bool.false_eq_true, if_false]; exact hW2)
/-! Pack -/
theorem shl7 (k : Nat) (hk : k < 8) : IntKind.u8.wrap (1 * 2 ^ (min (((7 - k : Nat) : Nat) : Int).toNat IntKind.u8.bits)) = ((128 / 2 ^ k : Nat) : Int) := by
  have hc : k = 0 ∨ k = 1 ∨ k = 2 ∨ k = 3 ∨ k = 4 ∨ k = 5 ∨ k = 6 ∨ k = 7 := by omega
  rcases hc with h | h | h | h | h | h | h | h <;> subst h <;> rfl
theorem pack_ok (v : Value) (bs : List Bool) (w0 : World) (hv : Sl w0 v bs.length (bls bs)) (hl : bs.length ≤ 4294967296) :
    Ret Try.prog 19 [v].toArray w0 fun r w' => ∃ Lr, OwnS 5 1 r (pk bs).length (u8s (pk bs)) Lr ∧ St [] w0 w' Lr := by
  obtain ⟨a, c, rfl, hac⟩ := hv.len_le
  refine Ret_start fun w hs => ?_
  refine Ret_of Try.func19 rfl Try.ntmps19 rfl ?_
  refine W_seq ?_
  refine W_region ?_
  refine s_assign rfl rfl ?_
  refine WL_nil ?_
  refine n_then ?_
  refine W_seq ?_
  refine W_region ?_
  refine s_assign rfl rfl ?_
  refine WL_nil ?_
  refine n_then ?_
  refine W_seq ?_
  refine W_seq ?_
  refine W_region ?_
  refine s_assign rfl rfl ?_
  refine WL_nil ?_
  refine n_then ?_
  refine W_block ?_
  refine W_loop (σ := Nat × Value × Hp) (fun s => [(0, .slice a bs.length c), (3, s.2.1), (4, .int .i64 (s.1 : Int))]) (fun s w => St [] w0 w s.2.2 ∧ OwnS 5 1 s.2.1 (pk (bs.take s.1)).length (u8s (pk (bs.take s.1))) s.2.2 ∧ s.1 ≤ bs.length) (fun s => bs.length - s.1) (0, .slice none 0 0, []) ⟨rfl, rfl, rfl, trivial⟩ ⟨hs, (by simp only [List.take_zero]; exact OwnS.nil _ _), Nat.zero_le _⟩ ?_
  clear hs
  rintro ⟨i, v3, Lv⟩ w ⟨hs, hO, hi⟩
  simp only at hs hO hi ⊢
  refine W_seq ?_
  refine W_seq ?_
  refine W_region ?_
  refine s_move rfl rfl ?_
  refine s_move rfl rfl ?_
  refine s_len rfl rfl (LN32 _ _ _ _) ?_
  refine s_lss rfl rfl rfl ?_
  refine WL_nil ?_
  refine n_then ?_
  refine W_cond rfl (fun hc8 => ?_) (fun hc8 => ?_)
  · skip
    try simp only [decide_eq_true_eq, decide_eq_false_iff_not, beq_iff_eq, beq_eq_false_iff_ne, ne_eq] at hc8
    have hix : i < bs.length := by omega
    have hti : (bs.take i).length = i := by simp; omega
    have hpl := pk_length (bs.take i)
    rw [hti] at hpl
    have htk : bs.take (i + 1) = bs.take i ++ [bs[i]] := List.take_succ_eq_append_getElem hix
    obtain ⟨b1, o1, hA1, hc1⟩ := hv.at (k := i) (u := .bool bs[i]) (by simp [hix])
    have hB1 : b1 < w0.heap.size := World.block_lt_of_cell? w0 _ hc1
    generalize hbi : bs[i] = bb at hc1 htk
    generalize htake : bs.take i = cs at *
    obtain rfl : cs.length = i := hti
    refine W_skip ?_
    refine n_then ?_
    refine W_seq ?_
    refine W_block ?_
    refine W_cut (σ := Value × Hp) (fun s => [(0, .slice a bs.length c), (3, s.1), (4, .int .i64 (cs.length : Int))]) (fun s w => St [] w0 w s.2 ∧ OwnS 5 1 s.1 (pkx cs).length (u8s (pkx cs)) s.2) ?_ ?_
    · skip
      refine W_seq ?_
      refine W_region ?_
      refine s_move rfl rfl ?_
      first | (refine s_rem' rfl rfl rfl ?hx ?_; case hx => (refine ⟨?_, ?_⟩ <;> omega)) | (refine s_rem rfl rfl rfl ?hx ?_; case hx => omega)
      refine s_eql rfl rfl rfl ?_
      refine WL_nil ?_
      refine n_then ?_
      refine W_cond rfl (fun hc13 => ?_) (fun hc13 => ?_)
      · skip
        try simp only [decide_eq_true_eq, decide_eq_false_iff_not, beq_iff_eq, beq_eq_false_iff_ne, ne_eq] at hc13
        refine W_region ?_
        refine s_move rfl rfl ?_
        refine s_buildSlice rfl rfl (BS29_1 _) hs ?_; clear hs; intro b15 w hs
        refine s_appendM (M := [_]) (X := []) El29 rfl rfl rfl hO (by simpa using hs) (hs.sl (k := 0) (ds := [_]) rfl (Nat.le_refl _) (by intro j u hj; rw [Nat.zero_add]; exact hj)) rfl (by simp [Value.oneCell']) (by omega) ?_
        clear hs; intro v' w Lv' hO' hs
        simp only [List.cons_append, List.nil_append, List.append_nil] at hs
        refine s_assign rfl rfl ?_
        refine WL_nil ?_
        refine n_loop ?_
        first
          | exact ⟨(_, _), ⟨rfl, rfl, rfl, trivial⟩, hs.tail, by simp only; rw [← pk_pkx_new (by omega)]; simpa using hO'⟩
          | exact ⟨(_, _), ⟨rfl, rfl, rfl, trivial⟩, hs, by simp only; rw [← pk_pkx_old (by omega)]; exact hO⟩
      · skip
        try simp only [decide_eq_true_eq, decide_eq_false_iff_not, beq_iff_eq, beq_eq_false_iff_ne, ne_eq] at hc13
        refine W_skip ?_
        refine n_loop ?_
        first
          | exact ⟨(_, _), ⟨rfl, rfl, rfl, trivial⟩, hs.tail, by simp only; rw [← pk_pkx_new (by omega)]; simpa using hO'⟩
          | exact ⟨(_, _), ⟨rfl, rfl, rfl, trivial⟩, hs, by simp only; rw [← pk_pkx_old (by omega)]; exact hO⟩
    · skip
      clear hs hO hpl
      rintro ⟨v, Lb⟩ w ⟨hs, hO⟩
      simp only at hs hO
      have hxl := pkx_length cs
      obtain ⟨g, vc, sp, rfl, hgc, rfl⟩ := hO.block (by omega)
      simp only
      rw [hxl] at hO ⊢
      have hat : (u8s (pkx cs) ++ sp)[cs.length / 8]? = some (.int .u8 (byteAt cs (cs.length / 8) : Int)) := by
        rw [List.getElem?_append_left (by simp [hxl])]; simp [u8s, pkx_at (show cs.length / 8 < cs.length / 8 + 1 by omega)]
      have hlt : byteAt cs (cs.length / 8) + 128 / 2 ^ (cs.length % 8) < 256 := by
        have h1 := byteAt_lt (cs ++ [true]) (cs.length / 8)
        rw [byteAt_snoc, if_pos rfl] at h1
        simpa using h1
      refine W_seq ?_
      refine W_region ?_
      refine s_move rfl rfl ?_
      refine s_move rfl rfl ?_
      (refine s_indexAddrO El32 rfl rfl rfl hA1 ?hx ?_; case hx => (constructor <;> omega))
      refine s_load Try.isAgg4 rfl rfl ((hs.oldcell (a := ⟨b1, o1 + cs.length, none⟩) hB1 (by simp)).trans hc1) ?_
      refine WL_nil ?_
      refine n_then ?_
      refine W_cond rfl (fun hc20 => ?_) (fun hc20 => ?_)
      · skip
        try simp only [decide_eq_true_eq, decide_eq_false_iff_not, beq_iff_eq, beq_eq_false_iff_ne, ne_eq] at hc20
        refine W_region ?_
        refine s_move rfl rfl ?_
        refine s_move rfl rfl ?_
        (refine s_quo' rfl rfl rfl ?hx ?_; case hx => (refine ⟨?_, ?_, ?_⟩ <;> omega))
        rw [show (cs.length : Int) / 8 = ((cs.length / 8 : Nat) : Int) from by omega]
        refine s_move rfl rfl ?_
        refine s_move rfl rfl ?_
        (refine s_quo' rfl rfl rfl ?hx ?_; case hx => (refine ⟨?_, ?_, ?_⟩ <;> omega))
        rw [show (cs.length : Int) / 8 = ((cs.length / 8 : Nat) : Int) from by omega]
        (refine s_indexAddr1 El29 rfl rfl rfl ?hx ?_; case hx => (constructor <;> omega))
        rw [show 0 + ((cs.length / 8 : Nat) : Int).toNat = cs.length / 8 from by omega]
        refine s_load Try.isAgg5 rfl rfl (hs.cell (k := 0) rfl hat) ?_
        refine s_move rfl rfl ?_
        (refine s_rem' rfl rfl rfl ?hx ?_; case hx => (refine ⟨?_, ?_⟩ <;> omega))
        rw [show (cs.length : Int) % 8 = ((cs.length % 8 : Nat) : Int) from by omega]
        (refine s_sub' rfl rfl rfl ?hx ?_; case hx => (constructor <;> omega))
        rw [show (7 : Int) - ((cs.length % 8 : Nat) : Int) = ((7 - cs.length % 8 : Nat) : Int) from by omega]
        refine s_convert rfl rfl (CV3_64 _) ?_
        rw [IntWalk.u64_in _ (by omega)]
        (refine s_shl rfl rfl rfl ?hx ?_; case hx => omega)
        rw [shl7 _ (by omega)]
        refine s_add rfl rfl rfl ?_
        rw [← Int.natCast_add, u8w, Nat.mod_eq_of_lt hlt]
        (refine s_indexAddr1 El29 rfl rfl rfl ?hx ?_; case hx => (constructor <;> omega))
        rw [show 0 + ((cs.length / 8 : Nat) : Int).toNat = cs.length / 8 from by omega]
        refine s_store Try.sizeOf5 rfl rfl rfl hs (kk := 0) rfl (by simp [hxl]; omega) ?_
        clear hs; intro w hs
        simp only [List.set_cons_zero, List.set_cons_succ] at hs
        refine WL_nil ?_
        refine n_blk ?_
        refine n_then ?_
        refine W_region ?_
        refine s_move rfl rfl ?_
        first | (refine s_add' rfl rfl rfl ?hx ?_; case hx => (constructor <;> first | omega | (simp only; omega))) | refine s_add rfl rfl rfl ?_
        refine s_assign rfl rfl ?_
        refine WL_nil ?_
        refine n_loop ?_
        first
          | (subst hc20
             refine ⟨(cs.length + 1, _, _), ⟨rfl, rfl, rfl, trivial⟩, ⟨hs, ?_, by simp only; omega⟩, by simp only; omega⟩
             simp only
             rw [htk, pk_snoc]
             simp only [Bool.toNat_true, Nat.one_mul, List.length_set, hxl]
             exact own_set8 _ hO (by omega))
          | (subst hc20
             refine ⟨(cs.length + 1, _, _), ⟨rfl, rfl, rfl, trivial⟩, ⟨hs, ?_, by simp only; omega⟩, by simp only; omega⟩
             simp only
             rw [htk, pk_snoc_false, hxl]
             exact hO)
      · skip
        try simp only [decide_eq_true_eq, decide_eq_false_iff_not, beq_iff_eq, beq_eq_false_iff_ne, ne_eq] at hc20
        refine W_skip ?_
        refine n_blk ?_
        refine n_then ?_
        refine W_region ?_
        refine s_move rfl rfl ?_
        first | (refine s_add' rfl rfl rfl ?hx ?_; case hx => (constructor <;> first | omega | (simp only; omega))) | refine s_add rfl rfl rfl ?_
        refine s_assign rfl rfl ?_
        refine WL_nil ?_
        refine n_loop ?_
        first
          | (subst hc20
             refine ⟨(cs.length + 1, _, _), ⟨rfl, rfl, rfl, trivial⟩, ⟨hs, ?_, by simp only; omega⟩, by simp only; omega⟩
             simp only
             rw [htk, pk_snoc]
             simp only [Bool.toNat_true, Nat.one_mul, List.length_set, hxl]
             exact own_set8 _ hO (by omega))
          | (subst hc20
             refine ⟨(cs.length + 1, _, _), ⟨rfl, rfl, rfl, trivial⟩, ⟨hs, ?_, by simp only; omega⟩, by simp only; omega⟩
             simp only
             rw [htk, pk_snoc_false, hxl]
             exact hO)
  · skip
    try simp only [decide_eq_true_eq, decide_eq_false_iff_not, beq_iff_eq, beq_eq_false_iff_ne, ne_eq] at hc8
    refine W_exit ?_
    refine x_then ?_
    refine x_then ?_
    refine exit_hit ?_
    refine n_then ?_
    refine W_seq ?_
    refine W_region ?_
    refine s_move rfl rfl ?_
    refine s_assign rfl rfl ?_
    refine WL_nil ?_
    refine n_then ?_
    refine W_ret ?_
    rw [List.take_of_length_le (show bs.length ≤ i by omega)] at hO
    exact end1 rfl rfl ⟨Lv, hO, hs⟩
/-! the law -/
def obits2 (os : List BO) : List Bool := os.flatMap BO.bits2
theorem obits2_len (os : List BO) : (obits2 os).length ≤ 65537 * os.length := by
  induction os with
  | nil => simp [obits2]
  | cons o os ih =>
    have := o.bits2_len
    simp only [obits2, List.flatMap_cons, List.length_append, List.length_cons] at ih ⊢
    omega
set_option maxHeartbeats 4000000 in
theorem bitsWrites_ok (v : Value) (xs : List Int) (n : Nat) (cnt long : Int) (w0 : World) (hv : Sl w0 v xs.length (i64s xs)) (hx : ∀ z ∈ xs, isI64 z) (hn : n < 18446744073709551616) (hlong : isI64 long) :
    Ret Try.prog 3 [v, .int .u64 (n : Int), .int .i64 cnt, .int .i64 long].toArray w0 fun r w' => Fwd [] w0 w' ∧ r = .bool true := by
  refine Ret_start fun w hs => ?_
  refine Ret_of Try.func3 rfl Try.ntmps3 rfl ?_
  refine W_seq ?_
  refine W_region ?_
  refine s_assign rfl rfl ?_
  refine WL_nil ?_
  refine n_then ?_
  refine W_seq ?_
  refine W_region ?_
  refine s_move rfl rfl ?_
  refine s_call Try.call12 rfl rfl (ops_ok v xs w (hv.fwd0 hs.fwd) hx) ?_
  rintro r w ⟨os0, Lo, hO, hst, hg0, hol⟩
  replace hs := St.back0 hs hst
  simp only [List.append_nil] at hs
  clear hst
  obtain ⟨_, oc0, oa0, rfl, rfl⟩ := hO.form
  refine s_move rfl rfl ?_
  refine s_move rfl rfl ?_
  refine s_build rfl rfl (BD27_1_2 _ _) ?_
  refine s_move rfl rfl ?_
  refine s_call Try.call13 rfl rfl (bound_ok long 2000 w hlong (by omega)) ?_
  rintro r w1 ⟨hw1, rfl⟩
  rw [hw1]; clear hw1 w1
  have hbr := boundV_range (n := long) (m := 2000) (by omega)
  generalize boundV long 2000 = bz at hbr
  first | (refine s_add' rfl rfl rfl ?hx ?_; case hx => (constructor <;> first | omega | (simp only; omega))) | refine s_add rfl rfl rfl ?_
  refine s_convert rfl rfl (CV3_23 _) ?_
  obtain ⟨m, hm, hm2⟩ := wrapU_nat (bz + 1500)
  rw [hm]
  refine s_build rfl rfl (BD27_0_1 _ _) ?_
  refine s_buildSlice rfl rfl (BS24_2 _ _ _ _ _ _) hs ?_; clear hs; intro b23 w hs
  refine s_appendM (M := [_]) (X := []) El24 rfl rfl rfl hO (by simpa using hs) (hs.sl (k := 0) (ds := [_, _, _, _, _, _]) rfl (Nat.le_refl _) (by intro j u hj; rw [Nat.zero_add]; exact hj)) rfl (by simp [Value.oneCell']) (by omega) ?_
  clear hs; intro v' w Lo hO' hs
  have hO2 : OwnS 27 3 v' (os0 ++ [(⟨false, n, cnt⟩ : BO), (⟨true, m, 0⟩ : BO)]).length (bcells (os0 ++ [(⟨false, n, cnt⟩ : BO), (⟨true, m, 0⟩ : BO)])) Lo := by simpa [bcells, BO.cells] using hO'
  have hg : ∀ o ∈ os0 ++ [(⟨false, n, cnt⟩ : BO), (⟨true, m, 0⟩ : BO)], o.n < 18446744073709551616 := by
    intro x hx
    rcases List.mem_append.1 hx with h | h
    · exact (hg0 x h).n
    · simp only [List.mem_cons, List.not_mem_nil, or_false] at h
      rcases h with rfl | rfl
      · exact hn
      · exact hm2
  have hol2 : (os0 ++ [(⟨false, n, cnt⟩ : BO), (⟨true, m, 0⟩ : BO)]).length ≤ 14 := by simp; omega
  generalize os0 ++ [(⟨false, n, cnt⟩ : BO), (⟨true, m, 0⟩ : BO)] = os at hO2 hg hol2
  clear hO' hO hg0
  obtain ⟨_, oc, oa, rfl, rfl⟩ := hO2.form
  replace hs : St [] w0 w Lo := by simpa using hs.tail
  have hlen : ∀ i, (obits2 (os.take i)).length ≤ 917518 := fun i => by
    have h1 := obits2_len (os.take i)
    have h2 : (os.take i).length ≤ 14 := by simp; omega
    omega
  refine s_assign rfl rfl ?_
  refine WL_nil ?_
  refine n_then ?_
  refine W_seq ?_
  refine W_region ?_
  refine s_alloc rfl AL31 hs ?_; clear hs; intro b10 w hs
  refine WL_nil ?_
  refine n_then ?_
  refine W_seq ?_
  refine W_region ?_
  refine s_assign rfl rfl ?_
  refine WL_nil ?_
  refine n_then ?_
  refine W_seq ?_
  refine W_seq ?_
  refine W_region ?_
  refine s_assign rfl rfl ?_
  refine WL_nil ?_
  refine n_then ?_
  refine W_block ?_
  refine W_loop (σ := Nat × Hp × Value × Hp) (fun s => [(9, .slice oa os.length oc), (10, .pointer (some ⟨b10, 0, none⟩)), (11, s.2.2.1), (12, .int .i64 (s.1 : Int))]) (fun s w => St [] w0 w (s.2.1 ++ (s.2.2.2 ++ Lo)) ∧ WbAt b10 (obits2 (os.take s.1)) s.2.1 ∧ OwnS 4 1 s.2.2.1 (obits2 (os.take s.1)).length (bls (obits2 (os.take s.1))) s.2.2.2 ∧ s.1 ≤ os.length) (fun s => os.length - s.1) (0, [_], .slice none 0 0, []) ⟨rfl, rfl, rfl, rfl, trivial⟩ ⟨hs, wb_new b10, OwnS.nil _ _, Nat.zero_le _⟩ ?_
  clear hs
  rintro ⟨i, LW, vt, LV⟩ w ⟨hs, hW, hV, hil⟩
  simp only at hs hW hV hil ⊢
  have hl1 := hlen i
  have hl2 := hlen (i + 1)
  refine W_seq ?_
  refine W_seq ?_
  refine W_region ?_
  refine s_move rfl rfl ?_
  refine s_move rfl rfl ?_
  refine s_len rfl rfl (LN24 _ _ _ _) ?_
  refine s_lss rfl rfl rfl ?_
  refine WL_nil ?_
  refine n_then ?_
  refine W_cond rfl (fun hc28 => ?_) (fun hc28 => ?_)
  · skip
    try simp only [decide_eq_true_eq, decide_eq_false_iff_not, beq_iff_eq, beq_eq_false_iff_ne, ne_eq, bne_iff_ne, bne_eq_false_iff_eq] at hc28
    have hix : i < os.length := by omega
    have hxi : os[i]? = some os[i] := List.getElem?_eq_getElem hix
    have hxm : os[i] ∈ os := List.getElem_mem hix
    have htk : obits2 (os.take (i + 1)) = obits2 (os.take i) ++ os[i].bits2 := by rw [List.take_succ_eq_append_getElem hix, obits2, List.flatMap_append]; simp [obits2]
    obtain ⟨g, cap, sp, hgv, hcap, rfl⟩ := hO2.block (by omega)
    cases hgv
    have cc : ∀ j u, j < 3 → os[i].cells[j]? = some u → (bcells os ++ sp)[0 + (i : Int).toNat * 3 + j]? = some u := fun j u hj hu => by
      rw [Nat.zero_add, Int.toNat_natCast, List.getElem?_append_left (by rw [bcells_length]; omega), bcells_at hj hxi]; exact hu
    have hxn := hg os[i] hxm
    generalize os[i] = x at cc htk hxn
    replace hs : St [] w0 w ((g, Blk 27 (bcells os ++ sp)) :: (LW ++ LV)) := by simpa [cat] using St.reord [LW, LV, [_]] [2, 0, 1] [] (by simpa [cat] using hs) rfl
    refine W_skip ?_
    refine n_then ?_
    refine W_seq ?_
    refine W_block ?_
    refine W_seq ?_
    refine W_region ?_
    refine s_move rfl rfl ?_
    refine s_move rfl rfl ?_
    (refine s_indexAddr El24 rfl rfl rfl ?hx ?_; case hx => (constructor <;> first | omega | (simp; omega)))
    refine s_load_3 Try.isAgg27 Try.sizeOf27 rfl rfl (hs.cell (k := 0) rfl (cc 0 _ (by omega) rfl)) (hs.cell (k := 0) rfl (cc 1 _ (by omega) rfl)) (hs.cell (k := 0) rfl (cc 2 _ (by omega) rfl)) ?_
    refine s_callL (M := [_]) (L1 := LW) (X := LV) Try.call14 rfl rfl hs (fun h => write2_ok b10 _ x hxn LW w hW h (by omega)) ?_
    clear hs hW; rintro v w LW ⟨hW, rfl⟩ - hs
    rw [← htk] at hW
    simp only [List.cons_append, List.nil_append] at hs
    refine WL_nil ?_
    refine n_then ?_
    refine W_seq ?_
    refine W_region ?_
    refine s_move rfl rfl ?_
    refine s_move rfl rfl ?_
    refine s_move rfl rfl ?_
    (refine s_indexAddr El24 rfl rfl rfl ?hx ?_; case hx => (constructor <;> first | omega | (simp; omega)))
    refine s_load_3 Try.isAgg27 Try.sizeOf27 rfl rfl (hs.cell (k := 0) rfl (cc 0 _ (by omega) rfl)) (hs.cell (k := 0) rfl (cc 1 _ (by omega) rfl)) (hs.cell (k := 0) rfl (cc 2 _ (by omega) rfl)) ?_
    refine s_call Try.call15 rfl rfl (of_ok x w) ?_
    rintro r w ⟨Lq, hq, hst⟩
    replace hs := St.back0 hs hst
    clear hst
    have hxl : (obits2 (os.take i)).length + x.bits2.length ≤ 917518 := by rw [htk, List.length_append] at hl2; exact hl2
    refine s_appendM (M := Lq ++ _ :: LW) (X := []) El32 rfl rfl rfl hV (by simpa using hs) (hq.sl (M := _ :: (LW ++ LV)) hs) (by simp) (bls_one _) (by omega) ?_
    clear hs hV; intro vt w LV hV hs
    rw [← List.length_append, ← List.map_append, ← htk] at hV
    replace hs : St [] w0 w (LW ++ (LV ++ [(g, Blk 27 (bcells os ++ sp))])) := by simpa [cat] using St.reord [Lq, [_], LW, LV] [2, 3, 1] [0] (by simpa [cat] using hs) rfl
    obtain ⟨_, tc, ta, rfl, rfl⟩ := hV.form
    refine s_assign rfl rfl ?_
    refine WL_nil ?_
    refine n_then ?_
    refine W_seq ?_
    refine W_region ?_
    refine s_callL (M := []) (L1 := LW) (X := LV ++ [_]) Try.call16 rfl rfl hs (fun h => wLen_ok b10 _ _ w hW h) ?_
    clear hs; rintro v w L9 ⟨hL9, rfl⟩ - hs
    rw [hL9] at hs; clear hL9 L9
    simp only [List.nil_append] at hs
    refine s_move rfl rfl ?_
    refine s_len rfl rfl (LN32 _ _ _ _) ?_
    refine s_neq rfl rfl rfl ?_
    refine s_move rfl rfl ?_
    refine WL_know (s := 47) (c := false) rfl ((by simp)) ?_
    refine WL_take rfl ?_
    refine s_callL (M := []) (L1 := LW) (X := LV ++ [_]) Try.call18 rfl rfl hs (fun h => wDone_ok b10 _ _ w hW h (by omega)) ?_
    clear hs; rintro vd w L9 ⟨Ld, rfl, hd⟩ - hs
    simp only [List.nil_append, List.append_assoc] at hs
    refine WL_take rfl ?_
    refine s_move rfl rfl ?_
    refine WL_take rfl ?_
    refine s_call Try.call19 rfl rfl (pack_ok _ _ w (hV.slM (M := LW ++ Ld) (X := [_]) (by simpa using hs)) (by omega)) ?_
    rintro r w ⟨Lp, hp, hst⟩
    replace hs := St.back0 hs hst
    clear hst
    have hpl := pk_length (obits2 (os.take (i + 1)))
    refine WL_take rfl ?_
    refine s_call Try.call17 rfl rfl (sameBytes_ok _ _ _ _ w (hd.slM (M := Lp ++ LW) (X := LV ++ [_]) (by simpa using hs)) (hp.sl (M := LW ++ (Ld ++ (LV ++ [_]))) hs) (by omega)) ?_
    rintro r w ⟨hst, rfl⟩
    replace hs := hs.fwd1 hst
    clear hst
    refine WL_take rfl ?_
    refine s_not rfl rfl ?_
    refine s_pick_f rfl rfl rfl ?_
    refine WL_nil ?_
    refine n_then ?_
    refine W_cond_kf rfl ((by simp)) ?_
    refine W_skip ?_
    refine n_blk ?_
    refine n_then ?_
    refine W_region ?_
    refine s_move rfl rfl ?_
    first | (refine s_add' rfl rfl rfl ?hx ?_; case hx => (constructor <;> first | omega | (simp only; omega))) | refine s_add rfl rfl rfl ?_
    refine s_assign rfl rfl ?_
    refine WL_nil ?_
    refine n_loop ?_
    exact ⟨(i + 1, LW, _, LV), ⟨rfl, rfl, rfl, rfl, trivial⟩, ⟨by simpa [cat] using St.reord [Lp, LW, Ld, LV, [_]] [1, 3, 4] [0, 2] (by simpa [cat] using hs) rfl, hW, hV, by simp only; omega⟩, by simp only; omega⟩
  · skip
    try simp only [decide_eq_true_eq, decide_eq_false_iff_not, beq_iff_eq, beq_eq_false_iff_ne, ne_eq, bne_iff_ne, bne_eq_false_iff_eq] at hc28
    refine W_exit ?_
    refine x_then ?_
    refine x_then ?_
    refine exit_hit ?_
    refine n_then ?_
    refine W_seq ?_
    refine W_region ?_
    refine s_call Try.call20 rfl rfl (lives_ok w) ?_
    rintro r w ⟨hst, rfl⟩
    replace hs := hs.fwd1 hst
    clear hst
    refine s_assign rfl rfl ?_
    refine WL_nil ?_
    refine n_then ?_
    refine W_ret ?_
    exact end1 rfl rfl ⟨hs.fwd, rfl⟩
end Go.Proofs.Ytifegkpjbdgniaa
