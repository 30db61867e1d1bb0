/- BitsOrder. -/
import Derived.Test.YtifegkpjbdgniaaBtQ
import Derived.Test.YtifegkpjbdgniaaStr
set_option linter.unusedVariables false
set_option linter.unusedSimpArgs false
namespace Go.Proofs.Ytifegkpjbdgniaa
open Go.SL
theorem range8 (k : Nat) (f : Nat → Bool) : (List.range (8 * (k + 1))).map f = (List.range (8 * k)).map f ++ [f (8 * k), f (8 * k + 1), f (8 * k + 2), f (8 * k + 3), f (8 * k + 4), f (8 * k + 5), f (8 * k + 6), f (8 * k + 7)] := by
  rw [show 8 * (k + 1) = 8 * k + 1 + 1 + 1 + 1 + 1 + 1 + 1 + 1 by omega]
  simp only [List.range_succ, List.map_append, List.map_cons, List.map_nil, List.append_assoc, List.cons_append, List.nil_append]
theorem bv_snoc (xs : List Int) (x : Int) : bv (xs ++ [x]) = 256 * bv xs + x := by simp [bv]
theorem bv_bytes (bs : List Bool) : ∀ k, bv ((List.range k).map fun j => (byteAt bs j : Int)) = (va ((List.range (8 * k)).map (gb bs)) : Int)
  | 0 => rfl
  | k + 1 => by
    rw [List.range_succ, List.map_append, List.map_singleton, bv_snoc, bv_bytes bs k, range8]
    unfold va
    rw [List.foldl_append]
    generalize List.foldl (fun a (b : Bool) => 2 * a + b.toNat) 0 ((List.range (8 * k)).map (gb bs)) = A
    unfold byteAt b8
    simp only [List.foldl_cons, List.foldl_nil, Nat.add_zero]
    omega
theorem map_gb (bs : List Bool) (m : Nat) (h : bs.length ≤ m) : (List.range m).map (gb bs) = bs ++ List.replicate (m - bs.length) false := by
  apply List.ext_getElem?
  intro i
  rcases Nat.lt_or_ge i m with hi | hi
  · rw [List.getElem?_map, List.getElem?_range hi]
    rcases Nat.lt_or_ge i bs.length with hb | hb
    · rw [List.getElem?_append_left hb, List.getElem?_eq_getElem hb]; simp [gb, hb]
    · rw [List.getElem?_append_right hb, List.getElem?_replicate, if_pos (by omega)]; simp [gb, hb]
  · rw [List.getElem?_eq_none (by simpa using hi), List.getElem?_eq_none (by simp; omega)]
theorem va_zeros (bs : List Bool) : ∀ r, va (bs ++ List.replicate r false) = va bs * 2 ^ r
  | 0 => by simp
  | r + 1 => by rw [List.replicate_succ', ← List.append_assoc, va_snoc, va_zeros bs r, Nat.pow_succ, Bool.toNat_false, Nat.add_zero, Nat.mul_comm 2, Nat.mul_assoc]
theorem bv_pk (bs : List Bool) : bv (pk bs) = (va bs * 2 ^ (8 * ((bs.length + 7) / 8) - bs.length) : Nat) := by
  unfold pk
  rw [bv_bytes, map_gb bs _ (by omega), va_zeros]
theorem va_cat (xs : List Bool) (n c : Nat) : va (xs ++ nb n c) = va xs * 2 ^ c + n % 2 ^ c := by
  rw [va, List.foldl_append]; exact va_nb' n c _
/-- the bytes are in the order of the numbers -/
theorem pk_order (pre : List Bool) (m n c : Nat) : lexLt (pk (pre ++ nb m c)) (pk (pre ++ nb n c)) = decide (m % 2 ^ c < n % 2 ^ c) ∧ (pk (pre ++ nb m c) = pk (pre ++ nb n c) ↔ m % 2 ^ c = n % 2 ^ c) := by
  have hl : (pk (pre ++ nb m c)).length = (pk (pre ++ nb n c)).length := by rw [pk_length, pk_length]; simp [nb_length]
  obtain ⟨h1, h2⟩ := lex_bv _ _ (pk_isB (pre ++ nb m c)) (pk_isB (pre ++ nb n c)) hl
  rw [h1, h2, bv_pk, bv_pk, va_cat, va_cat]
  have e : (pre ++ nb m c).length = (pre ++ nb n c).length := by simp [nb_length]
  rw [e]
  generalize hK : 2 ^ (8 * (((pre ++ nb n c).length + 7) / 8) - (pre ++ nb n c).length) = K
  have hK0 : 0 < K := by rw [← hK]; exact Nat.pow_pos (by decide)
  generalize va pre * 2 ^ c = A
  generalize m % 2 ^ c = p
  generalize n % 2 ^ c = q
  have key : ∀ x y : Nat, x * K < y * K ↔ x < y := fun x y => ⟨fun h => Nat.lt_of_mul_lt_mul_right h, fun h => Nat.mul_lt_mul_of_pos_right h hK0⟩
  have key2 : ∀ x y : Nat, x * K = y * K ↔ x = y := fun x y => ⟨fun h => Nat.eq_of_mul_eq_mul_right hK0 h, fun h => by rw [h]⟩
  constructor
  · rw [decide_eq_decide, Int.ofNat_lt, key]; omega
  · rw [Int.ofNat_inj, key2]; omega
set_option maxHeartbeats 2000000 in
theorem bitsOrder_ok (m n : Nat) (cnt ahead : Int) (w0 : World) (hm : m < 18446744073709551616) (hn : n < 18446744073709551616) (hcnt : isI64 cnt) (hah : isI64 ahead) :
    Ret Try.prog 8 [.int .u64 (m : Int), .int .u64 (n : Int), .int .i64 cnt, .int .i64 ahead].toArray w0 fun r w' => Fwd [] w0 w' ∧ r = .bool true := by
  refine Ret_start fun w hs => ?_
  refine Ret_of Try.func8 rfl Try.ntmps8 rfl ?_
  refine W_seq ?_
  refine W_region ?_
  refine s_assign rfl rfl ?_
  refine WL_nil ?_
  refine n_then ?_
  refine W_seq ?_
  refine W_region ?_
  refine s_move rfl rfl ?_
  refine s_call Try.call24 rfl rfl (around_ok cnt 65 w (by omega) hcnt) ?_
  rintro r w1 ⟨hw1, rfl⟩
  rw [hw1]; clear hw1 w1
  generalize aroundV cnt 65 = c
  obtain ⟨hcv, hc⟩ := clampV_nat c
  refine s_assign rfl rfl ?_
  refine WL_nil ?_
  refine n_then ?_
  refine W_seq ?_
  refine W_region ?_
  refine s_move rfl rfl ?_
  refine s_call Try.call24 rfl rfl (around_ok ahead 20 w (by omega) hah) ?_
  rintro r w1 ⟨hw1, rfl⟩
  rw [hw1]; clear hw1 w1
  generalize aroundV ahead 20 = k
  obtain ⟨hkv, hk⟩ := capV_nat k
  refine s_assign rfl rfl ?_
  refine WL_nil ?_
  refine n_then ?_
  refine W_seq ?_
  refine W_region ?_
  refine s_alloc rfl AL31 hs ?_; clear hs; intro b11 w hs
  refine WL_nil ?_
  refine n_then ?_
  refine W_seq ?_
  refine W_region ?_
  refine s_move rfl rfl ?_
  refine s_callL (M := []) (L1 := [_]) (X := []) Try.call34 rfl rfl hs (fun h => wUnary_ok b11 [] k _ w (wb_new b11) h (by simp)) ?_
  clear hs; rintro v w LX ⟨hX, rfl⟩ - hs
  simp only [List.nil_append, List.append_nil] at hs hX
  generalize hpre : List.replicate (capV k).toNat true ++ [false] = pre at hX
  have hpl : pre.length ≤ 65537 := by rw [← hpre]; simp; omega
  refine WL_nil ?_
  refine n_then ?_
  refine W_seq ?_
  refine W_region ?_
  refine s_move rfl rfl ?_
  refine s_move rfl rfl ?_
  refine s_callL (M := []) (L1 := LX) (X := []) Try.call33 rfl rfl (by simpa using hs) (fun h => wBits_ok b11 _ m c _ w hX h hm (by omega)) ?_
  clear hs hX; rintro v w LX ⟨hX, rfl⟩ - hs
  simp only [List.nil_append, List.append_nil] at hs
  refine WL_nil ?_
  refine n_then ?_
  refine W_seq ?_
  refine W_region ?_
  refine s_alloc rfl AL31 hs ?_; clear hs; intro b12 w hs
  refine WL_nil ?_
  refine n_then ?_
  refine W_seq ?_
  refine W_region ?_
  refine s_move rfl rfl ?_
  refine s_callL (M := []) (L1 := [_]) (X := LX) Try.call34 rfl rfl hs (fun h => wUnary_ok b12 [] k _ w (wb_new b12) h (by simp)) ?_
  clear hs; rintro v w LY ⟨hY, rfl⟩ - hs
  simp only [List.nil_append, List.append_nil] at hs hY
  rw [hpre] at hY
  refine WL_nil ?_
  refine n_then ?_
  refine W_seq ?_
  refine W_region ?_
  refine s_move rfl rfl ?_
  refine s_move rfl rfl ?_
  refine s_callL (M := []) (L1 := LY) (X := LX) Try.call33 rfl rfl (by simpa using hs) (fun h => wBits_ok b12 _ n c _ w hY h hn (by omega)) ?_
  clear hs hY; rintro v w LY ⟨hY, rfl⟩ - hs
  simp only [List.nil_append] at hs
  have hpo := pk_order pre m n (clampV c).toNat
  have hBm := pk_isB (pre ++ nb m (clampV c).toNat)
  have hBn := pk_isB (pre ++ nb n (clampV c).toNat)
  have hll : (pk (pre ++ nb m (clampV c).toNat)).length = (pk (pre ++ nb n (clampV c).toNat)).length := by rw [pk_length, pk_length]; simp [nb_length]
  refine WL_nil ?_
  refine n_then ?_
  refine W_seq ?_
  refine W_region ?_
  refine s_callL (M := LY) (L1 := LX) (X := []) Try.call18 rfl rfl (by simpa using hs) (fun h => wDone_ok b11 _ _ w hX h (by simp [nb_length]; omega)) ?_
  clear hs; rintro va w L9 ⟨La, rfl, hOa⟩ - hs
  simp only [List.append_nil] at hs
  refine s_bytes_str Try.underlying29 Try.underlying5 Try.underlying9 rfl rfl (hOa.slM (M := LY ++ LX) (X := []) (by simpa using hs)) rfl ?_
  refine s_assign rfl rfl ?_
  refine WL_nil ?_
  refine n_then ?_
  refine W_seq ?_
  refine W_region ?_
  refine s_callL (M := []) (L1 := LY) (X := LX ++ La) Try.call18 rfl rfl hs (fun h => wDone_ok b12 _ _ w hY h (by simp [nb_length]; omega)) ?_
  clear hs; rintro vb w L9 ⟨Lc, rfl, hOb⟩ - hs
  simp only [List.nil_append] at hs
  refine s_bytes_str Try.underlying29 Try.underlying5 Try.underlying9 rfl rfl (hOb.slM (M := LY) (X := LX ++ La) (by simpa using hs)) rfl ?_
  refine s_assign rfl rfl ?_
  refine WL_nil ?_
  refine n_then ?_
  refine W_seq ?_
  refine W_region ?_
  refine s_move rfl rfl ?_
  refine s_move rfl rfl ?_
  refine s_call Try.call32 rfl rfl (low_ok m c w hm) ?_
  rintro v w1 ⟨hw1, rfl⟩
  rw [hw1]; clear hw1 w1
  refine s_assign rfl rfl ?_
  refine WL_nil ?_
  refine n_then ?_
  refine W_seq ?_
  refine W_region ?_
  refine s_move rfl rfl ?_
  refine s_move rfl rfl ?_
  refine s_call Try.call32 rfl rfl (low_ok n c w hn) ?_
  rintro v w1 ⟨hw1, rfl⟩
  rw [hw1]; clear hw1 w1
  unfold lowV
  generalize m % 2 ^ (clampV c).toNat = p at *
  generalize n % 2 ^ (clampV c).toNat = q at *
  refine s_assign rfl rfl ?_
  refine WL_nil ?_
  refine n_then ?_
  refine W_seq ?_
  refine W_region ?_
  refine s_move rfl rfl ?_
  refine s_move rfl rfl ?_
  refine s_lss_B rfl rfl rfl ?_
  rw [less_lex, bytesOf_strOf' hBm, bytesOf_strOf' hBn, hpo.1]
  refine s_move rfl rfl ?_
  refine s_move rfl rfl ?_
  refine s_lss rfl rfl rfl ?_
  refine s_eql_bool Try.underlying4 rfl rfl rfl ?_
  refine s_move rfl rfl ?_
  refine WL_know (s := 48) (c := true) rfl ((by rw [beq_iff_eq, decide_eq_decide]; omega)) ?_
  refine WL_take rfl ?_
  refine s_move rfl rfl ?_
  refine WL_take rfl ?_
  refine s_move rfl rfl ?_
  refine WL_take rfl ?_
  refine s_eql_S rfl rfl rfl ?_
  refine WL_take rfl ?_
  refine s_move rfl rfl ?_
  refine WL_take rfl ?_
  refine s_move rfl rfl ?_
  refine WL_take rfl ?_
  refine s_eql rfl rfl rfl ?_
  refine WL_take rfl ?_
  refine s_eql_bool Try.underlying4 rfl rfl rfl ?_
  refine s_pick_t rfl rfl rfl ?_
  refine s_move rfl rfl ?_
  refine WL_know (s := 57) (c := true) rfl ((by rw [beq_iff_eq, Bool.eq_iff_iff]; simp only [decide_eq_true_eq, beq_iff_eq]; rw [strOf_eq hBm hBn, hpo.2]; omega)) ?_
  refine WL_take rfl ?_
  refine s_move rfl rfl ?_
  refine WL_take rfl ?_
  refine s_len rfl rfl (LN9 _ _) ?_
  refine WL_take rfl ?_
  refine s_move rfl rfl ?_
  refine WL_take rfl ?_
  refine s_len rfl rfl (LN9 _ _) ?_
  refine WL_take rfl ?_
  refine s_eql rfl rfl rfl ?_
  refine s_pick_t rfl rfl rfl ?_
  refine s_move rfl rfl ?_
  refine WL_know (s := 64) (c := true) rfl ((by rw [beq_iff_eq, strOf_size' hBm, strOf_size' hBn, hll])) ?_
  refine WL_take rfl ?_
  refine s_call Try.call20 rfl rfl (lives_ok w) ?_
  rintro r w ⟨hst, rfl⟩
  replace hs := hs.fwd1 hst
  clear hst
  refine s_pick_t rfl rfl rfl ?_
  refine s_assign rfl rfl ?_
  refine WL_nil ?_
  refine n_then ?_
  refine W_ret ?_
  exact end1 rfl rfl ⟨hs.fwd, rfl⟩
end Go.Proofs.Ytifegkpjbdgniaa
