/- Contracts of the reference model's encoders. -/
import Derived.Test.YtheeheahhnamjaaWirT
set_option linter.unusedVariables false
set_option linter.unusedSimpArgs false
namespace Go.Proofs.Ytheeheahhnamjaa
open Go.SL
theorem fUint_ok (n : Nat) (w0 : World) (hn : n < 18446744073709551616) :
    Ret Try.prog 43 [.int .u64 n].toArray w0 fun r w' => ∃ Lr, OwnS 5 1 r (uvar n).length (u8s (uvar n)) Lr ∧ St [] w0 w' Lr := by
  refine Ret_start fun w hs => ?_
  refine Ret_of Try.func43 rfl Try.ntmps43 rfl ?_
  refine W_seq ?_
  refine W_region ?_
  refine s_assign rfl rfl ?_
  refine WL_nil ?_
  refine n_then ?_
  refine W_seq ?_
  refine W_region ?_
  refine s_assign rfl rfl ?_
  refine WL_nil ?_
  refine n_then ?_
  refine W_seq ?_
  refine W_block ?_
  refine W_loop (σ := Nat × List Int × Value × Hp) (fun s => [(0, .int .u64 (s.1 : Int)), (3, s.2.2.1)]) (fun s w => St [] w0 w s.2.2.2 ∧ OwnS 5 1 s.2.2.1 s.2.1.length (u8s s.2.1) s.2.2.2 ∧ s.2.1 ++ uvar s.1 = uvar n ∧ s.1 < 18446744073709551616) (fun s => s.1) (n, [], .slice none 0 0, []) ⟨rfl, rfl, trivial⟩ ⟨hs, OwnS.nil _ _, rfl, hn⟩ ?_
  clear hs
  rintro ⟨m, cs, v, L⟩ w ⟨hs, hO, hcat, hm⟩
  simp only at hs hO hcat hm ⊢
  have hlen : cs.length ≤ 10 := by
    have := congrArg List.length hcat
    have h2 := uvar_len10 hn
    simp only [List.length_append] at this; omega
  refine W_seq ?_
  refine W_seq ?_
  refine W_region ?_
  refine s_move rfl rfl ?_
  refine s_gtr rfl rfl rfl ?_
  refine WL_nil ?_
  refine n_then ?_
  refine W_cond rfl (fun hc5 => ?_) (fun hc5 => ?_)
  · skip
    simp only [decide_eq_true_eq, decide_eq_false_iff_not] at hc5
    refine W_skip ?_
    refine n_then ?_
    refine W_block ?_
    refine W_seq ?_
    refine W_region ?_
    refine s_move rfl rfl ?_
    refine s_move rfl rfl ?_
    (refine s_rem rfl rfl rfl ?hx ?_; case hx => omega)
    rw [IntWalk.rem_in _ _ (by omega), show (m : Int) % 128 = ((m % 128 : Nat) : Int) by omega]
    refine s_add rfl rfl rfl ?_
    rw [show (128 : Int) + ((m % 128 : Nat) : Int) = ((m % 128 + 128 : Nat) : Int) by omega, u64w (by omega)]
    refine s_convert rfl rfl (CV22_5 _) ?_
    rw [IntWalk.u8_in _ (by omega)]
    refine s_buildSlice rfl rfl (BS24_1 _) hs ?_; clear hs; intro b11 w hs
    refine s_appendM (M := [_]) (X := []) El24 rfl rfl rfl hO (by simpa using hs) (hs.sl (k := 0) (ds := [_]) rfl (Nat.le_refl _) (by intro j u hj; rw [Nat.zero_add]; exact hj)) rfl (by simp [Value.oneCell']) (by omega) ?_
    clear hs; intro v' w Lv' hO' hs
    simp only [List.cons_append, List.nil_append, List.append_nil] at hs
    refine s_assign rfl rfl ?_
    refine WL_nil ?_
    refine n_then ?_
    refine W_region ?_
    refine s_move rfl rfl ?_
    (refine s_quo rfl rfl rfl ?hx ?_; case hx => omega)
    rw [IntWalk.u64_quo _ _ ⟨by omega, by omega, by omega⟩, show (m : Int) / 128 = ((m / 128 : Nat) : Int) by omega]
    refine s_assign rfl rfl ?_
    refine WL_nil ?_
    refine n_blk ?_
    refine n_loop ?_
    refine ⟨(m / 128, cs ++ [((m % 128 + 128 : Nat) : Int)], v', Lv'), ⟨rfl, rfl, trivial⟩, ⟨hs.tail, by simpa using hO', ?_, by simp only; omega⟩, by simp only; omega⟩
    rw [← hcat, uvar_hi (n := m) (by omega)]; simp
  · skip
    simp only [decide_eq_true_eq, decide_eq_false_iff_not] at hc5
    refine W_exit ?_
    refine x_then ?_
    refine x_then ?_
    refine exit_hit ?_
    refine n_then ?_
    refine W_seq ?_
    refine W_region ?_
    refine s_move rfl rfl ?_
    refine s_move rfl rfl ?_
    refine s_convert rfl rfl (CV22_5 _) ?_
    rw [IntWalk.u8_in _ (by omega)]
    refine s_buildSlice rfl rfl (BS24_1 _) hs ?_; clear hs; intro b18 w hs
    refine s_appendM (M := [_]) (X := []) El24 rfl rfl rfl hO (by simpa using hs) (hs.sl (k := 0) (ds := [_]) rfl (Nat.le_refl _) (by intro j u hj; rw [Nat.zero_add]; exact hj)) rfl (by simp [Value.oneCell']) (by omega) ?_
    clear hs; intro v' w Lv' hO' hs
    simp only [List.cons_append, List.nil_append, List.append_nil] at hs
    refine s_assign rfl rfl ?_
    refine WL_nil ?_
    refine n_then ?_
    refine W_ret ?_
    refine end1 rfl rfl ⟨Lv', ?_, hs.tail⟩
    rw [← hcat, uvar_lo (n := m) (by omega)]; simpa using hO'
theorem fZig_ok (n : Int) (w0 : World) (hn : isI64 n) : Ret Try.prog 59 [.int .i64 n].toArray w0 fun r w' => w' = w0 ∧ r = .int .u64 (zz n : Int) := by
  unfold isI64 at hn
  refine Ret_of Try.func59 rfl Try.ntmps59 rfl ?_
  refine W_seq ?_
  refine W_region ?_
  refine s_assign rfl rfl ?_
  refine WL_nil ?_
  refine n_then ?_
  refine W_seq ?_
  refine W_seq ?_
  refine W_region ?_
  refine s_move rfl rfl ?_
  refine s_lss rfl rfl rfl ?_
  refine WL_nil ?_
  refine n_then ?_
  refine W_cond rfl (fun hc4 => ?_) (fun hc4 => ?_)
  · skip
    simp only [decide_eq_true_eq, decide_eq_false_iff_not] at hc4
    refine W_seq ?_
    refine W_region ?_
    refine s_move rfl rfl ?_
    first | (refine s_add' rfl rfl rfl ?hx ?_; case hx => (constructor <;> first | omega | (simp only; omega))) | refine s_add rfl rfl rfl ?_
    first | (refine s_neg' rfl rfl ?hx ?_; case hx => omega) | refine s_neg rfl rfl ?_
    refine s_convert rfl rfl (CV3_22 _) ?_
    refine s_mul rfl rfl rfl ?_
    refine s_add rfl rfl rfl ?_
    refine s_assign rfl rfl ?_
    refine WL_nil ?_
    refine n_then ?_
    refine W_ret ?_
    refine r_then ?_
    refine end1 rfl rfl ⟨rfl, congrArg (Value.int .u64) ?_⟩
    simp only [wrapU64, zz]
    split <;> omega
  · skip
    simp only [decide_eq_true_eq, decide_eq_false_iff_not] at hc4
    refine W_skip ?_
    refine n_then ?_
    refine W_seq ?_
    refine W_region ?_
    refine s_move rfl rfl ?_
    refine s_convert rfl rfl (CV3_22 _) ?_
    refine s_mul rfl rfl rfl ?_
    refine s_assign rfl rfl ?_
    refine WL_nil ?_
    refine n_then ?_
    refine W_ret ?_
    refine end1 rfl rfl ⟨rfl, congrArg (Value.int .u64) ?_⟩
    simp only [wrapU64, zz]
    split <;> omega
theorem fInt_ok (n : Int) (w0 : World) (hn : isI64 n) :
    Ret Try.prog 44 [.int .i64 n].toArray w0 fun r w' => ∃ Lr, OwnS 5 1 r (uvar (zz n)).length (u8s (uvar (zz n))) Lr ∧ St [] w0 w' Lr := by
  refine Ret_of Try.func44 rfl Try.ntmps44 rfl ?_
  refine W_seq ?_
  refine W_region ?_
  refine s_assign rfl rfl ?_
  refine WL_nil ?_
  refine n_then ?_
  refine W_seq ?_
  refine W_region ?_
  refine s_move rfl rfl ?_
  refine s_call Try.call59 rfl rfl (fZig_ok n _ hn) ?_
  rintro r w ⟨rfl, rfl⟩
  refine s_call Try.call43 rfl rfl (fUint_ok (zz n) _ (zz_lt hn)) ?_
  rintro r w hpost
  refine s_assign rfl rfl ?_
  refine WL_nil ?_
  refine n_then ?_
  refine W_ret ?_
  exact end1 rfl rfl hpost
theorem fBool_ok (b : Bool) (w0 : World) :
    Ret Try.prog 45 [.bool b].toArray w0 fun r w' => ∃ Lr, OwnS 5 1 r 1 (u8s [if b then 1 else 0]) Lr ∧ St [] w0 w' Lr := by
  refine Ret_start fun w hs => ?_
  refine Ret_of Try.func45 rfl Try.ntmps45 rfl ?_
  refine W_seq ?_
  refine W_region ?_
  refine s_assign rfl rfl ?_
  refine WL_nil ?_
  refine n_then ?_
  refine W_seq ?_
  refine W_seq ?_
  refine W_region ?_
  refine s_move rfl rfl ?_
  refine WL_nil ?_
  refine n_then ?_
  refine W_cond rfl (fun hc3 => ?_) (fun hc3 => ?_)
  · skip
    refine W_seq ?_
    refine W_region ?_
    refine s_buildSlice rfl rfl (BS24_1 _) hs ?_; clear hs; intro b4 w hs
    refine s_assign rfl rfl ?_
    refine WL_nil ?_
    refine n_then ?_
    refine W_ret ?_
    refine r_then ?_
    subst hc3
    first
      | exact end1 rfl rfl ⟨_, ⟨rfl, .inr ⟨b4, 1, [], rfl, Nat.le_refl _, by decide, rfl, rfl⟩⟩, hs⟩
      | exact end1 rfl rfl ⟨_, ⟨rfl, .inr ⟨b5, 1, [], rfl, Nat.le_refl _, by decide, rfl, rfl⟩⟩, hs⟩
  · skip
    refine W_skip ?_
    refine n_then ?_
    refine W_seq ?_
    refine W_region ?_
    refine s_buildSlice rfl rfl (BS24_1 _) hs ?_; clear hs; intro b5 w hs
    refine s_assign rfl rfl ?_
    refine WL_nil ?_
    refine n_then ?_
    refine W_ret ?_
    subst hc3
    first
      | exact end1 rfl rfl ⟨_, ⟨rfl, .inr ⟨b4, 1, [], rfl, Nat.le_refl _, by decide, rfl, rfl⟩⟩, hs⟩
      | exact end1 rfl rfl ⟨_, ⟨rfl, .inr ⟨b5, 1, [], rfl, Nat.le_refl _, by decide, rfl, rfl⟩⟩, hs⟩
theorem fRaw_ok (v : Value) (bs : List Int) (w0 : World) (hv : Sl w0 v bs.length (u8s bs)) (hl : bs.length ≤ 4294967296) :
    Ret Try.prog 46 [v].toArray w0 fun r w' => ∃ Lr, OwnS 5 1 r (uvar bs.length ++ bs).length (u8s (uvar bs.length ++ bs)) Lr ∧ St [] w0 w' Lr := by
  obtain ⟨a, c, rfl, hac⟩ := hv.len_le
  refine Ret_start fun w hs => ?_
  refine Ret_of Try.func46 rfl Try.ntmps46 rfl ?_
  refine W_seq ?_
  refine W_region ?_
  refine s_assign rfl rfl ?_
  refine WL_nil ?_
  refine n_then ?_
  refine W_seq ?_
  refine W_region ?_
  refine s_move rfl rfl ?_
  refine s_len rfl rfl (LN24 _ _ _ _) ?_
  refine s_convert rfl rfl (CV3_22 _) ?_
  rw [u64w (by omega)]
  refine s_call Try.call43 rfl rfl (fUint_ok bs.length w (by omega)) ?_
  rintro r w ⟨Lr, hO, hst⟩
  replace hs := St.back0 hs hst
  clear hst
  have h10 := uvar_len10 (n := bs.length) (by omega)
  refine s_move rfl rfl ?_
  refine s_appendM (M := []) (X := []) El24 rfl rfl rfl hO (by simpa using hs) (hv.fwd0 hs.fwd) (by simp) (u8s_one _) (by omega) ?_
  clear hs; intro v' w Lv' hO' hs
  simp only [List.nil_append, List.append_nil] at hs
  refine s_assign rfl rfl ?_
  refine WL_nil ?_
  refine n_then ?_
  refine W_ret ?_
  refine end1 rfl rfl ⟨Lv', ?_, hs⟩
  rw [List.length_append, u8s, List.map_append]; exact hO'
theorem fInts_ok (v : Value) (xs : List Int) (w0 : World) (hv : Sl w0 v xs.length (i64s xs)) (hx : ∀ z ∈ xs, isI64 z) (hl : xs.length ≤ 4294967296) :
    Ret Try.prog 47 [v].toArray w0 fun r w' => ∃ Lr, OwnS 5 1 r (uvar xs.length ++ encInts xs).length (u8s (uvar xs.length ++ encInts xs)) Lr ∧ St [] w0 w' Lr := by
  obtain ⟨a, c, rfl, hac⟩ := hv.len_le
  refine Ret_start fun w hs => ?_
  refine Ret_of Try.func47 rfl Try.ntmps47 rfl ?_
  refine W_seq ?_
  refine W_region ?_
  refine s_assign rfl rfl ?_
  refine WL_nil ?_
  refine n_then ?_
  refine W_seq ?_
  refine W_region ?_
  refine s_move rfl rfl ?_
  refine s_len rfl rfl (LN33 _ _ _ _) ?_
  refine s_convert rfl rfl (CV3_22 _) ?_
  rw [u64w (by omega)]
  refine s_call Try.call43 rfl rfl (fUint_ok xs.length w (by omega)) ?_
  rintro r w ⟨Lr, hO, hst⟩
  replace hs := St.back0 hs hst
  simp only [List.append_nil] at hs
  clear hst
  have h10 := uvar_len10 (n := xs.length) (by omega)
  refine s_assign rfl rfl ?_
  refine WL_nil ?_
  refine n_then ?_
  refine W_seq ?_
  refine W_seq ?_
  refine W_region ?_
  refine s_assign rfl rfl ?_
  refine WL_nil ?_
  refine n_then ?_
  refine W_block ?_
  refine W_loop (σ := Nat × Value × Hp) (fun s => [(0, .slice a xs.length c), (3, s.2.1), (4, .int .i64 (s.1 : Int))]) (fun s w => St [] w0 w s.2.2 ∧ OwnS 5 1 s.2.1 (uvar xs.length ++ encInts (xs.take s.1)).length (u8s (uvar xs.length ++ encInts (xs.take s.1))) s.2.2 ∧ s.1 ≤ xs.length ∧ (encInts (xs.take s.1)).length ≤ 10 * s.1) (fun s => xs.length - s.1) (0, _, Lr) ⟨rfl, rfl, rfl, trivial⟩ ⟨hs, by simpa [encInts] using hO, Nat.zero_le _, by simp [encInts]⟩ ?_
  clear hs hO
  rintro ⟨i, v3, L⟩ w ⟨hs, hO, hil, hel⟩
  simp only at hs hO hil hel ⊢
  refine W_seq ?_
  refine W_seq ?_
  refine W_region ?_
  refine s_move rfl rfl ?_
  refine s_move rfl rfl ?_
  refine s_len rfl rfl (LN33 _ _ _ _) ?_
  refine s_lss rfl rfl rfl ?_
  refine WL_nil ?_
  refine n_then ?_
  refine W_cond rfl (fun hc12 => ?_) (fun hc12 => ?_)
  · skip
    simp only [decide_eq_true_eq, decide_eq_false_iff_not] at hc12
    have hix : i < xs.length := by omega
    obtain ⟨b1, o1, hA1, hc1⟩ := hv.at (k := i) (i64s_at' hix)
    have hB1 : b1 < w0.heap.size := World.block_lt_of_cell? w0 _ hc1
    have hm : isI64 (xs.getD i 0) := hx _ (by rw [List.getD_eq_getElem?_getD, List.getElem?_eq_getElem hix]; simp)
    have htk : encInts (xs.take (i + 1)) = encInts (xs.take i) ++ uvar (zz (xs.getD i 0)) := by
      rw [List.take_succ_eq_append_getElem hix, encInts, List.flatMap_append]; simp [encInts, List.getD_eq_getElem?_getD, List.getElem?_eq_getElem hix]
    generalize xs.getD i 0 = n at hc1 hm htk
    have hn10 := uvar_len10 (zz_lt hm)
    refine W_skip ?_
    refine n_then ?_
    refine W_seq ?_
    refine W_block ?_
    refine W_region ?_
    refine s_move rfl rfl ?_
    refine s_move rfl rfl ?_
    refine s_move rfl rfl ?_
    (refine s_indexAddrO El33 rfl rfl rfl hA1 ?hx ?_; case hx => (constructor <;> omega))
    first
      | refine s_load Try.isAgg3 rfl rfl (hs.cell (k := 0) rfl rfl) ?_
      | refine s_load Try.isAgg3 rfl rfl (hs.cell (k := 1) rfl rfl) ?_
      | refine s_load Try.isAgg3 rfl rfl (hs.cell (k := 2) rfl rfl) ?_
      | refine s_load Try.isAgg3 rfl rfl (hs.cell (k := 3) rfl rfl) ?_
      | refine s_load Try.isAgg3 rfl rfl (hs.cell (k := 4) rfl rfl) ?_
      | refine s_load Try.isAgg3 rfl rfl (hs.cell (k := 5) rfl rfl) ?_
      | refine s_load Try.isAgg3 rfl rfl (hs.cell (k := 6) rfl rfl) ?_
      | refine s_load Try.isAgg3 rfl rfl (hs.cell (k := 7) rfl rfl) ?_
      | refine s_load Try.isAgg3 rfl rfl (hs.cell (k := 8) rfl rfl) ?_
      | refine s_load Try.isAgg3 rfl rfl (hs.cell (k := 9) rfl rfl) ?_
      | refine s_load Try.isAgg3 rfl rfl ((hs.oldcell (a := ⟨b1, o1 + i, none⟩) hB1 (by simp)).trans hc1) ?_
    refine s_call Try.call44 rfl rfl (fInt_ok n w hm) ?_
    rintro r w ⟨Ln, hOn, hst⟩
    replace hs := St.back0 hs hst
    clear hst
    refine s_appendM (M := Ln) (Lv := L) (X := []) El24 rfl rfl rfl hO (by simpa using hs) (hOn.sl hs) (by simp) (u8s_one _) (by rw [List.length_append]; omega) ?_
    clear hs; intro v' w Lv' hO' hs
    simp only [List.append_nil] at hs
    refine s_assign rfl rfl ?_
    refine WL_nil ?_
    refine n_blk ?_
    refine n_then ?_
    refine W_region ?_
    refine s_move rfl rfl ?_
    first | (refine s_add' rfl rfl rfl ?hx ?_; case hx => (constructor <;> first | omega | (simp only; omega))) | refine s_add rfl rfl rfl ?_
    refine s_assign rfl rfl ?_
    refine WL_nil ?_
    refine n_loop ?_
    refine ⟨(i + 1, v', Lv'), ⟨rfl, rfl, rfl, trivial⟩, ⟨hs.right, ?_, by simp only; omega, ?_⟩, by simp only; omega⟩
    · have he : (uvar xs.length ++ encInts (xs.take (i + 1))) = (uvar xs.length ++ encInts (xs.take i)) ++ uvar (zz n) := by rw [htk, List.append_assoc]
      simp only
      rw [he, List.length_append, u8s, List.map_append]; exact hO'
    · simp only; rw [htk, List.length_append]; omega
  · skip
    simp only [decide_eq_true_eq, decide_eq_false_iff_not] at hc12
    refine W_exit ?_
    refine x_then ?_
    refine x_then ?_
    refine exit_hit ?_
    refine n_then ?_
    refine W_seq ?_
    refine W_region ?_
    refine s_move rfl rfl ?_
    refine s_assign rfl rfl ?_
    refine WL_nil ?_
    refine n_then ?_
    refine W_ret ?_
    have hie : i = xs.length := by omega
    subst hie
    rw [List.take_length] at hO
    exact end1 rfl rfl ⟨L, hO, hs⟩
set_option maxHeartbeats 2000000 in
theorem fEncode_ok (v : Value) (vs : List VV) (w0 : World) (hv : Sl w0 v vs.length (vcells vs)) (hok : ∀ x ∈ vs, x.ok) (hown : ∀ q ∈ vblks vs, w0.heap[q.1]? = some q.2) (hl : ∀ k, (encVs (vs.take k)).length ≤ 4294967296) (hvl : vs.length ≤ 4294967296) :
    Ret Try.prog 18 [v].toArray w0 fun r w' => ∃ Lr, OwnS 5 1 r (encVs vs).length (u8s (encVs vs)) Lr ∧ St [] w0 w' Lr := by
  obtain ⟨a, c, rfl, hac⟩ := hv.len_le
  refine Ret_start fun w hs => ?_
  refine Ret_of Try.func18 rfl Try.ntmps18 rfl ?_
  refine W_seq ?_
  refine W_region ?_
  refine s_assign rfl rfl ?_
  refine WL_nil ?_
  refine n_then ?_
  refine W_seq ?_
  refine W_region ?_
  refine s_assign rfl rfl ?_
  refine WL_nil ?_
  refine n_then ?_
  refine W_seq ?_
  refine W_seq ?_
  refine W_region ?_
  refine s_assign rfl rfl ?_
  refine WL_nil ?_
  refine n_then ?_
  refine W_block ?_
  refine W_loop (σ := Nat × Value × Hp) (fun s => [(0, .slice a vs.length c), (3, s.2.1), (4, .int .i64 (s.1 : Int))]) (fun s w => St [] w0 w s.2.2 ∧ OwnS 5 1 s.2.1 (encVs (vs.take s.1)).length (u8s (encVs (vs.take s.1))) s.2.2 ∧ s.1 ≤ vs.length) (fun s => vs.length - s.1) (0, .slice none 0 0, []) ⟨rfl, rfl, rfl, trivial⟩ ⟨hs, OwnS.nil _ _, Nat.zero_le _⟩ ?_
  clear hs
  rintro ⟨i, v3, L⟩ w ⟨hs, hO, hil⟩
  simp only at hs hO hil ⊢
  refine W_seq ?_
  refine W_seq ?_
  refine W_region ?_
  refine s_move rfl rfl ?_
  refine s_move rfl rfl ?_
  refine s_len rfl rfl (LN35 _ _ _ _) ?_
  refine s_lss rfl rfl rfl ?_
  refine WL_nil ?_
  refine n_then ?_
  refine W_cond rfl (fun hc8 => ?_) (fun hc8 => ?_)
  · skip
    try simp only [decide_eq_true_eq, decide_eq_false_iff_not, beq_iff_eq, beq_eq_false_iff_ne, ne_eq] at hc8
    have hix : i < vs.length := by omega
    have hxi : vs[i]? = some vs[i] := List.getElem?_eq_getElem hix
    have hxm : vs[i] ∈ vs := List.getElem_mem hix
    obtain ⟨b, o, hA, hB, hall⟩ := Sl_all hv (by intro h; have := congrArg List.length h; rw [vcells_length] at this; simp at this; omega)
    have htk : encVs (vs.take (i + 1)) = encVs (vs.take i) ++ encV vs[i].p := by rw [List.take_succ_eq_append_getElem hix, encVs, List.flatMap_append]; simp [encVs]
    have cc : ∀ j u, j < 5 → vs[i].cells[j]? = some u → w0.cell? ⟨b, o + (i : Int).toNat * 5 + j, none⟩ = some u := fun j u hj hu => by
      rw [Nat.add_assoc, Int.toNat_natCast]; exact hall (i * 5 + j) u (by rw [vcells_at hj hxi]; exact hu)
    generalize vs[i] = x at hxm cc htk
    have hxo := hok x hxm
    have hxown : ∀ q ∈ x.L, w0.heap[q.1]? = some q.2 := fun q hq => hown q (vblks_of hxm q hq)
    have hsb := hxo.b.sl w0 (fun q hq => hxown q (List.mem_append_left _ hq))
    have hsl := hxo.l.sl w0 (fun q hq => hxown q (List.mem_append_right _ hq))
    obtain ⟨hpu, hpn, hpb, hpl, hpbl, hpll⟩ := hxo.p
    have hl1 := hl i
    have hl2 := hl (i + 1)
    rw [htk, List.length_append] at hl2
    refine W_skip ?_
    refine n_then ?_
    refine W_seq ?_
    refine W_block ?_
    refine W_seq ?_
    refine W_region ?_
    refine s_move rfl rfl ?_
    refine s_move rfl rfl ?_
    (refine s_indexAddrP El35 rfl rfl rfl hA ?hx ?_; case hx => (constructor <;> omega))
    refine s_fieldAddr rfl rfl (FA47_0 _ _) ?_
    first
      | refine s_load Try.isAgg3 rfl rfl (hs.cell (k := 0) rfl rfl) ?_
      | refine s_load Try.isAgg3 rfl rfl (hs.cell (k := 1) rfl rfl) ?_
      | refine s_load Try.isAgg3 rfl rfl ((hs.oldcell hB (by simp)).trans (cc 0 _ (by omega) rfl)) ?_
      | refine s_load Try.isAgg3 rfl rfl ((hs.oldcell hB (by simp)).trans (cc 1 _ (by omega) rfl)) ?_
      | refine s_load Try.isAgg3 rfl rfl ((hs.oldcell hB (by simp)).trans (cc 2 _ (by omega) rfl)) ?_
      | refine s_load Try.isAgg3 rfl rfl ((hs.oldcell hB (by simp)).trans (cc 3 _ (by omega) rfl)) ?_
      | refine s_load Try.isAgg3 rfl rfl ((hs.oldcell hB (by simp)).trans (cc 4 _ (by omega) rfl)) ?_
    refine WL_nil ?_
    refine n_then ?_
    refine W_block ?_
    refine W_seq ?_
    refine W_region ?_
    refine s_eql rfl rfl rfl ?_
    refine s_assign rfl rfl ?_
    refine WL_nil ?_
    refine n_then ?_
    refine W_cond rfl (fun hc24 => ?_) (fun hc24 => ?_)
    · skip
      try simp only [decide_eq_true_eq, decide_eq_false_iff_not, beq_iff_eq, beq_eq_false_iff_ne, ne_eq] at hc24
      refine W_region ?_
      refine s_move rfl rfl ?_
      refine s_move rfl rfl ?_
      refine s_move rfl rfl ?_
      (refine s_indexAddrP El35 rfl rfl rfl hA ?hx ?_; case hx => (constructor <;> omega))
      refine s_fieldAddr rfl rfl (FA47_1 _ _) ?_
      first
        | refine s_load Try.isAgg22 rfl rfl (hs.cell (k := 0) rfl rfl) ?_
        | refine s_load Try.isAgg22 rfl rfl (hs.cell (k := 1) rfl rfl) ?_
        | refine s_load Try.isAgg22 rfl rfl ((hs.oldcell hB (by simp)).trans (cc 0 _ (by omega) rfl)) ?_
        | refine s_load Try.isAgg22 rfl rfl ((hs.oldcell hB (by simp)).trans (cc 1 _ (by omega) rfl)) ?_
        | refine s_load Try.isAgg22 rfl rfl ((hs.oldcell hB (by simp)).trans (cc 2 _ (by omega) rfl)) ?_
        | refine s_load Try.isAgg22 rfl rfl ((hs.oldcell hB (by simp)).trans (cc 3 _ (by omega) rfl)) ?_
        | refine s_load Try.isAgg22 rfl rfl ((hs.oldcell hB (by simp)).trans (cc 4 _ (by omega) rfl)) ?_
      refine s_call Try.call43 rfl rfl (fUint_ok x.p.u w hpu) ?_
      rintro r w ⟨Ln, hOn, hst⟩
      replace hs := St.back0 hs hst
      clear hst
      have heq : encV x.p = uvar x.p.u := by rw [encV, if_pos ‹_›]
      rw [heq] at hl2
      refine s_appendM (M := Ln) (Lv := L) (X := []) El24 rfl rfl rfl hO (by simpa using hs) (hOn.sl hs) (by simp) (u8s_one _) (by omega) ?_
      clear hs; intro v' w Lv' hO' hs
      simp only [List.append_nil] at hs
      refine s_assign rfl rfl ?_
      refine WL_nil ?_
      refine n_blk ?_
      refine n_blk ?_
      refine n_then ?_
      refine W_region ?_
      refine s_move rfl rfl ?_
      first | (refine s_add' rfl rfl rfl ?hx ?_; case hx => (constructor <;> first | omega | (simp only; omega))) | refine s_add rfl rfl rfl ?_
      refine s_assign rfl rfl ?_
      refine WL_nil ?_
      refine n_loop ?_
      refine ⟨(i + 1, v', Lv'), ⟨rfl, rfl, rfl, trivial⟩, ⟨hs.right, ?_, by simp only; omega⟩, by simp only; omega⟩
      simp only
      rw [htk, heq, List.length_append, u8s, List.map_append]; exact hO'
    · skip
      try simp only [decide_eq_true_eq, decide_eq_false_iff_not, beq_iff_eq, beq_eq_false_iff_ne, ne_eq] at hc24
      refine W_seq ?_
      refine W_region ?_
      refine s_eql rfl rfl rfl ?_
      refine s_assign rfl rfl ?_
      refine WL_nil ?_
      refine n_then ?_
      refine W_cond rfl (fun hc34 => ?_) (fun hc34 => ?_)
      · skip
        try simp only [decide_eq_true_eq, decide_eq_false_iff_not, beq_iff_eq, beq_eq_false_iff_ne, ne_eq] at hc34
        refine W_region ?_
        refine s_move rfl rfl ?_
        refine s_move rfl rfl ?_
        refine s_move rfl rfl ?_
        (refine s_indexAddrP El35 rfl rfl rfl hA ?hx ?_; case hx => (constructor <;> omega))
        refine s_fieldAddr rfl rfl (FA47_2 _ _) ?_
        first
          | refine s_load Try.isAgg3 rfl rfl (hs.cell (k := 0) rfl rfl) ?_
          | refine s_load Try.isAgg3 rfl rfl (hs.cell (k := 1) rfl rfl) ?_
          | refine s_load Try.isAgg3 rfl rfl ((hs.oldcell hB (by simp)).trans (cc 0 _ (by omega) rfl)) ?_
          | refine s_load Try.isAgg3 rfl rfl ((hs.oldcell hB (by simp)).trans (cc 1 _ (by omega) rfl)) ?_
          | refine s_load Try.isAgg3 rfl rfl ((hs.oldcell hB (by simp)).trans (cc 2 _ (by omega) rfl)) ?_
          | refine s_load Try.isAgg3 rfl rfl ((hs.oldcell hB (by simp)).trans (cc 3 _ (by omega) rfl)) ?_
          | refine s_load Try.isAgg3 rfl rfl ((hs.oldcell hB (by simp)).trans (cc 4 _ (by omega) rfl)) ?_
        refine s_call Try.call44 rfl rfl (fInt_ok x.p.n w hpn) ?_
        rintro r w ⟨Ln, hOn, hst⟩
        replace hs := St.back0 hs hst
        clear hst
        have heq : encV x.p = uvar (zz x.p.n) := by rw [encV, if_neg (by omega), if_pos ‹_›]
        rw [heq] at hl2
        refine s_appendM (M := Ln) (Lv := L) (X := []) El24 rfl rfl rfl hO (by simpa using hs) (hOn.sl hs) (by simp) (u8s_one _) (by omega) ?_
        clear hs; intro v' w Lv' hO' hs
        simp only [List.append_nil] at hs
        refine s_assign rfl rfl ?_
        refine WL_nil ?_
        refine n_blk ?_
        refine n_blk ?_
        refine n_then ?_
        refine W_region ?_
        refine s_move rfl rfl ?_
        first | (refine s_add' rfl rfl rfl ?hx ?_; case hx => (constructor <;> first | omega | (simp only; omega))) | refine s_add rfl rfl rfl ?_
        refine s_assign rfl rfl ?_
        refine WL_nil ?_
        refine n_loop ?_
        refine ⟨(i + 1, v', Lv'), ⟨rfl, rfl, rfl, trivial⟩, ⟨hs.right, ?_, by simp only; omega⟩, by simp only; omega⟩
        simp only
        rw [htk, heq, List.length_append, u8s, List.map_append]; exact hO'
      · skip
        try simp only [decide_eq_true_eq, decide_eq_false_iff_not, beq_iff_eq, beq_eq_false_iff_ne, ne_eq] at hc34
        refine W_seq ?_
        refine W_region ?_
        refine s_eql rfl rfl rfl ?_
        refine s_assign rfl rfl ?_
        refine WL_nil ?_
        refine n_then ?_
        refine W_cond rfl (fun hc44 => ?_) (fun hc44 => ?_)
        · skip
          try simp only [decide_eq_true_eq, decide_eq_false_iff_not, beq_iff_eq, beq_eq_false_iff_ne, ne_eq] at hc44
          refine W_region ?_
          refine s_move rfl rfl ?_
          refine s_move rfl rfl ?_
          refine s_move rfl rfl ?_
          (refine s_indexAddrP El35 rfl rfl rfl hA ?hx ?_; case hx => (constructor <;> omega))
          refine s_fieldAddr rfl rfl (FA47_2 _ _) ?_
          first
            | refine s_load Try.isAgg3 rfl rfl (hs.cell (k := 0) rfl rfl) ?_
            | refine s_load Try.isAgg3 rfl rfl (hs.cell (k := 1) rfl rfl) ?_
            | refine s_load Try.isAgg3 rfl rfl ((hs.oldcell hB (by simp)).trans (cc 0 _ (by omega) rfl)) ?_
            | refine s_load Try.isAgg3 rfl rfl ((hs.oldcell hB (by simp)).trans (cc 1 _ (by omega) rfl)) ?_
            | refine s_load Try.isAgg3 rfl rfl ((hs.oldcell hB (by simp)).trans (cc 2 _ (by omega) rfl)) ?_
            | refine s_load Try.isAgg3 rfl rfl ((hs.oldcell hB (by simp)).trans (cc 3 _ (by omega) rfl)) ?_
            | refine s_load Try.isAgg3 rfl rfl ((hs.oldcell hB (by simp)).trans (cc 4 _ (by omega) rfl)) ?_
          refine s_eql rfl rfl rfl ?_
          refine s_call Try.call45 rfl rfl (fBool_ok (x.p.n == 1) w) ?_
          rintro r w ⟨Ln, hOn, hst⟩
          replace hs := St.back0 hs hst
          clear hst
          have heq : encV x.p = [if x.p.n = 1 then 1 else 0] := by rw [encV, if_neg (by omega), if_neg (by omega), if_pos ‹_›]
          simp only [beq_iff_eq] at hOn
          refine s_appendM (M := Ln) (Lv := L) (X := []) El24 rfl rfl rfl hO (by simpa using hs) (hOn.sl hs) (by simp) (u8s_one _) (by omega) ?_
          clear hs; intro v' w Lv' hO' hs
          simp only [List.append_nil] at hs
          refine s_assign rfl rfl ?_
          refine WL_nil ?_
          refine n_blk ?_
          refine n_blk ?_
          refine n_then ?_
          refine W_region ?_
          refine s_move rfl rfl ?_
          first | (refine s_add' rfl rfl rfl ?hx ?_; case hx => (constructor <;> first | omega | (simp only; omega))) | refine s_add rfl rfl rfl ?_
          refine s_assign rfl rfl ?_
          refine WL_nil ?_
          refine n_loop ?_
          refine ⟨(i + 1, v', Lv'), ⟨rfl, rfl, rfl, trivial⟩, ⟨hs.right, ?_, by simp only; omega⟩, by simp only; omega⟩
          simp only
          rw [htk, heq, List.length_append, u8s, List.map_append]; exact hO'
        · skip
          try simp only [decide_eq_true_eq, decide_eq_false_iff_not, beq_iff_eq, beq_eq_false_iff_ne, ne_eq] at hc44
          refine W_seq ?_
          refine W_seq ?_
          refine W_region ?_
          refine s_eql rfl rfl rfl ?_
          refine s_assign rfl rfl ?_
          refine WL_nil ?_
          refine n_then ?_
          refine W_cond rfl (fun hc55 => ?_) (fun hc55 => ?_)
          · skip
            try simp only [decide_eq_true_eq, decide_eq_false_iff_not, beq_iff_eq, beq_eq_false_iff_ne, ne_eq] at hc55
            refine W_skip ?_
            refine n_then ?_
            refine W_cond rfl (fun hc55 => ?_) (fun hc55 => ?_)
            · skip
              try simp only [decide_eq_true_eq, decide_eq_false_iff_not, beq_iff_eq, beq_eq_false_iff_ne, ne_eq] at hc55
              refine W_region ?_
              refine s_move rfl rfl ?_
              refine s_move rfl rfl ?_
              refine s_move rfl rfl ?_
              (refine s_indexAddrP El35 rfl rfl rfl hA ?hx ?_; case hx => (constructor <;> omega))
              refine s_fieldAddr rfl rfl (FA47_3 _ _) ?_
              first
                | refine s_load Try.isAgg24 rfl rfl (hs.cell (k := 0) rfl rfl) ?_
                | refine s_load Try.isAgg24 rfl rfl (hs.cell (k := 1) rfl rfl) ?_
                | refine s_load Try.isAgg24 rfl rfl ((hs.oldcell hB (by simp)).trans (cc 0 _ (by omega) rfl)) ?_
                | refine s_load Try.isAgg24 rfl rfl ((hs.oldcell hB (by simp)).trans (cc 1 _ (by omega) rfl)) ?_
                | refine s_load Try.isAgg24 rfl rfl ((hs.oldcell hB (by simp)).trans (cc 2 _ (by omega) rfl)) ?_
                | refine s_load Try.isAgg24 rfl rfl ((hs.oldcell hB (by simp)).trans (cc 3 _ (by omega) rfl)) ?_
                | refine s_load Try.isAgg24 rfl rfl ((hs.oldcell hB (by simp)).trans (cc 4 _ (by omega) rfl)) ?_
              refine s_call Try.call46 rfl rfl (fRaw_ok _ x.p.bs w (hsb.fwd0 hs.fwd) hpbl) ?_
              rintro r w ⟨Ln, hOn, hst⟩
              replace hs := St.back0 hs hst
              clear hst
              have heq : encV x.p = uvar x.p.bs.length ++ x.p.bs := by rw [encV, if_neg (by omega), if_neg (by omega), if_neg (by omega), if_pos (by omega)]
              rw [heq] at hl2
              refine s_appendM (M := Ln) (Lv := L) (X := []) El24 rfl rfl rfl hO (by simpa using hs) (hOn.sl hs) (by simp) (u8s_one _) (by omega) ?_
              clear hs; intro v' w Lv' hO' hs
              simp only [List.append_nil] at hs
              refine s_assign rfl rfl ?_
              refine WL_nil ?_
              refine n_blk ?_
              refine n_blk ?_
              refine n_then ?_
              refine W_region ?_
              refine s_move rfl rfl ?_
              first | (refine s_add' rfl rfl rfl ?hx ?_; case hx => (constructor <;> first | omega | (simp only; omega))) | refine s_add rfl rfl rfl ?_
              refine s_assign rfl rfl ?_
              refine WL_nil ?_
              refine n_loop ?_
              refine ⟨(i + 1, v', Lv'), ⟨rfl, rfl, rfl, trivial⟩, ⟨hs.right, ?_, by simp only; omega⟩, by simp only; omega⟩
              simp only
              rw [htk, heq, List.length_append, u8s, List.map_append]; exact hO'
            · skip
              try simp only [decide_eq_true_eq, decide_eq_false_iff_not, beq_iff_eq, beq_eq_false_iff_ne, ne_eq] at hc55
              refine W_region ?_
              refine s_move rfl rfl ?_
              refine s_move rfl rfl ?_
              refine s_move rfl rfl ?_
              (refine s_indexAddrP El35 rfl rfl rfl hA ?hx ?_; case hx => (constructor <;> omega))
              refine s_fieldAddr rfl rfl (FA47_4 _ _) ?_
              first
                | refine s_load Try.isAgg33 rfl rfl (hs.cell (k := 0) rfl rfl) ?_
                | refine s_load Try.isAgg33 rfl rfl (hs.cell (k := 1) rfl rfl) ?_
                | refine s_load Try.isAgg33 rfl rfl ((hs.oldcell hB (by simp)).trans (cc 0 _ (by omega) rfl)) ?_
                | refine s_load Try.isAgg33 rfl rfl ((hs.oldcell hB (by simp)).trans (cc 1 _ (by omega) rfl)) ?_
                | refine s_load Try.isAgg33 rfl rfl ((hs.oldcell hB (by simp)).trans (cc 2 _ (by omega) rfl)) ?_
                | refine s_load Try.isAgg33 rfl rfl ((hs.oldcell hB (by simp)).trans (cc 3 _ (by omega) rfl)) ?_
                | refine s_load Try.isAgg33 rfl rfl ((hs.oldcell hB (by simp)).trans (cc 4 _ (by omega) rfl)) ?_
              refine s_call Try.call47 rfl rfl (fInts_ok _ x.p.ls w (hsl.fwd0 hs.fwd) hpl hpll) ?_
              rintro r w ⟨Ln, hOn, hst⟩
              replace hs := St.back0 hs hst
              clear hst
              have heq : encV x.p = uvar x.p.ls.length ++ encInts x.p.ls := by rw [encV, if_neg (by omega), if_neg (by omega), if_neg (by omega), if_neg (by omega)]
              rw [heq] at hl2
              refine s_appendM (M := Ln) (Lv := L) (X := []) El24 rfl rfl rfl hO (by simpa using hs) (hOn.sl hs) (by simp) (u8s_one _) (by omega) ?_
              clear hs; intro v' w Lv' hO' hs
              simp only [List.append_nil] at hs
              refine s_assign rfl rfl ?_
              refine WL_nil ?_
              refine n_blk ?_
              refine n_blk ?_
              refine n_then ?_
              refine W_region ?_
              refine s_move rfl rfl ?_
              first | (refine s_add' rfl rfl rfl ?hx ?_; case hx => (constructor <;> first | omega | (simp only; omega))) | refine s_add rfl rfl rfl ?_
              refine s_assign rfl rfl ?_
              refine WL_nil ?_
              refine n_loop ?_
              refine ⟨(i + 1, v', Lv'), ⟨rfl, rfl, rfl, trivial⟩, ⟨hs.right, ?_, by simp only; omega⟩, by simp only; omega⟩
              simp only
              rw [htk, heq, List.length_append, u8s, List.map_append]; exact hO'
          · skip
            try simp only [decide_eq_true_eq, decide_eq_false_iff_not, beq_iff_eq, beq_eq_false_iff_ne, ne_eq] at hc55
            refine W_region ?_
            refine s_eql rfl rfl rfl ?_
            refine s_assign rfl rfl ?_
            refine WL_nil ?_
            refine n_then ?_
            refine W_cond rfl (fun hc55 => ?_) (fun hc55 => ?_)
            · skip
              try simp only [decide_eq_true_eq, decide_eq_false_iff_not, beq_iff_eq, beq_eq_false_iff_ne, ne_eq] at hc55
              refine W_region ?_
              refine s_move rfl rfl ?_
              refine s_move rfl rfl ?_
              refine s_move rfl rfl ?_
              (refine s_indexAddrP El35 rfl rfl rfl hA ?hx ?_; case hx => (constructor <;> omega))
              refine s_fieldAddr rfl rfl (FA47_3 _ _) ?_
              first
                | refine s_load Try.isAgg24 rfl rfl (hs.cell (k := 0) rfl rfl) ?_
                | refine s_load Try.isAgg24 rfl rfl (hs.cell (k := 1) rfl rfl) ?_
                | refine s_load Try.isAgg24 rfl rfl ((hs.oldcell hB (by simp)).trans (cc 0 _ (by omega) rfl)) ?_
                | refine s_load Try.isAgg24 rfl rfl ((hs.oldcell hB (by simp)).trans (cc 1 _ (by omega) rfl)) ?_
                | refine s_load Try.isAgg24 rfl rfl ((hs.oldcell hB (by simp)).trans (cc 2 _ (by omega) rfl)) ?_
                | refine s_load Try.isAgg24 rfl rfl ((hs.oldcell hB (by simp)).trans (cc 3 _ (by omega) rfl)) ?_
                | refine s_load Try.isAgg24 rfl rfl ((hs.oldcell hB (by simp)).trans (cc 4 _ (by omega) rfl)) ?_
              refine s_call Try.call46 rfl rfl (fRaw_ok _ x.p.bs w (hsb.fwd0 hs.fwd) hpbl) ?_
              rintro r w ⟨Ln, hOn, hst⟩
              replace hs := St.back0 hs hst
              clear hst
              have heq : encV x.p = uvar x.p.bs.length ++ x.p.bs := by rw [encV, if_neg (by omega), if_neg (by omega), if_neg (by omega), if_pos (by omega)]
              rw [heq] at hl2
              refine s_appendM (M := Ln) (Lv := L) (X := []) El24 rfl rfl rfl hO (by simpa using hs) (hOn.sl hs) (by simp) (u8s_one _) (by omega) ?_
              clear hs; intro v' w Lv' hO' hs
              simp only [List.append_nil] at hs
              refine s_assign rfl rfl ?_
              refine WL_nil ?_
              refine n_blk ?_
              refine n_blk ?_
              refine n_then ?_
              refine W_region ?_
              refine s_move rfl rfl ?_
              first | (refine s_add' rfl rfl rfl ?hx ?_; case hx => (constructor <;> first | omega | (simp only; omega))) | refine s_add rfl rfl rfl ?_
              refine s_assign rfl rfl ?_
              refine WL_nil ?_
              refine n_loop ?_
              refine ⟨(i + 1, v', Lv'), ⟨rfl, rfl, rfl, trivial⟩, ⟨hs.right, ?_, by simp only; omega⟩, by simp only; omega⟩
              simp only
              rw [htk, heq, List.length_append, u8s, List.map_append]; exact hO'
            · skip
              try simp only [decide_eq_true_eq, decide_eq_false_iff_not, beq_iff_eq, beq_eq_false_iff_ne, ne_eq] at hc55
              refine W_region ?_
              refine s_move rfl rfl ?_
              refine s_move rfl rfl ?_
              refine s_move rfl rfl ?_
              (refine s_indexAddrP El35 rfl rfl rfl hA ?hx ?_; case hx => (constructor <;> omega))
              refine s_fieldAddr rfl rfl (FA47_4 _ _) ?_
              first
                | refine s_load Try.isAgg33 rfl rfl (hs.cell (k := 0) rfl rfl) ?_
                | refine s_load Try.isAgg33 rfl rfl (hs.cell (k := 1) rfl rfl) ?_
                | refine s_load Try.isAgg33 rfl rfl ((hs.oldcell hB (by simp)).trans (cc 0 _ (by omega) rfl)) ?_
                | refine s_load Try.isAgg33 rfl rfl ((hs.oldcell hB (by simp)).trans (cc 1 _ (by omega) rfl)) ?_
                | refine s_load Try.isAgg33 rfl rfl ((hs.oldcell hB (by simp)).trans (cc 2 _ (by omega) rfl)) ?_
                | refine s_load Try.isAgg33 rfl rfl ((hs.oldcell hB (by simp)).trans (cc 3 _ (by omega) rfl)) ?_
                | refine s_load Try.isAgg33 rfl rfl ((hs.oldcell hB (by simp)).trans (cc 4 _ (by omega) rfl)) ?_
              refine s_call Try.call47 rfl rfl (fInts_ok _ x.p.ls w (hsl.fwd0 hs.fwd) hpl hpll) ?_
              rintro r w ⟨Ln, hOn, hst⟩
              replace hs := St.back0 hs hst
              clear hst
              have heq : encV x.p = uvar x.p.ls.length ++ encInts x.p.ls := by rw [encV, if_neg (by omega), if_neg (by omega), if_neg (by omega), if_neg (by omega)]
              rw [heq] at hl2
              refine s_appendM (M := Ln) (Lv := L) (X := []) El24 rfl rfl rfl hO (by simpa using hs) (hOn.sl hs) (by simp) (u8s_one _) (by omega) ?_
              clear hs; intro v' w Lv' hO' hs
              simp only [List.append_nil] at hs
              refine s_assign rfl rfl ?_
              refine WL_nil ?_
              refine n_blk ?_
              refine n_blk ?_
              refine n_then ?_
              refine W_region ?_
              refine s_move rfl rfl ?_
              first | (refine s_add' rfl rfl rfl ?hx ?_; case hx => (constructor <;> first | omega | (simp only; omega))) | refine s_add rfl rfl rfl ?_
              refine s_assign rfl rfl ?_
              refine WL_nil ?_
              refine n_loop ?_
              refine ⟨(i + 1, v', Lv'), ⟨rfl, rfl, rfl, trivial⟩, ⟨hs.right, ?_, by simp only; omega⟩, by simp only; omega⟩
              simp only
              rw [htk, heq, List.length_append, u8s, List.map_append]; exact hO'
  · skip
    try simp only [decide_eq_true_eq, decide_eq_false_iff_not, beq_iff_eq, beq_eq_false_iff_ne, ne_eq] at hc8
    refine W_exit ?_
    refine x_then ?_
    refine x_then ?_
    refine exit_hit ?_
    refine n_then ?_
    refine W_seq ?_
    refine W_region ?_
    refine s_move rfl rfl ?_
    refine s_assign rfl rfl ?_
    refine WL_nil ?_
    refine n_then ?_
    refine W_ret ?_
    have hie : i = vs.length := by omega
    subst hie
    rw [List.take_length] at hO
    exact end1 rfl rfl ⟨L, hO, hs⟩
end Go.Proofs.Ytheeheahhnamjaa
