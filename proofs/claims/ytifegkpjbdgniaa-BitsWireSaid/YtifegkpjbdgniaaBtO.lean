/- BitsOneI. -/
import Derived.Test.YtifegkpjbdgniaaBtL
set_option linter.unusedVariables false
set_option linter.unusedSimpArgs false
namespace Go.Proofs.Ytifegkpjbdgniaa
open Go.SL
theorem bitsAt_add (ys : List Int) (a m n : Nat) : bitsAt ys a (m + n) = bitsAt ys a m ++ bitsAt ys (a + m) n := by
  induction n with
  | zero => simp [bitsAt]
  | succ n ih => rw [← Nat.add_assoc, bitsAt, ih, bitsAt, List.append_assoc, Nat.add_assoc]
theorem nb_snoc (x : Nat) (b : Bool) : ∀ c, nb (2 * x + b.toNat) (c + 1) = nb x c ++ [b]
  | 0 => by cases b <;> simp [nb]
  | c + 1 => by
    rw [nb, nb_snoc x b c]
    have h : (2 * x + b.toNat).testBit (c + 1) = x.testBit c := by rw [Nat.testBit_succ]; congr 1; cases b <;> simp <;> omega
    rw [h]; rfl
theorem nb_va (l : List Bool) : nb (va l) l.length = l := by
  have : ∀ n (l : List Bool), l.length = n → nb (va l) n = l := by
    intro n
    induction n with
    | zero => intro l hl; simp [List.length_eq_zero_iff.1 hl, nb]
    | succ n ih =>
      intro l hl
      have hne : l ≠ [] := by intro h; simp [h] at hl
      rw [← List.dropLast_concat_getLast hne, va_snoc, nb_snoc, ih _ (by simp [hl])]
  exact this _ l rfl
theorem gb_bitsAt (ys : List Int) (c i : Nat) : gb (bitsAt ys 0 c) i = if i < c then bitAt ys i else false := by
  induction c with
  | zero => simp [bitsAt, gb]
  | succ c ih =>
    rw [bitsAt, gb_snoc, bitsAt_length, ih]
    by_cases h : i = c
    · rw [if_pos h, if_pos (by omega), h, Nat.zero_add]
    · rw [if_neg h]
      by_cases h2 : i < c
      · rw [if_pos h2, if_pos (by omega)]
      · rw [if_neg h2, if_neg (by omega)]
theorem b8_congr {f g : Nat → Bool} (h : ∀ i, i < 8 → f i = g i) : b8 f = b8 g := by
  unfold b8
  rw [h 0 (by decide), h 1 (by decide), h 2 (by decide), h 3 (by decide), h 4 (by decide), h 5 (by decide), h 6 (by decide), h 7 (by decide)]
theorem b8_byte : ∀ B : Fin 256, b8 (fun i => B.val &&& (128 / 2 ^ i) != 0) = B.val := by decide +kernel
theorem byte_of_bits (ys : List Int) (hb : ∀ b ∈ ys, isB b) (j : Nat) (hj : j < ys.length) : ((b8 (fun i => bitAt ys (8 * j + i)) : Nat) : Int) = ys[j] := by
  have h1 := hb _ (List.getElem_mem hj)
  unfold isB at h1
  have h2 : b8 (fun i => bitAt ys (8 * j + i)) = b8 (fun i => (ys[j].toNat) &&& (128 / 2 ^ i) != 0) := by
    have h3 : ∀ i, i < 8 → bitAt ys (8 * j + i) = ((ys[j].toNat) &&& (128 / 2 ^ i) != 0) := fun i hi => by
      unfold bitAt
      rw [show (8 * j + i) / 8 = j by omega, show (8 * j + i) % 8 = i by omega]
      simp [hj]
    exact b8_congr h3
  rw [h2, b8_byte ⟨ys[j].toNat, by omega⟩]
  simp only; omega
theorem end_pk (ys : List Int) (k : Nat) (hb : ∀ b ∈ ys, isB b) (hk : k ≤ 8 * ys.length) (he : reV ys k 0 = 0) : pk (bitsAt ys 0 k) = ys := by
  unfold reV at he
  rw [if_neg (by simp)] at he
  by_cases h8 : 8 ≤ 8 * ys.length - k
  · rw [if_pos h8] at he; omega
  · rw [if_neg h8] at he
    by_cases ha : (List.range (8 * ys.length - k)).any (fun i => bitAt ys (k + i)) = true
    · rw [if_pos ha] at he; omega
    · have hz : ∀ i, k ≤ i → i < 8 * ys.length → bitAt ys i = false := fun i h1 h2 => by
        cases hh : bitAt ys i with
        | false => rfl
        | true => exact (ha (List.any_eq_true.2 ⟨i - k, List.mem_range.2 (by omega), by rw [show k + (i - k) = i by omega]; exact hh⟩)).elim
      apply List.ext_getElem
      · rw [pk_length, bitsAt_length]; omega
      · intro j h1 h2
        rw [← byte_of_bits ys hb j h2]
        simp only [pk, List.getElem_map, List.getElem_range, byteAt]
        congr 1
        have h3 : ∀ i, i < 8 → gb (bitsAt ys 0 k) (8 * j + i) = bitAt ys (8 * j + i) := fun i hi => by
          rw [gb_bitsAt]
          by_cases h : 8 * j + i < k
          · rw [if_pos h]
          · rw [if_neg h, hz _ (by omega) (by omega)]
        exact b8_congr h3
theorem ruGo_ok (ys : List Int) (k m : Nat) : ∀ (f n : Nat), bitsAt ys k n = List.replicate n true → (ruGo ys k m f n).2.2 = 0 →
    (ruGo ys k m f n).1 < n + f ∧ (ruGo ys k m f n).2.1 = k + (ruGo ys k m f n).1 + 1 ∧ bitsAt ys k ((ruGo ys k m f n).1 + 1) = List.replicate (ruGo ys k m f n).1 true ++ [false]
  | 0, n, _, h => by simp [ruGo] at h
  | f + 1, n, hb, h => by
    unfold ruGo at h ⊢
    by_cases h1 : bitAt ys (k + n) = false
    · rw [if_pos h1] at h ⊢
      exact ⟨by simp only; omega, rfl, by simp only; rw [bitsAt, hb, h1]⟩
    · rw [if_neg h1] at h ⊢
      by_cases h2 : n = m
      · rw [if_pos h2] at h; simp at h
      · rw [if_neg h2] at h ⊢
        obtain ⟨h3, h4, h5⟩ := ruGo_ok ys k m f (n + 1) (by rw [bitsAt, hb, List.replicate_succ']; simp at h1; rw [h1]) h
        exact ⟨by omega, h4, h5⟩
theorem ruGo_err (ys : List Int) (k m : Nat) : ∀ (f n : Nat), (ruGo ys k m f n).2.2 = 0 ∨ ((ruGo ys k m f n).2.2 = 3 ∨ (ruGo ys k m f n).2.2 = 4) ∧ (ruGo ys k m f n).1 = 0
  | 0, n => by simp [ruGo]
  | f + 1, n => by
    unfold ruGo
    split
    · simp
    · split
      · simp
      · exact ruGo_err ys k m f (n + 1)
/-- what BitsOne keeps -/
structure OneI (ys : List Int) (i k : Nat) (e : Int) (bs : List Bool) : Prop where
  er : e = 0 ∨ e = 3 ∨ e = 4
  bits : e = 0 → bs = bitsAt ys 0 k
  len : bs.length ≤ i * 70000
theorem OneI.start (ys : List Int) : OneI ys 0 0 0 [] := ⟨.inl rfl, fun _ => rfl, by simp⟩
theorem OneI.bitsStep {ys : List Int} {i k : Nat} {bs : List Bool} (c : Int) (h : OneI ys i k 0 bs) : OneI ys (i + 1) (rbV ys k 0 c).2.1 (rbV ys k 0 c).2.2 (bs ++ nb (rbV ys k 0 c).1 (clampV c).toNat) := by
  have hc := (clampV_nat c).2
  have hl := h.len
  have hb := h.bits rfl
  refine ⟨?_, ?_, by simp [nb_length]; omega⟩
  · unfold rbV; rw [if_neg (by simp)]; split <;> simp
  · unfold rbV; rw [if_neg (by simp)]; split
    · intro h0; simp at h0
    · intro _
      simp only
      have := nb_va (bitsAt ys k (clampV c).toNat)
      rw [bitsAt_length] at this
      rw [this, hb, bitsAt_add, Nat.zero_add]
theorem OneI.unaryStep {ys : List Int} {i k : Nat} {bs : List Bool} (c : Int) (hy : ys.length ≤ 40) (h : OneI ys i k 0 bs) : OneI ys (i + 1) (ruV ys k 0 c).2.1 (ruV ys k 0 c).2.2 (bs ++ (List.replicate (capV ((ruV ys k 0 c).1 : Int)).toNat true ++ [false])) := by
  have hl := h.len
  have hb := h.bits rfl
  have hcap := (capV_nat ((ruV ys k 0 c).1 : Int)).2
  refine ⟨?_, ?_, by simp; omega⟩
  · unfold ruV; rw [if_neg (by simp)]
    rcases ruGo_err ys k c.toNat (8 * ys.length - k) 0 with h1 | ⟨h1, _⟩
    · exact .inl h1
    · exact .inr h1
  · unfold ruV; rw [if_neg (by simp)]
    intro h0
    obtain ⟨h1, h2, h3⟩ := ruGo_ok ys k c.toNat (8 * ys.length - k) 0 rfl h0
    generalize (ruGo ys k c.toNat (8 * ys.length - k) 0).1 = n at *
    rw [h2, show (capV (n : Int)).toNat = n by unfold capV; split <;> split at * <;> omega, ← h3, hb, Nat.add_assoc, bitsAt_add ys 0 k (n + 1), Nat.zero_add]
/-! walk -/
theorem rbV_lt (ys : List Int) (k : Nat) (e cnt : Int) : (rbV ys k e cnt).1 < 18446744073709551616 := by
  have hc := (clampV_nat cnt).2
  unfold rbV
  split
  · simp
  · split
    · simp
    · have := va_lt (bitsAt ys k (clampV cnt).toNat)
      rw [bitsAt_length] at this
      exact Nat.lt_of_lt_of_le this (Nat.pow_le_pow_right (by decide) hc)
theorem wrap_i64 (z : Int) : isI64 (IntKind.i64.wrap z) := by
  unfold isI64; rw [IntKind.wrap_i64]; omega
set_option maxHeartbeats 1000000 in
theorem bitsOne_ok (rv v : Value) (raw xs : List Int) (w0 : World) (hr : Sl w0 rv raw.length (u8s raw)) (hrB : ∀ z ∈ raw, isB z) (hv : Sl w0 v xs.length (i64s xs)) (hx : ∀ z ∈ xs, isI64 z) :
    Ret Try.prog 6 [rv, v].toArray w0 fun r w' => Fwd [] w0 w' ∧ r = .bool true := by
  obtain ⟨xa, xc, rfl, hxc⟩ := hv.len_le
  refine Ret_start fun w hs => ?_
  refine Ret_of Try.func6 rfl Try.ntmps6 rfl ?_
  refine W_seq ?_
  refine W_region ?_
  refine s_assign rfl rfl ?_
  refine WL_nil ?_
  refine n_then ?_
  refine W_seq ?_
  refine W_region ?_
  refine s_move rfl rfl ?_
  refine s_call Try.call21 rfl rfl (few_ok rv raw 40 w (hr.fwd0 hs.fwd) (by decide)) ?_
  rintro r w ⟨Ly, hOy, hst⟩
  replace hs := St.back0 hs hst
  simp only [List.append_nil] at hs
  clear hst
  have hyB : ∀ z ∈ raw.take 40, isB z := fun z hz => hrB z (List.mem_of_mem_take hz)
  have hyl : (raw.take 40).length = min raw.length 40 := by simp [Nat.min_comm]
  have hy40 : (raw.take 40).length ≤ 40 := by omega
  rw [← hyl] at hOy
  generalize raw.take 40 = ys at *
  obtain ⟨_, yc, ya, rfl, rfl⟩ := hOy.form
  refine s_assign rfl rfl ?_
  refine WL_nil ?_
  refine n_then ?_
  refine W_seq ?_
  refine W_region ?_
  refine s_move rfl rfl ?_
  refine s_call Try.call22 rfl rfl (bRead_ok _ ys w (hOy.sl (M := []) (by simpa using hs)) (by omega) hyB) ?_
  rintro r w ⟨p, LP, rfl, hP, hst⟩
  replace hs := St.back0 hs hst
  clear hst
  refine s_assign rfl rfl ?_
  refine WL_nil ?_
  refine n_then ?_
  refine W_seq ?_
  refine W_seq ?_
  refine W_region ?_
  refine s_move rfl rfl ?_
  refine s_eql_ptr_nil Try.underlying43 rfl rfl rfl ?_
  refine WL_nil ?_
  refine n_then ?_
  refine W_cond_kf rfl (rfl) ?_
  refine W_skip ?_
  refine n_then ?_
  refine W_seq ?_
  refine W_region ?_
  refine s_alloc rfl AL31 hs ?_; clear hs; intro b7 w hs
  refine WL_nil ?_
  refine n_then ?_
  refine W_seq ?_
  refine W_seq ?_
  refine W_region ?_
  refine s_assign rfl rfl ?_
  refine WL_nil ?_
  refine n_then ?_
  refine W_block ?_
  refine W_loop (σ := Nat × Nat × Int × List Bool × Hp × Hp) (fun s => [(1, .slice xa xs.length xc), (5, .slice ya ys.length yc), (6, .pointer (some ⟨p, 0, none⟩)), (7, .pointer (some ⟨b7, 0, none⟩)), (8, .int .i64 (s.1 : Int))]) (fun s w => St [] w0 w (s.2.2.2.2.1 ++ (s.2.2.2.2.2 ++ Ly)) ∧ WbAt b7 s.2.2.2.1 s.2.2.2.2.1 ∧ RbAt p ys s.2.1 s.2.2.1 s.2.2.2.2.2 ∧ OneI ys s.1 s.2.1 s.2.2.1 s.2.2.2.1 ∧ s.1 ≤ 60) (fun s => 60 - s.1) (0, 0, 0, [], [_], LP) ⟨rfl, rfl, rfl, rfl, rfl, trivial⟩ ⟨hs, wb_new b7, hP, OneI.start ys, Nat.zero_le _⟩ ?_
  clear hs hP
  rintro ⟨i, k, e, bs, LW, LP⟩ w ⟨hs, hW, hP, hI, hi⟩
  simp only at hs hW hP hI hi ⊢
  have hil := hI.len
  refine W_seq ?_
  refine W_seq ?_
  refine W_region ?_
  refine s_move rfl rfl ?_
  refine s_move rfl rfl ?_
  refine s_len rfl rfl (LN22 _ _ _ _) ?_
  refine s_lss rfl rfl rfl ?_
  refine s_move rfl rfl ?_
  refine WL_case (s := 20) rfl (fun hg20 => ?_) (fun hg20 => ?_)
  · skip
    try simp only [decide_eq_true_eq, decide_eq_false_iff_not, beq_iff_eq, beq_eq_false_iff_ne, ne_eq, bne_iff_ne, bne_eq_false_iff_eq] at hg20
    refine WL_take rfl ?_
    refine s_move rfl rfl ?_
    refine WL_take rfl ?_
    refine s_lss rfl rfl rfl ?_
    refine s_pick_t rfl rfl rfl ?_
    refine s_move rfl rfl ?_
    refine WL_case (s := 24) rfl (fun hg24 => ?_) (fun hg24 => ?_)
    · skip
      try simp only [decide_eq_true_eq, decide_eq_false_iff_not, beq_iff_eq, beq_eq_false_iff_ne, ne_eq, bne_iff_ne, bne_eq_false_iff_eq] at hg24
      refine WL_take rfl ?_
      refine s_move rfl rfl ?_
      refine WL_take rfl ?_
      refine s_callL (M := LW) (L1 := LP) (X := Ly) Try.call30 rfl rfl hs (fun h => rEnd_ok p _ _ _ _ w hP h) ?_
      clear hs; rintro v w L9 ⟨hL9, rfl⟩ - hs
      rw [hL9] at hs; clear hL9 L9
      refine WL_take rfl ?_
      refine s_eql rfl rfl rfl ?_
      refine s_pick_t rfl rfl rfl ?_
      refine WL_nil ?_
      refine n_then ?_
      refine W_cond rfl (fun hc28 => ?_) (fun hc28 => ?_)
      · skip
        try simp only [decide_eq_true_eq, decide_eq_false_iff_not, beq_iff_eq, beq_eq_false_iff_ne, ne_eq, bne_iff_ne, bne_eq_false_iff_eq] at hc28
        have he0 : e = 0 := by
          rcases hI.er with h | h | h
          · exact h
          · rw [h] at hc28; simp [reV] at hc28
          · rw [h] at hc28; simp [reV] at hc28
        subst he0
        have hix : i < xs.length := by omega
        obtain ⟨b1, o1, hA1, hc1⟩ := hv.at (k := i) (i64s_at' hix)
        have hB1 : b1 < w0.heap.size := World.block_lt_of_cell? w0 _ hc1
        have hm : isI64 (xs.getD i 0) := hx _ (by rw [List.getD_eq_getElem?_getD, List.getElem?_eq_getElem hix]; simp)
        generalize xs.getD i 0 = q at hc1 hm
        refine W_skip ?_
        refine n_then ?_
        refine W_seq ?_
        refine W_block ?_
        refine W_seq ?_
        refine W_region ?_
        refine s_move rfl rfl ?_
        refine s_move rfl rfl ?_
        (refine s_indexAddrO El22 rfl rfl rfl hA1 ?hx ?_; case hx => (constructor <;> omega))
        first
          | refine s_load Try.isAgg3 rfl rfl (hs.cell (k := 0) rfl rfl) ?_
          | refine s_load Try.isAgg3 rfl rfl (hs.cell (k := 1) rfl rfl) ?_
          | refine s_load Try.isAgg3 rfl rfl (hs.cell (k := 2) rfl rfl) ?_
          | refine s_load Try.isAgg3 rfl rfl ((hs.oldcell (a := ⟨b1, o1 + i, none⟩) hB1 (by simp)).trans hc1) ?_
        (refine s_quo rfl rfl rfl ?hx ?_; case hx => omega)
        have hq2 : isI64 (IntKind.i64.wrap (q.tdiv 2)) := wrap_i64 _
        generalize IntKind.i64.wrap (q.tdiv 2) = z at hq2
        refine s_call Try.call24 rfl rfl (around_ok z 65 w (by omega) hq2) ?_
        rintro r w1 ⟨hw1, rfl⟩
        rw [hw1]; clear hw1 w1
        generalize aroundV z 65 = cv
        refine s_assign rfl rfl ?_
        refine WL_nil ?_
        refine n_then ?_
        refine W_seq ?_
        refine W_region ?_
        refine s_move rfl rfl ?_
        refine s_move rfl rfl ?_
        (refine s_indexAddrO El22 rfl rfl rfl hA1 ?hx ?_; case hx => (constructor <;> omega))
        first
          | refine s_load Try.isAgg3 rfl rfl (hs.cell (k := 0) rfl rfl) ?_
          | refine s_load Try.isAgg3 rfl rfl (hs.cell (k := 1) rfl rfl) ?_
          | refine s_load Try.isAgg3 rfl rfl (hs.cell (k := 2) rfl rfl) ?_
          | refine s_load Try.isAgg3 rfl rfl ((hs.oldcell (a := ⟨b1, o1 + i, none⟩) hB1 (by simp)).trans hc1) ?_
        first | (refine s_rem' rfl rfl rfl ?hx ?_; case hx => (refine ⟨?_, ?_⟩ <;> omega)) | (refine s_rem rfl rfl rfl ?hx ?_; case hx => omega)
        refine s_eql rfl rfl rfl ?_
        refine WL_nil ?_
        refine n_then ?_
        refine W_cond rfl (fun hc42 => ?_) (fun hc42 => ?_)
        · skip
          try simp only [decide_eq_true_eq, decide_eq_false_iff_not, beq_iff_eq, beq_eq_false_iff_ne, ne_eq, bne_iff_ne, bne_eq_false_iff_eq] at hc42
          refine W_region ?_
          refine s_move rfl rfl ?_
          refine s_move rfl rfl ?_
          refine s_callL (M := LW) (L1 := LP) (X := Ly) Try.call25 rfl rfl hs (fun h => rBits_ok p _ _ _ cv _ w hP h) ?_
          clear hs hP; rintro v w LP2 ⟨hP, rfl⟩ - hs
          refine s_move rfl rfl ?_
          refine s_callL (M := []) (L1 := LW) (X := LP2 ++ Ly) Try.call33 rfl rfl hs (fun h => wBits_ok b7 bs _ cv _ w hW h (rbV_lt _ _ _ _) (by omega)) ?_
          clear hs hW; rintro v w LW2 ⟨hW, rfl⟩ - hs
          simp only [List.nil_append] at hs
          have hI2 := hI.bitsStep cv
          refine WL_nil ?_
          refine n_blk ?_
          refine n_then ?_
          refine W_region ?_
          refine s_move rfl rfl ?_
          first | (refine s_add' rfl rfl rfl ?hx ?_; case hx => (constructor <;> first | omega | (simp only; omega))) | refine s_add rfl rfl rfl ?_
          refine s_assign rfl rfl ?_
          refine WL_nil ?_
          refine n_loop ?_
          exact ⟨(i + 1, _, _, _, LW2, LP2), ⟨rfl, rfl, rfl, rfl, rfl, trivial⟩, ⟨hs, hW, hP, hI2, by simp only; omega⟩, by simp only; omega⟩
        · skip
          try simp only [decide_eq_true_eq, decide_eq_false_iff_not, beq_iff_eq, beq_eq_false_iff_ne, ne_eq, bne_iff_ne, bne_eq_false_iff_eq] at hc42
          refine W_region ?_
          refine s_move rfl rfl ?_
          refine s_move rfl rfl ?_
          refine s_callL (M := LW) (L1 := LP) (X := Ly) Try.call27 rfl rfl hs (fun h => rUnary_ok p _ _ _ cv _ w hP h) ?_
          clear hs hP; rintro v w LP2 ⟨hP, rfl⟩ - hs
          refine s_callL (M := []) (L1 := LW) (X := LP2 ++ Ly) Try.call34 rfl rfl hs (fun h => wUnary_ok b7 bs _ _ w hW h (by omega)) ?_
          clear hs hW; rintro v w LW2 ⟨hW, rfl⟩ - hs
          simp only [List.nil_append] at hs
          have hI2 := hI.unaryStep cv hy40
          refine WL_nil ?_
          refine n_blk ?_
          refine n_then ?_
          refine W_region ?_
          refine s_move rfl rfl ?_
          first | (refine s_add' rfl rfl rfl ?hx ?_; case hx => (constructor <;> first | omega | (simp only; omega))) | refine s_add rfl rfl rfl ?_
          refine s_assign rfl rfl ?_
          refine WL_nil ?_
          refine n_loop ?_
          exact ⟨(i + 1, _, _, _, LW2, LP2), ⟨rfl, rfl, rfl, rfl, rfl, trivial⟩, ⟨hs, hW, hP, hI2, by simp only; omega⟩, by simp only; omega⟩
      · skip
        try simp only [decide_eq_true_eq, decide_eq_false_iff_not, beq_iff_eq, beq_eq_false_iff_ne, ne_eq, bne_iff_ne, bne_eq_false_iff_eq] at hc28
        refine W_exit ?_
        refine x_then ?_
        refine x_then ?_
        refine exit_hit ?_
        refine n_then ?_
        refine W_seq ?_
        refine W_region ?_
        refine s_move rfl rfl ?_
        refine s_callL (M := LW) (L1 := LP) (X := Ly) Try.call30 rfl rfl hs (fun h => rEnd_ok p _ _ _ _ w hP h) ?_
        clear hs; rintro v w L9 ⟨hL9, rfl⟩ - hs
        rw [hL9] at hs; clear hL9 L9
        refine s_neq rfl rfl rfl ?_
        refine s_move rfl rfl ?_
        refine WL_case (s := 55) rfl (fun hg55 => ?_) (fun hg55 => ?_)
        · skip
          try simp only [decide_eq_true_eq, decide_eq_false_iff_not, beq_iff_eq, beq_eq_false_iff_ne, ne_eq, bne_iff_ne, bne_eq_false_iff_eq] at hg55
          refine WL_skip rfl rfl rfl ?_
          refine WL_skip rfl rfl rfl ?_
          refine WL_skip rfl rfl rfl ?_
          refine s_pick_t rfl rfl rfl ?_
          refine s_move rfl rfl ?_
          refine WL_take rfl ?_
          refine s_call Try.call20 rfl rfl (lives_ok w) ?_
          rintro r w ⟨hst, rfl⟩
          replace hs := hs.fwd1 hst
          clear hst
          refine s_pick_t rfl rfl rfl ?_
          refine s_assign rfl rfl ?_
          refine WL_nil ?_
          refine n_then ?_
          refine W_ret ?_
          exact end1 rfl rfl ⟨hs.fwd, rfl⟩
        · skip
          try simp only [decide_eq_true_eq, decide_eq_false_iff_not, beq_iff_eq, beq_eq_false_iff_ne, ne_eq, bne_iff_ne, bne_eq_false_iff_eq] at hg55
          have he0 : e = 0 := by
            rcases hI.er with h | h | h
            · exact h
            · rw [h] at hg55; simp [reV] at hg55
            · rw [h] at hg55; simp [reV] at hg55
          subst he0
          have hpk : pk bs = ys := by
            rw [hI.bits rfl]
            obtain ⟨_, _, _, _, hk9, _, _⟩ := hP
            exact end_pk ys k hyB hk9 hg55
          refine WL_take rfl ?_
          refine s_callL (M := []) (L1 := LW) (X := LP ++ Ly) Try.call18 rfl rfl hs (fun h => wDone_ok b7 bs _ w hW h (by omega)) ?_
          clear hs; rintro v w LW2 ⟨Lr, rfl, hOr⟩ - hs
          rw [hpk] at hOr
          simp only [List.nil_append, List.append_assoc] at hs
          refine WL_take rfl ?_
          refine s_move rfl rfl ?_
          refine WL_take rfl ?_
          refine s_call Try.call17 rfl rfl (sameBytes_ok _ _ ys ys w (hOr.slM (M := LW) (X := LP ++ Ly) hs) (hOy.slM (M := LW ++ (Lr ++ LP)) (X := []) (by simpa using hs)) (by omega)) ?_
          rintro r w ⟨hst, rfl⟩
          replace hs := hs.fwd1 hst
          clear hst
          refine s_pick_f rfl rfl rfl ?_
          refine s_move rfl rfl ?_
          refine WL_know (s := 60) (c := true) rfl ((by simp)) ?_
          refine WL_take rfl ?_
          refine s_call Try.call20 rfl rfl (lives_ok w) ?_
          rintro r w ⟨hst, rfl⟩
          replace hs := hs.fwd1 hst
          clear hst
          refine s_pick_t rfl rfl rfl ?_
          refine s_assign rfl rfl ?_
          refine WL_nil ?_
          refine n_then ?_
          refine W_ret ?_
          exact end1 rfl rfl ⟨hs.fwd, rfl⟩
    · skip
      try simp only [decide_eq_true_eq, decide_eq_false_iff_not, beq_iff_eq, beq_eq_false_iff_ne, ne_eq, bne_iff_ne, bne_eq_false_iff_eq] at hg24
      refine WL_skip rfl rfl rfl ?_
      refine WL_skip rfl rfl rfl ?_
      refine WL_skip rfl rfl rfl ?_
      refine s_pick_f rfl rfl rfl ?_
      refine WL_nil ?_
      refine n_then ?_
      refine W_cond_f rfl ?_
      refine W_exit ?_
      refine x_then ?_
      refine x_then ?_
      refine exit_hit ?_
      refine n_then ?_
      refine W_seq ?_
      refine W_region ?_
      refine s_move rfl rfl ?_
      refine s_callL (M := LW) (L1 := LP) (X := Ly) Try.call30 rfl rfl hs (fun h => rEnd_ok p _ _ _ _ w hP h) ?_
      clear hs; rintro v w L9 ⟨hL9, rfl⟩ - hs
      rw [hL9] at hs; clear hL9 L9
      refine s_neq rfl rfl rfl ?_
      refine s_move rfl rfl ?_
      refine WL_case (s := 55) rfl (fun hg55 => ?_) (fun hg55 => ?_)
      · skip
        try simp only [decide_eq_true_eq, decide_eq_false_iff_not, beq_iff_eq, beq_eq_false_iff_ne, ne_eq, bne_iff_ne, bne_eq_false_iff_eq] at hg55
        refine WL_skip rfl rfl rfl ?_
        refine WL_skip rfl rfl rfl ?_
        refine WL_skip rfl rfl rfl ?_
        refine s_pick_t rfl rfl rfl ?_
        refine s_move rfl rfl ?_
        refine WL_take rfl ?_
        refine s_call Try.call20 rfl rfl (lives_ok w) ?_
        rintro r w ⟨hst, rfl⟩
        replace hs := hs.fwd1 hst
        clear hst
        refine s_pick_t rfl rfl rfl ?_
        refine s_assign rfl rfl ?_
        refine WL_nil ?_
        refine n_then ?_
        refine W_ret ?_
        exact end1 rfl rfl ⟨hs.fwd, rfl⟩
      · skip
        try simp only [decide_eq_true_eq, decide_eq_false_iff_not, beq_iff_eq, beq_eq_false_iff_ne, ne_eq, bne_iff_ne, bne_eq_false_iff_eq] at hg55
        have he0 : e = 0 := by
          rcases hI.er with h | h | h
          · exact h
          · rw [h] at hg55; simp [reV] at hg55
          · rw [h] at hg55; simp [reV] at hg55
        subst he0
        have hpk : pk bs = ys := by
          rw [hI.bits rfl]
          obtain ⟨_, _, _, _, hk9, _, _⟩ := hP
          exact end_pk ys k hyB hk9 hg55
        refine WL_take rfl ?_
        refine s_callL (M := []) (L1 := LW) (X := LP ++ Ly) Try.call18 rfl rfl hs (fun h => wDone_ok b7 bs _ w hW h (by omega)) ?_
        clear hs; rintro v w LW2 ⟨Lr, rfl, hOr⟩ - hs
        rw [hpk] at hOr
        simp only [List.nil_append, List.append_assoc] at hs
        refine WL_take rfl ?_
        refine s_move rfl rfl ?_
        refine WL_take rfl ?_
        refine s_call Try.call17 rfl rfl (sameBytes_ok _ _ ys ys w (hOr.slM (M := LW) (X := LP ++ Ly) hs) (hOy.slM (M := LW ++ (Lr ++ LP)) (X := []) (by simpa using hs)) (by omega)) ?_
        rintro r w ⟨hst, rfl⟩
        replace hs := hs.fwd1 hst
        clear hst
        refine s_pick_f rfl rfl rfl ?_
        refine s_move rfl rfl ?_
        refine WL_know (s := 60) (c := true) rfl ((by simp)) ?_
        refine WL_take rfl ?_
        refine s_call Try.call20 rfl rfl (lives_ok w) ?_
        rintro r w ⟨hst, rfl⟩
        replace hs := hs.fwd1 hst
        clear hst
        refine s_pick_t rfl rfl rfl ?_
        refine s_assign rfl rfl ?_
        refine WL_nil ?_
        refine n_then ?_
        refine W_ret ?_
        exact end1 rfl rfl ⟨hs.fwd, rfl⟩
  · skip
    try simp only [decide_eq_true_eq, decide_eq_false_iff_not, beq_iff_eq, beq_eq_false_iff_ne, ne_eq, bne_iff_ne, bne_eq_false_iff_eq] at hg20
    refine WL_skip rfl rfl rfl ?_
    refine WL_skip rfl rfl rfl ?_
    refine s_pick_f rfl rfl rfl ?_
    refine s_move rfl rfl ?_
    refine WL_skip rfl rfl rfl ?_
    refine WL_skip rfl rfl rfl ?_
    refine WL_skip rfl rfl rfl ?_
    refine s_pick_f rfl rfl rfl ?_
    refine WL_nil ?_
    refine n_then ?_
    refine W_cond_f rfl ?_
    refine W_exit ?_
    refine x_then ?_
    refine x_then ?_
    refine exit_hit ?_
    refine n_then ?_
    refine W_seq ?_
    refine W_region ?_
    refine s_move rfl rfl ?_
    refine s_callL (M := LW) (L1 := LP) (X := Ly) Try.call30 rfl rfl hs (fun h => rEnd_ok p _ _ _ _ w hP h) ?_
    clear hs; rintro v w L9 ⟨hL9, rfl⟩ - hs
    rw [hL9] at hs; clear hL9 L9
    refine s_neq rfl rfl rfl ?_
    refine s_move rfl rfl ?_
    refine WL_case (s := 55) rfl (fun hg55 => ?_) (fun hg55 => ?_)
    · skip
      try simp only [decide_eq_true_eq, decide_eq_false_iff_not, beq_iff_eq, beq_eq_false_iff_ne, ne_eq, bne_iff_ne, bne_eq_false_iff_eq] at hg55
      refine WL_skip rfl rfl rfl ?_
      refine WL_skip rfl rfl rfl ?_
      refine WL_skip rfl rfl rfl ?_
      refine s_pick_t rfl rfl rfl ?_
      refine s_move rfl rfl ?_
      refine WL_take rfl ?_
      refine s_call Try.call20 rfl rfl (lives_ok w) ?_
      rintro r w ⟨hst, rfl⟩
      replace hs := hs.fwd1 hst
      clear hst
      refine s_pick_t rfl rfl rfl ?_
      refine s_assign rfl rfl ?_
      refine WL_nil ?_
      refine n_then ?_
      refine W_ret ?_
      exact end1 rfl rfl ⟨hs.fwd, rfl⟩
    · skip
      try simp only [decide_eq_true_eq, decide_eq_false_iff_not, beq_iff_eq, beq_eq_false_iff_ne, ne_eq, bne_iff_ne, bne_eq_false_iff_eq] at hg55
      have he0 : e = 0 := by
        rcases hI.er with h | h | h
        · exact h
        · rw [h] at hg55; simp [reV] at hg55
        · rw [h] at hg55; simp [reV] at hg55
      subst he0
      have hpk : pk bs = ys := by
        rw [hI.bits rfl]
        obtain ⟨_, _, _, _, hk9, _, _⟩ := hP
        exact end_pk ys k hyB hk9 hg55
      refine WL_take rfl ?_
      refine s_callL (M := []) (L1 := LW) (X := LP ++ Ly) Try.call18 rfl rfl hs (fun h => wDone_ok b7 bs _ w hW h (by omega)) ?_
      clear hs; rintro v w LW2 ⟨Lr, rfl, hOr⟩ - hs
      rw [hpk] at hOr
      simp only [List.nil_append, List.append_assoc] at hs
      refine WL_take rfl ?_
      refine s_move rfl rfl ?_
      refine WL_take rfl ?_
      refine s_call Try.call17 rfl rfl (sameBytes_ok _ _ ys ys w (hOr.slM (M := LW) (X := LP ++ Ly) hs) (hOy.slM (M := LW ++ (Lr ++ LP)) (X := []) (by simpa using hs)) (by omega)) ?_
      rintro r w ⟨hst, rfl⟩
      replace hs := hs.fwd1 hst
      clear hst
      refine s_pick_f rfl rfl rfl ?_
      refine s_move rfl rfl ?_
      refine WL_know (s := 60) (c := true) rfl ((by simp)) ?_
      refine WL_take rfl ?_
      refine s_call Try.call20 rfl rfl (lives_ok w) ?_
      rintro r w ⟨hst, rfl⟩
      replace hs := hs.fwd1 hst
      clear hst
      refine s_pick_t rfl rfl rfl ?_
      refine s_assign rfl rfl ?_
      refine WL_nil ?_
      refine n_then ?_
      refine W_ret ?_
      exact end1 rfl rfl ⟨hs.fwd, rfl⟩
end Go.Proofs.Ytifegkpjbdgniaa
