/- BitsWire. -/
import Derived.Test.YtifegkpjbdgniaaBtU
set_option linter.unusedVariables false
set_option linter.unusedSimpArgs false
namespace Go.Proofs.Ytifegkpjbdgniaa
open Go.SL
theorem nb_congr {m n : Nat} : ∀ {c : Nat}, m % 2 ^ c = n % 2 ^ c → nb m c = nb n c
  | 0, _ => rfl
  | c + 1, h => by
    have hb : ∀ i, i < c + 1 → m.testBit i = n.testBit i := fun i hi => by
      have h1 := congrArg (fun x => x.testBit i) h
      simpa [Nat.testBit_mod_two_pow, hi] using h1
    rw [nb, nb, hb c (by omega)]
    congr 1
    refine nb_congr ?_
    have h2 := congrArg (· % 2 ^ c) h
    simpa [Nat.mod_mod_of_dvd _ (Nat.pow_dvd_pow 2 (Nat.le_succ c))] using h2
theorem nb_byte (r more : Nat) (h : more ≤ 1) : nb more 1 ++ nb r 7 = nb (r % 128 + 128 * more) 8 := by
  have h1 : nb (r % 128 + 128 * more) 8 = (r % 128 + 128 * more).testBit 7 :: nb (r % 128 + 128 * more) 7 := rfl
  have h2 : nb more 1 = [more.testBit 0] := rfl
  rw [h1, h2, List.cons_append, List.nil_append]
  congr 1
  · rw [Nat.testBit_eq_decide_div_mod_eq, Nat.testBit_eq_decide_div_mod_eq, decide_eq_decide]
    rw [show 2 ^ 0 = 1 from rfl, show 2 ^ 7 = 128 from rfl]; omega
  · exact nb_congr (by rw [show 2 ^ 7 = 128 from rfl]; omega)
theorem b8_byte2 : ∀ B : Fin 256, b8 (fun i => B.val &&& (128 / 2 ^ i) != 0) = B.val := by decide +kernel
theorem pk_of {ys : List Int} {bs : List Bool} (h : BitsOf ys bs) (hB : ∀ b ∈ ys, isB b) : pk bs = ys := by
  unfold pk
  rw [h.1, show (8 * ys.length + 7) / 8 = ys.length by omega]
  apply List.ext_getElem?
  intro j
  rcases Nat.lt_or_ge j ys.length with hj | hj
  · rw [List.getElem?_map, List.getElem?_range hj, List.getElem?_eq_getElem hj]
    have h1 := hB _ (List.getElem_mem hj)
    unfold isB at h1
    have h2 := b8_byte2 ⟨ys[j].toNat, by omega⟩
    simp only at h2
    have h3 : byteAt bs j = ys[j].toNat := by
      rw [← h2]
      refine b8_congr fun i hi => ?_
      unfold gb
      rw [h.2 (8 * j + i) (by omega)]
      unfold bitAt
      rw [show (8 * j + i) / 8 = j by omega, show (8 * j + i) % 8 = i by omega, List.getD_eq_getElem?_getD, List.getElem?_eq_getElem hj]
      rfl
    rw [Option.map_some, h3]
    congr 1; omega
  · rw [List.getElem?_eq_none (by simpa using hj), List.getElem?_eq_none hj]
abbrev u64s (ns : List Nat) : List Value := ns.map fun (n : Nat) => Value.int .u64 (n : Int)
def encU (ns : List Nat) : List Int := ns.flatMap uvar
theorem encU_snoc (ns : List Nat) (n : Nat) : encU (ns ++ [n]) = encU ns ++ uvar n := by simp [encU]
theorem encU_isB (ns : List Nat) : ∀ b ∈ encU ns, isB b := by
  intro b hb
  obtain ⟨n, _, hn⟩ := List.mem_flatMap.1 hb
  exact uvar_isB n b hn
theorem encU_len (ns : List Nat) (h : ∀ n ∈ ns, n < 18446744073709551616) : (encU ns).length ≤ 10 * ns.length := by
  induction ns with
  | nil => simp [encU]
  | cons n ns ih =>
    have h1 := uvar_len10 (h n (by simp))
    have h2 := ih fun x hx => h x (List.mem_cons_of_mem _ hx)
    simp only [encU, List.flatMap_cons, List.length_append, List.length_cons] at h2 ⊢
    omega
theorem encU_take {ns : List Nat} {i n : Nat} (h : ns[i]? = some n) : encU (ns.take (i + 1)) = encU (ns.take i) ++ uvar n := by
  rw [List.take_add_one, h]; exact encU_snoc _ _
theorem encU_drop {ns : List Nat} {i n : Nat} (h : ns[i]? = some n) : encU (ns.drop i) = uvar n ++ encU (ns.drop (i + 1)) := by
  have hlt := (List.getElem?_eq_some_iff.1 h).1
  rw [List.drop_eq_getElem_cons hlt, (List.getElem?_eq_some_iff.1 h).2]; rfl
theorem u64s_at {ns : List Nat} {sp : List Value} {i n : Nat} (h : ns[i]? = some n) : (u64s ns ++ sp)[0 + ((i : Nat) : Int).toNat]? = some (.int .u64 (n : Int)) := by
  have hlt := (List.getElem?_eq_some_iff.1 h).1
  rw [Nat.zero_add, Int.toNat_natCast, List.getElem?_append_left (by simpa using hlt), List.getElem?_map, h]; rfl
theorem pow128 {r k : Nat} (hk : k ≤ 9) (h : r < 128 ^ (10 - k)) (h1 : 128 ≤ r) : k + 1 ≤ 9 ∧ r / 128 < 128 ^ (10 - (k + 1)) := by
  have hk9 : k ≠ 9 := fun e => by subst e; simp at h; omega
  refine ⟨by omega, ?_⟩
  rw [show 10 - k = (10 - (k + 1)) + 1 by omega, Nat.pow_succ] at h
  exact Nat.div_lt_of_lt_mul (by rw [Nat.mul_comm]; exact h)
structure WS where
  k : Nat
  r : Nat
  cs : List Bool
  acc : List Int
  L : Hp
set_option maxHeartbeats 4000000 in
theorem bitsWire_ok (v : Value) (xs : List Int) (u : Nat) (w0 : World) (hv : Sl w0 v xs.length (i64s xs)) (hx : ∀ z ∈ xs, isI64 z) (hu : u < 18446744073709551616) :
    Ret Try.prog 10 [v, .int .u64 (u : Int)].toArray w0 fun r w' => Fwd [] w0 w' ∧ r = .bool true := by
  obtain ⟨a, c, rfl, hac⟩ := hv.len_le
  refine Ret_start fun w hs => ?_
  refine Ret_of Try.func10 rfl Try.ntmps10 rfl ?_
  refine W_seq ?_
  refine W_region ?_
  refine s_assign rfl rfl ?_
  refine WL_nil ?_
  refine n_then ?_
  refine W_seq ?_
  refine W_region ?_
  refine s_alloc rfl AL63 hs ?_; clear hs; intro b5 w hs
  refine WL_nil ?_
  refine n_then ?_
  refine W_seq ?_
  refine W_region ?_
  refine s_alloc rfl AL31 hs ?_; clear hs; intro b6 w hs
  refine WL_nil ?_
  refine n_then ?_
  refine W_seq ?_
  refine W_region ?_
  refine s_move rfl rfl ?_
  refine s_move rfl rfl ?_
  (refine s_shr rfl rfl rfl ?hx ?_; case hx => omega)
  rw [show (u : Int).fdiv (2 ^ (min (30 : Int).toNat IntKind.u64.bits)) = ((u / 2 ^ 30 : Nat) : Int) from shrN u 30 (by omega)]
  refine s_move rfl rfl ?_
  (refine s_shr rfl rfl rfl ?hx ?_; case hx => omega)
  rw [show (u : Int).fdiv (2 ^ (min (57 : Int).toNat IntKind.u64.bits)) = ((u / 2 ^ 57 : Nat) : Int) from shrN u 57 (by omega)]
  refine s_buildSlice rfl rfl (BS65_3 _ _ _) hs ?_; clear hs; intro b20 w hs
  refine s_assign rfl rfl ?_
  refine WL_nil ?_
  refine n_then ?_
  refine W_seq ?_
  refine W_seq ?_
  refine W_region ?_
  refine s_assign rfl rfl ?_
  refine WL_nil ?_
  refine n_then ?_
  refine W_block ?_
  refine W_loop (σ := Nat × List Nat × Value × Hp) (fun s => [(0, .slice a xs.length c), (5, .pointer (some ⟨b5, 0, none⟩)), (6, .pointer (some ⟨b6, 0, none⟩)), (7, s.2.2.1), (8, .int .i64 (s.1 : Int))]) (fun s w => St [] w0 w (s.2.2.2 ++ [(b6, Blk 31 [.slice none 0 0, .int .i64 0]), (b5, Blk 63 [.slice none 0 0])]) ∧ OwnS 23 1 s.2.2.1 s.2.1.length (u64s s.2.1) s.2.2.2 ∧ (∀ n ∈ s.2.1, n < 18446744073709551616) ∧ s.2.1.length = 3 + s.1 ∧ s.1 ≤ 8) (fun s => 8 - s.1) (0, [u, u / 2 ^ 30, u / 2 ^ 57], _, [_]) ⟨rfl, rfl, rfl, rfl, rfl, trivial⟩ ⟨hs, ⟨rfl, .inr ⟨b20, 3, [], rfl, Nat.le_refl _, by decide, rfl, rfl⟩⟩, ?hin, rfl, Nat.zero_le _⟩ ?_
  case hin =>
    intro n hn
    simp only [List.mem_cons, List.not_mem_nil, or_false] at hn
    rcases hn with rfl | rfl | rfl
    · exact hu
    · exact Nat.lt_of_le_of_lt (Nat.div_le_self _ _) hu
    · exact Nat.lt_of_le_of_lt (Nat.div_le_self _ _) hu
  clear hs
  rintro ⟨i, ns, v7, Ln⟩ w ⟨hs, hO, hns, hnl, hi⟩
  simp only at hs hO hns hnl hi ⊢
  obtain ⟨_, nc, na, rfl, rfl⟩ := hO.form
  refine W_seq ?_
  refine W_seq ?_
  refine W_region ?_
  refine s_move rfl rfl ?_
  refine s_move rfl rfl ?_
  refine s_len rfl rfl (LN22 _ _ _ _) ?_
  refine s_lss rfl rfl rfl ?_
  refine s_move rfl rfl ?_
  refine WL_case (s := 25) rfl (fun hg25 => ?_) (fun hg25 => ?_)
  · skip
    try simp only [decide_eq_true_eq, decide_eq_false_iff_not, beq_iff_eq, beq_eq_false_iff_ne, ne_eq, bne_iff_ne, bne_eq_false_iff_eq, ge_iff_le] at hg25
    refine WL_take rfl ?_
    refine s_move rfl rfl ?_
    refine WL_take rfl ?_
    refine s_lss rfl rfl rfl ?_
    refine s_pick_t rfl rfl rfl ?_
    refine WL_nil ?_
    refine n_then ?_
    refine W_cond rfl (fun hc28 => ?_) (fun hc28 => ?_)
    · skip
      try simp only [decide_eq_true_eq, decide_eq_false_iff_not, beq_iff_eq, beq_eq_false_iff_ne, ne_eq, bne_iff_ne, bne_eq_false_iff_eq, ge_iff_le] at hc28
      have hix : i < xs.length := by omega
      obtain ⟨b1, o1, hA1, hc1⟩ := hv.at (k := i) (i64s_at' hix)
      have hB1 : b1 < w0.heap.size := World.block_lt_of_cell? w0 _ hc1
      generalize xs.getD i 0 = q at hc1
      refine W_skip ?_
      refine n_then ?_
      refine W_seq ?_
      refine W_block ?_
      refine W_region ?_
      refine s_move rfl rfl ?_
      refine s_move rfl rfl ?_
      refine s_move rfl rfl ?_
      (refine s_indexAddrO El22 rfl rfl rfl hA1 ?hx ?_; case hx => (constructor <;> omega))
      refine s_load Try.isAgg3 rfl rfl ((hs.oldcell (a := ⟨b1, o1 + i, none⟩) hB1 (by simp)).trans hc1) ?_
      refine s_convert rfl rfl (CV3_23 _) ?_
      obtain ⟨mn, hmn, hmn2⟩ := wrapU_nat q
      rw [hmn]
      refine s_buildSlice rfl rfl (BS65_1 _) hs ?_; clear hs; intro b37 w hs
      refine s_appendM (M := [_]) (X := [_, _]) El65 rfl rfl rfl hO hs (hs.sl (k := 0) (ds := [_]) rfl (Nat.le_refl _) (by intro j u hj; rw [Nat.zero_add]; exact hj)) rfl (by simp [Value.oneCell']) (by omega) ?_
      clear hs; intro v' w Lv' hO' hs
      simp only [List.cons_append, List.nil_append] at hs
      refine s_assign rfl rfl ?_
      refine WL_nil ?_
      refine n_blk ?_
      refine n_then ?_
      refine W_region ?_
      refine s_move rfl rfl ?_
      first | (refine s_add' rfl rfl rfl ?hx ?_; case hx => (constructor <;> first | omega | (simp only; omega))) | refine s_add rfl rfl rfl ?_
      refine s_assign rfl rfl ?_
      refine WL_nil ?_
      refine n_loop ?_
      exact ⟨(i + 1, ns ++ [mn], v', Lv'), ⟨rfl, rfl, rfl, rfl, rfl, trivial⟩, ⟨hs.tail, by simpa [u64s] using hO', by
        intro n hn
        rcases List.mem_append.1 hn with h | h
        · exact hns n h
        · rw [List.mem_singleton.1 h]; exact hmn2, by simp; omega, by simp only; omega⟩, by simp only; omega⟩
    · skip
      try simp only [decide_eq_true_eq, decide_eq_false_iff_not, beq_iff_eq, beq_eq_false_iff_ne, ne_eq, bne_iff_ne, bne_eq_false_iff_eq, ge_iff_le] at hc28
      refine W_exit ?_
      refine x_then ?_
      refine x_then ?_
      refine exit_hit ?_
      refine n_then ?_
      refine W_seq ?_
      refine W_seq ?_
      refine W_region ?_
      refine s_assign rfl rfl ?_
      refine WL_nil ?_
      refine n_then ?_
      refine W_block ?_
      have hnl8 : ns.length ≤ 11 := by omega
      have hn0 : 0 < ns.length := by omega
      clear hnl hi
      have hel : ∀ i, (encU (ns.take i)).length ≤ 110 := fun i => by
        have h1 := encU_len (ns.take i) (fun n hn => hns n (List.mem_of_mem_take hn))
        have h2 : (ns.take i).length ≤ 11 := by simp; omega
        omega
      obtain ⟨g, gc, sp, hgv, hgc, rfl⟩ := hO.block hn0
      cases hgv
      refine W_loop (σ := Nat × Hp × List Bool × Hp) (fun s => [(5, .pointer (some ⟨b5, 0, none⟩)), (6, .pointer (some ⟨b6, 0, none⟩)), (7, .slice (some ⟨g, 0, none⟩) ns.length nc), (9, .int .i64 (s.1 : Int))]) (fun s w => St [] w0 w ((g, Blk 23 (u64s ns ++ sp)) :: (s.2.2.2 ++ s.2.1)) ∧ Wi.WrAt b5 (encU (ns.take s.1)) s.2.1 ∧ WbAt b6 s.2.2.1 s.2.2.2 ∧ BitsOf (encU (ns.take s.1)) s.2.2.1 ∧ s.1 ≤ ns.length) (fun s => ns.length - s.1) (0, [_], [], [_]) ⟨rfl, rfl, rfl, rfl, trivial⟩ ⟨hs, Wi.wr_new b5, wb_new b6, BitsOf.nil, Nat.zero_le _⟩ ?_
      clear hs
      rintro ⟨i, LW, bs, LX⟩ w ⟨hs, hW, hX, hbs, hil⟩
      simp only at hs hW hX hbs hil ⊢
      have hl1 := hel i
      have hl2 := hel (i + 1)
      refine W_seq ?_
      refine W_seq ?_
      refine W_region ?_
      refine s_move rfl rfl ?_
      refine s_move rfl rfl ?_
      refine s_len rfl rfl (LN65 _ _ _ _) ?_
      refine s_lss rfl rfl rfl ?_
      refine WL_nil ?_
      refine n_then ?_
      refine W_cond rfl (fun hc42 => ?_) (fun hc42 => ?_)
      · skip
        try simp only [decide_eq_true_eq, decide_eq_false_iff_not, beq_iff_eq, beq_eq_false_iff_ne, ne_eq, bne_iff_ne, bne_eq_false_iff_eq, ge_iff_le] at hc42
        have hix : i < ns.length := by omega
        have hni : ns[i]? = some ns[i] := List.getElem?_eq_getElem hix
        have hnm := hns _ (List.getElem_mem hix)
        generalize ns[i] = n at hni hnm
        have htk := encU_take hni
        have hat := u64s_at (sp := sp) hni
        have hbl := hbs.1
        refine W_skip ?_
        refine n_then ?_
        refine W_seq ?_
        refine W_block ?_
        refine W_seq ?_
        refine W_region ?_
        refine s_move rfl rfl ?_
        refine s_move rfl rfl ?_
        (refine s_indexAddr1 El65 rfl rfl rfl ?hx ?_; case hx => (constructor <;> first | omega | (simp; omega)))
        refine s_load Try.isAgg23 rfl rfl (hs.cell (k := 0) rfl hat) ?_
        refine s_callL (M := _ :: LX) (L1 := LW) (X := []) Try.call35 rfl rfl (by simp only [List.append_nil, List.cons_append]; exact hs) (fun h => Wi.wUint_ok b5 _ n _ w hW h hnm (by omega)) ?_
        clear hs hW; rintro v w LW ⟨hW, rfl⟩ - hs
        rw [← htk] at hW
        simp only [List.append_nil, List.cons_append] at hs
        refine WL_nil ?_
        refine n_then ?_
        refine W_seq ?_
        refine W_region ?_
        refine s_move rfl rfl ?_
        refine s_move rfl rfl ?_
        (refine s_indexAddr1 El65 rfl rfl rfl ?hx ?_; case hx => (constructor <;> first | omega | (simp; omega)))
        refine s_load Try.isAgg23 rfl rfl (hs.cell (k := 0) rfl hat) ?_
        refine s_assign rfl rfl ?_
        refine WL_nil ?_
        refine n_then ?_
        refine W_seq ?_
        refine W_region ?_
        refine s_assign rfl rfl ?_
        refine WL_nil ?_
        refine n_then ?_
        refine W_block ?_
        refine W_loop (σ := WS) (fun s => [(5, .pointer (some ⟨b5, 0, none⟩)), (6, .pointer (some ⟨b6, 0, none⟩)), (7, .slice (some ⟨g, 0, none⟩) ns.length nc), (9, .int .i64 (i : Int)), (10, .int .u64 (s.r : Int)), (11, .int .i64 (s.k : Int))]) (fun s w => St [] w0 w ((g, Blk 23 (u64s ns ++ sp)) :: (s.L ++ LW)) ∧ WbAt b6 s.cs s.L ∧ BitsOf s.acc s.cs ∧ s.acc ++ uvar s.r = encU (ns.take (i + 1)) ∧ s.k ≤ 9 ∧ s.r < 128 ^ (10 - s.k) ∧ s.r < 18446744073709551616) (fun s => 10 - s.k) ⟨0, n, bs, encU (ns.take i), LX⟩ ⟨rfl, rfl, rfl, rfl, rfl, rfl, trivial⟩ ⟨hs, hX, hbs, htk.symm, Nat.zero_le _, by simp only; omega, hnm⟩ ?_
        clear hs hX hbs hbl
        rintro ⟨k, r, cs, acc, LX⟩ w ⟨hs, hX, hbs, hcat, hk9, hr, hr64⟩
        simp only at hs hX hbs hcat hk9 hr hr64 ⊢
        have hcl := hbs.1
        have hal : acc.length ≤ 110 := by
          have := congrArg List.length hcat
          rw [List.length_append] at this; omega
        refine W_seq ?_
        refine W_seq ?_
        refine W_region ?_
        refine s_move rfl rfl ?_
        refine s_lss rfl rfl rfl ?_
        refine WL_nil ?_
        refine n_then ?_
        refine W_cond_kt rfl ((by simp; omega)) ?_
        refine W_skip ?_
        refine n_then ?_
        refine W_seq ?_
        refine W_block ?_
        refine W_seq ?_
        refine W_region ?_
        refine s_assign rfl rfl ?_
        refine WL_nil ?_
        refine n_then ?_
        refine W_cut (σ := Nat) (fun m => [(5, .pointer (some ⟨b5, 0, none⟩)), (6, .pointer (some ⟨b6, 0, none⟩)), (7, .slice (some ⟨g, 0, none⟩) ns.length nc), (9, .int .i64 (i : Int)), (10, .int .u64 (r : Int)), (11, .int .i64 (k : Int)), (12, .int .u64 (m : Int))]) (fun m w => St [] w0 w ((g, Blk 23 (u64s ns ++ sp)) :: (LX ++ LW)) ∧ m ≤ 1 ∧ (m = 1 ↔ 128 ≤ r)) ?_ ?_
        · skip
          refine W_seq ?_
          refine W_region ?_
          refine s_move rfl rfl ?_
          refine s_geq rfl rfl rfl ?_
          refine WL_nil ?_
          refine n_then ?_
          refine W_cond rfl (fun hc59 => ?_) (fun hc59 => ?_)
          · skip
            try simp only [decide_eq_true_eq, decide_eq_false_iff_not, beq_iff_eq, beq_eq_false_iff_ne, ne_eq, bne_iff_ne, bne_eq_false_iff_eq, ge_iff_le] at hc59
            refine W_region ?_
            refine s_assign rfl rfl ?_
            refine WL_nil ?_
            refine n_loop ?_
            first
              | exact ⟨1, ⟨rfl, rfl, rfl, rfl, rfl, rfl, rfl, trivial⟩, hs, by omega, by omega⟩
              | exact ⟨0, ⟨rfl, rfl, rfl, rfl, rfl, rfl, rfl, trivial⟩, hs, by omega, by omega⟩
          · skip
            try simp only [decide_eq_true_eq, decide_eq_false_iff_not, beq_iff_eq, beq_eq_false_iff_ne, ne_eq, bne_iff_ne, bne_eq_false_iff_eq, ge_iff_le] at hc59
            refine W_skip ?_
            refine n_loop ?_
            first
              | exact ⟨1, ⟨rfl, rfl, rfl, rfl, rfl, rfl, rfl, trivial⟩, hs, by omega, by omega⟩
              | exact ⟨0, ⟨rfl, rfl, rfl, rfl, rfl, rfl, rfl, trivial⟩, hs, by omega, by omega⟩
        · skip
          clear hs
          rintro m w ⟨hs, hm1, hm2⟩
          have hby := nb_byte r m hm1
          refine W_seq ?_
          refine W_region ?_
          refine s_move rfl rfl ?_
          refine s_callL (M := [_]) (L1 := LX) (X := LW) Try.call33 rfl rfl hs (fun h => wBits_ok b6 _ m 1 _ w hX h (by omega) (by omega)) ?_
          clear hs hX; rintro v w LX ⟨hX, rfl⟩ - hs
          rw [show (clampV 1).toNat = 1 from by decide] at hX
          simp only [List.cons_append, List.nil_append] at hs
          refine WL_nil ?_
          refine n_then ?_
          refine W_seq ?_
          refine W_region ?_
          refine s_move rfl rfl ?_
          refine s_callL (M := [_]) (L1 := LX) (X := LW) Try.call33 rfl rfl hs (fun h => wBits_ok b6 _ r 7 _ w hX h hr64 (by simp [nb_length]; omega)) ?_
          clear hs hX; rintro v w LX ⟨hX, rfl⟩ - hs
          rw [show (clampV 7).toNat = 7 from by decide, List.append_assoc, hby] at hX
          simp only [List.cons_append, List.nil_append] at hs
          have hbs2 := hbs.snoc (B := r % 128 + 128 * m) (by omega)
          refine WL_nil ?_
          refine n_then ?_
          refine W_seq ?_
          refine W_region ?_
          refine s_move rfl rfl ?_
          (refine s_quo rfl rfl rfl ?hx ?_; case hx => omega)
          rw [Int.tdiv_eq_ediv_of_nonneg (by omega), show (r : Int) / 128 = ((r / 128 : Nat) : Int) from by omega, IntWalk.u64_in _ (by omega)]
          refine s_assign rfl rfl ?_
          refine WL_nil ?_
          refine n_then ?_
          refine W_seq ?_
          refine W_region ?_
          refine s_move rfl rfl ?_
          refine s_eql rfl rfl rfl ?_
          refine WL_nil ?_
          refine n_then ?_
          refine W_cond rfl (fun hc67 => ?_) (fun hc67 => ?_)
          · skip
            try simp only [decide_eq_true_eq, decide_eq_false_iff_not, beq_iff_eq, beq_eq_false_iff_ne, ne_eq, bne_iff_ne, bne_eq_false_iff_eq, ge_iff_le] at hc67
            have hfin : acc ++ [((r % 128 + 128 * m : Nat) : Int)] = encU (ns.take (i + 1)) := by
              rw [← hcat, uvar_lo (show r < 128 by omega), show r % 128 + 128 * m = r by omega]
            rw [hfin] at hbs2
            refine W_exit ?_
            refine exit_miss rfl ?_
            refine x_then ?_
            refine x_then ?_
            refine exit_hit ?_
            refine n_blk ?_
            refine n_then ?_
            refine W_region ?_
            refine s_move rfl rfl ?_
            first | (refine s_add' rfl rfl rfl ?hx ?_; case hx => (constructor <;> first | omega | (simp only; omega))) | refine s_add rfl rfl rfl ?_
            refine s_assign rfl rfl ?_
            refine WL_nil ?_
            refine n_loop ?_
            exact ⟨(i + 1, LW, _, LX), ⟨rfl, rfl, rfl, rfl, trivial⟩, ⟨hs, hW, hX, hbs2, by simp only; omega⟩, by simp only; omega⟩
          · skip
            try simp only [decide_eq_true_eq, decide_eq_false_iff_not, beq_iff_eq, beq_eq_false_iff_ne, ne_eq, bne_iff_ne, bne_eq_false_iff_eq, ge_iff_le] at hc67
            have hm : m = 1 := by omega
            have hge : 128 ≤ r := hm2.1 hm
            have hnx : (acc ++ [((r % 128 + 128 * m : Nat) : Int)]) ++ uvar (r / 128) = encU (ns.take (i + 1)) := by
              rw [← hcat, uvar_hi (show ¬ r < 128 by omega), hm, Nat.mul_one, List.append_assoc]; rfl
            obtain ⟨hk1, hk2⟩ := pow128 hk9 hr hge
            refine W_skip ?_
            refine n_blk ?_
            refine n_then ?_
            refine W_region ?_
            refine s_move rfl rfl ?_
            first | (refine s_add' rfl rfl rfl ?hx ?_; case hx => (constructor <;> first | omega | (simp only; omega))) | refine s_add rfl rfl rfl ?_
            refine s_assign rfl rfl ?_
            refine WL_nil ?_
            refine n_loop ?_
            exact ⟨⟨k + 1, r / 128, _, _, LX⟩, ⟨rfl, rfl, rfl, rfl, rfl, rfl, trivial⟩, ⟨hs, hX, hbs2, hnx, hk1, hk2, by simp only; omega⟩, by simp only; omega⟩
      · skip
        try simp only [decide_eq_true_eq, decide_eq_false_iff_not, beq_iff_eq, beq_eq_false_iff_ne, ne_eq, bne_iff_ne, bne_eq_false_iff_eq, ge_iff_le] at hc42
        rw [List.take_of_length_le (show ns.length ≤ i by omega)] at hW hbs hl1
        have hpk := pk_of hbs (encU_isB ns)
        have hbl := hbs.1
        clear hl2
        refine W_exit ?_
        refine x_then ?_
        refine x_then ?_
        refine exit_hit ?_
        refine n_then ?_
        refine W_seq ?_
        refine W_region ?_
        refine s_callL (M := [_]) (L1 := LX) (X := LW) Try.call18 rfl rfl hs (fun h => wDone_ok b6 _ _ w hX h (by omega)) ?_
        clear hs; rintro vx w L9 ⟨Lx, rfl, hOx⟩ - hs
        rw [hpk] at hOx
        simp only [List.cons_append, List.nil_append, List.append_assoc] at hs
        refine s_call Try.call36 rfl rfl (Wi.read_ok _ _ w (hOx.slM (M := _ :: LX) (X := LW) (by simp only [List.cons_append]; exact hs)) (by omega) (encU_isB ns)) ?_
        rintro r w ⟨p, LR, rfl, hR, hst⟩
        replace hs := St.back0 hs hst
        clear hst
        replace hs : St [] w0 w ((g, Blk 23 (u64s ns ++ sp)) :: (LR ++ (LX ++ LW))) := by simpa [cat] using St.reord [LR, [_], LX, Lx, LW] [1, 0, 2, 4] [3] (by simpa [cat] using hs) rfl
        refine s_assign rfl rfl ?_
        refine WL_nil ?_
        refine n_then ?_
        refine W_seq ?_
        refine W_seq ?_
        refine W_region ?_
        refine s_move rfl rfl ?_
        refine s_eql_ptr_nil Try.underlying67 rfl rfl rfl ?_
        refine WL_nil ?_
        refine n_then ?_
        refine W_cond_kf rfl (rfl) ?_
        refine W_skip ?_
        refine n_then ?_
        refine W_seq ?_
        refine W_seq ?_
        refine W_region ?_
        refine s_assign rfl rfl ?_
        refine WL_nil ?_
        refine n_then ?_
        refine W_block ?_
        refine W_loop (σ := Nat × Hp) (fun s => [(5, .pointer (some ⟨b5, 0, none⟩)), (6, .pointer (some ⟨b6, 0, none⟩)), (7, .slice (some ⟨g, 0, none⟩) ns.length nc), (13, .pointer (some ⟨p, 0, none⟩)), (14, .int .i64 (s.1 : Int))]) (fun s w => St [] w0 w ((g, Blk 23 (u64s ns ++ sp)) :: (s.2 ++ (LX ++ LW))) ∧ Wi.RdAt p ⟨encU (ns.drop s.1), 0⟩ s.2 ∧ s.1 ≤ ns.length) (fun s => ns.length - s.1) (0, LR) ⟨rfl, rfl, rfl, rfl, rfl, trivial⟩ ⟨hs, hR, Nat.zero_le _⟩ ?_
        clear hs hR hil hc42
        clear i
        rintro ⟨i, LR⟩ w ⟨hs, hR, hil⟩
        simp only at hs hR hil ⊢
        refine W_seq ?_
        refine W_seq ?_
        refine W_region ?_
        refine s_move rfl rfl ?_
        refine s_move rfl rfl ?_
        refine s_len rfl rfl (LN65 _ _ _ _) ?_
        refine s_lss rfl rfl rfl ?_
        refine WL_nil ?_
        refine n_then ?_
        refine W_cond rfl (fun hc75 => ?_) (fun hc75 => ?_)
        · skip
          try simp only [decide_eq_true_eq, decide_eq_false_iff_not, beq_iff_eq, beq_eq_false_iff_ne, ne_eq, bne_iff_ne, bne_eq_false_iff_eq, ge_iff_le] at hc75
          have hix : i < ns.length := by omega
          have hni : ns[i]? = some ns[i] := List.getElem?_eq_getElem hix
          have hnm := hns _ (List.getElem_mem hix)
          generalize ns[i] = n at hni hnm
          have htk := encU_drop hni
          have hat := u64s_at (sp := sp) hni
          rw [htk] at hR
          refine W_skip ?_
          refine n_then ?_
          refine W_seq ?_
          refine W_block ?_
          refine W_seq ?_
          refine W_draw [(0, true, []), (2, true, []), (3, true, []), (4, true, []), (5, true, []), (1, false, [2, 3, 4, 5]), (6, true, [])] MX (by kernel_rfl) ?_
          intro w1 hw1 hw2 hw3 hw4; replace hs := hs.redrawn hw1 hw2 hw3 hw4; clear hw1 hw2 hw3 hw4
          obtain ⟨w, rfl⟩ : ∃ w : World, w = w1 := ⟨_, rfl⟩
          refine D_q rfl rfl ?_
          refine s_move rfl rfl ?_
          refine D_qn ?_
          refine D_q rfl rfl ?_
          refine s_move rfl rfl ?_
          refine D_qn ?_
          refine D_q rfl rfl ?_
          refine s_move rfl rfl ?_
          refine D_qn ?_
          refine D_q rfl rfl ?_
          (refine s_indexAddr1 El65 rfl rfl rfl ?hx ?_; case hx => (constructor <;> first | omega | (simp; omega)))
          refine D_qn ?_
          refine D_q rfl rfl ?_
          refine s_load Try.isAgg23 rfl rfl (hs.cell (k := 0) rfl hat) ?_
          refine D_qn ?_
          refine D_e rfl ?_
          refine s_callL (M := [_]) (L1 := LR) (X := LX ++ LW) Try.call37 rfl rfl hs (fun h => Wi.rUint_ok p _ _ w hR h) ?_
          clear hs hR; rintro v w LR ⟨hR, rfl⟩ - hs
          rw [rdU_uvar hnm] at hR ⊢
          simp only [List.cons_append, List.nil_append] at hs hR ⊢
          refine D_en ?re ?_
          case re =>
            refine Reks_cons rfl rfl rfl rfl ?_ ?_
            · skip
              refine s_move rfl rfl ?_
              exact Rek_end rfl
            refine Reks_cons rfl rfl rfl rfl ?_ ?_
            · skip
              refine s_move rfl rfl ?_
              exact Rek_end rfl
            refine Reks_cons rfl rfl rfl rfl ?_ ?_
            · skip
              (refine s_indexAddr1 El65 rfl rfl rfl ?hx ?_; case hx => (constructor <;> first | omega | (simp; omega)))
              exact Rek_end rfl
            refine Reks_cons rfl rfl rfl rfl ?_ ?_
            · skip
              refine s_load Try.isAgg23 rfl rfl (hs.cell (k := 0) rfl hat) ?_
              exact Rek_end rfl
            exact Reks_nil
          refine D_q rfl rfl ?_
          refine s_neq rfl rfl rfl ?_
          refine D_qn ?_
          refine D_nil ?_
          refine n_then ?_
          refine W_cond_kf rfl ((by simp)) ?_
          refine W_skip ?_
          refine n_blk ?_
          refine n_then ?_
          refine W_region ?_
          refine s_move rfl rfl ?_
          first | (refine s_add' rfl rfl rfl ?hx ?_; case hx => (constructor <;> first | omega | (simp only; omega))) | refine s_add rfl rfl rfl ?_
          refine s_assign rfl rfl ?_
          refine WL_nil ?_
          refine n_loop ?_
          exact ⟨(i + 1, LR), ⟨rfl, rfl, rfl, rfl, rfl, trivial⟩, ⟨hs, hR, by simp only; omega⟩, by simp only; omega⟩
        · skip
          try simp only [decide_eq_true_eq, decide_eq_false_iff_not, beq_iff_eq, beq_eq_false_iff_ne, ne_eq, bne_iff_ne, bne_eq_false_iff_eq, ge_iff_le] at hc75
          rw [List.drop_of_length_le (show ns.length ≤ i by omega)] at hR
          refine W_exit ?_
          refine x_then ?_
          refine x_then ?_
          refine exit_hit ?_
          refine n_then ?_
          refine W_seq ?_
          refine W_region ?_
          refine s_move rfl rfl ?_
          refine s_callL (M := [_]) (L1 := LR) (X := LX ++ LW) Try.call38 rfl rfl hs (fun h => Wi.rEnd_ok p _ _ w hR h) ?_
          clear hs; rintro v w L9 ⟨hL9, rfl⟩ - hs
          rw [hL9] at hs; clear hL9 L9
          simp only [List.cons_append, List.nil_append] at hs
          refine s_eql rfl rfl rfl ?_
          refine s_move rfl rfl ?_
          refine WL_know (s := 88) (c := true) rfl (rfl) ?_
          refine WL_take rfl ?_
          refine s_callL (M := _ :: (LR ++ LX)) (L1 := LW) (X := []) Try.call39 rfl rfl (by simp only [List.append_nil, List.cons_append, List.append_assoc]; exact hs) (fun h => Wi.wDone_ok b5 _ _ w hW h (by omega)) ?_
          clear hs; rintro vw w L9 ⟨Lw, rfl, hOw⟩ - hs
          simp only [List.append_nil, List.cons_append, List.append_assoc] at hs
          refine WL_take rfl ?_
          refine s_callL (M := _ :: LR) (L1 := LX) (X := LW ++ Lw) Try.call18 rfl rfl hs (fun h => wDone_ok b6 _ _ w hX h (by omega)) ?_
          clear hs; rintro vx2 w L9 ⟨Lx2, rfl, hOx2⟩ - hs
          rw [hpk] at hOx2
          simp only [List.cons_append, List.append_assoc] at hs
          refine WL_take rfl ?_
          refine s_call Try.call17 rfl rfl (sameBytes_ok _ _ _ _ w (hOw.slM (M := _ :: (LR ++ (LX ++ (Lx2 ++ LW)))) (X := []) (by simp only [List.append_nil, List.cons_append, List.append_assoc]; exact hs)) (hOx2.slM (M := _ :: (LR ++ LX)) (X := LW ++ Lw) (by simp only [List.cons_append, List.append_assoc]; exact hs)) (by omega)) ?_
          rintro r w ⟨hst, rfl⟩
          replace hs := hs.fwd1 hst
          clear hst
          refine s_pick_t rfl rfl rfl ?_
          refine s_move rfl rfl ?_
          refine WL_know (s := 93) (c := true) rfl ((by simp)) ?_
          refine WL_take rfl ?_
          refine s_call Try.call20 rfl rfl (lives_ok w) ?_
          rintro r w ⟨hst, rfl⟩
          replace hs := hs.fwd1 hst
          clear hst
          refine s_pick_t rfl rfl rfl ?_
          refine s_assign rfl rfl ?_
          refine WL_nil ?_
          refine n_then ?_
          refine W_ret ?_
          exact end1 rfl rfl ⟨hs.fwd, rfl⟩
  · skip
    try simp only [decide_eq_true_eq, decide_eq_false_iff_not, beq_iff_eq, beq_eq_false_iff_ne, ne_eq, bne_iff_ne, bne_eq_false_iff_eq, ge_iff_le] at hg25
    refine WL_skip rfl rfl rfl ?_
    refine WL_skip rfl rfl rfl ?_
    refine s_pick_f rfl rfl rfl ?_
    refine WL_nil ?_
    refine n_then ?_
    refine W_cond_f rfl ?_
    refine W_exit ?_
    refine x_then ?_
    refine x_then ?_
    refine exit_hit ?_
    refine n_then ?_
    refine W_seq ?_
    refine W_seq ?_
    refine W_region ?_
    refine s_assign rfl rfl ?_
    refine WL_nil ?_
    refine n_then ?_
    refine W_block ?_
    have hnl8 : ns.length ≤ 11 := by omega
    have hn0 : 0 < ns.length := by omega
    clear hnl hi
    have hel : ∀ i, (encU (ns.take i)).length ≤ 110 := fun i => by
      have h1 := encU_len (ns.take i) (fun n hn => hns n (List.mem_of_mem_take hn))
      have h2 : (ns.take i).length ≤ 11 := by simp; omega
      omega
    obtain ⟨g, gc, sp, hgv, hgc, rfl⟩ := hO.block hn0
    cases hgv
    refine W_loop (σ := Nat × Hp × List Bool × Hp) (fun s => [(5, .pointer (some ⟨b5, 0, none⟩)), (6, .pointer (some ⟨b6, 0, none⟩)), (7, .slice (some ⟨g, 0, none⟩) ns.length nc), (9, .int .i64 (s.1 : Int))]) (fun s w => St [] w0 w ((g, Blk 23 (u64s ns ++ sp)) :: (s.2.2.2 ++ s.2.1)) ∧ Wi.WrAt b5 (encU (ns.take s.1)) s.2.1 ∧ WbAt b6 s.2.2.1 s.2.2.2 ∧ BitsOf (encU (ns.take s.1)) s.2.2.1 ∧ s.1 ≤ ns.length) (fun s => ns.length - s.1) (0, [_], [], [_]) ⟨rfl, rfl, rfl, rfl, trivial⟩ ⟨hs, Wi.wr_new b5, wb_new b6, BitsOf.nil, Nat.zero_le _⟩ ?_
    clear hs
    rintro ⟨i, LW, bs, LX⟩ w ⟨hs, hW, hX, hbs, hil⟩
    simp only at hs hW hX hbs hil ⊢
    have hl1 := hel i
    have hl2 := hel (i + 1)
    refine W_seq ?_
    refine W_seq ?_
    refine W_region ?_
    refine s_move rfl rfl ?_
    refine s_move rfl rfl ?_
    refine s_len rfl rfl (LN65 _ _ _ _) ?_
    refine s_lss rfl rfl rfl ?_
    refine WL_nil ?_
    refine n_then ?_
    refine W_cond rfl (fun hc42 => ?_) (fun hc42 => ?_)
    · skip
      try simp only [decide_eq_true_eq, decide_eq_false_iff_not, beq_iff_eq, beq_eq_false_iff_ne, ne_eq, bne_iff_ne, bne_eq_false_iff_eq, ge_iff_le] at hc42
      have hix : i < ns.length := by omega
      have hni : ns[i]? = some ns[i] := List.getElem?_eq_getElem hix
      have hnm := hns _ (List.getElem_mem hix)
      generalize ns[i] = n at hni hnm
      have htk := encU_take hni
      have hat := u64s_at (sp := sp) hni
      have hbl := hbs.1
      refine W_skip ?_
      refine n_then ?_
      refine W_seq ?_
      refine W_block ?_
      refine W_seq ?_
      refine W_region ?_
      refine s_move rfl rfl ?_
      refine s_move rfl rfl ?_
      (refine s_indexAddr1 El65 rfl rfl rfl ?hx ?_; case hx => (constructor <;> first | omega | (simp; omega)))
      refine s_load Try.isAgg23 rfl rfl (hs.cell (k := 0) rfl hat) ?_
      refine s_callL (M := _ :: LX) (L1 := LW) (X := []) Try.call35 rfl rfl (by simp only [List.append_nil, List.cons_append]; exact hs) (fun h => Wi.wUint_ok b5 _ n _ w hW h hnm (by omega)) ?_
      clear hs hW; rintro v w LW ⟨hW, rfl⟩ - hs
      rw [← htk] at hW
      simp only [List.append_nil, List.cons_append] at hs
      refine WL_nil ?_
      refine n_then ?_
      refine W_seq ?_
      refine W_region ?_
      refine s_move rfl rfl ?_
      refine s_move rfl rfl ?_
      (refine s_indexAddr1 El65 rfl rfl rfl ?hx ?_; case hx => (constructor <;> first | omega | (simp; omega)))
      refine s_load Try.isAgg23 rfl rfl (hs.cell (k := 0) rfl hat) ?_
      refine s_assign rfl rfl ?_
      refine WL_nil ?_
      refine n_then ?_
      refine W_seq ?_
      refine W_region ?_
      refine s_assign rfl rfl ?_
      refine WL_nil ?_
      refine n_then ?_
      refine W_block ?_
      refine W_loop (σ := WS) (fun s => [(5, .pointer (some ⟨b5, 0, none⟩)), (6, .pointer (some ⟨b6, 0, none⟩)), (7, .slice (some ⟨g, 0, none⟩) ns.length nc), (9, .int .i64 (i : Int)), (10, .int .u64 (s.r : Int)), (11, .int .i64 (s.k : Int))]) (fun s w => St [] w0 w ((g, Blk 23 (u64s ns ++ sp)) :: (s.L ++ LW)) ∧ WbAt b6 s.cs s.L ∧ BitsOf s.acc s.cs ∧ s.acc ++ uvar s.r = encU (ns.take (i + 1)) ∧ s.k ≤ 9 ∧ s.r < 128 ^ (10 - s.k) ∧ s.r < 18446744073709551616) (fun s => 10 - s.k) ⟨0, n, bs, encU (ns.take i), LX⟩ ⟨rfl, rfl, rfl, rfl, rfl, rfl, trivial⟩ ⟨hs, hX, hbs, htk.symm, Nat.zero_le _, by simp only; omega, hnm⟩ ?_
      clear hs hX hbs hbl
      rintro ⟨k, r, cs, acc, LX⟩ w ⟨hs, hX, hbs, hcat, hk9, hr, hr64⟩
      simp only at hs hX hbs hcat hk9 hr hr64 ⊢
      have hcl := hbs.1
      have hal : acc.length ≤ 110 := by
        have := congrArg List.length hcat
        rw [List.length_append] at this; omega
      refine W_seq ?_
      refine W_seq ?_
      refine W_region ?_
      refine s_move rfl rfl ?_
      refine s_lss rfl rfl rfl ?_
      refine WL_nil ?_
      refine n_then ?_
      refine W_cond_kt rfl ((by simp; omega)) ?_
      refine W_skip ?_
      refine n_then ?_
      refine W_seq ?_
      refine W_block ?_
      refine W_seq ?_
      refine W_region ?_
      refine s_assign rfl rfl ?_
      refine WL_nil ?_
      refine n_then ?_
      refine W_cut (σ := Nat) (fun m => [(5, .pointer (some ⟨b5, 0, none⟩)), (6, .pointer (some ⟨b6, 0, none⟩)), (7, .slice (some ⟨g, 0, none⟩) ns.length nc), (9, .int .i64 (i : Int)), (10, .int .u64 (r : Int)), (11, .int .i64 (k : Int)), (12, .int .u64 (m : Int))]) (fun m w => St [] w0 w ((g, Blk 23 (u64s ns ++ sp)) :: (LX ++ LW)) ∧ m ≤ 1 ∧ (m = 1 ↔ 128 ≤ r)) ?_ ?_
      · skip
        refine W_seq ?_
        refine W_region ?_
        refine s_move rfl rfl ?_
        refine s_geq rfl rfl rfl ?_
        refine WL_nil ?_
        refine n_then ?_
        refine W_cond rfl (fun hc59 => ?_) (fun hc59 => ?_)
        · skip
          try simp only [decide_eq_true_eq, decide_eq_false_iff_not, beq_iff_eq, beq_eq_false_iff_ne, ne_eq, bne_iff_ne, bne_eq_false_iff_eq, ge_iff_le] at hc59
          refine W_region ?_
          refine s_assign rfl rfl ?_
          refine WL_nil ?_
          refine n_loop ?_
          first
            | exact ⟨1, ⟨rfl, rfl, rfl, rfl, rfl, rfl, rfl, trivial⟩, hs, by omega, by omega⟩
            | exact ⟨0, ⟨rfl, rfl, rfl, rfl, rfl, rfl, rfl, trivial⟩, hs, by omega, by omega⟩
        · skip
          try simp only [decide_eq_true_eq, decide_eq_false_iff_not, beq_iff_eq, beq_eq_false_iff_ne, ne_eq, bne_iff_ne, bne_eq_false_iff_eq, ge_iff_le] at hc59
          refine W_skip ?_
          refine n_loop ?_
          first
            | exact ⟨1, ⟨rfl, rfl, rfl, rfl, rfl, rfl, rfl, trivial⟩, hs, by omega, by omega⟩
            | exact ⟨0, ⟨rfl, rfl, rfl, rfl, rfl, rfl, rfl, trivial⟩, hs, by omega, by omega⟩
      · skip
        clear hs
        rintro m w ⟨hs, hm1, hm2⟩
        have hby := nb_byte r m hm1
        refine W_seq ?_
        refine W_region ?_
        refine s_move rfl rfl ?_
        refine s_callL (M := [_]) (L1 := LX) (X := LW) Try.call33 rfl rfl hs (fun h => wBits_ok b6 _ m 1 _ w hX h (by omega) (by omega)) ?_
        clear hs hX; rintro v w LX ⟨hX, rfl⟩ - hs
        rw [show (clampV 1).toNat = 1 from by decide] at hX
        simp only [List.cons_append, List.nil_append] at hs
        refine WL_nil ?_
        refine n_then ?_
        refine W_seq ?_
        refine W_region ?_
        refine s_move rfl rfl ?_
        refine s_callL (M := [_]) (L1 := LX) (X := LW) Try.call33 rfl rfl hs (fun h => wBits_ok b6 _ r 7 _ w hX h hr64 (by simp [nb_length]; omega)) ?_
        clear hs hX; rintro v w LX ⟨hX, rfl⟩ - hs
        rw [show (clampV 7).toNat = 7 from by decide, List.append_assoc, hby] at hX
        simp only [List.cons_append, List.nil_append] at hs
        have hbs2 := hbs.snoc (B := r % 128 + 128 * m) (by omega)
        refine WL_nil ?_
        refine n_then ?_
        refine W_seq ?_
        refine W_region ?_
        refine s_move rfl rfl ?_
        (refine s_quo rfl rfl rfl ?hx ?_; case hx => omega)
        rw [Int.tdiv_eq_ediv_of_nonneg (by omega), show (r : Int) / 128 = ((r / 128 : Nat) : Int) from by omega, IntWalk.u64_in _ (by omega)]
        refine s_assign rfl rfl ?_
        refine WL_nil ?_
        refine n_then ?_
        refine W_seq ?_
        refine W_region ?_
        refine s_move rfl rfl ?_
        refine s_eql rfl rfl rfl ?_
        refine WL_nil ?_
        refine n_then ?_
        refine W_cond rfl (fun hc67 => ?_) (fun hc67 => ?_)
        · skip
          try simp only [decide_eq_true_eq, decide_eq_false_iff_not, beq_iff_eq, beq_eq_false_iff_ne, ne_eq, bne_iff_ne, bne_eq_false_iff_eq, ge_iff_le] at hc67
          have hfin : acc ++ [((r % 128 + 128 * m : Nat) : Int)] = encU (ns.take (i + 1)) := by
            rw [← hcat, uvar_lo (show r < 128 by omega), show r % 128 + 128 * m = r by omega]
          rw [hfin] at hbs2
          refine W_exit ?_
          refine exit_miss rfl ?_
          refine x_then ?_
          refine x_then ?_
          refine exit_hit ?_
          refine n_blk ?_
          refine n_then ?_
          refine W_region ?_
          refine s_move rfl rfl ?_
          first | (refine s_add' rfl rfl rfl ?hx ?_; case hx => (constructor <;> first | omega | (simp only; omega))) | refine s_add rfl rfl rfl ?_
          refine s_assign rfl rfl ?_
          refine WL_nil ?_
          refine n_loop ?_
          exact ⟨(i + 1, LW, _, LX), ⟨rfl, rfl, rfl, rfl, trivial⟩, ⟨hs, hW, hX, hbs2, by simp only; omega⟩, by simp only; omega⟩
        · skip
          try simp only [decide_eq_true_eq, decide_eq_false_iff_not, beq_iff_eq, beq_eq_false_iff_ne, ne_eq, bne_iff_ne, bne_eq_false_iff_eq, ge_iff_le] at hc67
          have hm : m = 1 := by omega
          have hge : 128 ≤ r := hm2.1 hm
          have hnx : (acc ++ [((r % 128 + 128 * m : Nat) : Int)]) ++ uvar (r / 128) = encU (ns.take (i + 1)) := by
            rw [← hcat, uvar_hi (show ¬ r < 128 by omega), hm, Nat.mul_one, List.append_assoc]; rfl
          obtain ⟨hk1, hk2⟩ := pow128 hk9 hr hge
          refine W_skip ?_
          refine n_blk ?_
          refine n_then ?_
          refine W_region ?_
          refine s_move rfl rfl ?_
          first | (refine s_add' rfl rfl rfl ?hx ?_; case hx => (constructor <;> first | omega | (simp only; omega))) | refine s_add rfl rfl rfl ?_
          refine s_assign rfl rfl ?_
          refine WL_nil ?_
          refine n_loop ?_
          exact ⟨⟨k + 1, r / 128, _, _, LX⟩, ⟨rfl, rfl, rfl, rfl, rfl, rfl, trivial⟩, ⟨hs, hX, hbs2, hnx, hk1, hk2, by simp only; omega⟩, by simp only; omega⟩
    · skip
      try simp only [decide_eq_true_eq, decide_eq_false_iff_not, beq_iff_eq, beq_eq_false_iff_ne, ne_eq, bne_iff_ne, bne_eq_false_iff_eq, ge_iff_le] at hc42
      rw [List.take_of_length_le (show ns.length ≤ i by omega)] at hW hbs hl1
      have hpk := pk_of hbs (encU_isB ns)
      have hbl := hbs.1
      clear hl2
      refine W_exit ?_
      refine x_then ?_
      refine x_then ?_
      refine exit_hit ?_
      refine n_then ?_
      refine W_seq ?_
      refine W_region ?_
      refine s_callL (M := [_]) (L1 := LX) (X := LW) Try.call18 rfl rfl hs (fun h => wDone_ok b6 _ _ w hX h (by omega)) ?_
      clear hs; rintro vx w L9 ⟨Lx, rfl, hOx⟩ - hs
      rw [hpk] at hOx
      simp only [List.cons_append, List.nil_append, List.append_assoc] at hs
      refine s_call Try.call36 rfl rfl (Wi.read_ok _ _ w (hOx.slM (M := _ :: LX) (X := LW) (by simp only [List.cons_append]; exact hs)) (by omega) (encU_isB ns)) ?_
      rintro r w ⟨p, LR, rfl, hR, hst⟩
      replace hs := St.back0 hs hst
      clear hst
      replace hs : St [] w0 w ((g, Blk 23 (u64s ns ++ sp)) :: (LR ++ (LX ++ LW))) := by simpa [cat] using St.reord [LR, [_], LX, Lx, LW] [1, 0, 2, 4] [3] (by simpa [cat] using hs) rfl
      refine s_assign rfl rfl ?_
      refine WL_nil ?_
      refine n_then ?_
      refine W_seq ?_
      refine W_seq ?_
      refine W_region ?_
      refine s_move rfl rfl ?_
      refine s_eql_ptr_nil Try.underlying67 rfl rfl rfl ?_
      refine WL_nil ?_
      refine n_then ?_
      refine W_cond_kf rfl (rfl) ?_
      refine W_skip ?_
      refine n_then ?_
      refine W_seq ?_
      refine W_seq ?_
      refine W_region ?_
      refine s_assign rfl rfl ?_
      refine WL_nil ?_
      refine n_then ?_
      refine W_block ?_
      refine W_loop (σ := Nat × Hp) (fun s => [(5, .pointer (some ⟨b5, 0, none⟩)), (6, .pointer (some ⟨b6, 0, none⟩)), (7, .slice (some ⟨g, 0, none⟩) ns.length nc), (13, .pointer (some ⟨p, 0, none⟩)), (14, .int .i64 (s.1 : Int))]) (fun s w => St [] w0 w ((g, Blk 23 (u64s ns ++ sp)) :: (s.2 ++ (LX ++ LW))) ∧ Wi.RdAt p ⟨encU (ns.drop s.1), 0⟩ s.2 ∧ s.1 ≤ ns.length) (fun s => ns.length - s.1) (0, LR) ⟨rfl, rfl, rfl, rfl, rfl, trivial⟩ ⟨hs, hR, Nat.zero_le _⟩ ?_
      clear hs hR hil hc42
      clear i
      rintro ⟨i, LR⟩ w ⟨hs, hR, hil⟩
      simp only at hs hR hil ⊢
      refine W_seq ?_
      refine W_seq ?_
      refine W_region ?_
      refine s_move rfl rfl ?_
      refine s_move rfl rfl ?_
      refine s_len rfl rfl (LN65 _ _ _ _) ?_
      refine s_lss rfl rfl rfl ?_
      refine WL_nil ?_
      refine n_then ?_
      refine W_cond rfl (fun hc75 => ?_) (fun hc75 => ?_)
      · skip
        try simp only [decide_eq_true_eq, decide_eq_false_iff_not, beq_iff_eq, beq_eq_false_iff_ne, ne_eq, bne_iff_ne, bne_eq_false_iff_eq, ge_iff_le] at hc75
        have hix : i < ns.length := by omega
        have hni : ns[i]? = some ns[i] := List.getElem?_eq_getElem hix
        have hnm := hns _ (List.getElem_mem hix)
        generalize ns[i] = n at hni hnm
        have htk := encU_drop hni
        have hat := u64s_at (sp := sp) hni
        rw [htk] at hR
        refine W_skip ?_
        refine n_then ?_
        refine W_seq ?_
        refine W_block ?_
        refine W_seq ?_
        refine W_draw [(0, true, []), (2, true, []), (3, true, []), (4, true, []), (5, true, []), (1, false, [2, 3, 4, 5]), (6, true, [])] MX (by kernel_rfl) ?_
        intro w1 hw1 hw2 hw3 hw4; replace hs := hs.redrawn hw1 hw2 hw3 hw4; clear hw1 hw2 hw3 hw4
        obtain ⟨w, rfl⟩ : ∃ w : World, w = w1 := ⟨_, rfl⟩
        refine D_q rfl rfl ?_
        refine s_move rfl rfl ?_
        refine D_qn ?_
        refine D_q rfl rfl ?_
        refine s_move rfl rfl ?_
        refine D_qn ?_
        refine D_q rfl rfl ?_
        refine s_move rfl rfl ?_
        refine D_qn ?_
        refine D_q rfl rfl ?_
        (refine s_indexAddr1 El65 rfl rfl rfl ?hx ?_; case hx => (constructor <;> first | omega | (simp; omega)))
        refine D_qn ?_
        refine D_q rfl rfl ?_
        refine s_load Try.isAgg23 rfl rfl (hs.cell (k := 0) rfl hat) ?_
        refine D_qn ?_
        refine D_e rfl ?_
        refine s_callL (M := [_]) (L1 := LR) (X := LX ++ LW) Try.call37 rfl rfl hs (fun h => Wi.rUint_ok p _ _ w hR h) ?_
        clear hs hR; rintro v w LR ⟨hR, rfl⟩ - hs
        rw [rdU_uvar hnm] at hR ⊢
        simp only [List.cons_append, List.nil_append] at hs hR ⊢
        refine D_en ?re ?_
        case re =>
          refine Reks_cons rfl rfl rfl rfl ?_ ?_
          · skip
            refine s_move rfl rfl ?_
            exact Rek_end rfl
          refine Reks_cons rfl rfl rfl rfl ?_ ?_
          · skip
            refine s_move rfl rfl ?_
            exact Rek_end rfl
          refine Reks_cons rfl rfl rfl rfl ?_ ?_
          · skip
            (refine s_indexAddr1 El65 rfl rfl rfl ?hx ?_; case hx => (constructor <;> first | omega | (simp; omega)))
            exact Rek_end rfl
          refine Reks_cons rfl rfl rfl rfl ?_ ?_
          · skip
            refine s_load Try.isAgg23 rfl rfl (hs.cell (k := 0) rfl hat) ?_
            exact Rek_end rfl
          exact Reks_nil
        refine D_q rfl rfl ?_
        refine s_neq rfl rfl rfl ?_
        refine D_qn ?_
        refine D_nil ?_
        refine n_then ?_
        refine W_cond_kf rfl ((by simp)) ?_
        refine W_skip ?_
        refine n_blk ?_
        refine n_then ?_
        refine W_region ?_
        refine s_move rfl rfl ?_
        first | (refine s_add' rfl rfl rfl ?hx ?_; case hx => (constructor <;> first | omega | (simp only; omega))) | refine s_add rfl rfl rfl ?_
        refine s_assign rfl rfl ?_
        refine WL_nil ?_
        refine n_loop ?_
        exact ⟨(i + 1, LR), ⟨rfl, rfl, rfl, rfl, rfl, trivial⟩, ⟨hs, hR, by simp only; omega⟩, by simp only; omega⟩
      · skip
        try simp only [decide_eq_true_eq, decide_eq_false_iff_not, beq_iff_eq, beq_eq_false_iff_ne, ne_eq, bne_iff_ne, bne_eq_false_iff_eq, ge_iff_le] at hc75
        rw [List.drop_of_length_le (show ns.length ≤ i by omega)] at hR
        refine W_exit ?_
        refine x_then ?_
        refine x_then ?_
        refine exit_hit ?_
        refine n_then ?_
        refine W_seq ?_
        refine W_region ?_
        refine s_move rfl rfl ?_
        refine s_callL (M := [_]) (L1 := LR) (X := LX ++ LW) Try.call38 rfl rfl hs (fun h => Wi.rEnd_ok p _ _ w hR h) ?_
        clear hs; rintro v w L9 ⟨hL9, rfl⟩ - hs
        rw [hL9] at hs; clear hL9 L9
        simp only [List.cons_append, List.nil_append] at hs
        refine s_eql rfl rfl rfl ?_
        refine s_move rfl rfl ?_
        refine WL_know (s := 88) (c := true) rfl (rfl) ?_
        refine WL_take rfl ?_
        refine s_callL (M := _ :: (LR ++ LX)) (L1 := LW) (X := []) Try.call39 rfl rfl (by simp only [List.append_nil, List.cons_append, List.append_assoc]; exact hs) (fun h => Wi.wDone_ok b5 _ _ w hW h (by omega)) ?_
        clear hs; rintro vw w L9 ⟨Lw, rfl, hOw⟩ - hs
        simp only [List.append_nil, List.cons_append, List.append_assoc] at hs
        refine WL_take rfl ?_
        refine s_callL (M := _ :: LR) (L1 := LX) (X := LW ++ Lw) Try.call18 rfl rfl hs (fun h => wDone_ok b6 _ _ w hX h (by omega)) ?_
        clear hs; rintro vx2 w L9 ⟨Lx2, rfl, hOx2⟩ - hs
        rw [hpk] at hOx2
        simp only [List.cons_append, List.append_assoc] at hs
        refine WL_take rfl ?_
        refine s_call Try.call17 rfl rfl (sameBytes_ok _ _ _ _ w (hOw.slM (M := _ :: (LR ++ (LX ++ (Lx2 ++ LW)))) (X := []) (by simp only [List.append_nil, List.cons_append, List.append_assoc]; exact hs)) (hOx2.slM (M := _ :: (LR ++ LX)) (X := LW ++ Lw) (by simp only [List.cons_append, List.append_assoc]; exact hs)) (by omega)) ?_
        rintro r w ⟨hst, rfl⟩
        replace hs := hs.fwd1 hst
        clear hst
        refine s_pick_t rfl rfl rfl ?_
        refine s_move rfl rfl ?_
        refine WL_know (s := 93) (c := true) rfl ((by simp)) ?_
        refine WL_take rfl ?_
        refine s_call Try.call20 rfl rfl (lives_ok w) ?_
        rintro r w ⟨hst, rfl⟩
        replace hs := hs.fwd1 hst
        clear hst
        refine s_pick_t rfl rfl rfl ?_
        refine s_assign rfl rfl ?_
        refine WL_nil ?_
        refine n_then ?_
        refine W_ret ?_
        exact end1 rfl rfl ⟨hs.fwd, rfl⟩
end Go.Proofs.Ytifegkpjbdgniaa
