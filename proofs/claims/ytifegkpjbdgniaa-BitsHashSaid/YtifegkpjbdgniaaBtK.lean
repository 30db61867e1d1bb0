/- BitsOwn. -/
import Derived.Test.YtifegkpjbdgniaaBtJ
set_option linter.unusedVariables false
set_option linter.unusedSimpArgs false
namespace Go.Proofs.Ytifegkpjbdgniaa
open Go.SL
structure OB where
  i : Nat
  zs : List Int
  L : Hp
theorem pk_isB (bs : List Bool) : ∀ b ∈ pk bs, isB b := by
  intro b hb
  obtain ⟨j, _, rfl⟩ := List.mem_map.1 hb
  have := byteAt_lt bs j
  unfold isB; omega
set_option maxHeartbeats 2000000 in
theorem bitsOwn_ok (v : Value) (xs : List Int) (n : Nat) (w0 : World) (hv : Sl w0 v xs.length (i64s xs)) (hx : ∀ z ∈ xs, isI64 z) (hn : n < 18446744073709551616) :
    Ret Try.prog 9 [v, .int .u64 (n : Int)].toArray w0 fun r w' => Fwd [] w0 w' ∧ r = .bool true := by
  refine Ret_start fun w hs => ?_
  refine Ret_of Try.func9 rfl Try.ntmps9 rfl ?_
  refine W_seq ?_
  refine W_region ?_
  refine s_assign rfl rfl ?_
  refine WL_nil ?_
  refine n_then ?_
  refine W_seq ?_
  refine W_region ?_
  refine s_move rfl rfl ?_
  refine s_call Try.call12 rfl rfl (ops_ok v xs w (hv.fwd0 hs.fwd) hx) ?_
  rintro r w ⟨os, Lo, hO, hst, hg, hol⟩
  replace hs := St.back0 hs hst
  simp only [List.append_nil] at hs
  clear hst
  obtain ⟨_, oc, oa, rfl, rfl⟩ := hO.form
  have hlen := obits_take os hg hol
  refine s_assign rfl rfl ?_
  refine WL_nil ?_
  refine n_then ?_
  refine W_seq ?_
  refine W_region ?_
  refine s_alloc rfl AL31 hs ?_; clear hs; intro b6 w hs
  refine WL_nil ?_
  refine n_then ?_
  refine W_seq ?_
  refine W_region ?_
  refine s_move rfl rfl ?_
  refine s_callL (M := []) (L1 := [_]) (X := Lo) Try.call33 rfl rfl hs (fun h => wBits_ok b6 [] n 64 _ w (wb_new b6) h hn (by simp)) ?_
  clear hs; rintro v w LW ⟨hW, rfl⟩ - hs
  rw [show (clampV 64).toNat = 64 from by decide, List.nil_append] at hW
  simp only [List.nil_append] at hs
  refine WL_nil ?_
  refine n_then ?_
  refine W_seq ?_
  refine W_seq ?_
  refine W_region ?_
  refine s_assign rfl rfl ?_
  refine WL_nil ?_
  refine n_then ?_
  refine W_block ?_
  refine W_loop (σ := Nat × Hp) (fun s => [(1, .int .u64 (n : Int)), (5, .slice oa os.length oc), (6, .pointer (some ⟨b6, 0, none⟩)), (7, .int .i64 (s.1 : Int))]) (fun s w => St [] w0 w (s.2 ++ Lo) ∧ WbAt b6 (nb n 64 ++ obits (os.take s.1)) s.2 ∧ s.1 ≤ os.length) (fun s => os.length - s.1) (0, LW) ⟨rfl, rfl, rfl, rfl, trivial⟩ ⟨hs, by simpa [obits] using hW, Nat.zero_le _⟩ ?_
  clear hs hW
  rintro ⟨i, LW⟩ w ⟨hs, hW, hil⟩
  simp only at hs hW hil ⊢
  have hl1 := hlen i
  have hnl := nb_length n 64
  refine W_seq ?_
  refine W_seq ?_
  refine W_region ?_
  refine s_move rfl rfl ?_
  refine s_move rfl rfl ?_
  refine s_len rfl rfl (LN24 _ _ _ _) ?_
  refine s_lss rfl rfl rfl ?_
  refine WL_nil ?_
  refine n_then ?_
  refine W_cond rfl (fun hc21 => ?_) (fun hc21 => ?_)
  · skip
    try simp only [decide_eq_true_eq, decide_eq_false_iff_not, beq_iff_eq, beq_eq_false_iff_ne, ne_eq, bne_iff_ne, bne_eq_false_iff_eq] at hc21
    have hix : i < os.length := by omega
    have hxi : os[i]? = some os[i] := List.getElem?_eq_getElem hix
    have hxm : os[i] ∈ os := List.getElem_mem hix
    have htk : obits (os.take (i + 1)) = obits (os.take i) ++ os[i].bits := by rw [List.take_succ_eq_append_getElem hix, obits, List.flatMap_append]; simp [obits]
    obtain ⟨g, cap, sp, hgv, hcap, rfl⟩ := hO.block (by omega)
    cases hgv
    have cc : ∀ j u, j < 3 → os[i].cells[j]? = some u → (bcells os ++ sp)[0 + (i : Int).toNat * 3 + j]? = some u := fun j u hj hu => by
      rw [Nat.zero_add, Int.toNat_natCast, List.getElem?_append_left (by rw [bcells_length]; omega), bcells_at hj hxi]; exact hu
    have hsw : St [] w0 w ((g, Blk 27 (bcells os ++ sp)) :: LW) := by simpa using hs.swap
    generalize os[i] = x at hxm cc htk
    have hxg := hg x hxm
    refine W_skip ?_
    refine n_then ?_
    refine W_seq ?_
    refine W_block ?_
    refine W_region ?_
    refine s_move rfl rfl ?_
    refine s_move rfl rfl ?_
    (refine s_indexAddr El24 rfl rfl rfl ?hx ?_; case hx => (constructor <;> first | omega | (simp; omega)))
    refine s_load_3 Try.isAgg27 Try.sizeOf27 rfl rfl (hsw.cell (k := 0) rfl (cc 0 _ (by omega) rfl)) (hsw.cell (k := 0) rfl (cc 1 _ (by omega) rfl)) (hsw.cell (k := 0) rfl (cc 2 _ (by omega) rfl)) ?_
    refine s_callL (M := []) (L1 := LW) (X := [_]) Try.call14 rfl rfl hs (fun h => write_ok b6 _ x hxg LW w hW h (by rw [List.length_append]; omega)) ?_
    clear hs hsw hW; rintro v w LW2 ⟨hW, rfl⟩ - hs
    simp only [List.nil_append] at hs
    refine WL_nil ?_
    refine n_blk ?_
    refine n_then ?_
    refine W_region ?_
    refine s_move rfl rfl ?_
    first | (refine s_add' rfl rfl rfl ?hx ?_; case hx => (constructor <;> first | omega | (simp only; omega))) | refine s_add rfl rfl rfl ?_
    refine s_assign rfl rfl ?_
    refine WL_nil ?_
    refine n_loop ?_
    exact ⟨(i + 1, LW2), ⟨rfl, rfl, rfl, rfl, trivial⟩, ⟨hs, by simp only; rw [htk, ← List.append_assoc]; exact hW, by simp only; omega⟩, by simp only; omega⟩
  · skip
    try simp only [decide_eq_true_eq, decide_eq_false_iff_not, beq_iff_eq, beq_eq_false_iff_ne, ne_eq, bne_iff_ne, bne_eq_false_iff_eq] at hc21
    have hb1 : (nb n 64 ++ obits (os.take i)).length ≤ 900 := by rw [List.length_append]; omega
    have hb2 : 64 ≤ (nb n 64 ++ obits (os.take i)).length := by rw [List.length_append]; omega
    have hb3 : (nb n 64 ++ obits (os.take i)).take 64 = nb n 64 := by rw [List.take_append_of_le_length (by omega), List.take_of_length_le (by omega)]
    generalize nb n 64 ++ obits (os.take i) = bs at hW hb1 hb2 hb3
    have hpl := pk_length bs
    refine W_exit ?_
    refine x_then ?_
    refine x_then ?_
    refine exit_hit ?_
    refine n_then ?_
    refine W_seq ?_
    refine W_region ?_
    refine s_callL (M := []) (L1 := LW) (X := Lo) Try.call18 rfl rfl hs (fun h => wDone_ok b6 bs _ w hW h (by omega)) ?_
    clear hs; rintro v w L9 ⟨Lf, rfl, hOf⟩ - hs
    simp only [List.nil_append, List.append_assoc] at hs
    obtain ⟨_, fc, fa, rfl, rfl⟩ := hOf.form
    have hpB := pk_isB bs
    have hrd : va (bitsAt (pk bs) 0 64) = n := by rw [bitsAt_pk bs 0 64 (by omega), List.drop_zero, hb3, va_nb, Nat.mod_eq_of_lt (by omega)]
    generalize hall : pk bs = all at *
    refine s_assign rfl rfl ?_
    refine WL_nil ?_
    refine n_then ?_
    refine W_seq ?_
    refine W_region ?_
    refine s_buildSlice rfl rfl (BS29_0 ) hs ?_; clear hs; intro b30 w hs
    refine s_move rfl rfl ?_
    refine s_append El29 rfl rfl rfl (OwnS.bare _ _ _) (Lv := []) hs (hOf.sl (M := Lo ++ ([_] ++ LW)) (by simpa [cat] using St.reord [[_], LW, Lf, Lo] [2, 3, 0, 1] [] hs rfl)) (by simp) (u8s_one _) (by omega) ?_
    clear hs; intro v' w La hOa hs
    simp only [Nat.zero_add, List.nil_append] at hOa
    obtain ⟨_, ac, aa, rfl, rfl⟩ := hOa.form
    replace hs : St [] w0 w (Lf ++ (La ++ LW)) := by simpa [cat] using St.reord [La, [_], LW, Lf, Lo] [3, 0, 2] [1, 4] (by simpa [cat] using hs) rfl
    refine s_assign rfl rfl ?_
    refine WL_nil ?_
    refine n_then ?_
    refine W_seq ?_
    refine W_seq ?_
    refine W_region ?_
    refine s_assign rfl rfl ?_
    refine WL_nil ?_
    refine n_then ?_
    refine W_block ?_
    refine W_loop (σ := OB) (fun s => [(1, .int .u64 (n : Int)), (6, .pointer (some ⟨b6, 0, none⟩)), (8, .slice fa all.length fc), (9, .slice aa all.length ac), (10, .int .i64 (s.i : Int))]) (fun s w => St [] w0 w (s.L ++ (La ++ LW)) ∧ OwnS 5 1 (.slice fa all.length fc) all.length (u8s s.zs) s.L ∧ s.i ≤ all.length) (fun s => all.length - s.i) ⟨0, all, Lf⟩ ⟨rfl, rfl, rfl, rfl, rfl, trivial⟩ ⟨hs, hOf, Nat.zero_le _⟩ ?_
    clear hs hOf
    rintro ⟨j, zs, Lz⟩ w ⟨hs, hOz, hjl⟩
    simp only at hs hOz hjl ⊢
    refine W_seq ?_
    refine W_seq ?_
    refine W_region ?_
    refine s_move rfl rfl ?_
    refine s_move rfl rfl ?_
    refine s_len rfl rfl (LN29 _ _ _ _) ?_
    refine s_lss rfl rfl rfl ?_
    refine WL_nil ?_
    refine n_then ?_
    refine W_cond rfl (fun hc36 => ?_) (fun hc36 => ?_)
    · skip
      try simp only [decide_eq_true_eq, decide_eq_false_iff_not, beq_iff_eq, beq_eq_false_iff_ne, ne_eq, bne_iff_ne, bne_eq_false_iff_eq] at hc36
      obtain ⟨g, cap, sp, hgg, hcap, rfl⟩ := hOz.block (by omega)
      cases hgg
      simp only [List.cons_append, List.nil_append] at hs
      refine W_skip ?_
      refine n_then ?_
      refine W_seq ?_
      refine W_block ?_
      refine W_region ?_
      refine s_move rfl rfl ?_
      refine s_move rfl rfl ?_
      (refine s_indexAddr1 El29 rfl rfl rfl ?hx ?_; case hx => (constructor <;> first | omega | (simp; omega)))
      refine s_store Try.sizeOf5 rfl rfl rfl hs (kk := 0) rfl (by have := hOz.1; simp at this ⊢; omega) ?_
      clear hs; intro w hs
      simp only [List.set_cons_zero] at hs
      refine WL_nil ?_
      refine n_blk ?_
      refine n_then ?_
      refine W_region ?_
      refine s_move rfl rfl ?_
      first | (refine s_add' rfl rfl rfl ?hx ?_; case hx => (constructor <;> first | omega | (simp only; omega))) | refine s_add rfl rfl rfl ?_
      refine s_assign rfl rfl ?_
      refine WL_nil ?_
      refine n_loop ?_
      exact ⟨⟨j + 1, zs.set j 9, [_]⟩, ⟨rfl, rfl, rfl, rfl, rfl, trivial⟩, ⟨hs, by simpa using own_set8 9 hOz (by omega), by simp only; omega⟩, by simp only; omega⟩
    · skip
      try simp only [decide_eq_true_eq, decide_eq_false_iff_not, beq_iff_eq, beq_eq_false_iff_ne, ne_eq, bne_iff_ne, bne_eq_false_iff_eq] at hc36
      replace hs : St [] w0 w (La ++ LW) := hs.right
      clear hOz
      refine W_exit ?_
      refine x_then ?_
      refine x_then ?_
      refine exit_hit ?_
      refine n_then ?_
      refine W_seq ?_
      refine W_seq ?_
      refine W_region ?_
      refine s_callL (M := La) (L1 := LW) (X := []) Try.call18 rfl rfl (by simpa using hs) (fun h => wDone_ok b6 bs _ w hW h (by omega)) ?_
      clear hs; rintro v w L9 ⟨Lg, rfl, hOg⟩ - hs
      rw [hall] at hOg
      simp only [List.append_nil] at hs
      refine s_move rfl rfl ?_
      refine s_call Try.call17 rfl rfl (sameBytes_ok _ _ all all w (hOg.slM (M := La ++ LW) (X := []) (by simpa using hs)) (hOa.sl (M := LW ++ Lg) hs) (by omega)) ?_
      rintro r w ⟨hst, rfl⟩
      replace hs := hs.fwd1 hst
      clear hst
      replace hs : St [] w0 w La := hs.left
      refine s_not rfl rfl ?_
      refine WL_nil ?_
      refine n_then ?_
      refine W_cond_kf rfl ((by simp)) ?_
      refine W_skip ?_
      refine n_then ?_
      refine W_seq ?_
      refine W_region ?_
      refine s_buildSlice rfl rfl (BS29_0 ) hs ?_; clear hs; intro b46 w hs
      refine s_move rfl rfl ?_
      refine s_append El29 rfl rfl rfl (OwnS.bare _ _ _) (Lv := []) hs (hOa.slM (M := [_]) (X := []) (by simpa using hs)) (by simp) (u8s_one _) (by omega) ?_
      clear hs; intro v' w Ld hOd hs
      simp only [Nat.zero_add, List.nil_append] at hOd
      obtain ⟨_, dc, da, rfl, rfl⟩ := hOd.form
      replace hs : St [] w0 w Ld := hs.left
      refine s_assign rfl rfl ?_
      refine WL_nil ?_
      refine n_then ?_
      refine W_seq ?_
      refine W_region ?_
      refine s_move rfl rfl ?_
      refine s_call Try.call22 rfl rfl (bRead_ok _ all w (hOd.sl (M := []) (by simpa using hs)) (by omega) hpB) ?_
      rintro r w ⟨p, LP, rfl, hP, hst⟩
      replace hs := (St.back0 hs hst).swap
      clear hst
      refine s_assign rfl rfl ?_
      refine WL_nil ?_
      refine n_then ?_
      refine W_seq ?_
      refine W_seq ?_
      refine W_region ?_
      refine s_move rfl rfl ?_
      refine s_eql_ptr_nil Try.underlying43 rfl rfl rfl ?_
      refine WL_nil ?_
      refine n_then ?_
      refine W_cond_kf rfl (rfl) ?_
      refine W_skip ?_
      refine n_then ?_
      refine W_seq ?_
      refine W_seq ?_
      refine W_region ?_
      refine s_assign rfl rfl ?_
      refine WL_nil ?_
      refine n_then ?_
      refine W_block ?_
      refine W_loop (σ := OB) (fun s => [(1, .int .u64 (n : Int)), (11, .slice da all.length dc), (12, .pointer (some ⟨p, 0, none⟩)), (13, .int .i64 (s.i : Int))]) (fun s w => St [] w0 w (s.L ++ LP) ∧ OwnS 5 1 (.slice da all.length dc) all.length (u8s s.zs) s.L ∧ s.i ≤ all.length) (fun s => all.length - s.i) ⟨0, all, Ld⟩ ⟨rfl, rfl, rfl, rfl, trivial⟩ ⟨hs, hOd, Nat.zero_le _⟩ ?_
      clear hs hOd
      rintro ⟨j, zs, Lz⟩ w ⟨hs, hOz, hjl⟩
      simp only at hs hOz hjl ⊢
      refine W_seq ?_
      refine W_seq ?_
      refine W_region ?_
      refine s_move rfl rfl ?_
      refine s_move rfl rfl ?_
      refine s_len rfl rfl (LN29 _ _ _ _) ?_
      refine s_lss rfl rfl rfl ?_
      refine WL_nil ?_
      refine n_then ?_
      refine W_cond rfl (fun hc56 => ?_) (fun hc56 => ?_)
      · skip
        try simp only [decide_eq_true_eq, decide_eq_false_iff_not, beq_iff_eq, beq_eq_false_iff_ne, ne_eq, bne_iff_ne, bne_eq_false_iff_eq] at hc56
        obtain ⟨g, cap, sp, hgg, hcap, rfl⟩ := hOz.block (by omega)
        cases hgg
        simp only [List.cons_append, List.nil_append] at hs
        have hzl : zs.length = all.length := by have := hOz.1; simpa using this
        have hat : (u8s zs ++ sp)[0 + (j : Int).toNat]? = some (.int .u8 (zs.getD j 0)) := by
          rw [Nat.zero_add, Int.toNat_natCast, List.getElem?_append_left (by simp; omega)]; simp [u8s, show j < zs.length by omega]
        refine W_skip ?_
        refine n_then ?_
        refine W_seq ?_
        refine W_block ?_
        refine W_region ?_
        refine s_move rfl rfl ?_
        refine s_move rfl rfl ?_
        refine s_move rfl rfl ?_
        refine s_move rfl rfl ?_
        (refine s_indexAddr1 El29 rfl rfl rfl ?hx ?_; case hx => (constructor <;> first | omega | (simp; omega)))
        refine s_load Try.isAgg5 rfl rfl (hs.cell (k := 0) rfl hat) ?_
        refine s_sub rfl rfl rfl ?_
        (refine s_indexAddr1 El29 rfl rfl rfl ?hx ?_; case hx => (constructor <;> first | omega | (simp; omega)))
        refine s_store Try.sizeOf5 rfl rfl rfl hs (kk := 0) rfl (by simp; omega) ?_
        clear hs; intro w hs
        simp only [List.set_cons_zero] at hs
        refine WL_nil ?_
        refine n_blk ?_
        refine n_then ?_
        refine W_region ?_
        refine s_move rfl rfl ?_
        first | (refine s_add' rfl rfl rfl ?hx ?_; case hx => (constructor <;> first | omega | (simp only; omega))) | refine s_add rfl rfl rfl ?_
        refine s_assign rfl rfl ?_
        refine WL_nil ?_
        refine n_loop ?_
        exact ⟨⟨j + 1, zs.set j _, [_]⟩, ⟨rfl, rfl, rfl, rfl, trivial⟩, ⟨hs, by simpa using own_set8 _ hOz (by omega), by simp only; omega⟩, by simp only; omega⟩
      · skip
        try simp only [decide_eq_true_eq, decide_eq_false_iff_not, beq_iff_eq, beq_eq_false_iff_ne, ne_eq, bne_iff_ne, bne_eq_false_iff_eq] at hc56
        replace hs : St [] w0 w LP := hs.right
        refine W_exit ?_
        refine x_then ?_
        refine x_then ?_
        refine exit_hit ?_
        refine n_then ?_
        refine W_seq ?_
        refine W_region ?_
        refine s_move rfl rfl ?_
        refine s_callL (M := []) (L1 := LP) (X := []) Try.call25 rfl rfl (by simpa using hs) (fun h => rBits_ok p _ _ _ 64 _ w hP h) ?_
        clear hs hP; rintro v w LP ⟨hP, rfl⟩ - hs
        simp only [List.nil_append, List.append_nil] at hs
        have hrv : rbV all 0 0 64 = (n, 64, 0) := by
          unfold rbV
          rw [if_neg (by simp), show (clampV 64).toNat = 64 from by decide, if_neg (by omega), hrd]
        rw [hrv] at hP ⊢
        simp only at hP ⊢
        refine s_move rfl rfl ?_
        refine s_eql rfl rfl rfl ?_
        refine s_move rfl rfl ?_
        refine WL_know (s := 71) (c := true) rfl ((by simp)) ?_
        refine WL_take rfl ?_
        refine s_move rfl rfl ?_
        refine WL_take rfl ?_
        refine s_callL (M := []) (L1 := LP) (X := []) Try.call29 rfl rfl (by simpa using hs) (fun h => rAt_ok p _ _ _ _ w hP h) ?_
        clear hs; rintro v w L9 ⟨hL9, rfl⟩ - hs
        simp only [List.nil_append, List.append_nil] at hs
        refine WL_take rfl ?_
        refine s_eql rfl rfl rfl ?_
        refine s_pick_t rfl rfl rfl ?_
        refine s_move rfl rfl ?_
        refine WL_know (s := 76) (c := true) rfl ((by simp)) ?_
        refine WL_take rfl ?_
        refine s_call Try.call20 rfl rfl (lives_ok w) ?_
        rintro r w ⟨hst, rfl⟩
        replace hs := hs.fwd1 hst
        clear hst
        refine s_pick_t rfl rfl rfl ?_
        refine s_assign rfl rfl ?_
        refine WL_nil ?_
        refine n_then ?_
        refine W_ret ?_
        exact end1 rfl rfl ⟨hs.fwd, rfl⟩
end Go.Proofs.Ytifegkpjbdgniaa
