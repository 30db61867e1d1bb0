/- LeaseReplicas. -/
import Derived.Test.YtkobigdfijeajaaRsI
set_option linter.unusedVariables false
set_option linter.unusedSimpArgs false
namespace Go.Proofs.Ytkobigdfijeajaa
open Go.SL
theorem flat_drop {α : Type} {c : α → List Value} {k : Nat} (h : ∀ x, (c x).length = k) : ∀ (xs : List α) (n : Nat), (xs.flatMap c).drop (n * k) = (xs.drop n).flatMap c
  | _, 0 => by simp
  | [], n + 1 => by simp
  | x :: r, n + 1 => by
    have h1 : (n + 1) * k = (c x).length + n * k := by rw [h, Nat.add_mul]; omega
    rw [List.flatMap_cons, h1, List.drop_length_add_append, flat_drop h r n, List.drop_succ_cons]
theorem St_pick2 {F : List Nat} {w0 w : World} {A B : Nat × Obj} {Y L X Z : Hp} (hs : St F w0 w (A :: B :: (Y ++ Z))) (h : Y.Perm (L ++ X)) : St F w0 w (A :: B :: (L ++ (X ++ Z))) := hs.perm (((perm_r h Z).cons _).cons _)
theorem k_times4 {k : Nat} (hk : 1 ≤ k ∧ k ≤ 3) {y : Int} (hy : 0 ≤ y ∧ y < 4) : 0 ≤ (k : Int) * y ∧ (k : Int) * y ≤ 9 := by
  have : k = 1 ∨ k = 2 ∨ k = 3 := by omega
  rcases this with rfl | rfl | rfl <;> omega
theorem ptrs_at {ps : List Nat} {sp : List Value} (i p : Nat) (h : ps[i]? = some p) : (ptrs ps ++ sp)[0 + (i : Int).toNat]? = some (.pointer (some ⟨p, 0, none⟩)) := by
  have hi := (List.getElem?_eq_some_iff.1 h).1
  rw [Nat.zero_add, Int.toNat_natCast, List.getElem?_append_left (by rw [ptrs, List.length_map]; exact hi), ptrs, List.getElem?_map, h]; rfl
theorem duo_start {k : Nat} {ps qs : List Nat} {Ls Fs : List Hp} (hk : 1 ≤ k ∧ k ≤ 3) (hG : GrpAt ps (R0of k) Ls) (hp : ps.length = k) (hF : FrsAt qs (R0of k) Fs []) (hq : qs.length = k) : Duo k ps qs (R0of k) Ls Fs (fun _ => False) [] := ⟨hG, hF, hp, hq, _, inv_start hk.1 hk.2⟩
theorem erase_s {mm : List Mm} {ds : List Dm} (h : mm.map (·.s) = ds.map (·.s)) (j : Nat) : (mm.take j ++ mm.drop (j + 1)).map (·.s) = (ds.take j ++ ds.drop (j + 1)).map (·.s) := by
  rw [List.map_append, List.map_append, List.map_take, List.map_take, List.map_drop, List.map_drop, h]
set_option maxHeartbeats 8000000 in
set_option maxRecDepth 16000 in
theorem leaseReplicas_ok (members : Int) (v : Value) (zs : List Int) (w0 : World) (hmem : isI64 members) (hv : Sl w0 v zs.length (i64s zs)) (hz : ∀ z ∈ zs, isI64 z) :
    Ret Try.prog 5 [.int .i64 members, v].toArray w0 fun r w' => Fwd [] w0 w' ∧ r = .bool true := by
  obtain ⟨va, vc, rfl, hvc⟩ := hv.len_le
  refine Ret_start fun w hs => ?_
  refine Ret_of Try.func5 rfl Try.ntmps5 rfl ?_
  refine W_seq ?_
  refine W_region ?_
  refine s_assign rfl rfl ?_
  refine WL_nil ?_
  refine n_then ?_
  refine W_seq ?_
  refine W_region ?_
  refine s_move rfl rfl ?_
  refine s_call Try.call25 rfl rfl (around_ok members 3 w (by omega) hmem) ?_
  rintro r w1 ⟨hw1, rfl⟩
  rw [hw1]; clear hw1 w1
  have har := aroundV_range (m := members) (q := 3) (by omega)
  generalize aroundV members 3 = ai at har
  (refine s_add' rfl rfl rfl ?hx ?_; case hx => (constructor <;> omega))
  obtain ⟨k, hke, hk⟩ : ∃ k : Nat, (1 : Int) + ai = (k : Int) ∧ 1 ≤ k ∧ k ≤ 3 := ⟨(1 + ai).toNat, by omega, by omega, by omega⟩
  rw [hke]
  refine s_assign rfl rfl ?_
  refine WL_nil ?_
  refine n_then ?_
  refine W_seq ?_
  refine W_region ?_
  refine s_move rfl rfl ?_
  refine s_call Try.call26 rfl rfl (group_ok k hk w) ?_
  rintro r w ⟨ps, Ls, LG, hOg, hpl, hGr, hst⟩
  replace hs := hs.back0 hst
  clear hst
  rw [List.append_nil] at hs
  obtain ⟨g, cap, sp, rfl, hcap, hLG⟩ := hOg.block (by omega)
  rw [hLG] at hs
  simp only [List.cons_append, List.nil_append] at hs
  refine s_assign rfl rfl ?_
  refine WL_nil ?_
  refine n_then ?_
  refine W_seq ?_
  refine W_seq ?_
  refine W_region ?_
  refine s_move rfl rfl ?_
  refine s_eql_slice_nil Try.underlying60 rfl rfl rfl ?_
  refine WL_nil ?_
  refine n_then ?_
  refine W_cond_kf rfl (rfl) ?_
  refine W_skip ?_
  refine n_then ?_
  refine W_seq ?_
  refine W_region ?_
  refine s_assign rfl rfl ?_
  refine WL_nil ?_
  refine n_then ?_
  refine W_seq ?_
  refine W_seq ?_
  refine W_region ?_
  refine s_assign rfl rfl ?_
  refine WL_nil ?_
  refine n_then ?_
  refine W_block ?_
  refine W_loop (σ := MsS) (fun s => [(1, .slice va zs.length vc), (5, .int .i64 (k : Int)), (6, .slice (some ⟨g, 0, none⟩) k cap), (7, s.v), (8, .int .i64 (s.i : Int))])
    (fun s w => St [] w0 w ((g, Blk 25 (ptrs ps ++ sp)) :: (Ls.flatten ++ (s.LH ++ s.Fs.flatten))) ∧ OwnS 63 1 s.v s.i (ptrs s.qs) s.LH ∧ s.qs.length = s.i ∧ FrsAt s.qs (R0of k) s.Fs [] ∧ s.i ≤ k) (fun s => k - s.i) ⟨0, [], [], .slice none 0 0, []⟩ ⟨rfl, rfl, rfl, rfl, rfl, trivial⟩ ⟨by simpa using hs, OwnS.nil _ _, rfl, ⟨rfl, by simp⟩, Nat.zero_le _⟩ ?_
  clear hs
  rintro ⟨i, qs, Fs, mv, LH⟩ w ⟨hs, hO, hql, hF, hi⟩
  simp only at hs hO hql hF hi ⊢
  refine W_seq ?_
  refine W_seq ?_
  refine W_region ?_
  refine s_move rfl rfl ?_
  refine s_move rfl rfl ?_
  refine s_lss rfl rfl rfl ?_
  refine WL_nil ?_
  refine n_then ?_
  refine W_cond rfl (fun hc32 => ?_) (fun hc32 => ?_)
  · skip
    try simp only [decide_eq_true_eq, decide_eq_false_iff_not, gt_iff_lt, ge_iff_le, beq_iff_eq, beq_eq_false_iff_ne, ne_eq, bne_iff_ne, bne_eq_false_iff_eq, Bool.not_eq_true', Bool.not_eq_false', Bool.not_eq_true, Bool.not_eq_false, Decidable.not_not] at hc32
    refine W_skip ?_
    refine n_then ?_
    refine W_seq ?_
    refine W_block ?_
    refine W_region ?_
    refine s_move rfl rfl ?_
    refine s_move rfl rfl ?_
    refine s_move rfl rfl ?_
    refine s_call Try.call27 rfl rfl (fstart_ok i k ⟨hk.1, hk.2, by omega⟩ w) ?_
    rintro r w ⟨p, L, rfl, hFA, hst⟩
    replace hs := hs.back0 hst
    clear hst
    refine s_buildSlice rfl rfl (BS62_1 _) hs ?_; clear hs; intro b39 w hs
    refine s_appendM (M := [_] ++ (L ++ ([_] ++ Ls.flatten))) (X := Fs.flatten) El62 rfl rfl rfl hO (by simpa [cat] using hs) (hs.sl (k := 0) (ds := [_]) rfl (Nat.le_refl _) (by intro j u hj; rw [Nat.zero_add]; exact hj)) rfl (by simp [Value.oneCell']) (by omega) ?_
    clear hs hO; intro v' w LH' hO hs
    replace hs : St [] w0 w ((g, Blk 25 (ptrs ps ++ sp)) :: (Ls.flatten ++ (LH' ++ (Fs ++ [L]).flatten))) := by
      rw [List.flatten_append, List.flatten_singleton]
      simpa [cat] using St.reord [[_], L, [_], Ls.flatten, LH', Fs.flatten] [2, 3, 4, 5, 1] [0] (by simpa [cat] using hs) rfl
    refine s_assign rfl rfl ?_
    refine WL_nil ?_
    refine n_blk ?_
    refine n_then ?_
    refine W_region ?_
    refine s_move rfl rfl ?_
    first | (refine s_add' rfl rfl rfl ?hx ?_; case hx => (constructor <;> first | omega | (simp only; omega)))
    refine s_assign rfl rfl ?_
    refine WL_nil ?_
    refine n_loop ?_
    refine ⟨⟨i + 1, qs ++ [p], Fs ++ [L], v', LH'⟩, ⟨rfl, rfl, rfl, rfl, rfl, trivial⟩, ⟨hs, ?_, by simp [hql], ⟨by simp [hF.1], ?_⟩, by simp only; omega⟩, by simp only; omega⟩
    · rw [ptrs, List.map_append]; exact hO
    · intro j q M hj hM
      have hlen := hF.1
      rcases Nat.lt_or_ge j qs.length with hlt | hge
      · rw [List.getElem?_append_left hlt] at hj
        rw [List.getElem?_append_left (by omega)] at hM
        exact hF.2 j q M hj hM
      · rw [List.getElem?_append_right hge] at hj
        rw [List.getElem?_append_right (by omega)] at hM
        have hj0 : j - qs.length = 0 := by
          have := (List.getElem?_eq_some_iff.1 hj).1
          simp at this; omega
        rw [hj0] at hj
        rw [← hlen, hj0] at hM
        simp only [List.getElem?_cons_zero, Option.some.injEq] at hj hM
        subst hj hM
        have : j = i := by omega
        rw [this]; exact hFA
  · skip
    try simp only [decide_eq_true_eq, decide_eq_false_iff_not, gt_iff_lt, ge_iff_le, beq_iff_eq, beq_eq_false_iff_ne, ne_eq, bne_iff_ne, bne_eq_false_iff_eq, Bool.not_eq_true', Bool.not_eq_false', Bool.not_eq_true, Bool.not_eq_false, Decidable.not_not] at hc32
    obtain rfl : i = k := by omega
    obtain ⟨h, cap2, sp2, rfl, hcap2, hLH⟩ := hO.block (by omega)
    have hDuo := duo_start hk hGr hpl hF hql
    rw [hLH] at hs
    clear hF hGr
    refine W_exit ?_
    refine x_then ?_
    refine x_then ?_
    refine exit_hit ?_
    refine n_then ?_
    refine W_seq ?_
    refine W_region ?_
    refine s_assign rfl rfl ?_
    refine WL_nil ?_
    refine n_then ?_
    refine W_seq ?_
    refine W_region ?_
    refine s_assign rfl rfl ?_
    refine WL_nil ?_
    refine n_then ?_
    refine W_seq ?_
    refine W_seq ?_
    refine W_region ?_
    refine s_assign rfl rfl ?_
    refine WL_nil ?_
    refine n_then ?_
    refine W_block ?_
    refine W_loop (σ := LrS) (fun s => [(1, .slice va zs.length vc), (5, .int .i64 (i : Int)), (6, .slice (some ⟨g, 0, none⟩) i cap), (7, .slice (some ⟨h, 0, none⟩) i cap2), (9, s.rv), (10, s.mv), (11, .int .i64 (s.i : Int))])
      (fun s w => LrI i ps qs (g, Blk 25 (ptrs ps ++ sp)) (h, Blk 63 (ptrs qs ++ sp2)) w0 s w ∧ s.i ≤ zs.length ∧ s.i ≤ 60) (fun s => 60 - s.i) ⟨0, R0of i, Ls, Fs, fun _ => False, [], [], .slice none 0 0, .slice none 0 0, [], [], []⟩ ⟨rfl, rfl, rfl, rfl, rfl, rfl, rfl, trivial⟩
      ⟨⟨by simpa [cat] using St.reord [[_], Ls.flatten, [_], Fs.flatten] [0, 2, 1, 3] [] (by simpa [cat] using hs) rfl, hDuo, ⟨rfl, (OwnS.nil _ _).toF, nofun, (OwnS.nil _ _).toF, nofun⟩, nofun, by simp⟩, Nat.zero_le _, Nat.zero_le _⟩ ?_
    clear hs hDuo Ls Fs
    generalize i = k at *
    rintro ⟨i, R, Ls, Fs, M, mm, ds, rv, mv, LRl, LMd, LP⟩ w ⟨⟨hs, hD, hT, hall, hlen⟩, hi, hi60⟩
    simp only at hs hD hT hall hlen hi hi60 ⊢
    obtain ⟨ra, rc, rfl⟩ := hT.hO.form
    obtain ⟨ma, mc, rfl⟩ := hT.hO2.form
    have hml := hT.len
    refine W_seq ?_
    refine W_seq ?_
    refine W_region ?_
    refine s_move rfl rfl ?_
    refine s_move rfl rfl ?_
    refine s_len rfl rfl (LN58 _ _ _ _) ?_
    refine s_lss rfl rfl rfl ?_
    refine s_move rfl rfl ?_
    refine WL_case (s := 45) rfl (fun hg45 => ?_) (fun hg45 => ?_)
    · skip
      try simp only [decide_eq_true_eq, decide_eq_false_iff_not, gt_iff_lt, ge_iff_le, beq_iff_eq, beq_eq_false_iff_ne, ne_eq, bne_iff_ne, bne_eq_false_iff_eq, Bool.not_eq_true', Bool.not_eq_false', Bool.not_eq_true, Bool.not_eq_false, Decidable.not_not] at hg45
      refine WL_take rfl ?_
      refine s_move rfl rfl ?_
      refine WL_take rfl ?_
      refine s_lss rfl rfl rfl ?_
      refine s_pick_t rfl rfl rfl ?_
      refine WL_nil ?_
      refine n_then ?_
      refine W_cond rfl (fun hc48 => ?_) (fun hc48 => ?_)
      · skip
        try simp only [decide_eq_true_eq, decide_eq_false_iff_not, gt_iff_lt, ge_iff_le, beq_iff_eq, beq_eq_false_iff_ne, ne_eq, bne_iff_ne, bne_eq_false_iff_eq, Bool.not_eq_true', Bool.not_eq_false', Bool.not_eq_true, Bool.not_eq_false, Decidable.not_not] at hc48
        have hil : i < zs.length := by omega
        have hzi : zs[i]? = some zs[i] := List.getElem?_eq_getElem hil
        have hzz := hz _ (List.getElem_mem hil)
        generalize zs[i] = z at hzi hzz
        unfold isI64 at hzz
        obtain ⟨b1, o1, rfl, hc1⟩ := hv.at (k := i) (u := .int .i64 z) (by simp [hzi])
        have hB1 : b1 < w0.heap.size := World.block_lt_of_cell? w0 _ hc1
        refine W_skip ?_
        refine n_then ?_
        refine W_seq ?_
        refine W_block ?_
        refine W_seq ?_
        refine W_region ?_
        refine s_move rfl rfl ?_
        refine s_move rfl rfl ?_
        (refine s_indexAddr1 El58 rfl rfl rfl ?hx ?_; case hx => (constructor <;> first | omega | (simp; omega)))
        refine s_load Try.isAgg3 rfl rfl ((hs.oldcell (a := ⟨b1, o1 + i, none⟩) hB1 (by simp)).trans hc1) ?_
        first | (refine s_quo rfl rfl rfl ?hx ?_; case hx => omega)
        refine s_call Try.call25 rfl rfl (around_ok _ 1073741824 w (by omega) (by rw [IntWalk.i64_in _ (quo_bd _ 8 (by omega) hzz)]; exact quo_bd _ 8 (by omega) hzz)) ?_
        rintro r w1 ⟨hw1, rfl⟩
        rw [hw1]; clear hw1 w1
        have hxr := aroundV_range (m := IntKind.i64.wrap (z.tdiv 8)) (q := 1073741824) (by omega)
        generalize aroundV (IntKind.i64.wrap (z.tdiv 8)) 1073741824 = xi at hxr
        obtain ⟨x, rfl⟩ : ∃ x : Nat, xi = (x : Int) := ⟨xi.toNat, by omega⟩
        obtain ⟨id, hid, hidk⟩ : ∃ id : Nat, (x : Int) % (k : Int) = (id : Int) ∧ id < k := ⟨x % k, by rw [Int.natCast_emod], Nat.mod_lt _ (by omega)⟩
        refine s_assign rfl rfl ?_
        refine WL_nil ?_
        refine n_then ?_
        refine W_seq ?_
        refine W_region ?_
        refine s_move rfl rfl ?_
        refine s_move rfl rfl ?_
        (refine s_rem' rfl rfl rfl ?hx ?_; case hx => (refine ⟨?_, ?_⟩ <;> omega))
        rw [hid]
        refine s_assign rfl rfl ?_
        refine WL_nil ?_
        refine n_then ?_
        refine W_seq ?_
        refine W_region ?_
        refine s_assign rfl rfl ?_
        refine WL_nil ?_
        refine n_then ?_
        refine W_seq ?_
        refine W_region ?_
        refine s_assign rfl rfl ?_
        refine WL_nil ?_
        refine n_then ?_
        refine W_seq ?_
        refine W_region ?_
        refine s_assign rfl rfl ?_
        refine WL_nil ?_
        refine n_then ?_
        refine W_seq ?_
        refine W_region ?_
        refine s_assign rfl rfl ?_
        refine WL_nil ?_
        refine n_then ?_
        refine W_cut (σ := CkS) (fun s => [(1, .slice (some ⟨b1, o1, none⟩) zs.length vc), (5, .int .i64 (k : Int)), (6, .slice (some ⟨g, 0, none⟩) k cap), (7, .slice (some ⟨h, 0, none⟩) k cap2), (9, s.rv), (10, s.mv), (11, .int .i64 (i : Int)), (13, .int .i64 (s.id : Int)), (14, s.xv), (15, s.yv), (16, .int .i64 s.e), (17, .int .i64 s.e)])
          (fun s w => CkI k ps qs (g, Blk 25 (ptrs ps ++ sp)) (h, Blk 63 (ptrs qs ++ sp2)) w0 s w) ?_ ?_
        · skip
          refine W_seq ?_
          refine W_region ?_
          refine s_move rfl rfl ?_
          refine s_move rfl rfl ?_
          (refine s_indexAddr1 El58 rfl rfl rfl ?hx ?_; case hx => (constructor <;> first | omega | (simp; omega)))
          refine s_load Try.isAgg3 rfl rfl ((hs.oldcell (a := ⟨b1, o1 + i, none⟩) hB1 (by simp)).trans hc1) ?_
          refine s_call Try.call25 rfl rfl (around_ok z 8 w (by omega) hzz) ?_
          rintro r w1 ⟨hw1, rfl⟩
          rw [hw1]; clear hw1 w1
          generalize aroundV z 8 = z8
          refine WL_nil ?_
          refine n_then ?_
          refine W_block ?_
          refine W_seq ?_
          refine W_region ?_
          refine s_eql rfl rfl rfl ?_
          refine s_assign rfl rfl ?_
          refine WL_nil ?_
          refine n_then ?_
          refine W_cond rfl (fun hc148 => ?_) (fun hc148 => ?_)
          · skip
            try simp only [decide_eq_true_eq, decide_eq_false_iff_not, gt_iff_lt, ge_iff_le, beq_iff_eq, beq_eq_false_iff_ne, ne_eq, bne_iff_ne, bne_eq_false_iff_eq, Bool.not_eq_true', Bool.not_eq_false', Bool.not_eq_true, Bool.not_eq_false, Decidable.not_not] at hc148
            obtain ⟨p, L, X, q, Lf, Xf, hp, hRA, hpm, hps, hq, hFA, hpf, hqs, hRid, hRm, hown⟩ := hD.rep hidk
            refine W_seq ?_
            refine W_region ?_
            refine s_move rfl rfl ?_
            refine s_move rfl rfl ?_
            refine s_move rfl rfl ?_
            first | (refine s_quo' rfl rfl rfl ?hx ?_; case hx => (refine ⟨?_, ?_, ?_⟩ <;> omega))
            first | (refine s_rem' rfl rfl rfl ?hx ?_; case hx => (refine ⟨?_, ?_⟩ <;> omega))
            have hy : 0 ≤ (x : Int) / 3 % 4 ∧ (x : Int) / 3 % 4 < 4 := by omega
            generalize (x : Int) / 3 % 4 = y at hy
            have hky := k_times4 hk hy
            refine s_mul rfl rfl rfl ?_
            rw [IntWalk.i64_in _ (by omega)]
            generalize (k : Int) * y = ky at hky
            (refine s_add' rfl rfl rfl ?hx ?_; case hx => (constructor <;> omega))
            have htt : isI64 ((id : Int) + ky) := by unfold isI64; omega
            generalize (id : Int) + ky = tt at htt
            refine s_assign rfl rfl ?_
            refine WL_nil ?_
            refine n_then ?_
            refine W_seq ?_
            refine W_seq ?_
            refine W_region ?_
            refine s_move rfl rfl ?_
            first | (refine s_rem' rfl rfl rfl ?hx ?_; case hx => (refine ⟨?_, ?_⟩ <;> omega))
            refine s_eql rfl rfl rfl ?_
            refine WL_nil ?_
            refine n_then ?_
            refine W_cond rfl (fun hc159 => ?_) (fun hc159 => ?_)
            · skip
              try simp only [decide_eq_true_eq, decide_eq_false_iff_not, gt_iff_lt, ge_iff_le, beq_iff_eq, beq_eq_false_iff_ne, ne_eq, bne_iff_ne, bne_eq_false_iff_eq, Bool.not_eq_true', Bool.not_eq_false', Bool.not_eq_true, Bool.not_eq_false, Decidable.not_not] at hc159
              refine W_region ?_
              refine s_move rfl rfl ?_
              first | (refine s_quo' rfl rfl rfl ?hx ?_; case hx => (refine ⟨?_, ?_, ?_⟩ <;> omega))
              (refine s_rem' rfl rfl rfl ?hx ?_; case hx => (refine ⟨?_, ?_⟩ <;> omega))
              clear htt
              have htt : isI64 ((x : Int) / 23 % 9) := by unfold isI64; omega
              generalize (x : Int) / 23 % 9 = tt at htt
              refine s_assign rfl rfl ?_
              refine WL_nil ?_
              refine n_then ?_
              refine W_seq ?_
              refine W_region ?_
              refine s_move rfl rfl ?_
              refine s_move rfl rfl ?_
              (refine s_indexAddr1 El60 rfl rfl rfl ?hx ?_; case hx => (constructor <;> first | omega | (simp; omega)))
              refine s_load Try.isAgg25 rfl rfl (hs.cell (k := 0) rfl (ptrs_at _ _ hp)) ?_
              refine s_move rfl rfl ?_
              replace hs : St [] w0 w ((g, Blk 25 (ptrs ps ++ sp)) :: (h, Blk 63 (ptrs qs ++ sp2)) :: (L ++ (X ++ (Fs.flatten ++ (LRl ++ (LMd ++ LP)))))) := hs.perm (((perm_r hpm _).cons _).cons _)
              refine s_callL (M := [_, _]) (L1 := L) (X := X ++ (Fs.flatten ++ (LRl ++ (LMd ++ LP)))) Try.call9 rfl rfl hs (fun h => elect_ok p (R id) L tt w hRA htt h) ?_
              clear hs; rintro u w L9 ⟨xv, Lr, LQ, rfl, rfl, hRQ, hMs⟩ - hs
              refine s_move rfl rfl ?_
              refine s_extract rfl rfl rfl ?_
              refine s_extract rfl rfl rfl ?_
              refine s_assign rfl rfl ?_
              refine s_assign rfl rfl ?_
              refine WL_nil ?_
              refine n_then ?_
              refine W_region ?_
              refine s_move rfl rfl ?_
              refine s_move rfl rfl ?_
              (refine s_indexAddr1 El62 rfl rfl rfl ?hx ?_; case hx => (constructor <;> first | omega | (simp; omega)))
              refine s_load Try.isAgg63 rfl rfl (hs.cell (k := 1) rfl (ptrs_at _ _ hq)) ?_
              refine s_move rfl rfl ?_
              replace hs : St [] w0 w ((g, Blk 25 (ptrs ps ++ sp)) :: (h, Blk 63 (ptrs qs ++ sp2)) :: (Lf ++ (Xf ++ (LQ ++ (Lr ++ (X ++ (LRl ++ (LMd ++ LP)))))))) := by
                have h9 := St.reord [[_], [_], LQ, Lr, X, Fs.flatten, LRl, LMd, LP] [0, 1, 5, 2, 3, 4, 6, 7, 8] [] (by simpa [cat] using hs) rfl
                exact St_pick2 (by simpa [cat] using h9) hpf
              refine s_callL (M := [_, _]) (L1 := Lf) (X := Xf ++ (LQ ++ (Lr ++ (X ++ (LRl ++ (LMd ++ LP)))))) Try.call28 rfl rfl hs (fun h => felect_ok q (R id) Lf LP tt w hFA htt hown (fun z hz => hs.own z (by simp [hz])) (fun z hz => St.apartX (M := [_, _]) hs (mem_ids_of (by simp [hz]))) h) ?_
              clear hs; rintro u w L9 ⟨yv, Lrf, LQf, rfl, rfl, hRF, hMd⟩ - hs
              have hInv := hD.elect hidk tt
              have hEl := elect_len (R id) tt
              generalize (R id).elect tt = E at hRQ hMs hRF hMd hInv hEl ⊢
              obtain ⟨r', l, er⟩ := E
              simp only at hRQ hMs hRF hMd hInv hEl ⊢
              obtain ⟨mx, dx, LB, LPx, hfin⟩ := CkI.mk' (e := er) hD hT hall hlen hidk hp hq hRQ hRF (fun _ h => h) hInv (hps LQ) (hqs LQf) hMs hMd (by omega) (by
                simpa [cat] using St.reord [[_], [_], LQf, Lrf, Xf, LQ, Lr, X, LRl, LMd, LP] [0, 1, 5, 7, 2, 4, 8, 9, 6, 3, 10] [] (by simpa [cat] using hs) rfl)
              refine s_move rfl rfl ?_
              refine s_extract rfl rfl rfl ?_
              refine s_extract rfl rfl rfl ?_
              refine s_assign rfl rfl ?_
              refine s_assign rfl rfl ?_
              refine WL_nil ?_
              refine n_blk ?_
              refine n_loop ?_
              refine ⟨_, ?_, hfin⟩
              exact ⟨rfl, rfl, rfl, rfl, rfl, rfl, rfl, rfl, rfl, rfl, rfl, rfl, trivial⟩
            · skip
              try simp only [decide_eq_true_eq, decide_eq_false_iff_not, gt_iff_lt, ge_iff_le, beq_iff_eq, beq_eq_false_iff_ne, ne_eq, bne_iff_ne, bne_eq_false_iff_eq, Bool.not_eq_true', Bool.not_eq_false', Bool.not_eq_true, Bool.not_eq_false, Decidable.not_not] at hc159
              refine W_skip ?_
              refine n_then ?_
              refine W_seq ?_
              refine W_region ?_
              refine s_move rfl rfl ?_
              refine s_move rfl rfl ?_
              (refine s_indexAddr1 El60 rfl rfl rfl ?hx ?_; case hx => (constructor <;> first | omega | (simp; omega)))
              refine s_load Try.isAgg25 rfl rfl (hs.cell (k := 0) rfl (ptrs_at _ _ hp)) ?_
              refine s_move rfl rfl ?_
              replace hs : St [] w0 w ((g, Blk 25 (ptrs ps ++ sp)) :: (h, Blk 63 (ptrs qs ++ sp2)) :: (L ++ (X ++ (Fs.flatten ++ (LRl ++ (LMd ++ LP)))))) := hs.perm (((perm_r hpm _).cons _).cons _)
              refine s_callL (M := [_, _]) (L1 := L) (X := X ++ (Fs.flatten ++ (LRl ++ (LMd ++ LP)))) Try.call9 rfl rfl hs (fun h => elect_ok p (R id) L tt w hRA htt h) ?_
              clear hs; rintro u w L9 ⟨xv, Lr, LQ, rfl, rfl, hRQ, hMs⟩ - hs
              refine s_move rfl rfl ?_
              refine s_extract rfl rfl rfl ?_
              refine s_extract rfl rfl rfl ?_
              refine s_assign rfl rfl ?_
              refine s_assign rfl rfl ?_
              refine WL_nil ?_
              refine n_then ?_
              refine W_region ?_
              refine s_move rfl rfl ?_
              refine s_move rfl rfl ?_
              (refine s_indexAddr1 El62 rfl rfl rfl ?hx ?_; case hx => (constructor <;> first | omega | (simp; omega)))
              refine s_load Try.isAgg63 rfl rfl (hs.cell (k := 1) rfl (ptrs_at _ _ hq)) ?_
              refine s_move rfl rfl ?_
              replace hs : St [] w0 w ((g, Blk 25 (ptrs ps ++ sp)) :: (h, Blk 63 (ptrs qs ++ sp2)) :: (Lf ++ (Xf ++ (LQ ++ (Lr ++ (X ++ (LRl ++ (LMd ++ LP)))))))) := by
                have h9 := St.reord [[_], [_], LQ, Lr, X, Fs.flatten, LRl, LMd, LP] [0, 1, 5, 2, 3, 4, 6, 7, 8] [] (by simpa [cat] using hs) rfl
                exact St_pick2 (by simpa [cat] using h9) hpf
              refine s_callL (M := [_, _]) (L1 := Lf) (X := Xf ++ (LQ ++ (Lr ++ (X ++ (LRl ++ (LMd ++ LP)))))) Try.call28 rfl rfl hs (fun h => felect_ok q (R id) Lf LP tt w hFA htt hown (fun z hz => hs.own z (by simp [hz])) (fun z hz => St.apartX (M := [_, _]) hs (mem_ids_of (by simp [hz]))) h) ?_
              clear hs; rintro u w L9 ⟨yv, Lrf, LQf, rfl, rfl, hRF, hMd⟩ - hs
              have hInv := hD.elect hidk tt
              have hEl := elect_len (R id) tt
              generalize (R id).elect tt = E at hRQ hMs hRF hMd hInv hEl ⊢
              obtain ⟨r', l, er⟩ := E
              simp only at hRQ hMs hRF hMd hInv hEl ⊢
              obtain ⟨mx, dx, LB, LPx, hfin⟩ := CkI.mk' (e := er) hD hT hall hlen hidk hp hq hRQ hRF (fun _ h => h) hInv (hps LQ) (hqs LQf) hMs hMd (by omega) (by
                simpa [cat] using St.reord [[_], [_], LQf, Lrf, Xf, LQ, Lr, X, LRl, LMd, LP] [0, 1, 5, 7, 2, 4, 8, 9, 6, 3, 10] [] (by simpa [cat] using hs) rfl)
              refine s_move rfl rfl ?_
              refine s_extract rfl rfl rfl ?_
              refine s_extract rfl rfl rfl ?_
              refine s_assign rfl rfl ?_
              refine s_assign rfl rfl ?_
              refine WL_nil ?_
              refine n_blk ?_
              refine n_loop ?_
              refine ⟨_, ?_, hfin⟩
              exact ⟨rfl, rfl, rfl, rfl, rfl, rfl, rfl, rfl, rfl, rfl, rfl, rfl, trivial⟩
          · skip
            try simp only [decide_eq_true_eq, decide_eq_false_iff_not, gt_iff_lt, ge_iff_le, beq_iff_eq, beq_eq_false_iff_ne, ne_eq, bne_iff_ne, bne_eq_false_iff_eq, Bool.not_eq_true', Bool.not_eq_false', Bool.not_eq_true, Bool.not_eq_false, Decidable.not_not] at hc148
            refine W_seq ?_
            refine W_region ?_
            refine s_eql rfl rfl rfl ?_
            refine s_assign rfl rfl ?_
            refine WL_nil ?_
            refine n_then ?_
            refine W_cond rfl (fun hc181 => ?_) (fun hc181 => ?_)
            · skip
              try simp only [decide_eq_true_eq, decide_eq_false_iff_not, gt_iff_lt, ge_iff_le, beq_iff_eq, beq_eq_false_iff_ne, ne_eq, bne_iff_ne, bne_eq_false_iff_eq, Bool.not_eq_true', Bool.not_eq_false', Bool.not_eq_true, Bool.not_eq_false, Decidable.not_not] at hc181
              obtain ⟨p, L, X, q, Lf, Xf, hp, hRA, hpm, hps, hq, hFA, hpf, hqs, hRid, hRm, hown⟩ := hD.rep hidk
              refine W_seq ?_
              refine W_draw [(0, true, []), (1, true, []), (2, true, []), (3, true, []), (4, true, []), (5, false, [0, 1, 2, 3]), (6, false, [0, 1, 2, 3]), (7, false, []), (8, true, []), (9, true, []), (10, true, []), (11, true, []), (12, true, [])] [[], [], [0, 1], [0, 1, 2], [], [4], [4, 5], [0, 1, 2, 3, 4, 5, 6], [0, 1, 2, 3, 4, 5, 6, 7], [0, 1, 2, 3, 4, 5, 6, 7, 8], [0, 1, 2, 3, 4, 5, 6, 7, 8], [0, 1, 2, 3, 4, 5, 6, 7, 8, 9], [0, 1, 2, 3, 4, 5, 6, 7, 8, 9, 10, 11]] MX (by kernel_rfl) ?_
              intro w1 hw1 hw2 hw3 hw4; replace hs := hs.redrawn hw1 hw2 hw3 hw4; clear hw1 hw2 hw3 hw4
              obtain ⟨w, rfl⟩ : ∃ w : World, w = w1 := ⟨_, rfl⟩
              refine D_q rfl rfl ?_
              refine s_move rfl rfl ?_
              refine D_qn ?_
              refine D_q rfl rfl ?_
              refine s_move rfl rfl ?_
              refine D_qn ?_
              refine D_q rfl rfl ?_
              (refine s_indexAddr1 El60 rfl rfl rfl ?hx ?_; case hx => (constructor <;> first | omega | (simp; omega)))
              refine D_qn ?_
              refine D_q rfl rfl ?_
              refine s_load Try.isAgg25 rfl rfl (hs.cell (k := 0) rfl (ptrs_at _ _ hp)) ?_
              refine D_qn ?_
              refine D_q rfl rfl ?_
              refine s_move rfl rfl ?_
              refine D_qn ?_
              refine D_e rfl ?_
              refine s_call Try.call23 rfl rfl (made_ok (x : Int) w (by unfold isI64; omega)) ?_
              rintro r w ⟨ev, Le, rfl, hOe, hst⟩
              replace hs := (hs.back0 hst).swap (A := Le)
              clear hst
              obtain ⟨_, ec, ea, rfl, hel⟩ := hOe.form
              subst hel
              refine D_en ?re ?_
              case re =>
                refine Reks_cons rfl rfl rfl rfl ?_ ?_
                · skip
                  refine s_move rfl rfl ?_
                  exact Rek_end rfl
                refine Reks_cons rfl rfl rfl rfl ?_ ?_
                · skip
                  refine s_move rfl rfl ?_
                  exact Rek_end rfl
                refine Reks_cons rfl rfl rfl rfl ?_ ?_
                · skip
                  (refine s_indexAddr1 El60 rfl rfl rfl ?hx ?_; case hx => (constructor <;> first | omega | (simp; omega)))
                  exact Rek_end rfl
                refine Reks_cons rfl rfl rfl rfl ?_ ?_
                · skip
                  refine s_load Try.isAgg25 rfl rfl (hs.cell (k := 0) rfl (ptrs_at _ _ hp)) ?_
                  exact Rek_end rfl
                exact Reks_nil
              refine D_e rfl ?_
              refine s_call Try.call22 rfl rfl (of_ok (madeG (x : Int)) (madeX (x : Int)) ea (madeC (x : Int)).length ec w) ?_
              rintro r w ⟨hst, rfl⟩
              replace hs := hs.fwd1 hst
              clear hst
              refine D_en ?re ?_
              case re =>
                refine Reks_cons rfl rfl rfl rfl ?_ ?_
                · skip
                  refine s_move rfl rfl ?_
                  exact Rek_end rfl
                refine Reks_cons rfl rfl rfl rfl ?_ ?_
                · skip
                  refine s_move rfl rfl ?_
                  exact Rek_end rfl
                refine Reks_cons rfl rfl rfl rfl ?_ ?_
                · skip
                  (refine s_indexAddr1 El60 rfl rfl rfl ?hx ?_; case hx => (constructor <;> first | omega | (simp; omega)))
                  exact Rek_end rfl
                refine Reks_cons rfl rfl rfl rfl ?_ ?_
                · skip
                  refine s_load Try.isAgg25 rfl rfl (hs.cell (k := 0) rfl (ptrs_at _ _ hp)) ?_
                  exact Rek_end rfl
                exact Reks_nil
              refine D_e rfl ?_
              replace hs : St [] w0 w ((g, Blk 25 (ptrs ps ++ sp)) :: (h, Blk 63 (ptrs qs ++ sp2)) :: (L ++ (X ++ (Fs.flatten ++ (LRl ++ (LMd ++ (LP ++ Le))))))) := by
                exact St_pick2 (by simpa using hs) hpm
              refine s_callL (M := [_, _]) (L1 := L) (X := X ++ (Fs.flatten ++ (LRl ++ (LMd ++ (LP ++ Le))))) Try.call13 rfl rfl hs (fun h => propose_ok p (R id) L (madeE (x : Int)) (.slice ea (madeC (x : Int)).length ec) w hRA (OwnS_slIn hOe fun z hz => hs.own z (by simp [hz])) (fun a m c he hne => by cases he; exact St.apartX (M := [_, _]) hs (by simp only [ids_append, List.mem_append]; simp [OwnS_in hOe hne])) (madeC_isB _) h) ?_
              clear hs; rintro u w L9 ⟨xv, Lr, LQ, rfl, rfl, hRQ, hMs⟩ - hs
              refine D_en ?re ?_
              case re =>
                exact Reks_nil
              refine D_q rfl rfl ?_
              refine s_move rfl rfl ?_
              refine D_qn ?_
              refine D_q rfl rfl ?_
              refine s_extract rfl rfl rfl ?_
              refine D_qn ?_
              refine D_q rfl rfl ?_
              refine s_extract rfl rfl rfl ?_
              refine D_qn ?_
              refine D_q rfl rfl ?_
              refine s_assign rfl rfl ?_
              refine D_qn ?_
              refine D_q rfl rfl ?_
              refine s_assign rfl rfl ?_
              refine D_qn ?_
              refine D_nil ?_
              refine n_then ?_
              refine W_draw [(0, true, []), (1, true, []), (2, true, []), (3, true, []), (4, true, []), (5, false, [0, 1, 2, 3]), (6, false, []), (7, true, []), (8, true, []), (9, true, []), (10, true, []), (11, true, [])] [[], [], [0, 1], [0, 1, 2], [], [4], [0, 1, 2, 3, 4, 5], [0, 1, 2, 3, 4, 5, 6], [0, 1, 2, 3, 4, 5, 6, 7], [0, 1, 2, 3, 4, 5, 6, 7], [0, 1, 2, 3, 4, 5, 6, 7, 8], [0, 1, 2, 3, 4, 5, 6, 7, 8, 9, 10]] MX (by kernel_rfl) ?_
              intro w1 hw1 hw2 hw3 hw4; replace hs := hs.redrawn hw1 hw2 hw3 hw4; clear hw1 hw2 hw3 hw4
              obtain ⟨w, rfl⟩ : ∃ w : World, w = w1 := ⟨_, rfl⟩
              refine D_q rfl rfl ?_
              refine s_move rfl rfl ?_
              refine D_qn ?_
              refine D_q rfl rfl ?_
              refine s_move rfl rfl ?_
              refine D_qn ?_
              refine D_q rfl rfl ?_
              (refine s_indexAddr1 El62 rfl rfl rfl ?hx ?_; case hx => (constructor <;> first | omega | (simp; omega)))
              refine D_qn ?_
              refine D_q rfl rfl ?_
              refine s_load Try.isAgg63 rfl rfl (hs.cell (k := 1) rfl (ptrs_at _ _ hq)) ?_
              refine D_qn ?_
              refine D_q rfl rfl ?_
              refine s_move rfl rfl ?_
              refine D_qn ?_
              refine D_e rfl ?_
              refine s_call Try.call23 rfl rfl (made_ok (x : Int) w (by unfold isI64; omega)) ?_
              rintro r w ⟨ev2, Le2, rfl, hOe2, hst⟩
              replace hs := (hs.back0 hst).swap (A := Le2)
              clear hst
              obtain ⟨_, ec2, ea2, rfl, hel2⟩ := hOe2.form
              subst hel2
              refine D_en ?re ?_
              case re =>
                refine Reks_cons rfl rfl rfl rfl ?_ ?_
                · skip
                  refine s_move rfl rfl ?_
                  exact Rek_end rfl
                refine Reks_cons rfl rfl rfl rfl ?_ ?_
                · skip
                  refine s_move rfl rfl ?_
                  exact Rek_end rfl
                refine Reks_cons rfl rfl rfl rfl ?_ ?_
                · skip
                  (refine s_indexAddr1 El62 rfl rfl rfl ?hx ?_; case hx => (constructor <;> first | omega | (simp; omega)))
                  exact Rek_end rfl
                refine Reks_cons rfl rfl rfl rfl ?_ ?_
                · skip
                  refine s_load Try.isAgg63 rfl rfl (hs.cell (k := 1) rfl (ptrs_at _ _ hq)) ?_
                  exact Rek_end rfl
                exact Reks_nil
              refine D_e rfl ?_
              replace hs : St [] w0 w ((g, Blk 25 (ptrs ps ++ sp)) :: (h, Blk 63 (ptrs qs ++ sp2)) :: (Lf ++ (Xf ++ (LQ ++ (Lr ++ (X ++ (LRl ++ (LMd ++ (Le2 ++ LP))))))))) := by
                have h9 := St.reord [[_], [_], LQ, Lr, X, Fs.flatten, LRl, LMd, LP, Le, Le2] [0, 1, 5, 2, 3, 4, 6, 7, 10, 8] [9] (by simpa [cat] using hs) rfl
                exact St_pick2 (by simpa [cat] using h9) hpf
              refine s_callL (M := [_, _]) (L1 := Lf) (X := Xf ++ (LQ ++ (Lr ++ (X ++ (LRl ++ (LMd ++ (Le2 ++ LP))))))) Try.call29 rfl rfl hs (fun h => fpropose_ok q (R id) Lf (Le2 ++ LP) (madeE (x : Int)) (.slice ea2 (madeC (x : Int)).length ec2) w (FrQ.mono hFA fun z hz => List.mem_append_right _ hz) (RdS.mono' hOe2.rdS fun z hz => List.mem_append_left _ hz) (madeC_isB _) (fun z hz => hs.own z (by
                have hz2 := List.mem_append.1 hz
                simp [hz2])) (fun z hz => St.apartX (M := [_, _]) hs (mem_ids_of (by
                have hz2 := List.mem_append.1 hz
                simp [hz2]))) h) ?_
              clear hs; rintro u w L9 ⟨yv, Lrf, LQf, LN, rfl, rfl, hRF, hMd⟩ - hs
              have hInv := hD.propose hidk (madeE (x : Int)) (madeE_ok (x : Int)).2
              have hEl := propose_len (R id) (madeE (x : Int))
              generalize (R id).propose (madeE (x : Int)) = E at hRQ hMs hRF hMd hInv hEl ⊢
              obtain ⟨r', l, er⟩ := E
              simp only at hRQ hMs hRF hMd hInv hEl ⊢
              obtain ⟨mx, dx, LB, LPx, hfin⟩ := CkI.mk' (e := er) hD hT hall hlen hidk hp hq hRQ hRF (fun z hz => by simp [hz]) hInv (hps LQ) (hqs LQf) hMs hMd (by omega) (by
                simpa [cat] using St.reord [[_], [_], LQf, Lrf, LN, Xf, LQ, Lr, X, LRl, LMd, Le2, LP] [0, 1, 6, 8, 2, 5, 9, 10, 7, 3, 4, 11, 12] [] (by simpa [cat] using hs) rfl)
              refine D_en ?re ?_
              case re =>
                exact Reks_nil
              refine D_q rfl rfl ?_
              refine s_move rfl rfl ?_
              refine D_qn ?_
              refine D_q rfl rfl ?_
              refine s_extract rfl rfl rfl ?_
              refine D_qn ?_
              refine D_q rfl rfl ?_
              refine s_extract rfl rfl rfl ?_
              refine D_qn ?_
              refine D_q rfl rfl ?_
              refine s_assign rfl rfl ?_
              refine D_qn ?_
              refine D_q rfl rfl ?_
              refine s_assign rfl rfl ?_
              refine D_qn ?_
              refine D_nil ?_
              refine n_blk ?_
              refine n_loop ?_
              refine ⟨_, ?_, hfin⟩
              exact ⟨rfl, rfl, rfl, rfl, rfl, rfl, rfl, rfl, rfl, rfl, rfl, rfl, trivial⟩
            · skip
              try simp only [decide_eq_true_eq, decide_eq_false_iff_not, gt_iff_lt, ge_iff_le, beq_iff_eq, beq_eq_false_iff_ne, ne_eq, bne_iff_ne, bne_eq_false_iff_eq, Bool.not_eq_true', Bool.not_eq_false', Bool.not_eq_true, Bool.not_eq_false, Decidable.not_not] at hc181
              refine W_seq ?_
              refine W_seq ?_
              refine W_region ?_
              refine s_move rfl rfl ?_
              refine s_len rfl rfl (LN65 _ _ _ _) ?_
              refine s_eql rfl rfl rfl ?_
              refine s_move rfl rfl ?_
              refine WL_case (s := 68) rfl (fun hg68 => ?_) (fun hg68 => ?_)
              · skip
                try simp only [decide_eq_true_eq, decide_eq_false_iff_not, gt_iff_lt, ge_iff_le, beq_iff_eq, beq_eq_false_iff_ne, ne_eq, bne_iff_ne, bne_eq_false_iff_eq, Bool.not_eq_true', Bool.not_eq_false', Bool.not_eq_true, Bool.not_eq_false, Decidable.not_not] at hg68
                refine WL_skip rfl rfl rfl ?_
                refine WL_skip rfl rfl rfl ?_
                refine WL_skip rfl rfl rfl ?_
                refine s_pick_t rfl rfl rfl ?_
                refine WL_nil ?_
                refine n_then ?_
                refine W_cond_t rfl ?_
                refine W_exit ?_
                refine x_then ?_
                refine exit_miss rfl ?_
                refine x_then ?_
                refine exit_hit ?_
                refine n_then ?_
                refine W_region ?_
                refine s_move rfl rfl ?_
                first | (refine s_add' rfl rfl rfl ?hx ?_; case hx => (constructor <;> first | omega | (simp only; omega)))
                refine s_assign rfl rfl ?_
                refine WL_nil ?_
                refine n_loop ?_
                first
                  | (refine ⟨⟨i + 1, R, Ls, Fs, M, mm, ds, _, _, LRl, LMd, LP⟩, ⟨rfl, rfl, rfl, rfl, rfl, rfl, rfl, trivial⟩, ⟨⟨hs, hD, hT, hall, hlen⟩, by show i + 1 ≤ zs.length; omega, by show i + 1 ≤ 60; omega⟩, by show 60 - (i + 1) < 60 - i; omega⟩)
              · skip
                try simp only [decide_eq_true_eq, decide_eq_false_iff_not, gt_iff_lt, ge_iff_le, beq_iff_eq, beq_eq_false_iff_ne, ne_eq, bne_iff_ne, bne_eq_false_iff_eq, Bool.not_eq_true', Bool.not_eq_false', Bool.not_eq_true, Bool.not_eq_false, Decidable.not_not] at hg68
                refine WL_take rfl ?_
                refine s_move rfl rfl ?_
                refine WL_take rfl ?_
                refine s_len rfl rfl (LN29 _ _ _ _) ?_
                refine WL_take rfl ?_
                refine s_eql rfl rfl rfl ?_
                refine s_pick_f rfl rfl rfl ?_
                refine WL_nil ?_
                refine n_then ?_
                refine W_cond rfl (fun hc72 => ?_) (fun hc72 => ?_)
                · skip
                  try simp only [decide_eq_true_eq, decide_eq_false_iff_not, gt_iff_lt, ge_iff_le, beq_iff_eq, beq_eq_false_iff_ne, ne_eq, bne_iff_ne, bne_eq_false_iff_eq, Bool.not_eq_true', Bool.not_eq_false', Bool.not_eq_true, Bool.not_eq_false, Decidable.not_not] at hc72
                  refine W_exit ?_
                  refine x_then ?_
                  refine exit_miss rfl ?_
                  refine x_then ?_
                  refine exit_hit ?_
                  refine n_then ?_
                  refine W_region ?_
                  refine s_move rfl rfl ?_
                  first | (refine s_add' rfl rfl rfl ?hx ?_; case hx => (constructor <;> first | omega | (simp only; omega)))
                  refine s_assign rfl rfl ?_
                  refine WL_nil ?_
                  refine n_loop ?_
                  first
                    | (refine ⟨⟨i + 1, R, Ls, Fs, M, mm, ds, _, _, LRl, LMd, LP⟩, ⟨rfl, rfl, rfl, rfl, rfl, rfl, rfl, trivial⟩, ⟨⟨hs, hD, hT, hall, hlen⟩, by show i + 1 ≤ zs.length; omega, by show i + 1 ≤ 60; omega⟩, by show 60 - (i + 1) < 60 - i; omega⟩)
                · skip
                  try simp only [decide_eq_true_eq, decide_eq_false_iff_not, gt_iff_lt, ge_iff_le, beq_iff_eq, beq_eq_false_iff_ne, ne_eq, bne_iff_ne, bne_eq_false_iff_eq, Bool.not_eq_true', Bool.not_eq_false', Bool.not_eq_true, Bool.not_eq_false, Decidable.not_not] at hc72
                  have hdl : 0 < ds.length := by omega
                  refine W_skip ?_
                  refine n_then ?_
                  refine W_seq ?_
                  refine W_region ?_
                  refine s_move rfl rfl ?_
                  refine s_move rfl rfl ?_
                  refine s_len rfl rfl (LN65 _ _ _ _) ?_
                  (refine s_rem' rfl rfl rfl ?hx ?_; case hx => (refine ⟨?_, ?_⟩ <;> omega))
                  obtain ⟨j, hj, hjl⟩ : ∃ j : Nat, (x : Int) % (ds.length : Int) = (j : Int) ∧ j < ds.length := ⟨x % ds.length, by rw [Int.natCast_emod], Nat.mod_lt _ hdl⟩
                  rw [hj]
                  obtain ⟨d0, hdj⟩ : ∃ d, ds[j]? = some d := ⟨_, List.getElem?_eq_getElem hjl⟩
                  obtain ⟨y0, hyj⟩ : ∃ y, mm[j]? = some y := ⟨_, List.getElem?_eq_getElem (by omega)⟩
                  have hyd : y0.s = d0.s := by
                    have h1 := congrArg (fun l => l[j]?) hT.eq
                    simp only [List.getElem?_map, hdj, hyj, Option.map_some, Option.some.injEq] at h1
                    exact h1
                  obtain ⟨s0, dv0⟩ := d0
                  obtain ⟨s1, yv0⟩ := y0
                  simp only at hyd
                  subst hyd
                  have hMs0 : M s1 := hall s1 (by rw [hT.eq]; exact List.mem_map_of_mem (f := Dm.s) (List.mem_of_getElem? hdj))
                  obtain ⟨hto, hfr, hne, hok, hInv, hV, hW⟩ := hD.recv hMs0
                  have hyI := hT.hI _ (List.mem_of_getElem? hyj)
                  have hdI := hT.hI2 _ (List.mem_of_getElem? hdj)
                  simp only at hyI hdI
                  obtain ⟨da, dc, rfl⟩ := hdI.form w fun z hz => hs.own z (by simp [hz])
                  obtain ⟨_, yc0, ya0, rfl, hyl0⟩ := hyI.form w fun z hz => hs.own z (by simp [hz])
                  subst hyl0
                  obtain ⟨mb, mo, rfl, -⟩ := sl_at Dm.cells_length hdj (hT.hO2.rdS.sl w fun z hz => hs.own z (by simp [hz])) (by omega)
                  obtain ⟨rb, ro, rfl, -⟩ := sl_at Mm.cells_length hyj (hT.hO.rdS.sl w fun z hz => hs.own z (by simp [hz])) (by omega)
                  have hMc : ∀ w' : World, (∀ z ∈ LMd, w'.heap[z.1]? = some z.2) → ∀ (j' : Nat) (u : Value), j' < 7 → (Dm.cells ⟨s1, .slice da s1.m.log.length dc⟩)[j']? = some u → w'.cell? ⟨mb, mo + j * 7 + j', none⟩ = some u := fun w' hw' => by
                    obtain ⟨b', o', h1, h2⟩ := sl_at Dm.cells_length hdj (hT.hO2.rdS.sl w' hw') (by omega)
                    cases h1; exact h2
                  have hRc : ∀ w' : World, (∀ z ∈ LRl, w'.heap[z.1]? = some z.2) → ∀ (j' : Nat) (u : Value), j' < 3 → (Mm.cells ⟨s1, .slice ya0 (mesB s1.m).length yc0⟩)[j']? = some u → w'.cell? ⟨rb, ro + j * 3 + j', none⟩ = some u := fun w' hw' => by
                    obtain ⟨b', o', h1, h2⟩ := sl_at Mm.cells_length hyj (hT.hO.rdS.sl w' hw') (by omega)
                    cases h1; exact h2
                  have hrcap : mm.length ≤ rc := by
                    obtain ⟨_, _, h1, h2, _⟩ := hT.hO.rdS.sl w fun z hz => hs.own z (by simp [hz])
                    cases h1; exact h2
                  have hmcap : ds.length ≤ mc := by
                    obtain ⟨_, _, h1, h2, _⟩ := hT.hO2.rdS.sl w fun z hz => hs.own z (by simp [hz])
                    cases h1; exact h2
                  refine s_assign rfl rfl ?_
                  refine WL_nil ?_
                  refine n_then ?_
                  refine W_seq ?_
                  refine W_region ?_
                  refine s_move rfl rfl ?_
                  refine s_move rfl rfl ?_
                  (refine s_indexAddr El65 rfl rfl rfl ?hx ?_; case hx => (constructor <;> first | omega | (simp; omega)))
                  refine s_load_7 Try.isAgg71 Try.sizeOf71 rfl rfl (hMc w (fun z hz => hs.own z (by simp [hz])) 0 _ (by omega) rfl) (hMc w (fun z hz => hs.own z (by simp [hz])) 1 _ (by omega) rfl) (hMc w (fun z hz => hs.own z (by simp [hz])) 2 _ (by omega) rfl) (hMc w (fun z hz => hs.own z (by simp [hz])) 3 _ (by omega) rfl) (hMc w (fun z hz => hs.own z (by simp [hz])) 4 _ (by omega) rfl) (hMc w (fun z hz => hs.own z (by simp [hz])) 5 _ (by omega) rfl) (hMc w (fun z hz => hs.own z (by simp [hz])) 6 _ (by omega) rfl) ?_
                  refine s_alloc rfl AL71 hs ?_; clear hs; intro b20 w hs
                  first
                    | refine s_storeW Try.sizeOf71 rfl rfl rfl rfl hs (kk := 0) rfl rfl ?_
                  clear hs; intro w hs; try simp only [List.set_cons_zero, List.set_cons_succ, splice, List.take_succ_cons, List.take_zero, List.drop_succ_cons, List.drop_zero, List.nil_append, List.cons_append, List.length_cons, List.length_nil, Nat.reduceAdd, List.append_assoc] at hs
                  refine WL_nil ?_
                  refine n_then ?_
                  refine W_seq ?_
                  refine W_region ?_
                  refine s_fieldAddr rfl rfl (FA71_2 _ _) ?_
                  first
                    | refine s_load Try.isAgg3 rfl rfl (hs.cell (k := 0) rfl rfl) ?_
                  refine s_assign rfl rfl ?_
                  refine WL_nil ?_
                  refine n_then ?_
                  refine W_seq ?_
                  refine W_seq ?_
                  refine W_draw [(0, true, []), (1, true, []), (2, true, []), (3, true, []), (4, true, []), (5, true, []), (6, true, []), (7, true, []), (8, true, []), (9, true, []), (10, true, []), (11, true, []), (12, true, []), (13, true, []), (14, true, []), (15, true, []), (16, true, []), (17, true, []), (18, true, []), (19, true, []), (20, true, []), (21, true, []), (22, true, []), (23, true, [])] [[], [], [1], [0, 1, 2], [0, 1, 2, 3], [0, 1, 2, 3, 4], [0, 1, 2, 3, 4], [0, 1, 2, 3, 4, 5, 6], [0, 1, 2, 3, 4, 5, 6, 7], [0, 1, 2, 3, 4, 5, 6, 7, 8], [0, 1, 2, 3, 4], [0, 1, 2, 3, 4, 10], [0, 1, 2, 3, 4, 5, 6, 7, 8, 9, 10, 11], [0, 1, 2, 3, 4, 5, 6, 7, 8, 9, 10, 11, 12], [0, 1, 2, 3, 4, 5, 6, 7, 8, 9, 10, 11, 12, 13], [0, 1, 2, 3, 4, 5, 6, 7, 8, 9, 10, 11, 12, 13, 14], [0, 1, 2, 3, 4, 5, 6, 7, 8, 9, 10, 11, 12, 13, 14], [0, 1, 2, 3, 4, 5, 6, 7, 8, 9, 10, 11, 12, 13, 14, 15, 16], [0, 1, 2, 3, 4, 5, 6, 7, 8, 9, 10, 11, 12, 13, 14, 15, 16, 17], [0, 1, 2, 3, 4, 5, 6, 7, 8, 9, 10, 11, 12, 13, 14, 15, 16, 17, 18], [0, 1, 2, 3, 4, 5, 6, 7, 8, 9, 10, 11, 12, 13, 14], [0, 1, 2, 3, 4, 5, 6, 7, 8, 9, 10, 11, 12, 13, 14, 20], [0, 1, 2, 3, 4, 5, 6, 7, 8, 9, 10, 11, 12, 13, 14, 15, 16, 17, 18, 19, 20, 21], [0, 1, 2, 3, 4, 5, 6, 7, 8, 9, 10, 11, 12, 13, 14, 15, 16, 17, 18, 19, 20, 21, 22]] MX (by kernel_rfl) ?_
                  intro w1 hw1 hw2 hw3 hw4; replace hs := hs.redrawn hw1 hw2 hw3 hw4; clear hw1 hw2 hw3 hw4
                  obtain ⟨w, rfl⟩ : ∃ w : World, w = w1 := ⟨_, rfl⟩
                  refine D_q rfl rfl ?_
                  refine s_move rfl rfl ?_
                  refine D_qn ?_
                  refine D_q rfl rfl ?_
                  refine s_move rfl rfl ?_
                  refine D_qn ?_
                  refine D_q rfl rfl ?_
                  refine s_len rfl rfl (LN29 _ _ _ _) ?_
                  refine D_qn ?_
                  refine D_q rfl rfl ?_
                  refine s_geq rfl rfl rfl ?_
                  refine D_qn ?_
                  refine D_q rfl rfl ?_
                  refine s_move rfl rfl ?_
                  refine WL_know (s := 87) (c := false) rfl ((by simp; omega)) ?_
                  refine D_qn ?_
                  refine D_q rfl rfl ?_
                  refine WL_take rfl ?_
                  refine s_move rfl rfl ?_
                  refine D_qn ?_
                  refine D_q rfl rfl ?_
                  refine WL_take rfl ?_
                  refine s_move rfl rfl ?_
                  refine D_qn ?_
                  refine D_q rfl rfl ?_
                  refine WL_take rfl ?_
                  (refine s_indexAddr El29 rfl rfl rfl ?hx ?_; case hx => (constructor <;> first | omega | (simp; omega)))
                  refine D_qn ?_
                  refine D_q rfl rfl ?_
                  refine WL_take rfl ?_
                  refine s_fieldAddr rfl rfl (FA56_1 _ _) ?_
                  refine D_qn ?_
                  refine D_q rfl rfl ?_
                  refine WL_take rfl ?_
                  refine s_load Try.isAgg3 rfl rfl (hRc w (fun z hz => hs.own z (by simp [hz])) 1 _ (by omega) rfl) ?_
                  refine D_qn ?_
                  refine D_q rfl rfl ?_
                  refine WL_take rfl ?_
                  refine s_fieldAddr rfl rfl (FA71_2 _ _) ?_
                  refine D_qn ?_
                  refine D_q rfl rfl ?_
                  refine WL_take rfl ?_
                  first
                    | refine s_load Try.isAgg3 rfl rfl (hs.cell (k := 0) rfl rfl) ?_
                  refine D_qn ?_
                  refine D_q rfl rfl ?_
                  refine WL_take rfl ?_
                  refine s_neq rfl rfl rfl ?_
                  refine D_qn ?_
                  refine D_q rfl rfl ?_
                  refine s_pick_f rfl rfl rfl ?_
                  refine D_qn ?_
                  refine D_q rfl rfl ?_
                  refine s_move rfl rfl ?_
                  refine WL_know (s := 97) (c := false) rfl ((by simp)) ?_
                  refine D_qn ?_
                  refine D_q rfl rfl ?_
                  refine WL_take rfl ?_
                  refine s_move rfl rfl ?_
                  refine D_qn ?_
                  refine D_q rfl rfl ?_
                  refine WL_take rfl ?_
                  refine s_move rfl rfl ?_
                  refine D_qn ?_
                  refine D_q rfl rfl ?_
                  refine WL_take rfl ?_
                  (refine s_indexAddr El29 rfl rfl rfl ?hx ?_; case hx => (constructor <;> first | omega | (simp; omega)))
                  refine D_qn ?_
                  refine D_q rfl rfl ?_
                  refine WL_take rfl ?_
                  refine s_fieldAddr rfl rfl (FA56_0 _ _) ?_
                  refine D_qn ?_
                  refine D_q rfl rfl ?_
                  refine WL_take rfl ?_
                  refine s_load Try.isAgg3 rfl rfl (hRc w (fun z hz => hs.own z (by simp [hz])) 0 _ (by omega) rfl) ?_
                  refine D_qn ?_
                  refine D_q rfl rfl ?_
                  refine WL_take rfl ?_
                  refine s_fieldAddr rfl rfl (FA71_1 _ _) ?_
                  refine D_qn ?_
                  refine D_q rfl rfl ?_
                  refine WL_take rfl ?_
                  first
                    | refine s_load Try.isAgg3 rfl rfl (hs.cell (k := 0) rfl rfl) ?_
                  refine D_qn ?_
                  refine D_q rfl rfl ?_
                  refine WL_take rfl ?_
                  refine s_neq rfl rfl rfl ?_
                  refine D_qn ?_
                  refine D_q rfl rfl ?_
                  refine s_pick_f rfl rfl rfl ?_
                  refine D_qn ?_
                  refine D_nil ?_
                  refine n_then ?_
                  refine W_cond_kf rfl ((by simp)) ?_
                  refine W_skip ?_
                  refine n_then ?_
                  refine W_cut (σ := CkS) (fun s => [(1, .slice (some ⟨b1, o1, none⟩) zs.length vc), (5, .int .i64 (k : Int)), (6, .slice (some ⟨g, 0, none⟩) k cap), (7, .slice (some ⟨h, 0, none⟩) k cap2), (9, .slice (some ⟨rb, ro, none⟩) mm.length rc), (10, .slice (some ⟨mb, mo, none⟩) ds.length mc), (11, .int .i64 (i : Int)), (12, .int .i64 (x : Int)), (13, .int .i64 (s.id : Int)), (14, s.xv), (15, s.yv), (16, .int .i64 0), (17, .int .i64 0), (19, .int .i64 (j : Int))])
                    (fun s w => CkI k ps qs (g, Blk 25 (ptrs ps ++ sp)) (h, Blk 63 (ptrs qs ++ sp2)) w0 s w ∧ mm = s.mm ∧ ds = s.ds ∧ Value.slice (some ⟨rb, ro, none⟩) mm.length rc = s.rv ∧ Value.slice (some ⟨mb, mo, none⟩) ds.length mc = s.mv ∧ 0 = s.e) ?_ ?_
                  · skip
                    refine W_seq ?_
                    refine W_region ?_
                    refine s_move rfl rfl ?_
                    first | (refine s_rem' rfl rfl rfl ?hx ?_; case hx => (refine ⟨?_, ?_⟩ <;> omega))
                    refine s_gtr rfl rfl rfl ?_
                    refine WL_nil ?_
                    refine n_then ?_
                    refine W_cond rfl (fun hc109 => ?_) (fun hc109 => ?_)
                    · skip
                      try simp only [decide_eq_true_eq, decide_eq_false_iff_not, gt_iff_lt, ge_iff_le, beq_iff_eq, beq_eq_false_iff_ne, ne_eq, bne_iff_ne, bne_eq_false_iff_eq, Bool.not_eq_true', Bool.not_eq_false', Bool.not_eq_true, Bool.not_eq_false, Decidable.not_not] at hc109
                      obtain ⟨p, L, X, q, Lf, Xf, hp, hRA, hpm, hps, hq, hFA, hpf, hqs, hRid, hRm, hown⟩ := hD.rep hto
                      refine W_seq ?_
                      refine W_draw [(0, true, []), (1, true, []), (2, true, []), (3, true, []), (4, true, []), (5, true, []), (6, true, []), (7, true, []), (8, false, []), (9, true, [])] [[], [], [0, 1], [0, 1, 2], [], [], [4, 5], [4, 5, 6], [0, 1, 2, 3, 4, 5, 6, 7], [0, 1, 2, 3, 4, 5, 6, 7, 8]] MX (by kernel_rfl) ?_
                      intro w1 hw1 hw2 hw3 hw4; replace hs := hs.redrawn hw1 hw2 hw3 hw4; clear hw1 hw2 hw3 hw4
                      obtain ⟨w, rfl⟩ : ∃ w : World, w = w1 := ⟨_, rfl⟩
                      refine D_q rfl rfl ?_
                      refine s_move rfl rfl ?_
                      refine D_qn ?_
                      refine D_q rfl rfl ?_
                      refine s_move rfl rfl ?_
                      refine D_qn ?_
                      refine D_q rfl rfl ?_
                      (refine s_indexAddr1 El60 rfl rfl rfl ?hx ?_; case hx => (constructor <;> first | omega | (simp; omega)))
                      refine D_qn ?_
                      refine D_q rfl rfl ?_
                      refine s_load Try.isAgg25 rfl rfl (hs.cell (k := 1) rfl (ptrs_at _ _ hp)) ?_
                      refine D_qn ?_
                      refine D_q rfl rfl ?_
                      refine s_move rfl rfl ?_
                      refine D_qn ?_
                      refine D_q rfl rfl ?_
                      refine s_move rfl rfl ?_
                      refine D_qn ?_
                      refine D_q rfl rfl ?_
                      (refine s_indexAddr El29 rfl rfl rfl ?hx ?_; case hx => (constructor <;> first | omega | (simp; omega)))
                      refine D_qn ?_
                      refine D_q rfl rfl ?_
                      refine s_load_3 Try.isAgg56 Try.sizeOf56 rfl rfl (hRc w (fun z hz => hs.own z (by simp [hz])) 0 _ (by omega) rfl) (hRc w (fun z hz => hs.own z (by simp [hz])) 1 _ (by omega) rfl) (hRc w (fun z hz => hs.own z (by simp [hz])) 2 _ (by omega) rfl) ?_
                      refine D_qn ?_
                      refine D_e rfl ?_
                      replace hs : St [] w0 w ((b20, Blk 71 (Dm.cells ⟨s1, .slice da s1.m.log.length dc⟩)) :: (g, Blk 25 (ptrs ps ++ sp)) :: (h, Blk 63 (ptrs qs ++ sp2)) :: (L ++ (X ++ (Fs.flatten ++ (LRl ++ (LMd ++ LP)))))) := hs.perm ((((perm_r hpm _).cons _).cons _).cons _)
                      refine s_callL (M := [_, _, _]) (L1 := L) (X := X ++ (Fs.flatten ++ (LRl ++ (LMd ++ LP)))) Try.call24 rfl rfl hs (fun h => by
                        have h8 := receive_ok p (R s1.to) L s1.m s1.frm (.slice ya0 (mesB s1.m).length yc0) w hRA (hyI.sl w fun z hz => hs.own z (by simp [hz])) (fun a m c he hne => St.apartX (M := [_, _, _]) hs (by simp only [ids_append, List.mem_append]; simp [hyI.inL a m c he hne])) hok (by omega) (by omega) h
                        rw [hRid] at h8; exact h8) ?_
                      clear hs; rintro xv w L9 ⟨Lr, LQ, rfl, hRQ, hMs⟩ - hs
                      refine D_en ?re ?_
                      case re =>
                        exact Reks_nil
                      refine D_q rfl rfl ?_
                      refine s_assign rfl rfl ?_
                      refine D_qn ?_
                      refine D_nil ?_
                      refine n_then ?_
                      refine W_draw [(0, true, []), (1, true, []), (2, true, []), (3, true, []), (4, true, []), (5, false, []), (6, true, [])] [[], [], [0, 1], [0, 1, 2], [], [0, 1, 2, 3, 4], [0, 1, 2, 3, 4, 5]] MX (by kernel_rfl) ?_
                      intro w1 hw1 hw2 hw3 hw4; replace hs := hs.redrawn hw1 hw2 hw3 hw4; clear hw1 hw2 hw3 hw4
                      obtain ⟨w, rfl⟩ : ∃ w : World, w = w1 := ⟨_, rfl⟩
                      refine D_q rfl rfl ?_
                      refine s_move rfl rfl ?_
                      refine D_qn ?_
                      refine D_q rfl rfl ?_
                      refine s_move rfl rfl ?_
                      refine D_qn ?_
                      refine D_q rfl rfl ?_
                      (refine s_indexAddr1 El62 rfl rfl rfl ?hx ?_; case hx => (constructor <;> first | omega | (simp; omega)))
                      refine D_qn ?_
                      refine D_q rfl rfl ?_
                      refine s_load Try.isAgg63 rfl rfl (hs.cell (k := 2) rfl (ptrs_at _ _ hq)) ?_
                      refine D_qn ?_
                      refine D_q rfl rfl ?_
                      first
                        | refine s_loadW Try.isAgg71 Try.sizeOf71 rfl rfl hs (kk := 0) rfl rfl ?_
                      refine D_qn ?_
                      refine D_e rfl ?_
                      replace hs : St [] w0 w ((g, Blk 25 (ptrs ps ++ sp)) :: (h, Blk 63 (ptrs qs ++ sp2)) :: (Lf ++ (Xf ++ (LQ ++ (Lr ++ (X ++ (LRl ++ (LMd ++ LP)))))))) := by
                        have h9 := St.reord [[_], [_], [_], LQ, Lr, X, Fs.flatten, LRl, LMd, LP] [1, 2, 6, 3, 4, 5, 7, 8, 9] [0] (by simpa [cat] using hs) rfl
                        exact St_pick2 (by simpa [cat] using h9) hpf
                      refine s_callL (M := [_, _]) (L1 := Lf) (X := Xf ++ (LQ ++ (Lr ++ (X ++ (LRl ++ (LMd ++ LP)))))) Try.call30 rfl rfl hs (fun h => frecv_ok q (R s1.to) Lf LP s1 (.slice da s1.m.log.length dc) w hFA hdI hok (by omega) (by omega) hV hW (fun z hz => hs.own z (by simp [hz])) (fun z hz => St.apartX (M := [_, _]) hs (mem_ids_of (by simp [hz]))) h) ?_
                      clear hs; rintro yv w L9 ⟨Lrf, LQf, rfl, hRF, hMd⟩ - hs
                      have hEl := recv_len (R s1.to) s1.m s1.frm
                      generalize (R s1.to).recv s1.m s1.frm = E at hRQ hMs hRF hMd hInv hEl ⊢
                      obtain ⟨r', l⟩ := E
                      simp only at hRQ hMs hRF hMd hInv hEl ⊢
                      obtain ⟨mx, dx, LB, LPx, hfin⟩ := CkI.mk' (e := 0) hD hT hall hlen hto hp hq hRQ hRF (fun _ h => h) hInv (hps LQ) (hqs LQf) hMs hMd (by omega) (by
                        simpa [cat] using St.reord [[_], [_], LQf, Lrf, Xf, LQ, Lr, X, LRl, LMd, LP] [0, 1, 5, 7, 2, 4, 8, 9, 6, 3, 10] [] (by simpa [cat] using hs) rfl)
                      refine D_en ?re ?_
                      case re =>
                        exact Reks_nil
                      refine D_q rfl rfl ?_
                      refine s_assign rfl rfl ?_
                      refine D_qn ?_
                      refine D_nil ?_
                      refine n_loop ?_
                      refine ⟨_, ?_, hfin, rfl, rfl, rfl, rfl, rfl⟩
                      exact ⟨rfl, rfl, rfl, rfl, rfl, rfl, rfl, rfl, rfl, rfl, rfl, rfl, rfl, rfl, trivial⟩
                    · skip
                      try simp only [decide_eq_true_eq, decide_eq_false_iff_not, gt_iff_lt, ge_iff_le, beq_iff_eq, beq_eq_false_iff_ne, ne_eq, bne_iff_ne, bne_eq_false_iff_eq, Bool.not_eq_true', Bool.not_eq_false', Bool.not_eq_true, Bool.not_eq_false, Decidable.not_not] at hc109
                      have hfin : CkI k ps qs (g, Blk 25 (ptrs ps ++ sp)) (h, Blk 63 (ptrs qs ++ sp2)) w0 ⟨s1.to, R, Ls, Fs, M, mm, ds, .slice (some ⟨rb, ro, none⟩) mm.length rc, .slice (some ⟨mb, mo, none⟩) ds.length mc, LRl, LMd, [], [], .slice none 0 0, .slice none 0 0, [], [], 0, LP⟩ w :=
                        ⟨hs.tail, hD, hT, rfl, OwnS.nil _ _, nofun, OwnS.nil _ _, nofun, hall, nofun, by simp, hlen, hto⟩
                      refine W_skip ?_
                      refine n_loop ?_
                      refine ⟨_, ?_, hfin, rfl, rfl, rfl, rfl, rfl⟩
                      exact ⟨rfl, rfl, rfl, rfl, rfl, rfl, rfl, rfl, rfl, rfl, rfl, rfl, rfl, rfl, trivial⟩
                  · skip
                    clear hs hMc hRc hT hD hall hlen hInv hV hW hyI hdI
                    rintro ⟨id, R, Ls, Fs, M, mm1, ds1, rv1, mv1, LRl, LMd, mx, dx, xv, yv, LX, LY, e1, LP⟩ w ⟨hfin, h1, h2, h3, h4, h5⟩
                    simp only at h1 h2 h3 h4 h5
                    subst h1 h2 h3 h4 h5
                    simp only at hfin ⊢
                    have hs := hfin.st
                    simp only at hs
                    have hT := hfin.two
                    simp only at hT
                    have hlen := hfin.len
                    simp only at hlen
                    refine W_seq ?_
                    refine W_region ?_
                    refine s_move rfl rfl ?_
                    first | (refine s_rem' rfl rfl rfl ?hx ?_; case hx => (refine ⟨?_, ?_⟩ <;> omega))
                    refine s_gtr rfl rfl rfl ?_
                    refine WL_nil ?_
                    refine n_then ?_
                    refine W_cond rfl (fun hc127 => ?_) (fun hc127 => ?_)
                    · skip
                      try simp only [decide_eq_true_eq, decide_eq_false_iff_not, gt_iff_lt, ge_iff_le, beq_iff_eq, beq_eq_false_iff_ne, ne_eq, bne_iff_ne, bne_eq_false_iff_eq, Bool.not_eq_true', Bool.not_eq_false', Bool.not_eq_true, Bool.not_eq_false, Decidable.not_not] at hc127
                      refine W_seq ?_
                      refine W_draw [(1, true, []), (2, true, []), (3, true, []), (5, true, []), (6, true, []), (7, true, []), (8, true, []), (0, false, [1, 2, 3, 5, 6, 7, 8]), (4, false, [5, 6, 7, 8]), (9, false, []), (10, true, [])] [[], [], [], [1, 2], [0, 1, 2, 3], [], [], [6], [5, 6, 7], [0, 1, 2, 3, 4, 5, 6, 7, 8], [0, 1, 2, 3, 4, 5, 6, 7, 8, 9]] MX (by kernel_rfl) ?_
                      intro w1 hw1 hw2 hw3 hw4; replace hs := hs.redrawn hw1 hw2 hw3 hw4; clear hw1 hw2 hw3 hw4
                      obtain ⟨w, rfl⟩ : ∃ w : World, w = w1 := ⟨_, rfl⟩
                      refine D_q rfl rfl ?_
                      refine s_move rfl rfl ?_
                      refine D_qn ?_
                      refine D_q rfl rfl ?_
                      refine s_move rfl rfl ?_
                      refine D_qn ?_
                      refine D_q rfl rfl ?_
                      (refine s_slice_hi El29 rfl rfl rfl ?hx ?_; case hx => (constructor <;> omega))
                      refine D_qn ?_
                      refine D_q rfl rfl ?_
                      refine s_move rfl rfl ?_
                      refine D_qn ?_
                      refine D_q rfl rfl ?_
                      refine s_move rfl rfl ?_
                      refine D_qn ?_
                      refine D_q rfl rfl ?_
                      first | (refine s_add' rfl rfl rfl ?hx ?_; case hx => (constructor <;> first | omega | (simp only; omega)))
                      refine D_qn ?_
                      refine D_q rfl rfl ?_
                      (refine s_slice_lo El29 rfl rfl rfl ?hx ?_; case hx => (constructor <;> omega))
                      rw [show ((j : Int) + 1).toNat = j + 1 from by omega]
                      refine D_qn ?_
                      refine D_e rfl ?_
                      refine s_buildSlice rfl rfl (BS29_0 ) hs ?_; clear hs; intro b128 w hs
                      refine D_en ?re ?_
                      case re =>
                        refine Reks_cons rfl rfl rfl rfl ?_ ?_
                        · skip
                          refine s_move rfl rfl ?_
                          exact Rek_end rfl
                        refine Reks_cons rfl rfl rfl rfl ?_ ?_
                        · skip
                          refine s_move rfl rfl ?_
                          exact Rek_end rfl
                        refine Reks_cons rfl rfl rfl rfl ?_ ?_
                        · skip
                          (refine s_slice_hi El29 rfl rfl rfl ?hx ?_; case hx => (constructor <;> omega))
                          exact Rek_end rfl
                        refine Reks_cons rfl rfl rfl rfl ?_ ?_
                        · skip
                          refine s_move rfl rfl ?_
                          exact Rek_end rfl
                        refine Reks_cons rfl rfl rfl rfl ?_ ?_
                        · skip
                          refine s_move rfl rfl ?_
                          exact Rek_end rfl
                        refine Reks_cons rfl rfl rfl rfl ?_ ?_
                        · skip
                          first | (refine s_add' rfl rfl rfl ?hx ?_; case hx => (constructor <;> first | omega | (simp only; omega)))
                          exact Rek_end rfl
                        refine Reks_cons rfl rfl rfl rfl ?_ ?_
                        · skip
                          (refine s_slice_lo El29 rfl rfl rfl ?hx ?_; case hx => (constructor <;> omega))
                          rw [show ((j : Int) + 1).toNat = j + 1 from by omega]
                          exact Rek_end rfl
                        exact Reks_nil
                      refine D_e rfl ?_
                      have htk1 : Sl w (.slice (some ⟨rb, ro, none⟩) j rc) (mm.take j).length (mmcells (mm.take j)) := by
                        have h1 := (hT.hO.rdS.sl w fun z hz => hs.own z (by simp [hz])).take (k := j) (size := 3) (by omega) rfl
                        rw [mmcells, flat_take Mm.cells_length mm j] at h1
                        rw [List.length_take, Nat.min_eq_left (by omega)]; exact h1
                      refine s_appendM (M := [_]) El29 rfl rfl rfl (OwnS.bare _ _ _) hs htk1 (mmcells_length _) (MmsIn.one (fun y hy => hT.hI y (List.mem_of_mem_take hy)) w fun z hz => hs.own z (by simp [hz])) (by rw [List.length_take]; omega) ?_
                      clear hs htk1; intro v1 w LB1 hO1 hs
                      rw [List.nil_append, Nat.zero_add] at hO1
                      refine D_en ?re ?_
                      case re =>
                        refine Reks_cons rfl rfl rfl rfl ?_ ?_
                        · skip
                          refine s_move rfl rfl ?_
                          exact Rek_end rfl
                        refine Reks_cons rfl rfl rfl rfl ?_ ?_
                        · skip
                          refine s_move rfl rfl ?_
                          exact Rek_end rfl
                        refine Reks_cons rfl rfl rfl rfl ?_ ?_
                        · skip
                          first | (refine s_add' rfl rfl rfl ?hx ?_; case hx => (constructor <;> first | omega | (simp only; omega)))
                          exact Rek_end rfl
                        refine Reks_cons rfl rfl rfl rfl ?_ ?_
                        · skip
                          (refine s_slice_lo El29 rfl rfl rfl ?hx ?_; case hx => (constructor <;> omega))
                          rw [show ((j : Int) + 1).toNat = j + 1 from by omega]
                          exact Rek_end rfl
                        exact Reks_nil
                      refine D_e rfl ?_
                      have hdr1 : Sl w (.slice (some ⟨rb, (if rc = j + 1 then ro else ro + (j + 1) * 3), none⟩) (mm.length - (j + 1)) (rc - (j + 1))) (mm.drop (j + 1)).length (mmcells (mm.drop (j + 1))) := by
                        have h1 := (hT.hO.rdS.sl w fun z hz => hs.own z (by simp [hz])).drop (k := j + 1) (size := 3) (mmcells_length mm) (by omega)
                        rw [mmcells, flat_drop Mm.cells_length mm (j + 1)] at h1
                        rw [List.length_drop]; exact h1
                      refine s_appendM (M := [_]) El29 rfl rfl rfl hO1 hs hdr1 (mmcells_length _) (MmsIn.one (fun y hy => hT.hI y (List.mem_of_mem_drop hy)) w fun z hz => hs.own z (by simp [hz])) (by rw [List.length_take, List.length_drop]; omega) ?_
                      clear hs hdr1 hO1; intro v2 w LB2 hO2 hs
                      rw [← mmcells_append, ← List.length_append] at hO2
                      refine D_en ?re ?_
                      case re =>
                        exact Reks_nil
                      refine D_q rfl rfl ?_
                      refine s_assign rfl rfl ?_
                      refine D_qn ?_
                      refine D_nil ?_
                      refine n_then ?_
                      refine W_draw [(1, true, []), (2, true, []), (3, true, []), (5, true, []), (6, true, []), (7, true, []), (8, true, []), (0, false, [1, 2, 3, 5, 6, 7, 8]), (4, false, [5, 6, 7, 8]), (9, false, []), (10, true, [])] [[], [], [], [1, 2], [0, 1, 2, 3], [], [], [6], [5, 6, 7], [0, 1, 2, 3, 4, 5, 6, 7, 8], [0, 1, 2, 3, 4, 5, 6, 7, 8, 9]] MX (by kernel_rfl) ?_
                      intro w1 hw1 hw2 hw3 hw4; replace hs := hs.redrawn hw1 hw2 hw3 hw4; clear hw1 hw2 hw3 hw4
                      obtain ⟨w, rfl⟩ : ∃ w : World, w = w1 := ⟨_, rfl⟩
                      refine D_q rfl rfl ?_
                      refine s_move rfl rfl ?_
                      refine D_qn ?_
                      refine D_q rfl rfl ?_
                      refine s_move rfl rfl ?_
                      refine D_qn ?_
                      refine D_q rfl rfl ?_
                      (refine s_slice_hi El65 rfl rfl rfl ?hx ?_; case hx => (constructor <;> omega))
                      refine D_qn ?_
                      refine D_q rfl rfl ?_
                      refine s_move rfl rfl ?_
                      refine D_qn ?_
                      refine D_q rfl rfl ?_
                      refine s_move rfl rfl ?_
                      refine D_qn ?_
                      refine D_q rfl rfl ?_
                      first | (refine s_add' rfl rfl rfl ?hx ?_; case hx => (constructor <;> first | omega | (simp only; omega)))
                      refine D_qn ?_
                      refine D_q rfl rfl ?_
                      (refine s_slice_lo El65 rfl rfl rfl ?hx ?_; case hx => (constructor <;> omega))
                      rw [show ((j : Int) + 1).toNat = j + 1 from by omega]
                      refine D_qn ?_
                      refine D_e rfl ?_
                      refine s_buildSlice rfl rfl (BS65_0 ) hs ?_; clear hs; intro b138 w hs
                      refine D_en ?re ?_
                      case re =>
                        refine Reks_cons rfl rfl rfl rfl ?_ ?_
                        · skip
                          refine s_move rfl rfl ?_
                          exact Rek_end rfl
                        refine Reks_cons rfl rfl rfl rfl ?_ ?_
                        · skip
                          refine s_move rfl rfl ?_
                          exact Rek_end rfl
                        refine Reks_cons rfl rfl rfl rfl ?_ ?_
                        · skip
                          (refine s_slice_hi El65 rfl rfl rfl ?hx ?_; case hx => (constructor <;> omega))
                          exact Rek_end rfl
                        refine Reks_cons rfl rfl rfl rfl ?_ ?_
                        · skip
                          refine s_move rfl rfl ?_
                          exact Rek_end rfl
                        refine Reks_cons rfl rfl rfl rfl ?_ ?_
                        · skip
                          refine s_move rfl rfl ?_
                          exact Rek_end rfl
                        refine Reks_cons rfl rfl rfl rfl ?_ ?_
                        · skip
                          first | (refine s_add' rfl rfl rfl ?hx ?_; case hx => (constructor <;> first | omega | (simp only; omega)))
                          exact Rek_end rfl
                        refine Reks_cons rfl rfl rfl rfl ?_ ?_
                        · skip
                          (refine s_slice_lo El65 rfl rfl rfl ?hx ?_; case hx => (constructor <;> omega))
                          rw [show ((j : Int) + 1).toNat = j + 1 from by omega]
                          exact Rek_end rfl
                        exact Reks_nil
                      refine D_e rfl ?_
                      have htk1 : Sl w (.slice (some ⟨mb, mo, none⟩) j mc) (ds.take j).length (dcells (ds.take j)) := by
                        have h1 := (hT.hO2.rdS.sl w fun z hz => hs.own z (by simp [hz])).take (k := j) (size := 7) (by omega) rfl
                        rw [dcells, flat_take Dm.cells_length ds j] at h1
                        rw [List.length_take, Nat.min_eq_left (by omega)]; exact h1
                      refine s_appendM (M := [_]) El65 rfl rfl rfl (OwnS.bare _ _ _) hs htk1 (dcells_length _) (DmsIn.one (fun y hy => hT.hI2 y (List.mem_of_mem_take hy)) w fun z hz => hs.own z (by simp [hz])) (by rw [List.length_take]; omega) ?_
                      clear hs htk1; intro v3 w LC1 hO3 hs
                      rw [List.nil_append, Nat.zero_add] at hO3
                      refine D_en ?re ?_
                      case re =>
                        refine Reks_cons rfl rfl rfl rfl ?_ ?_
                        · skip
                          refine s_move rfl rfl ?_
                          exact Rek_end rfl
                        refine Reks_cons rfl rfl rfl rfl ?_ ?_
                        · skip
                          refine s_move rfl rfl ?_
                          exact Rek_end rfl
                        refine Reks_cons rfl rfl rfl rfl ?_ ?_
                        · skip
                          first | (refine s_add' rfl rfl rfl ?hx ?_; case hx => (constructor <;> first | omega | (simp only; omega)))
                          exact Rek_end rfl
                        refine Reks_cons rfl rfl rfl rfl ?_ ?_
                        · skip
                          (refine s_slice_lo El65 rfl rfl rfl ?hx ?_; case hx => (constructor <;> omega))
                          rw [show ((j : Int) + 1).toNat = j + 1 from by omega]
                          exact Rek_end rfl
                        exact Reks_nil
                      refine D_e rfl ?_
                      have hdr1 : Sl w (.slice (some ⟨mb, (if mc = j + 1 then mo else mo + (j + 1) * 7), none⟩) (ds.length - (j + 1)) (mc - (j + 1))) (ds.drop (j + 1)).length (dcells (ds.drop (j + 1))) := by
                        have h1 := (hT.hO2.rdS.sl w fun z hz => hs.own z (by simp [hz])).drop (k := j + 1) (size := 7) (dcells_length ds) (by omega)
                        rw [dcells, flat_drop Dm.cells_length ds (j + 1)] at h1
                        rw [List.length_drop]; exact h1
                      refine s_appendM (M := [_]) El65 rfl rfl rfl hO3 hs hdr1 (dcells_length _) (DmsIn.one (fun y hy => hT.hI2 y (List.mem_of_mem_drop hy)) w fun z hz => hs.own z (by simp [hz])) (by rw [List.length_take, List.length_drop]; omega) ?_
                      clear hs hdr1 hO3; intro v4 w LC2 hO4 hs
                      rw [← dcells_append, ← List.length_append] at hO4
                      have hsub : ∀ y ∈ mm.take j ++ mm.drop (j + 1), y ∈ mm := fun y hy => by
                        rcases List.mem_append.1 hy with hy | hy
                        · exact List.mem_of_mem_take hy
                        · exact List.mem_of_mem_drop hy
                      have hsub2 : ∀ y ∈ ds.take j ++ ds.drop (j + 1), y ∈ ds := fun y hy => by
                        rcases List.mem_append.1 hy with hy | hy
                        · exact List.mem_of_mem_take hy
                        · exact List.mem_of_mem_drop hy
                      replace hfin : CkI k ps qs (g, Blk 25 (ptrs ps ++ sp)) (h, Blk 63 (ptrs qs ++ sp2)) w0 ⟨id, R, Ls, Fs, M, mm.take j ++ mm.drop (j + 1), ds.take j ++ ds.drop (j + 1), v2, v4, LB2, LC2, mx, dx, xv, yv, LX, LY, 0, LP⟩ w :=
                        ⟨by simpa [cat] using St.reord [[_], LC2, [_], LB2, [_], [_], Ls.flatten, Fs.flatten, LRl, LMd, LX, LY, LP] [4, 5, 6, 7, 3, 1, 10, 11, 12] [0, 2, 8, 9] (by simpa [cat] using hs) rfl, hfin.duo, ⟨erase_s hT.eq j, hO2.toF, fun y hy => hT.hI y (hsub y hy), hO4.toF, fun y hy => hT.hI2 y (hsub2 y hy)⟩, hfin.out, hfin.ox, hfin.ix, hfin.oy, hfin.iy,
                          fun y hy => by obtain ⟨a, ha, rfl⟩ := List.mem_map.1 hy; exact hfin.all _ (List.mem_map_of_mem (f := Mm.s) (hsub a ha)), hfin.allx, hfin.few, by
                          have h1 := hfin.len
                          show (mm.take j ++ mm.drop (j + 1)).length ≤ 30
                          simp only at h1
                          rw [List.length_append, List.length_take, List.length_drop]; omega, hfin.idk⟩
                      refine D_en ?re ?_
                      case re =>
                        exact Reks_nil
                      refine D_q rfl rfl ?_
                      refine s_assign rfl rfl ?_
                      refine D_qn ?_
                      refine D_nil ?_
                      refine n_blk ?_
                      refine n_loop ?_
                      refine ⟨_, ?_, hfin⟩
                      exact ⟨rfl, rfl, rfl, rfl, rfl, rfl, rfl, rfl, rfl, rfl, rfl, rfl, trivial⟩
                    · skip
                      try simp only [decide_eq_true_eq, decide_eq_false_iff_not, gt_iff_lt, ge_iff_le, beq_iff_eq, beq_eq_false_iff_ne, ne_eq, bne_iff_ne, bne_eq_false_iff_eq, Bool.not_eq_true', Bool.not_eq_false', Bool.not_eq_true, Bool.not_eq_false, Decidable.not_not] at hc127
                      refine W_skip ?_
                      refine n_blk ?_
                      refine n_loop ?_
                      refine ⟨_, ?_, hfin⟩
                      exact ⟨rfl, rfl, rfl, rfl, rfl, rfl, rfl, rfl, rfl, rfl, rfl, rfl, trivial⟩
        · skip
          clear hs hT hD hall hlen hml
          rintro ⟨id, R, Ls, Fs, M, mm, ds, rv, mv, LRl, LMd, mx, dx, xv, yv, LX, LY, e, LP⟩ w ⟨hs, hD, hT, hout, hox, hix, hoy, hiy, hall, hallx, hfew, hlen, hidk⟩
          simp only at hs hD hT hout hox hix hoy hiy hall hallx hfew hlen hidk ⊢
          obtain ⟨ra, rc, rfl⟩ := hT.hO.form
          obtain ⟨ma, mc, rfl⟩ := hT.hO2.form
          obtain ⟨_, xc, xa, rfl, hxl⟩ := hox.form
          subst hxl
          obtain ⟨_, yc, ya, rfl, hyl⟩ := hoy.form
          subst hyl
          have hml := hT.len
          have hxd : mx.length = dx.length := by have h1 := congrArg List.length hout; simpa using h1
          obtain ⟨p, L, X, q, Lf, Xf, hp, hRA, hpm, -, hq, hFA, hpf, -, -, -, -⟩ := hD.rep hidk
          refine W_seq ?_
          refine W_seq ?_
          refine W_draw [(0, true, []), (1, true, []), (2, true, []), (3, true, []), (4, true, []), (5, true, []), (6, true, []), (7, true, []), (8, true, []), (9, true, []), (10, true, []), (11, true, []), (12, true, []), (13, true, []), (14, true, []), (15, true, []), (16, true, []), (17, true, []), (18, true, []), (19, false, []), (20, true, []), (21, true, [])] [[], [], [0, 1], [0, 1, 2], [0, 1, 2, 3], [0, 1, 2, 3, 4], [0, 1, 2, 3], [0, 1, 2, 3, 6], [0, 1, 2, 3, 4, 5, 6, 7], [0, 1, 2, 3, 4, 5, 6, 7, 8], [0, 1, 2, 3, 4, 5, 6, 7, 8, 9], [0, 1, 2, 3, 4, 5, 6, 7, 8, 9, 10], [0, 1, 2, 3, 4, 5, 6, 7, 8, 9, 10], [0, 1, 2, 3, 4, 5, 6, 7, 8, 9, 10, 11, 12], [0, 1, 2, 3, 4, 5, 6, 7, 8, 9, 10, 11, 12, 13], [0, 1, 2, 3, 4, 5, 6, 7, 8, 9, 10], [0, 1, 2, 3, 4, 5, 6, 7, 8, 9, 10], [0, 1, 2, 3, 4, 5, 6, 7, 8, 9, 10, 15, 16], [0, 1, 2, 3, 4, 5, 6, 7, 8, 9, 10, 15, 16, 17], [0, 1, 2, 3, 4, 5, 6, 7, 8, 9, 10, 11, 12, 13, 14, 15, 16, 17, 18], [0, 1, 2, 3, 4, 5, 6, 7, 8, 9, 10, 11, 12, 13, 14, 15, 16, 17, 18, 19], [0, 1, 2, 3, 4, 5, 6, 7, 8, 9, 10, 11, 12, 13, 14, 15, 16, 17, 18, 19, 20]] MX (by kernel_rfl) ?_
          intro w1 hw1 hw2 hw3 hw4; replace hs := hs.redrawn hw1 hw2 hw3 hw4; clear hw1 hw2 hw3 hw4
          obtain ⟨w, rfl⟩ : ∃ w : World, w = w1 := ⟨_, rfl⟩
          refine D_q rfl rfl ?_
          refine s_move rfl rfl ?_
          refine D_qn ?_
          refine D_q rfl rfl ?_
          refine s_move rfl rfl ?_
          refine D_qn ?_
          refine D_q rfl rfl ?_
          refine s_neq rfl rfl rfl ?_
          refine D_qn ?_
          refine D_q rfl rfl ?_
          refine s_move rfl rfl ?_
          refine WL_know (s := 207) (c := false) rfl ((by simp)) ?_
          refine D_qn ?_
          refine D_q rfl rfl ?_
          refine WL_take rfl ?_
          refine s_move rfl rfl ?_
          refine D_qn ?_
          refine D_q rfl rfl ?_
          refine WL_take rfl ?_
          refine s_len rfl rfl (LN29 _ _ _ _) ?_
          refine D_qn ?_
          refine D_q rfl rfl ?_
          refine WL_take rfl ?_
          refine s_move rfl rfl ?_
          refine D_qn ?_
          refine D_q rfl rfl ?_
          refine WL_take rfl ?_
          refine s_len rfl rfl (LN65 _ _ _ _) ?_
          refine D_qn ?_
          refine D_q rfl rfl ?_
          refine WL_take rfl ?_
          refine s_neq rfl rfl rfl ?_
          refine D_qn ?_
          refine D_q rfl rfl ?_
          refine s_pick_f rfl rfl rfl ?_
          refine D_qn ?_
          refine D_q rfl rfl ?_
          refine s_move rfl rfl ?_
          refine WL_know (s := 214) (c := false) rfl ((by simp; omega)) ?_
          refine D_qn ?_
          refine D_q rfl rfl ?_
          refine WL_take rfl ?_
          refine s_move rfl rfl ?_
          refine D_qn ?_
          refine D_q rfl rfl ?_
          refine WL_take rfl ?_
          refine s_move rfl rfl ?_
          refine D_qn ?_
          refine D_q rfl rfl ?_
          refine WL_take rfl ?_
          (refine s_indexAddr1 El60 rfl rfl rfl ?hx ?_; case hx => (constructor <;> first | omega | (simp; omega)))
          refine D_qn ?_
          refine D_q rfl rfl ?_
          refine WL_take rfl ?_
          refine s_load Try.isAgg25 rfl rfl (hs.cell (k := 0) rfl (ptrs_at _ _ hp)) ?_
          refine D_qn ?_
          refine D_q rfl rfl ?_
          refine WL_take rfl ?_
          refine s_move rfl rfl ?_
          refine D_qn ?_
          refine D_q rfl rfl ?_
          refine WL_take rfl ?_
          refine s_move rfl rfl ?_
          refine D_qn ?_
          refine D_q rfl rfl ?_
          refine WL_take rfl ?_
          (refine s_indexAddr1 El62 rfl rfl rfl ?hx ?_; case hx => (constructor <;> first | omega | (simp; omega)))
          refine D_qn ?_
          refine D_q rfl rfl ?_
          refine WL_take rfl ?_
          refine s_load Try.isAgg63 rfl rfl (hs.cell (k := 1) rfl (ptrs_at _ _ hq)) ?_
          refine D_qn ?_
          refine D_e rfl ?_
          refine WL_take rfl ?_
          refine s_call Try.call31 rfl rfl (sameRep_ok p q (R id) L Lf LP w hRA hFA (fun z hz => hs.own z (by have := hpm.mem_iff.2 (List.mem_append_left X hz); simp [this])) (fun z hz => hs.own z (by have := hpf.mem_iff.2 (List.mem_append_left Xf hz); simp [this])) (fun z hz => hs.own z (by simp [hz]))) ?_
          rintro r w ⟨hst, rfl⟩
          replace hs := hs.fwd1 hst
          clear hst
          refine D_en ?re ?_
          case re =>
            exact Reks_nil
          refine D_q rfl rfl ?_
          refine WL_take rfl ?_
          refine s_not rfl rfl ?_
          refine D_qn ?_
          refine D_q rfl rfl ?_
          refine s_pick_f rfl rfl rfl ?_
          refine D_qn ?_
          refine D_nil ?_
          refine n_then ?_
          refine W_cond_kf rfl (rfl) ?_
          refine W_skip ?_
          refine n_then ?_
          refine W_seq ?_
          refine W_seq ?_
          refine W_region ?_
          refine s_assign rfl rfl ?_
          refine WL_nil ?_
          refine n_then ?_
          refine W_block ?_
          refine W_loop (σ := Nat) (fun j => [(1, .slice (some ⟨b1, o1, none⟩) zs.length vc), (5, .int .i64 (k : Int)), (6, .slice (some ⟨g, 0, none⟩) k cap), (7, .slice (some ⟨h, 0, none⟩) k cap2), (9, .slice ra mm.length rc), (10, .slice ma ds.length mc), (11, .int .i64 (i : Int)), (14, .slice xa mx.length xc), (15, .slice ya dx.length yc), (21, .int .i64 (j : Int))])
            (fun j w => St [] w0 w ((g, Blk 25 (ptrs ps ++ sp)) :: (h, Blk 63 (ptrs qs ++ sp2)) :: (Ls.flatten ++ (Fs.flatten ++ (LRl ++ (LMd ++ (LX ++ (LY ++ LP))))))) ∧ j ≤ mx.length) (fun j => mx.length - j) 0 ⟨rfl, rfl, rfl, rfl, rfl, rfl, rfl, rfl, rfl, rfl, trivial⟩ ⟨hs, Nat.zero_le _⟩ ?_
          clear hs
          rintro j w ⟨hs, hj⟩
          refine W_seq ?_
          refine W_seq ?_
          refine W_region ?_
          refine s_move rfl rfl ?_
          refine s_move rfl rfl ?_
          refine s_len rfl rfl (LN29 _ _ _ _) ?_
          refine s_lss rfl rfl rfl ?_
          refine WL_nil ?_
          refine n_then ?_
          refine W_cond rfl (fun hc229 => ?_) (fun hc229 => ?_)
          · skip
            try simp only [decide_eq_true_eq, decide_eq_false_iff_not, gt_iff_lt, ge_iff_le, beq_iff_eq, beq_eq_false_iff_ne, ne_eq, bne_iff_ne, bne_eq_false_iff_eq, Bool.not_eq_true', Bool.not_eq_false', Bool.not_eq_true, Bool.not_eq_false, Decidable.not_not] at hc229
            have hjl : j < mx.length := by omega
            obtain ⟨d0, hdj⟩ : ∃ d, dx[j]? = some d := ⟨_, List.getElem?_eq_getElem (by omega)⟩
            obtain ⟨y0, hyj⟩ : ∃ y, mx[j]? = some y := ⟨_, List.getElem?_eq_getElem hjl⟩
            have hyd : y0.s = d0.s := by
              have h1 := congrArg (fun l => l[j]?) hout
              simp only [List.getElem?_map, hdj, hyj, Option.map_some, Option.some.injEq] at h1
              exact h1
            obtain ⟨s0, dv0⟩ := d0
            obtain ⟨s1, yv0⟩ := y0
            simp only at hyd
            subst hyd
            obtain ⟨xb, xo, rfl, -⟩ := sl_at Mm.cells_length hyj (OwnS_slIn hox fun z hz => hs.own z (by simp [hz])) (by omega)
            obtain ⟨yb, yo, rfl, -⟩ := sl_at Dm.cells_length hdj (OwnS_slIn hoy fun z hz => hs.own z (by simp [hz])) (by omega)
            have hXc : ∀ w' : World, (∀ z ∈ LX, w'.heap[z.1]? = some z.2) → ∀ (j' : Nat) (u : Value), j' < 3 → (Mm.cells ⟨s1, yv0⟩)[j']? = some u → w'.cell? ⟨xb, xo + j * 3 + j', none⟩ = some u := fun w' hw' => by
              obtain ⟨b', o', h1, h2⟩ := sl_at Mm.cells_length hyj (OwnS_slIn hox hw') (by omega)
              cases h1; exact h2
            have hYc : ∀ w' : World, (∀ z ∈ LY, w'.heap[z.1]? = some z.2) → ∀ (j' : Nat) (u : Value), j' < 7 → (Dm.cells ⟨s1, dv0⟩)[j']? = some u → w'.cell? ⟨yb, yo + j * 7 + j', none⟩ = some u := fun w' hw' => by
              obtain ⟨b', o', h1, h2⟩ := sl_at Dm.cells_length hdj (OwnS_slIn hoy hw') (by omega)
              cases h1; exact h2
            refine W_skip ?_
            refine n_then ?_
            refine W_seq ?_
            refine W_block ?_
            refine W_seq ?_
            refine W_draw [(0, true, []), (1, true, []), (2, true, []), (3, true, []), (4, true, []), (5, true, []), (6, true, []), (7, true, []), (8, true, []), (9, true, []), (10, true, []), (11, true, []), (12, true, []), (13, true, []), (14, true, []), (15, true, []), (16, true, []), (17, true, []), (18, true, []), (19, true, []), (20, true, []), (21, true, []), (22, true, []), (23, true, [])] [[], [], [0, 1], [0, 1, 2], [0, 1, 2, 3], [], [], [5, 6], [5, 6, 7], [5, 6, 7, 8], [0, 1, 2, 3, 4, 5, 6, 7, 8, 9], [0, 1, 2, 3, 4, 5, 6, 7, 8, 9, 10], [0, 1, 2, 3, 4, 5, 6, 7, 8, 9, 10, 11], [0, 1, 2, 3, 4, 5, 6, 7, 8, 9, 10, 11], [0, 1, 2, 3, 4, 5, 6, 7, 8, 9, 10, 11, 12, 13], [0, 1, 2, 3, 4, 5, 6, 7, 8, 9, 10, 11, 12, 13, 14], [0, 1, 2, 3, 4, 5, 6, 7, 8, 9, 10, 11, 12, 13, 14, 15], [0, 1, 2, 3, 4, 5, 6, 7, 8, 9, 10, 11], [0, 1, 2, 3, 4, 5, 6, 7, 8, 9, 10, 11], [0, 1, 2, 3, 4, 5, 6, 7, 8, 9, 10, 11, 17, 18], [0, 1, 2, 3, 4, 5, 6, 7, 8, 9, 10, 11, 17, 18, 19], [0, 1, 2, 3, 4, 5, 6, 7, 8, 9, 10, 11, 17, 18, 19, 20], [0, 1, 2, 3, 4, 5, 6, 7, 8, 9, 10, 11, 12, 13, 14, 15, 16, 17, 18, 19, 20, 21], [0, 1, 2, 3, 4, 5, 6, 7, 8, 9, 10, 11, 12, 13, 14, 15, 16, 17, 18, 19, 20, 21, 22]] MX (by kernel_rfl) ?_
            intro w1 hw1 hw2 hw3 hw4; replace hs := hs.redrawn hw1 hw2 hw3 hw4; clear hw1 hw2 hw3 hw4
            obtain ⟨w, rfl⟩ : ∃ w : World, w = w1 := ⟨_, rfl⟩
            refine D_q rfl rfl ?_
            refine s_move rfl rfl ?_
            refine D_qn ?_
            refine D_q rfl rfl ?_
            refine s_move rfl rfl ?_
            refine D_qn ?_
            refine D_q rfl rfl ?_
            (refine s_indexAddr El29 rfl rfl rfl ?hx ?_; case hx => (constructor <;> first | omega | (simp; omega)))
            refine D_qn ?_
            refine D_q rfl rfl ?_
            refine s_fieldAddr rfl rfl (FA56_0 _ _) ?_
            refine D_qn ?_
            refine D_q rfl rfl ?_
            refine s_load Try.isAgg3 rfl rfl (hXc w (fun z hz => hs.own z (by simp [hz])) 0 _ (by omega) rfl) ?_
            refine D_qn ?_
            refine D_q rfl rfl ?_
            refine s_move rfl rfl ?_
            refine D_qn ?_
            refine D_q rfl rfl ?_
            refine s_move rfl rfl ?_
            refine D_qn ?_
            refine D_q rfl rfl ?_
            (refine s_indexAddr El65 rfl rfl rfl ?hx ?_; case hx => (constructor <;> first | omega | (simp; omega)))
            refine D_qn ?_
            refine D_q rfl rfl ?_
            refine s_fieldAddr rfl rfl (FA71_1 _ _) ?_
            refine D_qn ?_
            refine D_q rfl rfl ?_
            refine s_load Try.isAgg3 rfl rfl (hYc w (fun z hz => hs.own z (by simp [hz])) 1 _ (by omega) rfl) ?_
            refine D_qn ?_
            refine D_q rfl rfl ?_
            refine s_neq rfl rfl rfl ?_
            refine D_qn ?_
            refine D_q rfl rfl ?_
            refine s_move rfl rfl ?_
            refine WL_know (s := 243) (c := false) rfl ((by simp)) ?_
            refine D_qn ?_
            refine D_q rfl rfl ?_
            refine WL_take rfl ?_
            refine s_move rfl rfl ?_
            refine D_qn ?_
            refine D_q rfl rfl ?_
            refine WL_take rfl ?_
            refine s_move rfl rfl ?_
            refine D_qn ?_
            refine D_q rfl rfl ?_
            refine WL_take rfl ?_
            (refine s_indexAddr El29 rfl rfl rfl ?hx ?_; case hx => (constructor <;> first | omega | (simp; omega)))
            refine D_qn ?_
            refine D_q rfl rfl ?_
            refine WL_take rfl ?_
            refine s_fieldAddr rfl rfl (FA56_1 _ _) ?_
            refine D_qn ?_
            refine D_q rfl rfl ?_
            refine WL_take rfl ?_
            refine s_load Try.isAgg3 rfl rfl (hXc w (fun z hz => hs.own z (by simp [hz])) 1 _ (by omega) rfl) ?_
            refine D_qn ?_
            refine D_q rfl rfl ?_
            refine WL_take rfl ?_
            refine s_move rfl rfl ?_
            refine D_qn ?_
            refine D_q rfl rfl ?_
            refine WL_take rfl ?_
            refine s_move rfl rfl ?_
            refine D_qn ?_
            refine D_q rfl rfl ?_
            refine WL_take rfl ?_
            (refine s_indexAddr El65 rfl rfl rfl ?hx ?_; case hx => (constructor <;> first | omega | (simp; omega)))
            refine D_qn ?_
            refine D_q rfl rfl ?_
            refine WL_take rfl ?_
            refine s_fieldAddr rfl rfl (FA71_2 _ _) ?_
            refine D_qn ?_
            refine D_q rfl rfl ?_
            refine WL_take rfl ?_
            refine s_load Try.isAgg3 rfl rfl (hYc w (fun z hz => hs.own z (by simp [hz])) 2 _ (by omega) rfl) ?_
            refine D_qn ?_
            refine D_q rfl rfl ?_
            refine WL_take rfl ?_
            refine s_neq rfl rfl rfl ?_
            refine D_qn ?_
            refine D_q rfl rfl ?_
            refine s_pick_f rfl rfl rfl ?_
            refine D_qn ?_
            refine D_nil ?_
            refine n_then ?_
            refine W_cond_kf rfl ((by simp)) ?_
            refine W_skip ?_
            refine n_blk ?_
            refine n_then ?_
            refine W_region ?_
            refine s_move rfl rfl ?_
            first | (refine s_add' rfl rfl rfl ?hx ?_; case hx => (constructor <;> first | omega | (simp only; omega)))
            refine s_assign rfl rfl ?_
            refine WL_nil ?_
            refine n_loop ?_
            exact ⟨j + 1, ⟨rfl, rfl, rfl, rfl, rfl, rfl, rfl, rfl, rfl, rfl, trivial⟩, ⟨hs, by omega⟩, by omega⟩
          · skip
            try simp only [decide_eq_true_eq, decide_eq_false_iff_not, gt_iff_lt, ge_iff_le, beq_iff_eq, beq_eq_false_iff_ne, ne_eq, bne_iff_ne, bne_eq_false_iff_eq, Bool.not_eq_true', Bool.not_eq_false', Bool.not_eq_true, Bool.not_eq_false, Decidable.not_not] at hc229
            refine W_exit ?_
            refine x_then ?_
            refine x_then ?_
            refine exit_hit ?_
            refine n_then ?_
            refine W_seq ?_
            refine W_region ?_
            refine s_move rfl rfl ?_
            refine s_move rfl rfl ?_
            refine s_appendF (M := [_, _] ++ (Ls.flatten ++ Fs.flatten)) (X := LMd ++ (LX ++ (LY ++ LP))) El29 rfl rfl rfl hT.hO (by simpa using hs) (OwnS_slIn hox fun z hz => hs.own z (by simp [hz])) (mmcells_length _) (hix.one w fun z hz => hs.own z (by simp [hz])) (by omega) ?_
            clear hs; intro rv2 w LR2 hOr hs
            rw [← mmcells_append, ← List.length_append] at hOr
            refine s_assign rfl rfl ?_
            refine WL_nil ?_
            refine n_then ?_
            refine W_seq ?_
            refine W_region ?_
            refine s_move rfl rfl ?_
            refine s_move rfl rfl ?_
            refine s_appendF (M := [_, _] ++ (Ls.flatten ++ (Fs.flatten ++ LR2))) (X := LX ++ (LY ++ LP)) El65 rfl rfl rfl hT.hO2 (by simpa using hs) (OwnS_slIn hoy fun z hz => hs.own z (by simp [hz])) (dcells_length _) (hiy.one w fun z hz => hs.own z (by simp [hz])) (by omega) ?_
            clear hs; intro mv2 w LM2 hOm hs
            rw [← dcells_append, ← List.length_append] at hOm
            replace hs : St [] w0 w ((g, Blk 25 (ptrs ps ++ sp)) :: (h, Blk 63 (ptrs qs ++ sp2)) :: (Ls.flatten ++ (Fs.flatten ++ (LR2 ++ (LM2 ++ LP))))) := by
              simpa [cat] using St.reord [[_], [_], Ls.flatten, Fs.flatten, LR2, LM2, LX, LY, LP] [0, 1, 2, 3, 4, 5, 8] [6, 7] (by simpa [cat] using hs) rfl
            have hmi : MmsIn (mm ++ mx) LP := hT.hI.append hix
            have hdi : DmsIn (ds ++ dx) LP := fun d hd => by
              rcases List.mem_append.1 hd with hd | hd
              · exact hT.hI2 d hd
              · exact hiy d hd
            have heq : (mm ++ mx).map (·.s) = (ds ++ dx).map (·.s) := by rw [List.map_append, List.map_append, hT.eq, hout]
            have hall2 : ∀ y ∈ (mm ++ mx).map (·.s), M y := fun y hy => by
              rw [List.map_append] at hy
              rcases List.mem_append.1 hy with hy | hy
              · exact hall y hy
              · exact hallx y hy
            have hle2 : (mm ++ mx).length ≤ 34 ∧ (mm ++ mx).length = (ds ++ dx).length := by rw [List.length_append, List.length_append]; omega
            obtain ⟨ra2, rc2, rfl⟩ := hOr.form
            obtain ⟨ma2, mc2, rfl⟩ := hOm.form
            generalize mm ++ mx = mm2 at hOr hmi heq hall2 hle2 ⊢
            generalize ds ++ dx = ds2 at hOm hdi heq hle2 ⊢
            refine s_assign rfl rfl ?_
            refine WL_nil ?_
            refine n_then ?_
            refine W_seq ?_
            refine W_region ?_
            refine s_move rfl rfl ?_
            refine s_len rfl rfl (LN65 _ _ _ _) ?_
            refine s_gtr rfl rfl rfl ?_
            refine WL_nil ?_
            refine n_then ?_
            refine W_cond rfl (fun hc264 => ?_) (fun hc264 => ?_)
            · skip
              try simp only [decide_eq_true_eq, decide_eq_false_iff_not, gt_iff_lt, ge_iff_le, beq_iff_eq, beq_eq_false_iff_ne, ne_eq, bne_iff_ne, bne_eq_false_iff_eq, Bool.not_eq_true', Bool.not_eq_false', Bool.not_eq_true, Bool.not_eq_false, Decidable.not_not] at hc264
              have hTrim : 30 < ds2.length := by omega
              obtain ⟨c, hc⟩ : ∃ c, ds2.length = 30 + c := ⟨ds2.length - 30, by omega⟩
              obtain ⟨rg, rcap, rpre, rsp, hre, -⟩ := hOr.block (by omega)
              cases hre
              obtain ⟨mg, mcap, mpre, msp, hme, -⟩ := hOm.block (by omega)
              cases hme
              have hOr2 : OwnF 56 3 (.slice (some ⟨rg, (if rc2 = c then rpre.length else rpre.length + c * 3), none⟩) (mm2.length - c) (rc2 - c)) (mm2.drop c).length (mmcells (mm2.drop c)) LR2 := by
                have h1 := hOr.cut (k := c) (by omega) rfl
                rw [List.length_drop, mmcells, ← flat_drop Mm.cells_length mm2 c]; exact h1
              have hOm2 : OwnF 71 7 (.slice (some ⟨mg, (if mc2 = c then mpre.length else mpre.length + c * 7), none⟩) (ds2.length - c) (mc2 - c)) (ds2.drop c).length (dcells (ds2.drop c)) LM2 := by
                have h1 := hOm.cut (k := c) (by omega) rfl
                rw [List.length_drop, dcells, ← flat_drop Dm.cells_length ds2 c]; exact h1
              refine W_seq ?_
              refine W_region ?_
              refine s_move rfl rfl ?_
              refine s_move rfl rfl ?_
              refine s_len rfl rfl (LN29 _ _ _ _) ?_
              first | (refine s_sub' rfl rfl rfl ?hx ?_; case hx => (constructor <;> first | omega | (simp only; omega)))
              (refine s_slice_lo El29 rfl rfl rfl ?hx ?_; case hx => (constructor <;> omega))
              rw [show ((mm2.length : Int) - 30).toNat = c from by omega]
              refine s_assign rfl rfl ?_
              refine WL_nil ?_
              refine n_then ?_
              refine W_region ?_
              refine s_move rfl rfl ?_
              refine s_move rfl rfl ?_
              refine s_len rfl rfl (LN65 _ _ _ _) ?_
              first | (refine s_sub' rfl rfl rfl ?hx ?_; case hx => (constructor <;> first | omega | (simp only; omega)))
              (refine s_slice_lo El65 rfl rfl rfl ?hx ?_; case hx => (constructor <;> omega))
              rw [show ((ds2.length : Int) - 30).toNat = c from by omega]
              refine s_assign rfl rfl ?_
              refine WL_nil ?_
              refine n_blk ?_
              refine n_then ?_
              refine W_region ?_
              refine s_move rfl rfl ?_
              first | (refine s_add' rfl rfl rfl ?hx ?_; case hx => (constructor <;> first | omega | (simp only; omega)))
              refine s_assign rfl rfl ?_
              refine WL_nil ?_
              refine n_loop ?_
              first
                | (have hT1 := hTrim
                   refine ⟨⟨i + 1, R, Ls, Fs, M, mm2.drop c, ds2.drop c, _, _, LR2, LM2, LP⟩, ⟨rfl, rfl, rfl, rfl, rfl, rfl, rfl, trivial⟩, ⟨⟨hs, hD, ⟨by show (mm2.drop c).map _ = (ds2.drop c).map _; rw [List.map_drop, List.map_drop, heq], hOr2, fun y hy => hmi y (List.mem_of_mem_drop hy), hOm2, fun y hy => hdi y (List.mem_of_mem_drop hy)⟩, fun y hy => hall2 y (by obtain ⟨a, ha, rfl⟩ := List.mem_map.1 hy; exact List.mem_map_of_mem (f := Mm.s) (List.mem_of_mem_drop ha)), by show (mm2.drop c).length ≤ 30; rw [List.length_drop]; omega⟩, by show i + 1 ≤ zs.length; omega, by show i + 1 ≤ 60; omega⟩, by show 60 - (i + 1) < 60 - i; omega⟩)
            · skip
              try simp only [decide_eq_true_eq, decide_eq_false_iff_not, gt_iff_lt, ge_iff_le, beq_iff_eq, beq_eq_false_iff_ne, ne_eq, bne_iff_ne, bne_eq_false_iff_eq, Bool.not_eq_true', Bool.not_eq_false', Bool.not_eq_true, Bool.not_eq_false, Decidable.not_not] at hc264
              have hKeep : ¬ 30 < ds2.length := by omega
              refine W_skip ?_
              refine n_blk ?_
              refine n_then ?_
              refine W_region ?_
              refine s_move rfl rfl ?_
              first | (refine s_add' rfl rfl rfl ?hx ?_; case hx => (constructor <;> first | omega | (simp only; omega)))
              refine s_assign rfl rfl ?_
              refine WL_nil ?_
              refine n_loop ?_
              first
                | (have hK1 := hKeep
                   refine ⟨⟨i + 1, R, Ls, Fs, M, mm2, ds2, _, _, LR2, LM2, LP⟩, ⟨rfl, rfl, rfl, rfl, rfl, rfl, rfl, trivial⟩, ⟨⟨hs, hD, ⟨heq, hOr, hmi, hOm, hdi⟩, hall2, by show mm2.length ≤ 30; omega⟩, by show i + 1 ≤ zs.length; omega, by show i + 1 ≤ 60; omega⟩, by show 60 - (i + 1) < 60 - i; omega⟩)
      · skip
        try simp only [decide_eq_true_eq, decide_eq_false_iff_not, gt_iff_lt, ge_iff_le, beq_iff_eq, beq_eq_false_iff_ne, ne_eq, bne_iff_ne, bne_eq_false_iff_eq, Bool.not_eq_true', Bool.not_eq_false', Bool.not_eq_true, Bool.not_eq_false, Decidable.not_not] at hc48
        refine W_exit ?_
        refine x_then ?_
        refine x_then ?_
        refine exit_hit ?_
        refine n_then ?_
        refine W_seq ?_
        refine W_seq ?_
        refine W_region ?_
        refine s_assign rfl rfl ?_
        refine WL_nil ?_
        refine n_then ?_
        refine W_block ?_
        refine W_loop (σ := Nat) (fun j => [(5, .int .i64 (k : Int)), (6, .slice (some ⟨g, 0, none⟩) k cap), (7, .slice (some ⟨h, 0, none⟩) k cap2), (22, .int .i64 (j : Int))])
          (fun j w => St [] w0 w ((g, Blk 25 (ptrs ps ++ sp)) :: (h, Blk 63 (ptrs qs ++ sp2)) :: (Ls.flatten ++ (Fs.flatten ++ (LRl ++ (LMd ++ LP))))) ∧ j ≤ k) (fun j => k - j) 0 ⟨rfl, rfl, rfl, rfl, trivial⟩ ⟨hs, Nat.zero_le _⟩ ?_
        clear hs
        rintro j w ⟨hs, hj⟩
        refine W_seq ?_
        refine W_seq ?_
        refine W_region ?_
        refine s_move rfl rfl ?_
        refine s_move rfl rfl ?_
        refine s_lss rfl rfl rfl ?_
        refine WL_nil ?_
        refine n_then ?_
        refine W_cond rfl (fun hc277 => ?_) (fun hc277 => ?_)
        · skip
          try simp only [decide_eq_true_eq, decide_eq_false_iff_not, gt_iff_lt, ge_iff_le, beq_iff_eq, beq_eq_false_iff_ne, ne_eq, bne_iff_ne, bne_eq_false_iff_eq, Bool.not_eq_true', Bool.not_eq_false', Bool.not_eq_true, Bool.not_eq_false, Decidable.not_not] at hc277
          have hjk : j < k := by omega
          obtain ⟨p, L, X, q, Lf, Xf, hp, hRA, hpm, -, hq, hFA, hpf, -, -, -, -⟩ := hD.rep hjk
          refine W_skip ?_
          refine n_then ?_
          refine W_seq ?_
          refine W_block ?_
          refine W_seq ?_
          refine W_draw [(0, true, []), (1, true, []), (2, true, []), (3, true, []), (4, true, []), (5, true, []), (6, true, []), (7, true, []), (8, false, []), (9, true, [])] [[], [], [0, 1], [0, 1, 2], [], [], [4, 5], [4, 5, 6], [0, 1, 2, 3, 4, 5, 6, 7], [0, 1, 2, 3, 4, 5, 6, 7, 8]] MX (by kernel_rfl) ?_
          intro w1 hw1 hw2 hw3 hw4; replace hs := hs.redrawn hw1 hw2 hw3 hw4; clear hw1 hw2 hw3 hw4
          obtain ⟨w, rfl⟩ : ∃ w : World, w = w1 := ⟨_, rfl⟩
          refine D_q rfl rfl ?_
          refine s_move rfl rfl ?_
          refine D_qn ?_
          refine D_q rfl rfl ?_
          refine s_move rfl rfl ?_
          refine D_qn ?_
          refine D_q rfl rfl ?_
          (refine s_indexAddr1 El60 rfl rfl rfl ?hx ?_; case hx => (constructor <;> first | omega | (simp; omega)))
          refine D_qn ?_
          refine D_q rfl rfl ?_
          refine s_load Try.isAgg25 rfl rfl (hs.cell (k := 0) rfl (ptrs_at _ _ hp)) ?_
          refine D_qn ?_
          refine D_q rfl rfl ?_
          refine s_move rfl rfl ?_
          refine D_qn ?_
          refine D_q rfl rfl ?_
          refine s_move rfl rfl ?_
          refine D_qn ?_
          refine D_q rfl rfl ?_
          (refine s_indexAddr1 El62 rfl rfl rfl ?hx ?_; case hx => (constructor <;> first | omega | (simp; omega)))
          refine D_qn ?_
          refine D_q rfl rfl ?_
          refine s_load Try.isAgg63 rfl rfl (hs.cell (k := 1) rfl (ptrs_at _ _ hq)) ?_
          refine D_qn ?_
          refine D_e rfl ?_
          refine s_call Try.call31 rfl rfl (sameRep_ok p q (R j) L Lf LP w hRA hFA (fun z hz => hs.own z (by have := hpm.mem_iff.2 (List.mem_append_left X hz); simp [this])) (fun z hz => hs.own z (by have := hpf.mem_iff.2 (List.mem_append_left Xf hz); simp [this])) (fun z hz => hs.own z (by simp [hz]))) ?_
          rintro r w ⟨hst, rfl⟩
          replace hs := hs.fwd1 hst
          clear hst
          refine D_en ?re ?_
          case re =>
            exact Reks_nil
          refine D_q rfl rfl ?_
          refine s_not rfl rfl ?_
          refine D_qn ?_
          refine D_nil ?_
          refine n_then ?_
          refine W_cond_kf rfl (rfl) ?_
          refine W_skip ?_
          refine n_blk ?_
          refine n_then ?_
          refine W_region ?_
          refine s_move rfl rfl ?_
          first | (refine s_add' rfl rfl rfl ?hx ?_; case hx => (constructor <;> first | omega | (simp only; omega)))
          refine s_assign rfl rfl ?_
          refine WL_nil ?_
          refine n_loop ?_
          exact ⟨j + 1, ⟨rfl, rfl, rfl, rfl, trivial⟩, ⟨hs, by omega⟩, by omega⟩
        · skip
          try simp only [decide_eq_true_eq, decide_eq_false_iff_not, gt_iff_lt, ge_iff_le, beq_iff_eq, beq_eq_false_iff_ne, ne_eq, bne_iff_ne, bne_eq_false_iff_eq, Bool.not_eq_true', Bool.not_eq_false', Bool.not_eq_true, Bool.not_eq_false, Decidable.not_not] at hc277
          refine W_exit ?_
          refine x_then ?_
          refine x_then ?_
          refine exit_hit ?_
          refine n_then ?_
          refine W_seq ?_
          refine W_region ?_
          refine s_call Try.call19 rfl rfl (lives_ok w) ?_
          rintro r w ⟨hst, rfl⟩
          replace hs := hs.fwd1 hst
          refine s_assign rfl rfl ?_
          refine WL_nil ?_
          refine n_then ?_
          refine W_ret ?_
          exact end1 rfl rfl ⟨hs.fwd, rfl⟩
    · skip
      try simp only [decide_eq_true_eq, decide_eq_false_iff_not, gt_iff_lt, ge_iff_le, beq_iff_eq, beq_eq_false_iff_ne, ne_eq, bne_iff_ne, bne_eq_false_iff_eq, Bool.not_eq_true', Bool.not_eq_false', Bool.not_eq_true, Bool.not_eq_false, Decidable.not_not] at hg45
      refine WL_skip rfl rfl rfl ?_
      refine WL_skip rfl rfl rfl ?_
      refine s_pick_f rfl rfl rfl ?_
      refine WL_nil ?_
      refine n_then ?_
      refine W_cond_f rfl ?_
      refine W_exit ?_
      refine x_then ?_
      refine x_then ?_
      refine exit_hit ?_
      refine n_then ?_
      refine W_seq ?_
      refine W_seq ?_
      refine W_region ?_
      refine s_assign rfl rfl ?_
      refine WL_nil ?_
      refine n_then ?_
      refine W_block ?_
      refine W_loop (σ := Nat) (fun j => [(5, .int .i64 (k : Int)), (6, .slice (some ⟨g, 0, none⟩) k cap), (7, .slice (some ⟨h, 0, none⟩) k cap2), (22, .int .i64 (j : Int))])
        (fun j w => St [] w0 w ((g, Blk 25 (ptrs ps ++ sp)) :: (h, Blk 63 (ptrs qs ++ sp2)) :: (Ls.flatten ++ (Fs.flatten ++ (LRl ++ (LMd ++ LP))))) ∧ j ≤ k) (fun j => k - j) 0 ⟨rfl, rfl, rfl, rfl, trivial⟩ ⟨hs, Nat.zero_le _⟩ ?_
      clear hs
      rintro j w ⟨hs, hj⟩
      refine W_seq ?_
      refine W_seq ?_
      refine W_region ?_
      refine s_move rfl rfl ?_
      refine s_move rfl rfl ?_
      refine s_lss rfl rfl rfl ?_
      refine WL_nil ?_
      refine n_then ?_
      refine W_cond rfl (fun hc277 => ?_) (fun hc277 => ?_)
      · skip
        try simp only [decide_eq_true_eq, decide_eq_false_iff_not, gt_iff_lt, ge_iff_le, beq_iff_eq, beq_eq_false_iff_ne, ne_eq, bne_iff_ne, bne_eq_false_iff_eq, Bool.not_eq_true', Bool.not_eq_false', Bool.not_eq_true, Bool.not_eq_false, Decidable.not_not] at hc277
        have hjk : j < k := by omega
        obtain ⟨p, L, X, q, Lf, Xf, hp, hRA, hpm, -, hq, hFA, hpf, -, -, -, -⟩ := hD.rep hjk
        refine W_skip ?_
        refine n_then ?_
        refine W_seq ?_
        refine W_block ?_
        refine W_seq ?_
        refine W_draw [(0, true, []), (1, true, []), (2, true, []), (3, true, []), (4, true, []), (5, true, []), (6, true, []), (7, true, []), (8, false, []), (9, true, [])] [[], [], [0, 1], [0, 1, 2], [], [], [4, 5], [4, 5, 6], [0, 1, 2, 3, 4, 5, 6, 7], [0, 1, 2, 3, 4, 5, 6, 7, 8]] MX (by kernel_rfl) ?_
        intro w1 hw1 hw2 hw3 hw4; replace hs := hs.redrawn hw1 hw2 hw3 hw4; clear hw1 hw2 hw3 hw4
        obtain ⟨w, rfl⟩ : ∃ w : World, w = w1 := ⟨_, rfl⟩
        refine D_q rfl rfl ?_
        refine s_move rfl rfl ?_
        refine D_qn ?_
        refine D_q rfl rfl ?_
        refine s_move rfl rfl ?_
        refine D_qn ?_
        refine D_q rfl rfl ?_
        (refine s_indexAddr1 El60 rfl rfl rfl ?hx ?_; case hx => (constructor <;> first | omega | (simp; omega)))
        refine D_qn ?_
        refine D_q rfl rfl ?_
        refine s_load Try.isAgg25 rfl rfl (hs.cell (k := 0) rfl (ptrs_at _ _ hp)) ?_
        refine D_qn ?_
        refine D_q rfl rfl ?_
        refine s_move rfl rfl ?_
        refine D_qn ?_
        refine D_q rfl rfl ?_
        refine s_move rfl rfl ?_
        refine D_qn ?_
        refine D_q rfl rfl ?_
        (refine s_indexAddr1 El62 rfl rfl rfl ?hx ?_; case hx => (constructor <;> first | omega | (simp; omega)))
        refine D_qn ?_
        refine D_q rfl rfl ?_
        refine s_load Try.isAgg63 rfl rfl (hs.cell (k := 1) rfl (ptrs_at _ _ hq)) ?_
        refine D_qn ?_
        refine D_e rfl ?_
        refine s_call Try.call31 rfl rfl (sameRep_ok p q (R j) L Lf LP w hRA hFA (fun z hz => hs.own z (by have := hpm.mem_iff.2 (List.mem_append_left X hz); simp [this])) (fun z hz => hs.own z (by have := hpf.mem_iff.2 (List.mem_append_left Xf hz); simp [this])) (fun z hz => hs.own z (by simp [hz]))) ?_
        rintro r w ⟨hst, rfl⟩
        replace hs := hs.fwd1 hst
        clear hst
        refine D_en ?re ?_
        case re =>
          exact Reks_nil
        refine D_q rfl rfl ?_
        refine s_not rfl rfl ?_
        refine D_qn ?_
        refine D_nil ?_
        refine n_then ?_
        refine W_cond_kf rfl (rfl) ?_
        refine W_skip ?_
        refine n_blk ?_
        refine n_then ?_
        refine W_region ?_
        refine s_move rfl rfl ?_
        first | (refine s_add' rfl rfl rfl ?hx ?_; case hx => (constructor <;> first | omega | (simp only; omega)))
        refine s_assign rfl rfl ?_
        refine WL_nil ?_
        refine n_loop ?_
        exact ⟨j + 1, ⟨rfl, rfl, rfl, rfl, trivial⟩, ⟨hs, by omega⟩, by omega⟩
      · skip
        try simp only [decide_eq_true_eq, decide_eq_false_iff_not, gt_iff_lt, ge_iff_le, beq_iff_eq, beq_eq_false_iff_ne, ne_eq, bne_iff_ne, bne_eq_false_iff_eq, Bool.not_eq_true', Bool.not_eq_false', Bool.not_eq_true, Bool.not_eq_false, Decidable.not_not] at hc277
        refine W_exit ?_
        refine x_then ?_
        refine x_then ?_
        refine exit_hit ?_
        refine n_then ?_
        refine W_seq ?_
        refine W_region ?_
        refine s_call Try.call19 rfl rfl (lives_ok w) ?_
        rintro r w ⟨hst, rfl⟩
        replace hs := hs.fwd1 hst
        refine s_assign rfl rfl ?_
        refine WL_nil ?_
        refine n_then ?_
        refine W_ret ?_
        exact end1 rfl rfl ⟨hs.fwd, rfl⟩
end Go.Proofs.Ytkobigdfijeajaa
