/- WalFull. -/
import Derived.Test.YtkappdlbpilghaaWlB
set_option linter.unusedVariables false
set_option linter.unusedSimpArgs false
namespace Go.Proofs.Ytkappdlbpilghaa
open Go.SL
theorem one_app_full {room : Int} {armed : Bool} {left f : Int} {bs xs : List Int} {d : Nat} (hf : 0 ≤ f ∧ f ≤ 63) (hr : room < ((bs.length + xs.length : Nat) : Int)) : (oneDk room false armed left f bs d).app f xs = (oneDk room false armed left f bs d, 17) := by
  have ht := one_total (room := room) (off := false) (armed := armed) (left := left) (bs := bs) (d := d) hf
  rw [Dk.app, if_neg (by omega), if_neg (by simp [oneDk]), if_pos (by rw [ht]; show room - _ < _; omega)]
theorem logApp_full {mx : Nat → Nat → Nat} {room left f : Int} {bs : List Int} {d n : Nat} {x : List Int} (hf : 0 ≤ f ∧ f ≤ 63) (hx : x.length ≤ 65536) (hr : room < ((bs.length + (frameV mx n x).length : Nat) : Int)) :
    logApp mx (oneDk room false false left f bs d) f n false x = (oneDk room false false left f bs d, n, false, 17) := by
  rw [logApp, if_neg (by omega), if_neg (by simp), one_app_full hf hr]
  simp
theorem wAppendL_ok (q : Nat) (a : Option Addr) (m c : Nat) (w0 : World) (h : 65536 < m) :
    Ret Try.prog 13 [.pointer (some ⟨q, 0, none⟩), .slice a m c].toArray w0 fun r w' => Fwd [] w0 w' ∧ r = .int .i64 4 := by
  refine Ret_start fun w hs => ?_
  refine Ret_ofD Try.func13 rfl Try.ntmps13 rfl ?_
  refine WDf_seq ?_
  refine W_region ?_
  first | refine s_box rfl rfl hs ?_ | refine s_box1 rfl rfl rfl hs ?_
  clear hs; intro b2 w hs
  refine s_alloc rfl AL28 hs ?_; clear hs; intro b4 w hs
  refine WL_nil ?_
  refine n_loop ?_
  refine WDf_seq ?_
  refine W_seq ?_
  refine W_region ?_
  refine s_move rfl rfl ?_
  refine s_len rfl rfl (LN33 _ _ _ _) ?_
  refine s_gtr rfl rfl rfl ?_
  refine WL_nil ?_
  refine n_then ?_
  refine W_cond rfl (fun hc9 => ?_) (fun hc9 => ?_)
  · skip
    skip
    refine W_seq ?_
    refine W_region ?_
    first
      | refine s_storeB Try.sizeOf28 rfl rfl rfl hs (kk := 0) rfl rfl ?_
      | refine s_storeB Try.sizeOf28 rfl rfl rfl hs (kk := 1) rfl rfl ?_
    clear hs; intro w hs; try simp only [List.set_cons_zero, List.set_cons_succ, splice, List.take_succ_cons, List.take_zero, List.drop_succ_cons, List.drop_zero, List.nil_append, List.cons_append, List.length_cons, List.length_nil, Nat.reduceAdd, List.append_assoc] at hs
    refine WL_nil ?_
    refine n_then ?_
    refine W_ret ?_
    refine r_then ?_
    have hcell := hs.cell (k := 0) (i := 0) rfl rfl
    refine end1 (v := .int .i64 4) rfl ⟨⟨b4, 0, none⟩, rfl, ?_⟩ ⟨hs.fwd, rfl⟩
    simp [loadVar, Try.isAgg28, load, Sem.run, hcell]
  · skip
    exact absurd hc9 (by simp; omega) -- DEAD
theorem St_back2 {F : List Nat} {w0 w : World} {A B : Nat × Obj} {C D E K : Hp} (h : St F w0 w (([A, B] ++ (C ++ (D ++ E))) ++ (K ++ []))) : St F w0 w (B :: (C ++ (D ++ (E ++ K)))) := by
  have h1 : St F w0 w (A :: B :: (C ++ (D ++ (E ++ K)))) := by simpa using h
  exact h1.tail
theorem St_into2 {F : List Nat} {w0 w : World} {A B : Nat × Obj} {C D E K : Hp} (h : St F w0 w (A :: B :: (C ++ (D ++ (E ++ K))))) : St F w0 w (([A, B] ++ (C ++ (D ++ E))) ++ (K ++ [])) := by simpa using h
structure WfT where
  ks : Recs
  v : Value
  Lk : Hp
  Ld : Hp
structure WfU where
  i : Nat
  ks : Recs
  v : Value
  Lk : Hp
  Ld : Hp
set_option maxHeartbeats 4000000 in
theorem walFull_ok (vl : Value) (ls : List Int) (room : Int) (w0 : World) (hl : Sl w0 vl ls.length (i64s ls)) (hli : ∀ z ∈ ls, isI64 z) (hroom : isI64 room) :
    Ret Try.prog 3 [.int .i64 room, vl].toArray w0 fun r w' => Fwd [] w0 w' ∧ r = .bool true := by
  obtain ⟨mx, hmx⟩ := isMix
  have hkr := aroundV_range (m := room) (q := 120) (by omega)
  obtain ⟨K, hK⟩ : ∃ K, K = aroundV room 120 := ⟨_, rfl⟩
  rw [← hK] at hkr
  have h64I : isI64 64 := by unfold isI64; omega
  refine Ret_start fun w hs => ?_
  refine Ret_of Try.func3 rfl Try.ntmps3 rfl ?_
  refine W_seq ?_
  refine W_region ?_
  refine s_assign rfl rfl ?_
  refine WL_nil ?_
  refine n_then ?_
  refine W_seq ?_
  refine W_region ?_
  refine s_move rfl rfl ?_
  refine s_call Try.call7 rfl rfl (around_ok room 120 _ (by omega) hroom) ?_
  rintro r w ⟨rfl, rfl⟩
  rw [← hK]
  refine s_assign rfl rfl ?_
  refine WL_nil ?_
  refine n_then ?_
  refine W_seq ?_
  refine W_region ?_
  refine s_move rfl rfl ?_
  refine s_call Try.call8 rfl rfl (fresh_ok K w (by omega)) ?_
  rintro v w ⟨p, Ld, rfl, hD, hst⟩
  replace hs := (St.back0 hs hst).left
  clear hst
  rw [one_new K 63] at hD
  refine s_assign rfl rfl ?_
  refine WL_nil ?_
  refine n_then ?_
  refine W_seq ?_
  refine W_seq ?_
  refine W_region ?_
  refine s_move rfl rfl ?_
  refine s_eql_ptr_nil Try.underlying24 rfl rfl rfl ?_
  refine WL_nil ?_
  refine n_then ?_
  refine W_cond_kf rfl (rfl) ?_
  refine W_skip ?_
  refine n_then ?_
  refine W_seq ?_
  refine W_region ?_
  refine s_move rfl rfl ?_
  refine s_callL (M := []) (L1 := Ld) (X := []) Try.call9 rfl rfl (by simpa using hs) (fun h => wOpenF_ok hmx p _ 63 [] Ld w hD (by omega) rfl rfl (by rw [(one_c _ _ _ _ _ _ _).1]; simp) (by rw [(one_c _ _ _ _ _ _ _).1]; exact scan_whole mx []) h) ?_
  rw [one_opened (by simp [framesV])]
  clear hs hD; rintro u w L9 ⟨q, rs0, u0, Lu0, Lx0, Ld, -, rfl, rfl, hD, -, -⟩ - hs
  simp only [List.append_nil, List.nil_append] at hs
  replace hs : St [] w0 w ([_] ++ Ld) := St.reord [[_], Lu0, Lx0, Ld] [0, 3] [1, 2] hs rfl
  replace hD : DiskAt p (oneDk K false false 0 63 [] 0) Ld := hD
  refine s_move rfl rfl ?_
  refine s_extract rfl rfl rfl ?_
  refine s_extract rfl rfl rfl ?_
  refine s_extract rfl rfl rfl ?_
  refine s_assign rfl rfl ?_
  refine s_assign rfl rfl ?_
  refine s_assign rfl rfl ?_
  refine WL_nil ?_
  refine n_then ?_
  refine W_seq ?_
  refine W_seq ?_
  refine W_region ?_
  refine s_move rfl rfl ?_
  refine s_eql_ptr_nil Try.underlying26 rfl rfl rfl ?_
  refine s_move rfl rfl ?_
  refine WL_know (s := 39) (c := false) rfl (rfl) ?_
  refine WL_take rfl ?_
  refine s_move rfl rfl ?_
  refine WL_take rfl ?_
  refine s_neq rfl rfl rfl ?_
  refine s_pick_f rfl rfl rfl ?_
  refine WL_nil ?_
  refine n_then ?_
  refine W_cond_kf rfl (rfl) ?_
  refine W_skip ?_
  refine n_then ?_
  refine W_seq ?_
  refine W_region ?_
  refine s_move rfl rfl ?_
  refine s_call Try.call10 rfl rfl (records_ok vl ls w (hl.fwd0 hs.fwd) hli) ?_
  rintro r w ⟨rs, Lv, LX, hO, hst, hin, hsm, hrl⟩
  replace hs := (St.back0 hs hst).swap
  clear hst
  simp only [List.cons_append, List.nil_append] at hs
  obtain ⟨_, cv, av, rfl, hvl⟩ := hO.form
  subst hvl
  obtain ⟨hsm1, hsm2⟩ := hsm
  rw [Recs.x_length] at hsm1
  refine s_assign rfl rfl ?_
  refine WL_nil ?_
  refine n_then ?_
  refine W_seq ?_
  refine W_region ?_
  refine s_assign rfl rfl ?_
  refine WL_nil ?_
  refine n_then ?_
  refine W_seq ?_
  refine W_seq ?_
  refine W_region ?_
  refine s_assign rfl rfl ?_
  refine WL_nil ?_
  refine n_then ?_
  refine W_block ?_
  refine W_loop (σ := WfU) (fun s => [(5, .int .i64 K), (6, .pointer (some ⟨p, 0, none⟩)), (7, .pointer (some ⟨q, 0, none⟩)), (10, .slice av rs.length cv), (11, s.v), (12, .int .i64 (s.i : Int))]) (fun s w => St [] w0 w ((q, Blk 56 (logCells p 63 s.ks.length false)) :: (s.Ld ++ (Lv ++ (LX ++ s.Lk)))) ∧ DiskAt p (oneDk K false false 0 63 (framesV mx 0 s.ks.x) (framesV mx 0 s.ks.x).length) s.Ld ∧ OwnS 33 1 s.v s.ks.length s.ks.v s.Lk ∧ RecsIn s.ks LX ∧ (∀ y ∈ s.ks, y ∈ rs) ∧ s.ks.length ≤ s.i ∧ ((framesV mx 0 s.ks.x).length : Int) ≤ K ∧ s.i ≤ rs.length) (fun s => rs.length - s.i) ⟨0, [], .slice none 0 0, [], Ld⟩ ⟨rfl, rfl, rfl, rfl, rfl, rfl, trivial⟩ ⟨by simpa using hs, hD, OwnS.nil _ _, RecsIn.nil _, by simp, Nat.le_refl _, by simp [Recs.x, framesV]; omega, Nat.zero_le _⟩ ?_
  clear hs hD
  rintro ⟨i, ks, vk, Lk, Ld⟩ w ⟨hs, hD, hOk, hki, hsub, hkl, hFK, hi⟩
  simp only at hs hD hOk hki hsub hkl hFK hi ⊢
  obtain ⟨F, hF⟩ : ∃ F, F = framesV mx 0 ks.x := ⟨_, rfl⟩
  rw [← hF] at hD hFK
  obtain ⟨_, ck, ak, rfl, hvk⟩ := hOk.form
  subst hvk
  refine W_seq ?_
  refine W_seq ?_
  refine W_region ?_
  refine s_move rfl rfl ?_
  refine s_move rfl rfl ?_
  refine s_len rfl rfl (LN27 _ _ _ _) ?_
  refine s_lss rfl rfl rfl ?_
  refine WL_nil ?_
  refine n_then ?_
  refine W_cond rfl (fun hc48 => ?_) (fun hc48 => ?_)
  · skip
    try simp only [decide_eq_true_eq, decide_eq_false_iff_not, gt_iff_lt] at hc48
    have hil : i < rs.length := by omega
    obtain ⟨u1, x1, hxi, hm1, hv1, hx1⟩ := Recs.at hil
    obtain ⟨_, cu1, au1, hu1e, hu1l⟩ := (hin _ hm1).form w fun p hp => hs.own p (by simp [hp])
    simp only at hu1e hu1l
    subst hu1l
    subst hu1e
    have hx1b := hsm2 x1 (List.mem_of_getElem? hx1)
    have hfr := frame_small hmx (n := ks.length) (x := x1) (k := 10) (by omega) hx1b.1 (by omega)
    have hcl : ∀ (w : World) (M X : Hp), St [] w0 w (M ++ (Lv ++ X)) → ∃ b o, av = some ⟨b, o, none⟩ ∧ w.cell? ⟨b, o + i, none⟩ = some (.slice au1 x1.length cu1) := fun w M X h => (hO.slM h).at hv1
    obtain ⟨b1, o1, hA1, -⟩ := hcl w (_ :: Ld) _ hs
    subst hA1
    have hcl2 : ∀ (w : World) (M X : Hp), St [] w0 w (M ++ (Lv ++ X)) → w.cell? ⟨b1, o1 + i, none⟩ = some (.slice au1 x1.length cu1) := fun w M X h => by obtain ⟨b9, o9, h9, h10⟩ := hcl w M X h; cases h9; exact h10
    obtain ⟨FN, hFN⟩ : ∃ FN, FN = frameV mx (ks.length : Int) x1 := ⟨_, rfl⟩
    rw [← hFN] at hfr
    refine W_skip ?_
    refine n_then ?_
    refine W_seq ?_
    refine W_block ?_
    refine W_seq ?_
    refine W_region ?_
    refine s_move rfl rfl ?_
    refine s_callL (M := [_]) (L1 := Ld) (X := Lv ++ (LX ++ Lk)) Try.call11 rfl rfl hs (fun h => used_ok p _ Ld w hD h) ?_
    clear hs; rintro u w L9 ⟨hL9, rfl⟩ - hs
    rw [hL9] at hs
    clear hL9
    simp only [List.nil_append, List.cons_append] at hs
    rw [one_total (by omega)]
    refine s_assign rfl rfl ?_
    refine WL_nil ?_
    refine n_then ?_
    refine W_seq ?_
    refine W_region ?_
    refine s_move rfl rfl ?_
    refine s_len rfl rfl (LN27 _ _ _ _) ?_
    refine s_move rfl rfl ?_
    refine s_move rfl rfl ?_
    (refine s_indexAddr1 El27 rfl rfl rfl ?hx ?_; case hx => (constructor <;> first | omega | (simp; omega)))
    refine s_load Try.isAgg33 rfl rfl (by rw [Int.toNat_natCast]; exact hcl2 w (_ :: Ld) _ hs) ?_
    have hS1 := (hin _ hm1).sl w fun p hp => hs.own p (by simp [hp])
    refine s_call Try.call12 rfl rfl (frame_ok hmx (ks.length : Int) _ x1 w hS1 (by unfold isI64; omega) hx1b.2 (by omega)) ?_
    rintro r w ⟨Lf, hOf, hst⟩
    replace hs := (St.back0 hs hst).right
    clear hst
    rw [← hFN] at hOf
    obtain ⟨_, cf, af, rfl, hvf⟩ := hOf.form
    subst hvf
    refine s_len rfl rfl (LN33 _ _ _ _) ?_
    refine s_assign rfl rfl ?_
    refine WL_nil ?_
    refine n_then ?_
    refine W_seq ?_
    refine W_region ?_
    refine s_move rfl rfl ?_
    refine s_move rfl rfl ?_
    refine s_move rfl rfl ?_
    (refine s_indexAddr1 El27 rfl rfl rfl ?hx ?_; case hx => (constructor <;> first | omega | (simp; omega)))
    refine s_load Try.isAgg33 rfl rfl (by rw [Int.toNat_natCast]; exact hcl2 w (_ :: Ld) _ hs) ?_
    have hS1 := (hin _ hm1).sl w fun p hp => hs.own p (by simp [hp])
    have hap1 := RdS.apart (hin _ hm1) (L0 := (q, Blk 56 (logCells p 63 ks.length false)) :: Ld) (fun b hb => (ids_disj (A := (q, Blk 56 (logCells p 63 ks.length false)) :: Ld) (B := Lv) (C := LX) (by
      have h9 : St [] w0 w (((q, Blk 56 (logCells p 63 ks.length false)) :: Ld) ++ (Lv ++ LX) ++ Lk) := by simpa using hs
      exact h9.left)).1 b hb)
    simp only at hS1 hap1
    refine s_callL (M := []) (L1 := _ :: Ld) (X := Lv ++ (LX ++ Lk)) Try.call13 rfl rfl hs (fun h => wAppend_ok hmx q p _ 63 ks.length false _ x1 Ld w hD hS1 hx1b.2 (by omega) hap1 (by omega) h) ?_
    obtain ⟨G, hG⟩ : ∃ G, G = logApp mx (oneDk K false false 0 63 F F.length) 63 ks.length false x1 := ⟨_, rfl⟩
    rw [← hG]
    clear hs hD; rintro u w L9 ⟨Ld, rfl, hD, rfl⟩ - hs
    simp only [List.nil_append, List.cons_append] at hs
    refine s_assign rfl rfl ?_
    refine WL_nil ?_
    refine n_then ?_
    refine W_cut (σ := WfT) (fun s => [(5, .int .i64 K), (6, .pointer (some ⟨p, 0, none⟩)), (7, .pointer (some ⟨q, 0, none⟩)), (10, .slice (some ⟨b1, o1, none⟩) rs.length cv), (11, s.v), (12, .int .i64 (i : Int))]) (fun s w => St [] w0 w ((q, Blk 56 (logCells p 63 s.ks.length false)) :: (s.Ld ++ (Lv ++ (LX ++ s.Lk)))) ∧ DiskAt p (oneDk K false false 0 63 (framesV mx 0 s.ks.x) (framesV mx 0 s.ks.x).length) s.Ld ∧ OwnS 33 1 s.v s.ks.length s.ks.v s.Lk ∧ RecsIn s.ks LX ∧ (∀ y ∈ s.ks, y ∈ rs) ∧ s.ks.length ≤ i + 1 ∧ ((framesV mx 0 s.ks.x).length : Int) ≤ K) ?_ ?_
    · skip
      refine W_seq ?_
      refine W_region ?_
      refine s_move rfl rfl ?_
      refine s_move rfl rfl ?_
      (refine s_add' rfl rfl rfl ?hx ?_; case hx => (constructor <;> omega))
      refine s_move rfl rfl ?_
      refine s_gtr rfl rfl rfl ?_
      refine WL_nil ?_
      refine n_then ?_
      refine W_cond rfl (fun hc71 => ?_) (fun hc71 => ?_)
      · skip
        try simp only [decide_eq_true_eq, decide_eq_false_iff_not, gt_iff_lt] at hc71
        rw [logApp_full (by omega) (by omega) (by rw [← hFN]; omega)] at hG
        rw [hG] at hD hs ⊢
        simp only at hD hs
        refine W_seq ?_
        refine W_region ?_
        refine s_move rfl rfl ?_
        refine s_neq rfl rfl rfl ?_
        refine s_move rfl rfl ?_
        refine WL_know (s := 74) (c := false) rfl (rfl) ?_
        refine WL_take rfl ?_
        refine s_move rfl rfl ?_
        refine WL_take rfl ?_
        refine s_callL (M := [_]) (L1 := Ld) (X := Lv ++ (LX ++ Lk)) Try.call11 rfl rfl hs (fun h => used_ok p _ Ld w hD h) ?_
        clear hs; rintro u w L9 ⟨hL9, rfl⟩ - hs
        rw [hL9] at hs
        clear hL9
        simp only [List.nil_append, List.cons_append] at hs
        rw [one_total (by omega)]
        refine WL_take rfl ?_
        refine s_move rfl rfl ?_
        refine WL_take rfl ?_
        refine s_neq rfl rfl rfl ?_
        refine s_pick_f rfl rfl rfl ?_
        refine WL_nil ?_
        refine n_then ?_
        refine W_cond_kf rfl ((by simp)) ?_
        refine W_skip ?_
        refine n_loop ?_
        first
          | (refine ⟨⟨ks ++ [(.slice au1 x1.length cu1, x1)], v', Lk', Ld⟩, ⟨rfl, rfl, rfl, rfl, rfl, rfl, trivial⟩, by rw [List.length_append]; exact hs, ?_, by rw [List.length_append, Recs.v_snoc]; exact hOk', ?_, ?_, by simp; omega, ?_⟩
             · simp only
               rw [Recs.x_snoc, framesV_snoc, Recs.x_length, Nat.zero_add, ← hF, ← hFN]; exact hD
             · intro y hy
               rcases List.mem_append.1 hy with hy | hy
               · exact hki y hy
               · rw [List.mem_singleton.1 hy]; exact hin _ hm1
             · intro y hy
               rcases List.mem_append.1 hy with hy | hy
               · exact hsub y hy
               · rw [List.mem_singleton.1 hy]; exact hm1
             · simp only
               rw [Recs.x_snoc, framesV_snoc, Recs.x_length, Nat.zero_add, ← hF, ← hFN, List.length_append]; omega)
          | exact ⟨⟨ks, _, Lk, Ld⟩, ⟨rfl, rfl, rfl, rfl, rfl, rfl, trivial⟩, hs, by rw [← hF]; exact hD, hOk, hki, hsub, by simp only; omega, by rw [← hF]; exact hFK⟩
      · skip
        try simp only [decide_eq_true_eq, decide_eq_false_iff_not, gt_iff_lt] at hc71
        rw [logApp_free (by omega) (by omega) (by rw [← hFN]; omega), ← hFN] at hG
        rw [hG] at hD hs ⊢
        simp only at hD hs
        refine W_seq ?_
        refine W_seq ?_
        refine W_region ?_
        refine s_move rfl rfl ?_
        refine s_neq rfl rfl rfl ?_
        refine s_move rfl rfl ?_
        refine WL_know (s := 82) (c := false) rfl (rfl) ?_
        refine WL_take rfl ?_
        refine s_move rfl rfl ?_
        refine WL_take rfl ?_
        refine s_callL (M := [_]) (L1 := Ld) (X := Lv ++ (LX ++ Lk)) Try.call11 rfl rfl hs (fun h => used_ok p _ Ld w hD h) ?_
        clear hs; rintro u w L9 ⟨hL9, rfl⟩ - hs
        rw [hL9] at hs
        clear hL9
        simp only [List.nil_append, List.cons_append] at hs
        rw [one_total (by omega), List.length_append, Int.natCast_add]
        refine WL_take rfl ?_
        refine s_move rfl rfl ?_
        refine WL_take rfl ?_
        refine s_move rfl rfl ?_
        refine WL_take rfl ?_
        first | (refine s_add' rfl rfl rfl ?hx ?_; case hx => (constructor <;> first | omega | (simp only; omega))) | refine s_add rfl rfl rfl ?_
        refine WL_take rfl ?_
        refine s_neq rfl rfl rfl ?_
        refine s_pick_f rfl rfl rfl ?_
        refine WL_nil ?_
        refine n_then ?_
        refine W_cond_kf rfl ((by simp)) ?_
        refine W_skip ?_
        refine n_then ?_
        refine W_region ?_
        refine s_move rfl rfl ?_
        refine s_move rfl rfl ?_
        refine s_move rfl rfl ?_
        (refine s_indexAddr1 El27 rfl rfl rfl ?hx ?_; case hx => (constructor <;> first | omega | (simp; omega)))
        refine s_load Try.isAgg33 rfl rfl (by rw [Int.toNat_natCast]; exact hcl2 w (_ :: Ld) _ hs) ?_
        refine s_buildSlice rfl rfl (BS27_1 _ _ _) hs ?_; clear hs; intro b95 w hs
        refine s_appendM (M := [_, _] ++ (Ld ++ (Lv ++ LX))) (X := []) El27 rfl rfl rfl hOk (St_into2 hs) (Sl_lit hs rfl) rfl (by simp [Value.oneCell']) (by simp only [List.length_cons, List.length_nil]; omega) ?_
        clear hs; intro v' w Lk' hOk' hs
        replace hs := St_back2 hs
        refine s_assign rfl rfl ?_
        refine WL_nil ?_
        refine n_loop ?_
        first
          | (refine ⟨⟨ks ++ [(.slice au1 x1.length cu1, x1)], v', Lk', Ld⟩, ⟨rfl, rfl, rfl, rfl, rfl, rfl, trivial⟩, by rw [List.length_append]; exact hs, ?_, by rw [List.length_append, Recs.v_snoc]; exact hOk', ?_, ?_, by simp; omega, ?_⟩
             · simp only
               rw [Recs.x_snoc, framesV_snoc, Recs.x_length, Nat.zero_add, ← hF, ← hFN]; exact hD
             · intro y hy
               rcases List.mem_append.1 hy with hy | hy
               · exact hki y hy
               · rw [List.mem_singleton.1 hy]; exact hin _ hm1
             · intro y hy
               rcases List.mem_append.1 hy with hy | hy
               · exact hsub y hy
               · rw [List.mem_singleton.1 hy]; exact hm1
             · simp only
               rw [Recs.x_snoc, framesV_snoc, Recs.x_length, Nat.zero_add, ← hF, ← hFN, List.length_append]; omega)
          | exact ⟨⟨ks, _, Lk, Ld⟩, ⟨rfl, rfl, rfl, rfl, rfl, rfl, trivial⟩, hs, by rw [← hF]; exact hD, hOk, hki, hsub, by simp only; omega, by rw [← hF]; exact hFK⟩
    · skip
      clear hs hD hOk hki hsub hkl hFK
      rintro ⟨ks, vk, Lk, Ld⟩ w ⟨hs, hD, hOk, hki, hsub, hkl, hFK⟩
      simp only at hs hD hOk hki hsub hkl hFK ⊢
      obtain ⟨_, ck, ak, rfl, hvk⟩ := hOk.form
      subst hvk
      refine W_seq ?_
      refine W_region ?_
      refine s_move rfl rfl ?_
      refine s_callL (M := []) (L1 := [_]) (X := Ld ++ (Lv ++ (LX ++ Lk))) Try.call14 rfl rfl hs (fun h => wLen_ok q p 63 ks.length false w h) ?_
      clear hs; rintro u w L9 ⟨rfl, rfl⟩ - hs
      simp only [List.nil_append, List.cons_append] at hs
      refine s_move rfl rfl ?_
      refine s_len rfl rfl (LN27 _ _ _ _) ?_
      refine s_neq rfl rfl rfl ?_
      refine s_move rfl rfl ?_
      refine WL_know (s := 102) (c := false) rfl ((by simp)) ?_
      refine WL_take rfl ?_
      refine s_move rfl rfl ?_
      refine WL_take rfl ?_
      refine s_callL (M := []) (L1 := [_]) (X := Ld ++ (Lv ++ (LX ++ Lk))) Try.call15 rfl rfl hs (fun h => wUp_ok q p 63 ks.length false w h) ?_
      clear hs; rintro u w L9 ⟨rfl, rfl⟩ - hs
      simp only [List.nil_append, List.cons_append] at hs
      refine WL_take rfl ?_
      refine s_not rfl rfl ?_
      refine s_pick_f rfl rfl rfl ?_
      refine WL_nil ?_
      refine n_then ?_
      refine W_cond_kf rfl (rfl) ?_
      refine W_skip ?_
      refine n_blk ?_
      refine n_then ?_
      refine W_region ?_
      refine s_move rfl rfl ?_
      first | (refine s_add' rfl rfl rfl ?hx ?_; case hx => (constructor <;> first | omega | (simp only; omega))) | refine s_add rfl rfl rfl ?_
      refine s_assign rfl rfl ?_
      refine WL_nil ?_
      refine n_loop ?_
      exact ⟨⟨i + 1, ks, _, Lk, Ld⟩, ⟨rfl, rfl, rfl, rfl, rfl, rfl, trivial⟩, ⟨hs, hD, hOk, hki, hsub, hkl, hFK, hil⟩, by simp only; omega⟩
  · skip
    try simp only [decide_eq_true_eq, decide_eq_false_iff_not, gt_iff_lt] at hc48
    refine W_exit ?_
    refine x_then ?_
    refine x_then ?_
    refine exit_hit ?_
    refine n_then ?_
    refine W_seq ?_
    refine W_region ?_
    refine s_move rfl rfl ?_
    refine s_callL (M := [_]) (L1 := Ld) (X := Lv ++ (LX ++ Lk)) Try.call9 rfl rfl hs (fun h => wOpenF_ok hmx p _ 63 ks.x Ld w hD (by omega) rfl rfl (by rw [(one_c _ _ _ _ _ _ _).1]; omega) (by rw [(one_c _ _ _ _ _ _ _).1, hF]; exact scan_whole mx ks.x) h) ?_
    rw [one_opened (by rw [hF]; exact Nat.le_refl _), ← hF, List.take_of_length_le (Nat.le_refl _)]
    clear hs hD; rintro u w L9 ⟨q2, r2, u2, Lu2, Lx2, Ld, hr2, rfl, rfl, hD, hO2, hin2⟩ - hs
    replace hs : St [] w0 w ([_] ++ (Ld ++ (Lu2 ++ (Lx2 ++ (LX ++ Lk))))) := St.reord [[_], [_], Lu2, Lx2, Ld, Lv, LX, Lk] [0, 4, 2, 3, 6, 7] [1, 5] (by simpa [cat] using hs) rfl
    obtain ⟨_, c2, a2, rfl, hv2⟩ := hO2.form
    subst hv2
    have hr2l : r2.length = ks.length := by rw [← Recs.x_length, hr2, Recs.x_length]
    refine s_move rfl rfl ?_
    refine s_extract rfl rfl rfl ?_
    refine s_extract rfl rfl rfl ?_
    refine s_extract rfl rfl rfl ?_
    refine s_assign rfl rfl ?_
    refine s_assign rfl rfl ?_
    refine s_assign rfl rfl ?_
    refine WL_nil ?_
    refine n_then ?_
    refine W_seq ?_
    refine W_region ?_
    refine s_call Try.call9 rfl rfl (wOpen_nil 0 w) ?_
    rintro r w ⟨hst, rfl⟩
    replace hs := hs.fwd1 hst
    clear hst
    refine s_move rfl rfl ?_
    refine s_extract rfl rfl rfl ?_
    refine s_extract rfl rfl rfl ?_
    refine s_extract rfl rfl rfl ?_
    refine s_assign rfl rfl ?_
    refine s_assign rfl rfl ?_
    refine s_assign rfl rfl ?_
    refine WL_nil ?_
    refine n_then ?_
    refine W_seq ?_
    refine W_region ?_
    refine s_move rfl rfl ?_
    refine s_callL (M := [_]) (L1 := Ld) (X := Lu2 ++ (Lx2 ++ (LX ++ Lk))) Try.call9 rfl rfl hs (fun h => wOpen_ok hmx p _ 64 Ld w hD h64I (by simp [oneDk]) h) ?_
    have hq64 := readE_arg (D := oneDk K false false 0 63 F F.length) (f := 64) (by omega)
    clear hs; rintro u w L9 (⟨-, rfl, -⟩ | ⟨h9, -⟩) - hs
    rotate_left
    · rw [hq64.1] at h9; exact absurd h9 (by decide)
    rw [hq64.1]
    refine s_move rfl rfl ?_
    refine s_extract rfl rfl rfl ?_
    refine s_extract rfl rfl rfl ?_
    refine s_extract rfl rfl rfl ?_
    refine s_assign rfl rfl ?_
    refine s_assign rfl rfl ?_
    refine s_assign rfl rfl ?_
    refine WL_nil ?_
    refine n_then ?_
    refine W_seq ?_
    refine W_region ?_
    refine s_move rfl rfl ?_
    refine s_eql rfl rfl rfl ?_
    refine s_move rfl rfl ?_
    refine WL_know (s := 126) (c := true) rfl (rfl) ?_
    refine WL_take rfl ?_
    refine s_move rfl rfl ?_
    refine WL_take rfl ?_
    refine s_eql rfl rfl rfl ?_
    refine s_pick_t rfl rfl rfl ?_
    refine s_move rfl rfl ?_
    refine WL_know (s := 130) (c := true) rfl (rfl) ?_
    refine WL_take rfl ?_
    refine s_move rfl rfl ?_
    refine WL_take rfl ?_
    refine s_eql rfl rfl rfl ?_
    refine s_pick_t rfl rfl rfl ?_
    refine s_move rfl rfl ?_
    refine WL_know (s := 134) (c := true) rfl (rfl) ?_
    refine WL_take rfl ?_
    refine s_move rfl rfl ?_
    refine WL_take rfl ?_
    refine s_move rfl rfl ?_
    refine WL_take rfl ?_
    refine s_call Try.call16 rfl rfl (sameLists_ok _ _ r2 ks w (OwnS_slIn hO2 fun p hp => hs.own p (by simp [hp])) (OwnS_slIn hOk fun p hp => hs.own p (by simp [hp])) (fun x hx => (hin2 x hx).sl w fun p hp => hs.own p (by simp [hp])) (fun x hx => (hki x hx).sl w fun p hp => hs.own p (by simp [hp])) (by omega) (fun x hx => by
      have h1 : x.2 ∈ ks.x := by rw [← hr2]; exact List.mem_map_of_mem hx
      obtain ⟨y, hy, hyx⟩ := List.mem_map.1 h1
      have h2 := (hsm2 y.2 (List.mem_map_of_mem (hsub y hy))).1
      rw [← hyx]; omega)) ?_
    rintro r w ⟨hst, rfl⟩
    replace hs := hs.fwd1 hst
    clear hst
    rw [hr2]
    refine s_pick_t rfl rfl rfl ?_
    refine s_move rfl rfl ?_
    refine WL_know (s := 139) (c := true) rfl ((by simp)) ?_
    refine WL_take rfl ?_
    refine s_move rfl rfl ?_
    refine WL_take rfl ?_
    refine s_makeSlice El33 rfl rfl rfl ?hx hs ?_
    case hx => (refine ⟨?_, ?_, ?_, ?_⟩ <;> omega)
    clear hs; intro b141 w hs
    refine WL_take rfl ?_
    refine s_call Try.call13 rfl rfl (wAppendL_ok q _ _ _ w (by decide)) ?_
    rintro r w ⟨hst, rfl⟩
    replace hs := hs.fwd1 hst
    clear hst
    refine WL_take rfl ?_
    refine s_eql rfl rfl rfl ?_
    refine s_pick_t rfl rfl rfl ?_
    refine s_move rfl rfl ?_
    refine WL_know (s := 145) (c := true) rfl (rfl) ?_
    refine WL_take rfl ?_
    refine s_call Try.call17 rfl rfl (lives_ok w) ?_
    rintro r w ⟨hst, rfl⟩
    replace hs := hs.fwd1 hst
    clear hst
    refine s_pick_t rfl rfl rfl ?_
    refine s_assign rfl rfl ?_
    refine WL_nil ?_
    refine n_then ?_
    refine W_ret ?_
    exact end1 rfl rfl ⟨hs.fwd, rfl⟩
end Go.Proofs.Ytkappdlbpilghaa
