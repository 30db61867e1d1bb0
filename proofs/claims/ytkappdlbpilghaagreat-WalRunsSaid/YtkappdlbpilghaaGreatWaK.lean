/- A round with two values; bytes.Equal, bytes.HasPrefix; the iterator over frames. -/
import Derived.Test.YtkappdlbpilghaaGreatWaJ
set_option linter.unusedVariables false
set_option linter.unusedSimpArgs false
namespace Go.SL
theorem round_St2 {P : Program} {n lp : Nat} {l : Fr} {w : World} {F : List Nat} {w0 : World} {L : Hp} {fn p q D : Nat} {tm : Array Value} {assign body : Code} {v u : Value} {R : World → Prop}
    (hs : St F w0 w ((lp, .loop (lrec .ready fn tm #[p, q] assign body D)) :: L)) (hp : Nat.blt p n = true) (hq : Nat.blt q n = true) (hA : Agr n l ⟨tm, []⟩)
    (h : WR P lp n assign (fun l1 w1 => St F w0 w1 ((lp, .loop (lrec .ready fn tm #[p, q] assign body D)) :: L) ∧
      ∀ w2, St F w0 w2 ((lp, .loop (lrec .busy fn tm #[p, q] assign body D)) :: L) → WR P lp n body (fun _ w3 => ∃ L', St F w0 w3 ((lp, .loop (lrec .busy fn tm #[p, q] assign body D)) :: L') ∧
        ∀ w4, St F w0 w4 ((lp, .loop (lrec .ready fn tm #[p, q] assign body D)) :: L') → R w4) l1 w2) ((q, u) :: (p, v) :: l) w) :
    YieldAt Fence.wide 0 P lp #[v, u] w (fun e w' => e = .returned (.bool true) ∧ R w') := by
  refine ⟨fn, _, assign, body, run_yield (hs.at (k := 0) rfl) rfl, roundIn_of_wpIn trivial ?_⟩
  have h0 := h _ ((hA.put hp v).put hq u)
  have he : ({ tmps := (#[p, q].zip #[v, u]).foldl (fun tmps (t, a) => tmps.setIfInBounds t a) tm, defers := [] } : Act) = ((⟨tm, []⟩ : Act).put (some p) v).put (some q) u := by simp [Act.put]
  show assign.wpIn _ _ _ _ ({ tmps := (#[p, q].zip #[v, u]).foldl (fun tmps (t, a) => tmps.setIfInBounds t a) tm, defers := [] } : Act) w
  rw [he]
  refine wpIn_mono h0 ?_
  rintro e a1 w1 ⟨l1, ⟨ha1, hd1⟩, hq⟩
  cases e with
  | normal =>
    obtain ⟨hs1, hb⟩ := hq
    refine ⟨_, run_beginRound (hs1.at (k := 0) rfl) rfl, ?_⟩
    refine wpIn_mono (hb _ (hs1.putObj _) _ ha1) ?_
    rintro e a2 w2 ⟨l2, _, hq2⟩
    cases e with
    | normal =>
      obtain ⟨L', hs2, hk⟩ := hq2
      exact ⟨_, _, run_endRound none (hs2.at (k := 0) rfl), rfl, hk _ (hs2.putObj _)⟩
    | _ => exact hq2.elim
  | _ => exact hq.elim
end Go.SL
namespace Go.Proofs.YtkappdlbpilghaaGreat
open Go.SL
theorem bEqual_ok (va vb : Value) (xs ys : List Int) (w0 : World) (ha : Sl w0 va xs.length (u8s xs)) (hb : Sl w0 vb ys.length (u8s ys)) (hx : ∀ b ∈ xs, isB b) (hy : ∀ b ∈ ys, isB b) :
    Ret Tryz.prog 78 [va, vb].toArray w0 fun v w' => Fwd [] w0 w' ∧ v = .bool (decide (xs = ys)) := by
  refine Ret_start fun w hs => ?_
  refine Ret_of Tryz.func78 rfl Tryz.ntmps78 rfl ?_
  refine W_seq ?_
  refine W_region ?_
  refine s_assign rfl rfl ?_
  refine WL_nil ?_
  refine n_then ?_
  refine W_seq ?_
  refine W_region ?_
  refine s_move rfl rfl ?_
  refine s_bytes_str (bs := xs) Tryz.underlying39 Tryz.underlying5 Tryz.underlying9 rfl rfl (ha.fwd0 hs.fwd) rfl ?_
  refine s_move rfl rfl ?_
  refine s_bytes_str (bs := ys) Tryz.underlying39 Tryz.underlying5 Tryz.underlying9 rfl rfl (hb.fwd0 hs.fwd) rfl ?_
  refine s_eql_S rfl rfl rfl ?_
  refine s_assign rfl rfl ?_
  refine WL_nil ?_
  refine n_then ?_
  refine W_ret ?_
  exact end1 rfl rfl ⟨hs.fwd, by simp only [strOf_eq hx hy]⟩
theorem hasPrefix_ok (va vb : Value) (xs ys : List Int) (w0 : World) (ha : Sl w0 va xs.length (u8s xs)) (hb : Sl w0 vb ys.length (u8s ys)) (hx : ∀ b ∈ xs, isB b) (hy : ∀ b ∈ ys, isB b) :
    Ret Tryz.prog 63 [va, vb].toArray w0 fun v w' => Fwd [] w0 w' ∧ ∃ t, v = .bool t ∧ (t = true ↔ ∃ r, xs = ys ++ r) := by
  obtain ⟨a, c, rfl, hac⟩ := ha.len_le
  obtain ⟨b, cb, rfl, hbc⟩ := hb.len_le
  refine Ret_start fun w hs => ?_
  refine Ret_of Tryz.func63 rfl Tryz.ntmps63 rfl ?_
  refine W_seq ?_
  refine W_region ?_
  refine s_assign rfl rfl ?_
  refine WL_nil ?_
  refine n_then ?_
  refine W_seq ?_
  refine W_region ?_
  refine s_move rfl rfl ?_
  refine s_len rfl rfl (LN39 _ _ _ _) ?_
  refine s_move rfl rfl ?_
  refine s_len rfl rfl (LN39 _ _ _ _) ?_
  refine s_geq rfl rfl rfl ?_
  refine s_move rfl rfl ?_
  refine WL_case (s := 10) rfl (fun hg10 => ?_) (fun hg10 => ?_)
  · skip
    try simp only [decide_eq_true_eq, decide_eq_false_iff_not] at hg10
    refine WL_take rfl ?_
    refine s_move rfl rfl ?_
    refine WL_take rfl ?_
    refine s_move rfl rfl ?_
    refine WL_take rfl ?_
    refine s_len rfl rfl (LN39 _ _ _ _) ?_
    refine WL_take rfl ?_
    (refine s_slice_hi El39 rfl rfl rfl ?hx ?_; case hx => (constructor <;> omega))
    refine WL_take rfl ?_
    refine s_move rfl rfl ?_
    refine WL_take rfl ?_
    have htk := (ha.fwd0 hs.fwd).take (k := ys.length) (size := 1) (by omega) rfl
    rw [Nat.mul_one, ← List.map_take] at htk
    refine s_call Tryz.call78 rfl rfl (bEqual_ok _ _ (xs.take ys.length) ys w (by rw [List.length_take, Nat.min_eq_left (by omega), Int.toNat_natCast]; exact htk) (hb.fwd0 hs.fwd) (fun z hz => hx z (List.mem_of_mem_take hz)) hy) ?_
    rintro r w ⟨hst, rfl⟩
    replace hs := hs.fwd1 hst
    clear hst
    refine s_pick_t rfl rfl rfl ?_
    refine s_assign rfl rfl ?_
    refine WL_nil ?_
    refine n_then ?_
    refine W_ret ?_
    first
      | (refine end1 rfl rfl ⟨hs.fwd, decide (xs.take ys.length = ys), rfl, ?_⟩
         rw [decide_eq_true_eq]
         constructor
         · intro h; exact ⟨xs.drop ys.length, by conv => lhs; rw [← List.take_append_drop ys.length xs]
                                                 rw [h]⟩
         · rintro ⟨r, rfl⟩; exact List.take_left)
      | (refine end1 rfl rfl ⟨hs.fwd, false, rfl, ?_⟩
         constructor
         · intro h; cases h
         · rintro ⟨r, rfl⟩; simp only [List.length_append] at *; omega)
  · skip
    try simp only [decide_eq_true_eq, decide_eq_false_iff_not] at hg10
    refine WL_skip rfl rfl rfl ?_
    refine WL_skip rfl rfl rfl ?_
    refine WL_skip rfl rfl rfl ?_
    refine WL_skip rfl rfl rfl ?_
    refine WL_skip rfl rfl rfl ?_
    refine WL_skip rfl rfl rfl ?_
    refine s_pick_f rfl rfl rfl ?_
    refine s_assign rfl rfl ?_
    refine WL_nil ?_
    refine n_then ?_
    refine W_ret ?_
    first
      | (refine end1 rfl rfl ⟨hs.fwd, decide (xs.take ys.length = ys), rfl, ?_⟩
         rw [decide_eq_true_eq]
         constructor
         · intro h; exact ⟨xs.drop ys.length, by conv => lhs; rw [← List.take_append_drop ys.length xs]
                                                 rw [h]⟩
         · rintro ⟨r, rfl⟩; exact List.take_left)
      | (refine end1 rfl rfl ⟨hs.fwd, false, rfl, ?_⟩
         constructor
         · intro h; cases h
         · rintro ⟨r, rfl⟩; simp only [List.length_append] at *; omega)
theorem frames_ok (a : Option Addr) (n c : Nat) (w0 : World) : Ret Tryz.prog 43 [.slice a n c].toArray w0 fun r w' => ∃ b, r = .func (.func 57) [].toArray [.pointer (some ⟨b, 0, none⟩)].toArray ∧ St [] w0 w' [(b, Blk 39 [.slice a n c])] := by
  refine Ret_start fun w hs => ?_
  refine Ret_of Tryz.func43 rfl Tryz.ntmps43 rfl ?_
  refine W_seq ?_
  refine W_region ?_
  first | refine s_box rfl rfl hs ?_ | refine s_box1 rfl rfl rfl hs ?_
  clear hs; intro b1 w hs
  refine s_assign rfl rfl ?_
  refine WL_nil ?_
  refine n_then ?_
  refine W_seq ?_
  refine W_region ?_
  refine s_makeFunc rfl rfl rfl ?_
  refine s_assign rfl rfl ?_
  refine WL_nil ?_
  refine n_then ?_
  refine W_ret ?_
  exact end1 rfl rfl ⟨b1, rfl, hs⟩
theorem frameV_isB {mx : Nat → Nat → Nat} {n : Int} {x : List Int} (h : ∀ b ∈ x, isB b) : ∀ b ∈ frameV mx n x, isB b := by
  intro b hb
  rw [frameV, List.mem_append, List.mem_append] at hb
  rcases hb with (hb | hb) | hb
  · exact uvar_isB _ b hb
  · exact coreV_isB h b hb
  · exact uvar_isB _ b hb
theorem empty_parse : rdEnd (rdRaw (rdI ⟨(rdRaw ⟨[], 0⟩).1, 0⟩).2).2 = 3 := by
  have h1 : rdRaw ⟨[], 0⟩ = ([], ⟨[], 3⟩) := by simp [rdRaw, rdU, pu]
  rw [h1]
  have h2 : (rdI ⟨[], 0⟩).2 = ⟨[], 3⟩ := by simp [rdI, rdU, pu]
  simp only [h2]
  simp [rdRaw, rdU, rdEnd]
structure ItS where
  rs : Recs
  rest : List Int
  LO : Hp
  LB : Hp
set_option maxHeartbeats 2000000 in
theorem iterF_ok {mx : Nat → Nat → Nat} (hmx : IsMix mx) (lp b : Nat) (a : Option Addr) (c : Nat) (bs : List Int) (hB : ∀ z ∈ bs, isB z) (hl : bs.length ≤ 1048576) (F : List Nat) (w0 : World) (I : Recs → Hp → Prop)
    (hrd : ∀ rs w LB, I rs LB → St F w0 w LB → w.cell? ⟨b, 0, none⟩ = some (.slice a bs.length c) ∧ Sl w (.slice a bs.length c) bs.length (u8s bs))
    (round : ∀ rs w LO LB u x LX q, I rs LB → bs = framesV mx 0 rs.x ++ (frameV mx (rs.length : Int) x ++ q) → OwnS 5 1 u x.length (u8s x) LX → (∀ z ∈ x, isB z) → St F w0 w (LO ++ (LX ++ LB)) →
      YieldAt Fence.wide 0 Tryz.prog lp #[u, .int .i64 ((framesV mx 0 (Recs.x (rs ++ [(u, x)]))).length : Int)] w (fun e w' => e = .returned (.bool true) ∧ ∃ LB', I (rs ++ [(u, x)]) LB' ∧ St F w0 w' (LO ++ LB')))
    (w : World) (LB0 : Hp) (h0 : I [] LB0) (hs : St F w0 w LB0) :
    Ret Tryz.prog 57 [.func (.yield lp) #[] #[], .pointer (some ⟨b, 0, none⟩)].toArray w fun _ w' => ∃ rs LB', I rs LB' ∧ St F w0 w' LB' ∧ IsScan mx 0 bs rs.x := by
  refine Ret_of Tryz.func57 rfl Tryz.ntmps57 rfl ?_
  refine W_seq ?_
  refine W_region ?_
  refine s_load Tryz.isAgg39 rfl rfl (hrd [] w LB0 h0 hs).1 ?_
  refine s_call Tryz.call58 rfl rfl (read_ok _ bs w (hrd [] w LB0 h0 hs).2 (by omega) hB) ?_
  rintro r w ⟨p, LO0, rfl, hR0, hst⟩
  replace hs := St.back0 hs hst
  clear hst
  refine s_assign rfl rfl ?_
  refine WL_nil ?_
  refine n_then ?_
  refine W_seq ?_
  refine W_region ?_
  refine s_assign rfl rfl ?_
  refine s_assign rfl rfl ?_
  refine WL_nil ?_
  refine n_then ?_
  refine W_block ?_
  refine W_loop (σ := ItS) (fun s => [(0, .func (.yield lp) #[] #[]), (1, .pointer (some ⟨b, 0, none⟩)), (3, .pointer (some ⟨p, 0, none⟩)), (4, .int .i64 (s.rs.length : Int)), (5, .int .i64 ((framesV mx 0 s.rs.x).length : Int))]) (fun s w => St F w0 w (s.LO ++ s.LB) ∧ RdAt p ⟨s.rest, 0⟩ s.LO ∧ I s.rs s.LB ∧ bs = framesV mx 0 s.rs.x ++ s.rest) (fun s => s.rest.length) ⟨[], bs, LO0, LB0⟩ ⟨rfl, rfl, rfl, rfl, rfl, trivial⟩ ⟨hs, hR0, h0, rfl⟩ ?_
  clear hs h0 hR0
  rintro ⟨rs, rest, LO, LB⟩ w ⟨hs, hR, hI, hbs⟩
  simp only at hs hR hI hbs ⊢
  have hbl := congrArg List.length hbs
  rw [List.length_append] at hbl
  have hcnt := framesV_cnt (mx := mx) (n := 0) (xs := rs.x)
  rw [Recs.x_length] at hcnt
  have hnI : isI64 (rs.length : Int) := by unfold isI64; omega
  have hrB : ∀ z ∈ rest, isB z := fun z hz => hB z (by rw [hbs]; exact List.mem_append_right _ hz)
  have hm1 := rdRaw_mem (s := ⟨rest, 0⟩) (N := 1048576) (fun _ => ⟨hrB, by simp only; omega⟩)
  have hem : rest = [] → rdEnd (rdRaw (rdI ⟨(rdRaw ⟨rest, 0⟩).1, 0⟩).2).2 = 3 := by rintro rfl; exact empty_parse
  have hno0 : ∀ x q, rest = frameV mx (rs.length : Int) x ++ q → (rdRaw ⟨rest, 0⟩).1 = coreV rs.length x ∧ (rdU (rdRaw ⟨rest, 0⟩).2).2 = ⟨q, 0⟩ ∧ rdI ⟨(rdRaw ⟨rest, 0⟩).1, 0⟩ = ((rs.length : Int), ⟨uvar x.length ++ x, 0⟩) ∧ rdRaw (rdI ⟨(rdRaw ⟨rest, 0⟩).1, 0⟩).2 = (x, ⟨[], 0⟩) := by
    intro x q h
    have hxl : x.length ≤ 1048576 := by have := frame_len (mx := mx) (n := (rs.length : Int)) (x := x); have := congrArg List.length h; simp only [List.length_append] at this; omega
    obtain ⟨a1, a2, a3, a4⟩ := frame_parse hmx q hnI hxl
    rw [← h] at a1
    rw [a1]
    refine ⟨rfl, ?_, a3, ?_⟩
    · show (rdU ⟨_, 0⟩).2 = _
      rw [a2]
    · show rdRaw (rdI ⟨coreV (rs.length : Int) x, 0⟩).2 = _
      rw [a3]; exact a4
  generalize hR1 : rdRaw ⟨rest, 0⟩ = R1 at hm1 hno0 hem
  obtain ⟨core, s1⟩ := R1
  simp only at hm1 hno0 hem
  generalize hR2 : rdI ⟨core, 0⟩ = R2 at hno0 hem
  obtain ⟨z2, s2⟩ := R2
  simp only at hno0 hem
  have hb2 : s2.e = 0 → (∀ b ∈ s2.rest, isB b) ∧ s2.rest.length ≤ 1048576 := by
    intro h
    have h2 : (rdI ⟨core, 0⟩).2 = s2 := by rw [hR2]
    obtain ⟨_, k, hk, h3⟩ := rdU_rest (s := ⟨core, 0⟩) (fun _ => hm1.1) (by rw [rdI] at h2; simp only at h2; rw [h2]; exact h)
    rw [rdI] at h2; simp only at h2
    rw [h2] at h3
    rw [h3]
    exact ⟨fun b hb => hm1.1 b (List.mem_of_mem_drop hb), by rw [List.length_drop]; have := hm1.2; simp only at *; omega⟩
  have hm3 := rdRaw_mem (s := s2) (N := 1048576) hb2
  generalize hR3 : rdRaw s2 = R3 at hm3 hno0 hem
  obtain ⟨x, s3⟩ := R3
  simp only at hm3 hno0 hem
  have hfin : ∀ w, St F w0 w LB → noFrame mx rs.length rest → ∃ rs LB', I rs LB' ∧ St F w0 w LB' ∧ IsScan mx 0 bs rs.x := fun w h1 h2 => ⟨rs, LB, hI, h1, rest, hbs, by rw [Nat.zero_add, Recs.x_length]; exact h2⟩
  refine W_seq ?_
  refine W_block ?_
  refine W_seq ?_
  refine W_region ?_
  refine s_move rfl rfl ?_
  refine s_callL (M := []) (L1 := LO) (X := LB) Tryz.call59 rfl rfl hs (fun h => rRaw_ok p ⟨rest, 0⟩ LO w hR h) ?_
  clear hs hR; rintro v1 w L1 ⟨LR, Lc, rfl, hR, hOc⟩ - hs
  rw [hR1] at hR hOc
  simp only [List.nil_append, List.append_assoc] at hs hR hOc
  obtain ⟨_, cc, ac, rfl, rfl⟩ := hOc.form
  refine s_assign rfl rfl ?_
  refine WL_nil ?_
  refine n_then ?_
  refine W_seq ?_
  refine W_region ?_
  refine s_move rfl rfl ?_
  refine s_callL (M := []) (L1 := LR) (X := Lc ++ LB) Tryz.call60 rfl rfl hs (fun h => rUint_ok p s1 LR w hR h) ?_
  clear hs hR; rintro v2 w LU ⟨hR, rfl⟩ - hs
  simp only [List.nil_append] at hs
  refine WL_nil ?_
  refine n_then ?_
  refine W_seq ?_
  refine W_region ?_
  refine s_move rfl rfl ?_
  refine s_call Tryz.call58 rfl rfl (read_ok _ core w (hOc.slM (M := LU) (X := LB) hs) (by have := hm1.2; omega) hm1.1) ?_
  rintro r w ⟨pi, Li, rfl, hRi, hst⟩
  replace hs := St.back0 hs hst
  clear hst
  refine s_assign rfl rfl ?_
  refine WL_nil ?_
  refine n_then ?_
  refine W_seq ?_
  refine W_region ?_
  refine s_move rfl rfl ?_
  refine s_callL (M := []) (L1 := Li) (X := LU ++ (Lc ++ LB)) Tryz.call61 rfl rfl hs (fun h => rInt_ok pi ⟨core, 0⟩ Li w hRi h) ?_
  clear hs hRi; rintro v2 w Li ⟨hRi, rfl⟩ - hs
  rw [hR2] at hRi ⊢
  simp only [List.nil_append] at hs hRi ⊢
  refine s_move rfl rfl ?_
  refine s_callL (M := []) (L1 := Li) (X := LU ++ (Lc ++ LB)) Tryz.call59 rfl rfl hs (fun h => rRaw_ok pi s2 Li w hRi h) ?_
  clear hs hRi; rintro v2 w L3 ⟨Li, Lx, rfl, hRi, hOx⟩ - hs
  rw [hR3] at hRi hOx
  simp only [List.nil_append, List.append_assoc] at hs hRi hOx
  obtain ⟨_, cx, ax, rfl, rfl⟩ := hOx.form
  refine s_assign rfl rfl ?_
  refine s_assign rfl rfl ?_
  refine WL_nil ?_
  refine n_then ?_
  refine W_seq ?_
  refine W_seq ?_
  refine W_region ?_
  refine s_move rfl rfl ?_
  refine s_callL (M := []) (L1 := Li) (X := Lx ++ (LU ++ (Lc ++ LB))) Tryz.call62 rfl rfl hs (fun h => rEnd_ok pi s3 Li w hRi h) ?_
  clear hs; rintro v2 w L9 ⟨hL9, rfl⟩ - hs
  rw [hL9] at hs; clear hL9 L9
  simp only [List.nil_append] at hs
  refine s_neq rfl rfl rfl ?_
  refine s_move rfl rfl ?_
  refine WL_case (s := 28) rfl (fun hg28 => ?_) (fun hg28 => ?_)
  · skip
    try simp only [decide_eq_true_eq, decide_eq_false_iff_not, bne_iff_ne, ne_eq, bne_eq_false_iff_eq] at hg28
    refine WL_skip rfl rfl rfl ?_
    refine WL_skip rfl rfl rfl ?_
    refine WL_skip rfl rfl rfl ?_
    refine s_pick_t rfl rfl rfl ?_
    refine WL_nil ?_
    refine n_then ?_
    refine W_cond_t rfl ?_
    refine W_ret ?_
    refine r_then ?_
    refine r_blk ?_
    refine r_then ?_
    refine r_then ?_
    refine r_blk ?_
    first
      | (have h9 : ¬ rdEnd s3 = 0 := ‹_›
         refine end0 rfl (hfin w ((((hs.right (M := Li)).right (M := Lx)).right (M := LU)).right (M := Lc)) fun y q h => ?_)
         obtain ⟨_, _, _, h4⟩ := hno0 y q h
         cases h4
         exact h9 rfl)
      | (have h9 : ¬ z2 = (rs.length : Int) := ‹_›
         refine end0 rfl (hfin w ((((hs.right (M := Li)).right (M := Lx)).right (M := LU)).right (M := Lc)) fun y q h => ?_)
         obtain ⟨_, _, h4, _⟩ := hno0 y q h
         cases h4
         exact h9 rfl)
      | (refine end0 rfl (hfin w (hsB w hs) fun y q h => ?_)
         obtain ⟨_, _, _, h4⟩ := hno0 y q h
         cases h4
         have h9 := ht.2 ⟨q, h⟩
         rw [h9] at hc41
         cases hc41)
  · skip
    try simp only [decide_eq_true_eq, decide_eq_false_iff_not, bne_iff_ne, ne_eq, bne_eq_false_iff_eq] at hg28
    refine WL_take rfl ?_
    refine s_move rfl rfl ?_
    refine WL_take rfl ?_
    refine s_move rfl rfl ?_
    refine WL_take rfl ?_
    refine s_neq rfl rfl rfl ?_
    refine s_pick_f rfl rfl rfl ?_
    refine WL_nil ?_
    refine n_then ?_
    refine W_cond rfl (fun hc32 => ?_) (fun hc32 => ?_)
    · skip
      try simp only [decide_eq_true_eq, decide_eq_false_iff_not, bne_iff_ne, ne_eq, bne_eq_false_iff_eq] at hc32
      refine W_ret ?_
      refine r_then ?_
      refine r_blk ?_
      refine r_then ?_
      refine r_then ?_
      refine r_blk ?_
      first
        | (have h9 : ¬ rdEnd s3 = 0 := ‹_›
           refine end0 rfl (hfin w ((((hs.right (M := Li)).right (M := Lx)).right (M := LU)).right (M := Lc)) fun y q h => ?_)
           obtain ⟨_, _, _, h4⟩ := hno0 y q h
           cases h4
           exact h9 rfl)
        | (have h9 : ¬ z2 = (rs.length : Int) := ‹_›
           refine end0 rfl (hfin w ((((hs.right (M := Li)).right (M := Lx)).right (M := LU)).right (M := Lc)) fun y q h => ?_)
           obtain ⟨_, _, h4, _⟩ := hno0 y q h
           cases h4
           exact h9 rfl)
        | (refine end0 rfl (hfin w (hsB w hs) fun y q h => ?_)
           obtain ⟨_, _, _, h4⟩ := hno0 y q h
           cases h4
           have h9 := ht.2 ⟨q, h⟩
           rw [h9] at hc41
           cases hc41)
    · skip
      try simp only [decide_eq_true_eq, decide_eq_false_iff_not, bne_iff_ne, ne_eq, bne_eq_false_iff_eq] at hc32
      refine W_skip ?_
      refine n_then ?_
      refine W_seq ?_
      refine W_region ?_
      refine s_move rfl rfl ?_
      refine s_move rfl rfl ?_
      have he3 : rdEnd s3 = 0 := ‹_›
      refine s_call Tryz.call35 rfl rfl (frame_ok hmx (rs.length : Int) _ x w (hOx.slM (M := Li) (X := LU ++ (Lc ++ LB)) hs) hnI hm3.1 hm3.2) ?_
      rintro r w ⟨LF, hOF, hst⟩
      replace hs := St.back0 hs hst
      clear hst
      obtain ⟨_, cF, aF, rfl, rfl⟩ := hOF.form
      have hsB : ∀ w, St F w0 w (LF ++ (Li ++ (Lx ++ (LU ++ (Lc ++ LB))))) → St F w0 w LB := fun w h => ((((h.right (M := LF)).right (M := Li)).right (M := Lx)).right (M := LU)).right (M := Lc)
      have hne : rest ≠ [] := fun h => by have := hem h; omega
      refine s_assign rfl rfl ?_
      refine WL_nil ?_
      refine n_then ?_
      refine W_seq ?_
      refine W_seq ?_
      refine W_region ?_
      refine s_load Tryz.isAgg39 rfl rfl (hrd rs w LB hI (hsB w hs)).1 ?_
      obtain ⟨b1, o1, hA1, -⟩ := (hrd rs w LB hI (hsB w hs)).2.at (k := 0) (u := .int .u8 (bs.getD 0 0)) (by
        rw [List.getElem?_map]
        cases hbs' : bs with
        | nil => exact absurd (by rw [hbs'] at hbs; exact (List.append_eq_nil_iff.1 hbs.symm).2) hne
        | cons z r => rfl)
      have hvd := Sl.drop (size := 1) (k := (framesV mx 0 rs.x).length) (by have := (hrd rs w LB hI (hsB w hs)).2; rw [hA1] at this; exact this) (by simp) (by omega)
      rw [Nat.mul_one, ← List.map_drop, show bs.drop (framesV mx 0 rs.x).length = rest by conv => lhs; rw [hbs]; simp] at hvd
      rw [show bs.length - (framesV mx 0 rs.x).length = rest.length by omega] at hvd
      rw [hA1]
      refine s_move rfl rfl ?_
      (refine s_slice_lo El39 rfl rfl rfl ?hx ?_; case hx => (constructor <;> omega))
      refine s_move rfl rfl ?_
      refine s_call Tryz.call63 rfl rfl (hasPrefix_ok _ _ rest (frameV mx (rs.length : Int) x) w (by rw [Int.toNat_natCast, show bs.length - (framesV mx 0 rs.x).length = rest.length by omega, Nat.mul_one]; exact hvd) (hOF.sl hs) hrB (frameV_isB hm3.1)) ?_
      rintro r w ⟨hst, t, rfl, ht⟩
      replace hs := hs.fwd1 hst
      clear hst
      refine s_not rfl rfl ?_
      refine WL_nil ?_
      refine n_then ?_
      refine W_cond rfl (fun hc41 => ?_) (fun hc41 => ?_)
      · skip
        try simp only [decide_eq_true_eq, decide_eq_false_iff_not, bne_iff_ne, ne_eq, bne_eq_false_iff_eq] at hc41
        refine W_ret ?_
        refine r_then ?_
        refine r_blk ?_
        refine r_then ?_
        refine r_then ?_
        refine r_blk ?_
        first
          | (have h9 : ¬ rdEnd s3 = 0 := ‹_›
             refine end0 rfl (hfin w ((((hs.right (M := Li)).right (M := Lx)).right (M := LU)).right (M := Lc)) fun y q h => ?_)
             obtain ⟨_, _, _, h4⟩ := hno0 y q h
             cases h4
             exact h9 rfl)
          | (have h9 : ¬ z2 = (rs.length : Int) := ‹_›
             refine end0 rfl (hfin w ((((hs.right (M := Li)).right (M := Lx)).right (M := LU)).right (M := Lc)) fun y q h => ?_)
             obtain ⟨_, _, h4, _⟩ := hno0 y q h
             cases h4
             exact h9 rfl)
          | (refine end0 rfl (hfin w (hsB w hs) fun y q h => ?_)
             obtain ⟨_, _, _, h4⟩ := hno0 y q h
             cases h4
             have h9 := ht.2 ⟨q, h⟩
             rw [h9] at hc41
             cases hc41)
      · skip
        try simp only [decide_eq_true_eq, decide_eq_false_iff_not, bne_iff_ne, ne_eq, bne_eq_false_iff_eq] at hc41
        refine W_skip ?_
        refine n_then ?_
        refine W_seq ?_
        refine W_region ?_
        refine s_move rfl rfl ?_
        refine s_move rfl rfl ?_
        refine s_len rfl rfl (LN39 _ _ _ _) ?_
        have htt : t = true := by simpa using hc41
        obtain ⟨q, hq⟩ := ht.1 htt
        have hsn := framesV_snoc mx rs.x x 0
        rw [Recs.x_length, Nat.zero_add] at hsn
        have hrl := congrArg List.length hq
        rw [List.length_append] at hrl
        (refine s_add' rfl rfl rfl ?hx ?_; case hx => (constructor <;> omega))
        rw [show ((framesV mx 0 rs.x).length : Int) + ((frameV mx (rs.length : Int) x).length : Int) = ((framesV mx 0 (Recs.x (rs ++ [(.slice ax x.length cx, x)]))).length : Int) by rw [Recs.x_snoc, hsn, List.length_append]; omega]
        refine s_assign rfl rfl ?_
        refine WL_nil ?_
        refine n_then ?_
        refine W_seq ?_
        refine I_region ?_
        refine I_step rfl ?_
        refine s_move rfl rfl ?_
        refine I_next ?_
        refine I_step rfl ?_
        refine s_move rfl rfl ?_
        refine I_next ?_
        refine I_step rfl ?_
        refine s_move rfl rfl ?_
        refine I_next ?_
        have hs2 : St F w0 w (LU ++ (Lx ++ LB)) := by simpa [cat] using St.reord [LF, Li, Lx, LU, Lc, LB] [3, 2, 5] [0, 1, 4] (by simpa [cat] using hs) rfl
        refine I_yield (R := fun w' => ∃ LB', I (rs ++ [(.slice ax x.length cx, x)]) LB' ∧ St F w0 w' (LU ++ LB')) rfl rfl rfl (round rs w LU LB _ x Lx q hI (by rw [hbs, hq]) hOx hm3.1 hs2) ?_
        clear hs hs2; rintro w ⟨LB', hI', hs⟩
        refine I_step rfl ?_
        refine s_not rfl rfl ?_
        refine I_next ?_
        refine I_nil ?_
        refine n_then ?_
        refine W_cond_f rfl ?_
        refine W_skip ?_
        refine n_blk ?_
        refine n_then ?_
        refine W_region ?_
        refine s_move rfl rfl ?_
        first | (refine s_add' rfl rfl rfl ?hx ?_; case hx => (constructor <;> first | omega | (simp only; omega))) | refine s_add rfl rfl rfl ?_
        refine s_assign rfl rfl ?_
        refine WL_nil ?_
        refine n_loop ?_
        refine ⟨⟨rs ++ [(.slice ax x.length cx, x)], q, LU, LB'⟩, ⟨rfl, rfl, rfl, ?_, rfl, trivial⟩, ⟨hs, ?_, hI', ?_⟩, ?_⟩
        · simp only [List.length_append, List.length_singleton]; rfl
        · simp only
          rw [← (hno0 x q hq).2.1]; exact hR
        · simp only
          rw [Recs.x_snoc, hsn, hbs, hq, List.append_assoc]
        · simp only
          have := frame_len (mx := mx) (n := (rs.length : Int)) (x := x); omega
end Go.Proofs.YtkappdlbpilghaaGreat
