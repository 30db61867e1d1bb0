/- The generator of values; their encoding; comparing. -/
import Derived.Test.YtheeheahhnamjaaWirV
set_option linter.unusedVariables false
set_option linter.unusedSimpArgs false
namespace Go.Proofs.Ytheeheahhnamjaa
open Go.SL
def vcells (vs : List VV) : List Value := vs.flatMap VV.cells
def vblks (vs : List VV) : Hp := vs.flatMap VV.L
theorem vcells_length (vs : List VV) : (vcells vs).length = vs.length * 5 := by
  induction vs with
  | nil => rfl
  | cons m r ih =>
    have : vcells (m :: r) = m.cells ++ vcells r := rfl
    rw [this, List.length_append, ih]; simp [VV.cells]; omega
theorem vcells_at {x : VV} {j : Nat} (hj : j < 5) : ∀ {vs : List VV} {k : Nat}, vs[k]? = some x → (vcells vs)[k * 5 + j]? = x.cells[j]?
  | a :: r, 0, h => by
    simp at h; subst h
    have : vcells (a :: r) = a.cells ++ vcells r := rfl
    rw [this, List.getElem?_append_left (by simp [VV.cells]; omega)]; simp
  | a :: r, k + 1, h => by
    have : vcells (a :: r) = a.cells ++ vcells r := rfl
    rw [this, List.getElem?_append_right (by simp [VV.cells]; omega)]
    have h2 := vcells_at hj (vs := r) (k := k) (by simpa using h)
    rw [← h2]; congr 1; simp [VV.cells]; omega
theorem vblks_of {x : VV} {vs : List VV} (h : x ∈ vs) : ∀ q ∈ x.L, q ∈ vblks vs := fun q hq => List.mem_flatMap.2 ⟨x, h, hq⟩
theorem vcells_append (a b : List VV) : vcells (a ++ b) = vcells a ++ vcells b := by simp [vcells]
theorem vblks_append (a b : List VV) : vblks (a ++ b) = vblks a ++ vblks b := by simp [vblks]
theorem vcells_one (x : VV) (hb : x.bv.oneCell' = true) (hl : x.lv.oneCell' = true) : ∀ c ∈ x.cells, c.oneCell' = true := by
  intro c hc
  simp only [VV.cells, List.mem_cons, List.not_mem_nil, or_false] at hc
  rcases hc with rfl | rfl | rfl | rfl | rfl <;> first | rfl | assumption
/-- the bytes of values -/
def encVs (vs : List VV) : List Int := vs.flatMap fun x => encV x.p
set_option maxHeartbeats 1000000 in
theorem same_ok (x y : VV) (w0 : World) (h1 : Sl w0 x.bv x.p.bs.length (u8s x.p.bs)) (h2 : Sl w0 y.bv y.p.bs.length (u8s y.p.bs)) (h3 : Sl w0 x.lv x.p.ls.length (i64s x.p.ls)) (h4 : Sl w0 y.lv y.p.ls.length (i64s y.p.ls)) (hb : x.p.bs.length ≤ 4294967296) (hl : x.p.ls.length ≤ 4294967296) :
    Ret Try.prog 22 [.agg x.cells.toArray, .agg y.cells.toArray].toArray w0 fun r w' => Fwd [] w0 w' ∧ r = .bool (decide (x.p = y.p)) := by
  obtain ⟨⟨k1, u1, n1, q1, l1⟩, bv1, bL1, lv1, lL1⟩ := x
  obtain ⟨⟨k2, u2, n2, q2, l2⟩, bv2, bL2, lv2, lL2⟩ := y
  simp only [VV.cells] at h1 h2 h3 h4 hb hl ⊢
  obtain ⟨a1, c1, rfl, _⟩ := h1.len_le
  obtain ⟨a2, c2, rfl, _⟩ := h2.len_le
  obtain ⟨a3, c3, rfl, _⟩ := h3.len_le
  obtain ⟨a4, c4, rfl, _⟩ := h4.len_le
  refine Ret_start fun w hs => ?_
  refine Ret_of Try.func22 rfl Try.ntmps22 rfl ?_
  refine W_seq ?_
  refine W_region ?_
  first | refine s_box rfl rfl hs ?_ | refine s_box1 rfl rfl rfl hs ?_
  clear hs; intro b2 w hs
  first | refine s_box rfl rfl hs ?_ | refine s_box1 rfl rfl rfl hs ?_
  clear hs; intro b3 w hs
  refine s_assign rfl rfl ?_
  refine WL_nil ?_
  refine n_then ?_
  refine W_seq ?_
  refine W_region ?_
  refine s_fieldAddr rfl rfl (FA47_3 _ _) ?_
  first
    | refine s_load Try.isAgg24 rfl rfl (hs.cell (k := 0) rfl rfl) ?_
    | refine s_load Try.isAgg24 rfl rfl (hs.cell (k := 1) rfl rfl) ?_
    | refine s_load Try.isAgg24 rfl rfl (hs.cell (k := 2) rfl rfl) ?_
  refine s_fieldAddr rfl rfl (FA47_3 _ _) ?_
  first
    | refine s_load Try.isAgg24 rfl rfl (hs.cell (k := 0) rfl rfl) ?_
    | refine s_load Try.isAgg24 rfl rfl (hs.cell (k := 1) rfl rfl) ?_
    | refine s_load Try.isAgg24 rfl rfl (hs.cell (k := 2) rfl rfl) ?_
  refine s_call Try.call30 rfl rfl (sameBytes_ok _ _ q1 q2 w (h1.fwd0 hs.fwd) (h2.fwd0 hs.fwd) (by omega)) ?_
  rintro r w ⟨hst, rfl⟩
  replace hs := hs.fwd1 hst
  clear hst
  refine s_assign rfl rfl ?_
  refine WL_nil ?_
  refine n_then ?_
  refine W_seq ?_
  refine W_region ?_
  refine s_fieldAddr rfl rfl (FA47_4 _ _) ?_
  first
    | refine s_load Try.isAgg33 rfl rfl (hs.cell (k := 0) rfl rfl) ?_
    | refine s_load Try.isAgg33 rfl rfl (hs.cell (k := 1) rfl rfl) ?_
    | refine s_load Try.isAgg33 rfl rfl (hs.cell (k := 2) rfl rfl) ?_
  refine s_fieldAddr rfl rfl (FA47_4 _ _) ?_
  first
    | refine s_load Try.isAgg33 rfl rfl (hs.cell (k := 0) rfl rfl) ?_
    | refine s_load Try.isAgg33 rfl rfl (hs.cell (k := 1) rfl rfl) ?_
    | refine s_load Try.isAgg33 rfl rfl (hs.cell (k := 2) rfl rfl) ?_
  refine s_call Try.call32 rfl rfl (sameInts_ok _ _ l1 l2 w (h3.fwd0 hs.fwd) (h4.fwd0 hs.fwd) (by omega)) ?_
  rintro r w ⟨hst, rfl⟩
  replace hs := hs.fwd1 hst
  clear hst
  refine s_assign rfl rfl ?_
  refine WL_nil ?_
  refine n_then ?_
  refine W_seq ?_
  refine W_region ?_
  refine s_fieldAddr rfl rfl (FA47_0 _ _) ?_
  first
    | refine s_load Try.isAgg3 rfl rfl (hs.cell (k := 0) rfl rfl) ?_
    | refine s_load Try.isAgg3 rfl rfl (hs.cell (k := 1) rfl rfl) ?_
    | refine s_load Try.isAgg3 rfl rfl (hs.cell (k := 2) rfl rfl) ?_
  refine s_fieldAddr rfl rfl (FA47_0 _ _) ?_
  first
    | refine s_load Try.isAgg3 rfl rfl (hs.cell (k := 0) rfl rfl) ?_
    | refine s_load Try.isAgg3 rfl rfl (hs.cell (k := 1) rfl rfl) ?_
    | refine s_load Try.isAgg3 rfl rfl (hs.cell (k := 2) rfl rfl) ?_
  refine s_eql rfl rfl rfl ?_
  refine s_move rfl rfl ?_
  refine WL_case (s := 22) rfl (fun hg22 => ?_) (fun hg22 => ?_)
  · skip
    try simp only [beq_iff_eq, beq_eq_false_iff_ne, ne_eq, decide_eq_true_eq, decide_eq_false_iff_not] at hg22
    refine WL_take rfl ?_
    refine s_fieldAddr rfl rfl (FA47_1 _ _) ?_
    refine WL_take rfl ?_
    first
      | refine s_load Try.isAgg22 rfl rfl (hs.cell (k := 0) rfl rfl) ?_
      | refine s_load Try.isAgg22 rfl rfl (hs.cell (k := 1) rfl rfl) ?_
      | refine s_load Try.isAgg22 rfl rfl (hs.cell (k := 2) rfl rfl) ?_
    refine WL_take rfl ?_
    refine s_fieldAddr rfl rfl (FA47_1 _ _) ?_
    refine WL_take rfl ?_
    first
      | refine s_load Try.isAgg22 rfl rfl (hs.cell (k := 0) rfl rfl) ?_
      | refine s_load Try.isAgg22 rfl rfl (hs.cell (k := 1) rfl rfl) ?_
      | refine s_load Try.isAgg22 rfl rfl (hs.cell (k := 2) rfl rfl) ?_
    refine WL_take rfl ?_
    refine s_eql rfl rfl rfl ?_
    refine s_pick_t rfl rfl rfl ?_
    refine s_move rfl rfl ?_
    refine WL_case (s := 29) rfl (fun hg29 => ?_) (fun hg29 => ?_)
    · skip
      try simp only [beq_iff_eq, beq_eq_false_iff_ne, ne_eq, decide_eq_true_eq, decide_eq_false_iff_not] at hg29
      refine WL_take rfl ?_
      refine s_fieldAddr rfl rfl (FA47_2 _ _) ?_
      refine WL_take rfl ?_
      first
        | refine s_load Try.isAgg3 rfl rfl (hs.cell (k := 0) rfl rfl) ?_
        | refine s_load Try.isAgg3 rfl rfl (hs.cell (k := 1) rfl rfl) ?_
        | refine s_load Try.isAgg3 rfl rfl (hs.cell (k := 2) rfl rfl) ?_
      refine WL_take rfl ?_
      refine s_fieldAddr rfl rfl (FA47_2 _ _) ?_
      refine WL_take rfl ?_
      first
        | refine s_load Try.isAgg3 rfl rfl (hs.cell (k := 0) rfl rfl) ?_
        | refine s_load Try.isAgg3 rfl rfl (hs.cell (k := 1) rfl rfl) ?_
        | refine s_load Try.isAgg3 rfl rfl (hs.cell (k := 2) rfl rfl) ?_
      refine WL_take rfl ?_
      refine s_eql rfl rfl rfl ?_
      refine s_pick_t rfl rfl rfl ?_
      refine s_move rfl rfl ?_
      refine WL_case (s := 36) rfl (fun hg36 => ?_) (fun hg36 => ?_)
      · skip
        try simp only [beq_iff_eq, beq_eq_false_iff_ne, ne_eq, decide_eq_true_eq, decide_eq_false_iff_not] at hg36
        refine WL_take rfl ?_
        refine s_move rfl rfl ?_
        refine s_pick_t rfl rfl rfl ?_
        refine s_move rfl rfl ?_
        refine WL_case (s := 39) rfl (fun hg39 => ?_) (fun hg39 => ?_)
        · skip
          try simp only [beq_iff_eq, beq_eq_false_iff_ne, ne_eq, decide_eq_true_eq, decide_eq_false_iff_not] at hg39
          refine WL_take rfl ?_
          refine s_move rfl rfl ?_
          refine s_pick_t rfl rfl rfl ?_
          refine s_assign rfl rfl ?_
          refine WL_nil ?_
          refine n_then ?_
          refine W_ret ?_
          refine end1 rfl rfl ⟨hs.fwd, congrArg Value.bool ?_⟩
          rw [Bool.eq_iff_iff]
          simp only [decide_eq_true_eq, PV.mk.injEq, Bool.false_eq_true, false_iff]
          simp_all
          try omega
        · skip
          try simp only [beq_iff_eq, beq_eq_false_iff_ne, ne_eq, decide_eq_true_eq, decide_eq_false_iff_not] at hg39
          refine WL_skip rfl rfl rfl ?_
          refine s_pick_f rfl rfl rfl ?_
          refine s_assign rfl rfl ?_
          refine WL_nil ?_
          refine n_then ?_
          refine W_ret ?_
          refine end1 rfl rfl ⟨hs.fwd, congrArg Value.bool ?_⟩
          rw [Bool.eq_iff_iff]
          simp only [decide_eq_true_eq, PV.mk.injEq, Bool.false_eq_true, false_iff]
          simp_all
          try omega
      · skip
        try simp only [beq_iff_eq, beq_eq_false_iff_ne, ne_eq, decide_eq_true_eq, decide_eq_false_iff_not] at hg36
        refine WL_skip rfl rfl rfl ?_
        refine s_pick_f rfl rfl rfl ?_
        refine s_move rfl rfl ?_
        refine WL_skip rfl rfl rfl ?_
        refine s_pick_f rfl rfl rfl ?_
        refine s_assign rfl rfl ?_
        refine WL_nil ?_
        refine n_then ?_
        refine W_ret ?_
        refine end1 rfl rfl ⟨hs.fwd, congrArg Value.bool ?_⟩
        rw [Bool.eq_iff_iff]
        simp only [decide_eq_true_eq, PV.mk.injEq, Bool.false_eq_true, false_iff]
        simp_all
        try omega
    · skip
      try simp only [beq_iff_eq, beq_eq_false_iff_ne, ne_eq, decide_eq_true_eq, decide_eq_false_iff_not] at hg29
      refine WL_skip rfl rfl rfl ?_
      refine WL_skip rfl rfl rfl ?_
      refine WL_skip rfl rfl rfl ?_
      refine WL_skip rfl rfl rfl ?_
      refine WL_skip rfl rfl rfl ?_
      refine s_pick_f rfl rfl rfl ?_
      refine s_move rfl rfl ?_
      refine WL_skip rfl rfl rfl ?_
      refine s_pick_f rfl rfl rfl ?_
      refine s_move rfl rfl ?_
      refine WL_skip rfl rfl rfl ?_
      refine s_pick_f rfl rfl rfl ?_
      refine s_assign rfl rfl ?_
      refine WL_nil ?_
      refine n_then ?_
      refine W_ret ?_
      refine end1 rfl rfl ⟨hs.fwd, congrArg Value.bool ?_⟩
      rw [Bool.eq_iff_iff]
      simp only [decide_eq_true_eq, PV.mk.injEq, Bool.false_eq_true, false_iff]
      simp_all
      try omega
  · skip
    try simp only [beq_iff_eq, beq_eq_false_iff_ne, ne_eq, decide_eq_true_eq, decide_eq_false_iff_not] at hg22
    refine WL_skip rfl rfl rfl ?_
    refine WL_skip rfl rfl rfl ?_
    refine WL_skip rfl rfl rfl ?_
    refine WL_skip rfl rfl rfl ?_
    refine WL_skip rfl rfl rfl ?_
    refine s_pick_f rfl rfl rfl ?_
    refine s_move rfl rfl ?_
    refine WL_skip rfl rfl rfl ?_
    refine WL_skip rfl rfl rfl ?_
    refine WL_skip rfl rfl rfl ?_
    refine WL_skip rfl rfl rfl ?_
    refine WL_skip rfl rfl rfl ?_
    refine s_pick_f rfl rfl rfl ?_
    refine s_move rfl rfl ?_
    refine WL_skip rfl rfl rfl ?_
    refine s_pick_f rfl rfl rfl ?_
    refine s_move rfl rfl ?_
    refine WL_skip rfl rfl rfl ?_
    refine s_pick_f rfl rfl rfl ?_
    refine s_assign rfl rfl ?_
    refine WL_nil ?_
    refine n_then ?_
    refine W_ret ?_
    refine end1 rfl rfl ⟨hs.fwd, congrArg Value.bool ?_⟩
    rw [Bool.eq_iff_iff]
    simp only [decide_eq_true_eq, PV.mk.injEq, Bool.false_eq_true, false_iff]
    simp_all
    try omega
theorem encode_ok (v : Value) (vs : List VV) (w0 : World) (hv : Sl w0 v vs.length (vcells vs)) (hok : ∀ x ∈ vs, x.ok) (hown : ∀ q ∈ vblks vs, w0.heap[q.1]? = some q.2) (hl : ∀ k, (encVs (vs.take k)).length ≤ 4294967296) (hvl : vs.length ≤ 4294967296) :
    Ret Try.prog 35 [v].toArray w0 fun r w' => ∃ Lr, OwnS 5 1 r (encVs vs).length (u8s (encVs vs)) Lr ∧ St [] w0 w' Lr := by
  obtain ⟨a, c, rfl, hac⟩ := hv.len_le
  refine Ret_start fun w hs => ?_
  refine Ret_of Try.func35 rfl Try.ntmps35 rfl ?_
  refine W_seq ?_
  refine W_region ?_
  refine s_assign rfl rfl ?_
  refine WL_nil ?_
  refine n_then ?_
  refine W_seq ?_
  refine W_region ?_
  refine s_alloc rfl AL26 hs ?_; clear hs; intro b3 w hs
  refine WL_nil ?_
  refine n_then ?_
  refine W_seq ?_
  refine W_seq ?_
  refine W_region ?_
  refine s_assign rfl rfl ?_
  refine WL_nil ?_
  refine n_then ?_
  refine W_block ?_
  refine W_loop (σ := Nat × Hp) (fun s => [(0, .slice a vs.length c), (3, .pointer (some ⟨b3, 0, none⟩)), (4, .int .i64 (s.1 : Int))]) (fun s w => St [] w0 w s.2 ∧ WrAt b3 (encVs (vs.take s.1)) s.2 ∧ s.1 ≤ vs.length) (fun s => vs.length - s.1) (0, _) ⟨rfl, rfl, rfl, trivial⟩ ⟨hs, wr_new b3, Nat.zero_le _⟩ ?_
  clear hs
  rintro ⟨i, LW⟩ w ⟨hs, hW, hil⟩
  simp only at hs hW hil ⊢
  refine W_seq ?_
  refine W_seq ?_
  refine W_region ?_
  refine s_move rfl rfl ?_
  refine s_move rfl rfl ?_
  refine s_len rfl rfl (LN35 _ _ _ _) ?_
  refine s_lss rfl rfl rfl ?_
  refine WL_nil ?_
  refine n_then ?_
  refine W_cond rfl (fun hc8 => ?_) (fun hc8 => ?_)
  · skip
    simp only [decide_eq_true_eq, decide_eq_false_iff_not] at hc8
    have hix : i < vs.length := by omega
    have hxi : vs[i]? = some vs[i] := List.getElem?_eq_getElem hix
    have hxm : vs[i] ∈ vs := List.getElem_mem hix
    obtain ⟨b, o, hA, hB, hall⟩ := Sl_all hv (by intro h; have := congrArg List.length h; rw [vcells_length] at this; simp at this; omega)
    have htk : encVs (vs.take (i + 1)) = encVs (vs.take i) ++ encV vs[i].p := by rw [List.take_succ_eq_append_getElem hix, encVs, List.flatMap_append]; simp [encVs]
    have cc : ∀ j u, j < 5 → vs[i].cells[j]? = some u → w0.cell? ⟨b, o + (i : Int).toNat * 5 + j, none⟩ = some u := fun j u hj hu => by
      rw [Nat.add_assoc, Int.toNat_natCast]; exact hall (i * 5 + j) u (by rw [vcells_at hj hxi]; exact hu)
    generalize vs[i] = x at hxm cc htk
    have hxo := hok x hxm
    have hxown : ∀ q ∈ x.L, w0.heap[q.1]? = some q.2 := fun q hq => hown q (vblks_of hxm q hq)
    refine W_skip ?_
    refine n_then ?_
    refine W_seq ?_
    refine W_block ?_
    refine W_region ?_
    refine s_move rfl rfl ?_
    refine s_move rfl rfl ?_
    (refine s_indexAddrP El35 rfl rfl rfl hA ?hx ?_; case hx => (constructor <;> omega))
    refine s_load_5 Try.isAgg47 Try.sizeOf47 rfl rfl ((hs.oldcell hB (by simp)).trans (cc 0 _ (by omega) rfl)) ((hs.oldcell hB (by simp)).trans (cc 1 _ (by omega) rfl)) ((hs.oldcell hB (by simp)).trans (cc 2 _ (by omega) rfl)) ((hs.oldcell hB (by simp)).trans (cc 3 _ (by omega) rfl)) ((hs.oldcell hB (by simp)).trans (cc 4 _ (by omega) rfl)) ?_
    have hlt : ∀ q ∈ x.L, q.1 < w0.heap.size := fun q hq => (Array.getElem?_eq_some_iff.1 (hxown q hq)).1
    refine s_callL (M := []) (L1 := LW) (X := []) Try.call34 rfl rfl (by simpa using hs) (fun h => write_ok b3 _ x LW w hW h hxo (fun q hq => (hs.old (hlt q hq) (by simp)).trans (hxown q hq)) (fun b' hb' hin => by
      obtain ⟨o1, ho1⟩ := mem_ids.1 hb'
      obtain ⟨o2, ho2⟩ := mem_ids.1 hin
      have h1 := hlt _ ho1
      rcases hs.new _ ho2 with h2 | h2
      · simp at h2
      · simp only at h1 h2; omega) (hl i)) ?_
    clear hs hW; rintro v w LW ⟨hW, rfl⟩ - hs
    simp only [List.nil_append, List.append_nil] at hs
    refine WL_nil ?_
    refine n_blk ?_
    refine n_then ?_
    refine W_region ?_
    refine s_move rfl rfl ?_
    first | (refine s_add' rfl rfl rfl ?hx ?_; case hx => (constructor <;> first | omega | (simp only; omega))) | refine s_add rfl rfl rfl ?_
    refine s_assign rfl rfl ?_
    refine WL_nil ?_
    refine n_loop ?_
    exact ⟨(i + 1, LW), ⟨rfl, rfl, rfl, trivial⟩, ⟨hs, by rw [htk]; exact hW, by simp only; omega⟩, by simp only; omega⟩
  · skip
    simp only [decide_eq_true_eq, decide_eq_false_iff_not] at hc8
    have hie : i = vs.length := by omega
    subst hie
    rw [List.take_length] at hW
    refine W_exit ?_
    refine x_then ?_
    refine x_then ?_
    refine exit_hit ?_
    refine n_then ?_
    refine W_seq ?_
    refine W_region ?_
    refine s_callL (M := []) (L1 := LW) (X := []) Try.call16 rfl rfl (by simpa using hs) (fun h => wDone_ok b3 _ _ w hW h (by have := hl vs.length; rwa [List.take_length] at this)) ?_
    clear hs; rintro v w LW2 ⟨Lr, rfl, hOr⟩ - hs
    simp only [List.nil_append, List.append_nil] at hs
    refine s_assign rfl rfl ?_
    refine WL_nil ?_
    refine n_then ?_
    refine W_ret ?_
    exact end1 rfl rfl ⟨Lr, hOr, hs.right⟩
end Go.Proofs.Ytheeheahhnamjaa
