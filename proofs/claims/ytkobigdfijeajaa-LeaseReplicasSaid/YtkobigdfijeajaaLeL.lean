/- Decode of package lease and of its reference. -/
import Derived.Test.YtkobigdfijeajaaLeK
set_option linter.unusedVariables false
set_option linter.unusedSimpArgs false
namespace Go.SL
section
variable {P : Program} {n : Nat} {ops : Array Oper} {Q : Post} {l : Fr} {w : World} {rest : List Oper} {d ty : Nat} {pos : String} {aft : Array Edge}
theorem s_indexV {x y : Operand} {t : Nat} {p q v : Value} (hd : Nat.blt d n = true) (hx : ev l x = some p) (hy : ev l y = some q) (hr : ∀ w, (Instr.index t p q).run P w = .ok v w) (k : WL P n ops Q rest ((d, v) :: l) w) :
    WL P n ops Q (⟨some d, .index t x y, ty, pos, aft, none⟩ :: rest) l w := WL_val hd (fun a ha => by simp [execOp, ha.eval hx, ha.eval hy, hr]) k
end
end Go.SL
namespace Go.Proofs.Ytkobigdfijeajaa
open Go.SL
/-- what a decoding yields -/
structure DR where
  g : Bool
  x : Lz
  c : List Int
  e : Int
def decR (bs : List Int) : DR :=
  if rdEnd (rdRaw (rdI (rdI (rdI (rdRaw (rdB ⟨bs, 0⟩).2).2).2).2).2).2 = 0 ∧ validP (rdB ⟨bs, 0⟩).1 ⟨strOf (rdRaw (rdB ⟨bs, 0⟩).2).1, (rdI (rdRaw (rdB ⟨bs, 0⟩).2).2).1, (rdI (rdI (rdRaw (rdB ⟨bs, 0⟩).2).2).2).1, (rdI (rdI (rdI (rdRaw (rdB ⟨bs, 0⟩).2).2).2).2).1⟩ (rdRaw (rdI (rdI (rdI (rdRaw (rdB ⟨bs, 0⟩).2).2).2).2).2).1.length then
    ⟨(rdB ⟨bs, 0⟩).1, ⟨strOf (rdRaw (rdB ⟨bs, 0⟩).2).1, (rdI (rdRaw (rdB ⟨bs, 0⟩).2).2).1, (rdI (rdI (rdRaw (rdB ⟨bs, 0⟩).2).2).2).1, (rdI (rdI (rdI (rdRaw (rdB ⟨bs, 0⟩).2).2).2).2).1⟩, (rdRaw (rdI (rdI (rdI (rdRaw (rdB ⟨bs, 0⟩).2).2).2).2).2).1, 0⟩
  else ⟨false, zeroLz, [], 2⟩
theorem decR_of {bs : List Int} {g : Bool} {r c : List Int} {h t u : Int} {s1 s2 s3 s4 s5 s6 : RS} (e1 : rdB ⟨bs, 0⟩ = (g, s1)) (e2 : rdRaw s1 = (r, s2)) (e3 : rdI s2 = (h, s3)) (e4 : rdI s3 = (t, s4)) (e5 : rdI s4 = (u, s5)) (e6 : rdRaw s5 = (c, s6)) :
    decR bs = if rdEnd s6 = 0 ∧ validP g ⟨strOf r, h, t, u⟩ c.length then ⟨g, ⟨strOf r, h, t, u⟩, c, 0⟩ else ⟨false, zeroLz, [], 2⟩ := by
  rw [decR, e1]; simp only; rw [e2]; simp only; rw [e3]; simp only; rw [e4]; simp only; rw [e5]; simp only; rw [e6]
theorem IX0 (b : Nat) (w : World) : (Instr.index 146 (.agg #[.pointer (some ⟨b, 2, none⟩), .pointer (some ⟨b, 3, none⟩), .pointer (some ⟨b, 4, none⟩)]) (.int .i64 0)).run Try.prog w = .ok (.pointer (some ⟨b, 2, none⟩)) w := by kernel_rfl
theorem IX1 (b : Nat) (w : World) : (Instr.index 146 (.agg #[.pointer (some ⟨b, 2, none⟩), .pointer (some ⟨b, 3, none⟩), .pointer (some ⟨b, 4, none⟩)]) (.int .i64 1)).run Try.prog w = .ok (.pointer (some ⟨b, 3, none⟩)) w := by kernel_rfl
theorem IX2 (b : Nat) (w : World) : (Instr.index 146 (.agg #[.pointer (some ⟨b, 2, none⟩), .pointer (some ⟨b, 3, none⟩), .pointer (some ⟨b, 4, none⟩)]) (.int .i64 2)).run Try.prog w = .ok (.pointer (some ⟨b, 4, none⟩)) w := by kernel_rfl
theorem IX3 (b i : Nat) (h : i < 3) (w : World) : (Instr.index 146 (.agg #[.pointer (some ⟨b, 2, none⟩), .pointer (some ⟨b, 3, none⟩), .pointer (some ⟨b, 4, none⟩)]) (.int .i64 (i : Int))).run Try.prog w = .ok (.pointer (some ⟨b, 2 + i, none⟩)) w := by
  match i, h with
  | 0, _ => exact IX0 b w
  | 1, _ => exact IX1 b w
  | 2, _ => exact IX2 b w
structure DeS where
  i : Nat
  h : Int
  t : Int
  u : Int
  s : RS
  L : Hp
/-- three numbers, one after the other -/
def DI (s2 : RS) : Nat → Int → Int → Int → RS → Prop
  | 0, h, t, u, s => h = 0 ∧ t = 0 ∧ u = 0 ∧ s = s2
  | 1, h, t, u, s => t = 0 ∧ u = 0 ∧ rdI s2 = (h, s)
  | 2, h, t, u, s => u = 0 ∧ ∃ s3, rdI s2 = (h, s3) ∧ rdI s3 = (t, s)
  | _, h, t, u, s => ∃ s3 s4, rdI s2 = (h, s3) ∧ rdI s3 = (t, s4) ∧ rdI s4 = (u, s)
set_option maxHeartbeats 2000000 in
theorem decode_ok (v : Value) (bs : List Int) (w0 : World) (hv : Sl w0 v bs.length (u8s bs)) (hB : ∀ b ∈ bs, isB b) (hl : bs.length ≤ 4294967296) :
    Ret Try.prog 69 [v].toArray w0 fun r w' => ∃ vc Lr, r = .tuple #[entryV (decR bs).g (decR bs).x vc, .int .i64 (decR bs).e] ∧ OwnS 5 1 vc (decR bs).c.length (u8s (decR bs).c) Lr ∧ St [] w0 w' Lr := by
  generalize hR1 : rdB ⟨bs, 0⟩ = R1
  obtain ⟨g, s1⟩ := R1
  generalize hR2 : rdRaw s1 = R2
  obtain ⟨rr, s2⟩ := R2
  refine Ret_start fun w hs => ?_
  refine Ret_of Try.func69 rfl Try.ntmps69 rfl ?_
  refine W_seq ?_
  refine W_region ?_
  refine s_alloc rfl AL35 hs ?_; clear hs; intro b2 w hs
  refine s_assign rfl rfl ?_
  refine WL_nil ?_
  refine n_then ?_
  refine W_seq ?_
  refine W_region ?_
  refine s_move rfl rfl ?_
  refine s_call Try.call67 rfl rfl (read_ok _ bs w (hv.fwd0 hs.fwd) hl hB) ?_
  rintro r w ⟨p, LO, rfl, hR, hst⟩
  replace hs := St.back0 hs hst
  clear hst
  refine s_assign rfl rfl ?_
  refine WL_nil ?_
  refine n_then ?_
  refine W_seq ?_
  refine W_region ?_
  refine s_move rfl rfl ?_
  refine s_callL (M := []) (L1 := LO) (X := [_]) Try.call84 rfl rfl hs (fun h => rBool_ok p ⟨bs, 0⟩ LO w hR h) ?_
  clear hs hR; rintro v2 w LO ⟨hR, rfl⟩ - hs
  rw [hR1] at hR ⊢
  simp only [List.nil_append] at hs hR ⊢
  refine s_build rfl rfl (BD35_0 _) ?_
  refine s_alloc rfl AL35 hs ?_; clear hs; intro b5 w hs
  first
    | refine s_storeW Try.sizeOf35 rfl rfl rfl rfl hs (kk := 0) rfl rfl ?_
  clear hs; intro w hs; try simp only [List.set_cons_zero, List.set_cons_succ, splice, List.take_succ_cons, List.take_zero, List.drop_succ_cons, List.drop_zero, List.nil_append, List.cons_append, List.length_cons, List.length_nil, Nat.reduceAdd, List.append_assoc] at hs
  refine WL_nil ?_
  refine n_then ?_
  refine W_seq ?_
  refine W_region ?_
  refine s_move rfl rfl ?_
  refine s_callL (M := [_]) (L1 := LO) (X := [_]) Try.call85 rfl rfl hs (fun h => rText_ok p s1 LO w hR h) ?_
  clear hs hR; rintro v2 w LO ⟨hR, rfl⟩ - hs
  rw [hR2] at hR ⊢
  simp only [List.cons_append, List.nil_append] at hs hR ⊢
  refine s_fieldAddr rfl rfl (FA35_1 _ _) ?_
  refine s_fieldAddr rfl rfl (FA33_0 _ _) ?_
  first
    | refine s_storeB Try.sizeOf9 rfl rfl rfl hs (kk := 0) rfl rfl ?_
  clear hs; intro w hs; try simp only [List.set_cons_zero, List.set_cons_succ, splice, List.take_succ_cons, List.take_zero, List.drop_succ_cons, List.drop_zero, List.nil_append, List.cons_append, List.length_cons, List.length_nil, Nat.reduceAdd, List.append_assoc] at hs
  refine WL_nil ?_
  refine n_then ?_
  refine W_seq ?_
  refine W_seq ?_
  refine W_region ?_
  refine s_fieldAddr rfl rfl (FA35_1 _ _) ?_
  refine s_fieldAddr rfl rfl (FA33_1 _ _) ?_
  refine s_fieldAddr rfl rfl (FA35_1 _ _) ?_
  refine s_fieldAddr rfl rfl (FA33_2 _ _) ?_
  refine s_fieldAddr rfl rfl (FA35_1 _ _) ?_
  refine s_fieldAddr rfl rfl (FA33_3 _ _) ?_
  refine s_build rfl rfl (BD146_0_1_2 _ _ _) ?_
  refine s_move rfl rfl ?_
  refine WL_nil ?_
  refine n_then ?_
  refine W_block ?_
  refine W_loop (σ := DeS) (fun s => [(2, .pointer (some ⟨b2, 0, none⟩)), (3, .int .i64 0), (4, .pointer (some ⟨p, 0, none⟩)), (5, .pointer (some ⟨b5, 0, none⟩)), (23, .agg #[.pointer (some ⟨b5, 2, none⟩), .pointer (some ⟨b5, 3, none⟩), .pointer (some ⟨b5, 4, none⟩)]), (24, .int .i64 (s.i : Int))])
    (fun s w => St [] w0 w ((b5, Blk 35 [.bool g, .string (strOf rr), .int .i64 s.h, .int .i64 s.t, .int .i64 s.u, .slice none 0 0]) :: (s.L ++ [(b2, Blk 35 [.bool false, .string ByteArray.empty, .int .i64 0, .int .i64 0, .int .i64 0, .slice none 0 0])])) ∧ RdAt p s.s s.L ∧ s.i ≤ 3 ∧ DI s2 s.i s.h s.t s.u s.s) (fun s => 3 - s.i) ⟨0, 0, 0, 0, s2, LO⟩ ⟨rfl, rfl, rfl, rfl, rfl, rfl, trivial⟩ ⟨hs, hR, Nat.zero_le _, rfl, rfl, rfl, rfl⟩ ?_
  clear hs hR
  rintro ⟨i, h, t, u, s, LO⟩ w ⟨hs, hR, hi, hD⟩
  simp only at hs hR hi hD ⊢
  refine W_seq ?_
  refine W_region ?_
  refine s_lss rfl rfl rfl ?_
  refine WL_nil ?_
  refine n_then ?_
  refine W_seq ?_
  refine W_cond rfl (fun hc25 => ?_) (fun hc25 => ?_)
  · skip
    try simp only [decide_eq_true_eq, decide_eq_false_iff_not, bne_iff_ne, ne_eq, bne_eq_false_iff_eq, Bool.not_eq_true', Bool.not_eq_false'] at hc25
    refine W_skip ?_
    refine n_then ?_
    refine W_seq ?_
    refine W_block ?_
    refine W_seq ?_
    refine W_region ?_
    refine s_indexV rfl rfl rfl (IX3 b5 i (by omega)) ?_
    refine s_assign rfl rfl ?_
    refine WL_nil ?_
    refine n_then ?_
    refine W_region ?_
    refine s_move rfl rfl ?_
    refine s_move rfl rfl ?_
    refine s_callL (M := [_]) (L1 := LO) (X := [_]) Try.call68 rfl rfl hs (fun h => rInt_ok p s LO w hR h) ?_
    clear hs hR; rintro v2 w LO ⟨hR, rfl⟩ - hs
    simp only [List.cons_append, List.nil_append] at hs
    refine s_nilCheck rfl rfl ?_
    refine s_store Try.sizeOf3 rfl rfl rfl hs (kk := 0) rfl (by simp; omega) ?_
    clear hs; intro w hs
    simp only [List.set_cons_zero] at hs
    refine WL_nil ?_
    refine n_blk ?_
    refine n_then ?_
    refine W_region ?_
    first | (refine s_add' rfl rfl rfl ?hx ?_; case hx => (constructor <;> first | omega | (simp only; omega)))
    refine s_move rfl rfl ?_
    refine WL_nil ?_
    refine n_loop ?_
    have hi3 : i < 3 := by omega
    match i, hi3, hD, hs with
    | 0, _, ⟨e1, e2, e3, e4⟩, hs => exact ⟨⟨1, (rdI s).1, t, u, (rdI s).2, LO⟩, ⟨rfl, rfl, rfl, rfl, rfl, rfl, trivial⟩, ⟨hs, hR, by simp only; omega, e2, e3, by rw [← e4]⟩, by simp only; omega⟩
    | 1, _, ⟨e1, e2, e3⟩, hs => exact ⟨⟨2, h, (rdI s).1, u, (rdI s).2, LO⟩, ⟨rfl, rfl, rfl, rfl, rfl, rfl, trivial⟩, ⟨hs, hR, by simp only; omega, e2, s, e3, rfl⟩, by simp only; omega⟩
    | 2, _, ⟨e1, s3, e2, e3⟩, hs => exact ⟨⟨3, h, t, (rdI s).1, (rdI s).2, LO⟩, ⟨rfl, rfl, rfl, rfl, rfl, rfl, trivial⟩, ⟨hs, hR, by simp only; omega, s3, s, e2, e3, rfl⟩, by simp only; omega⟩
  · skip
    try simp only [decide_eq_true_eq, decide_eq_false_iff_not, bne_iff_ne, ne_eq, bne_eq_false_iff_eq, Bool.not_eq_true', Bool.not_eq_false'] at hc25
    have hi3 : i = 3 := by omega
    subst hi3
    obtain ⟨s3, s4, hR3, hR4, hR5⟩ := hD
    generalize hR6 : rdRaw s = R6
    obtain ⟨cc, s6⟩ := R6
    have hdec := decR_of hR1 hR2 hR3 hR4 hR5 hR6
    refine W_exit ?_
    refine x_then ?_
    refine x_then ?_
    refine exit_hit ?_
    refine n_then ?_
    refine W_seq ?_
    refine W_region ?_
    refine s_move rfl rfl ?_
    refine s_callL (M := [_]) (L1 := LO) (X := [_]) Try.call70 rfl rfl hs (fun h => rRaw_ok p s LO w hR h) ?_
    clear hs hR; rintro v2 w L9 ⟨LO, Lc, rfl, hR, hOc⟩ - hs
    rw [hR6] at hR hOc
    simp only [List.cons_append, List.nil_append, List.append_assoc] at hs hR hOc
    obtain ⟨_, ca, aa, rfl, hcl⟩ := hOc.form
    subst hcl
    refine s_fieldAddr rfl rfl (FA35_2 _ _) ?_
    first
      | refine s_storeB Try.sizeOf22 rfl rfl rfl hs (kk := 0) rfl rfl ?_
    clear hs; intro w hs; try simp only [List.set_cons_zero, List.set_cons_succ, splice, List.take_succ_cons, List.take_zero, List.drop_succ_cons, List.drop_zero, List.nil_append, List.cons_append, List.length_cons, List.length_nil, Nat.reduceAdd, List.append_assoc] at hs
    refine WL_nil ?_
    refine n_then ?_
    refine W_seq ?_
    refine W_seq ?_
    refine W_region ?_
    refine s_move rfl rfl ?_
    refine s_callL (M := [_]) (L1 := LO) (X := Lc ++ [_]) Try.call71 rfl rfl hs (fun h => rEnd_ok p s6 LO w hR h) ?_
    clear hs; rintro v2 w L9 ⟨hL9, rfl⟩ - hs
    rw [hL9] at hs; clear hL9 L9
    simp only [List.cons_append, List.nil_append] at hs
    refine s_neq rfl rfl rfl ?_
    refine s_move rfl rfl ?_
    refine WL_case (s := 38) rfl (fun hg38 => ?_) (fun hg38 => ?_)
    · skip
      try simp only [decide_eq_true_eq, decide_eq_false_iff_not, bne_iff_ne, ne_eq, bne_eq_false_iff_eq, Bool.not_eq_true', Bool.not_eq_false'] at hg38
      refine WL_skip rfl rfl rfl ?_
      refine WL_skip rfl rfl rfl ?_
      refine WL_skip rfl rfl rfl ?_
      refine s_pick_t rfl rfl rfl ?_
      refine WL_nil ?_
      refine n_then ?_
      refine W_cond_t rfl ?_
      refine W_seq ?_
      refine W_region ?_
      refine s_build rfl rfl (BD35_ ) ?_
      replace hs : St [] w0 w ((b2, Blk 35 [.bool false, .string ByteArray.empty, .int .i64 0, .int .i64 0, .int .i64 0, .slice none 0 0]) :: (Lc ++ LO)) := by
        have := St.reord [[_], LO, Lc, [_]] [3, 2, 1] [0] (by simpa [cat] using hs) rfl
        simpa [cat] using this
      refine s_storeW Try.sizeOf35 rfl rfl rfl rfl hs (kk := 0) rfl rfl ?_
      clear hs; intro w hs; simp only [List.set_cons_zero] at hs
      refine s_assign rfl rfl ?_
      refine WL_nil ?_
      refine n_then ?_
      refine W_ret ?_
      refine r_then ?_
      first
        | (have hno : ¬ (rdEnd s6 = 0 ∧ validP g ⟨strOf rr, h, t, u⟩ cc.length) := by rintro ⟨q1, q2⟩; first | exact absurd q1 ‹_› | exact absurd q2 ‹_›
           rw [if_neg hno] at hdec
           refine end2 rfl (resOk_block Try.isAgg35 Try.sizeOf35 hs rfl (kk := 0) rfl rfl) rfl ?_
           rw [hdec]
           exact ⟨.slice none 0 0, [], rfl, OwnS.nil _ _, hs.tail.left (L := [])⟩)
    · skip
      try simp only [decide_eq_true_eq, decide_eq_false_iff_not, bne_iff_ne, ne_eq, bne_eq_false_iff_eq, Bool.not_eq_true', Bool.not_eq_false'] at hg38
      refine WL_take rfl ?_
      first
        | refine s_loadW Try.isAgg35 Try.sizeOf35 rfl rfl hs (kk := 0) rfl rfl ?_
      refine WL_take rfl ?_
      refine s_call Try.call42 rfl rfl (valid_ok g ⟨strOf rr, h, t, u⟩ aa cc.length ca w) ?_
      rintro r w ⟨hst, rfl⟩
      replace hs := hs.fwd1 hst
      clear hst
      refine WL_take rfl ?_
      refine s_not rfl rfl ?_
      refine s_pick_f rfl rfl rfl ?_
      refine WL_nil ?_
      refine n_then ?_
      refine W_cond rfl (fun hc42 => ?_) (fun hc42 => ?_)
      · skip
        try simp only [decide_eq_true_eq, decide_eq_false_iff_not, bne_iff_ne, ne_eq, bne_eq_false_iff_eq, Bool.not_eq_true', Bool.not_eq_false'] at hc42
        refine W_seq ?_
        refine W_region ?_
        refine s_build rfl rfl (BD35_ ) ?_
        replace hs : St [] w0 w ((b2, Blk 35 [.bool false, .string ByteArray.empty, .int .i64 0, .int .i64 0, .int .i64 0, .slice none 0 0]) :: (Lc ++ LO)) := by
          have := St.reord [[_], LO, Lc, [_]] [3, 2, 1] [0] (by simpa [cat] using hs) rfl
          simpa [cat] using this
        refine s_storeW Try.sizeOf35 rfl rfl rfl rfl hs (kk := 0) rfl rfl ?_
        clear hs; intro w hs; simp only [List.set_cons_zero] at hs
        refine s_assign rfl rfl ?_
        refine WL_nil ?_
        refine n_then ?_
        refine W_ret ?_
        refine r_then ?_
        first
          | (have hno : ¬ (rdEnd s6 = 0 ∧ validP g ⟨strOf rr, h, t, u⟩ cc.length) := by rintro ⟨q1, q2⟩; first | exact absurd q1 ‹_› | exact absurd q2 ‹_›
             rw [if_neg hno] at hdec
             refine end2 rfl (resOk_block Try.isAgg35 Try.sizeOf35 hs rfl (kk := 0) rfl rfl) rfl ?_
             rw [hdec]
             exact ⟨.slice none 0 0, [], rfl, OwnS.nil _ _, hs.tail.left (L := [])⟩)
      · skip
        try simp only [decide_eq_true_eq, decide_eq_false_iff_not, bne_iff_ne, ne_eq, bne_eq_false_iff_eq, Bool.not_eq_true', Bool.not_eq_false'] at hc42
        refine W_skip ?_
        refine n_then ?_
        refine W_seq ?_
        refine W_region ?_
        first
          | refine s_loadW Try.isAgg35 Try.sizeOf35 rfl rfl hs (kk := 0) rfl rfl ?_
        replace hs : St [] w0 w ((b2, Blk 35 [.bool false, .string ByteArray.empty, .int .i64 0, .int .i64 0, .int .i64 0, .slice none 0 0]) :: (Lc ++ LO)) := by
          have := St.reord [[_], LO, Lc, [_]] [3, 2, 1] [0] (by simpa [cat] using hs) rfl
          simpa [cat] using this
        refine s_storeW Try.sizeOf35 rfl rfl rfl rfl hs (kk := 0) rfl rfl ?_
        clear hs; intro w hs; simp only [List.set_cons_zero] at hs
        refine s_assign rfl rfl ?_
        refine WL_nil ?_
        refine n_then ?_
        refine W_ret ?_
        first
          | (have hyes : rdEnd s6 = 0 ∧ validP g ⟨strOf rr, h, t, u⟩ cc.length := ⟨‹_›, ‹_›⟩
             rw [if_pos hyes] at hdec
             refine end2 rfl (resOk_block Try.isAgg35 Try.sizeOf35 hs rfl (kk := 0) rfl rfl) rfl ?_
             rw [hdec]
             exact ⟨_, Lc, rfl, hOc, hs.tail.left⟩)
end Go.Proofs.Ytkobigdfijeajaa
