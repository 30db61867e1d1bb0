/- A write-ahead log on a disk: Open, Append, Len, Up. -/
import Derived.Test.YtgppcfgnhahnaaaDoorOne
import Derived.Test.YtgppcfgnhahnaaaDoorWaO
import Derived.Test.YtgppcfgnhahnaaaDoorDfr
set_option linter.unusedVariables false
set_option linter.unusedSimpArgs false
namespace Go.SL
section
variable {P : Program} {fn : Func} {n : Nat} {R : Value → World → Prop} {l : Fr} {w : World}
theorem end3 {r s t : ResultVar} {v u x : Value} {i j k : Nat} (hr : fn.results = #[.tmp i, .tmp j, .tmp k]) (hv : get l i = some v) (hu : get l j = some u) (hx : get l k = some x) (h : R (.tuple #[v, u, x]) w) : endQ P fn n R .ret l w := fun a ha => by
  have h1 := ha.vals _ _ hv
  have h2 := ha.vals _ _ hu
  have h3 := ha.vals _ _ hx
  exact ⟨_, by simp [results, hr, h1, h2, h3], h⟩
end
end Go.SL
namespace Go.Proofs.YtgppcfgnhahnaaaDoor
open Go.SL
/-- what Open does to a disk whose file's records take n bytes -/
def Dk.open (D : Dk) (f : Int) (n : Nat) : Dk × Int :=
  if (if n < (D.c f).length then D.trunc f n else (D, 0)).2 = 0 then (if n < (D.c f).length then D.trunc f n else (D, 0)).1.sync else (if n < (D.c f).length then D.trunc f n else (D, 0))
def logCells (p : Nat) (f : Int) (n : Nat) (down : Bool) : List Value := [.pointer (some ⟨p, 0, none⟩), .int .i64 f, .int .i64 (n : Int), .bool down]
structure OpT where
  E : Dk
  L : Hp
set_option maxHeartbeats 2000000 in
theorem wOpen_ok {mx : Nat → Nat → Nat} (hmx : IsMix mx) (p : Nat) (D : Dk) (f : Int) (L0 : Hp) (w0 : World) (hD : DiskAt p D L0) (hf : isI64 f) (hl : (D.c f).length ≤ 1048576) (hs : St (ids L0) w0 w0 L0) :
    Ret Tryd.prog 5 [.pointer (some ⟨p, 0, none⟩), .int .i64 f].toArray w0 fun r w' => ∃ L', St (ids L0) w0 w' L' ∧
      ((D.readE f ≠ 0 ∧ r = .tuple #[.pointer none, .slice none 0 0, .int .i64 (D.readE f)] ∧ DiskAt p D L') ∨
       (D.readE f = 0 ∧ ∃ xs, IsScan mx 0 (D.c f) xs ∧
         (((D.open f (framesV mx 0 xs).length).2 ≠ 0 ∧ r = .tuple #[.pointer none, .slice none 0 0, .int .i64 (D.open f (framesV mx 0 xs).length).2] ∧ DiskAt p (D.open f (framesV mx 0 xs).length).1 L') ∨
          ((D.open f (framesV mx 0 xs).length).2 = 0 ∧ ∃ (q : Nat) (rs : Recs) (u : Value) (Lu Lx LD : Hp), rs.x = xs ∧ L' = (q, Blk 53 (logCells p f xs.length false)) :: (Lu ++ (Lx ++ LD)) ∧ r = .tuple #[.pointer (some ⟨q, 0, none⟩), u, .int .i64 0] ∧
            DiskAt p (D.open f (framesV mx 0 xs).length).1 LD ∧ OwnS 35 1 u rs.length rs.v Lu ∧ RecsIn rs Lx)))) := by
  have hD0 := hD
  refine Ret_startL hs fun w hs => ?_
  refine Ret_of Tryd.func5 rfl Tryd.ntmps5 rfl ?_
  refine W_seq ?_
  refine W_region ?_
  refine s_assign rfl rfl ?_
  refine s_assign rfl rfl ?_
  refine s_assign rfl rfl ?_
  refine WL_nil ?_
  refine n_then ?_
  refine W_seq ?_
  refine W_seq ?_
  refine W_region ?_
  refine s_move rfl rfl ?_
  refine s_eql_ptr_nil Tryd.underlying23 rfl rfl rfl ?_
  refine WL_nil ?_
  refine n_then ?_
  refine W_cond_kf rfl (rfl) ?_
  refine W_skip ?_
  refine n_then ?_
  refine W_seq ?_
  refine W_region ?_
  refine s_move rfl rfl ?_
  refine s_move rfl rfl ?_
  refine s_callL (M := []) (L1 := L0) (X := []) Tryd.call16 rfl rfl (by simpa using hs) (fun h => dRead_ok p D f L0 w hD h) ?_
  clear hs; rintro u w L9 ⟨v1, Lr, rfl, rfl, hOr⟩ - hs
  simp only [List.append_nil, List.nil_append] at hs
  obtain ⟨_, cr, ar, rfl, hvr⟩ := hOr.form
  subst hvr
  refine s_move rfl rfl ?_
  refine s_extract rfl rfl rfl ?_
  refine s_extract rfl rfl rfl ?_
  refine s_assign rfl rfl ?_
  refine s_assign rfl rfl ?_
  refine WL_nil ?_
  refine n_then ?_
  refine W_seq ?_
  refine W_seq ?_
  refine W_region ?_
  refine s_move rfl rfl ?_
  refine s_neq rfl rfl rfl ?_
  refine WL_nil ?_
  refine n_then ?_
  refine W_cond rfl (fun hc22 => ?_) (fun hc22 => ?_)
  · skip
    try simp only [decide_eq_true_eq, decide_eq_false_iff_not, gt_iff_lt, bne_iff_ne, ne_eq, bne_eq_false_iff_eq] at hc22
    refine W_seq ?_
    refine W_region ?_
    refine s_move rfl rfl ?_
    refine s_assign rfl rfl ?_
    refine s_assign rfl rfl ?_
    refine s_assign rfl rfl ?_
    refine WL_nil ?_
    refine n_then ?_
    refine W_ret ?_
    refine r_then ?_
    first
      | (refine end3 (r := .tmp 0) (s := .tmp 0) (t := .tmp 0) rfl rfl rfl rfl ⟨L0, hs.right, .inl ⟨by assumption, rfl, hD0⟩⟩)
      | (refine end3 (r := .tmp 0) (s := .tmp 0) (t := .tmp 0) rfl rfl rfl rfl ⟨LT, hs.right.right, .inr ⟨by assumption, rs.x, hsc, .inl ?_⟩⟩
         rw [hfl, hop, if_neg (by assumption)]
         exact ⟨by assumption, rfl, hDT⟩)
      | (refine end3 (r := .tmp 0) (s := .tmp 0) (t := .tmp 0) rfl rfl rfl rfl ⟨LE, hs.right.right, .inr ⟨by assumption, rs.x, hsc, .inl ?_⟩⟩
         rw [hfl]
         exact ⟨by assumption, rfl, hDE⟩)
      | (refine end3 (r := .tmp 0) (s := .tmp 0) (t := .tmp 0) rfl rfl rfl rfl ⟨_, hs, .inr ⟨by assumption, rs.x, hsc, .inr ?_⟩⟩
         rw [hfl]
         exact ⟨by assumption, b50, rs, _, Lu, Lx, LE, rfl, by rw [logCells, Recs.x_length], rfl, hDE, hOu, hrs⟩)
  · skip
    try simp only [decide_eq_true_eq, decide_eq_false_iff_not, gt_iff_lt, bne_iff_ne, ne_eq, bne_eq_false_iff_eq] at hc22
    have hrv : D.readV f = D.c f := by rw [Dk.readV, if_pos hc22]
    rw [hrv] at hOr ⊢
    have hcB : ∀ b ∈ D.c f, isB b := by obtain ⟨m, o, v0, Lf, R, es, hP⟩ := disk_open hD f; exact hP.byt
    have hfr : 0 ≤ f ∧ f ≤ 63 := by
      rw [Dk.readE] at hc22
      split at hc22
      · simp at hc22
      · omega
    refine W_skip ?_
    refine n_then ?_
    refine W_seq ?_
    refine W_region ?_
    refine s_move rfl rfl ?_
    refine s_call Tryd.call17 rfl rfl (scan_ok hmx _ (D.c f) w (OwnS_slIn hOr fun p hp => hs.own p (by simp [hp])) hcB hl) ?_
    rintro r w ⟨rs, u, Lu, Lx, rfl, hOu, hst, hrs, hsc⟩
    replace hs := St.back0 hs hst
    clear hst
    replace hs : St (ids L0) w0 w (Lu ++ (Lx ++ L0)) := by
      have h9 := St.reord [Lu, Lx, Lr, L0] [0, 1, 3] [2] (by simpa [cat] using hs) rfl
      exact h9
    obtain ⟨_, cu, au, rfl, hvu⟩ := hOu.form
    subst hvu
    have hle : (framesV mx 0 rs.x).length ≤ (D.c f).length := by obtain ⟨q, h, _⟩ := hsc; have := congrArg List.length h; rw [List.length_append] at this; omega
    obtain ⟨T, hT⟩ : ∃ T, T = (if (framesV mx 0 rs.x).length < (D.c f).length then D.trunc f ((framesV mx 0 rs.x).length : Int) else (D, 0)) := ⟨_, rfl⟩
    have hop : D.open f (framesV mx 0 rs.x).length = if T.2 = 0 then T.1.sync else T := by rw [Dk.open, ← hT]
    generalize hfl : (framesV mx 0 rs.x).length = FL at hT hop hle
    refine s_move rfl rfl ?_
    refine s_extract rfl rfl rfl ?_
    refine s_extract rfl rfl rfl ?_
    refine s_assign rfl rfl ?_
    refine s_assign rfl rfl ?_
    refine WL_nil ?_
    refine n_then ?_
    refine W_cut (σ := OpT) (fun s => [(0, .pointer (some ⟨p, 0, none⟩)), (1, .int .i64 f), (9, .slice au rs.length cu)]) (fun s w => St (ids L0) w0 w (Lu ++ (Lx ++ s.L)) ∧ DiskAt p s.E s.L ∧ T.2 = 0 ∧ T.1 = s.E) ?_ ?_
    · skip
      refine W_seq ?_
      refine W_region ?_
      refine s_move rfl rfl ?_
      refine s_len rfl rfl (LN35 _ _ _ _) ?_
      refine s_move rfl rfl ?_
      refine s_gtr rfl rfl rfl ?_
      refine WL_nil ?_
      refine n_then ?_
      refine W_cond rfl (fun hc32 => ?_) (fun hc32 => ?_)
      · skip
        try simp only [decide_eq_true_eq, decide_eq_false_iff_not, gt_iff_lt, bne_iff_ne, ne_eq, bne_eq_false_iff_eq] at hc32
        refine W_seq ?_
        refine W_region ?_
        refine s_move rfl rfl ?_
        refine s_move rfl rfl ?_
        refine s_move rfl rfl ?_
        refine s_callL (M := Lu ++ Lx) (L1 := L0) (X := []) Tryd.call18 rfl rfl (by simpa using hs) (fun h => dTrunc_ok p D f _ L0 w hD (by unfold isI64; omega) h) ?_
        rw [if_pos (by omega)] at hT
        rw [← hT]
        clear hs; rintro u w LT ⟨hDT, rfl⟩ - hs
        simp only [List.append_nil, List.append_assoc] at hs
        refine s_assign rfl rfl ?_
        refine WL_nil ?_
        refine n_then ?_
        refine W_seq ?_
        refine W_region ?_
        refine s_move rfl rfl ?_
        refine s_neq rfl rfl rfl ?_
        refine WL_nil ?_
        refine n_then ?_
        refine W_cond rfl (fun hc38 => ?_) (fun hc38 => ?_)
        · skip
          try simp only [decide_eq_true_eq, decide_eq_false_iff_not, gt_iff_lt, bne_iff_ne, ne_eq, bne_eq_false_iff_eq] at hc38
          refine W_seq ?_
          refine W_region ?_
          refine s_move rfl rfl ?_
          refine s_assign rfl rfl ?_
          refine s_assign rfl rfl ?_
          refine s_assign rfl rfl ?_
          refine WL_nil ?_
          refine n_then ?_
          refine W_ret ?_
          refine r_then ?_
          first
            | (refine end3 (r := .tmp 0) (s := .tmp 0) (t := .tmp 0) rfl rfl rfl rfl ⟨L0, hs.right, .inl ⟨by assumption, rfl, hD0⟩⟩)
            | (refine end3 (r := .tmp 0) (s := .tmp 0) (t := .tmp 0) rfl rfl rfl rfl ⟨LT, hs.right.right, .inr ⟨by assumption, rs.x, hsc, .inl ?_⟩⟩
               rw [hfl, hop, if_neg (by assumption)]
               exact ⟨by assumption, rfl, hDT⟩)
            | (refine end3 (r := .tmp 0) (s := .tmp 0) (t := .tmp 0) rfl rfl rfl rfl ⟨LE, hs.right.right, .inr ⟨by assumption, rs.x, hsc, .inl ?_⟩⟩
               rw [hfl]
               exact ⟨by assumption, rfl, hDE⟩)
            | (refine end3 (r := .tmp 0) (s := .tmp 0) (t := .tmp 0) rfl rfl rfl rfl ⟨_, hs, .inr ⟨by assumption, rs.x, hsc, .inr ?_⟩⟩
               rw [hfl]
               exact ⟨by assumption, b50, rs, _, Lu, Lx, LE, rfl, by rw [logCells, Recs.x_length], rfl, hDE, hOu, hrs⟩)
        · skip
          try simp only [decide_eq_true_eq, decide_eq_false_iff_not, gt_iff_lt, bne_iff_ne, ne_eq, bne_eq_false_iff_eq] at hc38
          refine W_skip ?_
          refine n_loop ?_
          first
            | exact ⟨⟨T.1, LT⟩, ⟨rfl, rfl, rfl, trivial⟩, hs, hDT, hc38, rfl⟩
            | (rw [if_neg (by omega)] at hT
               exact ⟨⟨D, L0⟩, ⟨rfl, rfl, rfl, trivial⟩, hs, hD0, by rw [hT], by rw [hT]⟩)
      · skip
        try simp only [decide_eq_true_eq, decide_eq_false_iff_not, gt_iff_lt, bne_iff_ne, ne_eq, bne_eq_false_iff_eq] at hc32
        refine W_skip ?_
        refine n_loop ?_
        first
          | exact ⟨⟨T.1, LT⟩, ⟨rfl, rfl, rfl, trivial⟩, hs, hDT, hc38, rfl⟩
          | (rw [if_neg (by omega)] at hT
             exact ⟨⟨D, L0⟩, ⟨rfl, rfl, rfl, trivial⟩, hs, hD0, by rw [hT], by rw [hT]⟩)
    · skip
      clear hs
      rintro ⟨E, LE⟩ w ⟨hs, hDE, hT2, hT1⟩
      simp only at hs hDE hT2 hT1 ⊢
      rw [if_pos hT2, hT1] at hop
      refine W_seq ?_
      refine W_seq ?_
      refine W_region ?_
      refine s_move rfl rfl ?_
      refine s_callL (M := Lu ++ Lx) (L1 := LE) (X := []) Tryd.call19 rfl rfl (by simpa using hs) (fun h => dSync_ok p E LE w hDE h) ?_
      rw [← hop]
      clear hs hDE; rintro u w LE ⟨hDE, rfl⟩ - hs
      simp only [List.append_nil, List.append_assoc] at hs
      refine s_assign rfl rfl ?_
      refine WL_nil ?_
      refine n_then ?_
      refine W_seq ?_
      refine W_region ?_
      refine s_move rfl rfl ?_
      refine s_neq rfl rfl rfl ?_
      refine WL_nil ?_
      refine n_then ?_
      refine W_cond rfl (fun hc43 => ?_) (fun hc43 => ?_)
      · skip
        try simp only [decide_eq_true_eq, decide_eq_false_iff_not, gt_iff_lt, bne_iff_ne, ne_eq, bne_eq_false_iff_eq] at hc43
        refine W_seq ?_
        refine W_region ?_
        refine s_move rfl rfl ?_
        refine s_assign rfl rfl ?_
        refine s_assign rfl rfl ?_
        refine s_assign rfl rfl ?_
        refine WL_nil ?_
        refine n_then ?_
        refine W_ret ?_
        refine r_then ?_
        first
          | (refine end3 (r := .tmp 0) (s := .tmp 0) (t := .tmp 0) rfl rfl rfl rfl ⟨L0, hs.right, .inl ⟨by assumption, rfl, hD0⟩⟩)
          | (refine end3 (r := .tmp 0) (s := .tmp 0) (t := .tmp 0) rfl rfl rfl rfl ⟨LT, hs.right.right, .inr ⟨by assumption, rs.x, hsc, .inl ?_⟩⟩
             rw [hfl, hop, if_neg (by assumption)]
             exact ⟨by assumption, rfl, hDT⟩)
          | (refine end3 (r := .tmp 0) (s := .tmp 0) (t := .tmp 0) rfl rfl rfl rfl ⟨LE, hs.right.right, .inr ⟨by assumption, rs.x, hsc, .inl ?_⟩⟩
             rw [hfl]
             exact ⟨by assumption, rfl, hDE⟩)
          | (refine end3 (r := .tmp 0) (s := .tmp 0) (t := .tmp 0) rfl rfl rfl rfl ⟨_, hs, .inr ⟨by assumption, rs.x, hsc, .inr ?_⟩⟩
             rw [hfl]
             exact ⟨by assumption, b50, rs, _, Lu, Lx, LE, rfl, by rw [logCells, Recs.x_length], rfl, hDE, hOu, hrs⟩)
      · skip
        try simp only [decide_eq_true_eq, decide_eq_false_iff_not, gt_iff_lt, bne_iff_ne, ne_eq, bne_eq_false_iff_eq] at hc43
        refine W_skip ?_
        refine n_then ?_
        refine W_seq ?_
        refine W_region ?_
        refine s_move rfl rfl ?_
        refine s_move rfl rfl ?_
        refine s_move rfl rfl ?_
        refine s_len rfl rfl (LN26 _ _ _ _) ?_
        refine s_build rfl rfl (BD53_0_1_2 _ _ _) ?_
        first | refine s_box rfl rfl hs ?_ | refine s_box1 rfl rfl rfl hs ?_
        clear hs; intro b50 w hs
        refine s_move rfl rfl ?_
        refine s_assign rfl rfl ?_
        refine s_assign rfl rfl ?_
        refine s_assign rfl rfl ?_
        refine WL_nil ?_
        refine n_then ?_
        refine W_ret ?_
        first
          | (refine end3 (r := .tmp 0) (s := .tmp 0) (t := .tmp 0) rfl rfl rfl rfl ⟨L0, hs.right, .inl ⟨by assumption, rfl, hD0⟩⟩)
          | (refine end3 (r := .tmp 0) (s := .tmp 0) (t := .tmp 0) rfl rfl rfl rfl ⟨LT, hs.right.right, .inr ⟨by assumption, rs.x, hsc, .inl ?_⟩⟩
             rw [hfl, hop, if_neg (by assumption)]
             exact ⟨by assumption, rfl, hDT⟩)
          | (refine end3 (r := .tmp 0) (s := .tmp 0) (t := .tmp 0) rfl rfl rfl rfl ⟨LE, hs.right.right, .inr ⟨by assumption, rs.x, hsc, .inl ?_⟩⟩
             rw [hfl]
             exact ⟨by assumption, rfl, hDE⟩)
          | (refine end3 (r := .tmp 0) (s := .tmp 0) (t := .tmp 0) rfl rfl rfl rfl ⟨_, hs, .inr ⟨by assumption, rs.x, hsc, .inr ?_⟩⟩
             rw [hfl]
             exact ⟨by assumption, b50, rs, _, Lu, Lx, LE, rfl, by rw [logCells, Recs.x_length], rfl, hDE, hOu, hrs⟩)
theorem wOpen_nil (f : Int) (w0 : World) :
    Ret Tryd.prog 5 [.pointer none, .int .i64 f].toArray w0 fun r w' => Fwd [] w0 w' ∧ r = .tuple #[.pointer none, .slice none 0 0, .int .i64 1] := by
  refine Ret_start fun w hs => ?_
  refine Ret_of Tryd.func5 rfl Tryd.ntmps5 rfl ?_
  refine W_seq ?_
  refine W_region ?_
  refine s_assign rfl rfl ?_
  refine s_assign rfl rfl ?_
  refine s_assign rfl rfl ?_
  refine WL_nil ?_
  refine n_then ?_
  refine W_seq ?_
  refine W_seq ?_
  refine W_region ?_
  refine s_move rfl rfl ?_
  refine s_eql_nil_nil Tryd.underlying23 rfl rfl rfl ?_
  refine WL_nil ?_
  refine n_then ?_
  refine W_cond rfl (fun hc14 => ?_) (fun hc14 => ?_)
  · skip
    skip
    refine W_seq ?_
    refine W_region ?_
    refine s_assign rfl rfl ?_
    refine s_assign rfl rfl ?_
    refine s_assign rfl rfl ?_
    refine WL_nil ?_
    refine n_then ?_
    refine W_ret ?_
    refine r_then ?_
    exact end3 (r := .tmp 0) (s := .tmp 0) (t := .tmp 0) rfl rfl rfl rfl ⟨hs.fwd, rfl⟩
  · skip
    exact absurd hc14 (by simp) -- DEAD
/-! Append -/
/-- what Append does: the disk, the number of records, whether the log is down, the error -/
def logApp (mx : Nat → Nat → Nat) (D : Dk) (f : Int) (n : Nat) (down : Bool) (x : List Int) : Dk × Nat × Bool × Int :=
  if 65536 < x.length then (D, n, down, 4) else if down then (D, n, true, 18)
  else if (D.app f (frameV mx n x)).2 ≠ 0 then ((D.app f (frameV mx n x)).1, n, decide ((D.app f (frameV mx n x)).2 = 18), (D.app f (frameV mx n x)).2)
  else if (D.app f (frameV mx n x)).1.sync.2 ≠ 0 then ((D.app f (frameV mx n x)).1.sync.1, n, decide ((D.app f (frameV mx n x)).1.sync.2 = 18), (D.app f (frameV mx n x)).1.sync.2)
  else ((D.app f (frameV mx n x)).1.sync.1, n + 1, false, 0)
theorem clos_ok (b4 b2 q p : Nat) (f : Int) (n : Nat) (down : Bool) (e : Int) (F : List Nat) (w0 w : World) (X : Hp)
    (hs : St F w0 w ((b4, Blk 27 [.int .i64 e]) :: (b2, Blk 25 [.pointer (some ⟨q, 0, none⟩)]) :: (q, Blk 53 [.pointer (some ⟨p, 0, none⟩), .int .i64 f, .int .i64 (n : Int), .bool down]) :: X)) :
    RetD Tryd.prog 25 [.pointer (some ⟨b4, 0, none⟩), .pointer (some ⟨b2, 0, none⟩)].toArray w fun _ w' => St F w0 w' ((b4, Blk 27 [.int .i64 e]) :: (b2, Blk 25 [.pointer (some ⟨q, 0, none⟩)]) :: (q, Blk 53 [.pointer (some ⟨p, 0, none⟩), .int .i64 f, .int .i64 (n : Int), .bool (down || decide (e = 18))]) :: X) := by
  refine RetD_of Tryd.func25 rfl Tryd.ntmps25 rfl ?_
  refine W_seq ?_
  refine W_region ?_
  first
    | refine s_load Tryd.isAgg27 rfl rfl (hs.cell (k := 0) rfl rfl) ?_
    | refine s_load Tryd.isAgg27 rfl rfl (hs.cell (k := 1) rfl rfl) ?_
    | refine s_load Tryd.isAgg27 rfl rfl (hs.cell (k := 2) rfl rfl) ?_
  refine s_eql rfl rfl rfl ?_
  refine WL_nil ?_
  refine n_then ?_
  refine W_cond rfl (fun hc3 => ?_) (fun hc3 => ?_)
  · skip
    try simp only [beq_iff_eq, beq_eq_false_iff_ne, ne_eq] at hc3
    refine W_region ?_
    first
      | refine s_load Tryd.isAgg25 rfl rfl (hs.cell (k := 0) rfl rfl) ?_
      | refine s_load Tryd.isAgg25 rfl rfl (hs.cell (k := 1) rfl rfl) ?_
      | refine s_load Tryd.isAgg25 rfl rfl (hs.cell (k := 2) rfl rfl) ?_
    refine s_nilCheck rfl rfl ?_
    refine s_fieldAddr rfl rfl (FA53_3 _ _) ?_
    first
      | refine s_storeB Tryd.sizeOf4 rfl rfl rfl hs (kk := 0) rfl rfl ?_
      | refine s_storeB Tryd.sizeOf4 rfl rfl rfl hs (kk := 1) rfl rfl ?_
      | refine s_storeB Tryd.sizeOf4 rfl rfl rfl hs (kk := 2) rfl rfl ?_
    clear hs; intro w hs; try simp only [List.set_cons_zero, List.set_cons_succ, splice, List.take_succ_cons, List.take_zero, List.drop_succ_cons, List.drop_zero, List.nil_append, List.cons_append, List.length_cons, List.length_nil, Nat.reduceAdd, List.append_assoc] at hs
    refine WL_nil ?_
    first
      | (rw [decide_eq_true (by assumption), Bool.or_true]; exact end0' rfl hs)
      | (rw [decide_eq_false (by assumption), Bool.or_false]; exact end0' rfl hs)
  · skip
    try simp only [beq_iff_eq, beq_eq_false_iff_ne, ne_eq] at hc3
    refine W_skip ?_
    first
      | (rw [decide_eq_true (by assumption), Bool.or_true]; exact end0' rfl hs)
      | (rw [decide_eq_false (by assumption), Bool.or_false]; exact end0' rfl hs)
set_option maxHeartbeats 2000000 in
theorem wAppend_ok {mx : Nat → Nat → Nat} (hmx : IsMix mx) (q p : Nat) (D : Dk) (f : Int) (n : Nat) (down : Bool) (v : Value) (x : List Int) (LD : Hp) (w0 : World) (hD : DiskAt p D LD) (hv : Sl w0 v x.length (u8s x)) (hxB : ∀ b ∈ x, isB b) (hn : n ≤ 1048576)
    (hap : ∀ a m c, v = .slice (some a) m c → u8s x ≠ [] → a.block ∉ ids ((q, Blk 53 (logCells p f n down)) :: LD)) (hxl : x.length ≤ 1048576) (hs : St (ids ((q, Blk 53 (logCells p f n down)) :: LD)) w0 w0 ((q, Blk 53 (logCells p f n down)) :: LD)) :
    Ret Tryd.prog 10 [.pointer (some ⟨q, 0, none⟩), v].toArray w0 fun r w' => ∃ L', St (ids ((q, Blk 53 (logCells p f n down)) :: LD)) w0 w' L' ∧ ∃ LD', L' = (q, Blk 53 (logCells p f (logApp mx D f n down x).2.1 (logApp mx D f n down x).2.2.1)) :: LD' ∧ DiskAt p (logApp mx D f n down x).1 LD' ∧ r = .int .i64 (logApp mx D f n down x).2.2.2 := by
  obtain ⟨va, vc, rfl, hvc⟩ := hv.len_le
  obtain ⟨A, hA⟩ : ∃ A, A = D.app f (frameV mx n x) := ⟨_, rfl⟩
  obtain ⟨S, hS⟩ : ∃ S, S = A.1.sync := ⟨_, rfl⟩
  have hfB := frameV_isB (mx := mx) (n := (n : Int)) hxB
  generalize hF : ids ((q, Blk 53 (logCells p f n down)) :: LD) = F at hs hap ⊢
  have hqF : ∀ b, b ∈ ids LD → b ∈ F := fun b hb => by rw [← hF]; exact List.mem_cons_of_mem _ hb
  have hlog : logApp mx D f n down x = if 65536 < x.length then (D, n, down, 4) else if down then (D, n, true, 18) else if A.2 ≠ 0 then (A.1, n, decide (A.2 = 18), A.2) else if S.2 ≠ 0 then (S.1, n, decide (S.2 = 18), S.2) else (S.1, n + 1, false, 0) := by
    rw [hS, hA]; rfl
  generalize logApp mx D f n down x = G at hlog
  unfold logCells at hs
  refine Ret_startL hs fun w hs => ?_
  have hend : ∀ (G : Dk × Nat × Bool × Int) (n2 : Nat) (down2 : Bool) (e : Int) (LE : Hp) (w : World) (l : Fr) (b4 b2 : Nat), SL.get l 4 = some (.pointer (some ⟨b4, 0, none⟩)) → DiskAt p G.1 LE → G = (G.1, n2, (down2 || decide (e = 18)), e) →
      St F w0 w ((b4, Blk 27 [.int .i64 e]) :: (b2, Blk 25 [.pointer (some ⟨q, 0, none⟩)]) :: (q, Blk 53 [.pointer (some ⟨p, 0, none⟩), .int .i64 f, .int .i64 (n2 : Int), .bool down2]) :: LE) →
      endD Tryd.prog Tryd.f10 48 (fun r w' => ∃ L', St F w0 w' L' ∧ ∃ LD', L' = (q, Blk 53 (logCells p f G.2.1 G.2.2.1)) :: LD' ∧ DiskAt p G.1 LD' ∧ r = .int .i64 G.2.2.2) ⟨.fn (.func 25) #[.pointer (some ⟨b4, 0, none⟩), .pointer (some ⟨b2, 0, none⟩)], #[]⟩ .ret l w := by
    intro G n2 down2 e LE w l b4 b2 hg hDE hG hs
    refine ⟨.inr rfl, _, _, 25, _, rfl, by simp [invoke, Tryd.call25], CallsD.mono (clos_ok b4 b2 q p f n2 down2 e F w0 w LE hs) ?_⟩
    rintro e2 u2 w2 ⟨rfl, v2, rfl, hs2⟩
    refine ⟨rfl, v2, rfl, ?_⟩
    have hcell := hs2.cell (k := 0) (i := 0) rfl rfl
    have hres : resOk Tryd.prog l w2 (.cell 4 27) (.int .i64 e) := ⟨_, hg, by simp [loadVar, Tryd.isAgg27, load, Sem.run, hcell]⟩
    have key : endQ Tryd.prog Tryd.f10 48 (fun r w' => ∃ L', St F w0 w' L' ∧ ∃ LD', L' = (q, Blk 53 (logCells p f G.2.1 G.2.2.1)) :: LD' ∧ DiskAt p G.1 LD' ∧ r = .int .i64 G.2.2.2) .ret l w2 := by
      refine end1 rfl hres ⟨_, hs2.tail.tail, LE, ?_, hDE, ?_⟩
      · rw [hG]; rfl
      · rw [hG]
    exact key
  refine Ret_ofD Tryd.func10 rfl Tryd.ntmps10 rfl ?_
  refine WDf_seq ?_
  refine W_region ?_
  first | refine s_box rfl rfl hs ?_ | refine s_box1 rfl rfl rfl hs ?_
  clear hs; intro b2 w hs
  refine s_alloc rfl AL27 hs ?_; clear hs; intro b4 w hs
  refine WL_nil ?_
  refine n_loop ?_
  refine WDf_seq ?_
  refine W_seq ?_
  refine W_region ?_
  refine s_move rfl rfl ?_
  refine s_len rfl rfl (LN35 _ _ _ _) ?_
  refine s_gtr rfl rfl rfl ?_
  refine WL_nil ?_
  refine n_then ?_
  refine W_cond rfl (fun hc9 => ?_) (fun hc9 => ?_)
  · skip
    try simp only [decide_eq_true_eq, decide_eq_false_iff_not, gt_iff_lt, bne_iff_ne, ne_eq, bne_eq_false_iff_eq] at hc9
    refine W_seq ?_
    refine W_region ?_
    first
      | refine s_storeB Tryd.sizeOf27 rfl rfl rfl hs (kk := 0) rfl rfl ?_
      | refine s_storeB Tryd.sizeOf27 rfl rfl rfl hs (kk := 1) rfl rfl ?_
      | refine s_storeB Tryd.sizeOf27 rfl rfl rfl hs (kk := 2) rfl rfl ?_
      | refine s_storeB Tryd.sizeOf27 rfl rfl rfl hs (kk := 3) rfl rfl ?_
    clear hs; intro w hs; try simp only [List.set_cons_zero, List.set_cons_succ, splice, List.take_succ_cons, List.take_zero, List.drop_succ_cons, List.drop_zero, List.nil_append, List.cons_append, List.length_cons, List.length_nil, Nat.reduceAdd, List.append_assoc] at hs
    refine WL_nil ?_
    refine n_then ?_
    refine W_ret ?_
    refine r_then ?_
    rw [hlog, if_pos (by omega)]
    have hcell := hs.cell (k := 0) (i := 0) rfl rfl
    refine end1 (v := .int .i64 4) rfl ⟨⟨b4, 0, none⟩, rfl, ?_⟩ ⟨_, hs.tail.tail, LD, rfl, hD, rfl⟩
    simp [loadVar, Tryd.isAgg27, load, Sem.run, hcell]
  · skip
    try simp only [decide_eq_true_eq, decide_eq_false_iff_not, gt_iff_lt, bne_iff_ne, ne_eq, bne_eq_false_iff_eq] at hc9
    refine W_skip ?_
    refine n_loop ?_
    refine WDf_reg ?_
    refine WLD_step ?_
    refine s_makeFunc rfl rfl rfl ?_
    refine WLD_next ?_
    refine s_defer rfl ?_
    refine ⟨rfl, ?_⟩
    refine W_seq ?_
    refine W_seq ?_
    refine W_region ?_
    first
      | refine s_load Tryd.isAgg25 rfl rfl (hs.cell (k := 0) rfl rfl) ?_
      | refine s_load Tryd.isAgg25 rfl rfl (hs.cell (k := 1) rfl rfl) ?_
      | refine s_load Tryd.isAgg25 rfl rfl (hs.cell (k := 2) rfl rfl) ?_
      | refine s_load Tryd.isAgg25 rfl rfl (hs.cell (k := 3) rfl rfl) ?_
    refine s_nilCheck rfl rfl ?_
    refine s_fieldAddr rfl rfl (FA53_3 _ _) ?_
    first
      | refine s_load Tryd.isAgg4 rfl rfl (hs.cell (k := 0) rfl rfl) ?_
      | refine s_load Tryd.isAgg4 rfl rfl (hs.cell (k := 1) rfl rfl) ?_
      | refine s_load Tryd.isAgg4 rfl rfl (hs.cell (k := 2) rfl rfl) ?_
      | refine s_load Tryd.isAgg4 rfl rfl (hs.cell (k := 3) rfl rfl) ?_
    refine WL_nil ?_
    refine n_then ?_
    refine W_cond rfl (fun hc14 => ?_) (fun hc14 => ?_)
    · skip
      try simp only [decide_eq_true_eq, decide_eq_false_iff_not, gt_iff_lt, bne_iff_ne, ne_eq, bne_eq_false_iff_eq] at hc14
      refine W_seq ?_
      refine W_region ?_
      first
        | refine s_storeB Tryd.sizeOf27 rfl rfl rfl hs (kk := 0) rfl rfl ?_
        | refine s_storeB Tryd.sizeOf27 rfl rfl rfl hs (kk := 1) rfl rfl ?_
        | refine s_storeB Tryd.sizeOf27 rfl rfl rfl hs (kk := 2) rfl rfl ?_
        | refine s_storeB Tryd.sizeOf27 rfl rfl rfl hs (kk := 3) rfl rfl ?_
      clear hs; intro w hs; try simp only [List.set_cons_zero, List.set_cons_succ, splice, List.take_succ_cons, List.take_zero, List.drop_succ_cons, List.drop_zero, List.nil_append, List.cons_append, List.length_cons, List.length_nil, Nat.reduceAdd, List.append_assoc] at hs
      refine WL_nil ?_
      refine n_then ?_
      refine W_ret ?_
      refine r_then ?_
      first
        | (rw [if_neg (by omega), if_pos hc14] at hlog
           subst hlog
           refine hend (D, n, true, 18) n down 18 LD w _ b4 b2 rfl hD ?_ hs
           simp)
        | (rw [if_neg (by omega), if_neg (by rw [hc14]; simp), if_pos hc31] at hlog
           subst hlog
           refine hend (A.1, n, decide (A.2 = 18), A.2) n down A.2 LD w _ b4 b2 rfl hD ?_ hs
           rw [hc14, Bool.false_or])
        | (rw [if_neg (by omega), if_neg (by rw [hc14]; simp), if_neg (fun h => h hc31), if_pos hc39] at hlog
           subst hlog
           refine hend (S.1, n, decide (S.2 = 18), S.2) n down S.2 LD w _ b4 b2 rfl hD ?_ hs
           rw [hc14, Bool.false_or])
        | (rw [if_neg (by omega), if_neg (by rw [hc14]; simp), if_neg (fun h => h hc31), if_neg (fun h => h hc39)] at hlog
           subst hlog
           refine hend (S.1, n + 1, false, 0) (n + 1) down 0 LD w _ b4 b2 rfl hD ?_ hs
           rw [hc14]; simp)
    · skip
      try simp only [decide_eq_true_eq, decide_eq_false_iff_not, gt_iff_lt, bne_iff_ne, ne_eq, bne_eq_false_iff_eq] at hc14
      refine W_skip ?_
      refine n_then ?_
      refine W_seq ?_
      refine W_seq ?_
      refine W_draw [(0, true, []), (1, true, []), (2, true, []), (3, true, []), (4, true, []), (5, true, []), (6, true, []), (7, true, []), (8, true, []), (9, true, []), (10, true, []), (11, true, []), (12, true, []), (13, false, [0, 1, 2, 3, 4, 5, 6, 7]), (14, false, []), (15, true, [])] [[], [0], [0, 1], [0, 1, 2], [], [4], [4, 5], [4, 5, 6], [], [8], [8, 9], [8, 9, 10], [], [8, 9, 10, 11, 12], [0, 1, 2, 3, 4, 5, 6, 7, 8, 9, 10, 11, 12, 13], [0, 1, 2, 3, 4, 5, 6, 7, 8, 9, 10, 11, 12, 13, 14]] MX (by kernel_rfl) ?_
      intro w1 hw1 hw2 hw3 hw4; replace hs := hs.redrawn hw1 hw2 hw3 hw4; clear hw1 hw2 hw3 hw4
      obtain ⟨w, rfl⟩ : ∃ w : World, w = w1 := ⟨_, rfl⟩
      refine D_q rfl rfl ?_
      first
        | refine s_load Tryd.isAgg25 rfl rfl (hs.cell (k := 0) rfl rfl) ?_
        | refine s_load Tryd.isAgg25 rfl rfl (hs.cell (k := 1) rfl rfl) ?_
        | refine s_load Tryd.isAgg25 rfl rfl (hs.cell (k := 2) rfl rfl) ?_
        | refine s_load Tryd.isAgg25 rfl rfl (hs.cell (k := 3) rfl rfl) ?_
      refine D_qn ?_
      refine D_q rfl rfl ?_
      refine s_nilCheck rfl rfl ?_
      refine D_qn ?_
      refine D_q rfl rfl ?_
      refine s_fieldAddr rfl rfl (FA53_0 _ _) ?_
      refine D_qn ?_
      refine D_q rfl rfl ?_
      first
        | refine s_load Tryd.isAgg23 rfl rfl (hs.cell (k := 0) rfl rfl) ?_
        | refine s_load Tryd.isAgg23 rfl rfl (hs.cell (k := 1) rfl rfl) ?_
        | refine s_load Tryd.isAgg23 rfl rfl (hs.cell (k := 2) rfl rfl) ?_
        | refine s_load Tryd.isAgg23 rfl rfl (hs.cell (k := 3) rfl rfl) ?_
      refine D_qn ?_
      refine D_q rfl rfl ?_
      first
        | refine s_load Tryd.isAgg25 rfl rfl (hs.cell (k := 0) rfl rfl) ?_
        | refine s_load Tryd.isAgg25 rfl rfl (hs.cell (k := 1) rfl rfl) ?_
        | refine s_load Tryd.isAgg25 rfl rfl (hs.cell (k := 2) rfl rfl) ?_
        | refine s_load Tryd.isAgg25 rfl rfl (hs.cell (k := 3) rfl rfl) ?_
      refine D_qn ?_
      refine D_q rfl rfl ?_
      refine s_nilCheck rfl rfl ?_
      refine D_qn ?_
      refine D_q rfl rfl ?_
      refine s_fieldAddr rfl rfl (FA53_1 _ _) ?_
      refine D_qn ?_
      refine D_q rfl rfl ?_
      first
        | refine s_load Tryd.isAgg3 rfl rfl (hs.cell (k := 0) rfl rfl) ?_
        | refine s_load Tryd.isAgg3 rfl rfl (hs.cell (k := 1) rfl rfl) ?_
        | refine s_load Tryd.isAgg3 rfl rfl (hs.cell (k := 2) rfl rfl) ?_
        | refine s_load Tryd.isAgg3 rfl rfl (hs.cell (k := 3) rfl rfl) ?_
      refine D_qn ?_
      refine D_q rfl rfl ?_
      first
        | refine s_load Tryd.isAgg25 rfl rfl (hs.cell (k := 0) rfl rfl) ?_
        | refine s_load Tryd.isAgg25 rfl rfl (hs.cell (k := 1) rfl rfl) ?_
        | refine s_load Tryd.isAgg25 rfl rfl (hs.cell (k := 2) rfl rfl) ?_
        | refine s_load Tryd.isAgg25 rfl rfl (hs.cell (k := 3) rfl rfl) ?_
      refine D_qn ?_
      refine D_q rfl rfl ?_
      refine s_nilCheck rfl rfl ?_
      refine D_qn ?_
      refine D_q rfl rfl ?_
      refine s_fieldAddr rfl rfl (FA53_2 _ _) ?_
      refine D_qn ?_
      refine D_q rfl rfl ?_
      first
        | refine s_load Tryd.isAgg3 rfl rfl (hs.cell (k := 0) rfl rfl) ?_
        | refine s_load Tryd.isAgg3 rfl rfl (hs.cell (k := 1) rfl rfl) ?_
        | refine s_load Tryd.isAgg3 rfl rfl (hs.cell (k := 2) rfl rfl) ?_
        | refine s_load Tryd.isAgg3 rfl rfl (hs.cell (k := 3) rfl rfl) ?_
      refine D_qn ?_
      refine D_q rfl rfl ?_
      refine s_move rfl rfl ?_
      refine D_qn ?_
      refine D_e rfl ?_
      refine s_call Tryd.call27 rfl rfl (frame_ok hmx (n : Int) _ x w (hv.fwd hs.fwd hap) (by unfold isI64; omega) hxB hxl) ?_
      rintro r w ⟨Lf, hOf, hst⟩
      replace hs := St.back0 hs hst
      clear hst
      replace hs : St F w0 w ([_, _, _] ++ (LD ++ Lf)) := St.reord [Lf, [_, _, _], LD] [1, 2, 0] [] hs rfl
      simp only [List.cons_append, List.nil_append] at hs
      obtain ⟨_, cf, af, rfl, hvf⟩ := hOf.form
      subst hvf
      refine D_en ?re ?_
      case re =>
        refine Reks_cons rfl rfl rfl rfl ?_ ?_
        · skip
          first
            | refine s_load Tryd.isAgg25 rfl rfl (hs.cell (k := 0) rfl rfl) ?_
            | refine s_load Tryd.isAgg25 rfl rfl (hs.cell (k := 1) rfl rfl) ?_
            | refine s_load Tryd.isAgg25 rfl rfl (hs.cell (k := 2) rfl rfl) ?_
            | refine s_load Tryd.isAgg25 rfl rfl (hs.cell (k := 3) rfl rfl) ?_
          exact Rek_end rfl
        refine Reks_cons rfl rfl rfl rfl ?_ ?_
        · skip
          refine s_nilCheck rfl rfl ?_
          exact Rek_end rfl
        refine Reks_cons rfl rfl rfl rfl ?_ ?_
        · skip
          refine s_fieldAddr rfl rfl (FA53_0 _ _) ?_
          exact Rek_end rfl
        refine Reks_cons rfl rfl rfl rfl ?_ ?_
        · skip
          first
            | refine s_load Tryd.isAgg23 rfl rfl (hs.cell (k := 0) rfl rfl) ?_
            | refine s_load Tryd.isAgg23 rfl rfl (hs.cell (k := 1) rfl rfl) ?_
            | refine s_load Tryd.isAgg23 rfl rfl (hs.cell (k := 2) rfl rfl) ?_
            | refine s_load Tryd.isAgg23 rfl rfl (hs.cell (k := 3) rfl rfl) ?_
          exact Rek_end rfl
        refine Reks_cons rfl rfl rfl rfl ?_ ?_
        · skip
          first
            | refine s_load Tryd.isAgg25 rfl rfl (hs.cell (k := 0) rfl rfl) ?_
            | refine s_load Tryd.isAgg25 rfl rfl (hs.cell (k := 1) rfl rfl) ?_
            | refine s_load Tryd.isAgg25 rfl rfl (hs.cell (k := 2) rfl rfl) ?_
            | refine s_load Tryd.isAgg25 rfl rfl (hs.cell (k := 3) rfl rfl) ?_
          exact Rek_end rfl
        refine Reks_cons rfl rfl rfl rfl ?_ ?_
        · skip
          refine s_nilCheck rfl rfl ?_
          exact Rek_end rfl
        refine Reks_cons rfl rfl rfl rfl ?_ ?_
        · skip
          refine s_fieldAddr rfl rfl (FA53_1 _ _) ?_
          exact Rek_end rfl
        refine Reks_cons rfl rfl rfl rfl ?_ ?_
        · skip
          first
            | refine s_load Tryd.isAgg3 rfl rfl (hs.cell (k := 0) rfl rfl) ?_
            | refine s_load Tryd.isAgg3 rfl rfl (hs.cell (k := 1) rfl rfl) ?_
            | refine s_load Tryd.isAgg3 rfl rfl (hs.cell (k := 2) rfl rfl) ?_
            | refine s_load Tryd.isAgg3 rfl rfl (hs.cell (k := 3) rfl rfl) ?_
          exact Rek_end rfl
        exact Reks_nil
      refine D_e rfl ?_
      refine s_callL (M := [_, _, _]) (L1 := LD) (X := Lf) Tryd.call26 rfl rfl hs (fun h => dAppend_ok p D f _ _ LD w hD (OwnS_slIn hOf fun p hp => hs.own p (by simp [hp])) (fun a m c he hne => by cases he; exact St.apartX (M := [_, _, _]) (L := LD) (X := Lf) hs (OwnS_in hOf hne)) hfB h) ?_
      rw [← hA]
      clear hs hD; rintro u w LD ⟨hD, rfl⟩ - hs
      simp only [List.cons_append, List.nil_append] at hs
      replace hs := St.left (L := _ :: _ :: _ :: LD) (M := Lf) hs
      refine D_en ?re ?_
      case re =>
        exact Reks_nil
      refine D_q rfl rfl ?_
      refine s_assign rfl rfl ?_
      refine D_qn ?_
      refine D_nil ?_
      refine n_then ?_
      refine W_seq ?_
      refine W_region ?_
      refine s_move rfl rfl ?_
      refine s_neq rfl rfl rfl ?_
      refine WL_nil ?_
      refine n_then ?_
      refine W_cond rfl (fun hc31 => ?_) (fun hc31 => ?_)
      · skip
        try simp only [decide_eq_true_eq, decide_eq_false_iff_not, gt_iff_lt, bne_iff_ne, ne_eq, bne_eq_false_iff_eq] at hc31
        refine W_seq ?_
        refine W_region ?_
        refine s_move rfl rfl ?_
        first
          | refine s_storeB Tryd.sizeOf27 rfl rfl rfl hs (kk := 0) rfl rfl ?_
          | refine s_storeB Tryd.sizeOf27 rfl rfl rfl hs (kk := 1) rfl rfl ?_
          | refine s_storeB Tryd.sizeOf27 rfl rfl rfl hs (kk := 2) rfl rfl ?_
          | refine s_storeB Tryd.sizeOf27 rfl rfl rfl hs (kk := 3) rfl rfl ?_
        clear hs; intro w hs; try simp only [List.set_cons_zero, List.set_cons_succ, splice, List.take_succ_cons, List.take_zero, List.drop_succ_cons, List.drop_zero, List.nil_append, List.cons_append, List.length_cons, List.length_nil, Nat.reduceAdd, List.append_assoc] at hs
        refine WL_nil ?_
        refine n_then ?_
        refine W_ret ?_
        refine r_then ?_
        first
          | (rw [if_neg (by omega), if_pos hc14] at hlog
             subst hlog
             refine hend (D, n, true, 18) n down 18 LD w _ b4 b2 rfl hD ?_ hs
             simp)
          | (rw [if_neg (by omega), if_neg (by rw [hc14]; simp), if_pos hc31] at hlog
             subst hlog
             refine hend (A.1, n, decide (A.2 = 18), A.2) n down A.2 LD w _ b4 b2 rfl hD ?_ hs
             rw [hc14, Bool.false_or])
          | (rw [if_neg (by omega), if_neg (by rw [hc14]; simp), if_neg (fun h => h hc31), if_pos hc39] at hlog
             subst hlog
             refine hend (S.1, n, decide (S.2 = 18), S.2) n down S.2 LD w _ b4 b2 rfl hD ?_ hs
             rw [hc14, Bool.false_or])
          | (rw [if_neg (by omega), if_neg (by rw [hc14]; simp), if_neg (fun h => h hc31), if_neg (fun h => h hc39)] at hlog
             subst hlog
             refine hend (S.1, n + 1, false, 0) (n + 1) down 0 LD w _ b4 b2 rfl hD ?_ hs
             rw [hc14]; simp)
      · skip
        try simp only [decide_eq_true_eq, decide_eq_false_iff_not, gt_iff_lt, bne_iff_ne, ne_eq, bne_eq_false_iff_eq] at hc31
        refine W_skip ?_
        refine n_then ?_
        refine W_seq ?_
        refine W_seq ?_
        refine W_region ?_
        first
          | refine s_load Tryd.isAgg25 rfl rfl (hs.cell (k := 0) rfl rfl) ?_
          | refine s_load Tryd.isAgg25 rfl rfl (hs.cell (k := 1) rfl rfl) ?_
          | refine s_load Tryd.isAgg25 rfl rfl (hs.cell (k := 2) rfl rfl) ?_
          | refine s_load Tryd.isAgg25 rfl rfl (hs.cell (k := 3) rfl rfl) ?_
        refine s_nilCheck rfl rfl ?_
        refine s_fieldAddr rfl rfl (FA53_0 _ _) ?_
        first
          | refine s_load Tryd.isAgg23 rfl rfl (hs.cell (k := 0) rfl rfl) ?_
          | refine s_load Tryd.isAgg23 rfl rfl (hs.cell (k := 1) rfl rfl) ?_
          | refine s_load Tryd.isAgg23 rfl rfl (hs.cell (k := 2) rfl rfl) ?_
          | refine s_load Tryd.isAgg23 rfl rfl (hs.cell (k := 3) rfl rfl) ?_
        refine s_callL (M := [_, _, _]) (L1 := LD) (X := []) Tryd.call19 rfl rfl (by simpa using hs) (fun h => dSync_ok p A.1 LD w hD h) ?_
        rw [← hS]
        clear hs hD; rintro u w LD ⟨hD, rfl⟩ - hs
        simp only [List.append_nil, List.cons_append, List.nil_append] at hs
        refine s_assign rfl rfl ?_
        refine WL_nil ?_
        refine n_then ?_
        refine W_seq ?_
        refine W_region ?_
        refine s_move rfl rfl ?_
        refine s_neq rfl rfl rfl ?_
        refine WL_nil ?_
        refine n_then ?_
        refine W_cond rfl (fun hc39 => ?_) (fun hc39 => ?_)
        · skip
          try simp only [decide_eq_true_eq, decide_eq_false_iff_not, gt_iff_lt, bne_iff_ne, ne_eq, bne_eq_false_iff_eq] at hc39
          refine W_seq ?_
          refine W_region ?_
          refine s_move rfl rfl ?_
          first
            | refine s_storeB Tryd.sizeOf27 rfl rfl rfl hs (kk := 0) rfl rfl ?_
            | refine s_storeB Tryd.sizeOf27 rfl rfl rfl hs (kk := 1) rfl rfl ?_
            | refine s_storeB Tryd.sizeOf27 rfl rfl rfl hs (kk := 2) rfl rfl ?_
            | refine s_storeB Tryd.sizeOf27 rfl rfl rfl hs (kk := 3) rfl rfl ?_
          clear hs; intro w hs; try simp only [List.set_cons_zero, List.set_cons_succ, splice, List.take_succ_cons, List.take_zero, List.drop_succ_cons, List.drop_zero, List.nil_append, List.cons_append, List.length_cons, List.length_nil, Nat.reduceAdd, List.append_assoc] at hs
          refine WL_nil ?_
          refine n_then ?_
          refine W_ret ?_
          refine r_then ?_
          first
            | (rw [if_neg (by omega), if_pos hc14] at hlog
               subst hlog
               refine hend (D, n, true, 18) n down 18 LD w _ b4 b2 rfl hD ?_ hs
               simp)
            | (rw [if_neg (by omega), if_neg (by rw [hc14]; simp), if_pos hc31] at hlog
               subst hlog
               refine hend (A.1, n, decide (A.2 = 18), A.2) n down A.2 LD w _ b4 b2 rfl hD ?_ hs
               rw [hc14, Bool.false_or])
            | (rw [if_neg (by omega), if_neg (by rw [hc14]; simp), if_neg (fun h => h hc31), if_pos hc39] at hlog
               subst hlog
               refine hend (S.1, n, decide (S.2 = 18), S.2) n down S.2 LD w _ b4 b2 rfl hD ?_ hs
               rw [hc14, Bool.false_or])
            | (rw [if_neg (by omega), if_neg (by rw [hc14]; simp), if_neg (fun h => h hc31), if_neg (fun h => h hc39)] at hlog
               subst hlog
               refine hend (S.1, n + 1, false, 0) (n + 1) down 0 LD w _ b4 b2 rfl hD ?_ hs
               rw [hc14]; simp)
        · skip
          try simp only [decide_eq_true_eq, decide_eq_false_iff_not, gt_iff_lt, bne_iff_ne, ne_eq, bne_eq_false_iff_eq] at hc39
          refine W_skip ?_
          refine n_then ?_
          refine W_seq ?_
          refine W_region ?_
          first
            | refine s_load Tryd.isAgg25 rfl rfl (hs.cell (k := 0) rfl rfl) ?_
            | refine s_load Tryd.isAgg25 rfl rfl (hs.cell (k := 1) rfl rfl) ?_
            | refine s_load Tryd.isAgg25 rfl rfl (hs.cell (k := 2) rfl rfl) ?_
            | refine s_load Tryd.isAgg25 rfl rfl (hs.cell (k := 3) rfl rfl) ?_
          refine s_nilCheck rfl rfl ?_
          refine s_fieldAddr rfl rfl (FA53_2 _ _) ?_
          first
            | refine s_load Tryd.isAgg3 rfl rfl (hs.cell (k := 0) rfl rfl) ?_
            | refine s_load Tryd.isAgg3 rfl rfl (hs.cell (k := 1) rfl rfl) ?_
            | refine s_load Tryd.isAgg3 rfl rfl (hs.cell (k := 2) rfl rfl) ?_
            | refine s_load Tryd.isAgg3 rfl rfl (hs.cell (k := 3) rfl rfl) ?_
          (refine s_add' rfl rfl rfl ?hx ?_; case hx => (constructor <;> omega))
          rw [show (n : Int) + 1 = ((n + 1 : Nat) : Int) by omega]
          refine s_nilCheck rfl rfl ?_
          refine s_fieldAddr rfl rfl (FA53_2 _ _) ?_
          first
            | refine s_storeB Tryd.sizeOf3 rfl rfl rfl hs (kk := 0) rfl rfl ?_
            | refine s_storeB Tryd.sizeOf3 rfl rfl rfl hs (kk := 1) rfl rfl ?_
            | refine s_storeB Tryd.sizeOf3 rfl rfl rfl hs (kk := 2) rfl rfl ?_
            | refine s_storeB Tryd.sizeOf3 rfl rfl rfl hs (kk := 3) rfl rfl ?_
          clear hs; intro w hs; try simp only [List.set_cons_zero, List.set_cons_succ, splice, List.take_succ_cons, List.take_zero, List.drop_succ_cons, List.drop_zero, List.nil_append, List.cons_append, List.length_cons, List.length_nil, Nat.reduceAdd, List.append_assoc] at hs
          refine WL_nil ?_
          refine n_then ?_
          refine W_seq ?_
          refine W_region ?_
          first
            | refine s_storeB Tryd.sizeOf27 rfl rfl rfl hs (kk := 0) rfl rfl ?_
            | refine s_storeB Tryd.sizeOf27 rfl rfl rfl hs (kk := 1) rfl rfl ?_
            | refine s_storeB Tryd.sizeOf27 rfl rfl rfl hs (kk := 2) rfl rfl ?_
            | refine s_storeB Tryd.sizeOf27 rfl rfl rfl hs (kk := 3) rfl rfl ?_
          clear hs; intro w hs; try simp only [List.set_cons_zero, List.set_cons_succ, splice, List.take_succ_cons, List.take_zero, List.drop_succ_cons, List.drop_zero, List.nil_append, List.cons_append, List.length_cons, List.length_nil, Nat.reduceAdd, List.append_assoc] at hs
          refine WL_nil ?_
          refine n_then ?_
          refine W_ret ?_
          first
            | (rw [if_neg (by omega), if_pos hc14] at hlog
               subst hlog
               refine hend (D, n, true, 18) n down 18 LD w _ b4 b2 rfl hD ?_ hs
               simp)
            | (rw [if_neg (by omega), if_neg (by rw [hc14]; simp), if_pos hc31] at hlog
               subst hlog
               refine hend (A.1, n, decide (A.2 = 18), A.2) n down A.2 LD w _ b4 b2 rfl hD ?_ hs
               rw [hc14, Bool.false_or])
            | (rw [if_neg (by omega), if_neg (by rw [hc14]; simp), if_neg (fun h => h hc31), if_pos hc39] at hlog
               subst hlog
               refine hend (S.1, n, decide (S.2 = 18), S.2) n down S.2 LD w _ b4 b2 rfl hD ?_ hs
               rw [hc14, Bool.false_or])
            | (rw [if_neg (by omega), if_neg (by rw [hc14]; simp), if_neg (fun h => h hc31), if_neg (fun h => h hc39)] at hlog
               subst hlog
               refine hend (S.1, n + 1, false, 0) (n + 1) down 0 LD w _ b4 b2 rfl hD ?_ hs
               rw [hc14]; simp)
end Go.Proofs.YtgppcfgnhahnaaaDoor
