/- The reference's log: Open, Append. -/
import Derived.Test.YtkappdlbpilghaaGreatWlB
import Derived.Test.YtkappdlbpilghaaGreatRdC
set_option linter.unusedVariables false
set_option linter.unusedSimpArgs false
namespace Go.Proofs.YtkappdlbpilghaaGreat
open Go.SL
structure FoT where
  T : Dk × Int
  rs : List Rw
set_option maxHeartbeats 2000000 in
theorem fOpen_ok {mx : Nat → Nat → Nat} (hmx : IsMix mx) (p : Nat) (D : Dk) (f : Nat) (L0 : Hp) (w0 : World) (hD : RefAt p D L0) (hf : f < 64) (hl : (D.c (f : Int)).length ≤ 1048576) (hs : St (ids L0) w0 w0 L0) :
    Ret Tryz.prog 8 [.pointer (some ⟨p, 0, none⟩), .int .i64 (f : Int)].toArray w0 fun r w' => ∃ L', St (ids L0) w0 w' L' ∧
      ((D.off = true ∧ r = .tuple #[.pointer none, .slice none 0 0, .int .i64 18] ∧ RefAt p D L') ∨
       (D.off = false ∧ ∃ xs, IsScan mx 0 (D.c (f : Int)) xs ∧
         (((D.open (f : Int) (framesV mx 0 xs).length).2 ≠ 0 ∧ r = .tuple #[.pointer none, .slice none 0 0, .int .i64 (D.open (f : Int) (framesV mx 0 xs).length).2] ∧ RefAt p (D.open (f : Int) (framesV mx 0 xs).length).1 L') ∨
          ((D.open (f : Int) (framesV mx 0 xs).length).2 = 0 ∧ ∃ (q : Nat) (rs : Recs) (u : Value) (Lu LD : Hp), rs.x = xs ∧ L' = (q, Blk 44 (logCells p (f : Int) xs.length false)) :: (Lu ++ LD) ∧ r = .tuple #[.pointer (some ⟨q, 0, none⟩), u, .int .i64 0] ∧
            RefAt p (D.open (f : Int) (framesV mx 0 xs).length).1 LD ∧ OwnS 39 1 u rs.length rs.v Lu ∧ RecsIn rs LD)))) := by
  have hD0 := hD
  obtain ⟨gB, gF, rs, hL, hR, hK⟩ := hD
  obtain ⟨r0, hr, hok, hc, hd, hv, hdv⟩ := hR.get hf
  obtain ⟨_, cr, ar, hrvv, hrvl⟩ := hok.1.form
  rw [hrvl] at hrvv
  rw [hrvv] at hv
  obtain ⟨R0, hperm, -⟩ := rw_open hr
  replace hs : St (ids L0) w0 w0 (RL p gB gF D rs) := by rw [hL] at hs ⊢; exact hs
  unfold RL rdCells at hs
  refine Ret_startL hs fun w hs => ?_
  refine Ret_of Tryz.func8 rfl Tryz.ntmps8 rfl ?_
  refine W_seq ?_
  refine W_region ?_
  refine s_assign rfl rfl ?_
  refine s_assign rfl rfl ?_
  refine s_assign rfl rfl ?_
  refine WL_nil ?_
  refine n_then ?_
  refine W_seq ?_
  refine W_seq ?_
  refine W_region ?_
  refine s_move rfl rfl ?_
  refine s_nilCheck rfl rfl ?_
  refine s_fieldAddr rfl rfl (FA50_3 _ _) ?_
  first
    | refine s_load Tryz.isAgg4 rfl rfl (hs.cell (k := 0) rfl rfl) ?_
  refine WL_nil ?_
  refine n_then ?_
  refine W_cond rfl (fun hc13 => ?_) (fun hc13 => ?_)
  · skip
    try simp only [decide_eq_true_eq, decide_eq_false_iff_not, gt_iff_lt, bne_iff_ne, ne_eq, bne_eq_false_iff_eq, beq_iff_eq, beq_eq_false_iff_ne] at hc13
    refine W_seq ?_
    refine W_region ?_
    refine s_assign rfl rfl ?_
    refine s_assign rfl rfl ?_
    refine s_assign rfl rfl ?_
    refine WL_nil ?_
    refine n_then ?_
    refine W_ret ?_
    refine r_then ?_
    first
      | (refine end3 (r := .tmp 0) (s := .tmp 0) (t := .tmp 0) rfl rfl rfl rfl ⟨_, hs, .inl ⟨by assumption, rfl, RefAt.mk hR hK⟩⟩)
      | (refine end3 (r := .tmp 0) (s := .tmp 0) (t := .tmp 0) rfl rfl rfl rfl ⟨_, hs.left, .inr ⟨by assumption, xs.x, hsc, .inl ?_⟩⟩
         rw [hfl, ← hT3]
         exact ⟨by assumption, rfl, hRA⟩)
      | (refine end3 (r := .tmp 0) (s := .tmp 0) (t := .tmp 0) rfl rfl rfl rfl ⟨(b51, Blk 44 [.pointer (some ⟨p, 0, none⟩), .int .i64 (f : Int), .int .i64 (xs.length : Int), .bool false]) :: (Lu ++ RL p gB gF T3.1 r3), hs.perm (List.perm_append_comm.cons _), .inr ⟨by assumption, xs.x, hsc, .inr ?_⟩⟩
         rw [hfl, ← hT3]
         refine ⟨by assumption, b51, xs, _, Lu, RL p gB gF T3.1 r3, rfl, by rw [logCells, Recs.x_length], rfl, hRA, hOu, ?_⟩
         intro y hy
         exact (hxs y hy).mono' fun z hz => by
           simp only [RL, List.mem_cons]
           exact .inr (.inr (.inr (hp3.mem_iff.1 (hperm.mem_iff.2 (List.mem_append_left _ hz))))))
  · skip
    try simp only [decide_eq_true_eq, decide_eq_false_iff_not, gt_iff_lt, bne_iff_ne, ne_eq, bne_eq_false_iff_eq, beq_iff_eq, beq_eq_false_iff_ne] at hc13
    refine W_skip ?_
    refine n_then ?_
    refine W_seq ?_
    refine W_region ?_
    refine s_move rfl rfl ?_
    refine s_nilCheck rfl rfl ?_
    refine s_fieldAddr rfl rfl (FA50_1 _ _) ?_
    first
      | refine s_load Tryz.isAgg29 rfl rfl (hs.cell (k := 0) rfl rfl) ?_
    refine s_move rfl rfl ?_
    (refine s_indexAddr1 El29 rfl rfl rfl ?hx ?_; case hx => (constructor <;> first | omega | (simp; omega)))
    refine s_load Tryz.isAgg39 rfl rfl (hs.cell (k := 1) rfl (by rw [Nat.zero_add, Int.toNat_natCast]; exact hv)) ?_
    have hrd : RdS (.slice ar r0.bs.length cr) r0.bs.length (u8s r0.bs) r0.L := by have := hok.1.rdS; rw [hrvv] at this; exact this
    refine s_call Tryz.call26 rfl rfl (fScan_ok hmx _ r0.bs r0.L w hrd (fun x hx => hs.own x (by
      simp only [List.mem_cons]
      exact .inr (.inr (.inr (hperm.mem_iff.2 (List.mem_append_left _ hx)))))) hok.2.2 (by rw [← hc]; exact hl)) ?_
    rintro r w ⟨xs, u, Lu, rfl, hOu, hst, hxs, hsc⟩
    replace hs := (St.back0 hs hst).swap
    clear hst
    rw [← hc] at hsc
    simp only [List.cons_append] at hs
    obtain ⟨_, cu, au, rfl, hvu⟩ := hOu.form
    subst hvu
    have hle : (framesV mx 0 xs.x).length ≤ (D.c (f : Int)).length := (scan_take hsc).1
    obtain ⟨T, hT⟩ : ∃ T, T = (if (framesV mx 0 xs.x).length < (D.c (f : Int)).length then D.trunc (f : Int) ((framesV mx 0 xs.x).length : Int) else (D, 0)) := ⟨_, rfl⟩
    have hop : D.open (f : Int) (framesV mx 0 xs.x).length = if T.2 = 0 then T.1.sync else T := by rw [Dk.open, ← hT]
    generalize hfl : (framesV mx 0 xs.x).length = FL at hT hop hle
    refine s_move rfl rfl ?_
    refine s_extract rfl rfl rfl ?_
    refine s_extract rfl rfl rfl ?_
    refine s_assign rfl rfl ?_
    refine s_assign rfl rfl ?_
    refine WL_nil ?_
    refine n_then ?_
    refine W_seq ?_
    refine W_region ?_
    refine s_assign rfl rfl ?_
    refine WL_nil ?_
    refine n_then ?_
    refine W_cut (σ := FoT) (fun s => [(0, .pointer (some ⟨p, 0, none⟩)), (1, .int .i64 (f : Int)), (7, .slice au xs.length cu), (9, .int .i64 s.T.2)]) (fun s w => St (ids L0) w0 w (RL p gB gF s.T.1 s.rs ++ Lu) ∧ s.T = T ∧ RsOk T.1 s.rs ∧ dkOk T.1 ∧ (rblks rs).Perm (rblks s.rs)) ?_ ?_
    · skip
      refine W_seq ?_
      refine W_region ?_
      refine s_move rfl rfl ?_
      refine s_nilCheck rfl rfl ?_
      refine s_fieldAddr rfl rfl (FA50_1 _ _) ?_
      first
        | refine s_load Tryz.isAgg29 rfl rfl (hs.cell (k := 0) rfl rfl) ?_
      refine s_move rfl rfl ?_
      (refine s_indexAddr1 El29 rfl rfl rfl ?hx ?_; case hx => (constructor <;> first | omega | (simp; omega)))
      refine s_load Tryz.isAgg39 rfl rfl (hs.cell (k := 1) rfl (by rw [Nat.zero_add, Int.toNat_natCast]; exact hv)) ?_
      refine s_len rfl rfl (LN39 _ _ _ _) ?_
      refine s_move rfl rfl ?_
      refine s_gtr rfl rfl rfl ?_
      refine WL_nil ?_
      refine n_then ?_
      refine W_cond rfl (fun hc34 => ?_) (fun hc34 => ?_)
      · skip
        try simp only [decide_eq_true_eq, decide_eq_false_iff_not, gt_iff_lt, bne_iff_ne, ne_eq, bne_eq_false_iff_eq, beq_iff_eq, beq_eq_false_iff_ne] at hc34
        refine W_region ?_
        refine s_move rfl rfl ?_
        refine s_move rfl rfl ?_
        refine s_move rfl rfl ?_
        refine s_callL (M := []) (L1 := RL p gB gF D rs) (X := Lu) Tryz.call27 rfl rfl hs (fun h => rTruncB_ok p gB gF D rs (f : Int) _ _ w rfl hR hK (by unfold isI64; rw [← hc] at *; omega) h) ?_
        rw [hc] at hT
        rw [if_pos (by omega)] at hT
        rw [← hT]
        clear hs; rintro u w LT ⟨rs', rfl, hR', hK', hp', rfl⟩ - hs
        simp only [List.nil_append] at hs
        refine s_assign rfl rfl ?_
        refine WL_nil ?_
        refine n_loop ?_
        first
          | exact ⟨⟨T, rs'⟩, ⟨rfl, rfl, rfl, rfl, trivial⟩, hs, rfl, hR', hK', hp'⟩
          | (rw [hc, if_neg (by omega)] at hT
             rw [hT]
             exact ⟨⟨(D, 0), rs⟩, ⟨rfl, rfl, rfl, rfl, trivial⟩, hs, rfl, hR, hK, List.Perm.refl _⟩)
      · skip
        try simp only [decide_eq_true_eq, decide_eq_false_iff_not, gt_iff_lt, bne_iff_ne, ne_eq, bne_eq_false_iff_eq, beq_iff_eq, beq_eq_false_iff_ne] at hc34
        refine W_skip ?_
        refine n_loop ?_
        first
          | exact ⟨⟨T, rs'⟩, ⟨rfl, rfl, rfl, rfl, trivial⟩, hs, rfl, hR', hK', hp'⟩
          | (rw [hc, if_neg (by omega)] at hT
             rw [hT]
             exact ⟨⟨(D, 0), rs⟩, ⟨rfl, rfl, rfl, rfl, trivial⟩, hs, rfl, hR, hK, List.Perm.refl _⟩)
    · skip
      clear hs
      rintro ⟨T2, rs'⟩ w ⟨hs, rfl, hR', hK', hp'⟩
      simp only at hs hR' hK' hp' ⊢
      refine W_cut (σ := FoT) (fun s => [(0, .pointer (some ⟨p, 0, none⟩)), (1, .int .i64 (f : Int)), (7, .slice au xs.length cu), (9, .int .i64 s.T.2)]) (fun s w => St (ids L0) w0 w (RL p gB gF s.T.1 s.rs ++ Lu) ∧ s.T = D.open (f : Int) FL ∧ RsOk s.T.1 s.rs ∧ dkOk s.T.1 ∧ (rblks rs).Perm (rblks s.rs)) ?_ ?_
      · skip
        refine W_seq ?_
        refine W_region ?_
        refine s_move rfl rfl ?_
        refine s_eql rfl rfl rfl ?_
        refine WL_nil ?_
        refine n_then ?_
        refine W_cond rfl (fun hc40 => ?_) (fun hc40 => ?_)
        · skip
          try simp only [decide_eq_true_eq, decide_eq_false_iff_not, gt_iff_lt, bne_iff_ne, ne_eq, bne_eq_false_iff_eq, beq_iff_eq, beq_eq_false_iff_ne] at hc40
          refine W_region ?_
          refine s_move rfl rfl ?_
          refine s_callL (M := []) (L1 := RL p gB gF T2.1 rs') (X := Lu) Tryz.call28 rfl rfl hs (fun h => rSyncB_ok p gB gF T2.1 rs' _ w rfl hR' hK' h) ?_
          clear hs; rintro u w LT ⟨rs2, rfl, hR2, hK2, hp2, rfl⟩ - hs
          simp only [List.nil_append] at hs
          refine s_assign rfl rfl ?_
          refine WL_nil ?_
          refine n_loop ?_
          first
            | exact ⟨⟨T2.1.sync, rs2⟩, ⟨rfl, rfl, rfl, rfl, trivial⟩, hs, by rw [hop, if_pos hc40], hR2, hK2, hp'.trans hp2⟩
            | exact ⟨⟨T2, rs'⟩, ⟨rfl, rfl, rfl, rfl, trivial⟩, hs, by rw [hop, if_neg hc40], hR', hK', hp'⟩
        · skip
          try simp only [decide_eq_true_eq, decide_eq_false_iff_not, gt_iff_lt, bne_iff_ne, ne_eq, bne_eq_false_iff_eq, beq_iff_eq, beq_eq_false_iff_ne] at hc40
          refine W_skip ?_
          refine n_loop ?_
          first
            | exact ⟨⟨T2.1.sync, rs2⟩, ⟨rfl, rfl, rfl, rfl, trivial⟩, hs, by rw [hop, if_pos hc40], hR2, hK2, hp'.trans hp2⟩
            | exact ⟨⟨T2, rs'⟩, ⟨rfl, rfl, rfl, rfl, trivial⟩, hs, by rw [hop, if_neg hc40], hR', hK', hp'⟩
      · skip
        clear hs hR' hK' hp' hop
        rintro ⟨T3, r3⟩ w ⟨hs, hT3, hR3, hK3, hp3⟩
        simp only at hs hT3 hR3 hK3 hp3 ⊢
        have hRA : RefAt p T3.1 (RL p gB gF T3.1 r3) := RefAt.mk hR3 hK3
        refine W_seq ?_
        refine W_seq ?_
        refine W_region ?_
        refine s_move rfl rfl ?_
        refine s_neq rfl rfl rfl ?_
        refine WL_nil ?_
        refine n_then ?_
        refine W_cond rfl (fun hc44 => ?_) (fun hc44 => ?_)
        · skip
          try simp only [decide_eq_true_eq, decide_eq_false_iff_not, gt_iff_lt, bne_iff_ne, ne_eq, bne_eq_false_iff_eq, beq_iff_eq, beq_eq_false_iff_ne] at hc44
          refine W_seq ?_
          refine W_region ?_
          refine s_move rfl rfl ?_
          refine s_assign rfl rfl ?_
          refine s_assign rfl rfl ?_
          refine s_assign rfl rfl ?_
          refine WL_nil ?_
          refine n_then ?_
          refine W_ret ?_
          refine r_then ?_
          first
            | (refine end3 (r := .tmp 0) (s := .tmp 0) (t := .tmp 0) rfl rfl rfl rfl ⟨_, hs, .inl ⟨by assumption, rfl, RefAt.mk hR hK⟩⟩)
            | (refine end3 (r := .tmp 0) (s := .tmp 0) (t := .tmp 0) rfl rfl rfl rfl ⟨_, hs.left, .inr ⟨by assumption, xs.x, hsc, .inl ?_⟩⟩
               rw [hfl, ← hT3]
               exact ⟨by assumption, rfl, hRA⟩)
            | (refine end3 (r := .tmp 0) (s := .tmp 0) (t := .tmp 0) rfl rfl rfl rfl ⟨(b51, Blk 44 [.pointer (some ⟨p, 0, none⟩), .int .i64 (f : Int), .int .i64 (xs.length : Int), .bool false]) :: (Lu ++ RL p gB gF T3.1 r3), hs.perm (List.perm_append_comm.cons _), .inr ⟨by assumption, xs.x, hsc, .inr ?_⟩⟩
               rw [hfl, ← hT3]
               refine ⟨by assumption, b51, xs, _, Lu, RL p gB gF T3.1 r3, rfl, by rw [logCells, Recs.x_length], rfl, hRA, hOu, ?_⟩
               intro y hy
               exact (hxs y hy).mono' fun z hz => by
                 simp only [RL, List.mem_cons]
                 exact .inr (.inr (.inr (hp3.mem_iff.1 (hperm.mem_iff.2 (List.mem_append_left _ hz))))))
        · skip
          try simp only [decide_eq_true_eq, decide_eq_false_iff_not, gt_iff_lt, bne_iff_ne, ne_eq, bne_eq_false_iff_eq, beq_iff_eq, beq_eq_false_iff_ne] at hc44
          refine W_skip ?_
          refine n_then ?_
          refine W_seq ?_
          refine W_region ?_
          refine s_move rfl rfl ?_
          refine s_move rfl rfl ?_
          refine s_move rfl rfl ?_
          refine s_len rfl rfl (LN29 _ _ _ _) ?_
          refine s_build rfl rfl (BD44_0_1_2 _ _ _) ?_
          first | refine s_box rfl rfl hs ?_ | refine s_box1 rfl rfl rfl hs ?_
          clear hs; intro b51 w hs
          refine s_move rfl rfl ?_
          refine s_assign rfl rfl ?_
          refine s_assign rfl rfl ?_
          refine s_assign rfl rfl ?_
          refine WL_nil ?_
          refine n_then ?_
          refine W_ret ?_
          first
            | (refine end3 (r := .tmp 0) (s := .tmp 0) (t := .tmp 0) rfl rfl rfl rfl ⟨_, hs, .inl ⟨by assumption, rfl, RefAt.mk hR hK⟩⟩)
            | (refine end3 (r := .tmp 0) (s := .tmp 0) (t := .tmp 0) rfl rfl rfl rfl ⟨_, hs.left, .inr ⟨by assumption, xs.x, hsc, .inl ?_⟩⟩
               rw [hfl, ← hT3]
               exact ⟨by assumption, rfl, hRA⟩)
            | (refine end3 (r := .tmp 0) (s := .tmp 0) (t := .tmp 0) rfl rfl rfl rfl ⟨(b51, Blk 44 [.pointer (some ⟨p, 0, none⟩), .int .i64 (f : Int), .int .i64 (xs.length : Int), .bool false]) :: (Lu ++ RL p gB gF T3.1 r3), hs.perm (List.perm_append_comm.cons _), .inr ⟨by assumption, xs.x, hsc, .inr ?_⟩⟩
               rw [hfl, ← hT3]
               refine ⟨by assumption, b51, xs, _, Lu, RL p gB gF T3.1 r3, rfl, by rw [logCells, Recs.x_length], rfl, hRA, hOu, ?_⟩
               intro y hy
               exact (hxs y hy).mono' fun z hz => by
                 simp only [RL, List.mem_cons]
                 exact .inr (.inr (.inr (hp3.mem_iff.1 (hperm.mem_iff.2 (List.mem_append_left _ hz))))))
set_option maxHeartbeats 2000000 in
theorem fAppend_ok {mx : Nat → Nat → Nat} (hmx : IsMix mx) (q p : Nat) (D : Dk) (f : Int) (n : Nat) (down : Bool) (v : Value) (x : List Int) (LD : Hp) (w0 : World) (hD : RefAt p D LD) (hv : Sl w0 v x.length (u8s x)) (hxB : ∀ b ∈ x, isB b) (hn : n ≤ 1048576)
    (hap : ∀ a m c, v = .slice (some a) m c → u8s x ≠ [] → a.block ∉ ids ((q, Blk 44 (logCells p f n down)) :: LD)) (hxl : x.length ≤ 1048576) (hs : St (ids ((q, Blk 44 (logCells p f n down)) :: LD)) w0 w0 ((q, Blk 44 (logCells p f n down)) :: LD)) :
    Ret Tryz.prog 16 [.pointer (some ⟨q, 0, none⟩), v].toArray w0 fun r w' => ∃ L', St (ids ((q, Blk 44 (logCells p f n down)) :: LD)) w0 w' L' ∧ ∃ LD', L' = (q, Blk 44 (logCells p f (logApp mx D f n down x).2.1 (logApp mx D f n down x).2.2.1)) :: LD' ∧ RefAt p (logApp mx D f n down x).1 LD' ∧ r = .int .i64 (logApp mx D f n down x).2.2.2 := by
  obtain ⟨va, vc, rfl, hvc⟩ := hv.len_le
  obtain ⟨A, hA⟩ : ∃ A, A = D.app f (frameV mx n x) := ⟨_, rfl⟩
  obtain ⟨S, hS⟩ : ∃ S, S = A.1.sync := ⟨_, rfl⟩
  have hfB := frameV_isB (mx := mx) (n := (n : Int)) hxB
  have hfl := frame_len_le hmx (n := (n : Int)) (x := x) (by unfold isI64; omega) hxl
  generalize hF : ids ((q, Blk 44 (logCells p f n down)) :: LD) = F at hs hap ⊢
  have hlog : logApp mx D f n down x = if 65536 < x.length then (D, n, down, 4) else if down then (D, n, true, 18) else if A.2 ≠ 0 then (A.1, n, decide (A.2 = 18), A.2) else if S.2 ≠ 0 then (S.1, n, decide (S.2 = 18), S.2) else (S.1, n + 1, false, 0) := by
    rw [hS, hA]; rfl
  generalize logApp mx D f n down x = G at hlog
  unfold logCells at hs
  refine Ret_startL hs fun w hs => ?_
  refine Ret_of Tryz.func16 rfl Tryz.ntmps16 rfl ?_
  refine W_seq ?_
  refine W_region ?_
  refine s_assign rfl rfl ?_
  refine WL_nil ?_
  refine n_then ?_
  refine W_seq ?_
  refine W_seq ?_
  refine W_region ?_
  refine s_move rfl rfl ?_
  refine s_len rfl rfl (LN39 _ _ _ _) ?_
  refine s_gtr rfl rfl rfl ?_
  refine WL_nil ?_
  refine n_then ?_
  refine W_cond rfl (fun hc8 => ?_) (fun hc8 => ?_)
  · skip
    try simp only [decide_eq_true_eq, decide_eq_false_iff_not, gt_iff_lt, bne_iff_ne, ne_eq, bne_eq_false_iff_eq, beq_iff_eq, beq_eq_false_iff_ne] at hc8
    refine W_seq ?_
    refine W_region ?_
    refine s_assign rfl rfl ?_
    refine WL_nil ?_
    refine n_then ?_
    refine W_ret ?_
    refine r_then ?_
    first
      | (rw [if_pos (by omega)] at hlog
         subst hlog
         exact end1 rfl rfl ⟨_, hs, LD, rfl, hD, rfl⟩)
      | (rw [if_neg (by omega), if_pos hc12] at hlog
         subst hlog
         rw [hc12] at hs
         exact end1 rfl rfl ⟨_, hs, LD, rfl, hD, rfl⟩)
      | (rw [if_neg (by omega), if_neg (by rw [hc12]; simp), if_neg (fun h => h hc29), if_neg (fun h => h hc41)] at hlog
         subst hlog
         rw [show (S.2 == 18) = false by rw [hc41]; rfl] at hs
         rw [hc41]
         exact end1 rfl rfl ⟨_, hs, LD, rfl, hD, rfl⟩)
      | (rw [if_neg (by omega), if_neg (by rw [hc12]; simp), if_neg (fun h => h hc29), if_pos hc41] at hlog
         subst hlog
         rw [show (S.2 == 18) = decide (S.2 = 18) from rfl] at hs
         exact end1 rfl rfl ⟨_, hs, LD, rfl, hD, rfl⟩)
      | (rw [if_neg (by omega), if_neg (by rw [hc12]; simp), if_pos hc29] at hlog
         subst hlog
         rw [show (A.2 == 18) = decide (A.2 = 18) from rfl] at hs
         exact end1 rfl rfl ⟨_, hs, LD, rfl, hD, rfl⟩)
      | exact absurd hc41 hc29
  · skip
    try simp only [decide_eq_true_eq, decide_eq_false_iff_not, gt_iff_lt, bne_iff_ne, ne_eq, bne_eq_false_iff_eq, beq_iff_eq, beq_eq_false_iff_ne] at hc8
    refine W_skip ?_
    refine n_then ?_
    refine W_seq ?_
    refine W_seq ?_
    refine W_region ?_
    refine s_move rfl rfl ?_
    refine s_nilCheck rfl rfl ?_
    refine s_fieldAddr rfl rfl (FA44_3 _ _) ?_
    first
      | refine s_load Tryz.isAgg4 rfl rfl (hs.cell (k := 0) rfl rfl) ?_
    refine WL_nil ?_
    refine n_then ?_
    refine W_cond rfl (fun hc12 => ?_) (fun hc12 => ?_)
    · skip
      try simp only [decide_eq_true_eq, decide_eq_false_iff_not, gt_iff_lt, bne_iff_ne, ne_eq, bne_eq_false_iff_eq, beq_iff_eq, beq_eq_false_iff_ne] at hc12
      refine W_seq ?_
      refine W_region ?_
      refine s_assign rfl rfl ?_
      refine WL_nil ?_
      refine n_then ?_
      refine W_ret ?_
      refine r_then ?_
      first
        | (rw [if_pos (by omega)] at hlog
           subst hlog
           exact end1 rfl rfl ⟨_, hs, LD, rfl, hD, rfl⟩)
        | (rw [if_neg (by omega), if_pos hc12] at hlog
           subst hlog
           rw [hc12] at hs
           exact end1 rfl rfl ⟨_, hs, LD, rfl, hD, rfl⟩)
        | (rw [if_neg (by omega), if_neg (by rw [hc12]; simp), if_neg (fun h => h hc29), if_neg (fun h => h hc41)] at hlog
           subst hlog
           rw [show (S.2 == 18) = false by rw [hc41]; rfl] at hs
           rw [hc41]
           exact end1 rfl rfl ⟨_, hs, LD, rfl, hD, rfl⟩)
        | (rw [if_neg (by omega), if_neg (by rw [hc12]; simp), if_neg (fun h => h hc29), if_pos hc41] at hlog
           subst hlog
           rw [show (S.2 == 18) = decide (S.2 = 18) from rfl] at hs
           exact end1 rfl rfl ⟨_, hs, LD, rfl, hD, rfl⟩)
        | (rw [if_neg (by omega), if_neg (by rw [hc12]; simp), if_pos hc29] at hlog
           subst hlog
           rw [show (A.2 == 18) = decide (A.2 = 18) from rfl] at hs
           exact end1 rfl rfl ⟨_, hs, LD, rfl, hD, rfl⟩)
        | exact absurd hc41 hc29
    · skip
      try simp only [decide_eq_true_eq, decide_eq_false_iff_not, gt_iff_lt, bne_iff_ne, ne_eq, bne_eq_false_iff_eq, beq_iff_eq, beq_eq_false_iff_ne] at hc12
      refine W_skip ?_
      refine n_then ?_
      refine W_seq ?_
      refine W_draw [(0, true, []), (1, true, []), (2, true, []), (3, true, []), (4, true, []), (5, true, []), (6, true, []), (7, true, []), (8, true, []), (9, true, []), (10, true, []), (11, true, []), (12, true, []), (13, false, [0, 1, 2, 3, 4, 5, 6, 7]), (14, false, []), (15, true, [])] [[], [0], [0, 1], [0, 1, 2], [], [4], [4, 5], [4, 5, 6], [], [8], [8, 9], [8, 9, 10], [], [8, 9, 10, 11, 12], [0, 1, 2, 3, 4, 5, 6, 7, 8, 9, 10, 11, 12, 13], [0, 1, 2, 3, 4, 5, 6, 7, 8, 9, 10, 11, 12, 13, 14]] MX (by kernel_rfl) ?_
      intro w1 hw1 hw2 hw3 hw4; replace hs := hs.redrawn hw1 hw2 hw3 hw4; clear hw1 hw2 hw3 hw4
      obtain ⟨w, rfl⟩ : ∃ w : World, w = w1 := ⟨_, rfl⟩
      refine D_q rfl rfl ?_
      refine s_move rfl rfl ?_
      refine D_qn ?_
      refine D_q rfl rfl ?_
      refine s_nilCheck rfl rfl ?_
      refine D_qn ?_
      refine D_q rfl rfl ?_
      refine s_fieldAddr rfl rfl (FA44_0 _ _) ?_
      refine D_qn ?_
      refine D_q rfl rfl ?_
      first
        | refine s_load Tryz.isAgg26 rfl rfl (hs.cell (k := 0) rfl rfl) ?_
      refine D_qn ?_
      refine D_q rfl rfl ?_
      refine s_move rfl rfl ?_
      refine D_qn ?_
      refine D_q rfl rfl ?_
      refine s_nilCheck rfl rfl ?_
      refine D_qn ?_
      refine D_q rfl rfl ?_
      refine s_fieldAddr rfl rfl (FA44_1 _ _) ?_
      refine D_qn ?_
      refine D_q rfl rfl ?_
      first
        | refine s_load Tryz.isAgg3 rfl rfl (hs.cell (k := 0) rfl rfl) ?_
      refine D_qn ?_
      refine D_q rfl rfl ?_
      refine s_move rfl rfl ?_
      refine D_qn ?_
      refine D_q rfl rfl ?_
      refine s_nilCheck rfl rfl ?_
      refine D_qn ?_
      refine D_q rfl rfl ?_
      refine s_fieldAddr rfl rfl (FA44_2 _ _) ?_
      refine D_qn ?_
      refine D_q rfl rfl ?_
      first
        | refine s_load Tryz.isAgg3 rfl rfl (hs.cell (k := 0) rfl rfl) ?_
      refine D_qn ?_
      refine D_q rfl rfl ?_
      refine s_move rfl rfl ?_
      refine D_qn ?_
      refine D_e rfl ?_
      refine s_call Tryz.call37 rfl rfl (fFrame_ok hmx (n : Int) _ x w (hv.fwd hs.fwd hap) (by unfold isI64; omega) hxB hxl) ?_
      rintro r w ⟨Lf, hOf, hst⟩
      replace hs := (St.back0 hs hst).swap
      clear hst
      simp only [List.cons_append] at hs
      obtain ⟨_, cf, af, rfl, hvf⟩ := hOf.form
      subst hvf
      refine D_en ?re ?_
      case re =>
        refine Reks_cons rfl rfl rfl rfl ?_ ?_
        · skip
          refine s_move rfl rfl ?_
          exact Rek_end rfl
        refine Reks_cons rfl rfl rfl rfl ?_ ?_
        · skip
          refine s_nilCheck rfl rfl ?_
          exact Rek_end rfl
        refine Reks_cons rfl rfl rfl rfl ?_ ?_
        · skip
          refine s_fieldAddr rfl rfl (FA44_0 _ _) ?_
          exact Rek_end rfl
        refine Reks_cons rfl rfl rfl rfl ?_ ?_
        · skip
          first
            | refine s_load Tryz.isAgg26 rfl rfl (hs.cell (k := 0) rfl rfl) ?_
          exact Rek_end rfl
        refine Reks_cons rfl rfl rfl rfl ?_ ?_
        · skip
          refine s_move rfl rfl ?_
          exact Rek_end rfl
        refine Reks_cons rfl rfl rfl rfl ?_ ?_
        · skip
          refine s_nilCheck rfl rfl ?_
          exact Rek_end rfl
        refine Reks_cons rfl rfl rfl rfl ?_ ?_
        · skip
          refine s_fieldAddr rfl rfl (FA44_1 _ _) ?_
          exact Rek_end rfl
        refine Reks_cons rfl rfl rfl rfl ?_ ?_
        · skip
          first
            | refine s_load Tryz.isAgg3 rfl rfl (hs.cell (k := 0) rfl rfl) ?_
          exact Rek_end rfl
        exact Reks_nil
      refine D_e rfl ?_
      refine s_callL (M := [_]) (L1 := LD) (X := Lf) Tryz.call36 rfl rfl hs (fun h => rAppend_ok p D f _ _ LD w hD (OwnS_slIn hOf fun p hp => hs.own p (by simp [hp])) (fun a m c he hne => by cases he; exact St.apartX (M := [_]) (L := LD) (X := Lf) hs (OwnS_in hOf hne)) hfB (by omega) h) ?_
      rw [← hA]
      clear hs hD; rintro u w LD ⟨hD, rfl⟩ - hs
      simp only [List.cons_append, List.nil_append] at hs
      replace hs := St.left (L := _ :: LD) (M := Lf) hs
      refine D_en ?re ?_
      case re =>
        exact Reks_nil
      refine D_q rfl rfl ?_
      refine s_assign rfl rfl ?_
      refine D_qn ?_
      refine D_nil ?_
      refine n_then ?_
      refine W_seq ?_
      refine W_seq ?_
      refine W_region ?_
      refine s_move rfl rfl ?_
      refine s_eql rfl rfl rfl ?_
      refine WL_nil ?_
      refine n_then ?_
      refine W_cond rfl (fun hc29 => ?_) (fun hc29 => ?_)
      · skip
        try simp only [decide_eq_true_eq, decide_eq_false_iff_not, gt_iff_lt, bne_iff_ne, ne_eq, bne_eq_false_iff_eq, beq_iff_eq, beq_eq_false_iff_ne] at hc29
        refine W_region ?_
        refine s_move rfl rfl ?_
        refine s_nilCheck rfl rfl ?_
        refine s_fieldAddr rfl rfl (FA44_0 _ _) ?_
        first
          | refine s_load Tryz.isAgg26 rfl rfl (hs.cell (k := 0) rfl rfl) ?_
        refine s_callL (M := [_]) (L1 := LD) (X := []) Tryz.call28 rfl rfl (by simpa using hs) (fun h => rSync_ok p A.1 LD w hD h) ?_
        rw [← hS]
        clear hs hD; rintro u w LD ⟨hD, rfl⟩ - hs
        simp only [List.append_nil, List.cons_append, List.nil_append] at hs
        refine s_assign rfl rfl ?_
        refine WL_nil ?_
        refine n_then ?_
        refine W_seq ?_
        refine W_region ?_
        refine s_move rfl rfl ?_
        refine s_move rfl rfl ?_
        refine s_eql rfl rfl rfl ?_
        refine s_nilCheck rfl rfl ?_
        refine s_fieldAddr rfl rfl (FA44_3 _ _) ?_
        first
          | refine s_storeB Tryz.sizeOf4 rfl rfl rfl hs (kk := 0) rfl rfl ?_
        clear hs; intro w hs; try simp only [List.set_cons_zero, List.set_cons_succ, splice, List.take_succ_cons, List.take_zero, List.drop_succ_cons, List.drop_zero, List.nil_append, List.cons_append, List.length_cons, List.length_nil, Nat.reduceAdd, List.append_assoc] at hs
        refine WL_nil ?_
        refine n_then ?_
        refine W_seq ?_
        refine W_seq ?_
        refine W_region ?_
        refine s_move rfl rfl ?_
        refine s_eql rfl rfl rfl ?_
        refine WL_nil ?_
        refine n_then ?_
        refine W_cond rfl (fun hc41 => ?_) (fun hc41 => ?_)
        · skip
          try simp only [decide_eq_true_eq, decide_eq_false_iff_not, gt_iff_lt, bne_iff_ne, ne_eq, bne_eq_false_iff_eq, beq_iff_eq, beq_eq_false_iff_ne] at hc41
          refine W_region ?_
          refine s_move rfl rfl ?_
          refine s_move rfl rfl ?_
          refine s_nilCheck rfl rfl ?_
          refine s_fieldAddr rfl rfl (FA44_2 _ _) ?_
          first
            | refine s_load Tryz.isAgg3 rfl rfl (hs.cell (k := 0) rfl rfl) ?_
          (refine s_add' rfl rfl rfl ?hx ?_; case hx => (constructor <;> omega))
          rw [show (n : Int) + 1 = ((n + 1 : Nat) : Int) by omega]
          refine s_nilCheck rfl rfl ?_
          refine s_fieldAddr rfl rfl (FA44_2 _ _) ?_
          first
            | refine s_storeB Tryz.sizeOf3 rfl rfl rfl hs (kk := 0) rfl rfl ?_
          clear hs; intro w hs; try simp only [List.set_cons_zero, List.set_cons_succ, splice, List.take_succ_cons, List.take_zero, List.drop_succ_cons, List.drop_zero, List.nil_append, List.cons_append, List.length_cons, List.length_nil, Nat.reduceAdd, List.append_assoc] at hs
          refine WL_nil ?_
          refine n_then ?_
          refine W_seq ?_
          refine W_region ?_
          refine s_move rfl rfl ?_
          refine s_assign rfl rfl ?_
          refine WL_nil ?_
          refine n_then ?_
          refine W_ret ?_
          first
            | (rw [if_pos (by omega)] at hlog
               subst hlog
               exact end1 rfl rfl ⟨_, hs, LD, rfl, hD, rfl⟩)
            | (rw [if_neg (by omega), if_pos hc12] at hlog
               subst hlog
               rw [hc12] at hs
               exact end1 rfl rfl ⟨_, hs, LD, rfl, hD, rfl⟩)
            | (rw [if_neg (by omega), if_neg (by rw [hc12]; simp), if_neg (fun h => h hc29), if_neg (fun h => h hc41)] at hlog
               subst hlog
               rw [show (S.2 == 18) = false by rw [hc41]; rfl] at hs
               rw [hc41]
               exact end1 rfl rfl ⟨_, hs, LD, rfl, hD, rfl⟩)
            | (rw [if_neg (by omega), if_neg (by rw [hc12]; simp), if_neg (fun h => h hc29), if_pos hc41] at hlog
               subst hlog
               rw [show (S.2 == 18) = decide (S.2 = 18) from rfl] at hs
               exact end1 rfl rfl ⟨_, hs, LD, rfl, hD, rfl⟩)
            | (rw [if_neg (by omega), if_neg (by rw [hc12]; simp), if_pos hc29] at hlog
               subst hlog
               rw [show (A.2 == 18) = decide (A.2 = 18) from rfl] at hs
               exact end1 rfl rfl ⟨_, hs, LD, rfl, hD, rfl⟩)
            | exact absurd hc41 hc29
        · skip
          try simp only [decide_eq_true_eq, decide_eq_false_iff_not, gt_iff_lt, bne_iff_ne, ne_eq, bne_eq_false_iff_eq, beq_iff_eq, beq_eq_false_iff_ne] at hc41
          refine W_skip ?_
          refine n_then ?_
          refine W_seq ?_
          refine W_region ?_
          refine s_move rfl rfl ?_
          refine s_assign rfl rfl ?_
          refine WL_nil ?_
          refine n_then ?_
          refine W_ret ?_
          first
            | (rw [if_pos (by omega)] at hlog
               subst hlog
               exact end1 rfl rfl ⟨_, hs, LD, rfl, hD, rfl⟩)
            | (rw [if_neg (by omega), if_pos hc12] at hlog
               subst hlog
               rw [hc12] at hs
               exact end1 rfl rfl ⟨_, hs, LD, rfl, hD, rfl⟩)
            | (rw [if_neg (by omega), if_neg (by rw [hc12]; simp), if_neg (fun h => h hc29), if_neg (fun h => h hc41)] at hlog
               subst hlog
               rw [show (S.2 == 18) = false by rw [hc41]; rfl] at hs
               rw [hc41]
               exact end1 rfl rfl ⟨_, hs, LD, rfl, hD, rfl⟩)
            | (rw [if_neg (by omega), if_neg (by rw [hc12]; simp), if_neg (fun h => h hc29), if_pos hc41] at hlog
               subst hlog
               rw [show (S.2 == 18) = decide (S.2 = 18) from rfl] at hs
               exact end1 rfl rfl ⟨_, hs, LD, rfl, hD, rfl⟩)
            | (rw [if_neg (by omega), if_neg (by rw [hc12]; simp), if_pos hc29] at hlog
               subst hlog
               rw [show (A.2 == 18) = decide (A.2 = 18) from rfl] at hs
               exact end1 rfl rfl ⟨_, hs, LD, rfl, hD, rfl⟩)
            | exact absurd hc41 hc29
      · skip
        try simp only [decide_eq_true_eq, decide_eq_false_iff_not, gt_iff_lt, bne_iff_ne, ne_eq, bne_eq_false_iff_eq, beq_iff_eq, beq_eq_false_iff_ne] at hc29
        refine W_skip ?_
        refine n_then ?_
        refine W_seq ?_
        refine W_region ?_
        refine s_move rfl rfl ?_
        refine s_move rfl rfl ?_
        refine s_eql rfl rfl rfl ?_
        refine s_nilCheck rfl rfl ?_
        refine s_fieldAddr rfl rfl (FA44_3 _ _) ?_
        first
          | refine s_storeB Tryz.sizeOf4 rfl rfl rfl hs (kk := 0) rfl rfl ?_
        clear hs; intro w hs; try simp only [List.set_cons_zero, List.set_cons_succ, splice, List.take_succ_cons, List.take_zero, List.drop_succ_cons, List.drop_zero, List.nil_append, List.cons_append, List.length_cons, List.length_nil, Nat.reduceAdd, List.append_assoc] at hs
        refine WL_nil ?_
        refine n_then ?_
        refine W_seq ?_
        refine W_seq ?_
        refine W_region ?_
        refine s_move rfl rfl ?_
        refine s_eql rfl rfl rfl ?_
        refine WL_nil ?_
        refine n_then ?_
        refine W_cond rfl (fun hc41 => ?_) (fun hc41 => ?_)
        · skip
          try simp only [decide_eq_true_eq, decide_eq_false_iff_not, gt_iff_lt, bne_iff_ne, ne_eq, bne_eq_false_iff_eq, beq_iff_eq, beq_eq_false_iff_ne] at hc41
          refine W_region ?_
          refine s_move rfl rfl ?_
          refine s_move rfl rfl ?_
          refine s_nilCheck rfl rfl ?_
          refine s_fieldAddr rfl rfl (FA44_2 _ _) ?_
          first
            | refine s_load Tryz.isAgg3 rfl rfl (hs.cell (k := 0) rfl rfl) ?_
          (refine s_add' rfl rfl rfl ?hx ?_; case hx => (constructor <;> omega))
          rw [show (n : Int) + 1 = ((n + 1 : Nat) : Int) by omega]
          refine s_nilCheck rfl rfl ?_
          refine s_fieldAddr rfl rfl (FA44_2 _ _) ?_
          first
            | refine s_storeB Tryz.sizeOf3 rfl rfl rfl hs (kk := 0) rfl rfl ?_
          clear hs; intro w hs; try simp only [List.set_cons_zero, List.set_cons_succ, splice, List.take_succ_cons, List.take_zero, List.drop_succ_cons, List.drop_zero, List.nil_append, List.cons_append, List.length_cons, List.length_nil, Nat.reduceAdd, List.append_assoc] at hs
          refine WL_nil ?_
          refine n_then ?_
          refine W_seq ?_
          refine W_region ?_
          refine s_move rfl rfl ?_
          refine s_assign rfl rfl ?_
          refine WL_nil ?_
          refine n_then ?_
          refine W_ret ?_
          first
            | (rw [if_pos (by omega)] at hlog
               subst hlog
               exact end1 rfl rfl ⟨_, hs, LD, rfl, hD, rfl⟩)
            | (rw [if_neg (by omega), if_pos hc12] at hlog
               subst hlog
               rw [hc12] at hs
               exact end1 rfl rfl ⟨_, hs, LD, rfl, hD, rfl⟩)
            | (rw [if_neg (by omega), if_neg (by rw [hc12]; simp), if_neg (fun h => h hc29), if_neg (fun h => h hc41)] at hlog
               subst hlog
               rw [show (S.2 == 18) = false by rw [hc41]; rfl] at hs
               rw [hc41]
               exact end1 rfl rfl ⟨_, hs, LD, rfl, hD, rfl⟩)
            | (rw [if_neg (by omega), if_neg (by rw [hc12]; simp), if_neg (fun h => h hc29), if_pos hc41] at hlog
               subst hlog
               rw [show (S.2 == 18) = decide (S.2 = 18) from rfl] at hs
               exact end1 rfl rfl ⟨_, hs, LD, rfl, hD, rfl⟩)
            | (rw [if_neg (by omega), if_neg (by rw [hc12]; simp), if_pos hc29] at hlog
               subst hlog
               rw [show (A.2 == 18) = decide (A.2 = 18) from rfl] at hs
               exact end1 rfl rfl ⟨_, hs, LD, rfl, hD, rfl⟩)
            | exact absurd hc41 hc29
        · skip
          try simp only [decide_eq_true_eq, decide_eq_false_iff_not, gt_iff_lt, bne_iff_ne, ne_eq, bne_eq_false_iff_eq, beq_iff_eq, beq_eq_false_iff_ne] at hc41
          refine W_skip ?_
          refine n_then ?_
          refine W_seq ?_
          refine W_region ?_
          refine s_move rfl rfl ?_
          refine s_assign rfl rfl ?_
          refine WL_nil ?_
          refine n_then ?_
          refine W_ret ?_
          first
            | (rw [if_pos (by omega)] at hlog
               subst hlog
               exact end1 rfl rfl ⟨_, hs, LD, rfl, hD, rfl⟩)
            | (rw [if_neg (by omega), if_pos hc12] at hlog
               subst hlog
               rw [hc12] at hs
               exact end1 rfl rfl ⟨_, hs, LD, rfl, hD, rfl⟩)
            | (rw [if_neg (by omega), if_neg (by rw [hc12]; simp), if_neg (fun h => h hc29), if_neg (fun h => h hc41)] at hlog
               subst hlog
               rw [show (S.2 == 18) = false by rw [hc41]; rfl] at hs
               rw [hc41]
               exact end1 rfl rfl ⟨_, hs, LD, rfl, hD, rfl⟩)
            | (rw [if_neg (by omega), if_neg (by rw [hc12]; simp), if_neg (fun h => h hc29), if_pos hc41] at hlog
               subst hlog
               rw [show (S.2 == 18) = decide (S.2 = 18) from rfl] at hs
               exact end1 rfl rfl ⟨_, hs, LD, rfl, hD, rfl⟩)
            | (rw [if_neg (by omega), if_neg (by rw [hc12]; simp), if_pos hc29] at hlog
               subst hlog
               rw [show (A.2 == 18) = decide (A.2 = 18) from rfl] at hs
               exact end1 rfl rfl ⟨_, hs, LD, rfl, hD, rfl⟩)
            | exact absurd hc41 hc29
end Go.Proofs.YtkappdlbpilghaaGreat
