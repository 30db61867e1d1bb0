/- A disk: opened at a file, shut again; Truncate, Sync. -/
import Derived.Test.YtbcdnpjcbchbjaaDoorDkD
set_option linter.unusedVariables false
set_option linter.unusedSimpArgs false
namespace Go.Proofs.YtbcdnpjcbchbjaaDoor
open Go.SL
abbrev dkOk (E : Dk) : Prop := ((total E.c : Int) ≤ E.room ∧ 0 ≤ E.room ∧ E.room ≤ 16777216) ∧ (E.armed = true → 0 ≤ E.left ∧ E.left ≤ 9223372036854775807)
/-- a disk opened at the file f -/
structure Opened (p m : Nat) (o : Obj) (D : Dk) (f : Int) (v0 : Value) (Lf R : Hp) (es : KVs) (L0 : Hp) : Prop where
  perm : L0.Perm ((p, Blk 53 (dkCells D m)) :: (m, o) :: (Lf ++ R))
  map : MapI o es
  own : OwnS 5 1 v0 (D.c f).length (u8s (D.c f)) Lf
  look : (lookI f es).getD (.agg #[.slice none 0 0, .int .i64 0]) = cont v0 (D.d f)
  dur : D.d f ≤ (D.c f).length
  byt : ∀ b ∈ D.c f, isB b
  good : dkOk D
  back : ∀ (E : Dk) (v' : Value) (bs : List Int) (d : Nat) (L' : Hp) (o' : Obj), OwnS 5 1 v' bs.length (u8s bs) L' → (0 ≤ f ∧ f ≤ 63) → d ≤ bs.length → (∀ b ∈ bs, isB b) → E.c = (D.set f bs d).c → E.d = (D.set f bs d).d → dkOk E →
    MapI o' (if bs.length = 0 then delI f es else updI f (cont v' d) es) → ∀ (F : List Nat) (w0 w : World) (M : Hp), St F w0 w (M ++ ((p, Blk 53 (dkCells E m)) :: (m, o') :: (L' ++ R))) → ∃ L'', St F w0 w (M ++ L'') ∧ DiskAt p E L''
  same : ∀ (E : Dk), E.c = D.c → E.d = D.d → dkOk E → ∀ (F : List Nat) (w0 w : World) (M : Hp), St F w0 w (M ++ ((p, Blk 53 (dkCells E m)) :: (m, o) :: (Lf ++ R))) → ∃ L'', St F w0 w (M ++ L'') ∧ DiskAt p E L''
theorem disk_open {p : Nat} {D : Dk} {L0 : Hp} (hD : DiskAt p D L0) (f : Int) : ∃ m o v0 Lf R es, Opened p m o D f v0 Lf R es L0 := by
  obtain ⟨m, o, fs, hL, hM, hF, hR, hA⟩ := hD
  obtain ⟨v0, Lf, rest, hO0, hlk, hperm, hd0, hB0, hback⟩ := file_open hM hF f
  refine ⟨m, o, v0, Lf, fblks rest, fkv fs, by rw [hL]; exact (hperm.cons _).cons _, hM, hO0, hlk, hd0, hB0, ⟨hR, hA⟩, ?_, ?_⟩
  rotate_left
  · intro E hc hd hE F w0 w M hs
    refine ⟨_, ?_, m, o, fs, rfl, hM, hF.of hc hd, hE.1, hE.2⟩
    exact hs.perm (((hperm.symm.cons (m, o)).cons (p, Blk 53 (dkCells E m))).append_left M)
  intro E v' bs d L' o' hO hf hd hb hc hdd hE hM' F w0 w M hs
  obtain ⟨fs', X, hF', hkv, hpm⟩ := hback v' bs d L' hO hf hd hb (fun h => by rw [h] at hd; simpa using hd)
  rw [← hkv] at hM'
  refine ⟨_, ?_, m, o', fs', rfl, hM', hF'.of hc hdd, hE.1, hE.2⟩
  have h1 := hs.perm (((hpm.cons (m, o')).cons (p, Blk 53 (dkCells E m))).append_left M)
  have h2 : St F w0 w ((M ++ ((p, Blk 53 (dkCells E m)) :: (m, o') :: fblks fs')) ++ X) := by simpa using h1
  exact h2.left
theorem DiskAt.good {p : Nat} {D : Dk} {L : Hp} (h : DiskAt p D L) : dkOk D := by obtain ⟨m, o, fs, hL, hM, hF, hR, hA⟩ := h; exact ⟨hR, hA⟩
theorem DiskAt.d0 {p : Nat} {D : Dk} {L : Hp} (h : DiskAt p D L) {f : Int} (hf : f ∉ filesV D) : D.c f = [] ∧ D.d f = 0 := by
  obtain ⟨m, o, fs, hL, hM, hF, hR, hA⟩ := h
  exact hF.no f (fun h => hf ((hF.mem f).1 h))
/-- the first files are made durable -/
def Dk.firm (D : Dk) (ks : List Int) : Dk := { D with d := fun f => if f ∈ ks then (D.c f).length else D.d f }
theorem firm_nil (D : Dk) : D.firm [] = D := by simp [Dk.firm]
theorem firm_snoc (D : Dk) (ks : List Int) (f : Int) : (D.firm (ks ++ [f])).c = ((D.firm ks).set f (D.c f) (D.c f).length).c ∧ (D.firm (ks ++ [f])).d = ((D.firm ks).set f (D.c f) (D.c f).length).d := by
  refine ⟨?_, ?_⟩
  · funext q; simp only [Dk.firm, Dk.set]; split
    · rename_i h; rw [h]
    · rfl
  · funext q; simp only [Dk.firm, Dk.set, List.mem_append, List.mem_singleton]
    by_cases h : q = f
    · simp [h]
    · simp [h]
/-- all bytes are durable -/
def Dk.solid (D : Dk) : Dk := { D with d := fun f => (D.c f).length }
theorem firm_all {p : Nat} {D : Dk} {L : Hp} (h : DiskAt p D L) : D.firm (filesV D) = D.solid := by
  simp only [Dk.firm, Dk.solid]
  congr 1
  funext f
  split
  · rfl
  · rename_i hf; obtain ⟨h1, h2⟩ := h.d0 hf; rw [h1, h2]; rfl
def Dk.trunc (D : Dk) (f n : Int) : Dk × Int :=
  if f < 0 ∨ 63 < f ∨ n < 0 ∨ ((D.c f).length : Int) < n then (D, 1) else if D.off then (D, 18) else if D.step.2 then (D.step.1, 18)
  else (D.step.1.set f ((D.c f).take n.toNat) (min (D.d f) n.toNat), 0)
theorem step_ok {D : Dk} (h : dkOk D) : dkOk D.step.1 := by
  obtain ⟨h1, _, h3⟩ := step_c D
  exact ⟨by rw [h1, h3]; exact h.1, step_left D h.2⟩
/-- a disk's head block changed, its files as they were -/
theorem DiskAt.head {p m : Nat} {D E : Dk} {o : Obj} {fs : List Fl} (hM : MapI o (fkv fs)) (hF : FilesOk D fs) (hc : E.c = D.c) (hd : E.d = D.d) (hE : dkOk E) : DiskAt p E ((p, Blk 53 (dkCells E m)) :: (m, o) :: fblks fs) :=
  ⟨m, o, fs, rfl, hM, hF.of hc hd, hE.1, hE.2⟩
theorem OwnS.cut {e size n k : Nat} {g : Option Addr} {c : Nat} {cs : List Value} {Lv : Hp} (h : OwnS e size (.slice g n c) n cs Lv) (hk : k ≤ n) : OwnS e size (.slice g k c) k (cs.take (k * size)) Lv := by
  obtain ⟨h1, ⟨⟨a, h2⟩, h3, h4⟩ | ⟨b, cap', sp, h2, h3, h4, h5, h6⟩⟩ := h
  · cases h2
    have : k = 0 := by omega
    subst this
    refine ⟨by simp, .inl ⟨⟨_, rfl⟩, rfl, h4⟩⟩
  · cases h2
    refine ⟨by rw [List.length_take, h1]; exact Nat.min_eq_left (Nat.mul_le_mul_right _ hk), .inr ⟨b, c, cs.drop (k * size) ++ sp, rfl, by omega, h4, ?_, ?_⟩⟩
    · rw [← List.append_assoc, List.take_append_drop]; exact h5
    · rw [← List.append_assoc, List.take_append_drop]; exact h6
def Dk.sync (D : Dk) : Dk × Int := if D.off then (D, 18) else if D.step.2 then (D.step.1, 18) else (D.step.1.solid, 0)
structure SyS where
  k : Nat
  L : Hp
theorem firm_ok {D : Dk} (h : dkOk D) (ks : List Int) : dkOk (D.firm ks) := h
set_option maxHeartbeats 1000000 in
theorem dSync_ok (p : Nat) (D : Dk) (L0 : Hp) (w0 : World) (hD : DiskAt p D L0) (hs : St (ids L0) w0 w0 L0) :
    Ret Tryd.prog 12 [.pointer (some ⟨p, 0, none⟩)].toArray w0 fun r w' => ∃ L', St (ids L0) w0 w' L' ∧ DiskAt p D.sync.1 L' ∧ r = .int .i64 D.sync.2 := by
  have hD0 := hD
  obtain ⟨m, o, v0, Lf, R, es, hP⟩ := disk_open hD 0
  have hstep := step_c D
  have hsg := step_ok hP.good
  replace hs : St (ids L0) w0 w0 ((p, Blk 53 (dkCells D m)) :: (m, o) :: (Lf ++ R)) := hs.perm hP.perm
  have hsb : ∀ w, St (ids L0) w0 w ((p, Blk 53 (dkCells D m)) :: (m, o) :: (Lf ++ R)) → St (ids L0) w0 w L0 := fun w h => h.perm hP.perm.symm
  unfold dkCells at hs
  refine Ret_startL hs fun w hs => ?_
  refine Ret_of Tryd.func12 rfl Tryd.ntmps12 rfl ?_
  refine W_seq ?_
  refine W_region ?_
  refine s_assign rfl rfl ?_
  refine WL_nil ?_
  refine n_then ?_
  refine W_seq ?_
  refine W_seq ?_
  refine W_region ?_
  refine s_move rfl rfl ?_
  refine s_nilCheck rfl rfl ?_
  refine s_fieldAddr rfl rfl (FA53_3 _ _) ?_
  first
    | refine s_load Tryd.isAgg4 rfl rfl (hs.cell (k := 0) rfl rfl) ?_
    | refine s_load Tryd.isAgg4 rfl rfl (hs.cell (k := 1) rfl rfl) ?_
    | refine s_load Tryd.isAgg4 rfl rfl (hs.cell (k := 2) rfl rfl) ?_
  refine s_move rfl rfl ?_
  refine WL_case (s := 10) rfl (fun hg10 => ?_) (fun hg10 => ?_)
  · skip
    try simp only [decide_eq_true_eq, decide_eq_false_iff_not, gt_iff_lt] at hg10
    refine WL_skip rfl rfl rfl ?_
    refine WL_skip rfl rfl rfl ?_
    refine s_pick_t rfl rfl rfl ?_
    refine WL_nil ?_
    refine n_then ?_
    refine W_cond_t rfl ?_
    refine W_seq ?_
    refine W_region ?_
    refine s_assign rfl rfl ?_
    refine WL_nil ?_
    refine n_then ?_
    refine W_ret ?_
    refine r_then ?_
    first
      | (refine end1 rfl rfl ⟨_, hsb w hs, ?_⟩
         rw [Dk.sync, if_pos (by assumption)]; exact ⟨hD0, rfl⟩)
      | (refine end1 rfl rfl ⟨_, hs.right, ?_⟩
         rw [List.take_of_length_le (by omega), firm_all hDE] at hDk
         rw [Dk.sync, if_neg (by simp [*]), if_neg (by simp [*])]
         rw [← hE]; exact ⟨hDk, rfl⟩)
      | (refine end1 rfl rfl ⟨_, hs, ?_⟩
         rw [Dk.sync, if_neg (by simp [*]), if_pos (by simp [*])]
         rw [← hE]; exact ⟨hDE, rfl⟩)
  · skip
    try simp only [decide_eq_true_eq, decide_eq_false_iff_not, gt_iff_lt] at hg10
    refine WL_take rfl ?_
    refine s_move rfl rfl ?_
    refine WL_take rfl ?_
    refine s_callL (M := []) (L1 := [_]) (X := (m, o) :: (Lf ++ R)) Tryd.call30 rfl rfl hs (fun h => fails_ok p m D w hP.good.2 h) ?_
    clear hs; rintro v9 w L9 ⟨rfl, rfl⟩ - hs
    simp only [List.nil_append, List.cons_append] at hs
    obtain ⟨E, hE⟩ : ∃ E, E = D.step.1 := ⟨_, rfl⟩
    rw [← hE] at hs hsg
    have hEc : E.c = D.c := by rw [hE]; exact hstep.1
    have hEd : E.d = D.d := by rw [hE]; exact hstep.2.1
    have hEr : E.room = D.room := by rw [hE]; exact hstep.2.2
    obtain ⟨LE, hs2, hDE⟩ := hP.same E hEc hEd hsg _ _ w [] hs
    replace hs := hs2
    clear hs2
    rw [List.nil_append] at hs
    refine s_pick_f rfl rfl rfl ?_
    refine WL_nil ?_
    refine n_then ?_
    refine W_cond rfl (fun hc13 => ?_) (fun hc13 => ?_)
    · skip
      try simp only [decide_eq_true_eq, decide_eq_false_iff_not, gt_iff_lt] at hc13
      refine W_seq ?_
      refine W_region ?_
      refine s_assign rfl rfl ?_
      refine WL_nil ?_
      refine n_then ?_
      refine W_ret ?_
      refine r_then ?_
      first
        | (refine end1 rfl rfl ⟨_, hsb w hs, ?_⟩
           rw [Dk.sync, if_pos (by assumption)]; exact ⟨hD0, rfl⟩)
        | (refine end1 rfl rfl ⟨_, hs.right, ?_⟩
           rw [List.take_of_length_le (by omega), firm_all hDE] at hDk
           rw [Dk.sync, if_neg (by simp [*]), if_neg (by simp [*])]
           rw [← hE]; exact ⟨hDk, rfl⟩)
        | (refine end1 rfl rfl ⟨_, hs, ?_⟩
           rw [Dk.sync, if_neg (by simp [*]), if_pos (by simp [*])]
           rw [← hE]; exact ⟨hDE, rfl⟩)
    · skip
      try simp only [decide_eq_true_eq, decide_eq_false_iff_not, gt_iff_lt] at hc13
      refine W_skip ?_
      refine n_then ?_
      refine W_seq ?_
      refine W_seq ?_
      refine W_region ?_
      refine s_move rfl rfl ?_
      refine s_callL (M := []) (L1 := LE) (X := []) Tryd.call32 rfl rfl (by simpa using hs) (fun h => files_ok p E LE w hDE h) ?_
      clear hs; rintro v w L' ⟨Lv, rfl, hO⟩ - hs
      simp only [List.nil_append, List.append_nil] at hs
      obtain ⟨_, cv, av, rfl, hvl⟩ := hO.form
      subst hvl
      have hfl := filesV_len E
      refine s_len rfl rfl (LN22 _ _ _ _) ?_
      refine s_move rfl rfl ?_
      refine WL_nil ?_
      refine n_then ?_
      refine W_block ?_
      refine W_loop (σ := SyS) (fun s => [(0, .pointer (some ⟨p, 0, none⟩)), (15, .slice av (filesV E).length cv), (16, .int .i64 ((filesV E).length : Int)), (17, .int .i64 (s.k : Int))]) (fun s w => St (ids L0) w0 w (Lv ++ s.L) ∧ DiskAt p (E.firm ((filesV E).take s.k)) s.L ∧ s.k ≤ (filesV E).length) (fun s => (filesV E).length - s.k) ⟨0, LE⟩ ⟨rfl, rfl, rfl, rfl, trivial⟩ ⟨hs, by rw [List.take_zero, firm_nil]; exact hDE, Nat.zero_le _⟩ ?_
      clear hs
      rintro ⟨k, LK⟩ w ⟨hs, hDk, hk⟩
      simp only at hs hDk hk ⊢
      refine W_seq ?_
      refine W_region ?_
      refine s_lss rfl rfl rfl ?_
      refine WL_nil ?_
      refine n_then ?_
      refine W_seq ?_
      refine W_cond rfl (fun hc18 => ?_) (fun hc18 => ?_)
      · skip
        try simp only [decide_eq_true_eq, decide_eq_false_iff_not, gt_iff_lt] at hc18
        have hkl : k < (filesV E).length := by omega
        obtain ⟨f, hf⟩ : ∃ f, (filesV E)[k]? = some f := ⟨_, List.getElem?_eq_getElem hkl⟩
        have hfm := (filesV_mem E f).1 (List.mem_of_getElem? hf)
        obtain ⟨b1, o1, hA1, hc1⟩ := (OwnS_slIn hO (w := w) fun p hp => hs.own p (by simp [hp])).at (k := k) (u := .int .i64 f) (by rw [List.getElem?_map, hf]; rfl)
        obtain ⟨m1, q1, v1, Lf1, R1, es1, hP1⟩ := disk_open hDk f
        have hM1 := hP1.map
        have hlk1 := hP1.look
        have hO1 := hP1.own
        have hff : (E.firm ((filesV E).take k)).c f = E.c f := rfl
        rw [hff] at hO1
        obtain ⟨_, c1, a1, rfl, h1l⟩ := hO1.form
        subst h1l
        replace hs := (hs.perm (hP1.perm.append_left Lv)).swap
        unfold dkCells at hs
        simp only [List.cons_append, List.append_assoc] at hs
        refine W_skip ?_
        refine n_then ?_
        refine W_seq ?_
        refine W_block ?_
        refine W_seq ?_
        refine W_region ?_
        (refine s_indexAddrO El22 rfl rfl rfl hA1 ?hx ?_; case hx => (constructor <;> omega))
        refine s_load Tryd.isAgg3 rfl rfl (by rw [Int.toNat_natCast]; exact hc1) ?_
        refine s_assign rfl rfl ?_
        refine WL_nil ?_
        refine n_then ?_
        refine W_seq ?_
        refine W_region ?_
        refine s_move rfl rfl ?_
        refine s_nilCheck rfl rfl ?_
        refine s_fieldAddr rfl rfl (FA53_2 _ _) ?_
        first
          | refine s_load Tryd.isAgg51 rfl rfl (hs.cell (k := 0) rfl rfl) ?_
          | refine s_load Tryd.isAgg51 rfl rfl (hs.cell (k := 1) rfl rfl) ?_
          | refine s_load Tryd.isAgg51 rfl rfl (hs.cell (k := 2) rfl rfl) ?_
        refine s_move rfl rfl ?_
        refine s_lookupI Tryd.underlying51 Tryd.underlying3 ZV67 rfl rfl rfl hs (kk := 1) rfl hM1 ?_
        rw [hlk1]
        refine s_alloc rfl AL67 hs ?_; clear hs; intro b5 w hs
        first
          | refine s_storeW Tryd.sizeOf67 rfl rfl rfl rfl hs (kk := 0) rfl rfl ?_
          | refine s_storeW Tryd.sizeOf67 rfl rfl rfl rfl hs (kk := 1) rfl rfl ?_
          | refine s_storeW Tryd.sizeOf67 rfl rfl rfl rfl hs (kk := 2) rfl rfl ?_
          | refine s_storeAB Tryd.sizeOf67 rfl rfl rfl rfl hs (kk := 0) rfl rfl ?_
          | refine s_storeAB Tryd.sizeOf67 rfl rfl rfl rfl hs (kk := 1) rfl rfl ?_
          | refine s_storeAB Tryd.sizeOf67 rfl rfl rfl rfl hs (kk := 2) rfl rfl ?_
        clear hs; intro w hs; try simp only [List.set_cons_zero, List.set_cons_succ, splice, List.take_succ_cons, List.take_zero, List.drop_succ_cons, List.drop_zero, List.nil_append, List.cons_append, List.length_cons, List.length_nil, Nat.reduceAdd, List.append_assoc] at hs
        refine WL_nil ?_
        refine n_then ?_
        refine W_seq ?_
        refine W_region ?_
        refine s_fieldAddr rfl rfl (FA67_0 _ _) ?_
        first
          | refine s_load Tryd.isAgg29 rfl rfl (hs.cell (k := 0) rfl rfl) ?_
          | refine s_load Tryd.isAgg29 rfl rfl (hs.cell (k := 1) rfl rfl) ?_
          | refine s_load Tryd.isAgg29 rfl rfl (hs.cell (k := 2) rfl rfl) ?_
        refine s_len rfl rfl (LN29 _ _ _ _) ?_
        refine s_fieldAddr rfl rfl (FA67_1 _ _) ?_
        first
          | refine s_storeB Tryd.sizeOf3 rfl rfl rfl hs (kk := 0) rfl rfl ?_
          | refine s_storeB Tryd.sizeOf3 rfl rfl rfl hs (kk := 1) rfl rfl ?_
          | refine s_storeB Tryd.sizeOf3 rfl rfl rfl hs (kk := 2) rfl rfl ?_
        clear hs; intro w hs; try simp only [List.set_cons_zero, List.set_cons_succ, splice, List.take_succ_cons, List.take_zero, List.drop_succ_cons, List.drop_zero, List.nil_append, List.cons_append, List.length_cons, List.length_nil, Nat.reduceAdd, List.append_assoc] at hs
        refine WL_nil ?_
        refine n_then ?_
        refine W_draw [(0, true, []), (1, true, []), (2, true, []), (3, true, []), (4, true, []), (5, true, []), (6, false, [])] [[], [0], [0, 1], [0, 1, 2], [], [], [0, 1, 2, 3, 4, 5]] MX (by kernel_rfl) ?_
        intro w1 hw1 hw2 hw3 hw4; replace hs := hs.redrawn hw1 hw2 hw3 hw4; clear hw1 hw2 hw3 hw4
        obtain ⟨w, rfl⟩ : ∃ w : World, w = w1 := ⟨_, rfl⟩
        refine D_q rfl rfl ?_
        refine s_move rfl rfl ?_
        refine D_qn ?_
        refine D_q rfl rfl ?_
        refine s_nilCheck rfl rfl ?_
        refine D_qn ?_
        refine D_q rfl rfl ?_
        refine s_fieldAddr rfl rfl (FA53_2 _ _) ?_
        refine D_qn ?_
        refine D_q rfl rfl ?_
        first
          | refine s_load Tryd.isAgg51 rfl rfl (hs.cell (k := 0) rfl rfl) ?_
          | refine s_load Tryd.isAgg51 rfl rfl (hs.cell (k := 1) rfl rfl) ?_
          | refine s_load Tryd.isAgg51 rfl rfl (hs.cell (k := 2) rfl rfl) ?_
        refine D_qn ?_
        refine D_q rfl rfl ?_
        refine s_move rfl rfl ?_
        refine D_qn ?_
        refine D_q rfl rfl ?_
        first
          | refine s_loadW Tryd.isAgg67 Tryd.sizeOf67 rfl rfl hs (kk := 0) rfl rfl ?_
          | refine s_loadW Tryd.isAgg67 Tryd.sizeOf67 rfl rfl hs (kk := 1) rfl rfl ?_
          | refine s_loadW Tryd.isAgg67 Tryd.sizeOf67 rfl rfl hs (kk := 2) rfl rfl ?_
          | refine s_load_2 Tryd.isAgg67 Tryd.sizeOf67 rfl rfl (by first | exact hs.cell (k := 0) rfl rfl | exact hs.cell (k := 1) rfl rfl | exact hs.cell (k := 2) rfl rfl) (by first | exact hs.cell (k := 0) rfl rfl | exact hs.cell (k := 1) rfl rfl | exact hs.cell (k := 2) rfl rfl) ?_
        refine D_qn ?_
        refine D_e rfl ?_
        refine s_mapUpdateI Tryd.underlying51 Tryd.underlying3 rfl rfl rfl hs (kk := 2) rfl hM1 ?_
        clear hs; intro w o' hM' hs
        try simp only [List.set_cons_succ, List.set_cons_zero] at hs
        refine D_en ?re ?_
        case re =>
          exact Reks_nil
        refine D_nil ?_
        refine n_blk ?_
        refine n_then ?_
        refine W_region ?_
        first | (refine s_add' rfl rfl rfl ?hx ?_; case hx => (constructor <;> first | omega | (simp only; omega))) | refine s_add rfl rfl rfl ?_
        refine s_move rfl rfl ?_
        refine WL_nil ?_
        refine n_loop ?_
        have hsn := firm_snoc E ((filesV E).take k) f
        have htk : (filesV E).take (k + 1) = (filesV E).take k ++ [f] := by rw [List.take_add_one, hf]; rfl
        obtain ⟨L2, hfin, hDf⟩ := hP1.back (E.firm ((filesV E).take (k + 1))) (.slice a1 (E.c f).length c1) (E.c f) (E.c f).length Lf1 o' hO1 hfm.1 (Nat.le_refl _) hP1.byt (by rw [htk]; exact hsn.1) (by rw [htk]; exact hsn.2) hsg (by rw [if_neg (by have := List.length_pos_iff.2 hfm.2; omega)]; exact hM') _ _ w Lv (by
          have h1 := hs.tail
          have : St (ids L0) w0 w ((((p, Blk 53 (dkCells (E.firm ((filesV E).take (k + 1))) m1)) :: (m1, o') :: (Lf1 ++ R1)) ++ Lv)) := by simp only [dkCells, List.cons_append, List.append_assoc]; exact h1
          exact this.swap)
        exact ⟨⟨k + 1, L2⟩, ⟨rfl, rfl, rfl, rfl, trivial⟩, ⟨hfin, hDf, by simp only; omega⟩, by simp only; omega⟩
      · skip
        try simp only [decide_eq_true_eq, decide_eq_false_iff_not, gt_iff_lt] at hc18
        refine W_exit ?_
        refine x_then ?_
        refine x_then ?_
        refine exit_hit ?_
        refine n_then ?_
        refine W_seq ?_
        refine W_region ?_
        refine s_assign rfl rfl ?_
        refine WL_nil ?_
        refine n_then ?_
        refine W_ret ?_
        first
          | (refine end1 rfl rfl ⟨_, hsb w hs, ?_⟩
             rw [Dk.sync, if_pos (by assumption)]; exact ⟨hD0, rfl⟩)
          | (refine end1 rfl rfl ⟨_, hs.right, ?_⟩
             rw [List.take_of_length_le (by omega), firm_all hDE] at hDk
             rw [Dk.sync, if_neg (by simp [*]), if_neg (by simp [*])]
             rw [← hE]; exact ⟨hDk, rfl⟩)
          | (refine end1 rfl rfl ⟨_, hs, ?_⟩
             rw [Dk.sync, if_neg (by simp [*]), if_pos (by simp [*])]
             rw [← hE]; exact ⟨hDE, rfl⟩)
end Go.Proofs.YtbcdnpjcbchbjaaDoor
