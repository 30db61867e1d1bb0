/- The reference's disk: what it is in memory; New, Used, Files, step, Arm. -/
import Derived.Test.YtkappdlbpilghaaGreatDkE
import Derived.Test.YtkappdlbpilghaaGreatTree
set_option linter.unusedVariables false
set_option linter.unusedSimpArgs false
namespace Go.Proofs.YtkappdlbpilghaaGreat
open Go.SL
structure Rw where
  v : Value
  bs : List Int
  dur : Nat
  L : Hp
def Rw.ok (r : Rw) : Prop := OwnS 5 1 r.v r.bs.length (u8s r.bs) r.L ∧ r.dur ≤ r.bs.length ∧ ∀ b ∈ r.bs, isB b
def rblks (rs : List Rw) : Hp := rs.flatMap (·.L)
def rvs (rs : List Rw) : List Value := rs.map (·.v)
def rds (rs : List Rw) : List Value := rs.map fun r => .int .i64 (r.dur : Int)
structure RsOk (D : Dk) (rs : List Rw) : Prop where
  len : rs.length = 64
  at' : ∀ (i : Nat) (r : Rw), rs[i]? = some r → r.ok ∧ D.c (i : Int) = r.bs ∧ D.d (i : Int) = r.dur
def Dk.plan (D : Dk) : Int := if D.armed then D.left else -1
def rdCells (D : Dk) (gB gF : Nat) : List Value := [.int .i64 D.room, .slice (some ⟨gB, 0, none⟩) 64 64, .slice (some ⟨gF, 0, none⟩) 64 64, .bool D.off, .int .i64 D.plan]
def RefAt (p : Nat) (D : Dk) (L : Hp) : Prop :=
  ∃ gB gF rs, L = (p, Blk 50 (rdCells D gB gF)) :: (gB, Blk 39 (rvs rs)) :: (gF, Blk 3 (rds rs)) :: rblks rs ∧ RsOk D rs ∧ dkOk D
theorem RsOk.get {D : Dk} {rs : List Rw} (h : RsOk D rs) {i : Nat} (hi : i < 64) : ∃ r, rs[i]? = some r ∧ r.ok ∧ D.c (i : Int) = r.bs ∧ D.d (i : Int) = r.dur ∧ (rvs rs)[i]? = some r.v ∧ (rds rs)[i]? = some (.int .i64 (r.dur : Int)) := by
  have hl : i < rs.length := by rw [h.len]; exact hi
  obtain ⟨h1, h2, h3⟩ := h.at' i _ (List.getElem?_eq_getElem hl)
  refine ⟨rs[i], List.getElem?_eq_getElem hl, h1, h2, h3, ?_, ?_⟩
  · rw [rvs, List.getElem?_map, List.getElem?_eq_getElem hl]; rfl
  · rw [rds, List.getElem?_map, List.getElem?_eq_getElem hl]; rfl
theorem rw_open {rs : List Rw} {i : Nat} {r : Rw} (h : rs[i]? = some r) : ∃ R, (rblks rs).Perm (r.L ++ R) ∧ ∀ r' : Rw, (r'.L ++ R).Perm (rblks (rs.set i r')) := by
  induction rs generalizing i with
  | nil => simp at h
  | cons a t ih =>
    cases i with
    | zero =>
      simp at h; subst h
      exact ⟨rblks t, List.Perm.refl _, fun r' => List.Perm.refl _⟩
    | succ i =>
      obtain ⟨R, h1, h2⟩ := ih (by simpa using h)
      refine ⟨a.L ++ R, ?_, fun r' => ?_⟩
      · show (a.L ++ rblks t).Perm _
        exact (h1.append_left a.L).trans (perm_mid _ _ _)
      · show List.Perm _ (a.L ++ rblks (t.set i r'))
        exact (perm_mid _ _ _).trans ((h2 r').append_left a.L)
theorem rvs_set (rs : List Rw) (i : Nat) (r : Rw) : rvs (rs.set i r) = (rvs rs).set i r.v := by rw [rvs, rvs, List.map_set]
theorem rds_set (rs : List Rw) (i : Nat) (r : Rw) : rds (rs.set i r) = (rds rs).set i (.int .i64 (r.dur : Int)) := by rw [rds, rds, List.map_set]
theorem RsOk.set {D E : Dk} {rs : List Rw} (h : RsOk D rs) {i : Nat} {r : Rw} (hr : r.ok) (hc : E.c = (D.set (i : Int) r.bs r.dur).c) (hd : E.d = (D.set (i : Int) r.bs r.dur).d) : RsOk E (rs.set i r) := by
  refine ⟨by rw [List.length_set]; exact h.len, fun j q hj => ?_⟩
  rw [List.getElem?_set] at hj
  rw [hc, hd]
  split at hj
  · rename_i e; subst e
    split at hj
    · cases hj; exact ⟨hr, by simp [Dk.set], by simp [Dk.set]⟩
    · cases hj
  · rename_i e
    have hne : (j : Int) ≠ (i : Int) := by omega
    simp only [Dk.set, if_neg hne]
    exact h.at' j q hj
theorem RsOk.of {D E : Dk} {rs : List Rw} (h : RsOk D rs) (hc : E.c = D.c) (hd : E.d = D.d) : RsOk E rs := ⟨h.len, fun i r hi => by rw [hc, hd]; exact h.at' i r hi⟩
theorem rw_new : RsOk (newDk 0) (List.replicate 64 ⟨.slice none 0 0, [], 0, []⟩) := by
  refine ⟨by simp, fun i r hi => ?_⟩
  rw [List.getElem?_replicate] at hi
  split at hi
  · cases hi; exact ⟨⟨OwnS.nil _ _, by simp, by simp⟩, rfl, rfl⟩
  · cases hi
theorem rNew_ok (room : Int) (w0 : World) (hr : 0 ≤ room ∧ room ≤ 16777216) :
    Ret Tryz.prog 6 [.int .i64 room].toArray w0 fun r w' => ∃ p L, r = .pointer (some ⟨p, 0, none⟩) ∧ RefAt p (newDk room) L ∧ St [] w0 w' L := by
  have hfin : ∀ (p gB gF : Nat) (w : World), St [] w0 w [(p, Blk 50 [.int .i64 room, .slice (some ⟨gB, 0, none⟩) 64 64, .slice (some ⟨gF, 0, none⟩) 64 64, .bool false, .int .i64 (-1)]), (gB, Blk 39 (made [.slice none 0 0] 64)), (gF, Blk 3 (made [.int .i64 0] 64))] → ∃ q L, Value.pointer (some ⟨p, 0, none⟩) = .pointer (some ⟨q, 0, none⟩) ∧ RefAt q (newDk room) L ∧ St [] w0 w L := by
    intro p gB gF w hs
    refine ⟨p, _, rfl, ⟨gB, gF, List.replicate 64 ⟨.slice none 0 0, [], 0, []⟩, rfl, rw_new.of rfl rfl, ⟨⟨by simp only [newDk]; rw [total_nil]; omega, by simp only [newDk]; omega, by simp only [newDk]; omega⟩, by simp [newDk]⟩⟩, ?_⟩
    simp only [made_one] at hs
    have h1 : rblks (List.replicate 64 ⟨.slice none 0 0, [], 0, []⟩) = [] := by simp [rblks]
    have h2 : rvs (List.replicate 64 ⟨.slice none 0 0, [], 0, []⟩) = List.replicate 64 (.slice none 0 0) := by simp [rvs]
    have h3 : rds (List.replicate 64 ⟨.slice none 0 0, [], 0, []⟩) = List.replicate 64 (.int .i64 0) := by simp [rds]
    rw [h1, h2, h3]
    exact hs
  refine Ret_start fun w hs => ?_
  refine Ret_of Tryz.func6 rfl Tryz.ntmps6 rfl ?_
  refine W_seq ?_
  refine W_region ?_
  refine s_assign rfl rfl ?_
  refine WL_nil ?_
  refine n_then ?_
  refine W_seq ?_
  refine W_tree (.q 0 (.e 1 [0] (.e 2 [0] (.q 3 (.e 4 [] (.q 5 .nil) .nil)) .nil) (.e 2 [0] (.e 1 [0] (.q 3 (.e 4 [] (.q 5 .nil) .nil)) .nil) .nil))) [0, 3, 5] [[], [], [], [0, 1, 2], [0, 1, 2, 3], [0, 1, 2, 3, 4]] MX (by kernel_rfl) ?_
  intro w1 hw1 hw2 hw3 hw4; replace hs := hs.redrawn hw1 hw2 hw3 hw4; clear hw1 hw2 hw3 hw4
  obtain ⟨w, rfl⟩ : ∃ w : World, w = w1 := ⟨_, rfl⟩
  refine T_q rfl rfl ?_
  refine s_move rfl rfl ?_
  refine T_qn ?_
  refine T_e rfl ?_ ?_
  · skip
    refine s_makeSlice El29 rfl rfl rfl ?hx hs ?_
    case hx => (refine ⟨?_, ?_, ?_, ?_⟩ <;> omega)
    clear hs; intro b4 w hs
    refine T_en ?re ?_
    case re =>
      refine Reks_cons rfl rfl rfl rfl ?_ ?_
      · skip
        refine s_move rfl rfl ?_
        exact Rek_end rfl
      exact Reks_nil
    refine T_e rfl ?_ ?_
    · skip
      refine s_makeSlice El22 rfl rfl rfl ?hx hs ?_
      case hx => (refine ⟨?_, ?_, ?_, ?_⟩ <;> omega)
      clear hs; intro b5 w hs
      refine T_en ?re ?_
      case re =>
        refine Reks_cons rfl rfl rfl rfl ?_ ?_
        · skip
          refine s_move rfl rfl ?_
          exact Rek_end rfl
        exact Reks_nil
      refine T_q rfl rfl ?_
      refine s_build rfl rfl (BD50_0_1_2_4 _ _ _ _ _ _ _ _) ?_
      refine T_qn ?_
      refine T_e rfl ?_ ?_
      · skip
        first | refine s_box rfl rfl hs ?_ | refine s_box1 rfl rfl rfl hs ?_
        clear hs; intro b7 w hs
        refine T_en ?re ?_
        case re =>
          exact Reks_nil
        refine T_q rfl rfl ?_
        refine s_assign rfl rfl ?_
        refine T_qn ?_
        refine T_nil ?_
        refine n_then ?_
        refine W_ret ?_
        first
          | exact end1 rfl rfl (hfin _ _ _ w hs)
          | exact end1 rfl rfl (hfin _ _ _ w (hs.perm ((List.Perm.swap _ _ _).cons _)))
      exact T_alt0
    exact T_alt0
  refine T_e rfl ?_ ?_
  · skip
    refine s_makeSlice El22 rfl rfl rfl ?hx hs ?_
    case hx => (refine ⟨?_, ?_, ?_, ?_⟩ <;> omega)
    clear hs; intro b5 w hs
    refine T_en ?re ?_
    case re =>
      refine Reks_cons rfl rfl rfl rfl ?_ ?_
      · skip
        refine s_move rfl rfl ?_
        exact Rek_end rfl
      exact Reks_nil
    refine T_e rfl ?_ ?_
    · skip
      refine s_makeSlice El29 rfl rfl rfl ?hx hs ?_
      case hx => (refine ⟨?_, ?_, ?_, ?_⟩ <;> omega)
      clear hs; intro b4 w hs
      refine T_en ?re ?_
      case re =>
        refine Reks_cons rfl rfl rfl rfl ?_ ?_
        · skip
          refine s_move rfl rfl ?_
          exact Rek_end rfl
        exact Reks_nil
      refine T_q rfl rfl ?_
      refine s_build rfl rfl (BD50_0_1_2_4 _ _ _ _ _ _ _ _) ?_
      refine T_qn ?_
      refine T_e rfl ?_ ?_
      · skip
        first | refine s_box rfl rfl hs ?_ | refine s_box1 rfl rfl rfl hs ?_
        clear hs; intro b7 w hs
        refine T_en ?re ?_
        case re =>
          exact Reks_nil
        refine T_q rfl rfl ?_
        refine s_assign rfl rfl ?_
        refine T_qn ?_
        refine T_nil ?_
        refine n_then ?_
        refine W_ret ?_
        first
          | exact end1 rfl rfl (hfin _ _ _ w hs)
          | exact end1 rfl rfl (hfin _ _ _ w (hs.perm ((List.Perm.swap _ _ _).cons _)))
      exact T_alt0
    exact T_alt0
  exact T_alt0
theorem RefAt.cases {p : Nat} {D : Dk} {L : Hp} (h : RefAt p D L) : dkOk D := by obtain ⟨_, _, _, _, _, h⟩ := h; exact h
theorem sum_snoc (c : Int → List Int) (k : Nat) : ((List.range (k + 1)).map fun (i : Nat) => (c (i : Int)).length).sum = ((List.range k).map fun (i : Nat) => (c (i : Int)).length).sum + (c (k : Int)).length := by
  rw [List.range_succ, List.map_append, List.sum_append]; simp
theorem sum_le (c : Int → List Int) (k : Nat) (hk : k ≤ 64) : ((List.range k).map fun (i : Nat) => (c (i : Int)).length).sum ≤ total c := by
  have : ∀ d, ((List.range k).map fun (i : Nat) => (c (i : Int)).length).sum ≤ ((List.range (k + d)).map fun (i : Nat) => (c (i : Int)).length).sum := by
    intro d
    induction d with
    | zero => exact Nat.le_refl _
    | succ d ih => rw [← Nat.add_assoc, sum_snoc]; omega
  have h := this (64 - k)
  rw [show k + (64 - k) = 64 by omega] at h; exact h
set_option maxHeartbeats 1000000 in
theorem rUsed_ok (p : Nat) (D : Dk) (L0 : Hp) (w0 : World) (hD : RefAt p D L0) (hs : St (ids L0) w0 w0 L0) :
    Ret Tryz.prog 50 [.pointer (some ⟨p, 0, none⟩)].toArray w0 fun r w' => ∃ L', St (ids L0) w0 w' L' ∧ L' = L0 ∧ r = .int .i64 (total D.c : Int) := by
  obtain ⟨gB, gF, rs, hL, hR, hK⟩ := hD
  replace hs : St (ids L0) w0 w0 ((p, Blk 50 (rdCells D gB gF)) :: (gB, Blk 39 (rvs rs)) :: (gF, Blk 3 (rds rs)) :: rblks rs) := by rw [hL] at hs ⊢; exact hs
  unfold rdCells at hs
  refine Ret_startL hs fun w hs => ?_
  refine Ret_of Tryz.func50 rfl Tryz.ntmps50 rfl ?_
  refine W_seq ?_
  refine W_region ?_
  refine s_assign rfl rfl ?_
  refine WL_nil ?_
  refine n_then ?_
  refine W_seq ?_
  refine W_region ?_
  refine s_assign rfl rfl ?_
  refine WL_nil ?_
  refine n_then ?_
  refine W_seq ?_
  refine W_seq ?_
  refine W_region ?_
  refine s_assign rfl rfl ?_
  refine WL_nil ?_
  refine n_then ?_
  refine W_block ?_
  refine W_loop (σ := Nat) (fun k => [(0, .pointer (some ⟨p, 0, none⟩)), (3, .int .i64 ((((List.range k).map fun (i : Nat) => (D.c (i : Int)).length).sum : Nat) : Int)), (4, .int .i64 (k : Int))]) (fun k w => St (ids L0) w0 w ((p, Blk 50 [.int .i64 D.room, .slice (some ⟨gB, 0, none⟩) 64 64, .slice (some ⟨gF, 0, none⟩) 64 64, .bool D.off, .int .i64 D.plan]) :: (gB, Blk 39 (rvs rs)) :: (gF, Blk 3 (rds rs)) :: rblks rs) ∧ k ≤ 64) (fun k => 64 - k) 0 ⟨rfl, rfl, rfl, trivial⟩ ⟨hs, by omega⟩ ?_
  clear hs
  rintro k w ⟨hs, hk⟩
  refine W_seq ?_
  refine W_seq ?_
  refine W_region ?_
  refine s_move rfl rfl ?_
  refine s_lss rfl rfl rfl ?_
  refine WL_nil ?_
  refine n_then ?_
  refine W_cond rfl (fun hc6 => ?_) (fun hc6 => ?_)
  · skip
    try simp only [decide_eq_true_eq, decide_eq_false_iff_not, gt_iff_lt] at hc6
    have hk64 : k < 64 := by omega
    obtain ⟨r, hr, hok, hc, hd, hv, hdv⟩ := hR.get hk64
    have hle := sum_le D.c k (by omega)
    have hle2 := sum_le D.c (k + 1) (by omega)
    have hsn := sum_snoc D.c k
    obtain ⟨_, cr, ar, hrv, hrl⟩ := hok.1.form
    rw [hrv, hrl, ← hc] at hv
    refine W_skip ?_
    refine n_then ?_
    refine W_seq ?_
    refine W_block ?_
    refine W_region ?_
    refine s_move rfl rfl ?_
    refine s_move rfl rfl ?_
    refine s_nilCheck rfl rfl ?_
    refine s_fieldAddr rfl rfl (FA50_1 _ _) ?_
    first
      | refine s_load Tryz.isAgg29 rfl rfl (hs.cell (k := 0) rfl rfl) ?_
    refine s_move rfl rfl ?_
    (refine s_indexAddr1 El29 rfl rfl rfl ?hx ?_; case hx => (constructor <;> first | omega | (simp; omega)))
    refine s_load Tryz.isAgg39 rfl rfl (hs.cell (k := 1) rfl (by rw [Nat.zero_add, Int.toNat_natCast]; exact hv)) ?_
    refine s_len rfl rfl (LN39 _ _ _ _) ?_
    (refine s_add' rfl rfl rfl ?hx ?_; case hx => (constructor <;> omega))
    rw [← Int.natCast_add, ← hsn]
    refine s_assign rfl rfl ?_
    refine WL_nil ?_
    refine n_blk ?_
    refine n_then ?_
    refine W_region ?_
    refine s_move rfl rfl ?_
    first | (refine s_add' rfl rfl rfl ?hx ?_; case hx => (constructor <;> first | omega | (simp only; omega))) | refine s_add rfl rfl rfl ?_
    refine s_assign rfl rfl ?_
    refine WL_nil ?_
    refine n_loop ?_
    exact ⟨k + 1, ⟨rfl, rfl, rfl, trivial⟩, ⟨hs, by omega⟩, by omega⟩
  · skip
    try simp only [decide_eq_true_eq, decide_eq_false_iff_not, gt_iff_lt] at hc6
    refine W_exit ?_
    refine x_then ?_
    refine x_then ?_
    refine exit_hit ?_
    refine n_then ?_
    refine W_seq ?_
    refine W_region ?_
    refine s_move rfl rfl ?_
    refine s_assign rfl rfl ?_
    refine WL_nil ?_
    refine n_then ?_
    refine W_ret ?_
    refine end1 rfl rfl ⟨_, hs, hL.symm, ?_⟩
    rw [show k = 64 by omega]; rfl
theorem files_snoc (D : Dk) (k : Nat) : (((List.range (k + 1)).map fun (i : Nat) => (i : Int)).filter fun f => decide (D.c f ≠ [])) = (((List.range k).map fun (i : Nat) => (i : Int)).filter fun f => decide (D.c f ≠ [])) ++ (if D.c (k : Int) = [] then [] else [(k : Int)]) := by
  rw [List.range_succ, List.map_append, List.filter_append]
  congr 1
  simp only [List.map_cons, List.map_nil, List.filter_cons, List.filter_nil]
  by_cases h : D.c (k : Int) = [] <;> simp [h]
structure RfS where
  k : Nat
  v : Value
  L : Hp
set_option maxHeartbeats 1000000 in
theorem rFiles_ok (p : Nat) (D : Dk) (L0 : Hp) (w0 : World) (hD : RefAt p D L0) (hs : St (ids L0) w0 w0 L0) :
    Ret Tryz.prog 32 [.pointer (some ⟨p, 0, none⟩)].toArray w0 fun r w' => ∃ L', St (ids L0) w0 w' L' ∧ ∃ Lv, L' = Lv ++ L0 ∧ OwnS 3 1 r (filesV D).length (i64s (filesV D)) Lv := by
  obtain ⟨gB, gF, rs, hL, hR, hK⟩ := hD
  replace hs : St (ids L0) w0 w0 ((p, Blk 50 (rdCells D gB gF)) :: (gB, Blk 39 (rvs rs)) :: (gF, Blk 3 (rds rs)) :: rblks rs) := by rw [hL] at hs ⊢; exact hs
  unfold rdCells at hs
  refine Ret_startL hs fun w hs => ?_
  refine Ret_of Tryz.func32 rfl Tryz.ntmps32 rfl ?_
  refine W_seq ?_
  refine W_region ?_
  refine s_assign rfl rfl ?_
  refine WL_nil ?_
  refine n_then ?_
  refine W_seq ?_
  refine W_region ?_
  refine s_assign rfl rfl ?_
  refine WL_nil ?_
  refine n_then ?_
  refine W_seq ?_
  refine W_seq ?_
  refine W_region ?_
  refine s_assign rfl rfl ?_
  refine WL_nil ?_
  refine n_then ?_
  refine W_block ?_
  refine W_loop (σ := RfS) (fun s => [(0, .pointer (some ⟨p, 0, none⟩)), (3, s.v), (4, .int .i64 (s.k : Int))]) (fun s w => St (ids L0) w0 w ((p, Blk 50 [.int .i64 D.room, .slice (some ⟨gB, 0, none⟩) 64 64, .slice (some ⟨gF, 0, none⟩) 64 64, .bool D.off, .int .i64 D.plan]) :: (gB, Blk 39 (rvs rs)) :: (gF, Blk 3 (rds rs)) :: (s.L ++ rblks rs)) ∧ s.k ≤ 64 ∧ OwnS 3 1 s.v (((List.range s.k).map fun (i : Nat) => (i : Int)).filter fun f => decide (D.c f ≠ [])).length (i64s (((List.range s.k).map fun (i : Nat) => (i : Int)).filter fun f => decide (D.c f ≠ []))) s.L) (fun s => 64 - s.k) ⟨0, .slice none 0 0, []⟩ ⟨rfl, rfl, rfl, trivial⟩ ⟨hs, by simp, OwnS.nil _ _⟩ ?_
  clear hs
  rintro ⟨k, v, Lv⟩ w ⟨hs, hk, hO⟩
  simp only at hs hk hO ⊢
  have hsn := files_snoc D k
  have hlf : ((((List.range k).map fun (i : Nat) => (i : Int)).filter fun f => decide (D.c f ≠ []))).length ≤ 64 := Nat.le_trans (List.length_filter_le _ _) (by simp; omega)
  generalize hfk : (((List.range k).map fun (i : Nat) => (i : Int)).filter fun f => decide (D.c f ≠ [])) = fk at hO hsn hlf
  refine W_seq ?_
  refine W_seq ?_
  refine W_region ?_
  refine s_move rfl rfl ?_
  refine s_lss rfl rfl rfl ?_
  refine WL_nil ?_
  refine n_then ?_
  refine W_cond rfl (fun hc6 => ?_) (fun hc6 => ?_)
  · skip
    try simp only [decide_eq_true_eq, decide_eq_false_iff_not, gt_iff_lt] at hc6
    have hk64 : k < 64 := by omega
    obtain ⟨r, hr, hok, hc, hd, hv, hdv⟩ := hR.get hk64
    obtain ⟨_, cr, ar, hrv, hrl⟩ := hok.1.form
    rw [hrv, hrl, ← hc] at hv
    refine W_skip ?_
    refine n_then ?_
    refine W_seq ?_
    refine W_block ?_
    refine W_seq ?_
    refine W_region ?_
    refine s_move rfl rfl ?_
    refine s_nilCheck rfl rfl ?_
    refine s_fieldAddr rfl rfl (FA50_1 _ _) ?_
    first
      | refine s_load Tryz.isAgg29 rfl rfl (hs.cell (k := 0) rfl rfl) ?_
    refine s_move rfl rfl ?_
    (refine s_indexAddr1 El29 rfl rfl rfl ?hx ?_; case hx => (constructor <;> first | omega | (simp; omega)))
    refine s_load Tryz.isAgg39 rfl rfl (hs.cell (k := 1) rfl (by rw [Nat.zero_add, Int.toNat_natCast]; exact hv)) ?_
    refine s_len rfl rfl (LN39 _ _ _ _) ?_
    refine s_gtr rfl rfl rfl ?_
    refine WL_nil ?_
    refine n_then ?_
    refine W_cond rfl (fun hc17 => ?_) (fun hc17 => ?_)
    · skip
      try simp only [decide_eq_true_eq, decide_eq_false_iff_not, gt_iff_lt] at hc17
      refine W_region ?_
      refine s_move rfl rfl ?_
      refine s_move rfl rfl ?_
      refine s_buildSlice rfl rfl (BS22_1 _) hs ?_; clear hs; intro b20 w hs
      refine s_appendM (M := [_, _, _, _]) (X := rblks rs) El22 rfl rfl rfl hO hs (hs.sl (k := 0) (ds := [_]) rfl (Nat.le_refl _) (by intro j u hj; rw [Nat.zero_add]; exact hj)) rfl (by simp [Value.oneCell']) (by omega) ?_
      clear hs; intro v' w Lv' hO' hs
      simp only [List.cons_append, List.nil_append] at hs
      replace hs := hs.tail
      refine s_assign rfl rfl ?_
      refine WL_nil ?_
      refine n_blk ?_
      refine n_then ?_
      refine W_region ?_
      refine s_move rfl rfl ?_
      first | (refine s_add' rfl rfl rfl ?hx ?_; case hx => (constructor <;> first | omega | (simp only; omega))) | refine s_add rfl rfl rfl ?_
      refine s_assign rfl rfl ?_
      refine WL_nil ?_
      refine n_loop ?_
      first
        | (have hne : D.c (k : Int) ≠ [] := fun h => by rw [h] at hc17; simp at hc17
           rw [if_neg hne] at hsn
           refine ⟨⟨k + 1, v', Lv'⟩, ⟨rfl, rfl, rfl, trivial⟩, ⟨hs, by simp only; omega, ?_⟩, by simp only; omega⟩
           simp only
           rw [hsn, List.length_append, i64s, List.map_append]; exact hO')
        | (have hne : D.c (k : Int) = [] := List.eq_nil_of_length_eq_zero (by omega)
           rw [if_pos hne, List.append_nil] at hsn
           refine ⟨⟨k + 1, v, Lv⟩, ⟨rfl, rfl, rfl, trivial⟩, ⟨hs, by simp only; omega, ?_⟩, by simp only; omega⟩
           simp only
           rw [hsn]; exact hO)
    · skip
      try simp only [decide_eq_true_eq, decide_eq_false_iff_not, gt_iff_lt] at hc17
      refine W_skip ?_
      refine n_blk ?_
      refine n_then ?_
      refine W_region ?_
      refine s_move rfl rfl ?_
      first | (refine s_add' rfl rfl rfl ?hx ?_; case hx => (constructor <;> first | omega | (simp only; omega))) | refine s_add rfl rfl rfl ?_
      refine s_assign rfl rfl ?_
      refine WL_nil ?_
      refine n_loop ?_
      first
        | (have hne : D.c (k : Int) ≠ [] := fun h => by rw [h] at hc17; simp at hc17
           rw [if_neg hne] at hsn
           refine ⟨⟨k + 1, v', Lv'⟩, ⟨rfl, rfl, rfl, trivial⟩, ⟨hs, by simp only; omega, ?_⟩, by simp only; omega⟩
           simp only
           rw [hsn, List.length_append, i64s, List.map_append]; exact hO')
        | (have hne : D.c (k : Int) = [] := List.eq_nil_of_length_eq_zero (by omega)
           rw [if_pos hne, List.append_nil] at hsn
           refine ⟨⟨k + 1, v, Lv⟩, ⟨rfl, rfl, rfl, trivial⟩, ⟨hs, by simp only; omega, ?_⟩, by simp only; omega⟩
           simp only
           rw [hsn]; exact hO)
  · skip
    try simp only [decide_eq_true_eq, decide_eq_false_iff_not, gt_iff_lt] at hc6
    refine W_exit ?_
    refine x_then ?_
    refine x_then ?_
    refine exit_hit ?_
    refine n_then ?_
    refine W_seq ?_
    refine W_region ?_
    refine s_move rfl rfl ?_
    refine s_assign rfl rfl ?_
    refine WL_nil ?_
    refine n_then ?_
    refine W_ret ?_
    have hk64 : k = 64 := by omega
    subst hk64
    refine end1 rfl rfl ⟨Lv ++ L0, ?_, Lv, rfl, ?_⟩
    · exact (congrArg (fun x => St (ids L0) w0 w (Lv ++ x)) hL).mpr (St.pull (M := [_, _, _]) hs)
    · rw [← hfk] at hO; exact hO
theorem step_noplan (D : Dk) (h : dkOk D) (hp : D.plan < 0) : D.step = (D, false) := by
  obtain ⟨room, off, armed, left, c, d⟩ := D
  have h2 := h.2
  cases armed with
  | false => simp [Dk.step]
  | true => simp only [Dk.plan, if_true] at hp; have := h2 rfl; simp only at this; omega
theorem step_plan (D : Dk) (h : dkOk D) (hp : 0 ≤ D.plan) (hoff : D.off = false) : D.step.1.plan = D.plan - 1 ∧ D.step.1.off = decide (D.plan = 0) ∧ D.step.1.room = D.room ∧ D.step.2 = decide (D.plan = 0) := by
  obtain ⟨room, off, armed, left, c, d⟩ := D
  have h2 := h.2
  simp only at h2 hoff
  subst hoff
  cases armed with
  | false => simp [Dk.plan] at hp
  | true =>
    have h3 := h2 rfl
    by_cases hl : 0 < left
    · have : ¬ left = 0 := by omega
      simp [Dk.step, Dk.plan, hl, this]
    · have : left = 0 := by omega
      subst this; simp [Dk.step, Dk.plan]
theorem arm_plan (D : Dk) (n : Int) (hoff : D.off = false) : (if n < -1 then (-1 : Int) else n) = (D.arm n).plan := by
  have h1 : D.arm n = { D with armed := decide (0 ≤ n), left := n } := by unfold Dk.arm; rw [if_neg (by simp [hoff])]
  rw [h1]
  by_cases h : 0 ≤ n
  · have : ¬ n < -1 := by omega
    simp [Dk.plan, h, this]
  · simp only [Dk.plan, h]
    simp; omega
theorem rstep_ok (p gB gF : Nat) (D : Dk) (w0 : World) (hK : dkOk D) (hoff : D.off = false) (hs : St (ids [(p, Blk 50 (rdCells D gB gF))]) w0 w0 [(p, Blk 50 (rdCells D gB gF))]) :
    Ret Tryz.prog 46 [.pointer (some ⟨p, 0, none⟩)].toArray w0 fun r w' => ∃ L', St (ids [(p, Blk 50 (rdCells D gB gF))]) w0 w' L' ∧ L' = [(p, Blk 50 (rdCells D.step.1 gB gF))] ∧ r = .bool D.step.2 := by
  have hpl : D.plan ≤ 9223372036854775807 ∧ -1 ≤ D.plan := by
    unfold Dk.plan; split
    · rename_i h; have := hK.2 h; omega
    · omega
  have hfe := step_plan D hK
  have hf0 := step_noplan D hK
  have hfails : ∀ w, 0 ≤ D.plan → St (ids [(p, Blk 50 (rdCells D gB gF))]) w0 w [(p, Blk 50 (rdCells D gB gF))] → Ret Tryz.prog 66 [.pointer (some ⟨p, 0, none⟩)].toArray w fun r w' => ∃ L', St (ids [(p, Blk 50 (rdCells D gB gF))]) w0 w' L' ∧ L' = [(p, Blk 50 (rdCells D.step.1 gB gF))] ∧ r = .bool D.step.2 := by
    intro w hp hs
    unfold rdCells at hs ⊢
    refine Ret_of Tryz.func66 rfl Tryz.ntmps66 rfl ?_
    refine W_seq ?_
    refine W_region ?_
    refine s_assign rfl rfl ?_
    refine WL_nil ?_
    refine n_then ?_
    refine W_seq ?_
    refine W_region ?_
    refine s_move rfl rfl ?_
    refine s_move rfl rfl ?_
    refine s_nilCheck rfl rfl ?_
    refine s_fieldAddr rfl rfl (FA50_4 _ _) ?_
    first
      | refine s_load Tryz.isAgg3 rfl rfl (hs.cell (k := 0) rfl rfl) ?_
    first | (refine s_sub' rfl rfl rfl ?hx ?_; case hx => (constructor <;> first | omega | (simp only; omega))) | refine s_sub rfl rfl rfl ?_
    refine s_max rfl rfl rfl ?_
    rw [show (if D.plan - 1 < -2 then (-2 : Int) else D.plan - 1) = D.plan - 1 by split <;> omega]
    refine s_nilCheck rfl rfl ?_
    refine s_fieldAddr rfl rfl (FA50_4 _ _) ?_
    first
      | refine s_storeB Tryz.sizeOf3 rfl rfl rfl hs (kk := 0) rfl rfl ?_
    clear hs; intro w hs; try simp only [List.set_cons_zero, List.set_cons_succ, splice, List.take_succ_cons, List.take_zero, List.drop_succ_cons, List.drop_zero, List.nil_append, List.cons_append, List.length_cons, List.length_nil, Nat.reduceAdd, List.append_assoc] at hs
    refine WL_nil ?_
    refine n_then ?_
    refine W_seq ?_
    refine W_seq ?_
    refine W_region ?_
    refine s_move rfl rfl ?_
    refine s_nilCheck rfl rfl ?_
    refine s_fieldAddr rfl rfl (FA50_4 _ _) ?_
    first
      | refine s_load Tryz.isAgg3 rfl rfl (hs.cell (k := 0) rfl rfl) ?_
    refine s_eql rfl rfl rfl ?_
    refine WL_nil ?_
    refine n_then ?_
    refine W_cond rfl (fun hc16 => ?_) (fun hc16 => ?_)
    · skip
      try simp only [beq_iff_eq, beq_eq_false_iff_ne, ne_eq] at hc16
      refine W_region ?_
      refine s_move rfl rfl ?_
      refine s_nilCheck rfl rfl ?_
      refine s_fieldAddr rfl rfl (FA50_3 _ _) ?_
      first
        | refine s_storeB Tryz.sizeOf4 rfl rfl rfl hs (kk := 0) rfl rfl ?_
      clear hs; intro w hs; try simp only [List.set_cons_zero, List.set_cons_succ, splice, List.take_succ_cons, List.take_zero, List.drop_succ_cons, List.drop_zero, List.nil_append, List.cons_append, List.length_cons, List.length_nil, Nat.reduceAdd, List.append_assoc] at hs
      refine WL_nil ?_
      refine n_then ?_
      refine W_seq ?_
      refine W_region ?_
      refine s_move rfl rfl ?_
      refine s_nilCheck rfl rfl ?_
      refine s_fieldAddr rfl rfl (FA50_3 _ _) ?_
      first
        | refine s_load Tryz.isAgg4 rfl rfl (hs.cell (k := 0) rfl rfl) ?_
      refine s_assign rfl rfl ?_
      refine WL_nil ?_
      refine n_then ?_
      refine W_ret ?_
      obtain ⟨h1, h2, h3, h4⟩ := hfe hp hoff
      rw [h1, h2, h3, h4]
      first
        | (have h0 : D.plan = 0 := by omega
           rw [decide_eq_true h0]
           exact end1 rfl rfl ⟨_, hs, rfl, rfl⟩)
        | (have h0 : ¬ D.plan = 0 := by omega
           rw [decide_eq_false h0, ← hoff]
           exact end1 rfl rfl ⟨_, hs, rfl, rfl⟩)
    · skip
      try simp only [beq_iff_eq, beq_eq_false_iff_ne, ne_eq] at hc16
      refine W_skip ?_
      refine n_then ?_
      refine W_seq ?_
      refine W_region ?_
      refine s_move rfl rfl ?_
      refine s_nilCheck rfl rfl ?_
      refine s_fieldAddr rfl rfl (FA50_3 _ _) ?_
      first
        | refine s_load Tryz.isAgg4 rfl rfl (hs.cell (k := 0) rfl rfl) ?_
      refine s_assign rfl rfl ?_
      refine WL_nil ?_
      refine n_then ?_
      refine W_ret ?_
      obtain ⟨h1, h2, h3, h4⟩ := hfe hp hoff
      rw [h1, h2, h3, h4]
      first
        | (have h0 : D.plan = 0 := by omega
           rw [decide_eq_true h0]
           exact end1 rfl rfl ⟨_, hs, rfl, rfl⟩)
        | (have h0 : ¬ D.plan = 0 := by omega
           rw [decide_eq_false h0, ← hoff]
           exact end1 rfl rfl ⟨_, hs, rfl, rfl⟩)
  refine Ret_startL hs fun w hs => ?_
  unfold rdCells at hs
  refine Ret_of Tryz.func46 rfl Tryz.ntmps46 rfl ?_
  refine W_seq ?_
  refine W_region ?_
  refine s_assign rfl rfl ?_
  refine WL_nil ?_
  refine n_then ?_
  refine W_seq ?_
  refine W_seq ?_
  refine W_region ?_
  refine s_move rfl rfl ?_
  refine s_nilCheck rfl rfl ?_
  refine s_fieldAddr rfl rfl (FA50_4 _ _) ?_
  first
    | refine s_load Tryz.isAgg3 rfl rfl (hs.cell (k := 0) rfl rfl) ?_
  refine s_lss rfl rfl rfl ?_
  refine WL_nil ?_
  refine n_then ?_
  refine W_cond rfl (fun hc7 => ?_) (fun hc7 => ?_)
  · skip
    try simp only [decide_eq_true_eq, decide_eq_false_iff_not, gt_iff_lt] at hc7
    refine W_seq ?_
    refine W_region ?_
    refine s_assign rfl rfl ?_
    refine WL_nil ?_
    refine n_then ?_
    refine W_ret ?_
    refine r_then ?_
    first
      | (rw [hf0 (by assumption)]; exact end1 rfl rfl ⟨_, hs, rfl, rfl⟩)
      | exact end1 rfl rfl ⟨_, hs, rfl, rfl⟩
  · skip
    try simp only [decide_eq_true_eq, decide_eq_false_iff_not, gt_iff_lt] at hc7
    refine W_skip ?_
    refine n_then ?_
    refine W_seq ?_
    refine W_region ?_
    refine s_move rfl rfl ?_
    refine s_call Tryz.call66 rfl rfl (hfails w (by omega) hs) ?_
    rintro v w ⟨L', hs, rfl, rfl⟩
    refine s_assign rfl rfl ?_
    refine WL_nil ?_
    refine n_then ?_
    refine W_ret ?_
    first
      | (rw [hf0 (by assumption)]; exact end1 rfl rfl ⟨_, hs, rfl, rfl⟩)
      | exact end1 rfl rfl ⟨_, hs, rfl, rfl⟩
theorem rArm_ok (p : Nat) (D : Dk) (n : Int) (L0 : Hp) (w0 : World) (hD : RefAt p D L0) (hn : isI64 n) (hs : St (ids L0) w0 w0 L0) :
    Ret Tryz.prog 10 [.pointer (some ⟨p, 0, none⟩), .int .i64 n].toArray w0 fun r w' => ∃ L', St (ids L0) w0 w' L' ∧ RefAt p (D.arm n) L' := by
  obtain ⟨gB, gF, rs, hL, hR, hK⟩ := hD
  unfold isI64 at hn
  replace hs : St (ids L0) w0 w0 ((p, Blk 50 (rdCells D gB gF)) :: (gB, Blk 39 (rvs rs)) :: (gF, Blk 3 (rds rs)) :: rblks rs) := by rw [hL] at hs ⊢; exact hs
  unfold rdCells at hs
  refine Ret_startL hs fun w hs => ?_
  refine Ret_of Tryz.func10 rfl Tryz.ntmps10 rfl ?_
  refine W_seq ?_
  refine W_region ?_
  refine s_move rfl rfl ?_
  refine s_nilCheck rfl rfl ?_
  refine s_fieldAddr rfl rfl (FA50_3 _ _) ?_
  first
    | refine s_load Tryz.isAgg4 rfl rfl (hs.cell (k := 0) rfl rfl) ?_
  refine s_not rfl rfl ?_
  refine WL_nil ?_
  refine n_then ?_
  refine W_cond rfl (fun hc8 => ?_) (fun hc8 => ?_)
  · skip
    try simp only [Bool.not_eq_true', Bool.not_eq_false'] at hc8
    refine W_region ?_
    refine s_move rfl rfl ?_
    refine s_move rfl rfl ?_
    refine s_max rfl rfl rfl ?_
    rw [arm_plan D n hc8]
    refine s_nilCheck rfl rfl ?_
    refine s_fieldAddr rfl rfl (FA50_4 _ _) ?_
    first
      | refine s_storeB Tryz.sizeOf3 rfl rfl rfl hs (kk := 0) rfl rfl ?_
    clear hs; intro w hs; try simp only [List.set_cons_zero, List.set_cons_succ, splice, List.take_succ_cons, List.take_zero, List.drop_succ_cons, List.drop_zero, List.nil_append, List.cons_append, List.length_cons, List.length_nil, Nat.reduceAdd, List.append_assoc] at hs
    refine WL_nil ?_
    first
      | (have hoff : D.off = false := by assumption
         refine end0' rfl ⟨_, hs, gB, gF, rs, ?_, ?_, ?_⟩
         · rw [rdCells]
           have h1 : (D.arm n).room = D.room ∧ (D.arm n).off = D.off := by rw [Dk.arm, if_neg (by simp [hoff])]; exact ⟨rfl, rfl⟩
           rw [h1.1, h1.2]
         · rw [Dk.arm, if_neg (by simp [hoff])]; exact hR.of rfl rfl
         · rw [Dk.arm, if_neg (by simp [hoff])]; exact ⟨hK.1, fun h => by simp only [decide_eq_true_eq] at h; simp only; omega⟩)
      | (refine end0' rfl ⟨_, hs, ?_⟩
         rw [Dk.arm, if_pos (by assumption)]; exact ⟨gB, gF, rs, rfl, hR, hK⟩)
  · skip
    try simp only [Bool.not_eq_true', Bool.not_eq_false'] at hc8
    refine W_skip ?_
    first
      | (have hoff : D.off = false := by assumption
         refine end0' rfl ⟨_, hs, gB, gF, rs, ?_, ?_, ?_⟩
         · rw [rdCells]
           have h1 : (D.arm n).room = D.room ∧ (D.arm n).off = D.off := by rw [Dk.arm, if_neg (by simp [hoff])]; exact ⟨rfl, rfl⟩
           rw [h1.1, h1.2]
         · rw [Dk.arm, if_neg (by simp [hoff])]; exact hR.of rfl rfl
         · rw [Dk.arm, if_neg (by simp [hoff])]; exact ⟨hK.1, fun h => by simp only [decide_eq_true_eq] at h; simp only; omega⟩)
      | (refine end0' rfl ⟨_, hs, ?_⟩
         rw [Dk.arm, if_pos (by assumption)]; exact ⟨gB, gF, rs, rfl, hR, hK⟩)
end Go.Proofs.YtkappdlbpilghaaGreat
