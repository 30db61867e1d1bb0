/- A replica: acknowledge. -/
import Derived.Test.YtkobigdfijeajaaRpK
set_option linter.unusedVariables false
set_option linter.unusedSimpArgs false
namespace Go.Proofs.Ytkobigdfijeajaa
open Go.SL
def Rp.cnt (R : Rp) (n : Nat) : Nat := ((List.range R.mem).filter fun j => decide (j ≠ R.id ∧ n ≤ R.acks j)).length
def Rp.best (R : Rp) : Nat → Option Nat
  | 0 => none
  | k + 1 => if R.n < k + 1 then (if R.mem < 2 * (1 + R.cnt (k + 1)) then some (k + 1) else R.best k) else none
def Rp.acked (R : Rp) (m : Mg) (frm : Nat) : Rp := { R with acks := fun j => if j = frm then max (R.acks frm) m.ents else R.acks j }
def Rp.atN (R : Rp) : Option Nat → Rp
  | none => R
  | some n => { R with n := n }
def Rp.ack (R : Rp) (m : Mg) (frm : Nat) : Rp × List Ms :=
  if R.role ≠ 2 ∨ m.term ≠ R.term then (R, [])
  else match (R.acked m frm).best R.log.length with
    | none => (R.acked m frm, [])
    | some n => ({ R.acked m frm with n := n }, Rp.others { R.acked m frm with n := n } (Rp.spreadM { R.acked m frm with n := n }))
theorem Rp.best_le (R : Rp) : ∀ {k n : Nat}, R.best k = some n → R.n < n ∧ n ≤ k
  | k + 1, n, h => by
    rw [Rp.best] at h
    split at h
    · split at h
      · cases h; omega
      · have := R.best_le h; omega
    · cases h
theorem Rp.best_stop {R : Rp} {k : Nat} (h : ¬ R.n < k) : R.best k = none := by
  cases k with
  | zero => rfl
  | succ k => rw [Rp.best, if_neg h]
theorem acks_look {R : Rp} {kvs : KVs} (h : AcksOk R kvs) (j : Nat) : (lookI (j : Int) kvs).getD (.int .i64 0) = .int .i64 (R.acks j : Int) := by
  cases hq : lookI (j : Int) kvs with
  | none => rw [h.none j hq]; rfl
  | some v =>
    obtain ⟨i, h1, _, _, h2⟩ := h.mem _ _ (lookI_mem hq)
    have : j = i := by omega
    rw [this]; exact h2
theorem acks_upd {R : Rp} {kvs : KVs} {o : Obj} (h : AcksOk R kvs) {m : Mg} {frm : Nat} (hM : MapI o (updI (frm : Int) (.int .i64 ((max (R.acks frm) m.ents : Nat) : Int)) kvs)) (hf : frm < R.mem) (hi : frm ≠ R.id) : AcksOk (R.acked m frm) (updI (frm : Int) (.int .i64 ((max (R.acks frm) m.ents : Nat) : Int)) kvs) := by
  refine ⟨fun k v hkv => ?_, fun j hj => ?_⟩
  · have h1 := lookI_of_mem hM.keys hkv
    rw [lookI_upd] at h1
    by_cases hk : k = (frm : Int)
    · rw [if_pos hk] at h1
      cases h1
      exact ⟨frm, hk, hf, hi, by simp [Rp.acked]⟩
    · rw [if_neg hk] at h1
      obtain ⟨j, h2, h3, h4, h5⟩ := h.mem _ _ (lookI_mem h1)
      refine ⟨j, h2, h3, h4, ?_⟩
      have : j ≠ frm := fun e => hk (by rw [h2, e])
      simp only [Rp.acked, if_neg this]; exact h5
  · rw [lookI_upd] at hj
    by_cases hk : (j : Int) = (frm : Int)
    · rw [if_pos hk] at hj; cases hj
    · rw [if_neg hk] at hj
      have : j ≠ frm := fun e => hk (by rw [e])
      simp only [Rp.acked, if_neg this]; exact h.none j hj
def geN (n : Nat) (e : Int × Value) : Bool := match e.2 with
  | .int _ v => decide ((n : Int) ≤ v)
  | _ => false
theorem cnt_eq {R : Rp} {kvs : KVs} (h : AcksOk R kvs) (hn : (kvs.map Prod.fst).Nodup) {n : Nat} (h0 : 0 < n) : kvs.countP (geN n) = R.cnt n := by
  rw [List.countP_eq_length_filter, Rp.cnt, ← List.length_map (f := Prod.fst), ← List.length_map (f := fun j : Nat => (j : Int))]
  apply List.Perm.length_eq
  have h1 : ((kvs.filter (geN n)).map Prod.fst).Nodup := ((List.filter_sublist (p := geN n) (l := kvs)).map _).nodup hn
  have h2 : (((List.range R.mem).filter fun j => decide (j ≠ R.id ∧ n ≤ R.acks j)).map (fun j : Nat => (j : Int))).Nodup := by
    have : ((List.range R.mem).filter fun j => decide (j ≠ R.id ∧ n ≤ R.acks j)).Nodup := List.nodup_range.sublist List.filter_sublist
    exact List.Pairwise.map _ (fun a b hab h => hab (by omega)) this
  refine (List.perm_ext_iff_of_nodup h1 h2).2 fun k => ?_
  simp only [List.mem_map, List.mem_filter, List.mem_range, decide_eq_true_eq]
  constructor
  · rintro ⟨⟨k', v⟩, ⟨hkv, hg⟩, rfl⟩
    obtain ⟨j, h3, h4, h5, h6⟩ := h.mem _ _ hkv
    simp only [h6, geN, decide_eq_true_eq] at hg
    exact ⟨j, ⟨h4, h5, by omega⟩, h3.symm⟩
  · rintro ⟨j, ⟨h3, h4, h5⟩, rfl⟩
    cases hq : lookI (j : Int) kvs with
    | none => have := h.none j hq; omega
    | some v =>
      have h6 := lookI_mem hq
      obtain ⟨i, h7, _, _, h8⟩ := h.mem _ _ h6
      have : j = i := by omega
      refine ⟨_, ⟨h6, ?_⟩, rfl⟩
      simp only [h8, geN, decide_eq_true_eq, ← this]; omega
theorem cnt_le (R : Rp) (n : Nat) : R.cnt n ≤ R.mem := by
  have := List.length_filter_le (fun j => decide (j ≠ R.id ∧ n ≤ R.acks j)) (List.range R.mem)
  rw [List.length_range] at this; exact this
theorem pick_perm {k : Int} {v : Value} : ∀ {t : KVs}, (t.map Prod.fst).Nodup → (k, v) ∈ t → t.Perm ((k, v) :: t.filter fun e => !decide (e.1 = k))
  | e :: r, hn, h => by
    rw [List.map_cons, List.nodup_cons] at hn
    rcases List.mem_cons.1 h with h1 | h1
    · rw [← h1] at hn ⊢
      have : r.filter (fun e => !decide (e.1 = k)) = r := List.filter_eq_self.2 fun x hx => by
        have : x.1 ≠ k := fun hk => hn.1 (by show k ∈ r.map Prod.fst; rw [← hk]; exact List.mem_map_of_mem (f := Prod.fst) hx)
        simp [this]
      rw [List.filter_cons_of_neg (by simp), this]
    · have : e.1 ≠ k := fun hk => hn.1 (by rw [hk]; exact List.mem_map_of_mem (f := Prod.fst) h1)
      rw [List.filter_cons_of_pos (by simp [this])]
      exact ((pick_perm hn.2 h1).cons e).trans (List.Perm.swap _ _ _)
theorem Rp.ok.atN {R : Rp} (h : R.ok) {n : Nat} (hn : n ≤ R.log.length) : Rp.ok { R with n := n } := { h with n := hn }
structure AkS where
  n : Nat
structure AiS where
  c : Nat
  todo : KVs
  it : Obj
set_option maxHeartbeats 4000000 in
theorem ack_ok (p : Nat) (R : Rp) (L0 : Hp) (m : Mg) (frm : Nat) (lv' : Value) (es' : List Em) (LB' LP' L1 : Hp) (w0 : World) (hR : RepAt p R L0) (hlog' : LogAt m.log lv' es' LB' LP') (hm : m.ok) (hfm : frm < R.mem) (hfi : frm ≠ R.id) (hL1 : L1 = L0 ++ (LB' ++ LP')) (hs : St (ids L1) w0 w0 L1) :
    Ret Try.prog 51 [.pointer (some ⟨p, 0, none⟩), .agg (mesCells m frm lv').toArray].toArray w0 fun r w' => ∃ L', St (ids L1) w0 w' L' ∧ ∃ Lr LQ, L' = LQ ++ Lr ∧ RepAt p (R.ack m frm).1 LQ ∧ MsAt r (R.ack m frm).2 Lr := by
  have hR0 := hR
  obtain ⟨lv, vv, av, es, LB, LP, LV, LA, hL, hlog, hvo, hac, hav, hok⟩ := hR
  obtain ⟨la, lc, rfl, -⟩ := hlog.form
  obtain ⟨vx, rfl⟩ := hvo.val
  obtain ⟨ax, rfl⟩ := hav
  obtain ⟨la', lc', rfl, hel'⟩ := hlog'.form
  have hm0 := hm
  have hm3 := hok.m3
  have hln := hok.log
  obtain ⟨m1, m2, m3, m4, m5, m6, m7⟩ := hm
  revert hs
  generalize ids L1 = F
  rw [hL1, hL]
  intro hs
  unfold rpCells at hs
  refine Ret_startL hs fun w hs => ?_
  refine Ret_of Try.func51 rfl Try.ntmps51 rfl ?_
  refine W_seq ?_
  refine W_region ?_
  first | refine s_box rfl rfl hs ?_
  clear hs; intro b3 w hs
  refine s_assign rfl rfl ?_
  refine WL_nil ?_
  refine n_then ?_
  refine W_seq ?_
  refine W_seq ?_
  refine W_draw [(0, true, []), (1, true, []), (2, true, []), (3, true, []), (4, true, []), (5, true, []), (6, true, []), (7, true, []), (8, true, []), (9, true, []), (10, true, []), (11, true, []), (12, true, []), (13, true, [])] [[], [0], [0, 1], [0, 1, 2], [0, 1, 2, 3], [0, 1, 2, 3, 4], [0, 1, 2, 3, 4, 5], [0, 1, 2, 3, 4, 5, 6], [0, 1, 2, 3, 4, 5], [0, 1, 2, 3, 4, 5, 8], [0, 1, 2, 3, 4, 5, 8, 9], [0, 1, 2, 3, 4, 5, 8, 9, 10], [0, 1, 2, 3, 4, 5, 6, 7, 8, 9, 10, 11], [0, 1, 2, 3, 4, 5, 6, 7, 8, 9, 10, 11, 12]] MX (by kernel_rfl) ?_
  intro w1 hw1 hw2 hw3 hw4; replace hs := hs.redrawn hw1 hw2 hw3 hw4; clear hw1 hw2 hw3 hw4
  obtain ⟨w, rfl⟩ : ∃ w : World, w = w1 := ⟨_, rfl⟩
  refine D_q rfl rfl ?_
  refine s_move rfl rfl ?_
  refine D_qn ?_
  refine D_q rfl rfl ?_
  refine s_nilCheck rfl rfl ?_
  refine D_qn ?_
  refine D_q rfl rfl ?_
  refine s_fieldAddr rfl rfl (FA89_4 _ _) ?_
  refine D_qn ?_
  refine D_q rfl rfl ?_
  first
    | refine s_load Try.isAgg3 rfl rfl (hs.cell (k := 1) rfl rfl) ?_
  refine D_qn ?_
  refine D_q rfl rfl ?_
  refine s_neq rfl rfl rfl ?_
  refine D_qn ?_
  refine D_q rfl rfl ?_
  refine s_move rfl rfl ?_
  refine WL_case (s := 14) rfl (fun hg14 => ?_) (fun hg14 => ?_)
  · skip
    try simp only [decide_eq_true_eq, decide_eq_false_iff_not, gt_iff_lt, ge_iff_le, beq_iff_eq, beq_eq_false_iff_ne, ne_eq, bne_iff_ne, bne_eq_false_iff_eq, Bool.not_eq_true', Bool.not_eq_false', Bool.not_eq_true, Bool.not_eq_false, Decidable.not_not] at hg14
    refine D_qn ?_
    refine D_q rfl rfl ?_
    refine WL_skip rfl rfl rfl ?_
    refine D_qn ?_
    refine D_q rfl rfl ?_
    refine WL_skip rfl rfl rfl ?_
    refine D_qn ?_
    refine D_q rfl rfl ?_
    refine WL_skip rfl rfl rfl ?_
    refine D_qn ?_
    refine D_q rfl rfl ?_
    refine WL_skip rfl rfl rfl ?_
    refine D_qn ?_
    refine D_q rfl rfl ?_
    refine WL_skip rfl rfl rfl ?_
    refine D_qn ?_
    refine D_q rfl rfl ?_
    refine WL_skip rfl rfl rfl ?_
    refine D_qn ?_
    refine D_q rfl rfl ?_
    refine WL_skip rfl rfl rfl ?_
    refine D_qn ?_
    refine D_q rfl rfl ?_
    refine s_pick_t rfl rfl rfl ?_
    refine D_qn ?_
    refine D_nil ?_
    refine n_then ?_
    refine W_cond_t rfl ?_
    refine W_seq ?_
    refine W_region ?_
    refine s_assign rfl rfl ?_
    refine WL_nil ?_
    refine n_then ?_
    refine W_ret ?_
    refine r_then ?_
    first
      | (have hv : R.ack m frm = (R, []) := by rw [Rp.ack, if_pos (by omega)]
         rw [hv]
         refine end1 rfl rfl ⟨L0 ++ [], ?_, [], L0, rfl, hR0, MsAt.nil⟩
         rw [hL]
         simpa [cat, rpCells] using St.reord [[_], [_], LB, LP, LV, LA, LB', LP'] [1, 2, 3, 4, 5] [0, 6, 7] (by simpa [cat, rpCells, mesCells] using hs) rfl)
  · skip
    try simp only [decide_eq_true_eq, decide_eq_false_iff_not, gt_iff_lt, ge_iff_le, beq_iff_eq, beq_eq_false_iff_ne, ne_eq, bne_iff_ne, bne_eq_false_iff_eq, Bool.not_eq_true', Bool.not_eq_false', Bool.not_eq_true, Bool.not_eq_false, Decidable.not_not] at hg14
    refine D_qn ?_
    refine D_q rfl rfl ?_
    refine WL_take rfl ?_
    refine s_fieldAddr rfl rfl (FA94_2 _ _) ?_
    refine D_qn ?_
    refine D_q rfl rfl ?_
    refine WL_take rfl ?_
    first
      | refine s_load Try.isAgg3 rfl rfl (hs.cell (k := 0) rfl rfl) ?_
    refine D_qn ?_
    refine D_q rfl rfl ?_
    refine WL_take rfl ?_
    refine s_move rfl rfl ?_
    refine D_qn ?_
    refine D_q rfl rfl ?_
    refine WL_take rfl ?_
    refine s_nilCheck rfl rfl ?_
    refine D_qn ?_
    refine D_q rfl rfl ?_
    refine WL_take rfl ?_
    refine s_fieldAddr rfl rfl (FA89_2 _ _) ?_
    refine D_qn ?_
    refine D_q rfl rfl ?_
    refine WL_take rfl ?_
    first
      | refine s_load Try.isAgg3 rfl rfl (hs.cell (k := 1) rfl rfl) ?_
    refine D_qn ?_
    refine D_q rfl rfl ?_
    refine WL_take rfl ?_
    refine s_neq rfl rfl rfl ?_
    refine D_qn ?_
    refine D_q rfl rfl ?_
    refine s_pick_f rfl rfl rfl ?_
    refine D_qn ?_
    refine D_nil ?_
    refine n_then ?_
    refine W_cond rfl (fun hc22 => ?_) (fun hc22 => ?_)
    · skip
      try simp only [decide_eq_true_eq, decide_eq_false_iff_not, gt_iff_lt, ge_iff_le, beq_iff_eq, beq_eq_false_iff_ne, ne_eq, bne_iff_ne, bne_eq_false_iff_eq, Bool.not_eq_true', Bool.not_eq_false', Bool.not_eq_true, Bool.not_eq_false, Decidable.not_not] at hc22
      refine W_seq ?_
      refine W_region ?_
      refine s_assign rfl rfl ?_
      refine WL_nil ?_
      refine n_then ?_
      refine W_ret ?_
      refine r_then ?_
      first
        | (have hv : R.ack m frm = (R, []) := by rw [Rp.ack, if_pos (by omega)]
           rw [hv]
           refine end1 rfl rfl ⟨L0 ++ [], ?_, [], L0, rfl, hR0, MsAt.nil⟩
           rw [hL]
           simpa [cat, rpCells] using St.reord [[_], [_], LB, LP, LV, LA, LB', LP'] [1, 2, 3, 4, 5] [0, 6, 7] (by simpa [cat, rpCells, mesCells] using hs) rfl)
    · skip
      try simp only [decide_eq_true_eq, decide_eq_false_iff_not, gt_iff_lt, ge_iff_le, beq_iff_eq, beq_eq_false_iff_ne, ne_eq, bne_iff_ne, bne_eq_false_iff_eq, Bool.not_eq_true', Bool.not_eq_false', Bool.not_eq_true, Bool.not_eq_false, Decidable.not_not] at hc22
      have hr2 : R.role = 2 := by omega
      obtain ⟨ab, ao, akv, hax, hLA, hAM, hAO⟩ := hac hr2
      cases hax
      subst hLA
      have hlk := acks_look hAO frm
      replace hs : St F w0 w ((ab, ao) :: (b3, Blk 94 (mesCells m frm (.slice la' m.log.length lc'))) :: (p, Blk 89 (rpCells R (.slice la R.log.length lc) (.map vx) (.map (some ab)))) :: (LB ++ (LP ++ LV))) := by
        simpa [cat, rpCells, mesCells] using St.reord [[_], [_], LB, LP, LV, [_], LB', LP'] [5, 0, 1, 2, 3, 4] [6, 7] (by simpa [cat, rpCells, mesCells] using hs) rfl
      unfold rpCells mesCells at hs
      refine W_skip ?_
      refine n_then ?_
      refine W_seq ?_
      refine W_draw [(0, true, []), (1, true, []), (2, true, []), (3, true, []), (4, true, []), (5, true, []), (6, true, []), (7, true, []), (8, true, []), (9, true, []), (10, true, []), (11, true, []), (12, true, []), (13, true, []), (14, true, []), (15, true, []), (16, false, [])] [[], [0], [0, 1], [0, 1, 2], [], [4], [], [6], [6, 7], [6, 7, 8], [], [10], [6, 7, 8, 9, 10, 11], [], [13], [6, 7, 8, 9, 10, 11, 12, 13, 14], [0, 1, 2, 3, 4, 5, 6, 7, 8, 9, 10, 11, 12, 13, 14, 15]] MX (by kernel_rfl) ?_
      intro w1 hw1 hw2 hw3 hw4; replace hs := hs.redrawn hw1 hw2 hw3 hw4; clear hw1 hw2 hw3 hw4
      obtain ⟨w, rfl⟩ : ∃ w : World, w = w1 := ⟨_, rfl⟩
      refine D_q rfl rfl ?_
      refine s_move rfl rfl ?_
      refine D_qn ?_
      refine D_q rfl rfl ?_
      refine s_nilCheck rfl rfl ?_
      refine D_qn ?_
      refine D_q rfl rfl ?_
      refine s_fieldAddr rfl rfl (FA89_8 _ _) ?_
      refine D_qn ?_
      refine D_q rfl rfl ?_
      first
        | refine s_load Try.isAgg87 rfl rfl (hs.cell (k := 2) rfl rfl) ?_
      refine D_qn ?_
      refine D_q rfl rfl ?_
      refine s_fieldAddr rfl rfl (FA94_1 _ _) ?_
      refine D_qn ?_
      refine D_q rfl rfl ?_
      first
        | refine s_load Try.isAgg3 rfl rfl (hs.cell (k := 1) rfl rfl) ?_
      refine D_qn ?_
      refine D_q rfl rfl ?_
      refine s_move rfl rfl ?_
      refine D_qn ?_
      refine D_q rfl rfl ?_
      refine s_nilCheck rfl rfl ?_
      refine D_qn ?_
      refine D_q rfl rfl ?_
      refine s_fieldAddr rfl rfl (FA89_8 _ _) ?_
      refine D_qn ?_
      refine D_q rfl rfl ?_
      first
        | refine s_load Try.isAgg87 rfl rfl (hs.cell (k := 2) rfl rfl) ?_
      refine D_qn ?_
      refine D_q rfl rfl ?_
      refine s_fieldAddr rfl rfl (FA94_1 _ _) ?_
      refine D_qn ?_
      refine D_q rfl rfl ?_
      first
        | refine s_load Try.isAgg3 rfl rfl (hs.cell (k := 1) rfl rfl) ?_
      refine D_qn ?_
      refine D_q rfl rfl ?_
      refine s_lookupI Try.underlying87 Try.underlying3 ZV3 rfl rfl rfl hs (kk := 0) rfl hAM ?_
      rw [hlk]
      refine D_qn ?_
      refine D_q rfl rfl ?_
      refine s_fieldAddr rfl rfl (FA94_5 _ _) ?_
      refine D_qn ?_
      refine D_q rfl rfl ?_
      first
        | refine s_load Try.isAgg3 rfl rfl (hs.cell (k := 1) rfl rfl) ?_
      refine D_qn ?_
      refine D_q rfl rfl ?_
      refine s_max rfl rfl rfl ?_
      refine D_qn ?_
      refine D_e rfl ?_
      rw [show (if (R.acks frm : Int) < (m.ents : Int) then (m.ents : Int) else (R.acks frm : Int)) = ((max (R.acks frm) m.ents : Nat) : Int) from by split <;> omega]
      refine s_mapUpdateI Try.underlying87 Try.underlying3 rfl rfl rfl hs (kk := 0) rfl hAM ?_
      clear hs; intro w ao hAM' hs
      simp only [List.set_cons_zero] at hs
      have hAO' := acks_upd hAO hAM' hfm hfi
      clear hAO hlk hAM
      generalize updI (frm : Int) (.int .i64 ((max (R.acks frm) m.ents : Nat) : Int)) akv = kvs at hAM' hAO'
      have hans : R.ack m frm = match (R.acked m frm).best R.log.length with
        | none => (R.acked m frm, [])
        | some n => ({ R.acked m frm with n := n }, Rp.others { R.acked m frm with n := n } (Rp.spreadM { R.acked m frm with n := n })) := by rw [Rp.ack, if_neg (by omega)]
      rw [hans]
      clear hans
      obtain ⟨A, hA⟩ : ∃ A, A = R.acked m frm := ⟨_, rfl⟩
      rw [← hA] at hAO' ⊢
      have hAe : A.id = R.id ∧ A.mem = R.mem ∧ A.term = R.term ∧ A.lterm = R.lterm ∧ A.role = R.role ∧ A.log = R.log ∧ A.n = R.n := by rw [hA]; exact ⟨rfl, rfl, rfl, rfl, rfl, rfl, rfl⟩
      obtain ⟨a1, a2, a3, a4, a5, a6, a7⟩ := hAe
      have hAok : A.ok := by rw [hA]; exact { hok with }
      rw [← a1, ← a2, ← a3, ← a4, ← a5, ← a6, ← a7] at hs
      rw [← a6] at hlog
      rw [← a5] at hvo
      rw [← a6]
      have hcn := cnt_le A
      have hA1000 := hAok.log
      have hkn := hAM'.keys
      clear hA hR0 hL hac
      refine D_en ?re ?_
      case re =>
        exact Reks_nil
      refine D_nil ?_
      refine n_then ?_
      refine W_seq ?_
      refine W_seq ?_
      refine W_region ?_
      refine s_move rfl rfl ?_
      refine s_nilCheck rfl rfl ?_
      refine s_fieldAddr rfl rfl (FA89_5 _ _) ?_
      first
        | refine s_load Try.isAgg43 rfl rfl (hs.cell (k := 2) rfl rfl) ?_
      refine s_len rfl rfl (LN43 _ _ _ _) ?_
      refine s_assign rfl rfl ?_
      refine WL_nil ?_
      refine n_then ?_
      refine W_block ?_
      refine W_loop (σ := AkS) (fun s => [(0, .pointer (some ⟨p, 0, none⟩)), (3, .pointer (some ⟨b3, 0, none⟩)), (5, .int .i64 (s.n : Int))])
        (fun s w => St F w0 w ((ab, ao) :: (b3, Blk 94 (mesCells m frm (.slice la' m.log.length lc'))) :: (p, Blk 89 (rpCells A (.slice la A.log.length lc) (.map vx) (.map (some ab)))) :: (LB ++ (LP ++ LV))) ∧ s.n ≤ A.log.length ∧ A.best A.log.length = A.best s.n) (fun s => s.n) ⟨A.log.length⟩ ⟨rfl, rfl, rfl, trivial⟩ ⟨hs, Nat.le_refl _, rfl⟩ ?_
      clear hs
      rintro ⟨n⟩ w ⟨hs, hn, hb⟩
      simp only at hs hn hb ⊢
      unfold rpCells mesCells at hs
      refine W_seq ?_
      refine W_seq ?_
      refine W_region ?_
      refine s_move rfl rfl ?_
      refine s_move rfl rfl ?_
      refine s_nilCheck rfl rfl ?_
      refine s_fieldAddr rfl rfl (FA89_6 _ _) ?_
      first
        | refine s_load Try.isAgg3 rfl rfl (hs.cell (k := 2) rfl rfl) ?_
      refine s_gtr rfl rfl rfl ?_
      refine WL_nil ?_
      refine n_then ?_
      refine W_cond rfl (fun hc49 => ?_) (fun hc49 => ?_)
      · skip
        try simp only [decide_eq_true_eq, decide_eq_false_iff_not, gt_iff_lt, ge_iff_le, beq_iff_eq, beq_eq_false_iff_ne, ne_eq, bne_iff_ne, bne_eq_false_iff_eq, Bool.not_eq_true', Bool.not_eq_false', Bool.not_eq_true, Bool.not_eq_false, Decidable.not_not] at hc49
        have hnA : A.n < n := by omega
        have hce := cnt_eq hAO' hkn (n := n) (by omega)
        have hcl := hcn n
        have hbn : A.best n = if A.mem < 2 * (1 + A.cnt n) then some n else A.best (n - 1) := by
          obtain ⟨k, rfl⟩ : ∃ k, n = k + 1 := ⟨n - 1, by omega⟩
          rw [Rp.best, if_pos hnA]; rfl
        refine W_skip ?_
        refine n_then ?_
        refine W_seq ?_
        refine W_block ?_
        refine W_seq ?_
        refine W_region ?_
        refine s_assign rfl rfl ?_
        refine WL_nil ?_
        refine n_then ?_
        refine W_seq ?_
        refine W_seq ?_
        refine W_region ?_
        refine s_move rfl rfl ?_
        refine s_nilCheck rfl rfl ?_
        refine s_fieldAddr rfl rfl (FA89_8 _ _) ?_
        first
          | refine s_load Try.isAgg87 rfl rfl (hs.cell (k := 2) rfl rfl) ?_
        refine s_rangeI Try.underlying87 rfl rfl hs (kk := 0) rfl hAM' ?_
        clear hs; intro b56 it0 w hI0 hs
        refine WL_nil ?_
        refine n_then ?_
        refine W_block ?_
        refine W_loop (σ := AiS) (fun s => [(0, .pointer (some ⟨p, 0, none⟩)), (3, .pointer (some ⟨b3, 0, none⟩)), (5, .int .i64 (n : Int)), (6, .int .i64 (s.c : Int)), (56, .pointer (some ⟨b56, 0, none⟩))])
          (fun s w => St F w0 w ((b56, s.it) :: (ab, ao) :: (b3, Blk 94 (mesCells m frm (.slice la' m.log.length lc'))) :: (p, Blk 89 (rpCells A (.slice la A.log.length lc) (.map vx) (.map (some ab)))) :: (LB ++ (LP ++ LV))) ∧ ItI ab ao s.it s.todo ∧ (s.todo.map Prod.fst).Nodup ∧ (∀ e ∈ s.todo, e ∈ kvs) ∧ s.c + s.todo.countP (geN n) = 1 + A.cnt n) (fun s => s.todo.length) ⟨1, kvs, it0⟩ ⟨rfl, rfl, rfl, rfl, rfl, trivial⟩ ⟨hs, hI0, hkn, fun _ h => h, by simp only; rw [hce]⟩ ?_
        clear hs hI0
        rintro ⟨c, todo, it⟩ w ⟨hs, hIt, hnd, hsub, hcc⟩
        simp only at hs hIt hnd hsub hcc ⊢
        unfold rpCells mesCells at hs
        refine W_seq ?_
        refine W_region ?_
        refine s_nextI (km := 1) (kr := 0) rfl rfl hs rfl rfl hIt ?_ ?_
        · skip
          intro ht
          subst ht
          simp only [List.countP_nil, Nat.add_zero] at hcc
          obtain rfl := hcc
          replace hs := hs.tail
          refine s_extract rfl rfl rfl ?_
          refine WL_nil ?_
          refine n_then ?_
          refine W_seq ?_
          refine W_cond_kf rfl (rfl) ?_
          refine W_exit ?_
          refine x_then ?_
          refine x_then ?_
          refine exit_hit ?_
          refine n_then ?_
          refine W_seq ?_
          refine W_region ?_
          refine s_move rfl rfl ?_
          refine s_move rfl rfl ?_
          refine s_call Try.call38 rfl rfl (majority_ok p _ A.mem (1 + A.cnt n) w (hs.at (k := 2) rfl) rfl (by have := hAok.m3; omega)) ?_
          rintro r w ⟨hst, rfl⟩
          replace hs := hs.back0 hst
          clear hst
          simp only [List.nil_append] at hs
          refine WL_nil ?_
          refine n_then ?_
          refine W_cond rfl (fun hc68 => ?_) (fun hc68 => ?_)
          · skip
            try simp only [decide_eq_true_eq, decide_eq_false_iff_not, gt_iff_lt, ge_iff_le, beq_iff_eq, beq_eq_false_iff_ne, ne_eq, bne_iff_ne, bne_eq_false_iff_eq, Bool.not_eq_true', Bool.not_eq_false', Bool.not_eq_true, Bool.not_eq_false, Decidable.not_not] at hc68
            refine W_seq ?_
            refine W_region ?_
            refine s_move rfl rfl ?_
            refine s_move rfl rfl ?_
            refine s_nilCheck rfl rfl ?_
            refine s_fieldAddr rfl rfl (FA89_6 _ _) ?_
            first
              | refine s_storeB Try.sizeOf3 rfl rfl rfl hs (kk := 2) rfl rfl ?_
            clear hs; intro w hs; try simp only [List.set_cons_zero, List.set_cons_succ, splice, List.take_succ_cons, List.take_zero, List.drop_succ_cons, List.drop_zero, List.nil_append, List.cons_append, List.length_cons, List.length_nil, Nat.reduceAdd, List.append_assoc] at hs
            refine WL_nil ?_
            refine n_then ?_
            refine W_seq ?_
            refine W_region ?_
            refine s_move rfl rfl ?_
            have hmj : A.mem < 2 * (1 + A.cnt n) := by omega
            rw [if_pos hmj] at hbn
            rw [hb, hbn]
            simp only
            have hRF : RepAt p { A with n := n } ((p, Blk 89 (rpCells { A with n := n } (.slice la A.log.length lc) (.map vx) (.map (some ab)))) :: (LB ++ (LP ++ (LV ++ [(ab, ao)])))) :=
              ⟨_, _, _, es, LB, LP, LV, _, rfl, hlog, hvo, fun _ => ⟨ab, ao, kvs, rfl, rfl, hAM', ⟨hAO'.mem, hAO'.none⟩⟩, ⟨_, rfl⟩, hAok.atN hn⟩
            replace hs : St F w0 w ((p, Blk 89 (rpCells { A with n := n } (.slice la A.log.length lc) (.map vx) (.map (some ab)))) :: (LB ++ (LP ++ (LV ++ [(ab, ao)])))) := by
              simpa [cat, rpCells, mesCells] using St.reord [[_], [_], [_], LB, LP, LV] [2, 3, 4, 5, 0] [1] (by simpa [cat, rpCells, mesCells] using hs) rfl
            refine s_call Try.call37 rfl rfl (spread_ok p { A with n := n } _ w hRF hs.own) ?_
            rintro r w ⟨Lr, hMs, hst⟩
            replace hs := (hs.back0 hst).swap (A := Lr)
            clear hst
            refine s_assign rfl rfl ?_
            refine WL_nil ?_
            refine n_then ?_
            refine W_ret ?_
            refine r_blk ?_
            refine r_then ?_
            refine r_then ?_
            refine r_blk ?_
            refine r_then ?_
            first
              | exact end1 rfl rfl ⟨_, hs, Lr, _, rfl, hRF, hMs⟩
          · skip
            try simp only [decide_eq_true_eq, decide_eq_false_iff_not, gt_iff_lt, ge_iff_le, beq_iff_eq, beq_eq_false_iff_ne, ne_eq, bne_iff_ne, bne_eq_false_iff_eq, Bool.not_eq_true', Bool.not_eq_false', Bool.not_eq_true, Bool.not_eq_false, Decidable.not_not] at hc68
            refine W_skip ?_
            refine n_blk ?_
            refine n_then ?_
            refine W_region ?_
            refine s_move rfl rfl ?_
            first | (refine s_sub' rfl rfl rfl ?hx ?_; case hx => (constructor <;> first | omega | (simp only; omega)))
            refine s_assign rfl rfl ?_
            refine WL_nil ?_
            refine n_loop ?_
            have hmj : ¬ A.mem < 2 * (1 + A.cnt n) := by omega
            rw [if_neg hmj] at hbn
            refine ⟨⟨n - 1⟩, ⟨rfl, rfl, (by show some (Value.int .i64 ((n : Int) - 1)) = some (.int .i64 ((n - 1 : Nat) : Int)); rw [show ((n - 1 : Nat) : Int) = (n : Int) - 1 from by omega]), trivial⟩, ⟨hs, by simp only; omega, by rw [hb, hbn]⟩, by simp only; omega⟩
        · skip
          clear hs
          intro key v w it' hin hIt' hC hlt hs
          simp only [List.set_cons_zero] at hs
          obtain ⟨j, hj1, hj2, hj3, rfl⟩ := hAO'.mem _ _ (hsub _ hin)
          have hpp := pick_perm hnd hin
          refine s_extract rfl rfl rfl ?_
          refine WL_nil ?_
          refine n_then ?_
          refine W_seq ?_
          refine W_cond_kt rfl (rfl) ?_
          refine W_skip ?_
          refine n_then ?_
          refine W_block ?_
          refine W_seq ?_
          refine W_region ?_
          refine s_entryI (km := 1) (kr := 0) rfl rfl hs rfl rfl hC ?_
          refine s_extract rfl rfl rfl ?_
          refine s_assign rfl rfl ?_
          refine WL_nil ?_
          refine n_then ?_
          refine W_seq ?_
          refine W_region ?_
          refine s_move rfl rfl ?_
          refine s_move rfl rfl ?_
          refine s_geq rfl rfl rfl ?_
          refine WL_nil ?_
          refine n_then ?_
          refine W_cond rfl (fun hc63 => ?_) (fun hc63 => ?_)
          · skip
            try simp only [decide_eq_true_eq, decide_eq_false_iff_not, gt_iff_lt, ge_iff_le, beq_iff_eq, beq_eq_false_iff_ne, ne_eq, bne_iff_ne, bne_eq_false_iff_eq, Bool.not_eq_true', Bool.not_eq_false', Bool.not_eq_true, Bool.not_eq_false, Decidable.not_not] at hc63
            refine W_region ?_
            refine s_move rfl rfl ?_
            first | (refine s_add' rfl rfl rfl ?hx ?_; case hx => (constructor <;> first | omega | (simp only; omega)))
            refine s_assign rfl rfl ?_
            refine WL_nil ?_
            refine n_blk ?_
            refine n_loop ?_
            have hcp := hpp.countP_eq (geN n)
            rw [List.countP_cons] at hcp
            have hnd' : ((todo.filter fun e => !decide (e.1 = key)).map Prod.fst).Nodup := ((List.filter_sublist (p := fun e : Int × Value => !decide (e.1 = key)) (l := todo)).map _).nodup hnd
            have hsub' : ∀ e ∈ todo.filter (fun e => !decide (e.1 = key)), e ∈ kvs := fun e he => hsub e (List.mem_filter.1 he).1
            first
              | (have hg : geN n (key, .int .i64 (A.acks j : Int)) = true := by simp only [geN, decide_eq_true_eq]; omega
                 rw [if_pos hg] at hcp
                 exact ⟨⟨c + 1, todo.filter (fun e => !decide (e.1 = key)), it'⟩, ⟨rfl, rfl, rfl, rfl, rfl, trivial⟩, ⟨hs, hIt', hnd', hsub', by simp only; omega⟩, hlt⟩)
          · skip
            try simp only [decide_eq_true_eq, decide_eq_false_iff_not, gt_iff_lt, ge_iff_le, beq_iff_eq, beq_eq_false_iff_ne, ne_eq, bne_iff_ne, bne_eq_false_iff_eq, Bool.not_eq_true', Bool.not_eq_false', Bool.not_eq_true, Bool.not_eq_false, Decidable.not_not] at hc63
            refine W_skip ?_
            refine n_blk ?_
            refine n_loop ?_
            have hcp := hpp.countP_eq (geN n)
            rw [List.countP_cons] at hcp
            have hnd' : ((todo.filter fun e => !decide (e.1 = key)).map Prod.fst).Nodup := ((List.filter_sublist (p := fun e : Int × Value => !decide (e.1 = key)) (l := todo)).map _).nodup hnd
            have hsub' : ∀ e ∈ todo.filter (fun e => !decide (e.1 = key)), e ∈ kvs := fun e he => hsub e (List.mem_filter.1 he).1
            first
              | (have hg : ¬ geN n (key, .int .i64 (A.acks j : Int)) = true := by simp only [geN, decide_eq_true_eq]; omega
                 rw [if_neg hg] at hcp
                 exact ⟨⟨c, todo.filter (fun e => !decide (e.1 = key)), it'⟩, ⟨rfl, rfl, rfl, rfl, rfl, trivial⟩, ⟨hs, hIt', hnd', hsub', by simp only; omega⟩, hlt⟩)
      · skip
        try simp only [decide_eq_true_eq, decide_eq_false_iff_not, gt_iff_lt, ge_iff_le, beq_iff_eq, beq_eq_false_iff_ne, ne_eq, bne_iff_ne, bne_eq_false_iff_eq, Bool.not_eq_true', Bool.not_eq_false', Bool.not_eq_true, Bool.not_eq_false, Decidable.not_not] at hc49
        refine W_exit ?_
        refine x_then ?_
        refine x_then ?_
        refine exit_hit ?_
        refine n_then ?_
        refine W_seq ?_
        refine W_region ?_
        refine s_assign rfl rfl ?_
        refine WL_nil ?_
        refine n_then ?_
        refine W_ret ?_
        first
          | (rw [hb, Rp.best_stop (by omega)]
             refine end1 rfl rfl ⟨((p, Blk 89 (rpCells A (.slice la A.log.length lc) (.map vx) (.map (some ab)))) :: (LB ++ (LP ++ (LV ++ [(ab, ao)])))) ++ [], ?_, [], _, rfl, ⟨_, _, _, es, LB, LP, LV, _, rfl, hlog, hvo, fun _ => ⟨ab, ao, kvs, rfl, rfl, hAM', hAO'⟩, ⟨_, rfl⟩, hAok⟩, MsAt.nil⟩
             simpa [cat, rpCells, mesCells] using St.reord [[_], [_], [_], LB, LP, LV] [2, 3, 4, 5, 0] [1] (by simpa [cat, rpCells, mesCells] using hs) rfl)
end Go.Proofs.Ytkobigdfijeajaa
