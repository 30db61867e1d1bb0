/- The reference's disk: Crash. -/
import Derived.Test.YtkappdlbpilghaaGreatRdB
import Derived.Test.YtkappdlbpilghaaGreatDkG
set_option linter.unusedVariables false
set_option linter.unusedSimpArgs false
namespace Go.Proofs.YtkappdlbpilghaaGreat
open Go.SL
/-- a file's bytes while the loose bits are counted: those before place k are done -/
def invK (bs : List Int) (d : Nat) (at_ : Int) (k : Nat) : List Int :=
  if 0 ≤ at_ ∧ at_ < 8 * ((k : Int) - d) then bs.set (d + (at_ / 8).toNat) (xbit (bs.getD (d + (at_ / 8).toNat) 0) (at_ % 8).toNat) else bs
theorem invK_length (bs : List Int) (d : Nat) (at_ : Int) (k : Nat) : (invK bs d at_ k).length = bs.length := by unfold invK; split <;> simp
theorem invK_start (bs : List Int) (d : Nat) (at_ : Int) : invK bs d at_ d = bs := by rw [invK, if_neg (by omega)]
theorem invK_end (bs : List Int) (d : Nat) (at_ : Int) : invK bs d at_ bs.length = invF bs d at_ := rfl
theorem invK_miss {bs : List Int} {d : Nat} {at_ : Int} {k : Nat} (hk : d ≤ k) (h : ¬ (0 ≤ at_ - 8 * ((k : Int) - d) ∧ at_ - 8 * ((k : Int) - d) < 8)) : invK bs d at_ (k + 1) = invK bs d at_ k := by
  unfold invK
  by_cases h1 : 0 ≤ at_ ∧ at_ < 8 * ((k : Int) - d)
  · rw [if_pos h1, if_pos (by omega)]
  · rw [if_neg h1, if_neg (by omega)]
theorem invK_hit {bs : List Int} {d : Nat} {at_ : Int} {k : Nat} {z : Int} (hk : d ≤ k) (h : 0 ≤ at_ - 8 * ((k : Int) - d) ∧ at_ - 8 * ((k : Int) - d) < 8) (hz : bs[k]? = some z) :
    invK bs d at_ k = bs ∧ invK bs d at_ (k + 1) = bs.set k (xbit z (at_ - 8 * ((k : Int) - d)).toNat) := by
  unfold invK
  refine ⟨by rw [if_neg (by omega)], ?_⟩
  rw [if_pos (by omega), show d + (at_ / 8).toNat = k by omega, List.getD_eq_getElem?_getD, hz, show (at_ % 8).toNat = (at_ - 8 * ((k : Int) - d)).toNat by omega]
  rfl
theorem invK_isB {bs : List Int} {d : Nat} {at_ : Int} {k : Nat} (h : ∀ b ∈ bs, isB b) : ∀ b ∈ invK bs d at_ k, isB b := by
  unfold invK; split
  · intro b hb
    rcases List.mem_or_eq_of_mem_set hb with hb | rfl
    · exact h b hb
    · refine (xbit_facts ?_ (by omega)).2.2.1
      rw [List.getD_eq_getElem?_getD]
      cases hq : bs[d + (at_ / 8).toNat]? with
      | none => exact ⟨by simp, by simp⟩
      | some q => exact h q (List.mem_of_getElem? hq)
  · exact h
theorem kept_eq2 {keep : List Int} {i room : Nat} {z : Int} (hz : keep[i]? = some z) : (if (0 : Int) < (if (room : Int) < z then (room : Int) else z) then (if (room : Int) < z then (room : Int) else z) else (0 : Int)) = (keptV keep i room : Int) := by
  rw [← kept_eq hz]
  split <;> split <;> (try split) <;> (try split) <;> omega
theorem rs_swapX {F : List Nat} {w0 w : World} {rs : List Rw} {i : Nat} {r : Rw} (h : rs[i]? = some r) (r' : Rw) {P Q S : Nat × Obj} {X : Hp} (hs : St F w0 w (P :: Q :: S :: (r'.L ++ (rblks rs ++ X)))) : St F w0 w (P :: Q :: S :: (rblks (rs.set i r') ++ X)) := by
  obtain ⟨R, h1, h2⟩ := rw_open h
  have h5 : (r'.L ++ (rblks rs ++ X)).Perm (r'.L ++ ((r.L ++ R) ++ X)) := (h1.append_right X).append_left _
  have h6 : ((r'.L ++ R) ++ (X ++ r.L)).Perm ((rblks (rs.set i r') ++ X) ++ r.L) := by rw [List.append_assoc (rblks (rs.set i r'))]; exact (h2 r').append_right _
  have h7 : cat [r'.L, r.L, R, X] = r'.L ++ ((r.L ++ R) ++ X) := by simp [cat]
  have h8 : cat [r'.L, R, X, r.L] = (r'.L ++ R) ++ (X ++ r.L) := by simp [cat]
  have h9 : (r'.L ++ ((r.L ++ R) ++ X)).Perm ((r'.L ++ R) ++ (X ++ r.L)) := by
    rw [← h7, ← h8, cat_flatten, cat_flatten]
    exact perm_flatten ((List.perm_append_comm (l₁ := [r.L]) (l₂ := [R, X])).cons r'.L)
  have h3 := (h5.trans h9).trans h6
  exact St.left (L := P :: Q :: S :: (rblks (rs.set i r') ++ X)) (M := r.L) (hs.perm (((h3.cons _).cons _).cons _))
theorem rs_openX {F : List Nat} {w0 w : World} {A R : Hp} {B : Hp} (h : B.Perm (A ++ R)) {P Q S : Nat × Obj} {X : Hp} (hs : St F w0 w (P :: Q :: S :: (B ++ X))) : St F w0 w (P :: Q :: S :: (A ++ (R ++ X))) := by
  have := hs.perm ((((h.append_right X).cons S).cons Q).cons P)
  rw [List.append_assoc] at this; exact this
theorem rs_shutX {F : List Nat} {w0 w : World} {A R : Hp} {B : Hp} (h : (A ++ R).Perm B) {P Q S : Nat × Obj} {X : Hp} (hs : St F w0 w (P :: Q :: S :: (A ++ (R ++ X)))) : St F w0 w (P :: Q :: S :: (B ++ X)) := by
  rw [← List.append_assoc] at hs
  exact hs.perm ((((h.append_right X).cons S).cons Q).cons P)
theorem St_left3 {F : List Nat} {w0 w : World} {P Q S : Nat × Obj} {A B : Hp} (h : St F w0 w (P :: Q :: S :: (A ++ B))) : St F w0 w (P :: Q :: S :: A) := St.left (L := P :: Q :: S :: A) (M := B) h
structure Rc1 where
  i : Nat
  n : Nat
  E : Dk
  rs : List Rw
structure Rc2 where
  i : Nat
  at_ : Int
  E : Dk
  rs : List Rw
structure Rc3 where
  k : Nat
  L : Hp
theorem lt_of_int {k : Nat} {x y : Int} (h : x < y) : True := trivial
theorem RsOk.good_len {D : Dk} {rs : List Rw} (hR : RsOk D rs) (hK : dkOk D) {i : Nat} {r : Rw} (h : rs[i]? = some r) : r.bs.length ≤ 16777216 ∧ i < 64 := by
  have hl : i < 64 := by have := (List.getElem?_eq_some_iff.1 h).1; rw [hR.len] at this; exact this
  obtain ⟨_, hc, _⟩ := hR.at' i r h
  have h1 := len_le_total D (f := (i : Int)) (by omega)
  rw [hc] at h1
  have := hK.1
  exact ⟨by omega, hl⟩
set_option maxHeartbeats 4000000 in
theorem rCrash_ok (p : Nat) (D : Dk) (vk : Value) (keep : List Int) (flip : Int) (L0 : Hp) (w0 : World) (hfo : firmOk D) (hD : RefAt p D L0) (hv : Sl w0 vk keep.length (i64s keep)) (hap : ∀ a m c, vk = .slice (some a) m c → i64s keep ≠ [] → a.block ∉ ids L0) (hfl : isI64 flip) (hs : St (ids L0) w0 w0 L0) :
    Ret Tryz.prog 12 [.pointer (some ⟨p, 0, none⟩), vk, .int .i64 flip].toArray w0 fun r w' => ∃ L', St (ids L0) w0 w' L' ∧ RefAt p (D.crash keep flip) L' := by
  obtain ⟨ka, kc, rfl, hkc⟩ := hv.len_le
  unfold isI64 at hfl
  obtain ⟨X, hX⟩ : ∃ X, X = cutL keep (filesV D) 0 D 0 := ⟨_, rfl⟩
  have hff : ∀ f ∈ filesV D, 0 ≤ f ∧ f ≤ 63 := fun f h => ((filesV_mem D f).1 h).1
  have hfn := filesV_len D
  have hD0 := hD
  obtain ⟨gB, gF, rs, hL, hR, hK⟩ := hD
  have hD1 : RefAt p D (RL p gB gF D rs) := RefAt.mk hR hK
  replace hs : St (ids L0) w0 w0 (RL p gB gF D rs) := by rw [hL] at hs ⊢; exact hs
  refine Ret_startL hs fun w hs => ?_
  refine Ret_of Tryz.func12 rfl Tryz.ntmps12 rfl ?_
  refine W_seq ?_
  refine W_region ?_
  refine s_move rfl rfl ?_
  refine s_callL (M := []) (L1 := RL p gB gF D rs) (X := []) Tryz.call32 rfl rfl (by rw [List.append_nil]; exact hs) (fun h => rFiles_ok p D _ w hD1 h) ?_
  clear hs; rintro v w L' ⟨Lv, rfl, hO⟩ - hs
  rw [List.nil_append, List.append_nil] at hs
  obtain ⟨_, cv, av, rfl, hvl⟩ := hO.form
  subst hvl
  replace hs := hs.swap
  unfold RL rdCells at hs
  simp only [List.cons_append] at hs
  refine s_assign rfl rfl ?_
  refine WL_nil ?_
  refine n_then ?_
  refine W_seq ?_
  refine W_region ?_
  refine s_assign rfl rfl ?_
  refine WL_nil ?_
  refine n_then ?_
  refine W_seq ?_
  refine W_seq ?_
  refine W_region ?_
  refine s_assign rfl rfl ?_
  refine WL_nil ?_
  refine n_then ?_
  refine W_block ?_
  refine W_loop (σ := Rc1) (fun s => [(0, .pointer (some ⟨p, 0, none⟩)), (1, .slice ka keep.length kc), (2, .int .i64 flip), (6, .slice av (filesV D).length cv), (7, .int .i64 (s.n : Int)), (8, .int .i64 (s.i : Int))]) (fun s w => St (ids L0) w0 w ((p, Blk 50 [.int .i64 D.room, .slice (some ⟨gB, 0, none⟩) 64 64, .slice (some ⟨gF, 0, none⟩) 64 64, .bool D.off, .int .i64 D.plan]) :: (gB, Blk 39 (rvs s.rs)) :: (gF, Blk 3 (rds s.rs)) :: (rblks s.rs ++ Lv)) ∧ RsOk s.E s.rs ∧ dkOk s.E ∧ s.i ≤ (filesV D).length ∧ s.n ≤ s.i * 16777216 ∧ cutL keep ((filesV D).drop s.i) s.i s.E s.n = X ∧ firmOk s.E ∧ (s.E.room = D.room ∧ s.E.left = D.left)) (fun s => (filesV D).length - s.i) ⟨0, 0, D, rs⟩ ⟨rfl, rfl, rfl, rfl, rfl, rfl, trivial⟩ ⟨hs, hR, hK, Nat.zero_le _, Nat.zero_le _, by rw [hX]; rfl, hfo, rfl, rfl⟩ ?_
  clear hs hR hK hD1 hfo hL
  rintro ⟨i, bn, E, re⟩ w ⟨hs, hR, hK, hi, hbn, hcut, hfo, hEr⟩
  simp only at hs hR hK hi hbn hcut hfo hEr ⊢
  have hi64 : i * 16777216 ≤ 64 * 16777216 := Nat.mul_le_mul_right _ (by omega)
  have hrl := rvs_length hR
  refine W_seq ?_
  refine W_seq ?_
  refine W_region ?_
  refine s_move rfl rfl ?_
  refine s_move rfl rfl ?_
  refine s_len rfl rfl (LN22 _ _ _ _) ?_
  refine s_lss rfl rfl rfl ?_
  refine WL_nil ?_
  refine n_then ?_
  refine W_cond rfl (fun hc22 => ?_) (fun hc22 => ?_)
  · skip
    try simp only [decide_eq_true_eq, decide_eq_false_iff_not, gt_iff_lt] at hc22
    have hil : i < (filesV D).length := by omega
    obtain ⟨f, hfi⟩ : ∃ f, (filesV D)[i]? = some f := ⟨_, List.getElem?_eq_getElem hil⟩
    have hfm := hff f (List.mem_of_getElem? hfi)
    have hdrop : (filesV D).drop i = f :: (filesV D).drop (i + 1) := by
      rw [List.drop_eq_getElem_cons hil]; congr 1; rw [List.getElem?_eq_getElem hil] at hfi; exact Option.some.inj hfi
    rw [hdrop, cutL] at hcut
    obtain ⟨b1, o1, hA1, hc1⟩ := (OwnS_slIn hO (w := w) fun p hp => hs.own p (by simp [hp])).at (k := i) (u := .int .i64 f) (by rw [List.getElem?_map, hfi]; rfl)
    obtain ⟨j, rfl⟩ : ∃ j : Nat, f = (j : Int) := ⟨f.toNat, by omega⟩
    have hj64 : j < 64 := by omega
    obtain ⟨r, hr, hok, hc, hd, hrv, hdv⟩ := hR.get hj64
    obtain ⟨_, cr, ar, hrvv, hrvl⟩ := hok.1.form
    rw [hrvl] at hrvv
    rw [hrvv] at hrv
    have hrlen := (hR.good_len hK hr).1
    have hrd := hok.2.1
    have hkle := keptV_le keep i ((E.c (j : Int)).length - E.d (j : Int))
    rw [hc, hd] at hkle hcut
    refine W_skip ?_
    refine n_then ?_
    refine W_seq ?_
    refine W_block ?_
    refine W_seq ?_
    refine W_region ?_
    refine s_move rfl rfl ?_
    refine s_move rfl rfl ?_
    (refine s_indexAddrO El22 rfl rfl rfl hA1 ?hx ?_; case hx => (constructor <;> omega))
    refine s_load Tryz.isAgg3 rfl rfl (by rw [Int.toNat_natCast]; exact hc1) ?_
    refine s_assign rfl rfl ?_
    refine WL_nil ?_
    refine n_then ?_
    refine W_seq ?_
    refine W_region ?_
    refine s_assign rfl rfl ?_
    refine WL_nil ?_
    refine n_then ?_
    refine W_cut (σ := Unit) (fun _ => [(0, .pointer (some ⟨p, 0, none⟩)), (1, .slice ka keep.length kc), (2, .int .i64 flip), (6, .slice av (filesV D).length cv), (7, .int .i64 (bn : Int)), (8, .int .i64 (i : Int)), (9, .int .i64 (j : Int)), (10, .int .i64 ((keptV keep i (r.bs.length - r.dur) : Nat) : Int))]) (fun _ w => St (ids L0) w0 w ((p, Blk 50 [.int .i64 D.room, .slice (some ⟨gB, 0, none⟩) 64 64, .slice (some ⟨gF, 0, none⟩) 64 64, .bool D.off, .int .i64 D.plan]) :: (gB, Blk 39 (rvs re)) :: (gF, Blk 3 (rds re)) :: (rblks re ++ Lv))) ?_ ?_
    · skip
      refine W_seq ?_
      refine W_region ?_
      refine s_move rfl rfl ?_
      refine s_move rfl rfl ?_
      refine s_len rfl rfl (LN22 _ _ _ _) ?_
      refine s_lss rfl rfl rfl ?_
      refine WL_nil ?_
      refine n_then ?_
      refine W_cond rfl (fun hc32 => ?_) (fun hc32 => ?_)
      · skip
        try simp only [decide_eq_true_eq, decide_eq_false_iff_not, gt_iff_lt] at hc32
        have hik : i < keep.length := by omega
        obtain ⟨z, hz⟩ : ∃ z, keep[i]? = some z := ⟨_, List.getElem?_eq_getElem hik⟩
        have hke := kept_eq2 (room := r.bs.length - r.dur) hz
        refine W_draw [(0, true, []), (1, true, []), (2, true, []), (3, true, []), (4, true, []), (5, true, []), (6, true, []), (7, true, []), (8, true, []), (9, true, []), (10, true, []), (11, true, []), (12, true, []), (13, true, []), (14, true, []), (15, true, []), (16, true, []), (17, true, []), (18, true, []), (19, true, []), (20, true, []), (21, true, []), (22, true, [])] [[], [], [0, 1], [0, 1, 2], [], [4], [4, 5], [4, 5, 6], [], [4, 5, 6, 7, 8], [4, 5, 6, 7, 8, 9], [4, 5, 6, 7, 8, 9, 10], [], [12], [12, 13], [12, 13, 14], [], [12, 13, 14, 15, 16], [12, 13, 14, 15, 16, 17], [4, 5, 6, 7, 8, 9, 10, 11, 12, 13, 14, 15, 16, 17, 18], [0, 1, 2, 3, 4, 5, 6, 7, 8, 9, 10, 11, 12, 13, 14, 15, 16, 17, 18, 19], [0, 1, 2, 3, 4, 5, 6, 7, 8, 9, 10, 11, 12, 13, 14, 15, 16, 17, 18, 19, 20], [0, 1, 2, 3, 4, 5, 6, 7, 8, 9, 10, 11, 12, 13, 14, 15, 16, 17, 18, 19, 20, 21]] MX (by kernel_rfl) ?_
        intro w1 hw1 hw2 hw3 hw4; replace hs := hs.redrawn hw1 hw2 hw3 hw4; clear hw1 hw2 hw3 hw4
        obtain ⟨w, rfl⟩ : ∃ w : World, w = w1 := ⟨_, rfl⟩
        refine D_q rfl rfl ?_
        refine s_move rfl rfl ?_
        refine D_qn ?_
        refine D_q rfl rfl ?_
        refine s_move rfl rfl ?_
        refine D_qn ?_
        refine D_q rfl rfl ?_
        obtain ⟨b2, o2, hA2, hc2⟩ := (hv.fwd hs.fwd hap).at (k := i) (u := .int .i64 z) (by rw [List.getElem?_map, hz]; rfl)
        (refine s_indexAddrO El22 rfl rfl rfl hA2 ?hx ?_; case hx => (constructor <;> omega))
        refine D_qn ?_
        refine D_q rfl rfl ?_
        refine s_load Tryz.isAgg3 rfl rfl (by rw [Int.toNat_natCast]; exact hc2) ?_
        refine D_qn ?_
        refine D_q rfl rfl ?_
        refine s_move rfl rfl ?_
        refine D_qn ?_
        refine D_q rfl rfl ?_
        refine s_nilCheck rfl rfl ?_
        refine D_qn ?_
        refine D_q rfl rfl ?_
        refine s_fieldAddr rfl rfl (FA50_1 _ _) ?_
        refine D_qn ?_
        refine D_q rfl rfl ?_
        first
          | refine s_load Tryz.isAgg29 rfl rfl (hs.cell (k := 0) rfl rfl) ?_
        refine D_qn ?_
        refine D_q rfl rfl ?_
        refine s_move rfl rfl ?_
        refine D_qn ?_
        refine D_q rfl rfl ?_
        (refine s_indexAddr1 El29 rfl rfl rfl ?hx ?_; case hx => (constructor <;> first | omega | (simp; omega)))
        refine D_qn ?_
        refine D_q rfl rfl ?_
        refine s_load Tryz.isAgg39 rfl rfl (hs.cell (k := 1) rfl (by rw [Nat.zero_add, Int.toNat_natCast]; exact hrv)) ?_
        refine D_qn ?_
        refine D_q rfl rfl ?_
        refine s_len rfl rfl (LN39 _ _ _ _) ?_
        refine D_qn ?_
        refine D_q rfl rfl ?_
        refine s_move rfl rfl ?_
        refine D_qn ?_
        refine D_q rfl rfl ?_
        refine s_nilCheck rfl rfl ?_
        refine D_qn ?_
        refine D_q rfl rfl ?_
        refine s_fieldAddr rfl rfl (FA50_2 _ _) ?_
        refine D_qn ?_
        refine D_q rfl rfl ?_
        first
          | refine s_load Tryz.isAgg22 rfl rfl (hs.cell (k := 0) rfl rfl) ?_
        refine D_qn ?_
        refine D_q rfl rfl ?_
        refine s_move rfl rfl ?_
        refine D_qn ?_
        refine D_q rfl rfl ?_
        (refine s_indexAddr1 El22 rfl rfl rfl ?hx ?_; case hx => (constructor <;> first | omega | (simp; omega)))
        refine D_qn ?_
        refine D_q rfl rfl ?_
        refine s_load Tryz.isAgg3 rfl rfl (hs.cell (k := 2) rfl (by rw [Nat.zero_add, Int.toNat_natCast]; exact hdv)) ?_
        refine D_qn ?_
        refine D_q rfl rfl ?_
        (refine s_sub' rfl rfl rfl ?hx ?_; case hx => (constructor <;> omega))
        rw [show (r.bs.length : Int) - (r.dur : Int) = ((r.bs.length - r.dur : Nat) : Int) by omega]
        refine D_qn ?_
        refine D_q rfl rfl ?_
        refine s_min rfl rfl rfl ?_
        refine D_qn ?_
        refine D_q rfl rfl ?_
        refine s_max rfl rfl rfl ?_
        rw [hke]
        refine D_qn ?_
        refine D_q rfl rfl ?_
        refine s_assign rfl rfl ?_
        refine D_qn ?_
        refine D_nil ?_
        refine n_loop ?_
        first
          | exact ⟨(), ⟨rfl, rfl, rfl, rfl, rfl, rfl, rfl, rfl, trivial⟩, hs⟩
          | (have hk0 : keptV keep i (r.bs.length - r.dur) = 0 := by rw [keptV, if_neg (by omega)]
             rw [hk0]
             exact ⟨(), ⟨rfl, rfl, rfl, rfl, rfl, rfl, rfl, rfl, trivial⟩, hs⟩)
      · skip
        try simp only [decide_eq_true_eq, decide_eq_false_iff_not, gt_iff_lt] at hc32
        refine W_skip ?_
        refine n_loop ?_
        first
          | exact ⟨(), ⟨rfl, rfl, rfl, rfl, rfl, rfl, rfl, rfl, trivial⟩, hs⟩
          | (have hk0 : keptV keep i (r.bs.length - r.dur) = 0 := by rw [keptV, if_neg (by omega)]
             rw [hk0]
             exact ⟨(), ⟨rfl, rfl, rfl, rfl, rfl, rfl, rfl, rfl, trivial⟩, hs⟩)
    · skip
      clear hs
      rintro - w hs
      generalize hkq : keptV keep i (r.bs.length - r.dur) = kq at hcut hkle
      refine W_seq ?_
      refine W_region ?_
      refine s_assign rfl rfl ?_
      refine WL_nil ?_
      refine n_then ?_
      refine W_seq ?_
      refine W_draw [(0, true, []), (1, true, []), (2, true, []), (3, true, []), (4, true, []), (5, true, []), (6, true, []), (7, true, []), (8, true, []), (9, true, []), (10, true, []), (11, true, []), (12, true, []), (13, true, []), (14, true, []), (15, true, []), (16, true, []), (17, true, []), (18, true, []), (19, true, []), (20, true, []), (21, true, []), (22, true, []), (23, false, [0, 1, 2, 3, 4]), (24, true, []), (25, false, [])] [[], [0], [0, 1], [0, 1, 2], [], [], [], [6], [6, 7], [6, 7, 8], [], [6, 7, 8, 9, 10], [6, 7, 8, 9, 10, 11], [], [13], [13, 14], [13, 14, 15], [], [13, 14, 15, 16, 17], [13, 14, 15, 16, 17, 18], [], [13, 14, 15, 16, 17, 18, 19, 20], [6, 7, 8, 9, 10, 11, 12, 13, 14, 15, 16, 17, 18, 19, 20, 21], [5, 6, 7, 8, 9, 10, 11, 12, 13, 14, 15, 16, 17, 18, 19, 20, 21, 22], [0, 1, 2, 3, 4, 5, 6, 7, 8, 9, 10, 11, 12, 13, 14, 15, 16, 17, 18, 19, 20, 21, 22, 23], [0, 1, 2, 3, 4, 5, 6, 7, 8, 9, 10, 11, 12, 13, 14, 15, 16, 17, 18, 19, 20, 21, 22, 23, 24]] MX (by kernel_rfl) ?_
      intro w1 hw1 hw2 hw3 hw4; replace hs := hs.redrawn hw1 hw2 hw3 hw4; clear hw1 hw2 hw3 hw4
      obtain ⟨w, rfl⟩ : ∃ w : World, w = w1 := ⟨_, rfl⟩
      refine D_q rfl rfl ?_
      refine s_move rfl rfl ?_
      refine D_qn ?_
      refine D_q rfl rfl ?_
      refine s_nilCheck rfl rfl ?_
      refine D_qn ?_
      refine D_q rfl rfl ?_
      refine s_fieldAddr rfl rfl (FA50_1 _ _) ?_
      refine D_qn ?_
      refine D_q rfl rfl ?_
      first
        | refine s_load Tryz.isAgg29 rfl rfl (hs.cell (k := 0) rfl rfl) ?_
      refine D_qn ?_
      refine D_q rfl rfl ?_
      refine s_move rfl rfl ?_
      refine D_qn ?_
      refine D_q rfl rfl ?_
      refine s_move rfl rfl ?_
      refine D_qn ?_
      refine D_q rfl rfl ?_
      refine s_move rfl rfl ?_
      refine D_qn ?_
      refine D_q rfl rfl ?_
      refine s_nilCheck rfl rfl ?_
      refine D_qn ?_
      refine D_q rfl rfl ?_
      refine s_fieldAddr rfl rfl (FA50_1 _ _) ?_
      refine D_qn ?_
      refine D_q rfl rfl ?_
      first
        | refine s_load Tryz.isAgg29 rfl rfl (hs.cell (k := 0) rfl rfl) ?_
      refine D_qn ?_
      refine D_q rfl rfl ?_
      refine s_move rfl rfl ?_
      refine D_qn ?_
      refine D_q rfl rfl ?_
      (refine s_indexAddr1 El29 rfl rfl rfl ?hx ?_; case hx => (constructor <;> first | omega | (simp; omega)))
      refine D_qn ?_
      refine D_q rfl rfl ?_
      refine s_load Tryz.isAgg39 rfl rfl (hs.cell (k := 1) rfl (by rw [Nat.zero_add, Int.toNat_natCast]; exact hrv)) ?_
      refine D_qn ?_
      refine D_q rfl rfl ?_
      refine s_move rfl rfl ?_
      refine D_qn ?_
      refine D_q rfl rfl ?_
      refine s_nilCheck rfl rfl ?_
      refine D_qn ?_
      refine D_q rfl rfl ?_
      refine s_fieldAddr rfl rfl (FA50_2 _ _) ?_
      refine D_qn ?_
      refine D_q rfl rfl ?_
      first
        | refine s_load Tryz.isAgg22 rfl rfl (hs.cell (k := 0) rfl rfl) ?_
      refine D_qn ?_
      refine D_q rfl rfl ?_
      refine s_move rfl rfl ?_
      refine D_qn ?_
      refine D_q rfl rfl ?_
      (refine s_indexAddr1 El22 rfl rfl rfl ?hx ?_; case hx => (constructor <;> first | omega | (simp; omega)))
      refine D_qn ?_
      refine D_q rfl rfl ?_
      refine s_load Tryz.isAgg3 rfl rfl (hs.cell (k := 2) rfl (by rw [Nat.zero_add, Int.toNat_natCast]; exact hdv)) ?_
      refine D_qn ?_
      refine D_q rfl rfl ?_
      refine s_move rfl rfl ?_
      refine D_qn ?_
      refine D_q rfl rfl ?_
      (refine s_add' rfl rfl rfl ?hx ?_; case hx => (constructor <;> omega))
      rw [show (r.dur : Int) + (kq : Int) = ((r.dur + kq : Nat) : Int) by omega]
      refine D_qn ?_
      refine D_q rfl rfl ?_
      have hS := OwnS_slIn hok.1 (w := w) fun q hq => hs.own q (by
        obtain ⟨R, h1, _⟩ := rw_open hr
        simp only [List.mem_cons]
        exact .inr (.inr (.inr (List.mem_append_left _ (h1.mem_iff.2 (List.mem_append_left _ hq))))))
      have hcap : r.bs.length ≤ cr := by obtain ⟨a9, c9, h8, h9⟩ := hS.len_le; rw [hrvv] at h8; cases h8; exact h9
      (refine s_slice_hi El39 rfl rfl rfl ?hx ?_; case hx => (constructor <;> omega))
      rw [Int.toNat_natCast]
      refine D_qn ?_
      refine D_e rfl ?_
      have hS := OwnS_slIn hok.1 (w := w) fun q hq => hs.own q (by
        obtain ⟨R, h1, _⟩ := rw_open hr
        simp only [List.mem_cons]
        exact .inr (.inr (.inr (List.mem_append_left _ (h1.mem_iff.2 (List.mem_append_left _ hq))))))
      have hS2 := hS.take (k := r.dur + kq) (size := 1) (by omega) hrvv
      rw [Nat.mul_one, ← List.map_take] at hS2
      have htl : (r.bs.take (r.dur + kq)).length = r.dur + kq := by rw [List.length_take]; omega
      refine s_appendM (M := [_, _, _]) (X := rblks re ++ Lv) (Lv := []) El39 rfl rfl rfl (OwnS.nil _ _) hs hS2 (by rw [List.length_map, htl]; omega) (u8s_one _) (by omega) ?_
      clear hs hS hS2; intro v' w Lw hO' hs
      rw [Nat.zero_add, List.nil_append] at hO'
      simp only [List.cons_append, List.nil_append] at hs
      refine D_en ?re ?_
      case re =>
        refine Reks_cons rfl rfl rfl rfl ?_ ?_
        · skip
          refine s_move rfl rfl ?_
          exact Rek_end rfl
        refine Reks_cons rfl rfl rfl rfl ?_ ?_
        · skip
          refine s_nilCheck rfl rfl ?_
          exact Rek_end rfl
        refine Reks_cons rfl rfl rfl rfl ?_ ?_
        · skip
          refine s_fieldAddr rfl rfl (FA50_1 _ _) ?_
          exact Rek_end rfl
        refine Reks_cons rfl rfl rfl rfl ?_ ?_
        · skip
          first
            | refine s_load Tryz.isAgg29 rfl rfl (hs.cell (k := 0) rfl rfl) ?_
          exact Rek_end rfl
        refine Reks_cons rfl rfl rfl rfl ?_ ?_
        · skip
          refine s_move rfl rfl ?_
          exact Rek_end rfl
        exact Reks_nil
      refine D_q rfl rfl ?_
      (refine s_indexAddr1 El29 rfl rfl rfl ?hx ?_; case hx => (constructor <;> first | omega | (simp; omega)))
      refine D_qn ?_
      refine D_e rfl ?_
      refine s_store Tryz.sizeOf39 rfl rfl (by obtain ⟨_, c', a', rfl, _⟩ := hO'.form; rfl) hs (kk := 1) rfl (by rw [hrl.1]; omega) ?_
      clear hs; intro w hs
      simp only [List.set_cons_zero, List.set_cons_succ, Int.toNat_natCast, Nat.zero_add] at hs
      obtain ⟨r', hr'⟩ : ∃ r' : Rw, r' = ⟨v', r.bs.take (r.dur + kq), r.dur, Lw⟩ := ⟨_, rfl⟩
      have hr1 : rvs (re.set j r') = (rvs re).set j v' := by rw [rvs_set, hr']
      have hr2 : rds (re.set j r') = rds re := by
        rw [rds_set, hr']
        apply List.ext_getElem?
        intro j2
        rw [List.getElem?_set]
        split
        · rename_i h; subst h
          rw [hdv]; simp [hrl.2, hj64]
        · rfl
      have hok' : r'.ok := by rw [hr']; exact ⟨by simp only; rw [htl]; exact hO', by simp only; rw [htl]; omega, fun b hb => hok.2.2 b (List.mem_of_mem_take hb)⟩
      obtain ⟨E2, hE2⟩ : ∃ E2, E2 = E.set (j : Int) (r.bs.take (r.dur + kq)) r.dur := ⟨_, rfl⟩
      have hR2 : RsOk E2 (re.set j r') := hR.set (r := r') hok' (by rw [hE2, hr']) (by rw [hE2, hr'])
      have hK2 : dkOk E2 := by rw [hE2]; exact set_ok hK hfm (by rw [htl, hc]; omega)
      have hfo2 : firmOk E2 := by rw [hE2]; exact hfo.set (by rw [htl]; omega)
      have hE2r : E2.room = D.room ∧ E2.left = D.left := by rw [hE2]; exact hEr
      rw [← hE2] at hcut
      replace hs := rs_swapX (r' := r') hr (by rw [hr']; exact hs)
      rw [← hr1, ← hr2] at hs
      refine D_en ?re ?_
      case re =>
        exact Reks_nil
      refine D_nil ?_
      refine n_then ?_
      refine W_region ?_
      refine s_move rfl rfl ?_
      refine s_move rfl rfl ?_
      first | (refine s_add' rfl rfl rfl ?hx ?_; case hx => (constructor <;> first | omega | (simp only; omega))) | refine s_add rfl rfl rfl ?_
      refine s_assign rfl rfl ?_
      refine WL_nil ?_
      refine n_blk ?_
      refine n_then ?_
      refine W_region ?_
      refine s_move rfl rfl ?_
      first | (refine s_add' rfl rfl rfl ?hx ?_; case hx => (constructor <;> first | omega | (simp only; omega))) | refine s_add rfl rfl rfl ?_
      refine s_assign rfl rfl ?_
      refine WL_nil ?_
      refine n_loop ?_
      refine ⟨⟨i + 1, bn + kq, E2, re.set j r'⟩, ⟨rfl, rfl, rfl, rfl, rfl, rfl, trivial⟩, ⟨hs, hR2, hK2, hil, ?_, hcut, hfo2, hE2r⟩, by simp only; omega⟩
      simp only; omega
  · skip
    try simp only [decide_eq_true_eq, decide_eq_false_iff_not, gt_iff_lt] at hc22
    rw [List.drop_eq_nil_of_le (by omega), cutL] at hcut
    have hX1 : X.1 = E := by rw [← hcut]
    have hX2 : X.2 = bn := by rw [← hcut]
    clear hcut
    obtain ⟨at0, hat0⟩ : ∃ at0 : Int, at0 = (if 0 ≤ flip ∧ 0 < bn then flip % (8 * (bn : Int)) else -1) := ⟨_, rfl⟩
    have hatr : -1 ≤ at0 ∧ at0 ≤ 1099511627776 := by
      rw [hat0]; split
      · have h1 := Int.emod_nonneg flip (b := 8 * (bn : Int)) (by omega)
        have h2 := Int.emod_lt_of_pos flip (b := 8 * (bn : Int)) (by omega)
        omega
      · omega
    refine W_exit ?_
    refine x_then ?_
    refine x_then ?_
    refine exit_hit ?_
    refine n_then ?_
    refine W_seq ?_
    refine W_region ?_
    refine s_assign rfl rfl ?_
    refine WL_nil ?_
    refine n_then ?_
    refine W_cut (σ := Unit) (fun _ => [(0, .pointer (some ⟨p, 0, none⟩)), (6, .slice av (filesV D).length cv), (12, .int .i64 at0)]) (fun _ w => St (ids L0) w0 w ((p, Blk 50 [.int .i64 D.room, .slice (some ⟨gB, 0, none⟩) 64 64, .slice (some ⟨gF, 0, none⟩) 64 64, .bool D.off, .int .i64 D.plan]) :: (gB, Blk 39 (rvs re)) :: (gF, Blk 3 (rds re)) :: (rblks re ++ Lv))) ?_ ?_
    · skip
      refine W_seq ?_
      refine W_region ?_
      refine s_move rfl rfl ?_
      refine s_geq rfl rfl rfl ?_
      refine s_move rfl rfl ?_
      refine WL_case (s := 85) rfl (fun hg85 => ?_) (fun hg85 => ?_)
      · skip
        try simp only [decide_eq_true_eq, decide_eq_false_iff_not, gt_iff_lt] at hg85
        refine WL_take rfl ?_
        refine s_move rfl rfl ?_
        refine WL_take rfl ?_
        refine s_gtr rfl rfl rfl ?_
        refine s_pick_t rfl rfl rfl ?_
        refine WL_nil ?_
        refine n_then ?_
        refine W_cond rfl (fun hc88 => ?_) (fun hc88 => ?_)
        · skip
          try simp only [decide_eq_true_eq, decide_eq_false_iff_not, gt_iff_lt] at hc88
          refine W_region ?_
          refine s_move rfl rfl ?_
          refine s_move rfl rfl ?_
          first | (refine s_mul' rfl rfl rfl ?hx ?_; case hx => (constructor <;> first | omega | (simp only; omega))) | refine s_mul rfl rfl rfl ?_
          first | (refine s_rem' rfl rfl rfl ?hx ?_; case hx => (refine ⟨?_, ?_⟩ <;> omega)) | (refine s_rem rfl rfl rfl ?hx ?_; case hx => omega)
          refine s_assign rfl rfl ?_
          refine WL_nil ?_
          refine n_loop ?_
          first
            | (rw [hat0, if_pos (by omega)]; exact ⟨(), ⟨rfl, rfl, rfl, trivial⟩, hs⟩)
            | (rw [hat0, if_neg (by omega)]; exact ⟨(), ⟨rfl, rfl, rfl, trivial⟩, hs⟩)
        · skip
          try simp only [decide_eq_true_eq, decide_eq_false_iff_not, gt_iff_lt] at hc88
          refine W_skip ?_
          refine n_loop ?_
          first
            | (rw [hat0, if_pos (by omega)]; exact ⟨(), ⟨rfl, rfl, rfl, trivial⟩, hs⟩)
            | (rw [hat0, if_neg (by omega)]; exact ⟨(), ⟨rfl, rfl, rfl, trivial⟩, hs⟩)
      · skip
        try simp only [decide_eq_true_eq, decide_eq_false_iff_not, gt_iff_lt] at hg85
        refine WL_skip rfl rfl rfl ?_
        refine WL_skip rfl rfl rfl ?_
        refine s_pick_f rfl rfl rfl ?_
        refine WL_nil ?_
        refine n_then ?_
        refine W_cond_f rfl ?_
        refine W_skip ?_
        refine n_loop ?_
        first
          | (rw [hat0, if_pos (by omega)]; exact ⟨(), ⟨rfl, rfl, rfl, trivial⟩, hs⟩)
          | (rw [hat0, if_neg (by omega)]; exact ⟨(), ⟨rfl, rfl, rfl, trivial⟩, hs⟩)
    · skip
      clear hs
      rintro - w hs
      obtain ⟨Y, hY⟩ : ∃ Y, Y = invL (filesV D) at0 E := ⟨_, rfl⟩
      have hYE : Y = (if 0 ≤ flip ∧ 0 < X.2 then invL (filesV D) (flip % (8 * (X.2 : Int))) X.1 else X.1) := by
        rw [hX1, hX2, hY, hat0]
        by_cases h : 0 ≤ flip ∧ 0 < bn
        · rw [if_pos h, if_pos h]
        · rw [if_neg h, if_neg h, invL_neg _ _ _ hfo (by omega)]
      have hend : ∀ Z : Dk, Z = Y.solid → { Z with off := false, armed := false } = D.crash keep flip := by
        intro Z hZ
        rw [hZ, hYE, hX]; rfl
      clear hYE hX1 hX2 hbn hi64 hi hat0
      refine W_seq ?_
      refine W_seq ?_
      refine W_region ?_
      refine s_assign rfl rfl ?_
      refine WL_nil ?_
      refine n_then ?_
      refine W_block ?_
      refine W_loop (σ := Rc2) (fun s => [(0, .pointer (some ⟨p, 0, none⟩)), (6, .slice av (filesV D).length cv), (12, .int .i64 s.at_), (13, .int .i64 (s.i : Int))]) (fun s w => St (ids L0) w0 w ((p, Blk 50 [.int .i64 D.room, .slice (some ⟨gB, 0, none⟩) 64 64, .slice (some ⟨gF, 0, none⟩) 64 64, .bool D.off, .int .i64 D.plan]) :: (gB, Blk 39 (rvs s.rs)) :: (gF, Blk 3 (rds s.rs)) :: (rblks s.rs ++ Lv)) ∧ RsOk s.E s.rs ∧ dkOk s.E ∧ s.i ≤ (filesV D).length ∧ (-1 - (s.i : Int) * 134217728 ≤ s.at_ ∧ s.at_ ≤ 1099511627776) ∧ invL ((filesV D).drop s.i) s.at_ s.E = Y ∧ (s.E.room = D.room ∧ s.E.left = D.left)) (fun s => (filesV D).length - s.i) ⟨0, at0, E, re⟩ ⟨rfl, rfl, rfl, rfl, trivial⟩ ⟨hs, hR, hK, Nat.zero_le _, ⟨by simp only; omega, hatr.2⟩, by rw [hY]; rfl, hEr⟩ ?_
      clear hs hR hK hY hrl hatr hEr hfo
      clear E re at0
      rintro ⟨i, at_, E, re⟩ w ⟨hs, hR, hK, hi, hatr, hinv, hEr⟩
      simp only at hs hR hK hi hatr hinv hEr ⊢
      have hrl := rvs_length hR
      refine W_seq ?_
      refine W_seq ?_
      refine W_region ?_
      refine s_move rfl rfl ?_
      refine s_move rfl rfl ?_
      refine s_len rfl rfl (LN22 _ _ _ _) ?_
      refine s_lss rfl rfl rfl ?_
      refine WL_nil ?_
      refine n_then ?_
      refine W_cond rfl (fun hc96 => ?_) (fun hc96 => ?_)
      · skip
        try simp only [decide_eq_true_eq, decide_eq_false_iff_not, gt_iff_lt] at hc96
        have hil : i < (filesV D).length := by omega
        obtain ⟨f, hfi⟩ : ∃ f, (filesV D)[i]? = some f := ⟨_, List.getElem?_eq_getElem hil⟩
        have hfm := hff f (List.mem_of_getElem? hfi)
        have hdrop : (filesV D).drop i = f :: (filesV D).drop (i + 1) := by
          rw [List.drop_eq_getElem_cons hil]; congr 1; rw [List.getElem?_eq_getElem hil] at hfi; exact Option.some.inj hfi
        rw [hdrop, invL] at hinv
        obtain ⟨b1, o1, hA1, hc1⟩ := (OwnS_slIn hO (w := w) fun p hp => hs.own p (by simp [hp])).at (k := i) (u := .int .i64 f) (by rw [List.getElem?_map, hfi]; rfl)
        obtain ⟨j, rfl⟩ : ∃ j : Nat, f = (j : Int) := ⟨f.toNat, by omega⟩
        have hj64 : j < 64 := by omega
        obtain ⟨r, hr, hok, hc, hd, hrv, hdv⟩ := hR.get hj64
        obtain ⟨_, cr, ar, hrvv, hrvl⟩ := hok.1.form
        rw [hrvl] at hrvv
        rw [hrvv] at hrv
        have hrlen := (hR.good_len hK hr).1
        have hrd := hok.2.1
        rw [hc, hd] at hinv
        obtain ⟨R, hperm, hback⟩ := rw_open hr
        have hi64 : (i : Int) * 134217728 ≤ 64 * 134217728 := by omega
        refine W_skip ?_
        refine n_then ?_
        refine W_seq ?_
        refine W_block ?_
        refine W_seq ?_
        refine W_region ?_
        refine s_move rfl rfl ?_
        refine s_move rfl rfl ?_
        (refine s_indexAddrO El22 rfl rfl rfl hA1 ?hx ?_; case hx => (constructor <;> omega))
        refine s_load Tryz.isAgg3 rfl rfl (by rw [Int.toNat_natCast]; exact hc1) ?_
        refine s_assign rfl rfl ?_
        refine WL_nil ?_
        refine n_then ?_
        refine W_seq ?_
        refine W_region ?_
        refine s_move rfl rfl ?_
        refine s_nilCheck rfl rfl ?_
        refine s_fieldAddr rfl rfl (FA50_2 _ _) ?_
        first
          | refine s_load Tryz.isAgg22 rfl rfl (hs.cell (k := 0) rfl rfl) ?_
        refine s_move rfl rfl ?_
        (refine s_indexAddr1 El22 rfl rfl rfl ?hx ?_; case hx => (constructor <;> first | omega | (simp; omega)))
        refine s_load Tryz.isAgg3 rfl rfl (hs.cell (k := 2) rfl (by rw [Nat.zero_add, Int.toNat_natCast]; exact hdv)) ?_
        refine s_assign rfl rfl ?_
        refine WL_nil ?_
        refine n_then ?_
        refine W_block ?_
        replace hs := rs_openX hperm hs
        have hOr := hok.1
        rw [hrvv] at hOr
        refine W_loop (σ := Rc3) (fun s => [(0, .pointer (some ⟨p, 0, none⟩)), (6, .slice av (filesV D).length cv), (12, .int .i64 (at_ - 8 * ((s.k : Int) - r.dur))), (13, .int .i64 (i : Int)), (14, .int .i64 (j : Int)), (15, .int .i64 (s.k : Int))]) (fun s w => St (ids L0) w0 w ((p, Blk 50 [.int .i64 D.room, .slice (some ⟨gB, 0, none⟩) 64 64, .slice (some ⟨gF, 0, none⟩) 64 64, .bool D.off, .int .i64 D.plan]) :: (gB, Blk 39 (rvs re)) :: (gF, Blk 3 (rds re)) :: (s.L ++ (R ++ Lv))) ∧ (r.dur ≤ s.k ∧ s.k ≤ r.bs.length) ∧ OwnS 5 1 (.slice ar r.bs.length cr) r.bs.length (u8s (invK r.bs r.dur at_ s.k)) s.L) (fun s => r.bs.length - s.k) ⟨r.dur, r.L⟩ ⟨rfl, rfl, (by show _ = some (Value.int .i64 (at_ - 8 * ((r.dur : Int) - r.dur))); rw [show at_ - 8 * ((r.dur : Int) - r.dur) = at_ by omega]; rfl), rfl, rfl, rfl, trivial⟩ ⟨hs, ⟨Nat.le_refl _, hrd⟩, by simp only; rw [invK_start]; exact hOr⟩ ?_
        clear hs hOr
        rintro ⟨k, Lk⟩ w ⟨hs, hk, hOk⟩
        simp only at hs hk hOk ⊢
        have hkl2 := invK_length r.bs r.dur at_ k
        refine W_seq ?_
        refine W_seq ?_
        refine W_region ?_
        refine s_move rfl rfl ?_
        refine s_move rfl rfl ?_
        refine s_nilCheck rfl rfl ?_
        refine s_fieldAddr rfl rfl (FA50_1 _ _) ?_
        first
          | refine s_load Tryz.isAgg29 rfl rfl (hs.cell (k := 0) rfl rfl) ?_
        refine s_move rfl rfl ?_
        (refine s_indexAddr1 El29 rfl rfl rfl ?hx ?_; case hx => (constructor <;> first | omega | (simp; omega)))
        refine s_load Tryz.isAgg39 rfl rfl (hs.cell (k := 1) rfl (by rw [Nat.zero_add, Int.toNat_natCast]; exact hrv)) ?_
        refine s_len rfl rfl (LN39 _ _ _ _) ?_
        refine s_lss rfl rfl rfl ?_
        refine WL_nil ?_
        refine n_then ?_
        refine W_cond rfl (fun hc119 => ?_) (fun hc119 => ?_)
        · skip
          try simp only [decide_eq_true_eq, decide_eq_false_iff_not, gt_iff_lt] at hc119
          have hkl : k < r.bs.length := by omega
          obtain ⟨z, hz⟩ : ∃ z, r.bs[k]? = some z := ⟨_, List.getElem?_eq_getElem hkl⟩
          have hzB := hok.2.2 z (List.mem_of_getElem? hz)
          obtain ⟨g, hga, hcap, -, sp, hLk⟩ := OwnS.spot hOk (by omega)
          refine W_skip ?_
          refine n_then ?_
          refine W_seq ?_
          refine W_block ?_
          refine W_seq ?_
          refine W_seq ?_
          refine W_region ?_
          refine s_move rfl rfl ?_
          refine s_geq rfl rfl rfl ?_
          refine s_move rfl rfl ?_
          refine WL_case (s := 124) rfl (fun hg124 => ?_) (fun hg124 => ?_)
          · skip
            try simp only [decide_eq_true_eq, decide_eq_false_iff_not, gt_iff_lt] at hg124
            refine WL_take rfl ?_
            refine s_move rfl rfl ?_
            refine WL_take rfl ?_
            refine s_lss rfl rfl rfl ?_
            refine s_pick_t rfl rfl rfl ?_
            refine WL_nil ?_
            refine n_then ?_
            refine W_cond rfl (fun hc127 => ?_) (fun hc127 => ?_)
            · skip
              try simp only [decide_eq_true_eq, decide_eq_false_iff_not, gt_iff_lt] at hc127
              obtain ⟨hi1, hi2⟩ := invK_hit (bs := r.bs) (d := r.dur) (at_ := at_) (k := k) (z := z) hk.1 (by first | omega | (constructor <;> omega)) hz
              have hx8 := xbit_facts (k := (at_ - 8 * ((k : Int) - r.dur)).toNat) hzB (by omega)
              rw [hi1] at hLk
              subst hga
              subst hLk
              simp only [List.cons_append, List.nil_append] at hs
              refine W_draw [(0, true, []), (1, true, []), (2, true, []), (3, true, []), (4, true, []), (5, true, []), (6, true, []), (7, true, []), (8, true, []), (9, true, []), (10, true, []), (11, true, []), (12, true, []), (13, true, []), (14, true, []), (15, true, []), (16, true, []), (17, true, []), (18, true, []), (19, true, []), (20, true, []), (21, true, []), (22, true, []), (23, true, []), (24, false, [])] [[], [0], [0, 1], [0, 1, 2], [], [0, 1, 2, 3, 4], [0, 1, 2, 3, 4, 5], [], [], [8], [8, 9], [8, 9, 10], [], [8, 9, 10, 11, 12], [8, 9, 10, 11, 12, 13], [], [8, 9, 10, 11, 12, 13, 14, 15], [8, 9, 10, 11, 12, 13, 14, 15, 16], [], [18], [18, 19], [18, 19, 20], [8, 9, 10, 11, 12, 13, 14, 15, 16, 17, 18, 19, 20, 21], [0, 1, 2, 3, 4, 5, 6, 7, 8, 9, 10, 11, 12, 13, 14, 15, 16, 17, 18, 19, 20, 21, 22], [0, 1, 2, 3, 4, 5, 6, 7, 8, 9, 10, 11, 12, 13, 14, 15, 16, 17, 18, 19, 20, 21, 22, 23]] MX (by kernel_rfl) ?_
              intro w1 hw1 hw2 hw3 hw4; replace hs := hs.redrawn hw1 hw2 hw3 hw4; clear hw1 hw2 hw3 hw4
              obtain ⟨w, rfl⟩ : ∃ w : World, w = w1 := ⟨_, rfl⟩
              refine D_q rfl rfl ?_
              refine s_move rfl rfl ?_
              refine D_qn ?_
              refine D_q rfl rfl ?_
              refine s_nilCheck rfl rfl ?_
              refine D_qn ?_
              refine D_q rfl rfl ?_
              refine s_fieldAddr rfl rfl (FA50_1 _ _) ?_
              refine D_qn ?_
              refine D_q rfl rfl ?_
              first
                | refine s_load Tryz.isAgg29 rfl rfl (hs.cell (k := 0) rfl rfl) ?_
              refine D_qn ?_
              refine D_q rfl rfl ?_
              refine s_move rfl rfl ?_
              refine D_qn ?_
              refine D_q rfl rfl ?_
              (refine s_indexAddr1 El29 rfl rfl rfl ?hx ?_; case hx => (constructor <;> first | omega | (simp; omega)))
              refine D_qn ?_
              refine D_q rfl rfl ?_
              refine s_load Tryz.isAgg39 rfl rfl (hs.cell (k := 1) rfl (by rw [Nat.zero_add, Int.toNat_natCast]; exact hrv)) ?_
              refine D_qn ?_
              refine D_q rfl rfl ?_
              refine s_move rfl rfl ?_
              refine D_qn ?_
              refine D_q rfl rfl ?_
              refine s_move rfl rfl ?_
              refine D_qn ?_
              refine D_q rfl rfl ?_
              refine s_nilCheck rfl rfl ?_
              refine D_qn ?_
              refine D_q rfl rfl ?_
              refine s_fieldAddr rfl rfl (FA50_1 _ _) ?_
              refine D_qn ?_
              refine D_q rfl rfl ?_
              first
                | refine s_load Tryz.isAgg29 rfl rfl (hs.cell (k := 0) rfl rfl) ?_
              refine D_qn ?_
              refine D_q rfl rfl ?_
              refine s_move rfl rfl ?_
              refine D_qn ?_
              refine D_q rfl rfl ?_
              (refine s_indexAddr1 El29 rfl rfl rfl ?hx ?_; case hx => (constructor <;> first | omega | (simp; omega)))
              refine D_qn ?_
              refine D_q rfl rfl ?_
              refine s_load Tryz.isAgg39 rfl rfl (hs.cell (k := 1) rfl (by rw [Nat.zero_add, Int.toNat_natCast]; exact hrv)) ?_
              refine D_qn ?_
              refine D_q rfl rfl ?_
              refine s_move rfl rfl ?_
              refine D_qn ?_
              refine D_q rfl rfl ?_
              (refine s_indexAddr1 El39 rfl rfl rfl ?hx ?_; case hx => (constructor <;> first | omega | (simp; omega)))
              refine D_qn ?_
              refine D_q rfl rfl ?_
              refine s_load Tryz.isAgg5 rfl rfl (hs.cell (k := 3) (v := .int .u8 z) rfl (by rw [Nat.zero_add, Int.toNat_natCast, List.getElem?_append_left (by simpa using hkl), List.getElem?_map, hz]; rfl)) ?_
              refine D_qn ?_
              refine D_q rfl rfl ?_
              refine s_move rfl rfl ?_
              refine D_qn ?_
              refine D_q rfl rfl ?_
              first | (refine s_sub' rfl rfl rfl ?hx ?_; case hx => (constructor <;> first | omega | (simp only; omega))) | refine s_sub rfl rfl rfl ?_
              refine D_qn ?_
              refine D_q rfl rfl ?_
              refine s_convert rfl rfl (CV3_67 _) ?_
              rw [show IntKind.u64.wrap (7 - (at_ - 8 * ((k : Int) - r.dur))) = 7 - (at_ - 8 * ((k : Int) - r.dur)) from by rw [wrapU64]; omega]
              refine D_qn ?_
              refine D_q rfl rfl ?_
              (refine s_shl rfl rfl rfl ?hx ?_; case hx => omega)
              rw [show (7 - (at_ - 8 * ((k : Int) - r.dur))).toNat = 7 - (at_ - 8 * ((k : Int) - r.dur)).toNat by omega]
              refine D_qn ?_
              refine D_q rfl rfl ?_
              refine s_xor rfl rfl rfl ?_
              rw [show min (7 - (at_ - 8 * ((k : Int) - r.dur)).toNat) IntKind.u8.bits = min (7 - (at_ - 8 * ((k : Int) - r.dur)).toNat) 8 from rfl, hx8.2.1]
              refine D_qn ?_
              refine D_q rfl rfl ?_
              (refine s_indexAddr1 El39 rfl rfl rfl ?hx ?_; case hx => (constructor <;> first | omega | (simp; omega)))
              refine D_qn ?_
              refine D_e rfl ?_
              refine s_store Tryz.sizeOf5 rfl rfl rfl hs (kk := 3) rfl (by simp; omega) ?_
              clear hs; intro w hs
              simp only [List.set_cons_zero, List.set_cons_succ, Int.toNat_natCast, Nat.zero_add] at hs
              rw [List.set_append_left _ _ (by simp; omega), ← List.map_set] at hs
              refine D_en ?re ?_
              case re =>
                exact Reks_nil
              refine D_nil ?_
              refine n_then ?_
              refine W_region ?_
              refine s_move rfl rfl ?_
              (refine s_sub' rfl rfl rfl ?hx ?_; case hx => (constructor <;> omega))
              rw [show at_ - 8 * ((k : Int) - r.dur) - 8 = at_ - 8 * (((k + 1 : Nat) : Int) - r.dur) by omega]
              refine s_assign rfl rfl ?_
              refine WL_nil ?_
              refine n_blk ?_
              refine n_then ?_
              refine W_region ?_
              refine s_move rfl rfl ?_
              first | (refine s_add' rfl rfl rfl ?hx ?_; case hx => (constructor <;> first | omega | (simp only; omega))) | refine s_add rfl rfl rfl ?_
              refine s_assign rfl rfl ?_
              refine WL_nil ?_
              refine n_loop ?_
              first
                | (refine ⟨⟨k + 1, [(g, Blk 5 (u8s (r.bs.set k (xbit z (at_ - 8 * ((k : Int) - r.dur)).toNat)) ++ sp))]⟩, ⟨rfl, rfl, rfl, rfl, rfl, rfl, trivial⟩, ⟨hs, by simp only; omega, ?_⟩, by simp only; omega⟩
                   simp only
                   rw [hi2]
                   rw [hi1] at hOk
                   obtain ⟨h1, ⟨⟨a', h2⟩, h3, h4⟩ | ⟨b, cap', sp', h2, h3, h4, h5, h6⟩⟩ := hOk
                   · omega
                   · cases h2
                     have h8 : sp = sp' := by simpa using h6
                     subst h8
                     exact ⟨by simp, .inr ⟨g, _, sp, rfl, h3, h4, by simpa using h5, rfl⟩⟩)
                | (refine ⟨⟨k + 1, Lk⟩, ⟨rfl, rfl, rfl, rfl, rfl, rfl, trivial⟩, ⟨hs, by simp only; omega, ?_⟩, by simp only; omega⟩
                   simp only
                   rw [invK_miss hk.1 (by omega)]; exact hOk)
            · skip
              try simp only [decide_eq_true_eq, decide_eq_false_iff_not, gt_iff_lt] at hc127
              refine W_skip ?_
              refine n_then ?_
              refine W_region ?_
              refine s_move rfl rfl ?_
              (refine s_sub' rfl rfl rfl ?hx ?_; case hx => (constructor <;> omega))
              rw [show at_ - 8 * ((k : Int) - r.dur) - 8 = at_ - 8 * (((k + 1 : Nat) : Int) - r.dur) by omega]
              refine s_assign rfl rfl ?_
              refine WL_nil ?_
              refine n_blk ?_
              refine n_then ?_
              refine W_region ?_
              refine s_move rfl rfl ?_
              first | (refine s_add' rfl rfl rfl ?hx ?_; case hx => (constructor <;> first | omega | (simp only; omega))) | refine s_add rfl rfl rfl ?_
              refine s_assign rfl rfl ?_
              refine WL_nil ?_
              refine n_loop ?_
              first
                | (refine ⟨⟨k + 1, [(g, Blk 5 (u8s (r.bs.set k (xbit z (at_ - 8 * ((k : Int) - r.dur)).toNat)) ++ sp))]⟩, ⟨rfl, rfl, rfl, rfl, rfl, rfl, trivial⟩, ⟨hs, by simp only; omega, ?_⟩, by simp only; omega⟩
                   simp only
                   rw [hi2]
                   rw [hi1] at hOk
                   obtain ⟨h1, ⟨⟨a', h2⟩, h3, h4⟩ | ⟨b, cap', sp', h2, h3, h4, h5, h6⟩⟩ := hOk
                   · omega
                   · cases h2
                     have h8 : sp = sp' := by simpa using h6
                     subst h8
                     exact ⟨by simp, .inr ⟨g, _, sp, rfl, h3, h4, by simpa using h5, rfl⟩⟩)
                | (refine ⟨⟨k + 1, Lk⟩, ⟨rfl, rfl, rfl, rfl, rfl, rfl, trivial⟩, ⟨hs, by simp only; omega, ?_⟩, by simp only; omega⟩
                   simp only
                   rw [invK_miss hk.1 (by omega)]; exact hOk)
          · skip
            try simp only [decide_eq_true_eq, decide_eq_false_iff_not, gt_iff_lt] at hg124
            refine WL_skip rfl rfl rfl ?_
            refine WL_skip rfl rfl rfl ?_
            refine s_pick_f rfl rfl rfl ?_
            refine WL_nil ?_
            refine n_then ?_
            refine W_cond_f rfl ?_
            refine W_skip ?_
            refine n_then ?_
            refine W_region ?_
            refine s_move rfl rfl ?_
            (refine s_sub' rfl rfl rfl ?hx ?_; case hx => (constructor <;> omega))
            rw [show at_ - 8 * ((k : Int) - r.dur) - 8 = at_ - 8 * (((k + 1 : Nat) : Int) - r.dur) by omega]
            refine s_assign rfl rfl ?_
            refine WL_nil ?_
            refine n_blk ?_
            refine n_then ?_
            refine W_region ?_
            refine s_move rfl rfl ?_
            first | (refine s_add' rfl rfl rfl ?hx ?_; case hx => (constructor <;> first | omega | (simp only; omega))) | refine s_add rfl rfl rfl ?_
            refine s_assign rfl rfl ?_
            refine WL_nil ?_
            refine n_loop ?_
            first
              | (refine ⟨⟨k + 1, [(g, Blk 5 (u8s (r.bs.set k (xbit z (at_ - 8 * ((k : Int) - r.dur)).toNat)) ++ sp))]⟩, ⟨rfl, rfl, rfl, rfl, rfl, rfl, trivial⟩, ⟨hs, by simp only; omega, ?_⟩, by simp only; omega⟩
                 simp only
                 rw [hi2]
                 rw [hi1] at hOk
                 obtain ⟨h1, ⟨⟨a', h2⟩, h3, h4⟩ | ⟨b, cap', sp', h2, h3, h4, h5, h6⟩⟩ := hOk
                 · omega
                 · cases h2
                   have h8 : sp = sp' := by simpa using h6
                   subst h8
                   exact ⟨by simp, .inr ⟨g, _, sp, rfl, h3, h4, by simpa using h5, rfl⟩⟩)
              | (refine ⟨⟨k + 1, Lk⟩, ⟨rfl, rfl, rfl, rfl, rfl, rfl, trivial⟩, ⟨hs, by simp only; omega, ?_⟩, by simp only; omega⟩
                 simp only
                 rw [invK_miss hk.1 (by omega)]; exact hOk)
        · skip
          try simp only [decide_eq_true_eq, decide_eq_false_iff_not, gt_iff_lt] at hc119
          have hkk : k = r.bs.length := by omega
          subst hkk
          rw [invK_end] at hOk
          obtain ⟨r', hr'⟩ : ∃ r' : Rw, r' = ⟨.slice ar r.bs.length cr, invF r.bs r.dur at_, r.dur, Lk⟩ := ⟨_, rfl⟩
          have hr1 : rvs (re.set j r') = rvs re := by
            rw [rvs_set, hr']
            apply List.ext_getElem?
            intro j2
            rw [List.getElem?_set]
            split
            · rename_i h; subst h
              rw [hrv]; simp [hrl.1, hj64]
            · rfl
          have hr2 : rds (re.set j r') = rds re := by
            rw [rds_set, hr']
            apply List.ext_getElem?
            intro j2
            rw [List.getElem?_set]
            split
            · rename_i h; subst h
              rw [hdv]; simp [hrl.2, hj64]
            · rfl
          have hok' : r'.ok := by rw [hr']; exact ⟨by simp only; rw [invF_length]; exact hOk, by simp only; rw [invF_length]; exact hrd, invF_isB hok.2.2⟩
          obtain ⟨E2, hE2⟩ : ∃ E2, E2 = E.set (j : Int) (invF r.bs r.dur at_) r.dur := ⟨_, rfl⟩
          have hR2 : RsOk E2 (re.set j r') := hR.set (r := r') hok' (by rw [hE2, hr']) (by rw [hE2, hr'])
          have hK2 : dkOk E2 := by rw [hE2]; exact set_ok hK hfm (by rw [invF_length, hc]; omega)
          have hE2r : E2.room = D.room ∧ E2.left = D.left := by rw [hE2]; exact hEr
          rw [← hE2] at hinv
          have h4 : (Lk ++ R).Perm (rblks (re.set j r')) := by have := hback r'; rw [hr'] at this ⊢; exact this
          replace hs := rs_shutX h4 hs
          rw [← hr1, ← hr2] at hs
          refine W_exit ?_
          refine x_then ?_
          refine x_then ?_
          refine exit_hit ?_
          refine n_blk ?_
          refine n_then ?_
          refine W_region ?_
          refine s_move rfl rfl ?_
          first | (refine s_add' rfl rfl rfl ?hx ?_; case hx => (constructor <;> first | omega | (simp only; omega))) | refine s_add rfl rfl rfl ?_
          refine s_assign rfl rfl ?_
          refine WL_nil ?_
          refine n_loop ?_
          refine ⟨⟨i + 1, at_ - 8 * ((r.bs.length : Int) - r.dur), E2, re.set j r'⟩, ⟨rfl, rfl, rfl, rfl, trivial⟩, ⟨hs, hR2, hK2, hil, ⟨by simp only; omega, by simp only; omega⟩, hinv, hE2r⟩, by simp only; omega⟩
      · skip
        try simp only [decide_eq_true_eq, decide_eq_false_iff_not, gt_iff_lt] at hc96
        rw [List.drop_eq_nil_of_le (by omega), invL] at hinv
        subst hinv
        refine W_exit ?_
        refine x_then ?_
        refine x_then ?_
        refine exit_hit ?_
        refine n_then ?_
        refine W_seq ?_
        refine W_seq ?_
        refine W_region ?_
        refine s_assign rfl rfl ?_
        refine WL_nil ?_
        refine n_then ?_
        refine W_block ?_
        refine W_loop (σ := RsS) (fun s => [(0, .pointer (some ⟨p, 0, none⟩)), (16, .int .i64 (s.k : Int))]) (fun s w => St (ids L0) w0 w ((p, Blk 50 [.int .i64 D.room, .slice (some ⟨gB, 0, none⟩) 64 64, .slice (some ⟨gF, 0, none⟩) 64 64, .bool D.off, .int .i64 D.plan]) :: (gB, Blk 39 (rvs s.rs)) :: (gF, Blk 3 (rds s.rs)) :: (rblks s.rs ++ Lv)) ∧ s.k ≤ 64 ∧ RsOk (E.firm (ints s.k)) s.rs) (fun s => 64 - s.k) ⟨0, re⟩ ⟨rfl, rfl, trivial⟩ ⟨hs, by simp, hR⟩ ?_
        clear hs hR hrl
        rintro ⟨k, rk⟩ w ⟨hs, hk, hRk⟩
        simp only at hs hk hRk ⊢
        refine W_seq ?_
        refine W_seq ?_
        refine W_region ?_
        refine s_move rfl rfl ?_
        refine s_lss rfl rfl rfl ?_
        refine WL_nil ?_
        refine n_then ?_
        refine W_cond rfl (fun hc155 => ?_) (fun hc155 => ?_)
        · skip
          try simp only [decide_eq_true_eq, decide_eq_false_iff_not, gt_iff_lt] at hc155
          have hk64 : k < 64 := by omega
          obtain ⟨r, hr, hok, hc, hd, hv2, hdv⟩ := hRk.get hk64
          have hrl := rvs_length hRk
          obtain ⟨_, cr, ar, hrv, hrvl⟩ := hok.1.form
          rw [hrv, hrvl] at hv2
          refine W_skip ?_
          refine n_then ?_
          refine W_seq ?_
          refine W_block ?_
          refine W_draw [(0, true, []), (1, true, []), (2, true, []), (3, true, []), (4, true, []), (5, true, []), (6, true, []), (7, true, []), (8, true, []), (9, true, []), (10, true, []), (11, true, []), (12, true, []), (13, true, []), (14, false, [])] [[], [0], [0, 1], [0, 1, 2], [], [], [5], [5, 6], [5, 6, 7], [], [5, 6, 7, 8, 9], [5, 6, 7, 8, 9, 10], [5, 6, 7, 8, 9, 10, 11], [0, 1, 2, 3, 4, 5, 6, 7, 8, 9, 10, 11, 12], [0, 1, 2, 3, 4, 5, 6, 7, 8, 9, 10, 11, 12, 13]] MX (by kernel_rfl) ?_
          intro w1 hw1 hw2 hw3 hw4; replace hs := hs.redrawn hw1 hw2 hw3 hw4; clear hw1 hw2 hw3 hw4
          obtain ⟨w, rfl⟩ : ∃ w : World, w = w1 := ⟨_, rfl⟩
          refine D_q rfl rfl ?_
          refine s_move rfl rfl ?_
          refine D_qn ?_
          refine D_q rfl rfl ?_
          refine s_nilCheck rfl rfl ?_
          refine D_qn ?_
          refine D_q rfl rfl ?_
          refine s_fieldAddr rfl rfl (FA50_2 _ _) ?_
          refine D_qn ?_
          refine D_q rfl rfl ?_
          first
            | refine s_load Tryz.isAgg22 rfl rfl (hs.cell (k := 0) rfl rfl) ?_
          refine D_qn ?_
          refine D_q rfl rfl ?_
          refine s_move rfl rfl ?_
          refine D_qn ?_
          refine D_q rfl rfl ?_
          refine s_move rfl rfl ?_
          refine D_qn ?_
          refine D_q rfl rfl ?_
          refine s_nilCheck rfl rfl ?_
          refine D_qn ?_
          refine D_q rfl rfl ?_
          refine s_fieldAddr rfl rfl (FA50_1 _ _) ?_
          refine D_qn ?_
          refine D_q rfl rfl ?_
          first
            | refine s_load Tryz.isAgg29 rfl rfl (hs.cell (k := 0) rfl rfl) ?_
          refine D_qn ?_
          refine D_q rfl rfl ?_
          refine s_move rfl rfl ?_
          refine D_qn ?_
          refine D_q rfl rfl ?_
          (refine s_indexAddr1 El29 rfl rfl rfl ?hx ?_; case hx => (constructor <;> first | omega | (simp; omega)))
          refine D_qn ?_
          refine D_q rfl rfl ?_
          refine s_load Tryz.isAgg39 rfl rfl (hs.cell (k := 1) rfl (by rw [Nat.zero_add, Int.toNat_natCast]; exact hv2)) ?_
          refine D_qn ?_
          refine D_q rfl rfl ?_
          refine s_len rfl rfl (LN39 _ _ _ _) ?_
          refine D_qn ?_
          refine D_q rfl rfl ?_
          (refine s_indexAddr1 El22 rfl rfl rfl ?hx ?_; case hx => (constructor <;> first | omega | (simp; omega)))
          refine D_qn ?_
          refine D_e rfl ?_
          refine s_store Tryz.sizeOf3 rfl rfl rfl hs (kk := 2) rfl (by rw [hrl.2]; omega) ?_
          clear hs; intro w hs
          simp only [List.set_cons_zero, List.set_cons_succ, Int.toNat_natCast, Nat.zero_add] at hs
          refine D_en ?re ?_
          case re =>
            exact Reks_nil
          refine D_nil ?_
          refine n_blk ?_
          refine n_then ?_
          refine W_region ?_
          refine s_move rfl rfl ?_
          first | (refine s_add' rfl rfl rfl ?hx ?_; case hx => (constructor <;> first | omega | (simp only; omega))) | refine s_add rfl rfl rfl ?_
          refine s_assign rfl rfl ?_
          refine WL_nil ?_
          refine n_loop ?_
          have hr1 : rvs (rk.set k { r with dur := r.bs.length }) = rvs rk := by
            rw [rvs_set]
            apply List.ext_getElem?
            intro j2
            rw [List.getElem?_set]
            split
            · rename_i h; subst h
              rw [hv2, hrv, hrvl]; simp [hrl.1, hk64]
            · rfl
          refine ⟨⟨k + 1, rk.set k { r with dur := r.bs.length }⟩, ⟨rfl, rfl, trivial⟩, ⟨?_, by simp only; omega, firm_step hRk hr hok hc⟩, by simp only; omega⟩
          simp only
          rw [hr1, rds_set]
          exact hs.perm (((((rs_same (r' := { r with dur := r.bs.length }) hr rfl).append_right Lv).cons _).cons _).cons _)
        · skip
          try simp only [decide_eq_true_eq, decide_eq_false_iff_not, gt_iff_lt] at hc155
          refine W_exit ?_
          refine x_then ?_
          refine x_then ?_
          refine exit_hit ?_
          refine n_then ?_
          refine W_seq ?_
          refine W_region ?_
          refine s_move rfl rfl ?_
          refine s_nilCheck rfl rfl ?_
          refine s_fieldAddr rfl rfl (FA50_3 _ _) ?_
          first
            | refine s_storeB Tryz.sizeOf4 rfl rfl rfl hs (kk := 0) rfl rfl ?_
          clear hs; intro w hs; try simp only [List.set_cons_zero, List.set_cons_succ, splice, List.take_succ_cons, List.take_zero, List.drop_succ_cons, List.drop_zero, List.nil_append, List.cons_append, List.length_cons, List.length_nil, Nat.reduceAdd, List.append_assoc] at hs
          refine WL_nil ?_
          refine n_then ?_
          refine W_region ?_
          refine s_move rfl rfl ?_
          refine s_nilCheck rfl rfl ?_
          refine s_fieldAddr rfl rfl (FA50_4 _ _) ?_
          first
            | refine s_storeB Tryz.sizeOf3 rfl rfl rfl hs (kk := 0) rfl rfl ?_
          clear hs; intro w hs; try simp only [List.set_cons_zero, List.set_cons_succ, splice, List.take_succ_cons, List.take_zero, List.drop_succ_cons, List.drop_zero, List.nil_append, List.cons_append, List.length_cons, List.length_nil, Nat.reduceAdd, List.append_assoc] at hs
          refine WL_nil ?_
          have hk64 : k = 64 := by omega
          subst hk64
          have hE := hend E.solid rfl
          have hfin : RefAt p (D.crash keep flip) (RL p gB gF (D.crash keep flip) rk) := by
            refine RefAt.mk ?_ ?_
            · rw [← hE]; exact (firm_ints hRk).of rfl rfl
            · rw [← hE]; exact ⟨hK.1, fun h => by cases h⟩
          refine end0' rfl ⟨_, ?_, hfin⟩
          have h1 : rdCells (D.crash keep flip) gB gF = [.int .i64 D.room, .slice (some ⟨gB, 0, none⟩) 64 64, .slice (some ⟨gF, 0, none⟩) 64 64, .bool false, .int .i64 (-1)] := by
            rw [← hE, ← hEr.1]; rfl
          unfold RL
          rw [h1]
          exact St_left3 hs
end Go.Proofs.YtkappdlbpilghaaGreat
