/- sameReplica; the two groups side by side. -/
import Derived.Test.YtkobigdfijeajaaRsG
set_option linter.unusedVariables false
set_option linter.unusedSimpArgs false
namespace Go.Proofs.Ytkobigdfijeajaa
open Go.SL
theorem take_lenR {R : Rp} (h : R.ok) : (R.log.take R.n).length = R.n := by rw [List.length_take]; have := h.n; omega
set_option maxHeartbeats 4000000 in
theorem sameRep_ok (p q : Nat) (R : Rp) (L Lf LP : Hp) (w0 : World) (hR : RepAt p R L) (hF : FrAt q R Lf LP) (hL : ∀ x ∈ L, w0.heap[x.1]? = some x.2) (hLf : ∀ x ∈ Lf, w0.heap[x.1]? = some x.2) (hP : ∀ x ∈ LP, w0.heap[x.1]? = some x.2) :
    Ret Try.prog 31 [.pointer (some ⟨p, 0, none⟩), .pointer (some ⟨q, 0, none⟩)].toArray w0 fun r w' => Fwd [] w0 w' ∧ r = .bool true := by
  obtain ⟨lv, vd, vt, av, LV, LA, rfl, hlg, _, _, _, _, _, hok⟩ := hF
  obtain ⟨la, lc, rfl⟩ := hlg.form w0 hP
  obtain ⟨es, hes, hrd, hem⟩ := hlg
  have hq := hLf _ List.mem_cons_self
  have hB := (Array.getElem?_eq_some_iff.1 hq).1
  have c2 := cell_blk (i := 2) hq rfl
  have c4 := cell_blk (i := 4) hq rfl
  have c5 := cell_blk (i := 5) hq rfl
  have c6 := cell_blk (i := 6) hq rfl
  obtain ⟨cs, hp, k0, k1, k2, k4⟩ := rep_head hR hL
  have hnn := hok.n
  have hln := hok.log
  have htl := take_lenR hok
  refine Ret_start fun w hs => ?_
  refine Ret_of Try.func31 rfl Try.ntmps31 rfl ?_
  refine W_seq ?_
  refine W_region ?_
  refine s_assign rfl rfl ?_
  refine WL_nil ?_
  refine n_then ?_
  refine W_seq ?_
  refine W_region ?_
  refine s_move rfl rfl ?_
  refine s_call Try.call16 rfl rfl (committed_ok p R L w hR fun x hx => hs.oldH hL (by simp) x hx) ?_
  rintro r w ⟨ys, LBc, LPc, hlg, hst⟩
  replace hs := hs.back0 hst
  clear hst
  obtain ⟨ca, cc, rfl, hyl⟩ := hlg.form
  obtain ⟨hOc, hEc, hec⟩ := hlg
  rw [htl] at hyl hOc ⊢
  have hOc' : OwnS 35 6 (.slice ca R.n cc) ys.length (emcells ys) LBc := hOc
  rw [← hyl] at hOc'
  rw [← hyl]
  refine s_call Try.call34 rfl rfl (plains_ok _ ys LPc w (OwnS_slIn hOc' fun x hx => hs.own x (by simp [hx])) hEc (fun x hx => hs.own x (by simp [hx])) (by omega)) ?_
  rintro r w ⟨LBp, hOq, hst⟩
  replace hs := hs.back0 hst
  clear hst
  obtain ⟨_, qc, qa, rfl, hql⟩ := hOq.form
  subst hql
  have hyok : ∀ y ∈ ys, y.e.bs.length ≤ 1000000 := fun y hy => by
    have h1 := (hok.es y.e (List.mem_of_mem_take (by rw [← hec]; exact List.mem_map_of_mem (f := Em.e) hy))).1
    unfold validP at h1; omega
  refine s_assign rfl rfl ?_
  refine WL_nil ?_
  refine n_then ?_
  refine W_seq ?_
  refine W_draw [(0, true, []), (2, true, []), (3, true, []), (4, true, []), (5, true, []), (1, false, [2, 3, 4, 5]), (6, true, []), (7, true, []), (8, true, []), (10, true, []), (11, true, []), (12, true, []), (13, true, []), (14, true, []), (9, false, [10, 11, 12, 13, 14]), (15, true, []), (16, true, []), (17, true, []), (18, true, []), (19, true, []), (20, true, []), (21, true, []), (22, true, []), (23, true, []), (24, true, []), (25, true, []), (26, true, []), (27, true, []), (28, true, []), (29, true, []), (30, true, []), (31, true, []), (32, false, []), (33, true, []), (34, true, [])] [[], [0], [], [2], [2, 3], [2, 3, 4], [0, 1, 2, 3, 4, 5], [0, 1, 2, 3, 4, 5, 6], [0, 1, 2, 3, 4, 5, 6, 7], [0, 1, 2, 3, 4, 5, 6, 7, 8], [0, 1, 2, 3, 4, 5, 6, 7], [0, 1, 2, 3, 4, 5, 6, 7, 10], [0, 1, 2, 3, 4, 5, 6, 7, 10, 11], [0, 1, 2, 3, 4, 5, 6, 7, 10, 11, 12], [0, 1, 2, 3, 4, 5, 6, 7, 10, 11, 12, 13], [0, 1, 2, 3, 4, 5, 6, 7, 8, 9, 10, 11, 12, 13, 14], [0, 1, 2, 3, 4, 5, 6, 7, 8, 9, 10, 11, 12, 13, 14, 15], [0, 1, 2, 3, 4, 5, 6, 7, 8, 9, 10, 11, 12, 13, 14, 15, 16], [0, 1, 2, 3, 4, 5, 6, 7, 8, 9, 10, 11, 12, 13, 14, 15, 16, 17], [0, 1, 2, 3, 4, 5, 6, 7, 8, 9, 10, 11, 12, 13, 14, 15, 16, 17, 18], [0, 1, 2, 3, 4, 5, 6, 7, 8, 9, 10, 11, 12, 13, 14, 15, 16, 17], [0, 1, 2, 3, 4, 5, 6, 7, 8, 9, 10, 11, 12, 13, 14, 15, 16, 17, 20], [0, 1, 2, 3, 4, 5, 6, 7, 8, 9, 10, 11, 12, 13, 14, 15, 16, 17, 20, 21], [0, 1, 2, 3, 4, 5, 6, 7, 8, 9, 10, 11, 12, 13, 14, 15, 16, 17, 20, 21, 22], [0, 1, 2, 3, 4, 5, 6, 7, 8, 9, 10, 11, 12, 13, 14, 15, 16, 17, 18, 19, 20, 21, 22, 23], [0, 1, 2, 3, 4, 5, 6, 7, 8, 9, 10, 11, 12, 13, 14, 15, 16, 17, 18, 19, 20, 21, 22, 23, 24], [0, 1, 2, 3, 4, 5, 6, 7, 8, 9, 10, 11, 12, 13, 14, 15, 16, 17, 18, 19, 20, 21, 22, 23, 24, 25], [0, 1, 2, 3, 4, 5, 6, 7, 8, 9, 10, 11, 12, 13, 14, 15, 16, 17, 18, 19, 20, 21, 22, 23, 24, 25, 26], [0, 1, 2, 3, 4, 5, 6, 7, 8, 9, 10, 11, 12, 13, 14, 15, 16, 17, 18, 19, 20, 21, 22, 23, 24, 25, 26], [0, 1, 2, 3, 4, 5, 6, 7, 8, 9, 10, 11, 12, 13, 14, 15, 16, 17, 18, 19, 20, 21, 22, 23, 24, 25, 26, 28], [0, 1, 2, 3, 4, 5, 6, 7, 8, 9, 10, 11, 12, 13, 14, 15, 16, 17, 18, 19, 20, 21, 22, 23, 24, 25, 26, 28, 29], [0, 1, 2, 3, 4, 5, 6, 7, 8, 9, 10, 11, 12, 13, 14, 15, 16, 17, 18, 19, 20, 21, 22, 23, 24, 25, 26, 28, 29, 30], [0, 1, 2, 3, 4, 5, 6, 7, 8, 9, 10, 11, 12, 13, 14, 15, 16, 17, 18, 19, 20, 21, 22, 23, 24, 25, 26, 27, 28, 29, 30, 31], [0, 1, 2, 3, 4, 5, 6, 7, 8, 9, 10, 11, 12, 13, 14, 15, 16, 17, 18, 19, 20, 21, 22, 23, 24, 25, 26, 27, 28, 29, 30, 31, 32], [0, 1, 2, 3, 4, 5, 6, 7, 8, 9, 10, 11, 12, 13, 14, 15, 16, 17, 18, 19, 20, 21, 22, 23, 24, 25, 26, 27, 28, 29, 30, 31, 32, 33]] MX (by kernel_rfl) ?_
  intro w1 hw1 hw2 hw3 hw4; replace hs := hs.redrawn hw1 hw2 hw3 hw4; clear hw1 hw2 hw3 hw4
  obtain ⟨w, rfl⟩ : ∃ w : World, w = w1 := ⟨_, rfl⟩
  refine D_q rfl rfl ?_
  refine s_move rfl rfl ?_
  refine D_qn ?_
  refine D_q rfl rfl ?_
  refine s_move rfl rfl ?_
  refine D_qn ?_
  refine D_q rfl rfl ?_
  refine s_nilCheck rfl rfl ?_
  refine D_qn ?_
  refine D_q rfl rfl ?_
  refine s_fieldAddr rfl rfl (FA106_2 _ _) ?_
  refine D_qn ?_
  refine D_q rfl rfl ?_
  first
    | refine s_load Try.isAgg3 rfl rfl (((hs.oldcell (a := ⟨q, 2, none⟩) hB (by simp)).trans c2)) ?_
  refine D_qn ?_
  refine D_e rfl ?_
  refine s_call Try.call20 rfl rfl (term_ok p cs R.term w (hs.oldH (LR := [(p, _)]) (fun x hx => by obtain rfl := List.mem_singleton.1 hx; exact hp) (by simp) _ List.mem_cons_self) k2) ?_
  rintro r w ⟨hst, rfl⟩
  replace hs := hs.back0 hst
  clear hst
  rw [List.nil_append] at hs
  refine D_en ?re ?_
  case re =>
    refine Reks_cons rfl rfl rfl rfl ?_ ?_
    · skip
      refine s_move rfl rfl ?_
      exact Rek_end rfl
    refine Reks_cons rfl rfl rfl rfl ?_ ?_
    · skip
      refine s_nilCheck rfl rfl ?_
      exact Rek_end rfl
    refine Reks_cons rfl rfl rfl rfl ?_ ?_
    · skip
      refine s_fieldAddr rfl rfl (FA106_2 _ _) ?_
      exact Rek_end rfl
    refine Reks_cons rfl rfl rfl rfl ?_ ?_
    · skip
      first
        | refine s_load Try.isAgg3 rfl rfl (((hs.oldcell (a := ⟨q, 2, none⟩) hB (by simp)).trans c2)) ?_
      exact Rek_end rfl
    exact Reks_nil
  refine D_q rfl rfl ?_
  refine s_eql rfl rfl rfl ?_
  refine D_qn ?_
  refine D_q rfl rfl ?_
  refine s_move rfl rfl ?_
  refine WL_know (s := 16) (c := true) rfl ((by simp)) ?_
  refine D_qn ?_
  refine D_q rfl rfl ?_
  refine WL_take rfl ?_
  refine s_move rfl rfl ?_
  refine D_qn ?_
  refine D_q rfl rfl ?_
  refine WL_take rfl ?_
  refine s_move rfl rfl ?_
  refine D_qn ?_
  refine D_q rfl rfl ?_
  refine WL_take rfl ?_
  refine s_nilCheck rfl rfl ?_
  refine D_qn ?_
  refine D_q rfl rfl ?_
  refine WL_take rfl ?_
  refine s_fieldAddr rfl rfl (FA106_6 _ _) ?_
  refine D_qn ?_
  refine D_q rfl rfl ?_
  refine WL_take rfl ?_
  first
    | refine s_load Try.isAgg3 rfl rfl (((hs.oldcell (a := ⟨q, 6, none⟩) hB (by simp)).trans c6)) ?_
  refine D_qn ?_
  refine D_q rfl rfl ?_
  refine WL_take rfl ?_
  refine s_eql rfl rfl rfl ?_
  refine D_qn ?_
  refine D_e rfl ?_
  refine WL_take rfl ?_
  refine s_call Try.call21 rfl rfl (leader_ok p cs R.role w (hs.oldH (LR := [(p, _)]) (fun x hx => by obtain rfl := List.mem_singleton.1 hx; exact hp) (by simp) _ List.mem_cons_self) k4) ?_
  rintro r w ⟨hst, rfl⟩
  replace hs := hs.back0 hst
  clear hst
  rw [List.nil_append] at hs
  refine D_en ?re ?_
  case re =>
    refine Reks_cons rfl rfl rfl rfl ?_ ?_
    · skip
      refine WL_take rfl ?_
      refine s_move rfl rfl ?_
      exact Rek_end rfl
    refine Reks_cons rfl rfl rfl rfl ?_ ?_
    · skip
      refine WL_take rfl ?_
      refine s_nilCheck rfl rfl ?_
      exact Rek_end rfl
    refine Reks_cons rfl rfl rfl rfl ?_ ?_
    · skip
      refine WL_take rfl ?_
      refine s_fieldAddr rfl rfl (FA106_6 _ _) ?_
      exact Rek_end rfl
    refine Reks_cons rfl rfl rfl rfl ?_ ?_
    · skip
      refine WL_take rfl ?_
      first
        | refine s_load Try.isAgg3 rfl rfl (((hs.oldcell (a := ⟨q, 6, none⟩) hB (by simp)).trans c6)) ?_
      exact Rek_end rfl
    refine Reks_cons rfl rfl rfl rfl ?_ ?_
    · skip
      refine WL_take rfl ?_
      refine s_eql rfl rfl rfl ?_
      exact Rek_end rfl
    exact Reks_nil
  refine D_q rfl rfl ?_
  refine WL_take rfl ?_
  refine s_eql_bool Try.underlying4 rfl rfl rfl ?_
  refine D_qn ?_
  refine D_q rfl rfl ?_
  refine s_pick_t rfl rfl rfl ?_
  refine D_qn ?_
  refine D_q rfl rfl ?_
  refine s_move rfl rfl ?_
  refine WL_know (s := 26) (c := true) rfl ((by by_cases h : R.role = 2 <;> simp [h]; omega)) ?_
  refine D_qn ?_
  refine D_q rfl rfl ?_
  refine WL_take rfl ?_
  refine s_move rfl rfl ?_
  refine D_qn ?_
  refine D_q rfl rfl ?_
  refine WL_take rfl ?_
  refine s_len rfl rfl (LN69 _ _ _ _) ?_
  refine D_qn ?_
  refine D_q rfl rfl ?_
  refine WL_take rfl ?_
  refine s_move rfl rfl ?_
  refine D_qn ?_
  refine D_q rfl rfl ?_
  refine WL_take rfl ?_
  refine s_nilCheck rfl rfl ?_
  refine D_qn ?_
  refine D_q rfl rfl ?_
  refine WL_take rfl ?_
  refine s_fieldAddr rfl rfl (FA106_5 _ _) ?_
  refine D_qn ?_
  refine D_q rfl rfl ?_
  refine WL_take rfl ?_
  first
    | refine s_load Try.isAgg3 rfl rfl (((hs.oldcell (a := ⟨q, 5, none⟩) hB (by simp)).trans c5)) ?_
  refine D_qn ?_
  refine D_q rfl rfl ?_
  refine WL_take rfl ?_
  refine s_eql rfl rfl rfl ?_
  refine D_qn ?_
  refine D_q rfl rfl ?_
  refine s_pick_t rfl rfl rfl ?_
  refine D_qn ?_
  refine D_q rfl rfl ?_
  refine s_move rfl rfl ?_
  refine WL_know (s := 35) (c := true) rfl ((by simp; omega)) ?_
  refine D_qn ?_
  refine D_q rfl rfl ?_
  refine WL_take rfl ?_
  refine s_move rfl rfl ?_
  refine D_qn ?_
  refine D_q rfl rfl ?_
  refine WL_take rfl ?_
  refine s_move rfl rfl ?_
  refine D_qn ?_
  refine D_q rfl rfl ?_
  refine WL_take rfl ?_
  refine s_nilCheck rfl rfl ?_
  refine D_qn ?_
  refine D_q rfl rfl ?_
  refine WL_take rfl ?_
  refine s_fieldAddr rfl rfl (FA106_4 _ _) ?_
  refine D_qn ?_
  refine D_q rfl rfl ?_
  refine WL_take rfl ?_
  first
    | refine s_load Try.isAgg69 rfl rfl (((hs.oldcell (a := ⟨q, 4, none⟩) hB (by simp)).trans c4)) ?_
  refine D_qn ?_
  refine D_e rfl ?_
  refine WL_take rfl ?_
  refine s_call Try.call36 rfl rfl (prefix_ok _ _ ys es LPc LP w (OwnS_slIn hOq fun x hx => hs.own x (by simp [hx])) (hrd.sl w (hs.oldH hP (by simp))) hEc hem (fun x hx => hs.own x (by simp [hx])) (hs.oldH hP (by simp)) (by omega) hyok (by rw [hec, hes]; exact List.take_prefix _ _)) ?_
  rintro r w ⟨hst, rfl⟩
  replace hs := hs.fwd1 hst
  clear hst
  refine D_en ?re ?_
  case re =>
    exact Reks_nil
  refine D_q rfl rfl ?_
  refine s_pick_t rfl rfl rfl ?_
  refine D_qn ?_
  refine D_q rfl rfl ?_
  refine s_assign rfl rfl ?_
  refine D_qn ?_
  refine D_nil ?_
  refine n_then ?_
  refine W_ret ?_
  exact end1 rfl rfl ⟨hs.fwd, rfl⟩
end Go.Proofs.Ytkobigdfijeajaa

/- The two groups side by side; the lists of messages. -/
namespace Go.Proofs.Ytkobigdfijeajaa
open Go.SL
theorem sl_at {α : Type} {c : α → List Value} {sz : Nat} (hc : ∀ x, (c x).length = sz) {w : World} {a : Option Addr} {n n' cc : Nat} {xs : List α} {i : Nat} {x : α} (hx : xs[i]? = some x) (hsl : Sl w (.slice a n cc) n' (xs.flatMap c)) (hsz : 0 < sz) :
    ∃ gb go, a = some ⟨gb, go, none⟩ ∧ ∀ j u, j < sz → (c x)[j]? = some u → w.cell? ⟨gb, go + i * sz + j, none⟩ = some u := by
  have hil := (List.getElem?_eq_some_iff.1 hx).1
  have hlen := flat_length hc xs
  have hcc := fun j (u : Value) (hj : j < sz) hu => flat_at' (c := c) (xs := xs) (sp := []) (i := i) (j := j) (u := u) hc hj hx hu
  obtain ⟨gb, go, rfl, hcl⟩ := hsl.addr (by rw [hlen]; exact Nat.mul_pos (by omega) hsz)
  refine ⟨gb, go, rfl, fun j u hj hu => ?_⟩
  have h1 := hcl (i * sz + j) u (by have := hcc j u hj hu; rw [List.append_nil, Nat.zero_add] at this; exact this)
  rw [show go + i * sz + j = go + (i * sz + j) from by omega]; exact h1
def FrsAt (qs : List Nat) (R : Nat → Rp) (Fs : List Hp) (LP : Hp) : Prop := qs.length = Fs.length ∧ ∀ i q L, qs[i]? = some q → Fs[i]? = some L → FrAt q (R i) L LP
theorem FrsAt.mono {qs : List Nat} {R : Nat → Rp} {Fs : List Hp} {LP LP' : Hp} (h : FrsAt qs R Fs LP) (hs : ∀ x ∈ LP, x ∈ LP') : FrsAt qs R Fs LP' := ⟨h.1, fun i q L h1 h2 => FrQ.mono (h.2 i q L h1 h2) hs⟩
theorem FrsAt.put {qs : List Nat} {R : Nat → Rp} {Fs : List Hp} {LP L' : Hp} {i q : Nat} {r : Rp} (h : FrsAt qs R Fs LP) (hp : qs[i]? = some q) (hr : FrAt q r L' LP) : FrsAt qs (updR R i r) (Fs.set i L') LP := by
  refine ⟨by rw [List.length_set]; exact h.1, fun j q' M hj hM => ?_⟩
  by_cases hij : j = i
  · subst hij
    have hlt : j < Fs.length := by have := (List.getElem?_eq_some_iff.1 hj).1; rw [← h.1]; exact this
    rw [List.getElem?_set_self hlt] at hM
    cases hM
    rw [hp] at hj
    cases hj
    rw [updR_a]; exact hr
  · rw [List.getElem?_set_ne (Ne.symm hij)] at hM
    rw [updR_o r hij]
    exact h.2 j q' M hj hM
structure Duo (k : Nat) (ps qs : List Nat) (R : Nat → Rp) (Ls Fs : List Hp) (M : Ms → Prop) (LP : Hp) : Prop where
  grp : GrpAt ps R Ls
  frs : FrsAt qs R Fs LP
  lp : ps.length = k
  lq : qs.length = k
  inv : ∃ G, Inv k G M R
section
variable {k : Nat} {ps qs : List Nat} {R : Nat → Rp} {Ls Fs : List Hp} {M : Ms → Prop} {LP LP' : Hp} {i : Nat}
theorem Duo.mono (D : Duo k ps qs R Ls Fs M LP) (hs : ∀ x ∈ LP, x ∈ LP') : Duo k ps qs R Ls Fs M LP' := ⟨D.grp, D.frs.mono hs, D.lp, D.lq, D.inv⟩
theorem Duo.rep (D : Duo k ps qs R Ls Fs M LP) (hi : i < k) : ∃ p L X q Lf Xf, ps[i]? = some p ∧ RepAt p (R i) L ∧ Ls.flatten.Perm (L ++ X) ∧ (∀ L', (Ls.set i L').flatten.Perm (L' ++ X)) ∧ qs[i]? = some q ∧ FrAt q (R i) Lf LP ∧ Fs.flatten.Perm (Lf ++ Xf) ∧ (∀ L', (Fs.set i L').flatten.Perm (L' ++ Xf)) ∧ (R i).id = i ∧ (R i).mem = k ∧ (1 ≤ (R i).term → (R i).term % (R i).mem = (R i).id → (R i).role ≠ 0) := by
  have h1 := D.lp
  have h2 := D.grp.1
  have h3 := D.lq
  have h4 := D.frs.1
  have hp : ps[i]? = some ps[i] := List.getElem?_eq_getElem (by omega)
  have hL : Ls[i]? = some Ls[i] := List.getElem?_eq_getElem (by omega)
  have hq : qs[i]? = some qs[i] := List.getElem?_eq_getElem (by omega)
  have hF : Fs[i]? = some Fs[i] := List.getElem?_eq_getElem (by omega)
  obtain ⟨X, q1, q2⟩ := flat_pick hL
  obtain ⟨Xf, q3, q4⟩ := flat_pick hF
  obtain ⟨G, hG⟩ := D.inv
  have r := hG.rep i hi
  exact ⟨_, _, X, _, _, Xf, hp, D.grp.2 i _ _ hp hL, q1, q2, hq, D.frs.2 i _ _ hq hF, q3, q4, r.id, r.mem, fun a b => r.own a (by rw [r.mem, r.id] at b; exact b)⟩
theorem Duo.put (D : Duo k ps qs R Ls Fs M LP) {p q : Nat} {r : Rp} {LQ LF : Hp} {l : List Ms} (hp : ps[i]? = some p) (hq : qs[i]? = some q) (hr : RepAt p r LQ) (hf : FrAt q r LF LP') (hs : ∀ x ∈ LP, x ∈ LP') (hI : ∃ G', Inv k G' (addM M l) (updR R i r)) : Duo k ps qs (updR R i r) (Ls.set i LQ) (Fs.set i LF) (addM M l) LP' :=
  ⟨D.grp.put hp hr, (D.frs.mono hs).put hq hf, D.lp, D.lq, hI⟩
theorem Duo.elect (D : Duo k ps qs R Ls Fs M LP) (hi : i < k) (t : Int) : ∃ G', Inv k G' (addM M ((R i).elect t).2.1) (updR R i ((R i).elect t).1) := by
  obtain ⟨G, hG⟩ := D.inv
  obtain ⟨⟨G', _, h⟩, _⟩ := inv_elect hG hi t
  exact ⟨G', h⟩
theorem Duo.propose (D : Duo k ps qs R Ls Fs M LP) (hi : i < k) (e : En) (hB : ∀ b ∈ e.bs, isB b) : ∃ G', Inv k G' (addM M ((R i).propose e).2.1) (updR R i ((R i).propose e).1) := by
  obtain ⟨G, hG⟩ := D.inv
  obtain ⟨⟨G', _, h⟩, _⟩ := inv_prop hG hi e hB
  exact ⟨G', h⟩
/-- what a delivery needs -/
theorem Duo.recv (D : Duo k ps qs R Ls Fs M LP) {x : Ms} (hx : M x) : x.to < k ∧ x.frm < k ∧ x.frm ≠ x.to ∧ x.m.ok ∧ (∃ G', Inv k G' (addM M ((R x.to).recv x.m x.frm).2) (updR R x.to ((R x.to).recv x.m x.frm).1)) ∧
    (x.m.kind = 1 → (R x.to).role = 1 → x.m.term = (R x.to).term → max (R x.to).n x.m.n ≤ ((R x.to).heard x.m).log.length) ∧ (x.m.kind = 2 → (R x.to).term ≤ x.m.term → max (R x.to).n x.m.n ≤ (((R x.to).follow x.m.term).wrote x.m).log.length) := by
  obtain ⟨G, hG⟩ := D.inv
  have q := hG.msg x hx
  obtain ⟨⟨G', _, h⟩, _⟩ := inv_recv hG q.to hx rfl
  refine ⟨q.to, q.frm, q.ne, q.ok, ⟨G', h⟩, fun h1 h2 h3 => ?_, fun h1 h2 => ?_⟩
  · have h4 := (inv_vote hG q.to hx h1 rfl h2 h3).1
    have hk : ¬ k < 2 := by have := q.to; have := q.frm; have := q.ne; omega
    rw [if_neg hk] at h4
    have h5 := (lead_okN (hG.rep x.to q.to).ok q.ok).n
    rw [h4] at h5; exact h5
  · have h4 := wrote_inv hG q.to hx h1 rfl h2
    have h5 := h4.1.ok.n
    rw [h4.2.1] at h5; exact h5
end
/-- the messages that are not delivered yet -/
structure Two (mm : List Mm) (ds : List Dm) (rv mv : Value) (LRl LMd LP : Hp) : Prop where
  eq : mm.map (·.s) = ds.map (·.s)
  hO : OwnF 56 3 rv mm.length (mmcells mm) LRl
  hI : MmsIn mm LP
  hO2 : OwnF 71 7 mv ds.length (dcells ds) LMd
  hI2 : DmsIn ds LP
theorem Two.len {mm : List Mm} {ds : List Dm} {rv mv : Value} {LRl LMd LP : Hp} (h : Two mm ds rv mv LRl LMd LP) : mm.length = ds.length := by have := congrArg List.length h.eq; simpa using this
theorem Two.mono {mm : List Mm} {ds : List Dm} {rv mv : Value} {LRl LMd LP LP' : Hp} (h : Two mm ds rv mv LRl LMd LP) (hs : ∀ x ∈ LP, x ∈ LP') : Two mm ds rv mv LRl LMd LP' := ⟨h.eq, h.hO, h.hI.mono hs, h.hO2, h.hI2.mono hs⟩
structure CkS where
  id : Nat
  R : Nat → Rp
  Ls : List Hp
  Fs : List Hp
  M : Ms → Prop
  mm : List Mm
  ds : List Dm
  rv : Value
  mv : Value
  LRl : Hp
  LMd : Hp
  mx : List Mm
  dx : List Dm
  xv : Value
  yv : Value
  LX : Hp
  LY : Hp
  e : Int
  LP : Hp
/-- what holds behind a call on both sides -/
structure CkI (k : Nat) (ps qs : List Nat) (BG BH : Nat × Obj) (w0 : World) (s : CkS) (w : World) : Prop where
  st : St [] w0 w (BG :: BH :: (s.Ls.flatten ++ (s.Fs.flatten ++ (s.LRl ++ (s.LMd ++ (s.LX ++ (s.LY ++ s.LP)))))))
  duo : Duo k ps qs s.R s.Ls s.Fs s.M s.LP
  two : Two s.mm s.ds s.rv s.mv s.LRl s.LMd s.LP
  out : s.mx.map (·.s) = s.dx.map (·.s)
  ox : OwnS 56 3 s.xv s.mx.length (mmcells s.mx) s.LX
  ix : MmsIn s.mx s.LP
  oy : OwnS 71 7 s.yv s.dx.length (dcells s.dx) s.LY
  iy : DmsIn s.dx s.LP
  all : ∀ x ∈ s.mm.map (·.s), s.M x
  allx : ∀ x ∈ s.mx.map (·.s), s.M x
  few : s.mx.length ≤ 4
  len : s.mm.length ≤ 30
  idk : s.id < k
structure MsS where
  i : Nat
  qs : List Nat
  Fs : List Hp
  v : Value
  LH : Hp
structure LrS where
  i : Nat
  R : Nat → Rp
  Ls : List Hp
  Fs : List Hp
  M : Ms → Prop
  mm : List Mm
  ds : List Dm
  rv : Value
  mv : Value
  LRl : Hp
  LMd : Hp
  LP : Hp
structure LrI (k : Nat) (ps qs : List Nat) (BG BH : Nat × Obj) (w0 : World) (s : LrS) (w : World) : Prop where
  st : St [] w0 w (BG :: BH :: (s.Ls.flatten ++ (s.Fs.flatten ++ (s.LRl ++ (s.LMd ++ s.LP)))))
  duo : Duo k ps qs s.R s.Ls s.Fs s.M s.LP
  two : Two s.mm s.ds s.rv s.mv s.LRl s.LMd s.LP
  all : ∀ x ∈ s.mm.map (·.s), s.M x
  len : s.mm.length ≤ 30
/-- both sides have moved -/
theorem CkI.mk' {k : Nat} {ps qs : List Nat} {BG BH : Nat × Obj} {w0 w : World} {R : Nat → Rp} {Ls Fs : List Hp} {M : Ms → Prop} {mm : List Mm} {ds : List Dm} {rv mv : Value} {LRl LMd LP LP' : Hp} {i p q : Nat} {r : Rp} {l : List Ms} {xv yv : Value} {LQ LF Lr Lf X Xf : Hp} {e : Int}
    (D : Duo k ps qs R Ls Fs M LP) (T : Two mm ds rv mv LRl LMd LP) (hall : ∀ x ∈ mm.map (·.s), M x) (hlen : mm.length ≤ 30) (hi : i < k) (hp : ps[i]? = some p) (hq : qs[i]? = some q) (hr : RepAt p r LQ) (hf : FrAt q r LF LP') (hsub : ∀ x ∈ LP, x ∈ LP') (hI : ∃ G', Inv k G' (addM M l) (updR R i r))
    (hps : (Ls.set i LQ).flatten.Perm (LQ ++ X)) (hqs : (Fs.set i LF).flatten.Perm (LF ++ Xf)) (hx : MsAt xv l Lr) (hy : MdAt yv l Lf LP') (hl : l.length ≤ 4)
    (hs : St [] w0 w (BG :: BH :: ((LQ ++ X) ++ ((LF ++ Xf) ++ (LRl ++ (LMd ++ (Lr ++ (Lf ++ LP')))))))) :
    ∃ mx dx LB LPx, CkI k ps qs BG BH w0 ⟨i, updR R i r, Ls.set i LQ, Fs.set i LF, addM M l, mm, ds, rv, mv, LRl, LMd, mx, dx, xv, yv, LB, Lf, e, LPx ++ LP'⟩ w := by
  obtain ⟨mx, LB, LPx, rfl, hO, hM, hmx⟩ := hx
  obtain ⟨dx, hdx, hO2, hD⟩ := hy
  have hs2 : St [] w0 w (BG :: BH :: ((Ls.set i LQ).flatten ++ ((Fs.set i LF).flatten ++ (LRl ++ (LMd ++ (LB ++ (Lf ++ (LPx ++ LP')))))))) := by
    have h1 : St [] w0 w (BG :: BH :: ((Ls.set i LQ).flatten ++ ((Fs.set i LF).flatten ++ (LRl ++ (LMd ++ ((LB ++ LPx) ++ (Lf ++ LP'))))))) := hs.perm (((hps.symm.append (hqs.symm.append (List.Perm.refl _))).cons _).cons _)
    simpa [cat] using St.reord [[_], [_], (Ls.set i LQ).flatten, (Fs.set i LF).flatten, LRl, LMd, LB, LPx, Lf, LP'] [0, 1, 2, 3, 4, 5, 6, 8, 7, 9] [] (by simpa [cat] using h1) rfl
  refine ⟨mx, dx, LB, LPx, hs2, (D.put hp hq hr hf hsub hI).mono fun x hx => List.mem_append_right _ hx, T.mono fun x hx => List.mem_append_right _ (hsub x hx), by rw [hmx, hdx], hO, hM.mono fun x hx => List.mem_append_left _ hx, hO2, hD.mono fun x hx => List.mem_append_right _ hx, fun x hx => .inl (hall x hx), fun x hx => .inr (by rw [← hmx]; exact hx), ?_, hlen, hi⟩
  have := congrArg List.length hmx
  rw [List.length_map] at this
  show mx.length ≤ 4; omega
end Go.Proofs.Ytkobigdfijeajaa
