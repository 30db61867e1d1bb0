/- A group of replicas. -/
import Derived.Test.YtkobigdfijeajaaRpP
import Derived.Test.YtkobigdfijeajaaCut
import Derived.Test.YtkobigdfijeajaaNetD
import Derived.Test.YtkobigdfijeajaaSfK
import Derived.Test.YtkobigdfijeajaaRpQ
set_option linter.unusedVariables false
set_option linter.unusedSimpArgs false
namespace Go.Proofs.Ytkobigdfijeajaa
open Go.SL
def ptrs (ps : List Nat) : List Value := ps.map fun p => Value.pointer (some ⟨p, 0, none⟩)
/-- the replicas of a group: their places, their blocks -/
def GrpAt (ps : List Nat) (R : Nat → Rp) (Ls : List Hp) : Prop := ps.length = Ls.length ∧ ∀ i p L, ps[i]? = some p → Ls[i]? = some L → RepAt p (R i) L
def R0of (k : Nat) (i : Nat) : Rp := ⟨i, k, 0, 0, 0, [], 0, fun _ => 0⟩
structure GpS where
  i : Nat
  ps : List Nat
  Ls : List Hp
  v : Value
  LG : Hp
set_option maxHeartbeats 2000000 in
theorem group_ok (k : Nat) (hk : 1 ≤ k ∧ k ≤ 3) (w0 : World) :
    Ret Try.prog 26 [.int .i64 (k : Int)].toArray w0 fun r w' => ∃ ps Ls LG, OwnS 25 1 r k (ptrs ps) LG ∧ ps.length = k ∧ GrpAt ps (R0of k) Ls ∧ St [] w0 w' (LG ++ Ls.flatten) := by
  refine Ret_start fun w hs => ?_
  refine Ret_of Try.func26 rfl Try.ntmps26 rfl ?_
  refine W_seq ?_
  refine W_region ?_
  refine s_assign rfl rfl ?_
  refine WL_nil ?_
  refine n_then ?_
  refine W_seq ?_
  refine W_region ?_
  refine s_assign rfl rfl ?_
  refine WL_nil ?_
  refine n_then ?_
  refine W_seq ?_
  refine W_seq ?_
  refine W_region ?_
  refine s_assign rfl rfl ?_
  refine WL_nil ?_
  refine n_then ?_
  refine W_block ?_
  refine W_loop (σ := GpS) (fun s => [(0, .int .i64 (k : Int)), (3, s.v), (4, .int .i64 (s.i : Int))])
    (fun s w => St [] w0 w (s.LG ++ s.Ls.flatten) ∧ OwnS 25 1 s.v s.i (ptrs s.ps) s.LG ∧ s.ps.length = s.i ∧ GrpAt s.ps (R0of k) s.Ls ∧ s.i ≤ k) (fun s => k - s.i) ⟨0, [], [], .slice none 0 0, []⟩ ⟨rfl, rfl, rfl, trivial⟩ ⟨hs, OwnS.nil _ _, rfl, ⟨rfl, by simp⟩, Nat.zero_le _⟩ ?_
  clear hs
  rintro ⟨i, ps, Ls, v, LG⟩ w ⟨hs, hO, hpl, hG, hi⟩
  simp only at hs hO hpl hG hi ⊢
  refine W_seq ?_
  refine W_seq ?_
  refine W_region ?_
  refine s_move rfl rfl ?_
  refine s_move rfl rfl ?_
  refine s_lss rfl rfl rfl ?_
  refine WL_nil ?_
  refine n_then ?_
  refine W_cond rfl (fun hc9 => ?_) (fun hc9 => ?_)
  · skip
    try simp only [decide_eq_true_eq, decide_eq_false_iff_not] at hc9
    refine W_skip ?_
    refine n_then ?_
    refine W_seq ?_
    refine W_block ?_
    refine W_seq ?_
    refine W_region ?_
    refine s_move rfl rfl ?_
    refine s_move rfl rfl ?_
    refine s_call Try.call8 rfl rfl (start_ok (i : Int) (k : Int) w) ?_
    rintro r w (⟨hbad, -, -⟩ | ⟨-, p, L, rfl, hRA, hst⟩)
    · exfalso; omega
    replace hs := hs.back0 hst
    clear hst
    refine s_move rfl rfl ?_
    refine s_extract rfl rfl rfl ?_
    refine s_extract rfl rfl rfl ?_
    refine s_assign rfl rfl ?_
    refine s_assign rfl rfl ?_
    refine WL_nil ?_
    refine n_then ?_
    refine W_seq ?_
    refine W_seq ?_
    refine W_region ?_
    refine s_move rfl rfl ?_
    refine s_eql_ptr_nil Try.underlying25 rfl rfl rfl ?_
    refine s_move rfl rfl ?_
    refine WL_know (s := 20) (c := false) rfl (rfl) ?_
    refine WL_take rfl ?_
    refine s_move rfl rfl ?_
    refine WL_take rfl ?_
    refine s_neq rfl rfl rfl ?_
    refine s_pick_f rfl rfl rfl ?_
    refine WL_nil ?_
    refine n_then ?_
    refine W_cond_kf rfl (rfl) ?_
    refine W_skip ?_
    refine n_then ?_
    refine W_region ?_
    refine s_move rfl rfl ?_
    refine s_move rfl rfl ?_
    refine s_buildSlice rfl rfl (BS60_1 _) hs ?_; clear hs; intro b26 w hs
    refine s_appendM (M := [_] ++ L) (X := Ls.flatten) El60 rfl rfl rfl hO (by simpa using hs) (hs.sl (k := 0) (ds := [_]) rfl (Nat.le_refl _) (by intro j u hj; rw [Nat.zero_add]; exact hj)) rfl (by simp [Value.oneCell']) (by omega) ?_
    clear hs hO; intro v' w LG' hO hs
    replace hs : St [] w0 w (LG' ++ (Ls ++ [L]).flatten) := by
      rw [List.flatten_append, List.flatten_singleton]
      simpa [cat] using St.reord [[_], L, LG', Ls.flatten] [2, 3, 1] [0] (by simpa [cat] using hs) rfl
    refine s_assign rfl rfl ?_
    refine WL_nil ?_
    refine n_blk ?_
    refine n_then ?_
    refine W_region ?_
    refine s_move rfl rfl ?_
    first | (refine s_add' rfl rfl rfl ?hx ?_; case hx => (constructor <;> first | omega | (simp only; omega)))
    refine s_assign rfl rfl ?_
    refine WL_nil ?_
    refine n_loop ?_
    refine ⟨⟨i + 1, ps ++ [p], Ls ++ [L], v', LG'⟩, ⟨rfl, rfl, rfl, trivial⟩, ⟨hs, ?_, by simp [hpl], ⟨by simp [hG.1], ?_⟩, by simp only; omega⟩, by simp only; omega⟩
    · rw [ptrs, List.map_append]; exact hO
    · intro j q M hj hM
      have hlen := hG.1
      rcases Nat.lt_or_ge j ps.length with hlt | hge
      · rw [List.getElem?_append_left hlt] at hj
        rw [List.getElem?_append_left (by omega)] at hM
        exact hG.2 j q M hj hM
      · rw [List.getElem?_append_right hge] at hj
        rw [List.getElem?_append_right (by omega)] at hM
        have hj0 : j - ps.length = 0 := by
          have := (List.getElem?_eq_some_iff.1 hj).1
          simp at this; omega
        rw [hj0] at hj
        rw [← hlen, hj0] at hM
        simp only [List.getElem?_cons_zero, Option.some.injEq] at hj hM
        subst hj hM
        have : j = i := by omega
        rw [this]; exact hRA
  · skip
    try simp only [decide_eq_true_eq, decide_eq_false_iff_not] at hc9
    refine W_exit ?_
    refine x_then ?_
    refine x_then ?_
    refine exit_hit ?_
    refine n_then ?_
    refine W_seq ?_
    refine W_region ?_
    refine s_move rfl rfl ?_
    refine s_assign rfl rfl ?_
    refine WL_nil ?_
    refine n_then ?_
    refine W_ret ?_
    obtain rfl : i = k := by omega
    exact end1 rfl rfl ⟨ps, Ls, LG, hO, hpl, hG, hs⟩
end Go.Proofs.Ytkobigdfijeajaa

/- Messages are posted. -/
namespace Go.SL
theorem St.apartX {F : List Nat} {w0 w : World} {M L X : Hp} (h : St F w0 w (M ++ (L ++ X))) {b : Nat} (hb : b ∈ ids X) : b ∉ ids L := by
  have := h.right.nodup
  rw [ids_append] at this
  exact fun h2 => (List.nodup_append.1 this).2.2 b h2 b hb rfl
end Go.SL
namespace Go.Proofs.Ytkobigdfijeajaa
open Go.SL
/-- the net holds only messages of a set -/
def NetIn (ms : List Msg) (M : Ms → Prop) : Prop := ms.length ≤ 1000 ∧ ∀ m ∈ ms, m.bs.length ≤ 65536 ∧ ∃ x, M x ∧ m.f = (x.frm : Int) ∧ m.t = (x.to : Int) ∧ m.bs = mesB x.m
structure PoS where
  i : Nat
  ms : List Msg
  LN : Hp
end Go.Proofs.Ytkobigdfijeajaa

/- One replica of a group is lent. -/
namespace Go.Proofs.Ytkobigdfijeajaa
open Go.SL
/-- the blocks of replica i, ahead of the others' -/
theorem flat_pick {Ls : List Hp} {i : Nat} {L : Hp} (h : Ls[i]? = some L) : ∃ X, Ls.flatten.Perm (L ++ X) ∧ ∀ L', (Ls.set i L').flatten.Perm (L' ++ X) := by
  induction Ls generalizing i with
  | nil => simp at h
  | cons a r ih =>
    cases i with
    | zero =>
      simp only [List.getElem?_cons_zero, Option.some.injEq] at h
      subst h
      exact ⟨r.flatten, by rw [List.flatten_cons], fun L' => by rw [List.set_cons_zero, List.flatten_cons]⟩
    | succ i =>
      rw [List.getElem?_cons_succ] at h
      obtain ⟨X, h1, h2⟩ := ih h
      refine ⟨a ++ X, ?_, fun L' => ?_⟩
      · rw [List.flatten_cons]
        exact (h1.append_left a).trans (by rw [← List.append_assoc, ← List.append_assoc]; exact (List.perm_append_comm).append_right X)
      · rw [List.set_cons_succ, List.flatten_cons]
        exact ((h2 L').append_left a).trans (by rw [← List.append_assoc, ← List.append_assoc]; exact (List.perm_append_comm).append_right X)
theorem GrpAt.put {ps : List Nat} {R : Nat → Rp} {Ls : List Hp} {i p : Nat} {L' : Hp} {r : Rp} (h : GrpAt ps R Ls) (hp : ps[i]? = some p) (hr : RepAt p r L') : GrpAt ps (updR R i r) (Ls.set i L') := by
  refine ⟨by rw [List.length_set]; exact h.1, fun j q M hj hM => ?_⟩
  by_cases hij : j = i
  · subst hij
    have hlt : j < Ls.length := by have := (List.getElem?_eq_some_iff.1 hj).1; rw [← h.1]; exact this
    rw [List.getElem?_set_self hlt] at hM
    cases hM
    rw [hp] at hj
    cases hj
    rw [updR_a]; exact hr
  · rw [List.getElem?_set_ne (Ne.symm hij)] at hM
    rw [updR_o r hij]
    exact h.2 j q M hj hM
end Go.Proofs.Ytkobigdfijeajaa

/- play: one event. -/
namespace Go.Proofs.Ytkobigdfijeajaa
open Go.SL
/-- all entries of all logs have a property -/
def AllP (P : En → Prop) (k : Nat) (M : Ms → Prop) (R : Nat → Rp) : Prop := (∀ i, i < k → ∀ e ∈ (R i).log, P e) ∧ ∀ x, M x → ∀ e ∈ x.m.log, P e
structure Sys (k pn : Nat) (ps : List Nat) (R : Nat → Rp) (Ls : List Hp) (gs : List Int) (ms : List Msg) (LN : Hp) (M : Ms → Prop) (P : En → Prop) (C : List En → Prop) : Prop where
  grp : GrpAt ps R Ls
  len : ps.length = k
  net : NetAt pn gs ms LN
  gl : gs.length = k
  nin : NetIn ms M
  inv : ∃ G, Inv k G M R ∧ ∀ l, C l → ∃ T, Com k G M T l
  all : AllP P k M R
theorem AllP.mono {P P' : En → Prop} {k : Nat} {M : Ms → Prop} {R : Nat → Rp} (h : AllP P k M R) (hp : ∀ e, P e → P' e) : AllP P' k M R := ⟨fun i hi e he => hp e (h.1 i hi e he), fun x hx e he => hp e (h.2 x hx e he)⟩
theorem AllP.put {P : En → Prop} {k : Nat} {M : Ms → Prop} {R : Nat → Rp} (h : AllP P k M R) {a : Nat} {r : Rp} {l : List Ms} (hr : ∀ e ∈ r.log, P e) (hl : ∀ x ∈ l, ∀ e ∈ x.m.log, P e) : AllP P k (addM M l) (updR R a r) := by
  refine ⟨fun i hi e he => ?_, fun x hx e he => ?_⟩
  · by_cases hia : i = a
    · rw [hia, updR_a] at he; exact hr e he
    · rw [updR_o r hia] at he; exact h.1 i hi e he
  · rcases hx with hx | hx
    · exact h.2 x hx e he
    · exact hl x hx e he
theorem NetIn.mono {ms : List Msg} {M M' : Ms → Prop} (h : NetIn ms M) (hm : ∀ x, M x → M' x) : NetIn ms M' := ⟨h.1, fun m hmm => by obtain ⟨a, x, b, c⟩ := h.2 m hmm; exact ⟨a, x, hm x b, c⟩⟩
theorem NetIn.drop {ms : List Msg} {M : Ms → Prop} (h : NetIn ms M) (i : Nat) : NetIn (ms.eraseIdx i) M :=
  ⟨by have := h.1; rw [List.length_eraseIdx]; split <;> omega, fun m hm => h.2 m (List.mem_of_mem_eraseIdx hm)⟩
theorem NetIn.again {ms : List Msg} {M : Ms → Prop} (h : NetIn ms M) {i : Nat} {m : Msg} (hm : ms[i]? = some m) (hl : ms.length < 1000) (b : Nat) : NetIn (ms ++ [⟨m.f, m.t, b, m.bs⟩]) M := by
  refine ⟨by rw [List.length_append, List.length_singleton]; omega, fun y hy => ?_⟩
  rcases List.mem_append.1 hy with hy | hy
  · exact h.2 y hy
  · obtain rfl := List.mem_singleton.1 hy
    exact h.2 m (List.mem_of_getElem? hm)
theorem others_len (r : Rp) (m : Mg) : (r.others m).length ≤ r.mem := by rw [Rp.others, List.length_map]; exact r.tos_len _
theorem elect_len (r : Rp) (t : Int) : (r.elect t).2.1.length ≤ 1 + r.mem := by
  rw [Rp.elect]
  split
  · simp
  · split
    · simp
    · split
      · exact Nat.le_trans (others_len _ _) (by omega)
      · split
        · refine Nat.le_trans (others_len _ _) ?_
          show r.mem ≤ 1 + r.mem; omega
        · refine Nat.le_trans (others_len _ _) ?_
          show r.mem ≤ 1 + r.mem; omega
theorem propose_len (r : Rp) (e : En) : (r.propose e).2.1.length ≤ 1 + r.mem := by
  rw [Rp.propose]
  split
  · simp
  · split
    · simp
    · split
      · simp
      · refine Nat.le_trans (others_len _ _) ?_
        show r.mem ≤ 1 + r.mem; omega
theorem recv_len (r : Rp) (m : Mg) (frm : Nat) : (r.recv m frm).2.length ≤ 1 + r.mem := by
  rw [Rp.recv]
  split
  · rw [Rp.ask]; split <;> simp
  · split
    · rw [Rp.vote]
      split
      · simp
      · refine Nat.le_trans (others_len _ _) ?_
        have h9 : (r.lead (some m)).mem = r.mem := (r.heard_same m).2.1
        rw [h9]; omega
    · split
      · rw [Rp.write]; split <;> simp
      · rw [Rp.ack]
        split
        · simp
        · split
          · simp
          · refine Nat.le_trans (others_len _ _) ?_
            show r.mem ≤ 1 + r.mem; omega
/-- one replica has moved and sent messages -/
theorem Sys.put {k pn : Nat} {ps : List Nat} {R : Nat → Rp} {Ls : List Hp} {gs : List Int} {ms ms' : List Msg} {LN LN' LQ : Hp} {M : Ms → Prop} {P P' : En → Prop} {C : List En → Prop} {i p : Nat} {r : Rp} {l0 : List Ms} (S : Sys k pn ps R Ls gs ms LN M P C) (hp : ps[i]? = some p) (hr : RepAt p r LQ)
    (hN : NetAt pn gs ms' LN') (hin : NetIn ms' (addM M l0)) (hI : ∃ G', Inv k G' (addM M l0) (updR R i r) ∧ ∀ l, C l → ∃ T, Com k G' (addM M l0) T l) (hA : AllP P' k (addM M l0) (updR R i r)) : Sys k pn ps (updR R i r) (Ls.set i LQ) gs ms' LN' (addM M l0) P' C :=
  ⟨S.grp.put hp hr, S.len, hN, S.gl, hin, hI, hA⟩
theorem Sys.rep {k pn : Nat} {ps : List Nat} {R : Nat → Rp} {Ls : List Hp} {gs : List Int} {ms : List Msg} {LN : Hp} {M : Ms → Prop} {P : En → Prop} {C : List En → Prop} (S : Sys k pn ps R Ls gs ms LN M P C) {i : Nat} (hi : i < k) : ∃ p L X, ps[i]? = some p ∧ RepAt p (R i) L ∧ Ls.flatten.Perm (L ++ X) ∧ (∀ L', (Ls.set i L').flatten.Perm (L' ++ X)) ∧ (R i).id = i ∧ (R i).mem = k := by
  have h1 := S.len
  have h2 := S.grp.1
  have hp : ps[i]? = some ps[i] := List.getElem?_eq_getElem (by omega)
  have hL : Ls[i]? = some Ls[i] := List.getElem?_eq_getElem (by omega)
  obtain ⟨X, q1, q2⟩ := flat_pick hL
  obtain ⟨G, hG, -⟩ := S.inv
  exact ⟨_, _, X, hp, S.grp.2 i _ _ hp hL, q1, q2, (hG.rep i hi).id, (hG.rep i hi).mem⟩
end Go.Proofs.Ytkobigdfijeajaa
