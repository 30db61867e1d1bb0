/- A disk: one file taken out and put back; Append, Read, Truncate. -/
import Derived.Test.YtgppcfgnhahnaaaDoorDkB
set_option linter.unusedVariables false
set_option linter.unusedSimpArgs false
namespace Go.Proofs.YtgppcfgnhahnaaaDoor
open Go.SL
def Dk.set (D : Dk) (f : Int) (bs : List Int) (d : Nat) : Dk := { D with c := fun q => if q = f then bs else D.c q, d := fun q => if q = f then d else D.d q }
theorem updI_mid {f : Int} {v u : Value} : ∀ {A : KVs} {B : KVs}, f ∉ A.map Prod.fst → updI f v (A ++ (f, u) :: B) = A ++ (f, v) :: B
  | [], B, _ => by simp [updI]
  | e :: A, B, h => by
    simp only [List.map_cons, List.mem_cons, not_or] at h
    rw [List.cons_append, updI, if_neg h.1, updI_mid h.2]; rfl
theorem delI_mid {f : Int} {u : Value} : ∀ {A : KVs} {B : KVs}, f ∉ A.map Prod.fst → delI f (A ++ (f, u) :: B) = A ++ B
  | [], B, _ => by simp [delI]
  | e :: A, B, h => by
    simp only [List.map_cons, List.mem_cons, not_or] at h
    rw [List.cons_append, delI, if_neg h.1, delI_mid h.2]; rfl
theorem updI_new {f : Int} {v : Value} : ∀ {A : KVs}, f ∉ A.map Prod.fst → updI f v A = A ++ [(f, v)]
  | [], _ => rfl
  | e :: A, h => by
    simp only [List.map_cons, List.mem_cons, not_or] at h
    rw [updI, if_neg h.1, updI_new h.2]; rfl
theorem delI_new {f : Int} : ∀ {A : KVs}, f ∉ A.map Prod.fst → delI f A = A
  | [], _ => rfl
  | e :: A, h => by
    simp only [List.map_cons, List.mem_cons, not_or] at h
    rw [delI, if_neg h.1, delI_new h.2]
theorem fblks_app (A B : List Fl) : fblks (A ++ B) = fblks A ++ fblks B := by simp [fblks]
theorem fkv_app (A B : List Fl) : fkv (A ++ B) = fkv A ++ fkv B := by simp [fkv]
theorem total_set {D : Dk} {f : Int} {bs : List Int} {d : Nat} (hf : 0 ≤ f ∧ f ≤ 63) : total (D.set f bs d).c + (D.c f).length = total D.c + bs.length := by
  have key : ∀ l : List Nat, l.Nodup → f.toNat ∈ l → ((l.map fun (i : Nat) => ((D.set f bs d).c (i : Int)).length).sum + (D.c f).length = (l.map fun (i : Nat) => (D.c (i : Int)).length).sum + bs.length) ∧ True := by
    intro l
    induction l with
    | nil => intro _ h; cases h
    | cons a r ih =>
      intro hn hm
      rw [List.nodup_cons] at hn
      refine ⟨?_, trivial⟩
      simp only [List.map_cons, List.sum_cons]
      by_cases ha : a = f.toNat
      · have haf : (a : Int) = f := by omega
        have hrest : (r.map fun (i : Nat) => ((D.set f bs d).c (i : Int)).length) = r.map fun (i : Nat) => (D.c (i : Int)).length := by
          apply List.map_congr_left
          intro i hi
          have : (i : Int) ≠ f := fun h => hn.1 (by have : i = a := by omega
                                                    rw [← this]; exact hi)
          simp [Dk.set, this]
        rw [hrest, haf]
        simp [Dk.set]; omega
      · have hmr : f.toNat ∈ r := by
          rcases List.mem_cons.1 hm with h | h
          · exact absurd h.symm ha
          · exact h
        have := (ih hn.2 hmr).1
        have hne : (a : Int) ≠ f := by omega
        have h1 : ((D.set f bs d).c (a : Int)) = D.c (a : Int) := by simp [Dk.set, hne]
        rw [h1]; omega
  exact (key (List.range 64) List.nodup_range (by rw [List.mem_range]; omega)).1
theorem len_le_total (D : Dk) {f : Int} (hf : 0 ≤ f ∧ f ≤ 63) : (D.c f).length ≤ total D.c := by
  have := total_set (D := D) (bs := []) (d := 0) hf
  simp only [List.length_nil] at this; omega
/-- the file f, taken out -/
theorem file_open {o : Obj} {D : Dk} {fs : List Fl} (hM : MapI o (fkv fs)) (hF : FilesOk D fs) (f : Int) : ∃ (v : Value) (Lf : Hp) (rest : List Fl),
    OwnS 5 1 v (D.c f).length (u8s (D.c f)) Lf ∧ (lookI f (fkv fs)).getD (.agg #[.slice none 0 0, .int .i64 0]) = cont v (D.d f) ∧ (fblks fs).Perm (Lf ++ fblks rest) ∧ D.d f ≤ (D.c f).length ∧ (∀ b ∈ D.c f, isB b) ∧
    ∀ (v' : Value) (bs : List Int) (d : Nat) (L' : Hp), OwnS 5 1 v' bs.length (u8s bs) L' → (0 ≤ f ∧ f ≤ 63) → d ≤ bs.length → (∀ b ∈ bs, isB b) → (bs = [] → d = 0) → ∃ fs' X, FilesOk (D.set f bs d) fs' ∧ fkv fs' = (if bs.length = 0 then delI f (fkv fs) else updI f (cont v' d) (fkv fs)) ∧ (L' ++ fblks rest).Perm (fblks fs' ++ X) := by
  have hkn := hM.keys
  rw [fkv_keys] at hkn
  by_cases hf : f ∈ fs.map (·.f)
  · obtain ⟨r, hr, rfl⟩ := List.mem_map.1 hf
    obtain ⟨A, B, rfl⟩ := List.append_of_mem hr
    rw [List.map_append, List.map_cons, List.nodup_append, List.nodup_cons] at hkn
    have hA : r.f ∉ A.map (·.f) := fun h => hkn.2.2 _ h _ List.mem_cons_self rfl
    have hB : r.f ∉ B.map (·.f) := hkn.2.1.1
    have hA' : r.f ∉ (fkv A).map Prod.fst := by rw [fkv_keys]; exact hA
    obtain ⟨h1, h2, h3, h4, h5⟩ := hF.ok r hr
    obtain ⟨h6, h7⟩ := hF.is r hr
    have hlk : lookI r.f (fkv (A ++ r :: B)) = some (cont r.v r.dur) := lookI_of_mem hM.keys (by rw [fkv]; exact List.mem_map_of_mem (f := Fl.kv) hr)
    refine ⟨r.v, r.L, A ++ B, by rw [h6]; exact h1, by rw [hlk, h7]; rfl, ?_, by rw [h6, h7]; exact h4, by rw [h6]; exact h5, ?_⟩
    · rw [fblks_app, fblks_app]
      show (fblks A ++ (r.L ++ fblks B)).Perm _
      exact perm_mid _ _ _
    · intro v' bs d L' hO hfr hd hb h0
      have hoth : ∀ q ∈ A ++ B, q.f ≠ r.f := by
        intro q hq h
        rcases List.mem_append.1 hq with hq | hq
        · exact hA (h ▸ List.mem_map_of_mem (f := (·.f)) hq)
        · exact hB (h ▸ List.mem_map_of_mem (f := (·.f)) hq)
      have hin : ∀ q ∈ A ++ B, q ∈ A ++ r :: B := by
        intro q hq
        rcases List.mem_append.1 hq with hq | hq
        · exact List.mem_append_left _ hq
        · exact List.mem_append_right _ (List.mem_cons_of_mem _ hq)
      have hnot : ∀ q, q ≠ r.f → (q ∉ (A ++ B).map (·.f)) → q ∉ (A ++ r :: B).map (·.f) := by
        intro q hq h h2
        rw [List.map_append, List.mem_append] at h h2
        rcases h2 with h2 | h2
        · exact h (.inl h2)
        · rcases List.mem_cons.1 h2 with h2 | h2
          · exact hq h2
          · exact h (.inr h2)
      by_cases hbs : bs = []
      · subst hbs
        refine ⟨A ++ B, L', ⟨fun q hq => hF.ok q (hin q hq), fun q hq => ?_, fun q hq => ?_⟩, ?_, List.perm_append_comm⟩
        · simp only [Dk.set, if_neg (hoth q hq)]; exact hF.is q (hin q hq)
        · by_cases hqf : q = r.f
          · simp [Dk.set, hqf, h0]
          · simp only [Dk.set, if_neg hqf]; exact hF.no q (hnot q hqf hq)
        · rw [if_pos (by simp), fkv_app, fkv_app]
          exact (delI_mid hA').symm
      · refine ⟨A ++ ⟨r.f, v', bs, d, L'⟩ :: B, [], ⟨fun q hq => ?_, fun q hq => ?_, fun q hq => ?_⟩, ?_, ?_⟩
        · rcases List.mem_append.1 hq with hq | hq
          · exact hF.ok q (List.mem_append_left _ hq)
          · rcases List.mem_cons.1 hq with rfl | hq
            · exact ⟨hO, hbs, hfr, hd, hb⟩
            · exact hF.ok q (List.mem_append_right _ (List.mem_cons_of_mem _ hq))
        · rcases List.mem_append.1 hq with hq | hq
          · simp only [Dk.set, if_neg (hoth q (List.mem_append_left _ hq))]; exact hF.is q (List.mem_append_left _ hq)
          · rcases List.mem_cons.1 hq with rfl | hq
            · simp [Dk.set]
            · simp only [Dk.set, if_neg (hoth q (List.mem_append_right _ hq))]; exact hF.is q (List.mem_append_right _ (List.mem_cons_of_mem _ hq))
        · have hqf : q ≠ r.f := fun h => hq (by rw [List.map_append, List.mem_append, List.map_cons, List.mem_cons]; exact .inr (.inl h))
          simp only [Dk.set, if_neg hqf]
          refine hF.no q ?_
          rw [List.map_append, List.map_cons] at hq ⊢; exact hq
        · rw [if_neg (by simpa using hbs), fkv_app, fkv_app]
          exact (updI_mid hA').symm
        · rw [List.append_nil, fblks_app, fblks_app]
          show (L' ++ (fblks A ++ fblks B)).Perm (fblks A ++ (L' ++ fblks B))
          exact perm_mid _ _ _
  · have hf' : f ∉ (fkv fs).map Prod.fst := by rw [fkv_keys]; exact hf
    obtain ⟨h6, h7⟩ := hF.no f hf
    refine ⟨.slice none 0 0, [], fs, by rw [h6]; exact OwnS.nil _ _, by rw [lookI_none hf', h7]; rfl, List.Perm.refl _, by rw [h7]; exact Nat.zero_le _, by rw [h6]; simp, ?_⟩
    intro v' bs d L' hO hfr hd hb h0
    by_cases hbs : bs = []
    · subst hbs
      refine ⟨fs, L', ⟨hF.ok, fun q hq => ?_, fun q hq => ?_⟩, ?_, List.perm_append_comm⟩
      · have : q.f ≠ f := fun h => hf (h ▸ List.mem_map_of_mem (f := (·.f)) hq)
        simp only [Dk.set, if_neg this]; exact hF.is q hq
      · by_cases hqf : q = f
        · simp [Dk.set, hqf, h0]
        · simp only [Dk.set, if_neg hqf]; exact hF.no q hq
      · rw [if_pos (by simp)]; exact (delI_new hf').symm
    · refine ⟨fs ++ [⟨f, v', bs, d, L'⟩], [], ⟨fun q hq => ?_, fun q hq => ?_, fun q hq => ?_⟩, ?_, ?_⟩
      · rcases List.mem_append.1 hq with hq | hq
        · exact hF.ok q hq
        · rw [List.mem_singleton.1 hq]; exact ⟨hO, hbs, hfr, hd, hb⟩
      · rcases List.mem_append.1 hq with hq | hq
        · have : q.f ≠ f := fun h => hf (h ▸ List.mem_map_of_mem (f := (·.f)) hq)
          simp only [Dk.set, if_neg this]; exact hF.is q hq
        · rw [List.mem_singleton.1 hq]; simp [Dk.set]
      · rw [List.map_append, List.mem_append, not_or] at hq
        have hqf : q ≠ f := fun h => hq.2 (by simp [h])
        simp only [Dk.set, if_neg hqf]; exact hF.no q hq.1
      · rw [if_neg (by simpa using hbs), fkv_app, updI_new hf']; rfl
      · rw [List.append_nil, fblks_app]
        show (L' ++ fblks fs).Perm (fblks fs ++ fblks [⟨f, v', bs, d, L'⟩])
        have : fblks [⟨f, v', bs, d, L'⟩] = L' := by simp [fblks]
        rw [this]; exact List.perm_append_comm
end Go.Proofs.YtgppcfgnhahnaaaDoor

/- A disk: Append, Read, Truncate. -/
namespace Go.Proofs.YtgppcfgnhahnaaaDoor
open Go.SL
def Dk.app (D : Dk) (f : Int) (bs : List Int) : Dk × Int :=
  if f < 0 ∨ 63 < f then (D, 1) else if D.off then (D, 18) else if D.room - (total D.c : Int) < (bs.length : Int) then (D, 17)
  else (D.step.1.set f (D.c f ++ bs) (D.d f), if D.step.2 then 18 else 0)
theorem set_step (D : Dk) (f : Int) (bs : List Int) (d : Nat) : (D.step.1.set f bs d).c = (D.set f bs d).c ∧ (D.step.1.set f bs d).d = (D.set f bs d).d := by
  obtain ⟨h1, h2, _⟩ := step_c D
  exact ⟨by simp [Dk.set, h1], by simp [Dk.set, h2]⟩
/-- a disk, one file of which is put anew -/
theorem disk_shut {p m : Nat} {o' : Obj} {D : Dk} {fs fs' : List Fl} {f : Int} {v' : Value} {bs : List Int} {d : Nat} {X : Hp} {E : Dk}
    (hM' : MapI o' (fkv fs')) (hF' : FilesOk (D.set f bs d) fs') (hc : E.c = (D.set f bs d).c) (hd : E.d = (D.set f bs d).d) (hR : (total E.c : Int) ≤ E.room ∧ 0 ≤ E.room ∧ E.room ≤ 16777216) (hA : E.armed = true → 0 ≤ E.left ∧ E.left ≤ 9223372036854775807) :
    DiskAt p E ((p, Blk 60 (dkCells E m)) :: (m, o') :: fblks fs') := ⟨m, o', fs', rfl, hM', hF'.of hc hd, hR, hA⟩
set_option maxHeartbeats 1000000 in
theorem dAppend_ok (p : Nat) (D : Dk) (f : Int) (v : Value) (bs : List Int) (L0 : Hp) (w0 : World) (hD : DiskAt p D L0) (hv : Sl w0 v bs.length (u8s bs)) (hap : ∀ a m c, v = .slice (some a) m c → u8s bs ≠ [] → a.block ∉ ids L0) (hB : ∀ b ∈ bs, isB b) (hs : St (ids L0) w0 w0 L0) :
    Ret Tryd.prog 26 [.pointer (some ⟨p, 0, none⟩), .int .i64 f, v].toArray w0 fun r w' => ∃ L', St (ids L0) w0 w' L' ∧ DiskAt p (D.app f bs).1 L' ∧ r = .int .i64 (D.app f bs).2 := by
  obtain ⟨va, vc, rfl, hvc⟩ := hv.len_le
  have hD0 := hD
  obtain ⟨m, o, fs, hL, hM, hF, hR, hA⟩ := hD
  obtain ⟨v0, Lf, rest, hO0, hlk, hperm, hd0, hB0, hback⟩ := file_open hM hF f
  have hstep := step_c D
  have hsl := step_left D hA
  replace hs : St (ids L0) w0 w0 ((p, Blk 60 (dkCells D m)) :: (m, o) :: (Lf ++ fblks rest)) := by
    have : St (ids L0) w0 w0 ((p, Blk 60 (dkCells D m)) :: (m, o) :: fblks fs) := by rw [hL] at hs ⊢; exact hs
    exact this.perm ((hperm.cons _).cons _)
  have hsb : ∀ w, St (ids L0) w0 w ((p, Blk 60 (dkCells D m)) :: (m, o) :: (Lf ++ fblks rest)) → St (ids L0) w0 w L0 := fun w h => by
    have := h.perm ((hperm.symm.cons _).cons _)
    rw [← hL] at this; exact this
  unfold dkCells at hs
  refine Ret_startL hs fun w hs => ?_
  refine Ret_of Tryd.func26 rfl Tryd.ntmps26 rfl ?_
  refine W_seq ?_
  refine W_region ?_
  refine s_assign rfl rfl ?_
  refine WL_nil ?_
  refine n_then ?_
  refine W_seq ?_
  refine W_block ?_
  refine W_seq ?_
  refine W_region ?_
  refine s_move rfl rfl ?_
  refine s_lss rfl rfl rfl ?_
  refine s_move rfl rfl ?_
  refine WL_case (s := 12) rfl (fun hg12 => ?_) (fun hg12 => ?_)
  · skip
    try simp only [decide_eq_true_eq, decide_eq_false_iff_not, gt_iff_lt] at hg12
    refine WL_skip rfl rfl rfl ?_
    refine WL_skip rfl rfl rfl ?_
    refine s_pick_t rfl rfl rfl ?_
    refine s_assign rfl rfl ?_
    refine WL_nil ?_
    refine n_then ?_
    refine W_cond_t rfl ?_
    refine W_seq ?_
    refine W_region ?_
    refine s_assign rfl rfl ?_
    refine WL_nil ?_
    refine n_then ?_
    refine W_ret ?_
    refine r_blk ?_
    refine r_then ?_
    first
      | (refine end1 rfl rfl ⟨_, hsb w hs, ?_⟩
         first
           | (rw [Dk.app, if_pos (by omega)]; exact ⟨hD0, rfl⟩)
           | (rw [Dk.app, if_neg (by omega), if_pos (by assumption)]; exact ⟨hD0, rfl⟩)
           | (rw [Dk.app, if_neg (by omega), if_neg (by simp [*]), if_pos (by omega)]; exact ⟨hD0, rfl⟩))
      | (refine end1 rfl rfl ⟨_, hfin, ?_⟩
         first
           | (rw [Dk.app, if_neg (by omega), if_neg (by simp [*]), if_neg (by omega)]; simp only [hc51, if_true]; rw [← hE]; exact ⟨hDf, rfl⟩)
           | (rw [Dk.app, if_neg (by omega), if_neg (by simp [*]), if_neg (by omega)]; simp only [hc51]; rw [← hE]; exact ⟨hDf, rfl⟩))
  · skip
    try simp only [decide_eq_true_eq, decide_eq_false_iff_not, gt_iff_lt] at hg12
    refine WL_take rfl ?_
    refine s_move rfl rfl ?_
    refine WL_take rfl ?_
    refine s_gtr rfl rfl rfl ?_
    refine s_pick_f rfl rfl rfl ?_
    refine s_assign rfl rfl ?_
    refine WL_nil ?_
    refine n_then ?_
    refine W_cond rfl (fun hc9 => ?_) (fun hc9 => ?_)
    · skip
      try simp only [decide_eq_true_eq, decide_eq_false_iff_not, gt_iff_lt] at hc9
      refine W_seq ?_
      refine W_region ?_
      refine s_assign rfl rfl ?_
      refine WL_nil ?_
      refine n_then ?_
      refine W_ret ?_
      refine r_blk ?_
      refine r_then ?_
      first
        | (refine end1 rfl rfl ⟨_, hsb w hs, ?_⟩
           first
             | (rw [Dk.app, if_pos (by omega)]; exact ⟨hD0, rfl⟩)
             | (rw [Dk.app, if_neg (by omega), if_pos (by assumption)]; exact ⟨hD0, rfl⟩)
             | (rw [Dk.app, if_neg (by omega), if_neg (by simp [*]), if_pos (by omega)]; exact ⟨hD0, rfl⟩))
        | (refine end1 rfl rfl ⟨_, hfin, ?_⟩
           first
             | (rw [Dk.app, if_neg (by omega), if_neg (by simp [*]), if_neg (by omega)]; simp only [hc51, if_true]; rw [← hE]; exact ⟨hDf, rfl⟩)
             | (rw [Dk.app, if_neg (by omega), if_neg (by simp [*]), if_neg (by omega)]; simp only [hc51]; rw [← hE]; exact ⟨hDf, rfl⟩))
    · skip
      try simp only [decide_eq_true_eq, decide_eq_false_iff_not, gt_iff_lt] at hc9
      refine W_seq ?_
      refine W_region ?_
      refine s_move rfl rfl ?_
      refine s_nilCheck rfl rfl ?_
      refine s_fieldAddr rfl rfl (FA60_3 _ _) ?_
      first
        | refine s_load Tryd.isAgg4 rfl rfl (hs.cell (k := 0) rfl rfl) ?_
        | refine s_load Tryd.isAgg4 rfl rfl (hs.cell (k := 1) rfl rfl) ?_
        | refine s_load Tryd.isAgg4 rfl rfl (hs.cell (k := 2) rfl rfl) ?_
      refine s_assign rfl rfl ?_
      refine WL_nil ?_
      refine n_then ?_
      refine W_cond rfl (fun hc16 => ?_) (fun hc16 => ?_)
      · skip
        try simp only [decide_eq_true_eq, decide_eq_false_iff_not, gt_iff_lt] at hc16
        refine W_seq ?_
        refine W_region ?_
        refine s_assign rfl rfl ?_
        refine WL_nil ?_
        refine n_then ?_
        refine W_ret ?_
        refine r_blk ?_
        refine r_then ?_
        first
          | (refine end1 rfl rfl ⟨_, hsb w hs, ?_⟩
             first
               | (rw [Dk.app, if_pos (by omega)]; exact ⟨hD0, rfl⟩)
               | (rw [Dk.app, if_neg (by omega), if_pos (by assumption)]; exact ⟨hD0, rfl⟩)
               | (rw [Dk.app, if_neg (by omega), if_neg (by simp [*]), if_pos (by omega)]; exact ⟨hD0, rfl⟩))
          | (refine end1 rfl rfl ⟨_, hfin, ?_⟩
             first
               | (rw [Dk.app, if_neg (by omega), if_neg (by simp [*]), if_neg (by omega)]; simp only [hc51, if_true]; rw [← hE]; exact ⟨hDf, rfl⟩)
               | (rw [Dk.app, if_neg (by omega), if_neg (by simp [*]), if_neg (by omega)]; simp only [hc51]; rw [← hE]; exact ⟨hDf, rfl⟩))
      · skip
        try simp only [decide_eq_true_eq, decide_eq_false_iff_not, gt_iff_lt] at hc16
        refine W_seq ?_
        refine W_draw [(0, true, []), (1, true, []), (2, true, []), (3, true, []), (4, true, []), (5, true, []), (6, true, []), (7, true, []), (8, true, []), (9, true, []), (10, true, []), (11, true, []), (12, true, [])] [[], [0], [], [2], [2, 3], [2, 3, 4], [], [6], [6, 7], [6, 7, 8], [2, 3, 4, 5, 6, 7, 8, 9], [0, 1, 2, 3, 4, 5, 6, 7, 8, 9, 10], [0, 1, 2, 3, 4, 5, 6, 7, 8, 9, 10, 11]] MX (by kernel_rfl) ?_
        intro w1 hw1 hw2 hw3 hw4; replace hs := hs.redrawn hw1 hw2 hw3 hw4; clear hw1 hw2 hw3 hw4
        obtain ⟨w, rfl⟩ : ∃ w : World, w = w1 := ⟨_, rfl⟩
        refine D_q rfl rfl ?_
        refine s_move rfl rfl ?_
        refine D_qn ?_
        refine D_q rfl rfl ?_
        refine s_len rfl rfl (LN35 _ _ _ _) ?_
        refine D_qn ?_
        refine D_q rfl rfl ?_
        refine s_move rfl rfl ?_
        refine D_qn ?_
        refine D_q rfl rfl ?_
        refine s_nilCheck rfl rfl ?_
        refine D_qn ?_
        refine D_q rfl rfl ?_
        refine s_fieldAddr rfl rfl (FA60_0 _ _) ?_
        refine D_qn ?_
        refine D_q rfl rfl ?_
        first
          | refine s_load Tryd.isAgg3 rfl rfl (hs.cell (k := 0) rfl rfl) ?_
          | refine s_load Tryd.isAgg3 rfl rfl (hs.cell (k := 1) rfl rfl) ?_
          | refine s_load Tryd.isAgg3 rfl rfl (hs.cell (k := 2) rfl rfl) ?_
        refine D_qn ?_
        refine D_q rfl rfl ?_
        refine s_move rfl rfl ?_
        refine D_qn ?_
        refine D_q rfl rfl ?_
        refine s_nilCheck rfl rfl ?_
        refine D_qn ?_
        refine D_q rfl rfl ?_
        refine s_fieldAddr rfl rfl (FA60_1 _ _) ?_
        refine D_qn ?_
        refine D_q rfl rfl ?_
        first
          | refine s_load Tryd.isAgg3 rfl rfl (hs.cell (k := 0) rfl rfl) ?_
          | refine s_load Tryd.isAgg3 rfl rfl (hs.cell (k := 1) rfl rfl) ?_
          | refine s_load Tryd.isAgg3 rfl rfl (hs.cell (k := 2) rfl rfl) ?_
        refine D_qn ?_
        refine D_q rfl rfl ?_
        first | (refine s_sub' rfl rfl rfl ?hx ?_; case hx => (constructor <;> first | omega | (simp only; omega))) | refine s_sub rfl rfl rfl ?_
        refine D_qn ?_
        refine D_q rfl rfl ?_
        refine s_gtr rfl rfl rfl ?_
        refine D_qn ?_
        refine D_q rfl rfl ?_
        refine s_assign rfl rfl ?_
        refine D_qn ?_
        refine D_nil ?_
        refine n_then ?_
        refine W_cond rfl (fun hc21 => ?_) (fun hc21 => ?_)
        · skip
          try simp only [decide_eq_true_eq, decide_eq_false_iff_not, gt_iff_lt] at hc21
          refine W_seq ?_
          refine W_region ?_
          refine s_assign rfl rfl ?_
          refine WL_nil ?_
          refine n_then ?_
          refine W_ret ?_
          refine r_blk ?_
          refine r_then ?_
          first
            | (refine end1 rfl rfl ⟨_, hsb w hs, ?_⟩
               first
                 | (rw [Dk.app, if_pos (by omega)]; exact ⟨hD0, rfl⟩)
                 | (rw [Dk.app, if_neg (by omega), if_pos (by assumption)]; exact ⟨hD0, rfl⟩)
                 | (rw [Dk.app, if_neg (by omega), if_neg (by simp [*]), if_pos (by omega)]; exact ⟨hD0, rfl⟩))
            | (refine end1 rfl rfl ⟨_, hfin, ?_⟩
               first
                 | (rw [Dk.app, if_neg (by omega), if_neg (by simp [*]), if_neg (by omega)]; simp only [hc51, if_true]; rw [← hE]; exact ⟨hDf, rfl⟩)
                 | (rw [Dk.app, if_neg (by omega), if_neg (by simp [*]), if_neg (by omega)]; simp only [hc51]; rw [← hE]; exact ⟨hDf, rfl⟩))
        · skip
          try simp only [decide_eq_true_eq, decide_eq_false_iff_not, gt_iff_lt] at hc21
          refine W_skip ?_
          refine n_blk ?_
          refine n_then ?_
          refine W_seq ?_
          refine W_region ?_
          refine s_move rfl rfl ?_
          have hfr : 0 ≤ f ∧ f ≤ 63 := by omega
          have hlt := len_le_total D hfr
          have hts := total_set (D := D) (bs := D.c f ++ bs) (d := D.d f) hfr
          simp only [List.length_append] at hts
          refine s_callL (M := []) (L1 := [_]) (X := (m, o) :: (Lf ++ fblks rest)) Tryd.call43 rfl rfl hs (fun h => fails_ok p m D w hA h) ?_
          clear hs; rintro v9 w L9 ⟨rfl, rfl⟩ - hs
          simp only [List.nil_append, List.cons_append] at hs
          obtain ⟨_, c0, a0, rfl, h0l⟩ := hO0.form
          subst h0l
          obtain ⟨E, hE⟩ : ∃ E, E = D.step.1 := ⟨_, rfl⟩
          rw [← hE] at hs
          have hEc : E.c = D.c := by rw [hE]; exact hstep.1
          have hEr : E.room = D.room := by rw [hE]; exact hstep.2.2
          unfold dkCells at hs
          refine s_assign rfl rfl ?_
          refine WL_nil ?_
          refine n_then ?_
          refine W_seq ?_
          refine W_region ?_
          refine s_move rfl rfl ?_
          refine s_nilCheck rfl rfl ?_
          refine s_fieldAddr rfl rfl (FA60_2 _ _) ?_
          first
            | refine s_load Tryd.isAgg58 rfl rfl (hs.cell (k := 0) rfl rfl) ?_
            | refine s_load Tryd.isAgg58 rfl rfl (hs.cell (k := 1) rfl rfl) ?_
            | refine s_load Tryd.isAgg58 rfl rfl (hs.cell (k := 2) rfl rfl) ?_
          refine s_move rfl rfl ?_
          refine s_lookupI Tryd.underlying58 Tryd.underlying3 ZV70 rfl rfl rfl hs (kk := 1) rfl hM ?_
          rw [hlk]
          refine s_alloc rfl AL70 hs ?_; clear hs; intro b8 w hs
          first
            | refine s_storeW Tryd.sizeOf70 rfl rfl rfl rfl hs (kk := 0) rfl rfl ?_
            | refine s_storeW Tryd.sizeOf70 rfl rfl rfl rfl hs (kk := 1) rfl rfl ?_
            | refine s_storeW Tryd.sizeOf70 rfl rfl rfl rfl hs (kk := 2) rfl rfl ?_
            | refine s_storeAB Tryd.sizeOf70 rfl rfl rfl rfl hs (kk := 0) rfl rfl ?_
            | refine s_storeAB Tryd.sizeOf70 rfl rfl rfl rfl hs (kk := 1) rfl rfl ?_
            | refine s_storeAB Tryd.sizeOf70 rfl rfl rfl rfl hs (kk := 2) rfl rfl ?_
          clear hs; intro w hs; try simp only [List.set_cons_zero, List.set_cons_succ, splice, List.take_succ_cons, List.take_zero, List.drop_succ_cons, List.drop_zero, List.nil_append, List.cons_append, List.length_cons, List.length_nil, Nat.reduceAdd, List.append_assoc] at hs
          refine WL_nil ?_
          refine n_then ?_
          refine W_seq ?_
          refine W_region ?_
          refine s_fieldAddr rfl rfl (FA70_0 _ _) ?_
          first
            | refine s_load Tryd.isAgg35 rfl rfl (hs.cell (k := 0) rfl rfl) ?_
            | refine s_load Tryd.isAgg35 rfl rfl (hs.cell (k := 1) rfl rfl) ?_
            | refine s_load Tryd.isAgg35 rfl rfl (hs.cell (k := 2) rfl rfl) ?_
          refine s_move rfl rfl ?_
          refine s_appendM (M := [_, _, _]) (X := fblks rest) El35 rfl rfl rfl hO0 hs (hv.fwd hs.fwd hap) (by simp) (u8s_one _) (by omega) ?_
          clear hs; intro v' w Lv hO' hs
          obtain ⟨_, c', a', rfl, hvl⟩ := hO'.form
          subst hvl
          simp only [List.cons_append, List.nil_append] at hs
          refine s_fieldAddr rfl rfl (FA70_0 _ _) ?_
          first
            | refine s_storeB Tryd.sizeOf35 rfl rfl rfl hs (kk := 0) rfl rfl ?_
            | refine s_storeB Tryd.sizeOf35 rfl rfl rfl hs (kk := 1) rfl rfl ?_
            | refine s_storeB Tryd.sizeOf35 rfl rfl rfl hs (kk := 2) rfl rfl ?_
          clear hs; intro w hs; try simp only [List.set_cons_zero, List.set_cons_succ, splice, List.take_succ_cons, List.take_zero, List.drop_succ_cons, List.drop_zero, List.nil_append, List.cons_append, List.length_cons, List.length_nil, Nat.reduceAdd, List.append_assoc] at hs
          refine WL_nil ?_
          refine n_then ?_
          refine W_seq ?_
          refine W_region ?_
          refine s_move rfl rfl ?_
          refine s_move rfl rfl ?_
          first
            | refine s_loadW Tryd.isAgg70 Tryd.sizeOf70 rfl rfl hs (kk := 0) rfl rfl ?_
            | refine s_loadW Tryd.isAgg70 Tryd.sizeOf70 rfl rfl hs (kk := 1) rfl rfl ?_
            | refine s_loadW Tryd.isAgg70 Tryd.sizeOf70 rfl rfl hs (kk := 2) rfl rfl ?_
            | refine s_load_2 Tryd.isAgg70 Tryd.sizeOf70 rfl rfl (by first | exact hs.cell (k := 0) rfl rfl | exact hs.cell (k := 1) rfl rfl | exact hs.cell (k := 2) rfl rfl) (by first | exact hs.cell (k := 0) rfl rfl | exact hs.cell (k := 1) rfl rfl | exact hs.cell (k := 2) rfl rfl) ?_
          refine s_callL (M := [_]) (L1 := [_, _]) (X := Lv ++ fblks rest) Tryd.call29 rfl rfl hs (fun h => put_ok p m o (fkv fs) E.room (total E.c : Int) E.left f E.off E.armed a' a0 _ c' _ c0 (D.d f : Int) (D.d f : Int) w hM hlk (by rw [hEc]; refine ⟨?_, ?_, ?_, ?_⟩ <;> omega) h) ?_
          clear hs; rintro v9 w L9 ⟨o', rfl, hM'⟩ - hs
          simp only [List.nil_append, List.cons_append] at hs
          replace hs := hs.tail
          obtain ⟨fs', X, hF', hkv, hpm⟩ := hback (.slice a' ((D.c f).length + bs.length) c') (D.c f ++ bs) (D.d f) Lv (by rw [List.length_append, u8s, List.map_append]; exact hO') hfr (by rw [List.length_append]; omega) (fun b hb => by rcases List.mem_append.1 hb with hb | hb; exact hB0 b hb; exact hB b hb) (fun h => by rw [List.append_eq_nil_iff] at h; rw [h.1] at hd0; simpa using hd0)
          rw [List.length_append] at hkv
          rw [← hkv] at hM'
          have hss := set_step D f (D.c f ++ bs) (D.d f)
          rw [← hE] at hss
          have hfin : St (ids L0) w0 w ((p, Blk 60 (dkCells (E.set f (D.c f ++ bs) (D.d f)) m)) :: (m, o') :: fblks fs') := by
            have h1 : St (ids L0) w0 w ((p, Blk 60 (dkCells (E.set f (D.c f ++ bs) (D.d f)) m)) :: (m, o') :: (Lv ++ fblks rest)) := by
              have : (total (E.set f (D.c f ++ bs) (D.d f)).c : Int) = (total E.c : Int) + ((((D.c f).length + bs.length : Nat) : Int) - ((D.c f).length : Int)) := by rw [hss.1, hEc]; omega
              simp only [dkCells, this]; exact hs
            exact (h1.perm ((hpm.cons _).cons _)).left (L := _ :: _ :: fblks fs')
          have hDf : DiskAt p (E.set f (D.c f ++ bs) (D.d f)) ((p, Blk 60 (dkCells (E.set f (D.c f ++ bs) (D.d f)) m)) :: (m, o') :: fblks fs') :=
            disk_shut (v' := .slice a' ((D.c f).length + bs.length) c') (fs := fs) (X := X) hM' hF' hss.1 hss.2 ⟨by rw [hss.1]; show _ ≤ E.room; rw [hEr]; omega, by show 0 ≤ E.room; rw [hEr]; omega, by show E.room ≤ _; rw [hEr]; omega⟩ (by rw [hE]; exact hsl)
          refine WL_nil ?_
          refine n_then ?_
          refine W_seq ?_
          refine W_seq ?_
          refine W_region ?_
          refine s_move rfl rfl ?_
          refine WL_nil ?_
          refine n_then ?_
          refine W_cond rfl (fun hc51 => ?_) (fun hc51 => ?_)
          · skip
            try simp only [decide_eq_true_eq, decide_eq_false_iff_not, gt_iff_lt] at hc51
            refine W_seq ?_
            refine W_region ?_
            refine s_assign rfl rfl ?_
            refine WL_nil ?_
            refine n_then ?_
            refine W_ret ?_
            refine r_then ?_
            first
              | (refine end1 rfl rfl ⟨_, hsb w hs, ?_⟩
                 first
                   | (rw [Dk.app, if_pos (by omega)]; exact ⟨hD0, rfl⟩)
                   | (rw [Dk.app, if_neg (by omega), if_pos (by assumption)]; exact ⟨hD0, rfl⟩)
                   | (rw [Dk.app, if_neg (by omega), if_neg (by simp [*]), if_pos (by omega)]; exact ⟨hD0, rfl⟩))
              | (refine end1 rfl rfl ⟨_, hfin, ?_⟩
                 first
                   | (rw [Dk.app, if_neg (by omega), if_neg (by simp [*]), if_neg (by omega)]; simp only [hc51, if_true]; rw [← hE]; exact ⟨hDf, rfl⟩)
                   | (rw [Dk.app, if_neg (by omega), if_neg (by simp [*]), if_neg (by omega)]; simp only [hc51]; rw [← hE]; exact ⟨hDf, rfl⟩))
          · skip
            try simp only [decide_eq_true_eq, decide_eq_false_iff_not, gt_iff_lt] at hc51
            refine W_skip ?_
            refine n_then ?_
            refine W_seq ?_
            refine W_region ?_
            refine s_assign rfl rfl ?_
            refine WL_nil ?_
            refine n_then ?_
            refine W_ret ?_
            first
              | (refine end1 rfl rfl ⟨_, hsb w hs, ?_⟩
                 first
                   | (rw [Dk.app, if_pos (by omega)]; exact ⟨hD0, rfl⟩)
                   | (rw [Dk.app, if_neg (by omega), if_pos (by assumption)]; exact ⟨hD0, rfl⟩)
                   | (rw [Dk.app, if_neg (by omega), if_neg (by simp [*]), if_pos (by omega)]; exact ⟨hD0, rfl⟩))
              | (refine end1 rfl rfl ⟨_, hfin, ?_⟩
                 first
                   | (rw [Dk.app, if_neg (by omega), if_neg (by simp [*]), if_neg (by omega)]; simp only [hc51, if_true]; rw [← hE]; exact ⟨hDf, rfl⟩)
                   | (rw [Dk.app, if_neg (by omega), if_neg (by simp [*]), if_neg (by omega)]; simp only [hc51]; rw [← hE]; exact ⟨hDf, rfl⟩))
def Dk.readE (D : Dk) (f : Int) : Int := if f < 0 ∨ 63 < f then 1 else if D.off then 18 else 0
def Dk.readV (D : Dk) (f : Int) : List Int := if D.readE f = 0 then D.c f else []
theorem dRead_ok (p : Nat) (D : Dk) (f : Int) (L0 : Hp) (w0 : World) (hD : DiskAt p D L0) (hs : St (ids L0) w0 w0 L0) :
    Ret Tryd.prog 16 [.pointer (some ⟨p, 0, none⟩), .int .i64 f].toArray w0 fun r w' => ∃ L', St (ids L0) w0 w' L' ∧ ∃ u Lr, L' = Lr ++ L0 ∧ r = .tuple #[u, .int .i64 (D.readE f)] ∧ OwnS 5 1 u (D.readV f).length (u8s (D.readV f)) Lr := by
  obtain ⟨m, o, fs, hL, hM, hF, hR, hA⟩ := hD
  obtain ⟨v0, Lf, rest, hO0, hlk, hperm, hd0, hB0, hback⟩ := file_open hM hF f
  replace hs : St (ids L0) w0 w0 ((p, Blk 60 (dkCells D m)) :: (m, o) :: (Lf ++ fblks rest)) := by
    have : St (ids L0) w0 w0 ((p, Blk 60 (dkCells D m)) :: (m, o) :: fblks fs) := by rw [hL] at hs ⊢; exact hs
    exact this.perm ((hperm.cons _).cons _)
  have hsb : ∀ w Lr, St (ids L0) w0 w (Lr ++ ((p, Blk 60 (dkCells D m)) :: (m, o) :: (Lf ++ fblks rest))) → St (ids L0) w0 w (Lr ++ L0) := fun w Lr h => by
    have := h.perm (((hperm.symm.cons (m, o)).cons (p, Blk 60 (dkCells D m))).append_left Lr)
    rw [← hL] at this; exact this
  unfold dkCells at hs
  refine Ret_startL hs fun w hs => ?_
  refine Ret_of Tryd.func16 rfl Tryd.ntmps16 rfl ?_
  refine W_seq ?_
  refine W_region ?_
  refine s_assign rfl rfl ?_
  refine s_assign rfl rfl ?_
  refine WL_nil ?_
  refine n_then ?_
  refine W_seq ?_
  refine W_seq ?_
  refine W_region ?_
  refine s_move rfl rfl ?_
  refine s_lss rfl rfl rfl ?_
  refine s_move rfl rfl ?_
  refine WL_case (s := 8) rfl (fun hg8 => ?_) (fun hg8 => ?_)
  · skip
    try simp only [decide_eq_true_eq, decide_eq_false_iff_not, gt_iff_lt] at hg8
    refine WL_skip rfl rfl rfl ?_
    refine WL_skip rfl rfl rfl ?_
    refine s_pick_t rfl rfl rfl ?_
    refine WL_nil ?_
    refine n_then ?_
    refine W_cond_t rfl ?_
    refine W_seq ?_
    refine W_region ?_
    refine s_assign rfl rfl ?_
    refine s_assign rfl rfl ?_
    refine WL_nil ?_
    refine n_then ?_
    refine W_ret ?_
    refine r_then ?_
    first
      | (have hE : D.readE f = 1 := by rw [Dk.readE, if_pos (by omega)]
         refine end2 rfl rfl rfl ⟨_, hsb w [] hs, _, [], rfl, by rw [hE], ?_⟩
         rw [Dk.readV, if_neg (by rw [hE]; decide)]; exact OwnS.nil _ _)
      | (have hE : D.readE f = 18 := by rw [Dk.readE, if_neg (by omega), if_pos (by assumption)]
         refine end2 rfl rfl rfl ⟨_, hsb w [] hs, _, [], rfl, by rw [hE], ?_⟩
         rw [Dk.readV, if_neg (by rw [hE]; decide)]; exact OwnS.nil _ _)
      | (have hE : D.readE f = 0 := by rw [Dk.readE, if_neg (by omega), if_neg (by simp [*])]
         refine end2 rfl rfl rfl ⟨_, hsb w Lr hs, _, Lr, rfl, by rw [hE], ?_⟩
         rw [Dk.readV, if_pos hE]; exact hOr)
  · skip
    try simp only [decide_eq_true_eq, decide_eq_false_iff_not, gt_iff_lt] at hg8
    refine WL_take rfl ?_
    refine s_move rfl rfl ?_
    refine WL_take rfl ?_
    refine s_gtr rfl rfl rfl ?_
    refine s_pick_f rfl rfl rfl ?_
    refine WL_nil ?_
    refine n_then ?_
    refine W_cond rfl (fun hc11 => ?_) (fun hc11 => ?_)
    · skip
      try simp only [decide_eq_true_eq, decide_eq_false_iff_not, gt_iff_lt] at hc11
      refine W_seq ?_
      refine W_region ?_
      refine s_assign rfl rfl ?_
      refine s_assign rfl rfl ?_
      refine WL_nil ?_
      refine n_then ?_
      refine W_ret ?_
      refine r_then ?_
      first
        | (have hE : D.readE f = 1 := by rw [Dk.readE, if_pos (by omega)]
           refine end2 rfl rfl rfl ⟨_, hsb w [] hs, _, [], rfl, by rw [hE], ?_⟩
           rw [Dk.readV, if_neg (by rw [hE]; decide)]; exact OwnS.nil _ _)
        | (have hE : D.readE f = 18 := by rw [Dk.readE, if_neg (by omega), if_pos (by assumption)]
           refine end2 rfl rfl rfl ⟨_, hsb w [] hs, _, [], rfl, by rw [hE], ?_⟩
           rw [Dk.readV, if_neg (by rw [hE]; decide)]; exact OwnS.nil _ _)
        | (have hE : D.readE f = 0 := by rw [Dk.readE, if_neg (by omega), if_neg (by simp [*])]
           refine end2 rfl rfl rfl ⟨_, hsb w Lr hs, _, Lr, rfl, by rw [hE], ?_⟩
           rw [Dk.readV, if_pos hE]; exact hOr)
    · skip
      try simp only [decide_eq_true_eq, decide_eq_false_iff_not, gt_iff_lt] at hc11
      refine W_skip ?_
      refine n_then ?_
      refine W_seq ?_
      refine W_seq ?_
      refine W_region ?_
      refine s_move rfl rfl ?_
      refine s_nilCheck rfl rfl ?_
      refine s_fieldAddr rfl rfl (FA60_3 _ _) ?_
      first
        | refine s_load Tryd.isAgg4 rfl rfl (hs.cell (k := 0) rfl rfl) ?_
        | refine s_load Tryd.isAgg4 rfl rfl (hs.cell (k := 1) rfl rfl) ?_
        | refine s_load Tryd.isAgg4 rfl rfl (hs.cell (k := 2) rfl rfl) ?_
      refine WL_nil ?_
      refine n_then ?_
      refine W_cond rfl (fun hc15 => ?_) (fun hc15 => ?_)
      · skip
        try simp only [decide_eq_true_eq, decide_eq_false_iff_not, gt_iff_lt] at hc15
        refine W_seq ?_
        refine W_region ?_
        refine s_assign rfl rfl ?_
        refine s_assign rfl rfl ?_
        refine WL_nil ?_
        refine n_then ?_
        refine W_ret ?_
        refine r_then ?_
        first
          | (have hE : D.readE f = 1 := by rw [Dk.readE, if_pos (by omega)]
             refine end2 rfl rfl rfl ⟨_, hsb w [] hs, _, [], rfl, by rw [hE], ?_⟩
             rw [Dk.readV, if_neg (by rw [hE]; decide)]; exact OwnS.nil _ _)
          | (have hE : D.readE f = 18 := by rw [Dk.readE, if_neg (by omega), if_pos (by assumption)]
             refine end2 rfl rfl rfl ⟨_, hsb w [] hs, _, [], rfl, by rw [hE], ?_⟩
             rw [Dk.readV, if_neg (by rw [hE]; decide)]; exact OwnS.nil _ _)
          | (have hE : D.readE f = 0 := by rw [Dk.readE, if_neg (by omega), if_neg (by simp [*])]
             refine end2 rfl rfl rfl ⟨_, hsb w Lr hs, _, Lr, rfl, by rw [hE], ?_⟩
             rw [Dk.readV, if_pos hE]; exact hOr)
      · skip
        try simp only [decide_eq_true_eq, decide_eq_false_iff_not, gt_iff_lt] at hc15
        refine W_skip ?_
        refine n_then ?_
        refine W_seq ?_
        refine W_region ?_
        refine s_move rfl rfl ?_
        refine s_nilCheck rfl rfl ?_
        refine s_fieldAddr rfl rfl (FA60_2 _ _) ?_
        first
          | refine s_load Tryd.isAgg58 rfl rfl (hs.cell (k := 0) rfl rfl) ?_
          | refine s_load Tryd.isAgg58 rfl rfl (hs.cell (k := 1) rfl rfl) ?_
          | refine s_load Tryd.isAgg58 rfl rfl (hs.cell (k := 2) rfl rfl) ?_
        refine s_move rfl rfl ?_
        obtain ⟨_, c0, a0, rfl, h0l⟩ := hO0.form
        subst h0l
        refine s_lookupI Tryd.underlying58 Tryd.underlying3 ZV70 rfl rfl rfl hs (kk := 1) rfl hM ?_
        rw [hlk]
        refine s_field rfl rfl (FD70_0 _ _) ?_
        have hlt := len_le_total D (f := f) (by omega)
        refine s_call Tryd.call41 rfl rfl (clone_ok _ (D.c f) w (OwnS_slIn hO0 fun q hq => hs.own q (by simp [hq])) (by omega)) ?_
        rintro r w ⟨Lr, hOr, hst⟩
        replace hs := St.back0 hs hst
        clear hst
        refine s_assign rfl rfl ?_
        refine s_assign rfl rfl ?_
        refine WL_nil ?_
        refine n_then ?_
        refine W_ret ?_
        first
          | (have hE : D.readE f = 1 := by rw [Dk.readE, if_pos (by omega)]
             refine end2 rfl rfl rfl ⟨_, hsb w [] hs, _, [], rfl, by rw [hE], ?_⟩
             rw [Dk.readV, if_neg (by rw [hE]; decide)]; exact OwnS.nil _ _)
          | (have hE : D.readE f = 18 := by rw [Dk.readE, if_neg (by omega), if_pos (by assumption)]
             refine end2 rfl rfl rfl ⟨_, hsb w [] hs, _, [], rfl, by rw [hE], ?_⟩
             rw [Dk.readV, if_neg (by rw [hE]; decide)]; exact OwnS.nil _ _)
          | (have hE : D.readE f = 0 := by rw [Dk.readE, if_neg (by omega), if_neg (by simp [*])]
             refine end2 rfl rfl rfl ⟨_, hsb w Lr hs, _, Lr, rfl, by rw [hE], ?_⟩
             rw [Dk.readV, if_pos hE]; exact hOr)
end Go.Proofs.YtgppcfgnhahnaaaDoor

/- A disk: opened at a file, shut again; Truncate, Sync. -/
namespace Go.Proofs.YtgppcfgnhahnaaaDoor
open Go.SL
abbrev dkOk (E : Dk) : Prop := ((total E.c : Int) ≤ E.room ∧ 0 ≤ E.room ∧ E.room ≤ 16777216) ∧ (E.armed = true → 0 ≤ E.left ∧ E.left ≤ 9223372036854775807)
/-- a disk opened at the file f -/
structure Opened (p m : Nat) (o : Obj) (D : Dk) (f : Int) (v0 : Value) (Lf R : Hp) (es : KVs) (L0 : Hp) : Prop where
  perm : L0.Perm ((p, Blk 60 (dkCells D m)) :: (m, o) :: (Lf ++ R))
  map : MapI o es
  own : OwnS 5 1 v0 (D.c f).length (u8s (D.c f)) Lf
  look : (lookI f es).getD (.agg #[.slice none 0 0, .int .i64 0]) = cont v0 (D.d f)
  dur : D.d f ≤ (D.c f).length
  byt : ∀ b ∈ D.c f, isB b
  good : dkOk D
  back : ∀ (E : Dk) (v' : Value) (bs : List Int) (d : Nat) (L' : Hp) (o' : Obj), OwnS 5 1 v' bs.length (u8s bs) L' → (0 ≤ f ∧ f ≤ 63) → d ≤ bs.length → (∀ b ∈ bs, isB b) → E.c = (D.set f bs d).c → E.d = (D.set f bs d).d → dkOk E →
    MapI o' (if bs.length = 0 then delI f es else updI f (cont v' d) es) → ∀ (F : List Nat) (w0 w : World) (M : Hp), St F w0 w (M ++ ((p, Blk 60 (dkCells E m)) :: (m, o') :: (L' ++ R))) → ∃ L'', St F w0 w (M ++ L'') ∧ DiskAt p E L''
  same : ∀ (E : Dk), E.c = D.c → E.d = D.d → dkOk E → ∀ (F : List Nat) (w0 w : World) (M : Hp), St F w0 w (M ++ ((p, Blk 60 (dkCells E m)) :: (m, o) :: (Lf ++ R))) → ∃ L'', St F w0 w (M ++ L'') ∧ DiskAt p E L''
theorem disk_open {p : Nat} {D : Dk} {L0 : Hp} (hD : DiskAt p D L0) (f : Int) : ∃ m o v0 Lf R es, Opened p m o D f v0 Lf R es L0 := by
  obtain ⟨m, o, fs, hL, hM, hF, hR, hA⟩ := hD
  obtain ⟨v0, Lf, rest, hO0, hlk, hperm, hd0, hB0, hback⟩ := file_open hM hF f
  refine ⟨m, o, v0, Lf, fblks rest, fkv fs, by rw [hL]; exact (hperm.cons _).cons _, hM, hO0, hlk, hd0, hB0, ⟨hR, hA⟩, ?_, ?_⟩
  rotate_left
  · intro E hc hd hE F w0 w M hs
    refine ⟨_, ?_, m, o, fs, rfl, hM, hF.of hc hd, hE.1, hE.2⟩
    exact hs.perm (((hperm.symm.cons (m, o)).cons (p, Blk 60 (dkCells E m))).append_left M)
  intro E v' bs d L' o' hO hf hd hb hc hdd hE hM' F w0 w M hs
  obtain ⟨fs', X, hF', hkv, hpm⟩ := hback v' bs d L' hO hf hd hb (fun h => by rw [h] at hd; simpa using hd)
  rw [← hkv] at hM'
  refine ⟨_, ?_, m, o', fs', rfl, hM', hF'.of hc hdd, hE.1, hE.2⟩
  have h1 := hs.perm (((hpm.cons (m, o')).cons (p, Blk 60 (dkCells E m))).append_left M)
  have h2 : St F w0 w ((M ++ ((p, Blk 60 (dkCells E m)) :: (m, o') :: fblks fs')) ++ X) := by simpa using h1
  exact h2.left
theorem DiskAt.good {p : Nat} {D : Dk} {L : Hp} (h : DiskAt p D L) : dkOk D := by obtain ⟨m, o, fs, hL, hM, hF, hR, hA⟩ := h; exact ⟨hR, hA⟩
theorem DiskAt.d0 {p : Nat} {D : Dk} {L : Hp} (h : DiskAt p D L) {f : Int} (hf : f ∉ filesV D) : D.c f = [] ∧ D.d f = 0 := by
  obtain ⟨m, o, fs, hL, hM, hF, hR, hA⟩ := h
  exact hF.no f (fun h => hf ((hF.mem f).1 h))
/-- the first files are made durable -/
def Dk.firm (D : Dk) (ks : List Int) : Dk := { D with d := fun f => if f ∈ ks then (D.c f).length else D.d f }
theorem firm_nil (D : Dk) : D.firm [] = D := by simp [Dk.firm]
theorem firm_snoc (D : Dk) (ks : List Int) (f : Int) : (D.firm (ks ++ [f])).c = ((D.firm ks).set f (D.c f) (D.c f).length).c ∧ (D.firm (ks ++ [f])).d = ((D.firm ks).set f (D.c f) (D.c f).length).d := by
  refine ⟨?_, ?_⟩
  · funext q; simp only [Dk.firm, Dk.set]; split
    · rename_i h; rw [h]
    · rfl
  · funext q; simp only [Dk.firm, Dk.set, List.mem_append, List.mem_singleton]
    by_cases h : q = f
    · simp [h]
    · simp [h]
/-- all bytes are durable -/
def Dk.solid (D : Dk) : Dk := { D with d := fun f => (D.c f).length }
theorem firm_all {p : Nat} {D : Dk} {L : Hp} (h : DiskAt p D L) : D.firm (filesV D) = D.solid := by
  simp only [Dk.firm, Dk.solid]
  congr 1
  funext f
  split
  · rfl
  · rename_i hf; obtain ⟨h1, h2⟩ := h.d0 hf; rw [h1, h2]; rfl
def Dk.trunc (D : Dk) (f n : Int) : Dk × Int :=
  if f < 0 ∨ 63 < f ∨ n < 0 ∨ ((D.c f).length : Int) < n then (D, 1) else if D.off then (D, 18) else if D.step.2 then (D.step.1, 18)
  else (D.step.1.set f ((D.c f).take n.toNat) (min (D.d f) n.toNat), 0)
theorem step_ok {D : Dk} (h : dkOk D) : dkOk D.step.1 := by
  obtain ⟨h1, _, h3⟩ := step_c D
  exact ⟨by rw [h1, h3]; exact h.1, step_left D h.2⟩
/-- a disk's head block changed, its files as they were -/
theorem DiskAt.head {p m : Nat} {D E : Dk} {o : Obj} {fs : List Fl} (hM : MapI o (fkv fs)) (hF : FilesOk D fs) (hc : E.c = D.c) (hd : E.d = D.d) (hE : dkOk E) : DiskAt p E ((p, Blk 60 (dkCells E m)) :: (m, o) :: fblks fs) :=
  ⟨m, o, fs, rfl, hM, hF.of hc hd, hE.1, hE.2⟩
theorem OwnS.cut {e size n k : Nat} {g : Option Addr} {c : Nat} {cs : List Value} {Lv : Hp} (h : OwnS e size (.slice g n c) n cs Lv) (hk : k ≤ n) : OwnS e size (.slice g k c) k (cs.take (k * size)) Lv := by
  obtain ⟨h1, ⟨⟨a, h2⟩, h3, h4⟩ | ⟨b, cap', sp, h2, h3, h4, h5, h6⟩⟩ := h
  · cases h2
    have : k = 0 := by omega
    subst this
    refine ⟨by simp, .inl ⟨⟨_, rfl⟩, rfl, h4⟩⟩
  · cases h2
    refine ⟨by rw [List.length_take, h1]; exact Nat.min_eq_left (Nat.mul_le_mul_right _ hk), .inr ⟨b, c, cs.drop (k * size) ++ sp, rfl, by omega, h4, ?_, ?_⟩⟩
    · rw [← List.append_assoc, List.take_append_drop]; exact h5
    · rw [← List.append_assoc, List.take_append_drop]; exact h6
set_option maxHeartbeats 1000000 in
theorem dTrunc_ok (p : Nat) (D : Dk) (f n : Int) (L0 : Hp) (w0 : World) (hD : DiskAt p D L0) (hn : isI64 n) (hs : St (ids L0) w0 w0 L0) :
    Ret Tryd.prog 18 [.pointer (some ⟨p, 0, none⟩), .int .i64 f, .int .i64 n].toArray w0 fun r w' => ∃ L', St (ids L0) w0 w' L' ∧ DiskAt p (D.trunc f n).1 L' ∧ r = .int .i64 (D.trunc f n).2 := by
  unfold isI64 at hn
  have hD0 := hD
  obtain ⟨m, o, v0, Lf, R, es, hP⟩ := disk_open hD f
  have hM := hP.map
  have hlk := hP.look
  have hO0 := hP.own
  have hstep := step_c D
  have hsg := step_ok hP.good
  replace hs : St (ids L0) w0 w0 ((p, Blk 60 (dkCells D m)) :: (m, o) :: (Lf ++ R)) := hs.perm hP.perm
  have hsb : ∀ w, St (ids L0) w0 w ((p, Blk 60 (dkCells D m)) :: (m, o) :: (Lf ++ R)) → St (ids L0) w0 w L0 := fun w h => h.perm hP.perm.symm
  obtain ⟨_, c0, a0, rfl, h0l⟩ := hO0.form
  subst h0l
  unfold dkCells at hs
  refine Ret_startL hs fun w hs => ?_
  refine Ret_of Tryd.func18 rfl Tryd.ntmps18 rfl ?_
  refine W_seq ?_
  refine W_region ?_
  refine s_assign rfl rfl ?_
  refine WL_nil ?_
  refine n_then ?_
  refine W_seq ?_
  refine W_seq ?_
  refine W_region ?_
  refine s_move rfl rfl ?_
  refine s_lss rfl rfl rfl ?_
  refine s_move rfl rfl ?_
  refine WL_case (s := 10) rfl (fun hg10 => ?_) (fun hg10 => ?_)
  · skip
    try simp only [decide_eq_true_eq, decide_eq_false_iff_not, gt_iff_lt] at hg10
    refine WL_skip rfl rfl rfl ?_
    refine WL_skip rfl rfl rfl ?_
    refine s_pick_t rfl rfl rfl ?_
    refine s_move rfl rfl ?_
    refine WL_skip rfl rfl rfl ?_
    refine WL_skip rfl rfl rfl ?_
    refine s_pick_t rfl rfl rfl ?_
    refine s_move rfl rfl ?_
    refine WL_skip rfl rfl rfl ?_
    refine WL_skip rfl rfl rfl ?_
    refine WL_skip rfl rfl rfl ?_
    refine WL_skip rfl rfl rfl ?_
    refine WL_skip rfl rfl rfl ?_
    refine WL_skip rfl rfl rfl ?_
    refine WL_skip rfl rfl rfl ?_
    refine WL_skip rfl rfl rfl ?_
    refine WL_skip rfl rfl rfl ?_
    refine WL_skip rfl rfl rfl ?_
    refine s_pick_t rfl rfl rfl ?_
    refine WL_nil ?_
    refine n_then ?_
    refine W_cond_t rfl ?_
    refine W_seq ?_
    refine W_region ?_
    refine s_assign rfl rfl ?_
    refine WL_nil ?_
    refine n_then ?_
    refine W_ret ?_
    refine r_then ?_
    first
      | (refine end1 rfl rfl ⟨_, hsb w hs, ?_⟩
         first
           | (rw [Dk.trunc, if_pos (by omega)]; exact ⟨hD0, rfl⟩)
           | (rw [Dk.trunc, if_neg (by omega), if_pos (by assumption)]; exact ⟨hD0, rfl⟩))
      | (obtain ⟨L2, hfin, hDf⟩ := hP.same E hEc hEd hsg _ _ w [] hs
         refine end1 rfl rfl ⟨_, hfin, ?_⟩
         rw [Dk.trunc, if_neg (by omega), if_neg (by simp [*]), if_pos (by simp [*])]
         rw [← hE]; exact ⟨hDf, rfl⟩)
      | (refine end1 rfl rfl ⟨_, hfin, ?_⟩
         rw [Dk.trunc, if_neg (by omega), if_neg (by simp [*]), if_neg (by simp [*])]
         rw [← hE]; exact ⟨hDf, rfl⟩)
  · skip
    try simp only [decide_eq_true_eq, decide_eq_false_iff_not, gt_iff_lt] at hg10
    refine WL_take rfl ?_
    refine s_move rfl rfl ?_
    refine WL_take rfl ?_
    refine s_gtr rfl rfl rfl ?_
    refine s_pick_f rfl rfl rfl ?_
    refine s_move rfl rfl ?_
    refine WL_case (s := 14) rfl (fun hg14 => ?_) (fun hg14 => ?_)
    · skip
      try simp only [decide_eq_true_eq, decide_eq_false_iff_not, gt_iff_lt] at hg14
      refine WL_skip rfl rfl rfl ?_
      refine WL_skip rfl rfl rfl ?_
      refine s_pick_t rfl rfl rfl ?_
      refine s_move rfl rfl ?_
      refine WL_skip rfl rfl rfl ?_
      refine WL_skip rfl rfl rfl ?_
      refine WL_skip rfl rfl rfl ?_
      refine WL_skip rfl rfl rfl ?_
      refine WL_skip rfl rfl rfl ?_
      refine WL_skip rfl rfl rfl ?_
      refine WL_skip rfl rfl rfl ?_
      refine WL_skip rfl rfl rfl ?_
      refine WL_skip rfl rfl rfl ?_
      refine WL_skip rfl rfl rfl ?_
      refine s_pick_t rfl rfl rfl ?_
      refine WL_nil ?_
      refine n_then ?_
      refine W_cond_t rfl ?_
      refine W_seq ?_
      refine W_region ?_
      refine s_assign rfl rfl ?_
      refine WL_nil ?_
      refine n_then ?_
      refine W_ret ?_
      refine r_then ?_
      first
        | (refine end1 rfl rfl ⟨_, hsb w hs, ?_⟩
           first
             | (rw [Dk.trunc, if_pos (by omega)]; exact ⟨hD0, rfl⟩)
             | (rw [Dk.trunc, if_neg (by omega), if_pos (by assumption)]; exact ⟨hD0, rfl⟩))
        | (obtain ⟨L2, hfin, hDf⟩ := hP.same E hEc hEd hsg _ _ w [] hs
           refine end1 rfl rfl ⟨_, hfin, ?_⟩
           rw [Dk.trunc, if_neg (by omega), if_neg (by simp [*]), if_pos (by simp [*])]
           rw [← hE]; exact ⟨hDf, rfl⟩)
        | (refine end1 rfl rfl ⟨_, hfin, ?_⟩
           rw [Dk.trunc, if_neg (by omega), if_neg (by simp [*]), if_neg (by simp [*])]
           rw [← hE]; exact ⟨hDf, rfl⟩)
    · skip
      try simp only [decide_eq_true_eq, decide_eq_false_iff_not, gt_iff_lt] at hg14
      refine WL_take rfl ?_
      refine s_move rfl rfl ?_
      refine WL_take rfl ?_
      refine s_lss rfl rfl rfl ?_
      refine s_pick_f rfl rfl rfl ?_
      refine s_move rfl rfl ?_
      refine WL_case (s := 18) rfl (fun hg18 => ?_) (fun hg18 => ?_)
      · skip
        try simp only [decide_eq_true_eq, decide_eq_false_iff_not, gt_iff_lt] at hg18
        refine WL_skip rfl rfl rfl ?_
        refine WL_skip rfl rfl rfl ?_
        refine WL_skip rfl rfl rfl ?_
        refine WL_skip rfl rfl rfl ?_
        refine WL_skip rfl rfl rfl ?_
        refine WL_skip rfl rfl rfl ?_
        refine WL_skip rfl rfl rfl ?_
        refine WL_skip rfl rfl rfl ?_
        refine WL_skip rfl rfl rfl ?_
        refine WL_skip rfl rfl rfl ?_
        refine s_pick_t rfl rfl rfl ?_
        refine WL_nil ?_
        refine n_then ?_
        refine W_cond_t rfl ?_
        refine W_seq ?_
        refine W_region ?_
        refine s_assign rfl rfl ?_
        refine WL_nil ?_
        refine n_then ?_
        refine W_ret ?_
        refine r_then ?_
        first
          | (refine end1 rfl rfl ⟨_, hsb w hs, ?_⟩
             first
               | (rw [Dk.trunc, if_pos (by omega)]; exact ⟨hD0, rfl⟩)
               | (rw [Dk.trunc, if_neg (by omega), if_pos (by assumption)]; exact ⟨hD0, rfl⟩))
          | (obtain ⟨L2, hfin, hDf⟩ := hP.same E hEc hEd hsg _ _ w [] hs
             refine end1 rfl rfl ⟨_, hfin, ?_⟩
             rw [Dk.trunc, if_neg (by omega), if_neg (by simp [*]), if_pos (by simp [*])]
             rw [← hE]; exact ⟨hDf, rfl⟩)
          | (refine end1 rfl rfl ⟨_, hfin, ?_⟩
             rw [Dk.trunc, if_neg (by omega), if_neg (by simp [*]), if_neg (by simp [*])]
             rw [← hE]; exact ⟨hDf, rfl⟩)
      · skip
        try simp only [decide_eq_true_eq, decide_eq_false_iff_not, gt_iff_lt] at hg18
        refine WL_take rfl ?_
        refine s_move rfl rfl ?_
        refine WL_take rfl ?_
        refine s_move rfl rfl ?_
        refine WL_take rfl ?_
        refine s_nilCheck rfl rfl ?_
        refine WL_take rfl ?_
        refine s_fieldAddr rfl rfl (FA60_2 _ _) ?_
        refine WL_take rfl ?_
        first
          | refine s_load Tryd.isAgg58 rfl rfl (hs.cell (k := 0) rfl rfl) ?_
          | refine s_load Tryd.isAgg58 rfl rfl (hs.cell (k := 1) rfl rfl) ?_
          | refine s_load Tryd.isAgg58 rfl rfl (hs.cell (k := 2) rfl rfl) ?_
        refine WL_take rfl ?_
        refine s_move rfl rfl ?_
        refine WL_take rfl ?_
        refine s_lookupI Tryd.underlying58 Tryd.underlying3 ZV70 rfl rfl rfl hs (kk := 1) rfl hM ?_
        rw [hlk]
        refine WL_take rfl ?_
        refine s_field rfl rfl (FD70_0 _ _) ?_
        refine WL_take rfl ?_
        refine s_len rfl rfl (LN35 _ _ _ _) ?_
        refine WL_take rfl ?_
        refine s_gtr rfl rfl rfl ?_
        refine s_pick_f rfl rfl rfl ?_
        refine WL_nil ?_
        refine n_then ?_
        refine W_cond rfl (fun hc29 => ?_) (fun hc29 => ?_)
        · skip
          try simp only [decide_eq_true_eq, decide_eq_false_iff_not, gt_iff_lt] at hc29
          refine W_seq ?_
          refine W_region ?_
          refine s_assign rfl rfl ?_
          refine WL_nil ?_
          refine n_then ?_
          refine W_ret ?_
          refine r_then ?_
          first
            | (refine end1 rfl rfl ⟨_, hsb w hs, ?_⟩
               first
                 | (rw [Dk.trunc, if_pos (by omega)]; exact ⟨hD0, rfl⟩)
                 | (rw [Dk.trunc, if_neg (by omega), if_pos (by assumption)]; exact ⟨hD0, rfl⟩))
            | (obtain ⟨L2, hfin, hDf⟩ := hP.same E hEc hEd hsg _ _ w [] hs
               refine end1 rfl rfl ⟨_, hfin, ?_⟩
               rw [Dk.trunc, if_neg (by omega), if_neg (by simp [*]), if_pos (by simp [*])]
               rw [← hE]; exact ⟨hDf, rfl⟩)
            | (refine end1 rfl rfl ⟨_, hfin, ?_⟩
               rw [Dk.trunc, if_neg (by omega), if_neg (by simp [*]), if_neg (by simp [*])]
               rw [← hE]; exact ⟨hDf, rfl⟩)
        · skip
          try simp only [decide_eq_true_eq, decide_eq_false_iff_not, gt_iff_lt] at hc29
          refine W_skip ?_
          refine n_then ?_
          refine W_seq ?_
          refine W_seq ?_
          refine W_region ?_
          refine s_move rfl rfl ?_
          refine s_nilCheck rfl rfl ?_
          refine s_fieldAddr rfl rfl (FA60_3 _ _) ?_
          first
            | refine s_load Tryd.isAgg4 rfl rfl (hs.cell (k := 0) rfl rfl) ?_
            | refine s_load Tryd.isAgg4 rfl rfl (hs.cell (k := 1) rfl rfl) ?_
            | refine s_load Tryd.isAgg4 rfl rfl (hs.cell (k := 2) rfl rfl) ?_
          refine s_move rfl rfl ?_
          refine WL_case (s := 34) rfl (fun hg34 => ?_) (fun hg34 => ?_)
          · skip
            try simp only [decide_eq_true_eq, decide_eq_false_iff_not, gt_iff_lt] at hg34
            refine WL_skip rfl rfl rfl ?_
            refine WL_skip rfl rfl rfl ?_
            refine s_pick_t rfl rfl rfl ?_
            refine WL_nil ?_
            refine n_then ?_
            refine W_cond_t rfl ?_
            refine W_seq ?_
            refine W_region ?_
            refine s_assign rfl rfl ?_
            refine WL_nil ?_
            refine n_then ?_
            refine W_ret ?_
            refine r_then ?_
            first
              | (refine end1 rfl rfl ⟨_, hsb w hs, ?_⟩
                 first
                   | (rw [Dk.trunc, if_pos (by omega)]; exact ⟨hD0, rfl⟩)
                   | (rw [Dk.trunc, if_neg (by omega), if_pos (by assumption)]; exact ⟨hD0, rfl⟩))
              | (obtain ⟨L2, hfin, hDf⟩ := hP.same E hEc hEd hsg _ _ w [] hs
                 refine end1 rfl rfl ⟨_, hfin, ?_⟩
                 rw [Dk.trunc, if_neg (by omega), if_neg (by simp [*]), if_pos (by simp [*])]
                 rw [← hE]; exact ⟨hDf, rfl⟩)
              | (refine end1 rfl rfl ⟨_, hfin, ?_⟩
                 rw [Dk.trunc, if_neg (by omega), if_neg (by simp [*]), if_neg (by simp [*])]
                 rw [← hE]; exact ⟨hDf, rfl⟩)
          · skip
            try simp only [decide_eq_true_eq, decide_eq_false_iff_not, gt_iff_lt] at hg34
            refine WL_take rfl ?_
            refine s_move rfl rfl ?_
            refine WL_take rfl ?_
            have hfr : 0 ≤ f ∧ f ≤ 63 := by omega
            have hlt := len_le_total D hfr
            have hts := total_set (D := D) (bs := (D.c f).take n.toNat) (d := min (D.d f) n.toNat) hfr
            rw [List.length_take] at hts
            have hmn : min n.toNat (D.c f).length = n.toNat := by omega
            refine s_callL (M := []) (L1 := [_]) (X := (m, o) :: (Lf ++ R)) Tryd.call43 rfl rfl hs (fun h => fails_ok p m D w hP.good.2 h) ?_
            clear hs; rintro v9 w L9 ⟨rfl, rfl⟩ - hs
            simp only [List.nil_append, List.cons_append] at hs
            obtain ⟨E, hE⟩ : ∃ E, E = D.step.1 := ⟨_, rfl⟩
            rw [← hE] at hs hsg
            have hEc : E.c = D.c := by rw [hE]; exact hstep.1
            have hEd : E.d = D.d := by rw [hE]; exact hstep.2.1
            have hEr : E.room = D.room := by rw [hE]; exact hstep.2.2
            unfold dkCells at hs
            refine s_pick_f rfl rfl rfl ?_
            refine WL_nil ?_
            refine n_then ?_
            refine W_cond rfl (fun hc37 => ?_) (fun hc37 => ?_)
            · skip
              try simp only [decide_eq_true_eq, decide_eq_false_iff_not, gt_iff_lt] at hc37
              refine W_seq ?_
              refine W_region ?_
              refine s_assign rfl rfl ?_
              refine WL_nil ?_
              refine n_then ?_
              refine W_ret ?_
              refine r_then ?_
              first
                | (refine end1 rfl rfl ⟨_, hsb w hs, ?_⟩
                   first
                     | (rw [Dk.trunc, if_pos (by omega)]; exact ⟨hD0, rfl⟩)
                     | (rw [Dk.trunc, if_neg (by omega), if_pos (by assumption)]; exact ⟨hD0, rfl⟩))
                | (obtain ⟨L2, hfin, hDf⟩ := hP.same E hEc hEd hsg _ _ w [] hs
                   refine end1 rfl rfl ⟨_, hfin, ?_⟩
                   rw [Dk.trunc, if_neg (by omega), if_neg (by simp [*]), if_pos (by simp [*])]
                   rw [← hE]; exact ⟨hDf, rfl⟩)
                | (refine end1 rfl rfl ⟨_, hfin, ?_⟩
                   rw [Dk.trunc, if_neg (by omega), if_neg (by simp [*]), if_neg (by simp [*])]
                   rw [← hE]; exact ⟨hDf, rfl⟩)
            · skip
              try simp only [decide_eq_true_eq, decide_eq_false_iff_not, gt_iff_lt] at hc37
              refine W_skip ?_
              refine n_then ?_
              refine W_seq ?_
              refine W_region ?_
              refine s_move rfl rfl ?_
              refine s_nilCheck rfl rfl ?_
              refine s_fieldAddr rfl rfl (FA60_2 _ _) ?_
              first
                | refine s_load Tryd.isAgg58 rfl rfl (hs.cell (k := 0) rfl rfl) ?_
                | refine s_load Tryd.isAgg58 rfl rfl (hs.cell (k := 1) rfl rfl) ?_
                | refine s_load Tryd.isAgg58 rfl rfl (hs.cell (k := 2) rfl rfl) ?_
              refine s_move rfl rfl ?_
              refine s_lookupI Tryd.underlying58 Tryd.underlying3 ZV70 rfl rfl rfl hs (kk := 1) rfl hM ?_
              rw [hlk]
              refine s_alloc rfl AL70 hs ?_; clear hs; intro b7 w hs
              first
                | refine s_storeW Tryd.sizeOf70 rfl rfl rfl rfl hs (kk := 0) rfl rfl ?_
                | refine s_storeW Tryd.sizeOf70 rfl rfl rfl rfl hs (kk := 1) rfl rfl ?_
                | refine s_storeW Tryd.sizeOf70 rfl rfl rfl rfl hs (kk := 2) rfl rfl ?_
                | refine s_storeAB Tryd.sizeOf70 rfl rfl rfl rfl hs (kk := 0) rfl rfl ?_
                | refine s_storeAB Tryd.sizeOf70 rfl rfl rfl rfl hs (kk := 1) rfl rfl ?_
                | refine s_storeAB Tryd.sizeOf70 rfl rfl rfl rfl hs (kk := 2) rfl rfl ?_
              clear hs; intro w hs; try simp only [List.set_cons_zero, List.set_cons_succ, splice, List.take_succ_cons, List.take_zero, List.drop_succ_cons, List.drop_zero, List.nil_append, List.cons_append, List.length_cons, List.length_nil, Nat.reduceAdd, List.append_assoc] at hs
              refine WL_nil ?_
              refine n_then ?_
              refine W_seq ?_
              refine W_draw [(0, true, []), (1, true, []), (2, true, []), (3, true, []), (4, true, []), (5, true, []), (6, true, []), (7, true, []), (8, true, []), (9, true, []), (10, true, []), (11, false, [])] [[], [], [], [2], [], [2, 3, 4], [], [6], [], [6, 7, 8], [2, 3, 4, 5, 6, 7, 8, 9], [0, 1, 2, 3, 4, 5, 6, 7, 8, 9, 10]] MX (by kernel_rfl) ?_
              intro w1 hw1 hw2 hw3 hw4; replace hs := hs.redrawn hw1 hw2 hw3 hw4; clear hw1 hw2 hw3 hw4
              obtain ⟨w, rfl⟩ : ∃ w : World, w = w1 := ⟨_, rfl⟩
              refine D_q rfl rfl ?_
              refine s_move rfl rfl ?_
              refine D_qn ?_
              refine D_q rfl rfl ?_
              refine s_move rfl rfl ?_
              refine D_qn ?_
              refine D_q rfl rfl ?_
              refine s_fieldAddr rfl rfl (FA70_0 _ _) ?_
              refine D_qn ?_
              refine D_q rfl rfl ?_
              first
                | refine s_load Tryd.isAgg35 rfl rfl (hs.cell (k := 0) rfl rfl) ?_
                | refine s_load Tryd.isAgg35 rfl rfl (hs.cell (k := 1) rfl rfl) ?_
                | refine s_load Tryd.isAgg35 rfl rfl (hs.cell (k := 2) rfl rfl) ?_
              refine D_qn ?_
              refine D_q rfl rfl ?_
              refine s_move rfl rfl ?_
              refine D_qn ?_
              refine D_q rfl rfl ?_
              have hcap : (D.c f).length ≤ c0 := by obtain ⟨a9, c9, h8, h9⟩ := (OwnS_slIn hO0 (w := w) fun p hp => hs.own p (by simp [hp])).len_le; cases h8; exact h9
              (refine s_slice_hi El35 rfl rfl rfl ?hx ?_; case hx => (constructor <;> omega))
              refine D_qn ?_
              refine D_q rfl rfl ?_
              refine s_fieldAddr rfl rfl (FA70_1 _ _) ?_
              refine D_qn ?_
              refine D_q rfl rfl ?_
              first
                | refine s_load Tryd.isAgg3 rfl rfl (hs.cell (k := 0) rfl rfl) ?_
                | refine s_load Tryd.isAgg3 rfl rfl (hs.cell (k := 1) rfl rfl) ?_
                | refine s_load Tryd.isAgg3 rfl rfl (hs.cell (k := 2) rfl rfl) ?_
              refine D_qn ?_
              refine D_q rfl rfl ?_
              refine s_move rfl rfl ?_
              refine D_qn ?_
              refine D_q rfl rfl ?_
              refine s_min rfl rfl rfl ?_
              rw [show (if n < (D.d f : Int) then n else (D.d f : Int)) = ((min (D.d f) n.toNat : Nat) : Int) by split <;> omega]
              refine D_qn ?_
              refine D_q rfl rfl ?_
              refine s_build rfl rfl (BD70_0_1 _ _ _ _) ?_
              refine D_qn ?_
              refine D_e rfl ?_
              refine s_callL (M := [_]) (L1 := [_, _]) (X := Lf ++ R) Tryd.call29 rfl rfl hs (fun h => put_ok p m o es E.room (total E.c : Int) E.left f E.off E.armed a0 a0 n.toNat c0 _ c0 ((min (D.d f) n.toNat : Nat) : Int) (D.d f : Int) w hM hlk (by rw [hEc]; have := hP.good.1; refine ⟨?_, ?_, ?_, ?_⟩ <;> omega) h) ?_
              clear hs; rintro v9 w L9 ⟨o', rfl, hM'⟩ - hs
              simp only [List.nil_append, List.cons_append] at hs
              replace hs := hs.tail
              have htl : ((D.c f).take n.toNat).length = n.toNat := by rw [List.length_take]; exact hmn
              have hcut := OwnS.cut hO0 (k := n.toNat) (by omega)
              rw [Nat.mul_one, ← List.map_take] at hcut
              have hss := set_step D f ((D.c f).take n.toNat) (min (D.d f) n.toNat)
              rw [← hE] at hss
              have htot : (total (E.set f ((D.c f).take n.toNat) (min (D.d f) n.toNat)).c : Int) = (total E.c : Int) + ((n.toNat : Int) - ((D.c f).length : Int)) := by rw [hss.1, hEc]; omega
              obtain ⟨L2, hfin, hDf⟩ := hP.back (E.set f ((D.c f).take n.toNat) (min (D.d f) n.toNat)) (.slice a0 n.toNat c0) ((D.c f).take n.toNat) (min (D.d f) n.toNat) Lf o' (by rw [htl]; exact hcut) hfr (by rw [htl]; omega) (fun b hb => hP.byt b (List.mem_of_mem_take hb)) hss.1 hss.2 ⟨by
                have h1 := hsg.1
                refine ⟨?_, h1.2.1, h1.2.2⟩
                rw [htot]; show _ ≤ E.room; omega, hsg.2⟩ (by rw [htl]; exact hM') _ _ w [] (by simp only [dkCells, htot, List.nil_append]; exact hs)
              rw [List.nil_append] at hfin
              refine D_en ?re ?_
              case re =>
                exact Reks_nil
              refine D_nil ?_
              refine n_then ?_
              refine W_seq ?_
              refine W_region ?_
              refine s_assign rfl rfl ?_
              refine WL_nil ?_
              refine n_then ?_
              refine W_ret ?_
              first
                | (refine end1 rfl rfl ⟨_, hsb w hs, ?_⟩
                   first
                     | (rw [Dk.trunc, if_pos (by omega)]; exact ⟨hD0, rfl⟩)
                     | (rw [Dk.trunc, if_neg (by omega), if_pos (by assumption)]; exact ⟨hD0, rfl⟩))
                | (obtain ⟨L2, hfin, hDf⟩ := hP.same E hEc hEd hsg _ _ w [] hs
                   refine end1 rfl rfl ⟨_, hfin, ?_⟩
                   rw [Dk.trunc, if_neg (by omega), if_neg (by simp [*]), if_pos (by simp [*])]
                   rw [← hE]; exact ⟨hDf, rfl⟩)
                | (refine end1 rfl rfl ⟨_, hfin, ?_⟩
                   rw [Dk.trunc, if_neg (by omega), if_neg (by simp [*]), if_neg (by simp [*])]
                   rw [← hE]; exact ⟨hDf, rfl⟩)
def Dk.sync (D : Dk) : Dk × Int := if D.off then (D, 18) else if D.step.2 then (D.step.1, 18) else (D.step.1.solid, 0)
structure SyS where
  k : Nat
  L : Hp
theorem firm_ok {D : Dk} (h : dkOk D) (ks : List Int) : dkOk (D.firm ks) := h
set_option maxHeartbeats 1000000 in
theorem dSync_ok (p : Nat) (D : Dk) (L0 : Hp) (w0 : World) (hD : DiskAt p D L0) (hs : St (ids L0) w0 w0 L0) :
    Ret Tryd.prog 19 [.pointer (some ⟨p, 0, none⟩)].toArray w0 fun r w' => ∃ L', St (ids L0) w0 w' L' ∧ DiskAt p D.sync.1 L' ∧ r = .int .i64 D.sync.2 := by
  have hD0 := hD
  obtain ⟨m, o, v0, Lf, R, es, hP⟩ := disk_open hD 0
  have hstep := step_c D
  have hsg := step_ok hP.good
  replace hs : St (ids L0) w0 w0 ((p, Blk 60 (dkCells D m)) :: (m, o) :: (Lf ++ R)) := hs.perm hP.perm
  have hsb : ∀ w, St (ids L0) w0 w ((p, Blk 60 (dkCells D m)) :: (m, o) :: (Lf ++ R)) → St (ids L0) w0 w L0 := fun w h => h.perm hP.perm.symm
  unfold dkCells at hs
  refine Ret_startL hs fun w hs => ?_
  refine Ret_of Tryd.func19 rfl Tryd.ntmps19 rfl ?_
  refine W_seq ?_
  refine W_region ?_
  refine s_assign rfl rfl ?_
  refine WL_nil ?_
  refine n_then ?_
  refine W_seq ?_
  refine W_seq ?_
  refine W_region ?_
  refine s_move rfl rfl ?_
  refine s_nilCheck rfl rfl ?_
  refine s_fieldAddr rfl rfl (FA60_3 _ _) ?_
  first
    | refine s_load Tryd.isAgg4 rfl rfl (hs.cell (k := 0) rfl rfl) ?_
    | refine s_load Tryd.isAgg4 rfl rfl (hs.cell (k := 1) rfl rfl) ?_
    | refine s_load Tryd.isAgg4 rfl rfl (hs.cell (k := 2) rfl rfl) ?_
  refine s_move rfl rfl ?_
  refine WL_case (s := 10) rfl (fun hg10 => ?_) (fun hg10 => ?_)
  · skip
    try simp only [decide_eq_true_eq, decide_eq_false_iff_not, gt_iff_lt] at hg10
    refine WL_skip rfl rfl rfl ?_
    refine WL_skip rfl rfl rfl ?_
    refine s_pick_t rfl rfl rfl ?_
    refine WL_nil ?_
    refine n_then ?_
    refine W_cond_t rfl ?_
    refine W_seq ?_
    refine W_region ?_
    refine s_assign rfl rfl ?_
    refine WL_nil ?_
    refine n_then ?_
    refine W_ret ?_
    refine r_then ?_
    first
      | (refine end1 rfl rfl ⟨_, hsb w hs, ?_⟩
         rw [Dk.sync, if_pos (by assumption)]; exact ⟨hD0, rfl⟩)
      | (refine end1 rfl rfl ⟨_, hs.right, ?_⟩
         rw [List.take_of_length_le (by omega), firm_all hDE] at hDk
         rw [Dk.sync, if_neg (by simp [*]), if_neg (by simp [*])]
         rw [← hE]; exact ⟨hDk, rfl⟩)
      | (refine end1 rfl rfl ⟨_, hs, ?_⟩
         rw [Dk.sync, if_neg (by simp [*]), if_pos (by simp [*])]
         rw [← hE]; exact ⟨hDE, rfl⟩)
  · skip
    try simp only [decide_eq_true_eq, decide_eq_false_iff_not, gt_iff_lt] at hg10
    refine WL_take rfl ?_
    refine s_move rfl rfl ?_
    refine WL_take rfl ?_
    refine s_callL (M := []) (L1 := [_]) (X := (m, o) :: (Lf ++ R)) Tryd.call43 rfl rfl hs (fun h => fails_ok p m D w hP.good.2 h) ?_
    clear hs; rintro v9 w L9 ⟨rfl, rfl⟩ - hs
    simp only [List.nil_append, List.cons_append] at hs
    obtain ⟨E, hE⟩ : ∃ E, E = D.step.1 := ⟨_, rfl⟩
    rw [← hE] at hs hsg
    have hEc : E.c = D.c := by rw [hE]; exact hstep.1
    have hEd : E.d = D.d := by rw [hE]; exact hstep.2.1
    have hEr : E.room = D.room := by rw [hE]; exact hstep.2.2
    obtain ⟨LE, hs2, hDE⟩ := hP.same E hEc hEd hsg _ _ w [] hs
    replace hs := hs2
    clear hs2
    rw [List.nil_append] at hs
    refine s_pick_f rfl rfl rfl ?_
    refine WL_nil ?_
    refine n_then ?_
    refine W_cond rfl (fun hc13 => ?_) (fun hc13 => ?_)
    · skip
      try simp only [decide_eq_true_eq, decide_eq_false_iff_not, gt_iff_lt] at hc13
      refine W_seq ?_
      refine W_region ?_
      refine s_assign rfl rfl ?_
      refine WL_nil ?_
      refine n_then ?_
      refine W_ret ?_
      refine r_then ?_
      first
        | (refine end1 rfl rfl ⟨_, hsb w hs, ?_⟩
           rw [Dk.sync, if_pos (by assumption)]; exact ⟨hD0, rfl⟩)
        | (refine end1 rfl rfl ⟨_, hs.right, ?_⟩
           rw [List.take_of_length_le (by omega), firm_all hDE] at hDk
           rw [Dk.sync, if_neg (by simp [*]), if_neg (by simp [*])]
           rw [← hE]; exact ⟨hDk, rfl⟩)
        | (refine end1 rfl rfl ⟨_, hs, ?_⟩
           rw [Dk.sync, if_neg (by simp [*]), if_pos (by simp [*])]
           rw [← hE]; exact ⟨hDE, rfl⟩)
    · skip
      try simp only [decide_eq_true_eq, decide_eq_false_iff_not, gt_iff_lt] at hc13
      refine W_skip ?_
      refine n_then ?_
      refine W_seq ?_
      refine W_seq ?_
      refine W_region ?_
      refine s_move rfl rfl ?_
      refine s_callL (M := []) (L1 := LE) (X := []) Tryd.call28 rfl rfl (by simpa using hs) (fun h => files_ok p E LE w hDE h) ?_
      clear hs; rintro v w L' ⟨Lv, rfl, hO⟩ - hs
      simp only [List.nil_append, List.append_nil] at hs
      obtain ⟨_, cv, av, rfl, hvl⟩ := hO.form
      subst hvl
      have hfl := filesV_len E
      refine s_len rfl rfl (LN22 _ _ _ _) ?_
      refine s_move rfl rfl ?_
      refine WL_nil ?_
      refine n_then ?_
      refine W_block ?_
      refine W_loop (σ := SyS) (fun s => [(0, .pointer (some ⟨p, 0, none⟩)), (15, .slice av (filesV E).length cv), (16, .int .i64 ((filesV E).length : Int)), (17, .int .i64 (s.k : Int))]) (fun s w => St (ids L0) w0 w (Lv ++ s.L) ∧ DiskAt p (E.firm ((filesV E).take s.k)) s.L ∧ s.k ≤ (filesV E).length) (fun s => (filesV E).length - s.k) ⟨0, LE⟩ ⟨rfl, rfl, rfl, rfl, trivial⟩ ⟨hs, by rw [List.take_zero, firm_nil]; exact hDE, Nat.zero_le _⟩ ?_
      clear hs
      rintro ⟨k, LK⟩ w ⟨hs, hDk, hk⟩
      simp only at hs hDk hk ⊢
      refine W_seq ?_
      refine W_region ?_
      refine s_lss rfl rfl rfl ?_
      refine WL_nil ?_
      refine n_then ?_
      refine W_seq ?_
      refine W_cond rfl (fun hc18 => ?_) (fun hc18 => ?_)
      · skip
        try simp only [decide_eq_true_eq, decide_eq_false_iff_not, gt_iff_lt] at hc18
        have hkl : k < (filesV E).length := by omega
        obtain ⟨f, hf⟩ : ∃ f, (filesV E)[k]? = some f := ⟨_, List.getElem?_eq_getElem hkl⟩
        have hfm := (filesV_mem E f).1 (List.mem_of_getElem? hf)
        obtain ⟨b1, o1, hA1, hc1⟩ := (OwnS_slIn hO (w := w) fun p hp => hs.own p (by simp [hp])).at (k := k) (u := .int .i64 f) (by rw [List.getElem?_map, hf]; rfl)
        obtain ⟨m1, q1, v1, Lf1, R1, es1, hP1⟩ := disk_open hDk f
        have hM1 := hP1.map
        have hlk1 := hP1.look
        have hO1 := hP1.own
        have hff : (E.firm ((filesV E).take k)).c f = E.c f := rfl
        rw [hff] at hO1
        obtain ⟨_, c1, a1, rfl, h1l⟩ := hO1.form
        subst h1l
        replace hs := (hs.perm (hP1.perm.append_left Lv)).swap
        unfold dkCells at hs
        simp only [List.cons_append, List.append_assoc] at hs
        refine W_skip ?_
        refine n_then ?_
        refine W_seq ?_
        refine W_block ?_
        refine W_seq ?_
        refine W_region ?_
        (refine s_indexAddrO El22 rfl rfl rfl hA1 ?hx ?_; case hx => (constructor <;> omega))
        refine s_load Tryd.isAgg3 rfl rfl (by rw [Int.toNat_natCast]; exact hc1) ?_
        refine s_assign rfl rfl ?_
        refine WL_nil ?_
        refine n_then ?_
        refine W_seq ?_
        refine W_region ?_
        refine s_move rfl rfl ?_
        refine s_nilCheck rfl rfl ?_
        refine s_fieldAddr rfl rfl (FA60_2 _ _) ?_
        first
          | refine s_load Tryd.isAgg58 rfl rfl (hs.cell (k := 0) rfl rfl) ?_
          | refine s_load Tryd.isAgg58 rfl rfl (hs.cell (k := 1) rfl rfl) ?_
          | refine s_load Tryd.isAgg58 rfl rfl (hs.cell (k := 2) rfl rfl) ?_
        refine s_move rfl rfl ?_
        refine s_lookupI Tryd.underlying58 Tryd.underlying3 ZV70 rfl rfl rfl hs (kk := 1) rfl hM1 ?_
        rw [hlk1]
        refine s_alloc rfl AL70 hs ?_; clear hs; intro b5 w hs
        first
          | refine s_storeW Tryd.sizeOf70 rfl rfl rfl rfl hs (kk := 0) rfl rfl ?_
          | refine s_storeW Tryd.sizeOf70 rfl rfl rfl rfl hs (kk := 1) rfl rfl ?_
          | refine s_storeW Tryd.sizeOf70 rfl rfl rfl rfl hs (kk := 2) rfl rfl ?_
          | refine s_storeAB Tryd.sizeOf70 rfl rfl rfl rfl hs (kk := 0) rfl rfl ?_
          | refine s_storeAB Tryd.sizeOf70 rfl rfl rfl rfl hs (kk := 1) rfl rfl ?_
          | refine s_storeAB Tryd.sizeOf70 rfl rfl rfl rfl hs (kk := 2) rfl rfl ?_
        clear hs; intro w hs; try simp only [List.set_cons_zero, List.set_cons_succ, splice, List.take_succ_cons, List.take_zero, List.drop_succ_cons, List.drop_zero, List.nil_append, List.cons_append, List.length_cons, List.length_nil, Nat.reduceAdd, List.append_assoc] at hs
        refine WL_nil ?_
        refine n_then ?_
        refine W_seq ?_
        refine W_region ?_
        refine s_fieldAddr rfl rfl (FA70_0 _ _) ?_
        first
          | refine s_load Tryd.isAgg35 rfl rfl (hs.cell (k := 0) rfl rfl) ?_
          | refine s_load Tryd.isAgg35 rfl rfl (hs.cell (k := 1) rfl rfl) ?_
          | refine s_load Tryd.isAgg35 rfl rfl (hs.cell (k := 2) rfl rfl) ?_
        refine s_len rfl rfl (LN35 _ _ _ _) ?_
        refine s_fieldAddr rfl rfl (FA70_1 _ _) ?_
        first
          | refine s_storeB Tryd.sizeOf3 rfl rfl rfl hs (kk := 0) rfl rfl ?_
          | refine s_storeB Tryd.sizeOf3 rfl rfl rfl hs (kk := 1) rfl rfl ?_
          | refine s_storeB Tryd.sizeOf3 rfl rfl rfl hs (kk := 2) rfl rfl ?_
        clear hs; intro w hs; try simp only [List.set_cons_zero, List.set_cons_succ, splice, List.take_succ_cons, List.take_zero, List.drop_succ_cons, List.drop_zero, List.nil_append, List.cons_append, List.length_cons, List.length_nil, Nat.reduceAdd, List.append_assoc] at hs
        refine WL_nil ?_
        refine n_then ?_
        refine W_draw [(0, true, []), (1, true, []), (2, true, []), (3, true, []), (4, true, []), (5, true, []), (6, false, [])] [[], [0], [0, 1], [0, 1, 2], [], [], [0, 1, 2, 3, 4, 5]] MX (by kernel_rfl) ?_
        intro w1 hw1 hw2 hw3 hw4; replace hs := hs.redrawn hw1 hw2 hw3 hw4; clear hw1 hw2 hw3 hw4
        obtain ⟨w, rfl⟩ : ∃ w : World, w = w1 := ⟨_, rfl⟩
        refine D_q rfl rfl ?_
        refine s_move rfl rfl ?_
        refine D_qn ?_
        refine D_q rfl rfl ?_
        refine s_nilCheck rfl rfl ?_
        refine D_qn ?_
        refine D_q rfl rfl ?_
        refine s_fieldAddr rfl rfl (FA60_2 _ _) ?_
        refine D_qn ?_
        refine D_q rfl rfl ?_
        first
          | refine s_load Tryd.isAgg58 rfl rfl (hs.cell (k := 0) rfl rfl) ?_
          | refine s_load Tryd.isAgg58 rfl rfl (hs.cell (k := 1) rfl rfl) ?_
          | refine s_load Tryd.isAgg58 rfl rfl (hs.cell (k := 2) rfl rfl) ?_
        refine D_qn ?_
        refine D_q rfl rfl ?_
        refine s_move rfl rfl ?_
        refine D_qn ?_
        refine D_q rfl rfl ?_
        first
          | refine s_loadW Tryd.isAgg70 Tryd.sizeOf70 rfl rfl hs (kk := 0) rfl rfl ?_
          | refine s_loadW Tryd.isAgg70 Tryd.sizeOf70 rfl rfl hs (kk := 1) rfl rfl ?_
          | refine s_loadW Tryd.isAgg70 Tryd.sizeOf70 rfl rfl hs (kk := 2) rfl rfl ?_
          | refine s_load_2 Tryd.isAgg70 Tryd.sizeOf70 rfl rfl (by first | exact hs.cell (k := 0) rfl rfl | exact hs.cell (k := 1) rfl rfl | exact hs.cell (k := 2) rfl rfl) (by first | exact hs.cell (k := 0) rfl rfl | exact hs.cell (k := 1) rfl rfl | exact hs.cell (k := 2) rfl rfl) ?_
        refine D_qn ?_
        refine D_e rfl ?_
        refine s_mapUpdateI Tryd.underlying58 Tryd.underlying3 rfl rfl rfl hs (kk := 2) rfl hM1 ?_
        clear hs; intro w o' hM' hs
        try simp only [List.set_cons_succ, List.set_cons_zero] at hs
        refine D_en ?re ?_
        case re =>
          exact Reks_nil
        refine D_nil ?_
        refine n_blk ?_
        refine n_then ?_
        refine W_region ?_
        first | (refine s_add' rfl rfl rfl ?hx ?_; case hx => (constructor <;> first | omega | (simp only; omega))) | refine s_add rfl rfl rfl ?_
        refine s_move rfl rfl ?_
        refine WL_nil ?_
        refine n_loop ?_
        have hsn := firm_snoc E ((filesV E).take k) f
        have htk : (filesV E).take (k + 1) = (filesV E).take k ++ [f] := by rw [List.take_add_one, hf]; rfl
        obtain ⟨L2, hfin, hDf⟩ := hP1.back (E.firm ((filesV E).take (k + 1))) (.slice a1 (E.c f).length c1) (E.c f) (E.c f).length Lf1 o' hO1 hfm.1 (Nat.le_refl _) hP1.byt (by rw [htk]; exact hsn.1) (by rw [htk]; exact hsn.2) hsg (by rw [if_neg (by have := List.length_pos_iff.2 hfm.2; omega)]; exact hM') _ _ w Lv (by
          have h1 := hs.tail
          have : St (ids L0) w0 w ((((p, Blk 60 (dkCells (E.firm ((filesV E).take (k + 1))) m1)) :: (m1, o') :: (Lf1 ++ R1)) ++ Lv)) := by simp only [dkCells, List.cons_append, List.append_assoc]; exact h1
          exact this.swap)
        exact ⟨⟨k + 1, L2⟩, ⟨rfl, rfl, rfl, rfl, trivial⟩, ⟨hfin, hDf, by simp only; omega⟩, by simp only; omega⟩
      · skip
        try simp only [decide_eq_true_eq, decide_eq_false_iff_not, gt_iff_lt] at hc18
        refine W_exit ?_
        refine x_then ?_
        refine x_then ?_
        refine exit_hit ?_
        refine n_then ?_
        refine W_seq ?_
        refine W_region ?_
        refine s_assign rfl rfl ?_
        refine WL_nil ?_
        refine n_then ?_
        refine W_ret ?_
        first
          | (refine end1 rfl rfl ⟨_, hsb w hs, ?_⟩
             rw [Dk.sync, if_pos (by assumption)]; exact ⟨hD0, rfl⟩)
          | (refine end1 rfl rfl ⟨_, hs.right, ?_⟩
             rw [List.take_of_length_le (by omega), firm_all hDE] at hDk
             rw [Dk.sync, if_neg (by simp [*]), if_neg (by simp [*])]
             rw [← hE]; exact ⟨hDk, rfl⟩)
          | (refine end1 rfl rfl ⟨_, hs, ?_⟩
             rw [Dk.sync, if_neg (by simp [*]), if_pos (by simp [*])]
             rw [← hE]; exact ⟨hDE, rfl⟩)
end Go.Proofs.YtgppcfgnhahnaaaDoor
