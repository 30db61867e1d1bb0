/- A disk: one file taken out and put back; Append, Read, Truncate. -/
import Derived.Test.YtbcdnpjcbchbjaaDoorDkB
set_option linter.unusedVariables false
set_option linter.unusedSimpArgs false
namespace Go.Proofs.YtbcdnpjcbchbjaaDoor
open Go.SL
def Dk.set (D : Dk) (f : Int) (bs : List Int) (d : Nat) : Dk := { D with c := fun q => if q = f then bs else D.c q, d := fun q => if q = f then d else D.d q }
theorem updI_mid {f : Int} {v u : Value} : ∀ {A : KVs} {B : KVs}, f ∉ A.map Prod.fst → updI f v (A ++ (f, u) :: B) = A ++ (f, v) :: B
  | [], B, _ => by simp [updI]
  | e :: A, B, h => by
    simp only [List.map_cons, List.mem_cons, not_or] at h
    rw [List.cons_append, updI, if_neg h.1, updI_mid h.2]; rfl
theorem delI_mid {f : Int} {u : Value} : ∀ {A : KVs} {B : KVs}, f ∉ A.map Prod.fst → delI f (A ++ (f, u) :: B) = A ++ B
  | [], B, _ => by simp [delI]
  | e :: A, B, h => by
    simp only [List.map_cons, List.mem_cons, not_or] at h
    rw [List.cons_append, delI, if_neg h.1, delI_mid h.2]; rfl
theorem updI_new {f : Int} {v : Value} : ∀ {A : KVs}, f ∉ A.map Prod.fst → updI f v A = A ++ [(f, v)]
  | [], _ => rfl
  | e :: A, h => by
    simp only [List.map_cons, List.mem_cons, not_or] at h
    rw [updI, if_neg h.1, updI_new h.2]; rfl
theorem delI_new {f : Int} : ∀ {A : KVs}, f ∉ A.map Prod.fst → delI f A = A
  | [], _ => rfl
  | e :: A, h => by
    simp only [List.map_cons, List.mem_cons, not_or] at h
    rw [delI, if_neg h.1, delI_new h.2]
theorem fblks_app (A B : List Fl) : fblks (A ++ B) = fblks A ++ fblks B := by simp [fblks]
theorem fkv_app (A B : List Fl) : fkv (A ++ B) = fkv A ++ fkv B := by simp [fkv]
theorem total_set {D : Dk} {f : Int} {bs : List Int} {d : Nat} (hf : 0 ≤ f ∧ f ≤ 63) : total (D.set f bs d).c + (D.c f).length = total D.c + bs.length := by
  have key : ∀ l : List Nat, l.Nodup → f.toNat ∈ l → ((l.map fun (i : Nat) => ((D.set f bs d).c (i : Int)).length).sum + (D.c f).length = (l.map fun (i : Nat) => (D.c (i : Int)).length).sum + bs.length) ∧ True := by
    intro l
    induction l with
    | nil => intro _ h; cases h
    | cons a r ih =>
      intro hn hm
      rw [List.nodup_cons] at hn
      refine ⟨?_, trivial⟩
      simp only [List.map_cons, List.sum_cons]
      by_cases ha : a = f.toNat
      · have haf : (a : Int) = f := by omega
        have hrest : (r.map fun (i : Nat) => ((D.set f bs d).c (i : Int)).length) = r.map fun (i : Nat) => (D.c (i : Int)).length := by
          apply List.map_congr_left
          intro i hi
          have : (i : Int) ≠ f := fun h => hn.1 (by have : i = a := by omega
                                                    rw [← this]; exact hi)
          simp [Dk.set, this]
        rw [hrest, haf]
        simp [Dk.set]; omega
      · have hmr : f.toNat ∈ r := by
          rcases List.mem_cons.1 hm with h | h
          · exact absurd h.symm ha
          · exact h
        have := (ih hn.2 hmr).1
        have hne : (a : Int) ≠ f := by omega
        have h1 : ((D.set f bs d).c (a : Int)) = D.c (a : Int) := by simp [Dk.set, hne]
        rw [h1]; omega
  exact (key (List.range 64) List.nodup_range (by rw [List.mem_range]; omega)).1
theorem len_le_total (D : Dk) {f : Int} (hf : 0 ≤ f ∧ f ≤ 63) : (D.c f).length ≤ total D.c := by
  have := total_set (D := D) (bs := []) (d := 0) hf
  simp only [List.length_nil] at this; omega
/-- the file f, taken out -/
theorem file_open {o : Obj} {D : Dk} {fs : List Fl} (hM : MapI o (fkv fs)) (hF : FilesOk D fs) (f : Int) : ∃ (v : Value) (Lf : Hp) (rest : List Fl),
    OwnS 5 1 v (D.c f).length (u8s (D.c f)) Lf ∧ (lookI f (fkv fs)).getD (.agg #[.slice none 0 0, .int .i64 0]) = cont v (D.d f) ∧ (fblks fs).Perm (Lf ++ fblks rest) ∧ D.d f ≤ (D.c f).length ∧ (∀ b ∈ D.c f, isB b) ∧
    ∀ (v' : Value) (bs : List Int) (d : Nat) (L' : Hp), OwnS 5 1 v' bs.length (u8s bs) L' → (0 ≤ f ∧ f ≤ 63) → d ≤ bs.length → (∀ b ∈ bs, isB b) → (bs = [] → d = 0) → ∃ fs' X, FilesOk (D.set f bs d) fs' ∧ fkv fs' = (if bs.length = 0 then delI f (fkv fs) else updI f (cont v' d) (fkv fs)) ∧ (L' ++ fblks rest).Perm (fblks fs' ++ X) := by
  have hkn := hM.keys
  rw [fkv_keys] at hkn
  by_cases hf : f ∈ fs.map (·.f)
  · obtain ⟨r, hr, rfl⟩ := List.mem_map.1 hf
    obtain ⟨A, B, rfl⟩ := List.append_of_mem hr
    rw [List.map_append, List.map_cons, List.nodup_append, List.nodup_cons] at hkn
    have hA : r.f ∉ A.map (·.f) := fun h => hkn.2.2 _ h _ List.mem_cons_self rfl
    have hB : r.f ∉ B.map (·.f) := hkn.2.1.1
    have hA' : r.f ∉ (fkv A).map Prod.fst := by rw [fkv_keys]; exact hA
    obtain ⟨h1, h2, h3, h4, h5⟩ := hF.ok r hr
    obtain ⟨h6, h7⟩ := hF.is r hr
    have hlk : lookI r.f (fkv (A ++ r :: B)) = some (cont r.v r.dur) := lookI_of_mem hM.keys (by rw [fkv]; exact List.mem_map_of_mem (f := Fl.kv) hr)
    refine ⟨r.v, r.L, A ++ B, by rw [h6]; exact h1, by rw [hlk, h7]; rfl, ?_, by rw [h6, h7]; exact h4, by rw [h6]; exact h5, ?_⟩
    · rw [fblks_app, fblks_app]
      show (fblks A ++ (r.L ++ fblks B)).Perm _
      exact perm_mid _ _ _
    · intro v' bs d L' hO hfr hd hb h0
      have hoth : ∀ q ∈ A ++ B, q.f ≠ r.f := by
        intro q hq h
        rcases List.mem_append.1 hq with hq | hq
        · exact hA (h ▸ List.mem_map_of_mem (f := (·.f)) hq)
        · exact hB (h ▸ List.mem_map_of_mem (f := (·.f)) hq)
      have hin : ∀ q ∈ A ++ B, q ∈ A ++ r :: B := by
        intro q hq
        rcases List.mem_append.1 hq with hq | hq
        · exact List.mem_append_left _ hq
        · exact List.mem_append_right _ (List.mem_cons_of_mem _ hq)
      have hnot : ∀ q, q ≠ r.f → (q ∉ (A ++ B).map (·.f)) → q ∉ (A ++ r :: B).map (·.f) := by
        intro q hq h h2
        rw [List.map_append, List.mem_append] at h h2
        rcases h2 with h2 | h2
        · exact h (.inl h2)
        · rcases List.mem_cons.1 h2 with h2 | h2
          · exact hq h2
          · exact h (.inr h2)
      by_cases hbs : bs = []
      · subst hbs
        refine ⟨A ++ B, L', ⟨fun q hq => hF.ok q (hin q hq), fun q hq => ?_, fun q hq => ?_⟩, ?_, List.perm_append_comm⟩
        · simp only [Dk.set, if_neg (hoth q hq)]; exact hF.is q (hin q hq)
        · by_cases hqf : q = r.f
          · simp [Dk.set, hqf, h0]
          · simp only [Dk.set, if_neg hqf]; exact hF.no q (hnot q hqf hq)
        · rw [if_pos (by simp), fkv_app, fkv_app]
          exact (delI_mid hA').symm
      · refine ⟨A ++ ⟨r.f, v', bs, d, L'⟩ :: B, [], ⟨fun q hq => ?_, fun q hq => ?_, fun q hq => ?_⟩, ?_, ?_⟩
        · rcases List.mem_append.1 hq with hq | hq
          · exact hF.ok q (List.mem_append_left _ hq)
          · rcases List.mem_cons.1 hq with rfl | hq
            · exact ⟨hO, hbs, hfr, hd, hb⟩
            · exact hF.ok q (List.mem_append_right _ (List.mem_cons_of_mem _ hq))
        · rcases List.mem_append.1 hq with hq | hq
          · simp only [Dk.set, if_neg (hoth q (List.mem_append_left _ hq))]; exact hF.is q (List.mem_append_left _ hq)
          · rcases List.mem_cons.1 hq with rfl | hq
            · simp [Dk.set]
            · simp only [Dk.set, if_neg (hoth q (List.mem_append_right _ hq))]; exact hF.is q (List.mem_append_right _ (List.mem_cons_of_mem _ hq))
        · have hqf : q ≠ r.f := fun h => hq (by rw [List.map_append, List.mem_append, List.map_cons, List.mem_cons]; exact .inr (.inl h))
          simp only [Dk.set, if_neg hqf]
          refine hF.no q ?_
          rw [List.map_append, List.map_cons] at hq ⊢; exact hq
        · rw [if_neg (by simpa using hbs), fkv_app, fkv_app]
          exact (updI_mid hA').symm
        · rw [List.append_nil, fblks_app, fblks_app]
          show (L' ++ (fblks A ++ fblks B)).Perm (fblks A ++ (L' ++ fblks B))
          exact perm_mid _ _ _
  · have hf' : f ∉ (fkv fs).map Prod.fst := by rw [fkv_keys]; exact hf
    obtain ⟨h6, h7⟩ := hF.no f hf
    refine ⟨.slice none 0 0, [], fs, by rw [h6]; exact OwnS.nil _ _, by rw [lookI_none hf', h7]; rfl, List.Perm.refl _, by rw [h7]; exact Nat.zero_le _, by rw [h6]; simp, ?_⟩
    intro v' bs d L' hO hfr hd hb h0
    by_cases hbs : bs = []
    · subst hbs
      refine ⟨fs, L', ⟨hF.ok, fun q hq => ?_, fun q hq => ?_⟩, ?_, List.perm_append_comm⟩
      · have : q.f ≠ f := fun h => hf (h ▸ List.mem_map_of_mem (f := (·.f)) hq)
        simp only [Dk.set, if_neg this]; exact hF.is q hq
      · by_cases hqf : q = f
        · simp [Dk.set, hqf, h0]
        · simp only [Dk.set, if_neg hqf]; exact hF.no q hq
      · rw [if_pos (by simp)]; exact (delI_new hf').symm
    · refine ⟨fs ++ [⟨f, v', bs, d, L'⟩], [], ⟨fun q hq => ?_, fun q hq => ?_, fun q hq => ?_⟩, ?_, ?_⟩
      · rcases List.mem_append.1 hq with hq | hq
        · exact hF.ok q hq
        · rw [List.mem_singleton.1 hq]; exact ⟨hO, hbs, hfr, hd, hb⟩
      · rcases List.mem_append.1 hq with hq | hq
        · have : q.f ≠ f := fun h => hf (h ▸ List.mem_map_of_mem (f := (·.f)) hq)
          simp only [Dk.set, if_neg this]; exact hF.is q hq
        · rw [List.mem_singleton.1 hq]; simp [Dk.set]
      · rw [List.map_append, List.mem_append, not_or] at hq
        have hqf : q ≠ f := fun h => hq.2 (by simp [h])
        simp only [Dk.set, if_neg hqf]; exact hF.no q hq.1
      · rw [if_neg (by simpa using hbs), fkv_app, updI_new hf']; rfl
      · rw [List.append_nil, fblks_app]
        show (L' ++ fblks fs).Perm (fblks fs ++ fblks [⟨f, v', bs, d, L'⟩])
        have : fblks [⟨f, v', bs, d, L'⟩] = L' := by simp [fblks]
        rw [this]; exact List.perm_append_comm
end Go.Proofs.YtbcdnpjcbchbjaaDoor
