/- Encode and Decode: plain laws. -/
import Derived.Test.YtmjjdcfakkaiiaaDeL
set_option linter.unusedVariables false
set_option linter.unusedSimpArgs false
namespace Go.Proofs.Ytmjjdcfakkaiiaa
open Go.SL
theorem pu_inv {l : List Int} : ∀ {i n : Nat} {r : List Int}, (∀ b ∈ l, isB b) → pu i l = .ok (n, r) → l = uvar n ++ r ∧ (0 < i → n ≠ 0) := by
  induction l with
  | nil => intro i n r _ h; simp [pu] at h
  | cons c l ih =>
    intro i n r hl h
    have hc := hl c (by simp)
    unfold isB at hc
    simp only [pu] at h
    split at h
    · cases h
    · rename_i h1
      split at h
      · simp at h; obtain ⟨rfl, rfl⟩ := h
        refine ⟨?_, by omega⟩
        rw [uvar_lo (by omega)]; simp; omega
      · split at h
        · rename_i n' r' hp
          simp at h; obtain ⟨rfl, rfl⟩ := h
          obtain ⟨h2, h3⟩ := ih (fun b hb => hl b (List.mem_cons_of_mem _ hb)) hp
          have h4 := h3 (by omega)
          refine ⟨?_, by omega⟩
          rw [uvar_hi (by omega), show ((c - 128).toNat + 128 * n') / 128 = n' by omega, List.cons_append, ← h2]
          congr 1; omega
        · cases h
theorem rdU_inv {s : RS} (hb : s.e = 0 → ∀ b ∈ s.rest, isB b) (h : (rdU s).2.e = 0) : s.e = 0 ∧ s.rest = uvar (rdU s).1 ++ (rdU s).2.rest := by
  have h0 := (rdU_rest hb h).1
  refine ⟨h0, ?_⟩
  unfold rdU at h ⊢
  rw [if_neg (by simpa using h0)] at h ⊢
  split at h
  · rename_i n r hp; exact (pu_inv (hb h0) hp).1
  · rename_i c hp
    exfalso
    have := rdU_rest (s := s) hb
    rw [rdU, if_neg (by simpa using h0), hp] at this
    obtain ⟨_, k, _, hk⟩ := this h
    -- an error is never 0
    have key : ∀ (l : List Int) (i : Nat) (c : Int), pu i l = .error c → c = 2 ∨ c = 3 := by
      intro l
      induction l with
      | nil => intro i c h; simp [pu] at h; omega
      | cons b l ih =>
        intro i c h
        simp only [pu] at h
        split at h
        · cases h; exact .inl rfl
        · split at h
          · cases h
          · split at h
            · cases h
            · rename_i e he; cases h; exact ih _ _ he
    have := key _ _ _ hp
    simp only at h; omega
theorem isB_after {s : RS} (hb : s.e = 0 → ∀ b ∈ s.rest, isB b) (h : (rdU s).2.e = 0) : ∀ b ∈ (rdU s).2.rest, isB b := by
  obtain ⟨h0, h1⟩ := rdU_inv hb h
  intro b hbb
  exact hb h0 b (by rw [h1]; exact List.mem_append_right _ hbb)

theorem strOf_bytesOf' (s : ByteArray) : strOf (bytesOf s) = s := bytesOf_inj (bytesOf_strOf' (bytesOf_isB s))
theorem rdRaw_txt {s : ByteArray} {r : List Int} (h : s.size < 18446744073709551616) : rdRaw ⟨txt s ++ r, 0⟩ = (bytesOf s, ⟨r, 0⟩) := by
  have := rdRaw_uvar (bs := bytesOf s) (r := r) (by rw [bytesOf_length]; exact h)
  rw [bytesOf_length] at this
  rw [txt, List.append_assoc]; exact this
theorem snoc_ind {α : Type} {Q : List α → Prop} (h0 : Q []) (h1 : ∀ l x, Q l → Q (l ++ [x])) (l : List α) : Q l := by
  have : ∀ l : List α, Q l.reverse := by
    intro l
    induction l with
    | nil => exact h0
    | cons x l ih => rw [List.reverse_cons]; exact h1 _ _ ih
  have h := this l.reverse
  rwa [List.reverse_reverse] at h
theorem rdLs_enc (ls : List Lb) : (∀ x ∈ ls, x.1.size ≤ 1048576 ∧ x.2.size ≤ 1048576) → ∀ r, rdLs ls.length ⟨ls.flatMap lbTxt ++ r, 0⟩ = (ls, ⟨r, 0⟩) := by
  induction ls using snoc_ind with
  | h0 => intro _ r; rfl
  | h1 l x ih =>
    intro h r
    have hx := h x (by simp)
    have h1 := ih (fun y hy => h y (by simp [hy])) (lbTxt x ++ r)
    rw [List.length_append, List.length_singleton, rdLs, List.flatMap_append, List.append_assoc, List.flatMap_singleton, h1]
    simp only [lbTxt, List.append_assoc]
    rw [rdRaw_txt (by omega), rdRaw_txt (by omega)]
    simp only [strOf_bytesOf']
theorem rdNs_enc (ns : List Int) : (∀ z ∈ ns, isI64 z) → ∀ r, rdNs ns.length ⟨ns.flatMap (fun n => uvar (zz n)) ++ r, 0⟩ = (ns, ⟨r, 0⟩) := by
  induction ns using snoc_ind with
  | h0 => intro _ r; rfl
  | h1 l x ih =>
    intro h r
    have h1 := ih (fun y hy => h y (by simp [hy])) (uvar (zz x) ++ r)
    rw [List.length_append, List.length_singleton, rdNs, List.flatMap_append, List.append_assoc, List.flatMap_singleton, h1]
    simp only
    rw [rdI_uvar (h x (by simp))]
theorem De.nums_i64 {d : De} (h : d.Ints) : ∀ z ∈ d.nums, isI64 z := by
  intro n hn
  obtain ⟨j, hj⟩ := List.getElem?_of_mem hn
  obtain ⟨z', h1, _, h3⟩ := De.nums_at (d := d) (i := j) (List.getElem?_eq_some_iff.1 hj).1 h
  rw [hj] at h1; cases h1; exact h3
theorem enc_raw {d : De} {ls : List Lb} (h : EncOk d ls) : rdRaw ⟨encD d ls, 0⟩ = (bytesOf d.name, ⟨uvar (zz (ls.length : Int)) ++ (ls.flatMap lbTxt ++ d.nums.flatMap (fun n => uvar (zz n))), 0⟩) := by
  have := h.name
  rw [encD, List.append_assoc, List.append_assoc]
  exact rdRaw_txt (by omega)
theorem enc_cnt {d : De} {ls : List Lb} (h : EncOk d ls) : rdI ⟨uvar (zz (ls.length : Int)) ++ (ls.flatMap lbTxt ++ d.nums.flatMap (fun n => uvar (zz n))), 0⟩ = ((ls.length : Int), ⟨ls.flatMap lbTxt ++ d.nums.flatMap (fun n => uvar (zz n)), 0⟩) := rdI_uvar (by have := h.len; omega)
theorem enc_dec {d : De} {ls : List Lb} (h : EncOk d ls) (h8 : ls.length ≤ 8) : DecOk (encD d ls) d.name ls d.nums := by
  have e1 := enc_raw h
  have e2 := enc_cnt h
  have e3 := rdLs_enc ls h.lab (d.nums.flatMap (fun n => uvar (zz n)))
  have e4 := rdNs_enc d.nums (De.nums_i64 h.ints) []
  rw [List.append_nil] at e4
  have hn : ((ls.length : Int)).toNat = ls.length := by omega
  refine ⟨?_, ?_, ?_, ?_, ?_⟩
  · rw [e1]; exact (strOf_bytesOf' _).symm
  · rw [e1]; simp only; rw [e2]; simp only; omega
  · rw [e1]; simp only; rw [e2]; simp only; rw [hn, e3]
  · rw [e1]; simp only; rw [e2]; simp only; rw [hn, e3]; exact (congrArg Prod.fst e4).symm
  · rw [e1]; simp only; rw [e2]; simp only; rw [hn, e3]
    have : rdNs 10 ⟨d.nums.flatMap (fun n => uvar (zz n)), 0⟩ = (d.nums, ⟨[], 0⟩) := e4
    rw [this]; simp [rdEnd]
theorem enc_many {d : De} {ls : List Lb} (h : EncOk d ls) (h8 : 8 < ls.length) : ∀ nm l n, ¬ DecOk (encD d ls) nm l n := by
  intro nm l n hD
  have := hD.cnt
  rw [enc_raw h] at this; simp only at this; rw [enc_cnt h] at this; simp only at this
  omega
theorem DecOk.uniq {bs : List Int} {n1 n2 : ByteArray} {l1 l2 : List Lb} {m1 m2 : List Int} (h : DecOk bs n1 l1 m1) (k : DecOk bs n2 l2 m2) : n1 = n2 ∧ l1 = l2 ∧ m1 = m2 := ⟨h.nm.trans k.nm.symm, h.ls.trans k.ls.symm, h.ns.trans k.ns.symm⟩
/-! back -/
theorem rdU_e {s : RS} (h : (rdU s).2.e = 0) : s.e = 0 := by
  unfold rdU at h
  split at h
  · rename_i h1; exact absurd h h1
  · rename_i h1; simpa using h1
theorem rdRaw_inv {s : RS} (hb : s.e = 0 → ∀ b ∈ s.rest, isB b) (h : (rdRaw s).2.e = 0) : s.e = 0 ∧ s.rest = txt (strOf (rdRaw s).1) ++ (rdRaw s).2.rest := by
  unfold rdRaw at h ⊢
  split at h
  · rename_i h1; exact absurd h h1
  · rename_i h1
    have h1' : (rdU s).2.e = 0 := by simpa using h1
    obtain ⟨h0, h2⟩ := rdU_inv hb h1'
    have hB := isB_after hb h1'
    rw [if_neg h1]
    split at h
    · cases h
    · rename_i h3
      rw [if_neg h3]
      refine ⟨h0, ?_⟩
      have hB2 : ∀ b ∈ (rdU s).2.rest.take (rdU s).1, isB b := fun b hb => hB b (List.mem_of_mem_take hb)
      simp only [txt]
      rw [bytesOf_strOf' hB2, strOf_size' hB2, List.length_take, Nat.min_eq_left (by omega), List.append_assoc, List.take_append_drop]
      exact h2
theorem rdRaw_e {s : RS} (h : (rdRaw s).2.e = 0) : s.e = 0 := by
  unfold rdRaw at h
  split at h
  · rename_i h1; exact absurd h h1
  · rename_i h1; exact rdU_e (by simpa using h1)
theorem rdRaw_isB {s : RS} (hb : s.e = 0 → ∀ b ∈ s.rest, isB b) (h : (rdRaw s).2.e = 0) : ∀ b ∈ (rdRaw s).2.rest, isB b := by
  obtain ⟨h0, h1⟩ := rdRaw_inv hb h
  exact fun b hbb => hb h0 b (by rw [h1]; exact List.mem_append_right _ hbb)
theorem rdLs_inv : ∀ (n : Nat) {s : RS}, (s.e = 0 → ∀ b ∈ s.rest, isB b) → (rdLs n s).2.e = 0 → s.e = 0 ∧ s.rest = (rdLs n s).1.flatMap lbTxt ++ (rdLs n s).2.rest
  | 0, s, _, h => ⟨h, by simp [rdLs]⟩
  | n + 1, s, hb, h => by
    simp only [rdLs] at h ⊢
    have h1 := rdRaw_e h
    have h2 := rdRaw_e h1
    obtain ⟨i0, i1⟩ := rdLs_inv n hb h2
    have hb1 : (rdLs n s).2.e = 0 → ∀ b ∈ (rdLs n s).2.rest, isB b := fun _ b hbb => hb i0 b (by rw [i1]; exact List.mem_append_right _ hbb)
    obtain ⟨_, j1⟩ := rdRaw_inv hb1 h1
    obtain ⟨_, k1⟩ := rdRaw_inv (fun _ => rdRaw_isB hb1 h1) h
    refine ⟨i0, ?_⟩
    rw [List.flatMap_append, List.flatMap_singleton, lbTxt, List.append_assoc, List.append_assoc, ← k1, ← j1]
    exact i1
theorem rdNs_inv : ∀ (n : Nat) {s : RS}, (s.e = 0 → ∀ b ∈ s.rest, isB b) → (rdNs n s).2.e = 0 → s.e = 0 ∧ s.rest = (rdNs n s).1.flatMap (fun n => uvar (zz n)) ++ (rdNs n s).2.rest ∧ ∀ z ∈ (rdNs n s).1, isI64 z
  | 0, s, _, h => ⟨h, by simp [rdNs], by simp [rdNs]⟩
  | n + 1, s, hb, h => by
    simp only [rdNs] at h ⊢
    have h1 : (rdNs n s).2.e = 0 := rdU_e h
    obtain ⟨i0, i1, i2⟩ := rdNs_inv n hb h1
    have hb1 : (rdNs n s).2.e = 0 → ∀ b ∈ (rdNs n s).2.rest, isB b := fun _ b hbb => hb i0 b (by rw [i1]; exact List.mem_append_right _ hbb)
    obtain ⟨_, j1⟩ := rdU_inv hb1 h
    refine ⟨i0, ?_, ?_⟩
    · rw [List.flatMap_append, List.flatMap_singleton, List.append_assoc]
      have : uvar (zz (rdI (rdNs n s).2).1) ++ (rdI (rdNs n s).2).2.rest = (rdNs n s).2.rest := by
        rw [j1]; simp only [rdI, zz_unzz]
      rw [this]; exact i1
    · intro z hz
      rw [List.mem_append, List.mem_singleton] at hz
      rcases hz with hz | rfl
      · exact i2 z hz
      · exact unzz_in (rdU_lt' hb1)
theorem rdEnd_inv {s : RS} (h : rdEnd s = 0) : s.e = 0 ∧ s.rest = [] := by
  unfold rdEnd at h
  split at h
  · rename_i h1; exact absurd h h1
  · rename_i h1
    split at h
    · exact ⟨by simpa using h1, ‹_›⟩
    · cases h
theorem dec_enc {bs : List Int} {d : De} {ls : List Lb} (h : DecOk bs d.name ls d.nums) (hb : ∀ b ∈ bs, isB b) : encD d ls = bs ∧ (∀ z ∈ d.nums, isI64 z) ∧ ls.length ≤ 8 := by
  obtain ⟨hnm, hcnt, hls, hns, hfin⟩ := h
  obtain ⟨f1, f2⟩ := rdEnd_inv hfin
  generalize hs1 : (rdRaw ⟨bs, 0⟩).2 = s1 at *
  generalize hn : (rdI s1).1 = n at *
  generalize hs2 : (rdI s1).2 = s2 at *
  generalize hs3 : (rdLs n.toNat s2).2 = s3 at *
  have e3 : s3.e = 0 := by
    have : ∀ k, (rdNs k s3).2.e = 0 → s3.e = 0 := by
      intro k
      induction k with
      | zero => exact fun h => h
      | succ k ih => intro h; simp only [rdNs] at h; exact ih (rdU_e h)
    exact this 10 f1
  have e2 : s2.e = 0 := by
    have : ∀ k, (rdLs k s2).2.e = 0 → s2.e = 0 := by
      intro k
      induction k with
      | zero => exact fun h => h
      | succ k ih => intro h; simp only [rdLs] at h; exact ih (rdRaw_e (rdRaw_e h))
    exact this _ (by rw [hs3]; exact e3)
  have e1' : (rdU s1).2.e = 0 := by
    have : (rdI s1).2 = (rdU s1).2 := rfl
    rw [← this, hs2]; exact e2
  have e1 : s1.e = 0 := rdU_e e1'
  have hb0 : (⟨bs, 0⟩ : RS).e = 0 → ∀ b ∈ (⟨bs, 0⟩ : RS).rest, isB b := fun _ => hb
  obtain ⟨_, p0⟩ := rdRaw_inv hb0 (by rw [hs1]; exact e1)
  have hb1 : s1.e = 0 → ∀ b ∈ s1.rest, isB b := fun _ => by
    have := rdRaw_isB hb0 (by rw [hs1]; exact e1)
    rw [hs1] at this; exact this
  obtain ⟨_, p1⟩ := rdU_inv hb1 e1'
  have hb2 : s2.e = 0 → ∀ b ∈ s2.rest, isB b := fun _ => by
    have := isB_after hb1 e1'
    rw [← hs2]; exact this
  obtain ⟨_, p2⟩ := rdLs_inv n.toNat hb2 (by rw [hs3]; exact e3)
  have hb3 : s3.e = 0 → ∀ b ∈ s3.rest, isB b := fun _ b hbb => hb2 e2 b (by rw [p2, hs3]; exact List.mem_append_right _ hbb)
  obtain ⟨_, p3, p4⟩ := rdNs_inv 10 hb3 f1
  have hll : ls.length = n.toNat := by rw [hls]; exact rdLs_len _ _
  refine ⟨?_, by rw [hns]; exact p4, by omega⟩
  have q1 : s1.rest = uvar (zz (ls.length : Int)) ++ s2.rest := by
    rw [p1, ← hs2]
    have : zz (ls.length : Int) = (rdU s1).1 := by
      rw [hll, Int.toNat_of_nonneg hcnt.1, ← hn]; simp only [rdI, zz_unzz]
    rw [this]; rfl
  have q0 : bs = txt d.name ++ s1.rest := by rw [hnm, ← hs1]; exact p0
  rw [q0, q1, p2, hs3, p3, f2, List.append_nil, ← hls, ← hns, encD]
  simp only [List.append_assoc]
end Go.Proofs.Ytmjjdcfakkaiiaa
