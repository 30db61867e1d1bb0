/- One changed byte changes the hash; a frame with one byte changed behind its length is no frame. Plain. -/
import Derived.Test.YtnepohadpdkfcaaWaO
set_option linter.unusedVariables false
set_option linter.unusedSimpArgs false
namespace Go.Proofs.Ytnepohadpdkfcaa
open Go.SL
theorem fold_inj {mx : Nat → Nat → Nat} (hmx : IsMix mx) {l : List Nat} (hl : ∀ w ∈ l, w < 18446744073709551616) : ∀ s t, s < 18446744073709551616 → t < 18446744073709551616 → l.foldl mx s = l.foldl mx t → s = t := by
  induction l with
  | nil => intro s t _ _ h; exact h
  | cons a r ih =>
    intro s t hs ht h
    exact mix_s hmx hs ht (hl a List.mem_cons_self) (ih (fun w hw => hl w (List.mem_cons_of_mem _ hw)) _ _ (hmx.lt _ _) (hmx.lt _ _) h)
theorem fold_set {mx : Nat → Nat → Nat} (hmx : IsMix mx) {l : List Nat} (hl : ∀ w ∈ l, w < 18446744073709551616) : ∀ (k S v : Nat), S < 18446744073709551616 → v < 18446744073709551616 → k < l.length → (l.set k v).foldl mx S = l.foldl mx S → l[k]? = some v := by
  induction l with
  | nil => intro k S v _ _ h; simp at h
  | cons a r ih =>
    intro k S v hS hv hk h
    have hr : ∀ w ∈ r, w < 18446744073709551616 := fun w hw => hl w (List.mem_cons_of_mem _ hw)
    cases k with
    | zero =>
      have h1 := fold_inj hmx hr _ _ (hmx.lt S v) (hmx.lt S a) (by simpa using h)
      rw [mix_w hmx hS hv (hl a List.mem_cons_self) h1]; rfl
    | succ k =>
      have := ih hr k (mx S a) v (hmx.lt _ _) hv (by simpa using hk) (by simpa using h)
      simpa using this
def usV (bs : List Int) : List Nat := ((wordsOf bs).map (fun (m : Nat) => IntKind.i64.wrap (m : Int)) ++ [(bs.length : Int)]).map toU
theorem usV_eq {bs : List Int} (h : ∀ b ∈ bs, isB b) : usV bs = wordsOf bs ++ [toU (bs.length : Int)] := by
  rw [usV, List.map_append, List.map_map]
  congr 1
  rw [wordsOf, List.map_map]
  apply List.map_congr_left
  intro k _
  exact toU_i64 _ (wordAt_lt h k)
theorem hashV_us (mx : Nat → Nat → Nat) (lab bs : List Int) : hashV mx lab bs = mx ((usV bs).foldl mx (mx (mx ((wordsOf lab).foldl mx 0) lab.length) (usV bs).length)) 0 := rfl
theorem wordAt_set {bs : List Int} {i j : Nat} {c : Int} (h : j ≠ i / 8) : wordAt (bs.set i c) j = wordAt bs j := by
  rw [wordAt, wordAt, List.drop_set]
  split
  · rfl
  · rw [List.take_set, List.set_eq_of_length_le]
    rw [List.length_take]; omega
theorem wordsOf_set {bs : List Int} {i : Nat} {c : Int} : wordsOf (bs.set i c) = (wordsOf bs).set (i / 8) (wordAt (bs.set i c) (i / 8)) := by
  apply List.ext_getElem?
  intro j
  rw [List.getElem?_set]
  have hn : nWords (bs.set i c) = nWords bs := by simp [nWords]
  by_cases hj : j < nWords bs
  · rw [wordsOf_length]
    have h1 : (wordsOf (bs.set i c))[j]? = some (wordAt (bs.set i c) j) := by rw [wordsOf, hn, List.getElem?_map, List.getElem?_range hj]; rfl
    have h2 : (wordsOf bs)[j]? = some (wordAt bs j) := by rw [wordsOf, List.getElem?_map, List.getElem?_range hj]; rfl
    rw [h1, h2]
    split
    · rename_i e; subst e; rw [if_pos hj]
    · rename_i e; rw [wordAt_set (fun h => e h.symm)]
  · have h1 : (wordsOf (bs.set i c))[j]? = none := by rw [List.getElem?_eq_none]; rw [wordsOf_length, hn]; omega
    have h2 : (wordsOf bs)[j]? = none := by rw [List.getElem?_eq_none]; rw [wordsOf_length]; omega
    rw [h1, h2]
    split
    · rw [if_neg (by rw [wordsOf_length]; omega)]
    · rfl
/-- a hash tells one changed byte -/
theorem hashV_set {mx : Nat → Nat → Nat} (hmx : IsMix mx) {lab bs : List Int} {i : Nat} {c : Int} (hb : ∀ b ∈ bs, isB b) (hc : isB c) (hi : i < bs.length) (h : hashV mx lab (bs.set i c) = hashV mx lab bs) : bs[i]? = some c := by
  have hb' : ∀ b ∈ bs.set i c, isB b := by
    intro b hm
    rcases List.mem_or_eq_of_mem_set hm with hm | rfl
    · exact hb b hm
    · exact hc
  have hk : i / 8 < nWords bs := by rw [nWords]; omega
  have hkl : i / 8 < (wordsOf bs).length := by rw [wordsOf_length]; exact hk
  have hwl : ∀ w ∈ wordsOf bs ++ [toU (bs.length : Int)], w < 18446744073709551616 := by
    intro w hw
    rcases List.mem_append.1 hw with hw | hw
    · rw [wordsOf, List.mem_map] at hw
      obtain ⟨k, _, rfl⟩ := hw
      exact wordAt_lt hb k
    · rw [List.mem_singleton.1 hw]; exact toU_lt _
  have hus : usV (bs.set i c) = (usV bs).set (i / 8) (wordAt (bs.set i c) (i / 8)) := by
    rw [usV_eq hb', usV_eq hb, List.length_set, List.set_append_left _ _ hkl, ← wordsOf_set]
  rw [hashV_us, hashV_us, hus, List.length_set] at h
  have h2 := mix_s hmx (foldl_mix_lt hmx _ _ (hmx.lt _ _)) (foldl_mix_lt hmx _ _ (hmx.lt _ _)) (Nat.succ_pos _) h
  rw [usV_eq hb] at h2
  have h3 := fold_set hmx hwl (i / 8) _ _ (hmx.lt _ _) (wordAt_lt hb' (i / 8)) (by rw [List.length_append]; omega) h2
  rw [List.getElem?_append_left hkl] at h3
  have h4 : (wordsOf bs)[i / 8]? = some (wordAt bs (i / 8)) := by rw [wordsOf, List.getElem?_map, List.getElem?_range hk]; rfl
  rw [h4] at h3
  have h5 := Option.some.inj h3
  rw [wordAt, wordAt] at h5
  have h6 := leV_inj (fun b hm => hb b (List.mem_of_mem_drop (List.mem_of_mem_take hm))) (fun b hm => hb' b (List.mem_of_mem_drop (List.mem_of_mem_take hm))) (by simp) h5
  have h7 := congrArg (fun l => l[i - 8 * (i / 8)]?) h6
  rw [List.getElem?_take_of_lt (by omega), List.getElem?_take_of_lt (by omega), List.getElem?_drop, List.getElem?_drop, show 8 * (i / 8) + (i - 8 * (i / 8)) = i by omega, List.getElem?_set_self hi] at h7
  exact h7
theorem uvar_pre {a b : Nat} {r q : List Int} (ha : a < 18446744073709551616) (hb : b < 18446744073709551616) (h : uvar a ++ r = uvar b ++ q) : a = b ∧ r = q := by
  have h1 := rdU_uvar (r := r) ha
  rw [h, rdU_uvar hb] at h1
  have h2 := congrArg Prod.fst h1
  have h3 := congrArg (fun z => z.2.rest) h1
  exact ⟨h2.symm, h3.symm⟩
theorem coreV_len' {n : Int} {x : List Int} : x.length < (coreV n x).length := by
  have h1 : 0 < (uvar (zz n)).length := List.length_pos_iff.2 (uvar_ne _)
  rw [coreV]; simp only [List.length_append]; omega
/-- a byte behind the length is changed: no frame -/
theorem frame_turned {mx : Nat → Nat → Nat} (hmx : IsMix mx) {x : List Int} {n : Nat} {i : Nat} {c : Int} (hx : ∀ b ∈ x, isB b) (hxl : x.length ≤ 1000000) (hn : n ≤ 1048576) (hc : isB c) (hlo : (uvar (coreV (n : Int) x).length).length ≤ i) (hi : i < (frameV mx (n : Int) x).length) (hne : (frameV mx (n : Int) x)[i]? ≠ some c) :
    noFrame mx n ((frameV mx (n : Int) x).set i c) := by
  intro y r h
  have hnI : isI64 (n : Int) := by unfold isI64; omega
  have hcl := coreV_len (x := x) hnI (by omega)
  have hfl := frame_len_le hmx (x := x) hnI (by omega)
  have hyl := frame_len (mx := mx) (n := (n : Int)) (x := y)
  have hl := congrArg List.length h
  rw [List.length_set, List.length_append] at hl
  have hcy := coreV_len (x := y) hnI (by omega)
  have hH := hashV_lt hmx (bytesOf sWal) (coreV (n : Int) x)
  have hH' := hashV_lt hmx (bytesOf sWal) (coreV (n : Int) y)
  have hcB := coreV_isB (n := (n : Int)) hx
  rw [frameV] at h hne hi
  generalize hC : coreV (n : Int) x = C at *
  generalize hD : coreV (n : Int) y = D at *
  obtain ⟨H, hHd⟩ : ∃ H, H = hashV mx (bytesOf sWal) C := ⟨_, rfl⟩
  rw [← hHd] at h hne hi hH
  rw [frameV, hD] at h
  rw [List.append_assoc] at h hne hi
  rw [List.set_append_right _ _ hlo, List.append_assoc, List.append_assoc] at h
  obtain ⟨e1, h⟩ := uvar_pre (by omega) (by omega) h
  rw [List.getElem?_append_right hlo] at hne
  rw [List.length_append] at hi
  generalize hk : i - (uvar C.length).length = k at *
  by_cases hkC : k < C.length
  · rw [List.set_append_left _ _ hkC] at h
    have h2 := List.append_inj h (by rw [List.length_set]; exact e1)
    obtain ⟨e2, e3⟩ := h2
    rw [List.getElem?_append_left hkC] at hne
    have e4 : uvar H ++ [] = uvar (hashV mx (bytesOf sWal) D) ++ r := by rw [List.append_nil]; exact e3
    obtain ⟨e5, -⟩ := uvar_pre hH hH' e4
    rw [hHd, ← e2] at e5
    exact hne (hashV_set hmx hcB hc hkC e5.symm)
  · rw [List.set_append_right _ _ (by omega)] at h
    obtain ⟨e2, e3⟩ := List.append_inj h e1
    subst e2
    rw [← hHd] at e3
    have e4 := congrArg List.length e3
    rw [List.length_set, List.length_append] at e4
    have e5 : r = [] := List.eq_nil_of_length_eq_zero (by omega)
    rw [e5, List.append_nil] at e3
    rw [List.length_append] at hi
    rw [List.getElem?_append_right (by omega), ← e3, List.getElem?_set_self (by omega)] at hne
    exact hne rfl
theorem xor_bit : ∀ x : Fin 256, ∀ k : Fin 8, isB (IntKind.u8.wrap (((BitVec.ofInt IntKind.u8.bits ((x.val : Nat) : Int) ^^^ BitVec.ofInt IntKind.u8.bits (IntKind.u8.wrap (1 * 2 ^ (min k.val 8)))).toNat : Nat) : Int)) ∧ IntKind.u8.wrap (((BitVec.ofInt IntKind.u8.bits ((x.val : Nat) : Int) ^^^ BitVec.ofInt IntKind.u8.bits (IntKind.u8.wrap (1 * 2 ^ (min k.val 8)))).toNat : Nat) : Int) ≠ ((x.val : Nat) : Int) := by
  unfold isB; decide +kernel
end Go.Proofs.Ytnepohadpdkfcaa
