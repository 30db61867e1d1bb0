/- The example that every law of package disk asks for. -/
import Derived.Test.YtbcdnpjcbchbjaaDoorDkH
set_option linter.unusedVariables false
set_option linter.unusedSimpArgs false
namespace Go.Proofs.YtbcdnpjcbchbjaaDoor
open Go.SL
def lvA : Dk := (((newDk 100).app 3 [1, 2]).1.sync.1.app 3 [255]).1
theorem lv_facts : (lvA.crash [1] 7).readE 3 = 0 ∧ (lvA.crash [1] 7).readV 3 = [1, 2, 254] ∧ (lvA.crash [] 7).readE 3 = 0 ∧ (lvA.crash [] 7).readV 3 = [1, 2] ∧ (((lvA.crash [] 7).arm 0).app 1 []).2 = 18 ∧ (((lvA.crash [] 7).arm 0).app 1 []).1.readE 3 = 18 := by decide +kernel
/-- what is in front is no part of what is behind -/
theorem St_frontNot {F : List Nat} {w0 w : World} {A B : Hp} (hs : St F w0 w (A ++ B)) {b : Nat} (hb : b ∈ ids A) : b ∉ ids B := by
  have := hs.nodup
  rw [ids_append] at this
  exact fun h2 => (List.nodup_append.1 this).2.2 b hb b h2 rfl
theorem Sl_lit {F : List Nat} {w0 w : World} {L : Hp} {g m : Nat} {e : TypeId} {cs : List Value} (hs : St F w0 w ((g, Blk e cs) :: L)) (hm : m = cs.length) : Sl w (.slice (some ⟨g, 0, none⟩) m m) cs.length cs := by
  subst hm; exact hs.sl (k := 0) rfl (Nat.le_refl _) (by intro j u hj; rw [Nat.zero_add]; exact hj)
theorem RdS.apart {v : Value} {n : Nat} {cs : List Value} {L L0 : Hp} (h : RdS v n cs L) (hd : ∀ b ∈ ids L, b ∉ ids L0) : ∀ a m c, v = .slice (some a) m c → cs ≠ [] → a.block ∉ ids L0 := fun a m c he hne => hd _ (h.inL a m c he hne)
theorem ids_disj {F : List Nat} {w0 w : World} {A B C : Hp} (hs : St F w0 w (A ++ (B ++ C))) : (∀ b ∈ ids C, b ∉ ids A) ∧ (∀ b ∈ ids C, b ∉ ids B) ∧ (∀ b ∈ ids B, b ∉ ids A) := by
  have h := hs.nodup
  rw [ids_append, ids_append, List.nodup_append, List.nodup_append] at h
  obtain ⟨_, ⟨_, _, h2⟩, h1⟩ := h
  exact ⟨fun b hb ha => h1 b ha b (List.mem_append_right _ hb) rfl, fun b hb ha => h2 b ha b hb rfl, fun b hb ha => h1 b ha b (List.mem_append_left _ hb) rfl⟩
set_option maxHeartbeats 2000000 in
theorem lives_ok (w0 : World) : Ret Tryd.prog 22 [].toArray w0 fun r w' => Fwd [] w0 w' ∧ r = .bool true := by
  obtain ⟨hf1, hf2, hf3, hf4, hf5, hf6⟩ := lv_facts
  have hI : isI64 7 ∧ isI64 0 := by unfold isI64; omega
  refine Ret_start fun w hs => ?_
  refine Ret_of Tryd.func22 rfl Tryd.ntmps22 rfl ?_
  refine W_seq ?_
  refine W_region ?_
  refine s_assign rfl rfl ?_
  refine WL_nil ?_
  refine n_then ?_
  refine W_seq ?_
  refine W_region ?_
  refine s_call Tryd.call4 rfl rfl (dNew_ok 100 w) ?_
  rintro v w (⟨-, -, p, Ld, rfl, hD, hst⟩ | ⟨h, -⟩)
  rotate_left
  · exact absurd ⟨by omega, by omega⟩ h
  replace hs := (St.back0 hs hst).left
  clear hst
  refine s_move rfl rfl ?_
  refine s_extract rfl rfl rfl ?_
  refine s_extract rfl rfl rfl ?_
  refine s_assign rfl rfl ?_
  refine s_assign rfl rfl ?_
  refine WL_nil ?_
  refine n_then ?_
  refine W_seq ?_
  refine W_seq ?_
  refine W_region ?_
  refine s_move rfl rfl ?_
  refine s_eql_ptr_nil Tryd.underlying23 rfl rfl rfl ?_
  refine s_move rfl rfl ?_
  refine WL_know (s := 17) (c := false) rfl (rfl) ?_
  refine WL_take rfl ?_
  refine s_move rfl rfl ?_
  refine WL_take rfl ?_
  refine s_neq rfl rfl rfl ?_
  refine s_pick_f rfl rfl rfl ?_
  refine WL_nil ?_
  refine n_then ?_
  refine W_cond_kf rfl (rfl) ?_
  refine W_skip ?_
  refine n_then ?_
  refine W_seq ?_
  refine W_region ?_
  refine s_move rfl rfl ?_
  refine s_buildSlice rfl rfl (BS29_2 _ _) hs ?_; clear hs; intro b22 w hs
  refine s_callL (M := [_]) (L1 := Ld) (X := []) Tryd.call11 rfl rfl (by simpa using hs) (fun h => dAppend_ok p _ 3 _ [1, 2] Ld w hD (Sl_lit hs rfl) (fun a m c he _ => by cases he; exact St_frontNot (A := [_]) hs (by simp [ids])) (by decide) h) ?_
  clear hs; rintro u w L' ⟨hD', rfl⟩ - hs
  simp only [List.append_nil] at hs
  replace hs := hs.tail
  clear hD
  refine WL_nil ?_
  refine n_then ?_
  refine W_seq ?_
  refine W_region ?_
  refine s_move rfl rfl ?_
  refine s_callL (M := []) (L1 := L') (X := []) Tryd.call12 rfl rfl (by simpa using hs) (fun h => dSync_ok p _ L' w hD' h) ?_
  clear hs hD'; rintro u w L' ⟨hD', rfl⟩ - hs
  simp only [List.append_nil, List.nil_append] at hs
  refine WL_nil ?_
  refine n_then ?_
  refine W_seq ?_
  refine W_region ?_
  refine s_move rfl rfl ?_
  refine s_buildSlice rfl rfl (BS29_1 _) hs ?_; clear hs; intro b27 w hs
  refine s_callL (M := [_]) (L1 := L') (X := []) Tryd.call11 rfl rfl (by simpa using hs) (fun h => dAppend_ok p _ 3 _ [255] L' w hD' (Sl_lit hs rfl) (fun a m c he _ => by cases he; exact St_frontNot (A := [_]) hs (by simp [ids])) (by decide) h) ?_
  clear hs hD'; rintro u w L' ⟨hD', rfl⟩ - hs
  simp only [List.append_nil] at hs
  replace hs := hs.tail
  replace hD' : DiskAt p lvA L' := hD'
  refine WL_nil ?_
  refine n_then ?_
  refine W_seq ?_
  refine W_region ?_
  refine s_move rfl rfl ?_
  refine s_callL (M := []) (L1 := L') (X := []) Tryd.call41 rfl rfl (by simpa using hs) (fun h => dCopy_ok p _ L' w hD' h) ?_
  clear hs; rintro u w L9 ⟨q, Lc, rfl, rfl, hDc⟩ - hs
  simp only [List.append_nil, List.nil_append] at hs
  refine s_assign rfl rfl ?_
  refine WL_nil ?_
  refine n_then ?_
  refine W_seq ?_
  refine W_region ?_
  refine s_move rfl rfl ?_
  refine s_buildSlice rfl rfl (BS22_1 _) hs ?_; clear hs; intro b32 w hs
  refine s_callL (M := [_] ++ Lc) (L1 := L') (X := []) Tryd.call13 rfl rfl (by simpa using hs) (fun h => dCrash_ok p _ _ [1] 7 L' w hD' (Sl_lit hs rfl) (fun a m c he _ => by cases he; exact St_frontNot (A := [_] ++ Lc) (by simpa using hs) (by simp [ids])) hI.1 h) ?_
  clear hs hD'; rintro u w L' hD' - hs
  simp only [List.append_nil, List.cons_append, List.nil_append] at hs
  replace hs := hs.tail
  refine WL_nil ?_
  refine n_then ?_
  refine W_seq ?_
  refine W_seq ?_
  refine W_region ?_
  refine s_move rfl rfl ?_
  refine s_eql_ptr_nil Tryd.underlying23 rfl rfl rfl ?_
  refine WL_nil ?_
  refine n_then ?_
  refine W_cond_kf rfl (rfl) ?_
  refine W_skip ?_
  refine n_then ?_
  refine W_seq ?_
  refine W_region ?_
  refine s_move rfl rfl ?_
  refine s_callL (M := []) (L1 := Lc) (X := L') Tryd.call13 rfl rfl hs (fun h => dCrash_ok q _ _ [] 7 Lc w hDc ⟨none, 0, rfl, Nat.le_refl _, .inl rfl⟩ (fun a m c he _ => by cases he) hI.1 h) ?_
  clear hs hDc; rintro u w Lc hDc - hs
  simp only [List.nil_append] at hs
  refine WL_nil ?_
  refine n_then ?_
  refine W_seq ?_
  refine W_region ?_
  refine s_move rfl rfl ?_
  refine s_callL (M := Lc) (L1 := L') (X := []) Tryd.call15 rfl rfl (by simpa using hs) (fun h => dRead_ok p _ 3 L' w hD' h) ?_
  clear hs; rintro u w L9 ⟨v1, Lr1, rfl, rfl, hO1⟩ - hs
  simp only [List.append_nil] at hs
  rw [hf2] at hO1
  rw [hf1]
  refine s_move rfl rfl ?_
  refine s_extract rfl rfl rfl ?_
  refine s_extract rfl rfl rfl ?_
  refine s_assign rfl rfl ?_
  refine s_assign rfl rfl ?_
  refine WL_nil ?_
  refine n_then ?_
  refine W_seq ?_
  refine W_region ?_
  refine s_move rfl rfl ?_
  refine s_callL (M := []) (L1 := Lc) (X := Lr1 ++ L') Tryd.call15 rfl rfl hs (fun h => dRead_ok q _ 3 Lc w hDc h) ?_
  clear hs; rintro u w L9 ⟨v2, Lr2, rfl, rfl, hO2⟩ - hs
  simp only [List.nil_append, List.append_assoc] at hs
  rw [hf4] at hO2
  rw [hf3]
  refine s_move rfl rfl ?_
  refine s_extract rfl rfl rfl ?_
  refine s_extract rfl rfl rfl ?_
  refine s_assign rfl rfl ?_
  refine s_assign rfl rfl ?_
  refine WL_nil ?_
  refine n_then ?_
  refine W_seq ?_
  refine W_region ?_
  refine s_move rfl rfl ?_
  refine s_callL (M := Lr2) (L1 := Lc) (X := Lr1 ++ L') Tryd.call42 rfl rfl hs (fun h => arm_ok q _ 0 Lc w hDc hI.2 h) ?_
  clear hs hDc; rintro u w Lc hDc - hs
  refine WL_nil ?_
  refine n_then ?_
  refine W_seq ?_
  refine W_region ?_
  refine s_move rfl rfl ?_
  refine s_callL (M := Lr2) (L1 := Lc) (X := Lr1 ++ L') Tryd.call11 rfl rfl hs (fun h => dAppend_ok q _ 1 _ [] Lc w hDc ⟨none, 0, rfl, Nat.le_refl _, .inl rfl⟩ (fun a m c he _ => by cases he) (by simp) h) ?_
  clear hs hDc; rintro u w Lc ⟨hDc, rfl⟩ - hs
  rw [hf5]
  refine s_assign rfl rfl ?_
  refine WL_nil ?_
  refine n_then ?_
  refine W_seq ?_
  refine W_region ?_
  refine s_move rfl rfl ?_
  refine s_callL (M := Lr2) (L1 := Lc) (X := Lr1 ++ L') Tryd.call15 rfl rfl hs (fun h => dRead_ok q _ 3 Lc w hDc h) ?_
  clear hs; rintro u w L9 ⟨v3, Lr3, rfl, rfl, hO3⟩ - hs
  simp only [List.append_assoc] at hs
  rw [hf6]
  replace hs : St [] w0 w (Lr2 ++ (Lr1 ++ L')) := by simpa [cat] using St.reord [Lr2, Lr3, Lc, Lr1, L'] [0, 3, 4] [1, 2] (by simpa [cat] using hs) rfl
  clear hO3 hDc
  refine s_move rfl rfl ?_
  refine s_extract rfl rfl rfl ?_
  refine s_extract rfl rfl rfl ?_
  refine s_assign rfl rfl ?_
  refine s_assign rfl rfl ?_
  refine WL_nil ?_
  refine n_then ?_
  refine W_seq ?_
  refine W_region ?_
  refine s_move rfl rfl ?_
  refine s_eql rfl rfl rfl ?_
  refine s_move rfl rfl ?_
  refine WL_know (s := 59) (c := true) rfl (rfl) ?_
  refine WL_take rfl ?_
  refine s_move rfl rfl ?_
  refine WL_take rfl ?_
  refine s_eql rfl rfl rfl ?_
  refine s_pick_t rfl rfl rfl ?_
  refine s_move rfl rfl ?_
  refine WL_know (s := 63) (c := true) rfl (rfl) ?_
  refine WL_take rfl ?_
  refine s_move rfl rfl ?_
  refine WL_take rfl ?_
  refine s_buildSlice rfl rfl (BS29_3 _ _ _) hs ?_; clear hs; intro b65 w hs
  refine WL_take rfl ?_
  refine s_call Tryd.call43 rfl rfl (sameBytes_ok v1 _ [1, 2, 254] [1, 2, 254] w (OwnS_slIn hO1 fun p hp => hs.own p (by simp [hp])) (Sl_lit hs rfl) (by simp)) ?_
  rintro r w ⟨hst, rfl⟩
  replace hs := (hs.fwd1 hst).tail
  clear hst
  refine s_pick_t rfl rfl rfl ?_
  refine s_move rfl rfl ?_
  refine WL_know (s := 68) (c := true) rfl (rfl) ?_
  refine WL_take rfl ?_
  refine s_move rfl rfl ?_
  refine WL_take rfl ?_
  refine s_buildSlice rfl rfl (BS29_2 _ _) hs ?_; clear hs; intro b70 w hs
  refine WL_take rfl ?_
  refine s_call Tryd.call43 rfl rfl (sameBytes_ok v2 _ [1, 2] [1, 2] w (OwnS_slIn hO2 fun p hp => hs.own p (by simp [hp])) (Sl_lit hs rfl) (by simp)) ?_
  rintro r w ⟨hst, rfl⟩
  replace hs := (hs.fwd1 hst).tail
  clear hst
  refine s_pick_t rfl rfl rfl ?_
  refine s_move rfl rfl ?_
  refine WL_know (s := 73) (c := true) rfl (rfl) ?_
  refine WL_take rfl ?_
  refine s_move rfl rfl ?_
  refine WL_take rfl ?_
  refine s_eql rfl rfl rfl ?_
  refine s_pick_t rfl rfl rfl ?_
  refine s_move rfl rfl ?_
  refine WL_know (s := 77) (c := true) rfl (rfl) ?_
  refine WL_take rfl ?_
  refine s_move rfl rfl ?_
  refine WL_take rfl ?_
  refine s_eql rfl rfl rfl ?_
  refine s_pick_t rfl rfl rfl ?_
  refine s_assign rfl rfl ?_
  refine WL_nil ?_
  refine n_then ?_
  refine W_ret ?_
  exact end1 rfl rfl ⟨hs.fwd, rfl⟩
end Go.Proofs.YtbcdnpjcbchbjaaDoor
