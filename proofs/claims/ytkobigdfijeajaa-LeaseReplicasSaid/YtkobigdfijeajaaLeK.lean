/- Encode and Decode of package lease and of its reference. -/
import Derived.Test.YtkobigdfijeajaaLeaI
import Derived.Test.YtkobigdfijeajaaRfW
import Derived.Test.YtkobigdfijeajaaRfR
set_option linter.unusedVariables false
set_option linter.unusedSimpArgs false
namespace Go.Proofs.Ytkobigdfijeajaa
open Go.SL
theorem old_apart {w0 w : World} {v : Value} {m : Nat} {cs : List Value} {L : Hp} (hv : Sl w0 v m cs) (hs : St [] w0 w L) : ∀ a n c, v = .slice (some a) n c → cs ≠ [] → a.block ∉ ids L := by
  intro a n c he hne hin
  subst he
  obtain ⟨b, o, hab, hb, _⟩ := Sl_all hv hne
  cases hab
  obtain ⟨ob, ho⟩ := mem_ids.1 hin
  rcases hs.new _ ho with h | h
  · cases h
  · simp only at h; omega
/-- the bytes of an entry -/
def entV (g : Bool) (x : Lz) (bs : List Int) : List Int := [if g then 1 else 0] ++ (uvar x.rule.size ++ bytesOf x.rule) ++ uvar (zz x.holder) ++ uvar (zz x.token) ++ uvar (zz x.til) ++ (uvar bs.length ++ bs)
def encV (g : Bool) (x : Lz) (bs : List Int) : List Int := if validP g x bs.length then entV g x bs else []
def encE (g : Bool) (x : Lz) (bs : List Int) : Int := if validP g x bs.length then 0 else 1
theorem valid_range {g : Bool} {x : Lz} {n : Nat} (h : validP g x n) : x.rule.size ≤ 16 ∧ isI64 x.holder ∧ isI64 x.token ∧ isI64 x.til ∧ n ≤ 65536 := by
  obtain ⟨h1, h2, h3, h4, h5, _⟩ := h
  refine ⟨h1.2.1, ?_, ?_, ?_, h5⟩ <;> unfold isI64 <;> omega
theorem entV_len {g : Bool} {x : Lz} {bs : List Int} (h : validP g x bs.length) : (entV g x bs).length ≤ 65536 + 100 := by
  obtain ⟨h1, h2, h3, h4, h5⟩ := valid_range h
  have a1 := uvar_len10 (n := x.rule.size) (by omega)
  have a2 := uvar_len10 (zz_lt h2)
  have a3 := uvar_len10 (zz_lt h3)
  have a4 := uvar_len10 (zz_lt h4)
  have a5 := uvar_len10 (n := bs.length) (by omega)
  rw [entV]; simp only [List.length_append, bytesOf_length, List.length_cons, List.length_nil]; omega
theorem entV_isB {g : Bool} {x : Lz} {bs : List Int} (hb : ∀ b ∈ bs, isB b) : ∀ b ∈ entV g x bs, isB b := by
  intro b h
  simp only [entV, List.mem_append, List.mem_singleton] at h
  rcases h with ((((h | h | h) | h) | h) | h) | h | h
  · rw [h]; unfold isB; split <;> omega
  · exact uvar_isB _ b h
  · exact bytesOf_isB _ b h
  · exact uvar_isB _ b h
  · exact uvar_isB _ b h
  · exact uvar_isB _ b h
  · exact uvar_isB _ b h
  · exact hb b h
abbrev entryV (g : Bool) (x : Lz) (v : Value) : Value := .agg #[.bool g, .string x.rule, .int .i64 x.holder, .int .i64 x.token, .int .i64 x.til, v]
set_option maxHeartbeats 1000000 in
theorem encode_ok (g : Bool) (x : Lz) (v : Value) (bs : List Int) (w0 : World) (hv : Sl w0 v bs.length (u8s bs)) :
    Ret Try.prog 80 [entryV g x v].toArray w0 fun r w' => ∃ u Lr, r = .tuple #[u, .int .i64 (encE g x bs)] ∧ OwnS 5 1 u (encV g x bs).length (u8s (encV g x bs)) Lr ∧ St [] w0 w' Lr := by
  obtain ⟨a, c, rfl, hac⟩ := hv.len_le
  refine Ret_start fun w hs => ?_
  refine Ret_of Try.func80 rfl Try.ntmps80 rfl ?_
  refine W_seq ?_
  refine W_region ?_
  first | refine s_box rfl rfl hs ?_
  clear hs; intro b1 w hs
  refine s_assign rfl rfl ?_
  refine s_assign rfl rfl ?_
  refine WL_nil ?_
  refine n_then ?_
  refine W_seq ?_
  refine W_seq ?_
  refine W_region ?_
  first
    | refine s_loadW Try.isAgg35 Try.sizeOf35 rfl rfl hs (kk := 0) rfl rfl ?_
  refine s_call Try.call42 rfl rfl (valid_ok g x a bs.length c w) ?_
  rintro r w ⟨hst, rfl⟩
  replace hs := hs.fwd1 hst
  clear hst
  refine s_not rfl rfl ?_
  refine WL_nil ?_
  refine n_then ?_
  refine W_cond rfl (fun hc7 => ?_) (fun hc7 => ?_)
  · skip
    simp only [decide_eq_true_eq, decide_eq_false_iff_not, Bool.not_eq_true', Bool.not_eq_false'] at hc7
    refine W_seq ?_
    refine W_region ?_
    refine s_assign rfl rfl ?_
    refine s_assign rfl rfl ?_
    refine WL_nil ?_
    refine n_then ?_
    refine W_ret ?_
    refine r_then ?_
    first
      | (have h9 : ¬ validP g x bs.length := hc7
         refine end2 rfl rfl rfl ⟨_, [], by rw [encE, if_neg h9], ?_, hs.tail⟩
         rw [encV, if_neg h9]; exact OwnS.nil _ _)
  · skip
    simp only [decide_eq_true_eq, decide_eq_false_iff_not, Bool.not_eq_true', Bool.not_eq_false'] at hc7
    obtain ⟨h1, h2, h3, h4, h5⟩ := valid_range hc7
    have a1 := uvar_len10 (n := x.rule.size) (by omega)
    have a2 := uvar_len10 (zz_lt h2)
    have a3 := uvar_len10 (zz_lt h3)
    have a4 := uvar_len10 (zz_lt h4)
    have hbl := bytesOf_length x.rule
    refine W_skip ?_
    refine n_then ?_
    refine W_seq ?_
    refine W_region ?_
    refine s_alloc rfl AL136 hs ?_; clear hs; intro b4 w hs
    refine WL_nil ?_
    refine n_then ?_
    refine W_seq ?_
    refine W_region ?_
    refine s_fieldAddr rfl rfl (FA35_0 _ _) ?_
    first
      | refine s_load Try.isAgg4 rfl rfl (hs.cell (k := 1) rfl rfl) ?_
    refine s_callL (M := []) (L1 := [_]) (X := [_]) Try.call90 rfl rfl hs (fun h => wBool_ok b4 [] g _ w (wr_new b4) h (by simp)) ?_
    clear hs; rintro u w LW ⟨hW, rfl⟩ - hs
    simp only [List.nil_append] at hs hW
    refine WL_nil ?_
    refine n_then ?_
    refine W_seq ?_
    refine W_region ?_
    refine s_fieldAddr rfl rfl (FA35_1 _ _) ?_
    refine s_fieldAddr rfl rfl (FA33_0 _ _) ?_
    refine s_load Try.isAgg9 rfl rfl (hs.right.cell (k := 0) rfl rfl) ?_
    refine s_callL (M := []) (L1 := LW) (X := [_]) Try.call91 rfl rfl hs (fun h => wText_ok b4 _ x.rule LW w hW h (by simp only [List.length_append, List.length_cons, List.length_nil]; omega) (by omega)) ?_
    clear hs hW; rintro u w LW ⟨hW, rfl⟩ - hs
    simp only [List.nil_append] at hs
    refine WL_nil ?_
    refine n_then ?_
    refine W_seq ?_
    refine W_region ?_
    refine s_fieldAddr rfl rfl (FA35_1 _ _) ?_
    refine s_fieldAddr rfl rfl (FA33_1 _ _) ?_
    refine s_load Try.isAgg3 rfl rfl (hs.right.cell (k := 0) rfl rfl) ?_
    refine s_callL (M := []) (L1 := LW) (X := [_]) Try.call79 rfl rfl hs (fun h => wInt_ok b4 _ x.holder LW w hW h h2 (by simp only [List.length_append, List.length_cons, List.length_nil]; omega)) ?_
    clear hs hW; rintro u w LW ⟨hW, rfl⟩ - hs
    simp only [List.nil_append] at hs
    refine WL_nil ?_
    refine n_then ?_
    refine W_seq ?_
    refine W_region ?_
    refine s_fieldAddr rfl rfl (FA35_1 _ _) ?_
    refine s_fieldAddr rfl rfl (FA33_2 _ _) ?_
    refine s_load Try.isAgg3 rfl rfl (hs.right.cell (k := 0) rfl rfl) ?_
    refine s_callL (M := []) (L1 := LW) (X := [_]) Try.call79 rfl rfl hs (fun h => wInt_ok b4 _ x.token LW w hW h h3 (by simp only [List.length_append, List.length_cons, List.length_nil]; omega)) ?_
    clear hs hW; rintro u w LW ⟨hW, rfl⟩ - hs
    simp only [List.nil_append] at hs
    refine WL_nil ?_
    refine n_then ?_
    refine W_seq ?_
    refine W_region ?_
    refine s_fieldAddr rfl rfl (FA35_1 _ _) ?_
    refine s_fieldAddr rfl rfl (FA33_3 _ _) ?_
    refine s_load Try.isAgg3 rfl rfl (hs.right.cell (k := 0) rfl rfl) ?_
    refine s_callL (M := []) (L1 := LW) (X := [_]) Try.call79 rfl rfl hs (fun h => wInt_ok b4 _ x.til LW w hW h h4 (by simp only [List.length_append, List.length_cons, List.length_nil]; omega)) ?_
    clear hs hW; rintro u w LW ⟨hW, rfl⟩ - hs
    simp only [List.nil_append] at hs
    refine WL_nil ?_
    refine n_then ?_
    refine W_seq ?_
    refine W_region ?_
    refine s_fieldAddr rfl rfl (FA35_2 _ _) ?_
    refine s_load Try.isAgg22 rfl rfl (hs.right.cell (k := 0) rfl rfl) ?_
    refine s_callL (M := []) (L1 := LW) (X := [_]) Try.call81 rfl rfl hs (fun h => wRaw_ok b4 _ bs _ LW w hW h (hv.fwd0 hs.fwd) (old_apart hv hs.left) (by simp only [List.length_append, List.length_cons, List.length_nil]; omega) (by omega)) ?_
    clear hs hW; rintro u w LW ⟨hW, rfl⟩ - hs
    simp only [List.nil_append] at hs
    have hel := entV_len hc7
    replace hW : WrAt b4 (entV g x bs) LW := by
      have : entV g x bs = [if g then 1 else 0] ++ uvar x.rule.size ++ bytesOf x.rule ++ uvar (zz x.holder) ++ uvar (zz x.token) ++ uvar (zz x.til) ++ uvar bs.length ++ bs := by simp only [entV, List.append_assoc]
      rw [this]; exact hW
    refine WL_nil ?_
    refine n_then ?_
    refine W_seq ?_
    refine W_region ?_
    refine s_callL (M := []) (L1 := LW) (X := [_]) Try.call82 rfl rfl hs (fun h => wDone_ok b4 _ LW w hW h (by omega)) ?_
    clear hs; rintro u w L9 ⟨Lr, rfl, hOr⟩ - hs
    simp only [List.nil_append, List.append_assoc] at hs
    refine s_assign rfl rfl ?_
    refine s_assign rfl rfl ?_
    refine WL_nil ?_
    refine n_then ?_
    refine W_ret ?_
    first
      | (refine end2 rfl rfl rfl ⟨_, Lr, by rw [encE, if_pos hc7], ?_, (hs.right (M := LW)).left⟩
         rw [encV, if_pos hc7]; exact hOr)
end Go.Proofs.Ytkobigdfijeajaa
