/- NetOrder: taking the first message until none is left returns the messages in the order in which they were sent: the law returns true for every input. -/
import Derived.Test.YtgkdbiibbfipjaaNetPart
set_option linter.unusedVariables false
set_option linter.unusedSimpArgs false
namespace Go.Proofs.Ytgkdbiibbfipjaa
open Go.SL
theorem made_ok (nodes : Int) (w0 : World) (hn : -9223372036854775808 ≤ nodes ∧ nodes ≤ 9223372036854775807) :
    Ret Try.prog 9 [.int .i64 nodes].toArray w0 fun r w' => ∃ (k : Nat) (p : Nat) (L : Hp), 1 ≤ k ∧ k ≤ 6 ∧ r = .tuple #[.pointer (some ⟨p, 0, none⟩), .int .i64 k] ∧ NetAt p (List.replicate k 0) [] L ∧ St [] w0 w' L := by
  have hab := around_bd nodes 6 (by omega)
  obtain ⟨k, hk⟩ : ∃ k : Nat, aroundV nodes 6 = k := ⟨(aroundV nodes 6).toNat, by omega⟩
  refine Ret_start fun w hs => ?_
  refine Ret_of Try.func9 rfl Try.ntmps9 rfl ?_
  refine W_seq ?_
  refine W_region ?_
  refine s_assign rfl rfl ?_
  refine s_assign rfl rfl ?_
  refine WL_nil ?_
  refine n_then ?_
  refine W_seq ?_
  refine W_region ?_
  refine s_move rfl rfl ?_
  refine s_call Try.call26 rfl rfl (around_ok nodes 6 w (by omega) hn) ?_
  rintro r w ⟨rfl, rfl⟩
  rw [hk]
  first | (refine s_add' rfl rfl rfl ?hx ?_; case hx => (constructor <;> omega)) | refine s_add rfl rfl rfl ?_
  refine s_assign rfl rfl ?_
  refine WL_nil ?_
  refine n_then ?_
  refine W_seq ?_
  refine W_region ?_
  refine s_move rfl rfl ?_
  refine s_call Try.call25 rfl rfl (new_ok (1 + k) w (by omega)) ?_
  rintro r w (⟨_, _, p, LN, rfl, hN, hst⟩ | ⟨h, _⟩)
  case inr => exact absurd ⟨by omega, by omega⟩ h
  replace hs : St [] w0 w LN := by have := St.back0 hs hst; simpa using this
  clear hst
  refine s_move rfl rfl ?_
  refine s_extract rfl rfl rfl ?_
  refine s_extract rfl rfl rfl ?_
  refine s_assign rfl rfl ?_
  refine s_assign rfl rfl ?_
  refine WL_nil ?_
  refine n_then ?_
  refine W_seq ?_
  refine W_seq ?_
  refine W_region ?_
  refine s_move rfl rfl ?_
  refine s_neq rfl rfl rfl ?_
  refine WL_nil ?_
  refine n_then ?_
  refine W_cond_kf rfl (rfl) ?_
  refine W_skip ?_
  refine n_then ?_
  refine W_seq ?_
  refine W_region ?_
  refine s_move rfl rfl ?_
  refine s_move rfl rfl ?_
  refine s_assign rfl rfl ?_
  refine s_assign rfl rfl ?_
  refine WL_nil ?_
  refine n_then ?_
  refine W_ret ?_
  refine end2 rfl rfl rfl ⟨k + 1, p, LN, by omega, by omega, ?_, ?_, hs⟩
  · rw [show ((k + 1 : Nat) : Int) = 1 + (k : Int) by omega]
  · rw [show k + 1 = ((1 : Int) + k).toNat by omega]; exact hN
def idl (n : Nat) : List Int := (List.range n).map fun (j : Nat) => (j : Int)
theorem idl_length (n : Nat) : (idl n).length = n := by simp [idl]
theorem idl_set (n i : Nat) (h : i < n) : (i64s (idl i) ++ List.replicate (n - i) (Value.int .i64 0)).set i (.int .i64 i) = i64s (idl (i + 1)) ++ List.replicate (n - (i + 1)) (Value.int .i64 0) := by
  rw [List.set_append_right _ _ (by simp [idl]), show i - (i64s (idl i)).length = 0 by simp [idl]]
  obtain ⟨m, hm⟩ : ∃ m, n - i = m + 1 := ⟨n - i - 1, by omega⟩
  rw [hm, List.replicate_succ, List.set_cons_zero, show n - (i + 1) = m by omega]
  simp [idl, List.range_succ]
theorem grp_idl {n : Nat} {i : Int} (h : 0 ≤ i ∧ i < n) : grp (idl n) i = i := by
  have : i.toNat < n := by omega
  simp [grp, idl, this]; omega
theorem grp_rep {n : Nat} {i : Int} : grp (List.replicate n 0) i = 0 := by
  simp [grp, List.getElem?_replicate]; split <;> rfl
/-- message number j, by the numbers xs of a network of k nodes -/
def xAt (xs : List Int) (j : Nat) : Int := aroundV (xs.getD j 0) 36
def MsgIs (k : Nat) (xs : List Int) (j : Nat) (m : Msg) : Prop := m.f = xAt xs j % k ∧ m.t = xAt xs j / 6 % k ∧ m.bs = [(j : Int)]
def MsAt (k : Nat) (xs : List Int) (nx i : Nat) (ms : List Msg) : Prop := ms.length = i - nx ∧ nx ≤ i ∧ ∀ j m, ms[j]? = some m → MsgIs k xs (nx + j) m
theorem xAt_bd (xs : List Int) (j : Nat) : 0 ≤ xAt xs j ∧ xAt xs j < 36 := around_bd _ 36 (by omega)
theorem MsgIs.valid {k j : Nat} {xs : List Int} {m : Msg} (h : MsgIs k xs j m) (hk : 1 ≤ k) : 0 ≤ m.f ∧ m.f < k ∧ 0 ≤ m.t ∧ m.t < k := by
  obtain ⟨h1, h2, _⟩ := h
  rw [h1, h2]
  exact ⟨Int.emod_nonneg _ (by omega), Int.emod_lt_of_pos _ (by omega), Int.emod_nonneg _ (by omega), Int.emod_lt_of_pos _ (by omega)⟩
theorem MsAt.snoc {k nx i : Nat} {xs : List Int} {ms : List Msg} {m : Msg} (h : MsAt k xs nx i ms) (hm : MsgIs k xs i m) : MsAt k xs nx (i + 1) (ms ++ [m]) := by
  obtain ⟨h1, h2, h3⟩ := h
  refine ⟨by simp; omega, by omega, fun j m' hj => ?_⟩
  rcases Nat.lt_or_ge j ms.length with hl | hl
  · rw [List.getElem?_append_left hl] at hj; exact h3 j m' hj
  · rw [List.getElem?_append_right hl] at hj
    have : j - ms.length = 0 := by
      rcases Nat.eq_zero_or_pos (j - ms.length) with h | h
      · exact h
      · rw [List.getElem?_eq_none (by simp; omega)] at hj; cases hj
    rw [this] at hj
    simp at hj; subst hj
    rw [show nx + j = i by omega]; exact hm
theorem MsAt.tail {k nx i : Nat} {xs : List Int} {ms : List Msg} (h : MsAt k xs nx i ms) (hl : nx < i) : MsAt k xs (nx + 1) i (ms.eraseIdx 0) := by
  obtain ⟨h1, h2, h3⟩ := h
  cases ms with
  | nil => simp at h1; omega
  | cons a r =>
    refine ⟨by simp at h1 ⊢; omega, by omega, fun j m hj => ?_⟩
    have := h3 (j + 1) m (by simpa using hj)
    rw [show nx + 1 + j = nx + (j + 1) by omega]; exact this
theorem min30 (n : Nat) : (if (30 : Int) < n then 30 else (n : Int)) = ((min n 30 : Nat) : Int) := by split <;> omega
end Go.Proofs.Ytgkdbiibbfipjaa
