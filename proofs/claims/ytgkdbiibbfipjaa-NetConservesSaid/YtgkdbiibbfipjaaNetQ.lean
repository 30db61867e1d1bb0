/- NetRuns and NetConserves: what relates the network and the plain model, in plain Lean. -/
import Derived.Test.YtgkdbiibbfipjaaNetO
set_option linter.unusedVariables false
set_option linter.unusedSimpArgs false
namespace Go.Proofs.Ytgkdbiibbfipjaa
open Go.SL
theorem own_slIn {e size n : Nat} {v : Value} {cs : List Value} {Lv : Hp} {w : World} (h : OwnS e size v n cs Lv) (hw : ∀ x ∈ Lv, w.heap[x.1]? = some x.2) : Sl w v n cs := by
  have hst : St (ids Lv) w w Lv := by
    refine ⟨Fwd.refl _ _, ?_, hw, fun x hx => .inl (mem_ids_of hx)⟩
    obtain ⟨hl, h⟩ := h
    rcases h with ⟨_, _, rfl⟩ | ⟨g, cap, sp, _, _, _, _, rfl⟩ <;> simp [ids]
  exact h.sl (M := []) (by simpa using hst)
theorem own_in {e size n m c : Nat} {v : Value} {cs : List Value} {Lv : Hp} {a : Addr} (h : OwnS e size v n cs Lv) (hv : v = .slice (some a) m c) : a.block ∈ ids Lv := by
  obtain ⟨hl, h⟩ := h
  rcases h with ⟨h1, _, rfl⟩ | ⟨g, cap, sp, h1, _, _, _, rfl⟩
  · rw [h1] at hv; cases hv
  · rw [h1] at hv; cases hv; simp [ids]
theorem St.apart {F : List Nat} {w0 w : World} {A B : Hp} (h : St F w0 w (A ++ B)) {b : Nat} (hb : b ∈ ids B) : b ∉ ids A := by
  have h1 := h.nodup
  rw [ids_append, List.nodup_append] at h1
  intro ha
  exact h1.2.2 b ha b hb rfl
/-- a message of the plain model and one of the network are alike, as long as the blocks Y stand -/
def RIs (Y : Hp) (r : RMsg) (m : Msg) : Prop :=
  r.f = m.f ∧ r.t = m.t ∧ r.n = m.bs.length ∧ ∀ w : World, (∀ x ∈ Y, w.heap[x.1]? = some x.2) → Sl w (.slice r.a r.n r.c) m.bs.length (u8s m.bs)
def Prs (Y : Hp) (ms : List Msg) (rs : List RMsg) : Prop := rs.length = ms.length ∧ ∀ (j : Nat) (m : Msg) (r : RMsg), ms[j]? = some m → rs[j]? = some r → RIs Y r m
def MV (k : Nat) (ms : List Msg) : Prop := ∀ m ∈ ms, 0 ≤ m.f ∧ m.f < k ∧ 0 ≤ m.t ∧ m.t < k ∧ m.bs.length ≤ 2
theorem Prs.snoc {Y : Hp} {ms : List Msg} {rs : List RMsg} {m : Msg} {r : RMsg} (h : Prs Y ms rs) (hr : RIs Y r m) : Prs Y (ms ++ [m]) (rs ++ [r]) := by
  refine ⟨by simp [h.1], fun j m' r' h1 h2 => ?_⟩
  by_cases hj : j < ms.length
  · rw [List.getElem?_append_left hj] at h1
    rw [List.getElem?_append_left (by rw [h.1]; exact hj)] at h2
    exact h.2 j m' r' h1 h2
  · rw [List.getElem?_append_right (by omega)] at h1
    rw [List.getElem?_append_right (by rw [h.1]; omega), h.1] at h2
    cases hk : j - ms.length with
    | zero => rw [hk] at h1 h2; simp at h1 h2; exact h1 ▸ h2 ▸ hr
    | succ n => rw [hk] at h1; simp at h1
theorem Prs.erase {Y : Hp} {ms : List Msg} {rs : List RMsg} (h : Prs Y ms rs) (i : Nat) : Prs Y (ms.eraseIdx i) (rs.eraseIdx i) := by
  refine ⟨by simp [List.length_eraseIdx, h.1], fun j m' r' h1 h2 => ?_⟩
  rw [List.getElem?_eraseIdx] at h1 h2
  split at h1
  · rename_i hj; rw [if_pos hj] at h2; exact h.2 _ _ _ h1 h2
  · rename_i hj; rw [if_neg hj] at h2; exact h.2 _ _ _ h1 h2
theorem MV.snoc {k : Nat} {ms : List Msg} {m : Msg} (h : MV k ms) (hm : 0 ≤ m.f ∧ m.f < k ∧ 0 ≤ m.t ∧ m.t < k ∧ m.bs.length ≤ 2) : MV k (ms ++ [m]) := by
  intro x hx
  rcases List.mem_append.1 hx with h1 | h1
  · exact h x h1
  · simp at h1; exact h1 ▸ hm
theorem MV.erase {k : Nat} {ms : List Msg} (h : MV k ms) (i : Nat) : MV k (ms.eraseIdx i) := fun x hx => h x (List.mem_of_mem_eraseIdx hx)
theorem oblks_of {os : List ROp} {o : ROp} (h : o ∈ os) : ∀ x ∈ o.L, x ∈ oblks os := fun x hx => List.mem_flatMap.2 ⟨o, h, hx⟩
theorem oblks_ids {os : List ROp} {o : ROp} (h : o ∈ os) {b : Nat} (hb : b ∈ ids o.L) : b ∈ ids (oblks os) := by
  obtain ⟨x, hx⟩ := mem_ids.1 hb
  exact mem_ids.2 ⟨x, oblks_of h _ hx⟩
def RInv (Y : Hp) (k p q : Nat) (w0 w : World) (i : Nat) : Prop :=
  ∃ gs ms rs LN LR, St [] w0 w (LN ++ (LR ++ Y)) ∧ NetAt p gs ms LN ∧ RefAt q gs rs LR ∧ gs.length = k ∧ Prs Y ms rs ∧ MV k ms ∧ ms.length ≤ i
theorem take_all (p : Nat) (gs : List Int) (ms : List Msg) (i : Int) (L0 : Hp) (w0 : World) (hN : NetAt p gs ms L0) (hs : St (ids L0) w0 w0 L0) (hml : ms.length ≤ 1000) (hmv : MV gs.length ms) :
    Ret Try.prog 14 [.pointer (some ⟨p, 0, none⟩), .int .i64 i].toArray w0 fun r w' => ∃ L', St (ids L0) w0 w' L' ∧
      ((¬ (0 ≤ i ∧ i < ms.length) ∧ r = .tuple #[.agg #[.int .i64 0, .int .i64 0, .slice none 0 0], .int .i64 9] ∧ NetAt p gs ms L') ∨
       (∃ m, (0 ≤ i ∧ i < ms.length) ∧ ms[i.toNat]? = some m ∧ grp gs m.f ≠ grp gs m.t ∧ r = .tuple #[.agg #[.int .i64 0, .int .i64 0, .slice none 0 0], .int .i64 20] ∧ NetAt p gs ms L') ∨
       (∃ m, (0 ≤ i ∧ i < ms.length) ∧ ms[i.toNat]? = some m ∧ grp gs m.f = grp gs m.t ∧ r = .tuple #[.agg m.cells.toArray, .int .i64 0] ∧ ∃ L1, L' = m.blk :: L1 ∧ NetAt p gs (ms.eraseIdx i.toNat) L1)) := by
  by_cases hin : 0 ≤ i ∧ i < ms.length
  · have hlt : i.toNat < ms.length := by omega
    have hm : ms[i.toNat]? = some ms[i.toNat] := List.getElem?_eq_getElem hlt
    have hv := hmv _ (List.mem_of_getElem? hm)
    refine (take_yes p gs ms i L0 w0 hN hs hin hml _ hm ⟨hv.1, hv.2.1, hv.2.2.1, hv.2.2.2.1⟩).mono ?_
    rintro r w' ⟨L', h1, h | h⟩
    · exact ⟨L', h1, .inr (.inl ⟨_, hin, hm, h⟩)⟩
    · exact ⟨L', h1, .inr (.inr ⟨_, hin, hm, h⟩)⟩
  · refine (take_no p gs ms i L0 w0 hN hs hin).mono ?_
    rintro r w' ⟨L', h1, h⟩
    exact ⟨L', h1, .inl ⟨hin, h⟩⟩
theorem copy_all (p : Nat) (gs : List Int) (ms : List Msg) (i : Int) (L0 : Hp) (w0 : World) (hN : NetAt p gs ms L0) (hs : St (ids L0) w0 w0 L0) (hml : ms.length < 1000) (hmv : MV gs.length ms) :
    Ret Try.prog 17 [.pointer (some ⟨p, 0, none⟩), .int .i64 i].toArray w0 fun r w' => ∃ L', St (ids L0) w0 w' L' ∧
      ((¬ (0 ≤ i ∧ i < ms.length) ∧ r = .int .i64 9 ∧ NetAt p gs ms L') ∨
       (∃ m b, (0 ≤ i ∧ i < ms.length) ∧ ms[i.toNat]? = some m ∧ r = .int .i64 0 ∧ NetAt p gs (ms ++ [⟨m.f, m.t, b, m.bs⟩]) L')) := by
  by_cases hin : 0 ≤ i ∧ i < ms.length
  · refine (copy_yes p gs ms i L0 w0 hN hs hin (by omega) (fun m hm => by have := hmv m hm; omega)).mono ?_
    rintro r w' ⟨L', h1, ⟨h, _⟩ | ⟨_, h2, m, b, hm, h3⟩⟩
    · omega
    · exact ⟨L', h1, .inr ⟨m, b, hin, hm, h2, h3⟩⟩
  · refine (copy_no p gs ms i L0 w0 hN hs hin).mono ?_
    rintro r w' ⟨L', h1, h⟩
    exact ⟨L', h1, .inl ⟨hin, h⟩⟩
theorem drop_all (p : Nat) (gs : List Int) (ms : List Msg) (i : Int) (L0 : Hp) (w0 : World) (hN : NetAt p gs ms L0) (hs : St (ids L0) w0 w0 L0) (hml : ms.length ≤ 1000) :
    Ret Try.prog 19 [.pointer (some ⟨p, 0, none⟩), .int .i64 i].toArray w0 fun r w' => ∃ L', St (ids L0) w0 w' L' ∧
      ((¬ (0 ≤ i ∧ i < ms.length) ∧ r = .int .i64 9 ∧ NetAt p gs ms L') ∨ ((0 ≤ i ∧ i < ms.length) ∧ r = .int .i64 0 ∧ NetAt p gs (ms.eraseIdx i.toNat) L')) := by
  by_cases hin : 0 ≤ i ∧ i < ms.length
  · refine (drop_yes p gs ms i L0 w0 hN hs hin hml).mono ?_
    rintro r w' ⟨L', h1, h⟩
    exact ⟨L', h1, .inr ⟨hin, h⟩⟩
  · refine (drop_no p gs ms i L0 w0 hN hs hin).mono ?_
    rintro r w' ⟨L', h1, h⟩
    exact ⟨L', h1, .inl ⟨hin, h⟩⟩
theorem part_all (p : Nat) (gs hs' : List Int) (ms : List Msg) (v : Value) (L0 : Hp) (w0 : World) (hN : NetAt p gs ms L0) (hs : St (ids L0) w0 w0 L0) (hv : Sl w0 v hs'.length (i64s hs')) :
    Ret Try.prog 21 [.pointer (some ⟨p, 0, none⟩), v].toArray w0 fun r w' => ∃ L', St (ids L0) w0 w' L' ∧
      ((hs'.length ≠ gs.length ∧ r = .int .i64 1 ∧ NetAt p gs ms L') ∨ (hs'.length = gs.length ∧ r = .int .i64 0 ∧ NetAt p hs' ms L')) := by
  by_cases hin : hs'.length = gs.length
  · refine (partition_yes p gs hs' ms v L0 w0 hN hs hv hin).mono ?_
    rintro r w' ⟨L', h1, h⟩
    exact ⟨L', h1, .inr ⟨hin, h⟩⟩
  · refine (partition_no p gs hs' ms v L0 w0 hN hs hv hin).mono ?_
    rintro r w' ⟨rfl, h⟩
    exact ⟨L0, hs, .inl ⟨hin, h, hN⟩⟩
end Go.Proofs.Ytgkdbiibbfipjaa
