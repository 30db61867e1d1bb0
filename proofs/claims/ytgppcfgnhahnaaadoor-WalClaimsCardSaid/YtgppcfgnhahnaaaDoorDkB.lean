/- A disk: what it is in memory; New, fails, put, Used, On, Arm, Files, Read. -/
import Derived.Test.YtgppcfgnhahnaaaDoorDkA
import Derived.Test.YtgppcfgnhahnaaaDoorStr
import Derived.Test.YtgppcfgnhahnaaaDoorCut
set_option linter.unusedVariables false
set_option linter.unusedSimpArgs false
namespace Go.Proofs.YtgppcfgnhahnaaaDoor
open Go.SL
/-- a disk's state: the bytes of each file, how many are durable -/
structure Dk where
  room : Int
  off : Bool
  armed : Bool
  left : Int
  c : Int → List Int
  d : Int → Nat
/-- a file as it lies in memory -/
structure Fl where
  f : Int
  v : Value
  bs : List Int
  dur : Nat
  L : Hp
abbrev cont (v : Value) (d : Nat) : Value := .agg #[v, .int .i64 (d : Int)]
def Fl.kv (r : Fl) : Int × Value := (r.f, cont r.v r.dur)
def Fl.ok (r : Fl) : Prop := OwnS 5 1 r.v r.bs.length (u8s r.bs) r.L ∧ r.bs ≠ [] ∧ (0 ≤ r.f ∧ r.f ≤ 63) ∧ r.dur ≤ r.bs.length ∧ ∀ b ∈ r.bs, isB b
def fblks (fs : List Fl) : Hp := fs.flatMap (·.L)
def fkv (fs : List Fl) : KVs := fs.map Fl.kv
/-- all bytes -/
def total (c : Int → List Int) : Nat := ((List.range 64).map fun (i : Nat) => (c (i : Int)).length).sum
structure FilesOk (D : Dk) (fs : List Fl) : Prop where
  ok : ∀ r ∈ fs, r.ok
  is : ∀ r ∈ fs, D.c r.f = r.bs ∧ D.d r.f = r.dur
  no : ∀ f, f ∉ fs.map (·.f) → D.c f = [] ∧ D.d f = 0
def dkCells (D : Dk) (m : Nat) : List Value := [.int .i64 D.room, .int .i64 (total D.c : Int), .map (some m), .bool D.off, .bool D.armed, .int .i64 D.left]
def DiskAt (p : Nat) (D : Dk) (L : Hp) : Prop :=
  ∃ m o fs, L = (p, Blk 60 (dkCells D m)) :: (m, o) :: fblks fs ∧ MapI o (fkv fs) ∧ FilesOk D fs ∧ ((total D.c : Int) ≤ D.room ∧ 0 ≤ D.room ∧ D.room ≤ 16777216) ∧ (D.armed = true → 0 ≤ D.left ∧ D.left ≤ 9223372036854775807)
def newDk (room : Int) : Dk := ⟨room, false, false, 0, fun _ => [], fun _ => 0⟩
theorem total_nil : total (fun _ => []) = 0 := by decide
theorem FilesOk.new (room : Int) : FilesOk (newDk room) [] := ⟨by simp, by simp, fun _ _ => ⟨rfl, rfl⟩⟩
theorem dNew_ok (room : Int) (w0 : World) :
    Ret Tryd.prog 15 [.int .i64 room].toArray w0 fun r w' => (0 ≤ room ∧ room ≤ 16777216 ∧ ∃ p L, r = .tuple #[.pointer (some ⟨p, 0, none⟩), .int .i64 0] ∧ DiskAt p (newDk room) L ∧ St [] w0 w' L) ∨ (¬ (0 ≤ room ∧ room ≤ 16777216) ∧ r = .tuple #[.pointer none, .int .i64 1] ∧ Fwd [] w0 w') := by
  refine Ret_start fun w hs => ?_
  refine Ret_of Tryd.func15 rfl Tryd.ntmps15 rfl ?_
  refine W_seq ?_
  refine W_region ?_
  refine s_assign rfl rfl ?_
  refine s_assign rfl rfl ?_
  refine WL_nil ?_
  refine n_then ?_
  refine W_seq ?_
  refine W_seq ?_
  refine W_region ?_
  refine s_move rfl rfl ?_
  refine s_lss rfl rfl rfl ?_
  refine s_move rfl rfl ?_
  refine WL_case (s := 6) rfl (fun hg6 => ?_) (fun hg6 => ?_)
  · skip
    simp only [decide_eq_true_eq, decide_eq_false_iff_not] at hg6
    refine WL_skip rfl rfl rfl ?_
    refine WL_skip rfl rfl rfl ?_
    refine s_pick_t rfl rfl rfl ?_
    refine WL_nil ?_
    refine n_then ?_
    refine W_cond_t rfl ?_
    refine W_seq ?_
    refine W_region ?_
    refine s_assign rfl rfl ?_
    refine s_assign rfl rfl ?_
    refine WL_nil ?_
    refine n_then ?_
    refine W_ret ?_
    refine r_then ?_
    first
      | exact end2 rfl rfl rfl (.inr ⟨by omega, rfl, hs.fwd⟩)
      | exact end2 rfl rfl rfl (.inl ⟨by omega, by omega, b13, _, rfl, ⟨b11, _, [], rfl, MapI.empty, FilesOk.new room, ⟨by simp only [newDk]; rw [total_nil]; omega, by simp only [newDk]; omega, by simp only [newDk]; omega⟩, by simp [newDk]⟩, by simpa [dkCells, newDk, total_nil, fblks] using hs⟩)
  · skip
    simp only [decide_eq_true_eq, decide_eq_false_iff_not] at hg6
    refine WL_take rfl ?_
    refine s_move rfl rfl ?_
    refine WL_take rfl ?_
    refine s_gtr rfl rfl rfl ?_
    refine s_pick_f rfl rfl rfl ?_
    refine WL_nil ?_
    refine n_then ?_
    refine W_cond rfl (fun hc9 => ?_) (fun hc9 => ?_)
    · skip
      simp only [decide_eq_true_eq, decide_eq_false_iff_not] at hc9
      refine W_seq ?_
      refine W_region ?_
      refine s_assign rfl rfl ?_
      refine s_assign rfl rfl ?_
      refine WL_nil ?_
      refine n_then ?_
      refine W_ret ?_
      refine r_then ?_
      first
        | exact end2 rfl rfl rfl (.inr ⟨by omega, rfl, hs.fwd⟩)
        | exact end2 rfl rfl rfl (.inl ⟨by omega, by omega, b13, _, rfl, ⟨b11, _, [], rfl, MapI.empty, FilesOk.new room, ⟨by simp only [newDk]; rw [total_nil]; omega, by simp only [newDk]; omega, by simp only [newDk]; omega⟩, by simp [newDk]⟩, by simpa [dkCells, newDk, total_nil, fblks] using hs⟩)
    · skip
      simp only [decide_eq_true_eq, decide_eq_false_iff_not] at hc9
      refine W_skip ?_
      refine n_then ?_
      refine W_seq ?_
      refine W_region ?_
      refine s_move rfl rfl ?_
      refine s_makeMap rfl hs ?_; clear hs; intro b11 w hs
      refine s_build rfl rfl (BD60_0_2 _ _) ?_
      first | refine s_box rfl rfl hs ?_ | refine s_box1 rfl rfl rfl hs ?_
      clear hs; intro b13 w hs
      refine s_assign rfl rfl ?_
      refine s_assign rfl rfl ?_
      refine WL_nil ?_
      refine n_then ?_
      refine W_ret ?_
      first
        | exact end2 rfl rfl rfl (.inr ⟨by omega, rfl, hs.fwd⟩)
        | exact end2 rfl rfl rfl (.inl ⟨by omega, by omega, b13, _, rfl, ⟨b11, _, [], rfl, MapI.empty, FilesOk.new room, ⟨by simp only [newDk]; rw [total_nil]; omega, by simp only [newDk]; omega, by simp only [newDk]; omega⟩, by simp [newDk]⟩, by simpa [dkCells, newDk, total_nil, fblks] using hs⟩)
/-- a step: the state behind it, whether the power fails -/
def Dk.step (D : Dk) : Dk × Bool := if D.armed = false then (D, false) else if 0 < D.left then ({ D with left := D.left - 1 }, false) else ({ D with armed := false, off := true }, true)
theorem step_c (D : Dk) : D.step.1.c = D.c ∧ D.step.1.d = D.d ∧ D.step.1.room = D.room := by
  unfold Dk.step; split
  · exact ⟨rfl, rfl, rfl⟩
  · split <;> exact ⟨rfl, rfl, rfl⟩
theorem step_left (D : Dk) (h : D.armed = true → 0 ≤ D.left ∧ D.left ≤ 9223372036854775807) : D.step.1.armed = true → 0 ≤ D.step.1.left ∧ D.step.1.left ≤ 9223372036854775807 := by
  unfold Dk.step; split
  · exact h
  · rename_i ha
    have h2 := h (by simpa using ha)
    split
    · intro _; simp only; omega
    · intro h3; simp at h3
theorem FilesOk.of {D D' : Dk} {fs : List Fl} (h : FilesOk D fs) (hc : D'.c = D.c) (hd : D'.d = D.d) : FilesOk D' fs := ⟨h.ok, fun r hr => by rw [hc, hd]; exact h.is r hr, fun f hf => by rw [hc, hd]; exact h.no f hf⟩
theorem fails_ok (p m : Nat) (D : Dk) (w0 : World) (hl : D.armed = true → 0 ≤ D.left ∧ D.left ≤ 9223372036854775807) (hs : St (ids [(p, Blk 60 (dkCells D m))]) w0 w0 [(p, Blk 60 (dkCells D m))]) :
    Ret Tryd.prog 43 [.pointer (some ⟨p, 0, none⟩)].toArray w0 fun r w' => ∃ L', St (ids [(p, Blk 60 (dkCells D m))]) w0 w' L' ∧ L' = [(p, Blk 60 (dkCells D.step.1 m))] ∧ r = .bool D.step.2 := by
  unfold dkCells at hs ⊢
  refine Ret_startL hs fun w hs => ?_
  refine Ret_of Tryd.func43 rfl Tryd.ntmps43 rfl ?_
  refine W_seq ?_
  refine W_region ?_
  refine s_assign rfl rfl ?_
  refine WL_nil ?_
  refine n_then ?_
  refine W_seq ?_
  refine W_seq ?_
  refine W_region ?_
  refine s_move rfl rfl ?_
  refine s_nilCheck rfl rfl ?_
  refine s_fieldAddr rfl rfl (FA60_4 _ _) ?_
  first
    | refine s_load Tryd.isAgg4 rfl rfl (hs.cell (k := 0) rfl rfl) ?_
  refine s_not rfl rfl ?_
  refine WL_nil ?_
  refine n_then ?_
  refine W_cond rfl (fun hc7 => ?_) (fun hc7 => ?_)
  · skip
    simp only [decide_eq_true_eq, decide_eq_false_iff_not, Bool.not_eq_true', Bool.not_eq_false'] at hc7
    refine W_seq ?_
    refine W_region ?_
    refine s_assign rfl rfl ?_
    refine WL_nil ?_
    refine n_then ?_
    refine W_ret ?_
    refine r_then ?_
    first
      | (refine end1 rfl rfl ⟨_, hs, ?_⟩
         rw [Dk.step, if_pos hc7]; exact ⟨rfl, rfl⟩)
      | (refine end1 rfl rfl ⟨_, hs, ?_⟩
         rw [Dk.step, if_neg (by simp [hc7]), if_pos (by omega)]; exact ⟨rfl, rfl⟩)
      | (refine end1 rfl rfl ⟨_, hs, ?_⟩
         rw [Dk.step, if_neg (by simp [hc7]), if_neg (by omega)]; exact ⟨rfl, rfl⟩)
  · skip
    simp only [decide_eq_true_eq, decide_eq_false_iff_not, Bool.not_eq_true', Bool.not_eq_false'] at hc7
    have hle := hl hc7
    refine W_skip ?_
    refine n_then ?_
    refine W_seq ?_
    refine W_seq ?_
    refine W_region ?_
    refine s_move rfl rfl ?_
    refine s_nilCheck rfl rfl ?_
    refine s_fieldAddr rfl rfl (FA60_5 _ _) ?_
    first
      | refine s_load Tryd.isAgg3 rfl rfl (hs.cell (k := 0) rfl rfl) ?_
    refine s_gtr rfl rfl rfl ?_
    refine WL_nil ?_
    refine n_then ?_
    refine W_cond rfl (fun hc12 => ?_) (fun hc12 => ?_)
    · skip
      simp only [decide_eq_true_eq, decide_eq_false_iff_not, Bool.not_eq_true', Bool.not_eq_false'] at hc12
      refine W_seq ?_
      refine W_region ?_
      refine s_move rfl rfl ?_
      refine s_nilCheck rfl rfl ?_
      refine s_fieldAddr rfl rfl (FA60_5 _ _) ?_
      first
        | refine s_load Tryd.isAgg3 rfl rfl (hs.cell (k := 0) rfl rfl) ?_
      first | (refine s_sub' rfl rfl rfl ?hx ?_; case hx => (constructor <;> first | omega | (simp only; omega))) | refine s_sub rfl rfl rfl ?_
      refine s_nilCheck rfl rfl ?_
      refine s_fieldAddr rfl rfl (FA60_5 _ _) ?_
      first
        | refine s_storeB Tryd.sizeOf3 rfl rfl rfl hs (kk := 0) rfl rfl ?_
      clear hs; intro w hs; try simp only [List.set_cons_zero, List.set_cons_succ, splice, List.take_succ_cons, List.take_zero, List.drop_succ_cons, List.drop_zero, List.nil_append, List.cons_append, List.length_cons, List.length_nil, Nat.reduceAdd, List.append_assoc] at hs
      refine WL_nil ?_
      refine n_then ?_
      refine W_seq ?_
      refine W_region ?_
      refine s_assign rfl rfl ?_
      refine WL_nil ?_
      refine n_then ?_
      refine W_ret ?_
      refine r_then ?_
      first
        | (refine end1 rfl rfl ⟨_, hs, ?_⟩
           rw [Dk.step, if_pos hc7]; exact ⟨rfl, rfl⟩)
        | (refine end1 rfl rfl ⟨_, hs, ?_⟩
           rw [Dk.step, if_neg (by simp [hc7]), if_pos (by omega)]; exact ⟨rfl, rfl⟩)
        | (refine end1 rfl rfl ⟨_, hs, ?_⟩
           rw [Dk.step, if_neg (by simp [hc7]), if_neg (by omega)]; exact ⟨rfl, rfl⟩)
    · skip
      simp only [decide_eq_true_eq, decide_eq_false_iff_not, Bool.not_eq_true', Bool.not_eq_false'] at hc12
      refine W_skip ?_
      refine n_then ?_
      refine W_seq ?_
      refine W_region ?_
      refine s_move rfl rfl ?_
      refine s_move rfl rfl ?_
      refine s_nilCheck rfl rfl ?_
      refine s_fieldAddr rfl rfl (FA60_4 _ _) ?_
      first
        | refine s_storeB Tryd.sizeOf4 rfl rfl rfl hs (kk := 0) rfl rfl ?_
      clear hs; intro w hs; try simp only [List.set_cons_zero, List.set_cons_succ, splice, List.take_succ_cons, List.take_zero, List.drop_succ_cons, List.drop_zero, List.nil_append, List.cons_append, List.length_cons, List.length_nil, Nat.reduceAdd, List.append_assoc] at hs
      refine s_nilCheck rfl rfl ?_
      refine s_fieldAddr rfl rfl (FA60_3 _ _) ?_
      first
        | refine s_storeB Tryd.sizeOf4 rfl rfl rfl hs (kk := 0) rfl rfl ?_
      clear hs; intro w hs; try simp only [List.set_cons_zero, List.set_cons_succ, splice, List.take_succ_cons, List.take_zero, List.drop_succ_cons, List.drop_zero, List.nil_append, List.cons_append, List.length_cons, List.length_nil, Nat.reduceAdd, List.append_assoc] at hs
      refine WL_nil ?_
      refine n_then ?_
      refine W_seq ?_
      refine W_region ?_
      refine s_assign rfl rfl ?_
      refine WL_nil ?_
      refine n_then ?_
      refine W_ret ?_
      first
        | (refine end1 rfl rfl ⟨_, hs, ?_⟩
           rw [Dk.step, if_pos hc7]; exact ⟨rfl, rfl⟩)
        | (refine end1 rfl rfl ⟨_, hs, ?_⟩
           rw [Dk.step, if_neg (by simp [hc7]), if_pos (by omega)]; exact ⟨rfl, rfl⟩)
        | (refine end1 rfl rfl ⟨_, hs, ?_⟩
           rw [Dk.step, if_neg (by simp [hc7]), if_neg (by omega)]; exact ⟨rfl, rfl⟩)
/-- Arm -/
def Dk.arm (D : Dk) (n : Int) : Dk := if D.off then D else { D with armed := decide (0 ≤ n), left := n }
theorem arm_ok (p : Nat) (D : Dk) (n : Int) (L0 : Hp) (w0 : World) (hD : DiskAt p D L0) (hn : isI64 n) (hs : St (ids L0) w0 w0 L0) :
    Ret Tryd.prog 7 [.pointer (some ⟨p, 0, none⟩), .int .i64 n].toArray w0 fun r w' => ∃ L', St (ids L0) w0 w' L' ∧ DiskAt p (D.arm n) L' := by
  obtain ⟨m, o, fs, hL, hM, hF, hR, hA⟩ := hD
  unfold dkCells at hL
  unfold isI64 at hn
  replace hs : St (ids L0) w0 w0 ((p, Blk 60 [.int .i64 D.room, .int .i64 (total D.c : Int), .map (some m), .bool D.off, .bool D.armed, .int .i64 D.left]) :: (m, o) :: fblks fs) := by rw [hL] at hs ⊢; exact hs
  refine Ret_startL hs fun w hs => ?_
  refine Ret_of Tryd.func7 rfl Tryd.ntmps7 rfl ?_
  refine W_seq ?_
  refine W_seq ?_
  refine W_region ?_
  refine s_move rfl rfl ?_
  refine s_nilCheck rfl rfl ?_
  refine s_fieldAddr rfl rfl (FA60_3 _ _) ?_
  first
    | refine s_load Tryd.isAgg4 rfl rfl (hs.cell (k := 0) rfl rfl) ?_
  refine WL_nil ?_
  refine n_then ?_
  refine W_cond rfl (fun hc7 => ?_) (fun hc7 => ?_)
  · skip
    refine W_ret ?_
    refine r_then ?_
    refine end0 rfl ⟨_, hs, ?_⟩
    rw [Dk.arm, if_pos hc7]
    exact ⟨m, o, fs, rfl, hM, hF, hR, hA⟩
  · skip
    refine W_skip ?_
    refine n_then ?_
    refine W_region ?_
    refine s_move rfl rfl ?_
    refine s_move rfl rfl ?_
    refine s_move rfl rfl ?_
    refine s_geq rfl rfl rfl ?_
    refine s_move rfl rfl ?_
    refine s_nilCheck rfl rfl ?_
    refine s_fieldAddr rfl rfl (FA60_4 _ _) ?_
    first
      | refine s_storeB Tryd.sizeOf4 rfl rfl rfl hs (kk := 0) rfl rfl ?_
    clear hs; intro w hs; try simp only [List.set_cons_zero, List.set_cons_succ, splice, List.take_succ_cons, List.take_zero, List.drop_succ_cons, List.drop_zero, List.nil_append, List.cons_append, List.length_cons, List.length_nil, Nat.reduceAdd, List.append_assoc] at hs
    refine s_nilCheck rfl rfl ?_
    refine s_fieldAddr rfl rfl (FA60_5 _ _) ?_
    first
      | refine s_storeB Tryd.sizeOf3 rfl rfl rfl hs (kk := 0) rfl rfl ?_
    clear hs; intro w hs; try simp only [List.set_cons_zero, List.set_cons_succ, splice, List.take_succ_cons, List.take_zero, List.drop_succ_cons, List.drop_zero, List.nil_append, List.cons_append, List.length_cons, List.length_nil, Nat.reduceAdd, List.append_assoc] at hs
    refine WL_nil ?_
    refine end0' rfl ⟨_, hs, ?_⟩
    rw [Dk.arm, if_neg (by simp [hc7])]
    exact ⟨m, o, fs, rfl, hM, hF.of rfl rfl, hR, fun h => by simp only [decide_eq_true_eq] at h; simp only; omega⟩
/-! put -/
set_option maxHeartbeats 1000000 in
theorem put_ok (p m : Nat) (o : Obj) (es : KVs) (room used lf file : Int) (off armed : Bool) (a a0 : Option Addr) (n c n0 c0 : Nat) (dur x0 : Int) (w0 : World) (hM : MapI o es) (hlk : (lookI file es).getD (.agg #[.slice none 0 0, .int .i64 0]) = .agg #[.slice a0 n0 c0, .int .i64 x0])
    (hb : 0 ≤ used ∧ used ≤ 1099511627776 ∧ n ≤ 1099511627776 ∧ n0 ≤ 1099511627776)
    (hs : St (ids [(p, Blk 60 [.int .i64 room, .int .i64 used, .map (some m), .bool off, .bool armed, .int .i64 lf]), (m, o)]) w0 w0 [(p, Blk 60 [.int .i64 room, .int .i64 used, .map (some m), .bool off, .bool armed, .int .i64 lf]), (m, o)]) :
    Ret Tryd.prog 29 [.pointer (some ⟨p, 0, none⟩), .int .i64 file, .agg #[.slice a n c, .int .i64 dur]].toArray w0 fun r w' => ∃ L', St (ids [(p, Blk 60 [.int .i64 room, .int .i64 used, .map (some m), .bool off, .bool armed, .int .i64 lf]), (m, o)]) w0 w' L' ∧
      ∃ o', L' = [(p, Blk 60 [.int .i64 room, .int .i64 (used + ((n : Int) - n0)), .map (some m), .bool off, .bool armed, .int .i64 lf]), (m, o')] ∧ MapI o' (if n = 0 then delI file es else updI file (.agg #[.slice a n c, .int .i64 dur]) es) := by
  refine Ret_startL hs fun w hs => ?_
  refine Ret_of Tryd.func29 rfl Tryd.ntmps29 rfl ?_
  refine W_seq ?_
  refine W_region ?_
  first | refine s_box rfl rfl hs ?_ | refine s_box1 rfl rfl rfl hs ?_
  clear hs; intro b5 w hs
  refine WL_nil ?_
  refine n_then ?_
  refine W_seq ?_
  refine W_draw [(0, true, []), (1, true, []), (2, true, []), (3, true, []), (4, true, []), (5, true, []), (6, true, []), (7, true, []), (8, true, []), (9, true, []), (10, true, []), (11, true, []), (12, true, []), (13, true, []), (14, true, []), (15, true, []), (16, true, []), (17, true, []), (18, true, []), (19, false, [])] [[], [0], [0, 1], [0, 1, 2], [], [4], [4, 5], [], [7], [7, 8], [7, 8, 9], [], [7, 8, 9, 10, 11], [7, 8, 9, 10, 11, 12], [7, 8, 9, 10, 11, 12, 13], [4, 5, 6, 7, 8, 9, 10, 11, 12, 13, 14], [0, 1, 2, 3, 4, 5, 6, 7, 8, 9, 10, 11, 12, 13, 14, 15], [0, 1, 2, 3, 4, 5, 6, 7, 8, 9, 10, 11, 12, 13, 14, 15, 16], [0, 1, 2, 3, 4, 5, 6, 7, 8, 9, 10, 11, 12, 13, 14, 15, 16, 17], [0, 1, 2, 3, 4, 5, 6, 7, 8, 9, 10, 11, 12, 13, 14, 15, 16, 17, 18]] MX (by kernel_rfl) ?_
  intro w1 hw1 hw2 hw3 hw4; replace hs := hs.redrawn hw1 hw2 hw3 hw4; clear hw1 hw2 hw3 hw4
  obtain ⟨w, rfl⟩ : ∃ w : World, w = w1 := ⟨_, rfl⟩
  refine D_q rfl rfl ?_
  refine s_move rfl rfl ?_
  refine D_qn ?_
  refine D_q rfl rfl ?_
  refine s_nilCheck rfl rfl ?_
  refine D_qn ?_
  refine D_q rfl rfl ?_
  refine s_fieldAddr rfl rfl (FA60_1 _ _) ?_
  refine D_qn ?_
  refine D_q rfl rfl ?_
  first
    | refine s_load Tryd.isAgg3 rfl rfl (hs.cell (k := 0) rfl rfl) ?_
    | refine s_load Tryd.isAgg3 rfl rfl (hs.cell (k := 1) rfl rfl) ?_
    | refine s_load Tryd.isAgg3 rfl rfl (hs.cell (k := 2) rfl rfl) ?_
  refine D_qn ?_
  refine D_q rfl rfl ?_
  refine s_fieldAddr rfl rfl (FA70_0 _ _) ?_
  refine D_qn ?_
  refine D_q rfl rfl ?_
  first
    | refine s_load Tryd.isAgg35 rfl rfl (hs.cell (k := 0) rfl rfl) ?_
    | refine s_load Tryd.isAgg35 rfl rfl (hs.cell (k := 1) rfl rfl) ?_
    | refine s_load Tryd.isAgg35 rfl rfl (hs.cell (k := 2) rfl rfl) ?_
  refine D_qn ?_
  refine D_q rfl rfl ?_
  refine s_len rfl rfl (LN35 _ _ _ _) ?_
  refine D_qn ?_
  refine D_q rfl rfl ?_
  refine s_move rfl rfl ?_
  refine D_qn ?_
  refine D_q rfl rfl ?_
  refine s_nilCheck rfl rfl ?_
  refine D_qn ?_
  refine D_q rfl rfl ?_
  refine s_fieldAddr rfl rfl (FA60_2 _ _) ?_
  refine D_qn ?_
  refine D_q rfl rfl ?_
  first
    | refine s_load Tryd.isAgg58 rfl rfl (hs.cell (k := 0) rfl rfl) ?_
    | refine s_load Tryd.isAgg58 rfl rfl (hs.cell (k := 1) rfl rfl) ?_
    | refine s_load Tryd.isAgg58 rfl rfl (hs.cell (k := 2) rfl rfl) ?_
  refine D_qn ?_
  refine D_q rfl rfl ?_
  refine s_move rfl rfl ?_
  refine D_qn ?_
  refine D_q rfl rfl ?_
  refine s_lookupI Tryd.underlying58 Tryd.underlying3 ZV70 rfl rfl rfl hs (kk := 2) rfl hM ?_
  rw [hlk]
  refine D_qn ?_
  refine D_q rfl rfl ?_
  refine s_field rfl rfl (FD70_0 _ _) ?_
  refine D_qn ?_
  refine D_q rfl rfl ?_
  refine s_len rfl rfl (LN35 _ _ _ _) ?_
  refine D_qn ?_
  refine D_q rfl rfl ?_
  first | (refine s_sub' rfl rfl rfl ?hx ?_; case hx => (constructor <;> first | omega | (simp only; omega))) | refine s_sub rfl rfl rfl ?_
  refine D_qn ?_
  refine D_q rfl rfl ?_
  first | (refine s_add' rfl rfl rfl ?hx ?_; case hx => (constructor <;> first | omega | (simp only; omega))) | refine s_add rfl rfl rfl ?_
  refine D_qn ?_
  refine D_q rfl rfl ?_
  refine s_nilCheck rfl rfl ?_
  refine D_qn ?_
  refine D_q rfl rfl ?_
  refine s_fieldAddr rfl rfl (FA60_1 _ _) ?_
  refine D_qn ?_
  refine D_e rfl ?_
  first
    | refine s_storeB Tryd.sizeOf3 rfl rfl rfl hs (kk := 0) rfl rfl ?_
    | refine s_storeB Tryd.sizeOf3 rfl rfl rfl hs (kk := 1) rfl rfl ?_
    | refine s_storeB Tryd.sizeOf3 rfl rfl rfl hs (kk := 2) rfl rfl ?_
  clear hs; intro w hs; try simp only [List.set_cons_zero, List.set_cons_succ, splice, List.take_succ_cons, List.take_zero, List.drop_succ_cons, List.drop_zero, List.nil_append, List.cons_append, List.length_cons, List.length_nil, Nat.reduceAdd, List.append_assoc] at hs
  refine D_en ?re ?_
  case re =>
    exact Reks_nil
  refine D_nil ?_
  refine n_then ?_
  refine W_seq ?_
  refine W_seq ?_
  refine W_region ?_
  refine s_fieldAddr rfl rfl (FA70_0 _ _) ?_
  first
    | refine s_load Tryd.isAgg35 rfl rfl (hs.cell (k := 0) rfl rfl) ?_
    | refine s_load Tryd.isAgg35 rfl rfl (hs.cell (k := 1) rfl rfl) ?_
    | refine s_load Tryd.isAgg35 rfl rfl (hs.cell (k := 2) rfl rfl) ?_
  refine s_len rfl rfl (LN35 _ _ _ _) ?_
  refine s_eql rfl rfl rfl ?_
  refine WL_nil ?_
  refine n_then ?_
  refine W_cond rfl (fun hc28 => ?_) (fun hc28 => ?_)
  · skip
    simp only [beq_iff_eq, beq_eq_false_iff_ne, ne_eq] at hc28
    refine W_seq ?_
    refine W_region ?_
    refine s_move rfl rfl ?_
    refine s_nilCheck rfl rfl ?_
    refine s_fieldAddr rfl rfl (FA60_2 _ _) ?_
    first
      | refine s_load Tryd.isAgg58 rfl rfl (hs.cell (k := 0) rfl rfl) ?_
      | refine s_load Tryd.isAgg58 rfl rfl (hs.cell (k := 1) rfl rfl) ?_
      | refine s_load Tryd.isAgg58 rfl rfl (hs.cell (k := 2) rfl rfl) ?_
    refine s_move rfl rfl ?_
    refine s_deleteI Tryd.underlying58 Tryd.underlying3 rfl rfl hs (kk := 2) rfl hM ?_
    clear hs; intro w o' hM' hs
    try simp only [List.set_cons_succ, List.set_cons_zero] at hs
    refine WL_nil ?_
    refine n_then ?_
    refine W_ret ?_
    refine r_then ?_
    refine end0 rfl ⟨_, hs.tail, o', rfl, ?_⟩
    rw [if_pos (by omega)]; exact hM'
  · skip
    simp only [beq_iff_eq, beq_eq_false_iff_ne, ne_eq] at hc28
    refine W_skip ?_
    refine n_then ?_
    refine W_draw [(0, true, []), (1, true, []), (2, true, []), (3, true, []), (4, true, []), (5, true, []), (6, false, [])] [[], [0], [0, 1], [0, 1, 2], [], [], [0, 1, 2, 3, 4, 5]] MX (by kernel_rfl) ?_
    intro w1 hw1 hw2 hw3 hw4; replace hs := hs.redrawn hw1 hw2 hw3 hw4; clear hw1 hw2 hw3 hw4
    obtain ⟨w, rfl⟩ : ∃ w : World, w = w1 := ⟨_, rfl⟩
    refine D_q rfl rfl ?_
    refine s_move rfl rfl ?_
    refine D_qn ?_
    refine D_q rfl rfl ?_
    refine s_nilCheck rfl rfl ?_
    refine D_qn ?_
    refine D_q rfl rfl ?_
    refine s_fieldAddr rfl rfl (FA60_2 _ _) ?_
    refine D_qn ?_
    refine D_q rfl rfl ?_
    first
      | refine s_load Tryd.isAgg58 rfl rfl (hs.cell (k := 0) rfl rfl) ?_
      | refine s_load Tryd.isAgg58 rfl rfl (hs.cell (k := 1) rfl rfl) ?_
      | refine s_load Tryd.isAgg58 rfl rfl (hs.cell (k := 2) rfl rfl) ?_
    refine D_qn ?_
    refine D_q rfl rfl ?_
    refine s_move rfl rfl ?_
    refine D_qn ?_
    refine D_q rfl rfl ?_
    first
      | refine s_loadW Tryd.isAgg70 Tryd.sizeOf70 rfl rfl hs (kk := 0) rfl rfl ?_
      | refine s_loadW Tryd.isAgg70 Tryd.sizeOf70 rfl rfl hs (kk := 1) rfl rfl ?_
      | refine s_loadW Tryd.isAgg70 Tryd.sizeOf70 rfl rfl hs (kk := 2) rfl rfl ?_
      | refine s_load_2 Tryd.isAgg70 Tryd.sizeOf70 rfl rfl (by first | exact hs.cell (k := 0) rfl rfl | exact hs.cell (k := 1) rfl rfl | exact hs.cell (k := 2) rfl rfl) (by first | exact hs.cell (k := 0) rfl rfl | exact hs.cell (k := 1) rfl rfl | exact hs.cell (k := 2) rfl rfl) ?_
    refine D_qn ?_
    refine D_e rfl ?_
    refine s_mapUpdateI Tryd.underlying58 Tryd.underlying3 rfl rfl rfl hs (kk := 2) rfl hM ?_
    clear hs; intro w o' hM' hs
    try simp only [List.set_cons_succ, List.set_cons_zero] at hs
    refine D_en ?re ?_
    case re =>
      exact Reks_nil
    refine D_nil ?_
    refine end0' rfl ⟨_, hs.tail, o', rfl, ?_⟩
    rw [if_neg (by omega)]; exact hM'
/-! files -/
def filesV (D : Dk) : List Int := ((List.range 64).map fun (i : Nat) => (i : Int)).filter fun f => decide (D.c f ≠ [])
theorem filesV_sorted (D : Dk) : (filesV D).Pairwise (· < ·) := by
  unfold filesV
  refine List.Pairwise.sublist List.filter_sublist ?_
  rw [List.pairwise_map]
  exact List.pairwise_lt_range.imp (by intro a b h; omega)
theorem filesV_mem (D : Dk) (f : Int) : f ∈ filesV D ↔ (0 ≤ f ∧ f ≤ 63) ∧ D.c f ≠ [] := by
  unfold filesV
  rw [List.mem_filter, List.mem_map]
  constructor
  · rintro ⟨⟨i, hi, rfl⟩, h⟩
    rw [List.mem_range] at hi
    exact ⟨by omega, by simpa using h⟩
  · rintro ⟨h1, h2⟩
    exact ⟨⟨f.toNat, by rw [List.mem_range]; omega, by omega⟩, by simpa using h2⟩
theorem FilesOk.mem {D : Dk} {fs : List Fl} (h : FilesOk D fs) (f : Int) : f ∈ fs.map (·.f) ↔ f ∈ filesV D := by
  rw [filesV_mem]
  constructor
  · intro hf
    obtain ⟨r, hr, rfl⟩ := List.mem_map.1 hf
    obtain ⟨_, h1, h2, _⟩ := h.ok r hr
    exact ⟨h2, by rw [(h.is r hr).1]; exact h1⟩
  · rintro ⟨_, h2⟩
    by_cases hf : f ∈ fs.map (·.f)
    · exact hf
    · exact absurd (h.no f hf).1 h2
theorem fkv_keys (fs : List Fl) : (fkv fs).map Prod.fst = fs.map (·.f) := by rw [fkv, List.map_map]; rfl
theorem filesV_len (D : Dk) : (filesV D).length ≤ 64 := by
  unfold filesV
  exact Nat.le_trans (List.length_filter_le _ _) (by simp)
theorem sorted_files {D : Dk} {o : Obj} {fs : List Fl} {ks : List Int} (hM : MapI o (fkv fs)) (hF : FilesOk D fs) (hp : ks.Perm ((fkv fs).map Prod.fst)) (hlt : ks.Pairwise (· < ·)) : ks = filesV D := by
  refine sorted_eq hlt (filesV_sorted D) fun z => ?_
  rw [hp.mem_iff, fkv_keys]; exact hF.mem z
theorem fkv_len {D : Dk} {o : Obj} {fs : List Fl} (hM : MapI o (fkv fs)) (hF : FilesOk D fs) : fs.length ≤ 64 := by
  have hn := hM.keys
  rw [fkv_keys] at hn
  have h2 : (srt ((fkv fs).map Prod.fst)) = filesV D := sorted_files hM hF (srt_perm _) (lt_of_le_nodup (srt_sorted _) ((srt_perm _).nodup_iff.2 hM.keys))
  have h3 := congrArg List.length h2
  have h4 := filesV_len D
  rw [srt_length, fkv_keys, List.length_map] at h3; omega
theorem files_ok (p : Nat) (D : Dk) (L0 : Hp) (w0 : World) (hD : DiskAt p D L0) (hs : St (ids L0) w0 w0 L0) :
    Ret Tryd.prog 28 [.pointer (some ⟨p, 0, none⟩)].toArray w0 fun r w' => ∃ L', St (ids L0) w0 w' L' ∧ ∃ Lv, L' = Lv ++ L0 ∧ OwnS 3 1 r (filesV D).length (i64s (filesV D)) Lv := by
  obtain ⟨m, o, fs, hL, hM, hF, hR, hA⟩ := hD
  have hfl := fkv_len hM hF
  unfold dkCells at hL
  replace hs : St (ids L0) w0 w0 ((p, Blk 60 [.int .i64 D.room, .int .i64 (total D.c : Int), .map (some m), .bool D.off, .bool D.armed, .int .i64 D.left]) :: (m, o) :: fblks fs) := by rw [hL] at hs ⊢; exact hs
  refine Ret_startL hs fun w hs => ?_
  refine Ret_of Tryd.func28 rfl Tryd.ntmps28 rfl ?_
  refine W_seq ?_
  refine W_region ?_
  refine s_assign rfl rfl ?_
  refine WL_nil ?_
  refine n_then ?_
  refine W_seq ?_
  refine W_region ?_
  refine s_move rfl rfl ?_
  refine s_nilCheck rfl rfl ?_
  refine s_fieldAddr rfl rfl (FA60_2 _ _) ?_
  first
    | refine s_load Tryd.isAgg58 rfl rfl (hs.cell (k := 0) rfl rfl) ?_
  refine s_call Tryd.call49 rfl rfl (keys_ok m w) ?_
  rintro r w ⟨bk, rfl, hst⟩
  replace hs := St.back0 hs hst
  clear hst
  rw [← hL] at hs
  refine s_callL (M := []) (L1 := [_] ++ L0) (X := []) Tryd.call48 rfl rfl (by simpa using hs) (fun h => sorted_ok bk m o (fkv fs) hM (by rw [fkv, List.length_map]; omega) _ w (by simp) (by rw [hL]; simp) h) ?_
  clear hs; rintro v w L' ⟨ks, Lv, rfl, hO, hp, hlt⟩ - hs
  simp only [List.nil_append, List.append_nil] at hs
  obtain rfl := sorted_files hM hF hp hlt
  refine s_assign rfl rfl ?_
  refine WL_nil ?_
  refine n_then ?_
  refine W_ret ?_
  refine end1 rfl rfl ⟨Lv ++ L0, ?_, Lv, rfl, hO⟩
  simpa [cat] using St.reord [Lv, [_], L0] [0, 2] [1] (by simpa [cat] using hs) rfl
end Go.Proofs.YtgppcfgnhahnaaaDoor
