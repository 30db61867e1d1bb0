/- Contracts of the reference model of package net. -/
import Derived.Test.YtgkdbiibbfipjaaNetOrd
set_option linter.unusedVariables false
set_option linter.unusedSimpArgs false
namespace Go.Proofs.Ytgkdbiibbfipjaa
open Go.SL
/-- a message of the reference model: its numbers, its bytes' slice -/
structure RMsg where
  f : Int
  t : Int
  a : Option Addr
  n : Nat
  c : Nat
def RMsg.cells (m : RMsg) : List Value := [.int .i64 m.f, .int .i64 m.t, .slice m.a m.n m.c]
def rcells (rs : List RMsg) : List Value := rs.flatMap RMsg.cells
theorem rcells_length (rs : List RMsg) : (rcells rs).length = rs.length * 3 := by
  induction rs with
  | nil => rfl
  | cons m r ih =>
    have : rcells (m :: r) = m.cells ++ rcells r := rfl
    rw [this, List.length_append, ih]; simp [RMsg.cells]; omega
theorem rcells_one (rs : List RMsg) : ∀ c ∈ rcells rs, c.oneCell' = true := by
  intro c hc
  obtain ⟨m, _, h⟩ := List.mem_flatMap.1 hc
  simp [RMsg.cells] at h
  rcases h with rfl | rfl | rfl <;> rfl
theorem rcells_append (a b : List RMsg) : rcells (a ++ b) = rcells a ++ rcells b := by simp [rcells]
theorem rcells_at {m : RMsg} {j : Nat} (hj : j < 3) : ∀ {rs : List RMsg} {k : Nat}, rs[k]? = some m → (rcells rs)[k * 3 + j]? = m.cells[j]?
  | a :: r, 0, h => by
    simp at h; subst h
    have : rcells (a :: r) = a.cells ++ rcells r := rfl
    rw [this, List.getElem?_append_left (by simp [RMsg.cells]; omega)]; simp
  | a :: r, k + 1, h => by
    have : rcells (a :: r) = a.cells ++ rcells r := rfl
    rw [this, List.getElem?_append_right (by simp [RMsg.cells]; omega)]
    have h2 := rcells_at hj (rs := r) (k := k) (by simpa using h)
    rw [← h2]; congr 1; simp [RMsg.cells]; omega
theorem rcells_take (rs : List RMsg) (k : Nat) : rcells (rs.take k) = (rcells rs).take (k * 3) := by
  induction rs generalizing k with
  | nil => simp [rcells]
  | cons m r ih =>
    cases k with
    | zero => simp [rcells]
    | succ k =>
      have e : rcells (m :: r) = m.cells ++ rcells r := rfl
      have e2 : rcells ((m :: r).take (k + 1)) = m.cells ++ rcells (r.take k) := rfl
      have h3 : m.cells.length = 3 := rfl
      rw [e, e2, ih, List.take_append, List.take_of_length_le (l := m.cells) (by omega), h3]
      congr 2; omega
theorem rcells_drop (rs : List RMsg) (k : Nat) : rcells (rs.drop k) = (rcells rs).drop (k * 3) := by
  induction rs generalizing k with
  | nil => simp [rcells]
  | cons m r ih =>
    cases k with
    | zero => simp
    | succ k =>
      have e : rcells (m :: r) = m.cells ++ rcells r := rfl
      have h3 : m.cells.length = 3 := rfl
      have h4 : List.drop ((k + 1) * 3) m.cells = [] := List.drop_eq_nil_of_le (by omega)
      rw [List.drop_succ_cons, ih, e, List.drop_append, h4, List.nil_append, h3]
      congr 1; omega
theorem rcells_erase (rs : List RMsg) (k : Nat) : rcells (rs.eraseIdx k) = (rcells rs).take (k * 3) ++ (rcells rs).drop ((k + 1) * 3) := by
  rw [List.eraseIdx_eq_take_drop_succ, rcells_append, rcells_take, rcells_drop]
def RefAt (p : Nat) (gs : List Int) (rs : List RMsg) (L : Hp) : Prop :=
  ∃ gv Lg lv Ll, L = (p, Blk 45 [gv, lv]) :: (Lg ++ Ll) ∧ OwnS 3 1 gv gs.length (i64s gs) Lg ∧ OwnS 32 3 lv rs.length (rcells rs) Ll
theorem rnew_ok (k : Nat) (w0 : World) (hk : k ≤ 16) :
    Ret Try.prog 10 [.int .i64 k].toArray w0 fun r w' => ∃ p L, r = .pointer (some ⟨p, 0, none⟩) ∧ RefAt p (List.replicate k 0) [] L ∧ St [] w0 w' L := by
  refine Ret_start fun w hs => ?_
  refine Ret_of Try.func10 rfl Try.ntmps10 rfl ?_
  refine W_seq ?_
  refine W_region ?_
  refine s_assign rfl rfl ?_
  refine WL_nil ?_
  refine n_then ?_
  refine W_seq ?_
  refine W_region ?_
  refine s_move rfl rfl ?_
  refine s_makeSlice El22 rfl rfl rfl ?hx hs ?_
  case hx => (refine ⟨?_, ?_, ?_, ?_⟩ <;> omega)
  clear hs; intro b4 w hs
  refine s_build rfl rfl (BD45_0 _ _ _) ?_
  first | refine s_box rfl rfl hs ?_ | refine s_box1 rfl rfl rfl hs ?_
  clear hs; intro b6 w hs
  refine s_assign rfl rfl ?_
  refine WL_nil ?_
  refine n_then ?_
  refine W_ret ?_
  refine end1 rfl rfl ⟨_, _, rfl, ⟨_, [_], _, [], rfl, ?_, OwnS.nil _ _⟩, hs⟩
  rw [made_one]
  refine ⟨by simp, Or.inr ⟨b4, k, [], by simp, by simp, by simp [maxLen]; omega, by simp, ?_⟩⟩
  simp [i64s]
def sendC (gl ml : Nat) (f t : Int) (bl : Nat) : Int :=
  if f < 0 ∨ (gl : Int) ≤ f ∨ t < 0 ∨ (gl : Int) ≤ t ∨ 65536 < (bl : Int) then 1 else if 1000 ≤ (ml : Int) then 4 else 0
theorem sendE_C (gs : List Int) (ms : List Msg) (f t : Int) (bs : List Int) : sendE gs ms f t bs = sendC gs.length ms.length f t bs.length := rfl
theorem rsend_ok (p : Nat) (gs : List Int) (rs : List RMsg) (m : RMsg) (L0 : Hp) (w0 : World) (hN : RefAt p gs rs L0) (hs : St (ids L0) w0 w0 L0) (hm : rs.length ≤ 1000) :
    Ret Try.prog 13 [.pointer (some ⟨p, 0, none⟩), .agg #[.int .i64 m.f, .int .i64 m.t, .slice m.a m.n m.c]].toArray w0 fun r w' => ∃ L', St (ids L0) w0 w' L' ∧ r = .int .i64 (sendC gs.length rs.length m.f m.t m.n) ∧
      RefAt p gs (if sendC gs.length rs.length m.f m.t m.n = 0 then rs ++ [m] else rs) L' := by
  obtain ⟨gv, Lg, lv, Ll, hL, hG, hO⟩ := hN
  obtain ⟨gl, gc, ga, rfl, rfl⟩ := hG.form
  obtain ⟨tl, tc, ta, rfl, rfl⟩ := hO.form
  replace hs : St (ids L0) w0 w0 ((p, Blk 45 [.slice ga gs.length gc, .slice ta rs.length tc]) :: (Lg ++ Ll)) := by rw [hL] at hs ⊢; exact hs
  refine Ret_startL hs fun w hs => ?_
  refine Ret_of Try.func13 rfl Try.ntmps13 rfl ?_
  refine W_seq ?_
  refine W_region ?_
  first | refine s_box rfl rfl hs ?_ | refine s_box1 rfl rfl rfl hs ?_
  clear hs; intro b3 w hs
  refine s_assign rfl rfl ?_
  refine WL_nil ?_
  refine n_then ?_
  refine W_seq ?_
  refine W_region ?_
  refine s_move rfl rfl ?_
  refine s_nilCheck rfl rfl ?_
  refine s_fieldAddr rfl rfl (FA45_0 _ _) ?_
  first
    | refine s_load Try.isAgg22 rfl rfl (hs.cell (k := 0) rfl rfl) ?_
    | refine s_load Try.isAgg22 rfl rfl (hs.cell (k := 1) rfl rfl) ?_
    | refine s_load Try.isAgg22 rfl rfl (hs.cell (k := 2) rfl rfl) ?_
    | refine s_load Try.isAgg22 rfl rfl (hs.cell (k := 3) rfl rfl) ?_
    | refine s_load Try.isAgg22 rfl rfl (hs.cell (k := 4) rfl rfl) ?_
    | refine s_load Try.isAgg22 rfl rfl (hs.cell (k := 5) rfl rfl) ?_
    | refine s_load Try.isAgg22 rfl rfl (hs.cell (k := 6) rfl rfl) ?_
    | refine s_load Try.isAgg22 rfl rfl (hs.cell (k := 7) rfl rfl) ?_
    | refine s_load Try.isAgg22 rfl rfl (hs.cell (k := 8) rfl rfl) ?_
    | refine s_load Try.isAgg22 rfl rfl (hs.cell (k := 9) rfl rfl) ?_
  refine s_len rfl rfl (LN22 _ _ _ _) ?_
  refine s_assign rfl rfl ?_
  refine WL_nil ?_
  refine n_then ?_
  refine W_seq ?_
  refine W_seq ?_
  refine W_region ?_
  refine s_fieldAddr rfl rfl (FA32_0 _ _) ?_
  first
    | refine s_load Try.isAgg3 rfl rfl (hs.cell (k := 0) rfl rfl) ?_
    | refine s_load Try.isAgg3 rfl rfl (hs.cell (k := 1) rfl rfl) ?_
    | refine s_load Try.isAgg3 rfl rfl (hs.cell (k := 2) rfl rfl) ?_
    | refine s_load Try.isAgg3 rfl rfl (hs.cell (k := 3) rfl rfl) ?_
    | refine s_load Try.isAgg3 rfl rfl (hs.cell (k := 4) rfl rfl) ?_
    | refine s_load Try.isAgg3 rfl rfl (hs.cell (k := 5) rfl rfl) ?_
    | refine s_load Try.isAgg3 rfl rfl (hs.cell (k := 6) rfl rfl) ?_
    | refine s_load Try.isAgg3 rfl rfl (hs.cell (k := 7) rfl rfl) ?_
    | refine s_load Try.isAgg3 rfl rfl (hs.cell (k := 8) rfl rfl) ?_
    | refine s_load Try.isAgg3 rfl rfl (hs.cell (k := 9) rfl rfl) ?_
  refine s_lss rfl rfl rfl ?_
  refine s_move rfl rfl ?_
  refine WL_case (s := 14) rfl (fun hg14 => ?_) (fun hg14 => ?_)
  · skip
    simp only [decide_eq_true_eq, decide_eq_false_iff_not] at hg14
    refine WL_skip rfl rfl rfl ?_
    refine WL_skip rfl rfl rfl ?_
    refine WL_skip rfl rfl rfl ?_
    refine WL_skip rfl rfl rfl ?_
    refine s_pick_t rfl rfl rfl ?_
    refine s_move rfl rfl ?_
    refine WL_skip rfl rfl rfl ?_
    refine WL_skip rfl rfl rfl ?_
    refine WL_skip rfl rfl rfl ?_
    refine s_pick_t rfl rfl rfl ?_
    refine s_move rfl rfl ?_
    refine WL_skip rfl rfl rfl ?_
    refine WL_skip rfl rfl rfl ?_
    refine WL_skip rfl rfl rfl ?_
    refine WL_skip rfl rfl rfl ?_
    refine s_pick_t rfl rfl rfl ?_
    refine s_move rfl rfl ?_
    refine WL_skip rfl rfl rfl ?_
    refine WL_skip rfl rfl rfl ?_
    refine WL_skip rfl rfl rfl ?_
    refine WL_skip rfl rfl rfl ?_
    refine s_pick_t rfl rfl rfl ?_
    refine WL_nil ?_
    refine n_then ?_
    refine W_cond_t rfl ?_
    refine W_seq ?_
    refine W_region ?_
    refine s_assign rfl rfl ?_
    refine WL_nil ?_
    refine n_then ?_
    refine W_ret ?_
    refine r_then ?_
    refine end1 rfl rfl ?_
    first
      | (have hE : sendC gs.length rs.length m.f m.t m.n = 1 := by rw [sendC, if_pos (by omega)]
         rw [hE]
         exact ⟨_, hs.tail, rfl, _, Lg, _, Ll, rfl, hG, hO⟩)
      | (have hE : sendC gs.length rs.length m.f m.t m.n = 4 := by rw [sendC, if_neg (by omega), if_pos (by omega)]
         rw [hE]
         exact ⟨_, hs.tail, rfl, _, Lg, _, Ll, rfl, hG, hO⟩)
      | (have hE : sendC gs.length rs.length m.f m.t m.n = 0 := by rw [sendC, if_neg (by omega), if_neg (by omega)]
         rw [hE]
         refine ⟨_, St.reord [[_], [_], [_], Ll', Lg] [2, 4, 3] [0, 1] hs rfl, rfl, _, Lg, _, Ll', rfl, hG, ?_⟩
         rw [if_pos rfl, List.length_append, rcells_append]
         simpa [rcells] using hO')
  · skip
    simp only [decide_eq_true_eq, decide_eq_false_iff_not] at hg14
    refine WL_take rfl ?_
    refine s_fieldAddr rfl rfl (FA32_0 _ _) ?_
    refine WL_take rfl ?_
    first
      | refine s_load Try.isAgg3 rfl rfl (hs.cell (k := 0) rfl rfl) ?_
      | refine s_load Try.isAgg3 rfl rfl (hs.cell (k := 1) rfl rfl) ?_
      | refine s_load Try.isAgg3 rfl rfl (hs.cell (k := 2) rfl rfl) ?_
      | refine s_load Try.isAgg3 rfl rfl (hs.cell (k := 3) rfl rfl) ?_
      | refine s_load Try.isAgg3 rfl rfl (hs.cell (k := 4) rfl rfl) ?_
      | refine s_load Try.isAgg3 rfl rfl (hs.cell (k := 5) rfl rfl) ?_
      | refine s_load Try.isAgg3 rfl rfl (hs.cell (k := 6) rfl rfl) ?_
      | refine s_load Try.isAgg3 rfl rfl (hs.cell (k := 7) rfl rfl) ?_
      | refine s_load Try.isAgg3 rfl rfl (hs.cell (k := 8) rfl rfl) ?_
      | refine s_load Try.isAgg3 rfl rfl (hs.cell (k := 9) rfl rfl) ?_
    refine WL_take rfl ?_
    refine s_move rfl rfl ?_
    refine WL_take rfl ?_
    refine s_geq rfl rfl rfl ?_
    refine s_pick_f rfl rfl rfl ?_
    refine s_move rfl rfl ?_
    refine WL_case (s := 20) rfl (fun hg20 => ?_) (fun hg20 => ?_)
    · skip
      simp only [decide_eq_true_eq, decide_eq_false_iff_not] at hg20
      refine WL_skip rfl rfl rfl ?_
      refine WL_skip rfl rfl rfl ?_
      refine WL_skip rfl rfl rfl ?_
      refine s_pick_t rfl rfl rfl ?_
      refine s_move rfl rfl ?_
      refine WL_skip rfl rfl rfl ?_
      refine WL_skip rfl rfl rfl ?_
      refine WL_skip rfl rfl rfl ?_
      refine WL_skip rfl rfl rfl ?_
      refine s_pick_t rfl rfl rfl ?_
      refine s_move rfl rfl ?_
      refine WL_skip rfl rfl rfl ?_
      refine WL_skip rfl rfl rfl ?_
      refine WL_skip rfl rfl rfl ?_
      refine WL_skip rfl rfl rfl ?_
      refine s_pick_t rfl rfl rfl ?_
      refine WL_nil ?_
      refine n_then ?_
      refine W_cond_t rfl ?_
      refine W_seq ?_
      refine W_region ?_
      refine s_assign rfl rfl ?_
      refine WL_nil ?_
      refine n_then ?_
      refine W_ret ?_
      refine r_then ?_
      refine end1 rfl rfl ?_
      first
        | (have hE : sendC gs.length rs.length m.f m.t m.n = 1 := by rw [sendC, if_pos (by omega)]
           rw [hE]
           exact ⟨_, hs.tail, rfl, _, Lg, _, Ll, rfl, hG, hO⟩)
        | (have hE : sendC gs.length rs.length m.f m.t m.n = 4 := by rw [sendC, if_neg (by omega), if_pos (by omega)]
           rw [hE]
           exact ⟨_, hs.tail, rfl, _, Lg, _, Ll, rfl, hG, hO⟩)
        | (have hE : sendC gs.length rs.length m.f m.t m.n = 0 := by rw [sendC, if_neg (by omega), if_neg (by omega)]
           rw [hE]
           refine ⟨_, St.reord [[_], [_], [_], Ll', Lg] [2, 4, 3] [0, 1] hs rfl, rfl, _, Lg, _, Ll', rfl, hG, ?_⟩
           rw [if_pos rfl, List.length_append, rcells_append]
           simpa [rcells] using hO')
    · skip
      simp only [decide_eq_true_eq, decide_eq_false_iff_not] at hg20
      refine WL_take rfl ?_
      refine s_fieldAddr rfl rfl (FA32_1 _ _) ?_
      refine WL_take rfl ?_
      first
        | refine s_load Try.isAgg3 rfl rfl (hs.cell (k := 0) rfl rfl) ?_
        | refine s_load Try.isAgg3 rfl rfl (hs.cell (k := 1) rfl rfl) ?_
        | refine s_load Try.isAgg3 rfl rfl (hs.cell (k := 2) rfl rfl) ?_
        | refine s_load Try.isAgg3 rfl rfl (hs.cell (k := 3) rfl rfl) ?_
        | refine s_load Try.isAgg3 rfl rfl (hs.cell (k := 4) rfl rfl) ?_
        | refine s_load Try.isAgg3 rfl rfl (hs.cell (k := 5) rfl rfl) ?_
        | refine s_load Try.isAgg3 rfl rfl (hs.cell (k := 6) rfl rfl) ?_
        | refine s_load Try.isAgg3 rfl rfl (hs.cell (k := 7) rfl rfl) ?_
        | refine s_load Try.isAgg3 rfl rfl (hs.cell (k := 8) rfl rfl) ?_
        | refine s_load Try.isAgg3 rfl rfl (hs.cell (k := 9) rfl rfl) ?_
      refine WL_take rfl ?_
      refine s_lss rfl rfl rfl ?_
      refine s_pick_f rfl rfl rfl ?_
      refine s_move rfl rfl ?_
      refine WL_case (s := 25) rfl (fun hg25 => ?_) (fun hg25 => ?_)
      · skip
        simp only [decide_eq_true_eq, decide_eq_false_iff_not] at hg25
        refine WL_skip rfl rfl rfl ?_
        refine WL_skip rfl rfl rfl ?_
        refine WL_skip rfl rfl rfl ?_
        refine WL_skip rfl rfl rfl ?_
        refine s_pick_t rfl rfl rfl ?_
        refine s_move rfl rfl ?_
        refine WL_skip rfl rfl rfl ?_
        refine WL_skip rfl rfl rfl ?_
        refine WL_skip rfl rfl rfl ?_
        refine WL_skip rfl rfl rfl ?_
        refine s_pick_t rfl rfl rfl ?_
        refine WL_nil ?_
        refine n_then ?_
        refine W_cond_t rfl ?_
        refine W_seq ?_
        refine W_region ?_
        refine s_assign rfl rfl ?_
        refine WL_nil ?_
        refine n_then ?_
        refine W_ret ?_
        refine r_then ?_
        refine end1 rfl rfl ?_
        first
          | (have hE : sendC gs.length rs.length m.f m.t m.n = 1 := by rw [sendC, if_pos (by omega)]
             rw [hE]
             exact ⟨_, hs.tail, rfl, _, Lg, _, Ll, rfl, hG, hO⟩)
          | (have hE : sendC gs.length rs.length m.f m.t m.n = 4 := by rw [sendC, if_neg (by omega), if_pos (by omega)]
             rw [hE]
             exact ⟨_, hs.tail, rfl, _, Lg, _, Ll, rfl, hG, hO⟩)
          | (have hE : sendC gs.length rs.length m.f m.t m.n = 0 := by rw [sendC, if_neg (by omega), if_neg (by omega)]
             rw [hE]
             refine ⟨_, St.reord [[_], [_], [_], Ll', Lg] [2, 4, 3] [0, 1] hs rfl, rfl, _, Lg, _, Ll', rfl, hG, ?_⟩
             rw [if_pos rfl, List.length_append, rcells_append]
             simpa [rcells] using hO')
      · skip
        simp only [decide_eq_true_eq, decide_eq_false_iff_not] at hg25
        refine WL_take rfl ?_
        refine s_fieldAddr rfl rfl (FA32_1 _ _) ?_
        refine WL_take rfl ?_
        first
          | refine s_load Try.isAgg3 rfl rfl (hs.cell (k := 0) rfl rfl) ?_
          | refine s_load Try.isAgg3 rfl rfl (hs.cell (k := 1) rfl rfl) ?_
          | refine s_load Try.isAgg3 rfl rfl (hs.cell (k := 2) rfl rfl) ?_
          | refine s_load Try.isAgg3 rfl rfl (hs.cell (k := 3) rfl rfl) ?_
          | refine s_load Try.isAgg3 rfl rfl (hs.cell (k := 4) rfl rfl) ?_
          | refine s_load Try.isAgg3 rfl rfl (hs.cell (k := 5) rfl rfl) ?_
          | refine s_load Try.isAgg3 rfl rfl (hs.cell (k := 6) rfl rfl) ?_
          | refine s_load Try.isAgg3 rfl rfl (hs.cell (k := 7) rfl rfl) ?_
          | refine s_load Try.isAgg3 rfl rfl (hs.cell (k := 8) rfl rfl) ?_
          | refine s_load Try.isAgg3 rfl rfl (hs.cell (k := 9) rfl rfl) ?_
        refine WL_take rfl ?_
        refine s_move rfl rfl ?_
        refine WL_take rfl ?_
        refine s_geq rfl rfl rfl ?_
        refine s_pick_f rfl rfl rfl ?_
        refine s_move rfl rfl ?_
        refine WL_case (s := 31) rfl (fun hg31 => ?_) (fun hg31 => ?_)
        · skip
          simp only [decide_eq_true_eq, decide_eq_false_iff_not] at hg31
          refine WL_skip rfl rfl rfl ?_
          refine WL_skip rfl rfl rfl ?_
          refine WL_skip rfl rfl rfl ?_
          refine WL_skip rfl rfl rfl ?_
          refine s_pick_t rfl rfl rfl ?_
          refine WL_nil ?_
          refine n_then ?_
          refine W_cond_t rfl ?_
          refine W_seq ?_
          refine W_region ?_
          refine s_assign rfl rfl ?_
          refine WL_nil ?_
          refine n_then ?_
          refine W_ret ?_
          refine r_then ?_
          refine end1 rfl rfl ?_
          first
            | (have hE : sendC gs.length rs.length m.f m.t m.n = 1 := by rw [sendC, if_pos (by omega)]
               rw [hE]
               exact ⟨_, hs.tail, rfl, _, Lg, _, Ll, rfl, hG, hO⟩)
            | (have hE : sendC gs.length rs.length m.f m.t m.n = 4 := by rw [sendC, if_neg (by omega), if_pos (by omega)]
               rw [hE]
               exact ⟨_, hs.tail, rfl, _, Lg, _, Ll, rfl, hG, hO⟩)
            | (have hE : sendC gs.length rs.length m.f m.t m.n = 0 := by rw [sendC, if_neg (by omega), if_neg (by omega)]
               rw [hE]
               refine ⟨_, St.reord [[_], [_], [_], Ll', Lg] [2, 4, 3] [0, 1] hs rfl, rfl, _, Lg, _, Ll', rfl, hG, ?_⟩
               rw [if_pos rfl, List.length_append, rcells_append]
               simpa [rcells] using hO')
        · skip
          simp only [decide_eq_true_eq, decide_eq_false_iff_not] at hg31
          refine WL_take rfl ?_
          refine s_fieldAddr rfl rfl (FA32_2 _ _) ?_
          refine WL_take rfl ?_
          first
            | refine s_load Try.isAgg30 rfl rfl (hs.cell (k := 0) rfl rfl) ?_
            | refine s_load Try.isAgg30 rfl rfl (hs.cell (k := 1) rfl rfl) ?_
            | refine s_load Try.isAgg30 rfl rfl (hs.cell (k := 2) rfl rfl) ?_
            | refine s_load Try.isAgg30 rfl rfl (hs.cell (k := 3) rfl rfl) ?_
            | refine s_load Try.isAgg30 rfl rfl (hs.cell (k := 4) rfl rfl) ?_
            | refine s_load Try.isAgg30 rfl rfl (hs.cell (k := 5) rfl rfl) ?_
            | refine s_load Try.isAgg30 rfl rfl (hs.cell (k := 6) rfl rfl) ?_
            | refine s_load Try.isAgg30 rfl rfl (hs.cell (k := 7) rfl rfl) ?_
            | refine s_load Try.isAgg30 rfl rfl (hs.cell (k := 8) rfl rfl) ?_
            | refine s_load Try.isAgg30 rfl rfl (hs.cell (k := 9) rfl rfl) ?_
          refine WL_take rfl ?_
          refine s_len rfl rfl (LN30 _ _ _ _) ?_
          refine WL_take rfl ?_
          refine s_gtr rfl rfl rfl ?_
          refine s_pick_f rfl rfl rfl ?_
          refine WL_nil ?_
          refine n_then ?_
          refine W_cond rfl (fun hc36 => ?_) (fun hc36 => ?_)
          · skip
            simp only [decide_eq_true_eq, decide_eq_false_iff_not] at hc36
            refine W_seq ?_
            refine W_region ?_
            refine s_assign rfl rfl ?_
            refine WL_nil ?_
            refine n_then ?_
            refine W_ret ?_
            refine r_then ?_
            refine end1 rfl rfl ?_
            first
              | (have hE : sendC gs.length rs.length m.f m.t m.n = 1 := by rw [sendC, if_pos (by omega)]
                 rw [hE]
                 exact ⟨_, hs.tail, rfl, _, Lg, _, Ll, rfl, hG, hO⟩)
              | (have hE : sendC gs.length rs.length m.f m.t m.n = 4 := by rw [sendC, if_neg (by omega), if_pos (by omega)]
                 rw [hE]
                 exact ⟨_, hs.tail, rfl, _, Lg, _, Ll, rfl, hG, hO⟩)
              | (have hE : sendC gs.length rs.length m.f m.t m.n = 0 := by rw [sendC, if_neg (by omega), if_neg (by omega)]
                 rw [hE]
                 refine ⟨_, St.reord [[_], [_], [_], Ll', Lg] [2, 4, 3] [0, 1] hs rfl, rfl, _, Lg, _, Ll', rfl, hG, ?_⟩
                 rw [if_pos rfl, List.length_append, rcells_append]
                 simpa [rcells] using hO')
          · skip
            simp only [decide_eq_true_eq, decide_eq_false_iff_not] at hc36
            refine W_skip ?_
            refine n_then ?_
            refine W_seq ?_
            refine W_seq ?_
            refine W_region ?_
            refine s_move rfl rfl ?_
            refine s_nilCheck rfl rfl ?_
            refine s_fieldAddr rfl rfl (FA45_1 _ _) ?_
            first
              | refine s_load Try.isAgg43 rfl rfl (hs.cell (k := 0) rfl rfl) ?_
              | refine s_load Try.isAgg43 rfl rfl (hs.cell (k := 1) rfl rfl) ?_
              | refine s_load Try.isAgg43 rfl rfl (hs.cell (k := 2) rfl rfl) ?_
              | refine s_load Try.isAgg43 rfl rfl (hs.cell (k := 3) rfl rfl) ?_
              | refine s_load Try.isAgg43 rfl rfl (hs.cell (k := 4) rfl rfl) ?_
              | refine s_load Try.isAgg43 rfl rfl (hs.cell (k := 5) rfl rfl) ?_
              | refine s_load Try.isAgg43 rfl rfl (hs.cell (k := 6) rfl rfl) ?_
              | refine s_load Try.isAgg43 rfl rfl (hs.cell (k := 7) rfl rfl) ?_
              | refine s_load Try.isAgg43 rfl rfl (hs.cell (k := 8) rfl rfl) ?_
              | refine s_load Try.isAgg43 rfl rfl (hs.cell (k := 9) rfl rfl) ?_
            refine s_len rfl rfl (LN43 _ _ _ _) ?_
            refine s_geq rfl rfl rfl ?_
            refine WL_nil ?_
            refine n_then ?_
            refine W_cond rfl (fun hc42 => ?_) (fun hc42 => ?_)
            · skip
              simp only [decide_eq_true_eq, decide_eq_false_iff_not] at hc42
              refine W_seq ?_
              refine W_region ?_
              refine s_assign rfl rfl ?_
              refine WL_nil ?_
              refine n_then ?_
              refine W_ret ?_
              refine r_then ?_
              refine end1 rfl rfl ?_
              first
                | (have hE : sendC gs.length rs.length m.f m.t m.n = 1 := by rw [sendC, if_pos (by omega)]
                   rw [hE]
                   exact ⟨_, hs.tail, rfl, _, Lg, _, Ll, rfl, hG, hO⟩)
                | (have hE : sendC gs.length rs.length m.f m.t m.n = 4 := by rw [sendC, if_neg (by omega), if_pos (by omega)]
                   rw [hE]
                   exact ⟨_, hs.tail, rfl, _, Lg, _, Ll, rfl, hG, hO⟩)
                | (have hE : sendC gs.length rs.length m.f m.t m.n = 0 := by rw [sendC, if_neg (by omega), if_neg (by omega)]
                   rw [hE]
                   refine ⟨_, St.reord [[_], [_], [_], Ll', Lg] [2, 4, 3] [0, 1] hs rfl, rfl, _, Lg, _, Ll', rfl, hG, ?_⟩
                   rw [if_pos rfl, List.length_append, rcells_append]
                   simpa [rcells] using hO')
            · skip
              simp only [decide_eq_true_eq, decide_eq_false_iff_not] at hc42
              refine W_skip ?_
              refine n_then ?_
              refine W_seq ?_
              refine W_draw [(0, true, []), (1, true, []), (2, true, []), (3, true, []), (4, true, []), (5, true, []), (6, false, [0, 1, 2, 3, 4]), (7, false, [0]), (8, true, []), (9, true, []), (10, false, [])] MX (by kernel_rfl) ?_
              intro w1 hw1 hw2 hw3 hw4; replace hs := hs.redrawn hw1 hw2 hw3 hw4; clear hw1 hw2 hw3 hw4
              obtain ⟨w, rfl⟩ : ∃ w : World, w = w1 := ⟨_, rfl⟩
              refine D_q rfl rfl ?_
              refine s_move rfl rfl ?_
              refine D_qn ?_
              refine D_q rfl rfl ?_
              refine s_move rfl rfl ?_
              refine D_qn ?_
              refine D_q rfl rfl ?_
              refine s_nilCheck rfl rfl ?_
              refine D_qn ?_
              refine D_q rfl rfl ?_
              refine s_fieldAddr rfl rfl (FA45_1 _ _) ?_
              refine D_qn ?_
              refine D_q rfl rfl ?_
              first
                | refine s_load Try.isAgg43 rfl rfl (hs.cell (k := 0) rfl rfl) ?_
                | refine s_load Try.isAgg43 rfl rfl (hs.cell (k := 1) rfl rfl) ?_
                | refine s_load Try.isAgg43 rfl rfl (hs.cell (k := 2) rfl rfl) ?_
                | refine s_load Try.isAgg43 rfl rfl (hs.cell (k := 3) rfl rfl) ?_
                | refine s_load Try.isAgg43 rfl rfl (hs.cell (k := 4) rfl rfl) ?_
                | refine s_load Try.isAgg43 rfl rfl (hs.cell (k := 5) rfl rfl) ?_
                | refine s_load Try.isAgg43 rfl rfl (hs.cell (k := 6) rfl rfl) ?_
                | refine s_load Try.isAgg43 rfl rfl (hs.cell (k := 7) rfl rfl) ?_
                | refine s_load Try.isAgg43 rfl rfl (hs.cell (k := 8) rfl rfl) ?_
                | refine s_load Try.isAgg43 rfl rfl (hs.cell (k := 9) rfl rfl) ?_
              refine D_qn ?_
              refine D_q rfl rfl ?_
              first
                | refine s_loadW Try.isAgg32 Try.sizeOf32 rfl rfl hs (kk := 0) rfl rfl ?_
                | refine s_loadW Try.isAgg32 Try.sizeOf32 rfl rfl hs (kk := 1) rfl rfl ?_
                | refine s_loadW Try.isAgg32 Try.sizeOf32 rfl rfl hs (kk := 2) rfl rfl ?_
                | refine s_loadW Try.isAgg32 Try.sizeOf32 rfl rfl hs (kk := 3) rfl rfl ?_
                | refine s_loadW Try.isAgg32 Try.sizeOf32 rfl rfl hs (kk := 4) rfl rfl ?_
                | refine s_loadW Try.isAgg32 Try.sizeOf32 rfl rfl hs (kk := 5) rfl rfl ?_
                | refine s_loadW Try.isAgg32 Try.sizeOf32 rfl rfl hs (kk := 6) rfl rfl ?_
                | refine s_loadW Try.isAgg32 Try.sizeOf32 rfl rfl hs (kk := 7) rfl rfl ?_
                | refine s_loadW Try.isAgg32 Try.sizeOf32 rfl rfl hs (kk := 8) rfl rfl ?_
                | refine s_loadW Try.isAgg32 Try.sizeOf32 rfl rfl hs (kk := 9) rfl rfl ?_
                | refine s_load_3 Try.isAgg32 Try.sizeOf32 rfl rfl (by first | exact hs.cell (k := 0) rfl rfl | exact hs.cell (k := 1) rfl rfl | exact hs.cell (k := 2) rfl rfl | exact hs.cell (k := 3) rfl rfl | exact hs.cell (k := 4) rfl rfl | exact hs.cell (k := 5) rfl rfl | exact hs.cell (k := 6) rfl rfl | exact hs.cell (k := 7) rfl rfl | exact hs.cell (k := 8) rfl rfl | exact hs.cell (k := 9) rfl rfl) (by first | exact hs.cell (k := 0) rfl rfl | exact hs.cell (k := 1) rfl rfl | exact hs.cell (k := 2) rfl rfl | exact hs.cell (k := 3) rfl rfl | exact hs.cell (k := 4) rfl rfl | exact hs.cell (k := 5) rfl rfl | exact hs.cell (k := 6) rfl rfl | exact hs.cell (k := 7) rfl rfl | exact hs.cell (k := 8) rfl rfl | exact hs.cell (k := 9) rfl rfl) (by first | exact hs.cell (k := 0) rfl rfl | exact hs.cell (k := 1) rfl rfl | exact hs.cell (k := 2) rfl rfl | exact hs.cell (k := 3) rfl rfl | exact hs.cell (k := 4) rfl rfl | exact hs.cell (k := 5) rfl rfl | exact hs.cell (k := 6) rfl rfl | exact hs.cell (k := 7) rfl rfl | exact hs.cell (k := 8) rfl rfl | exact hs.cell (k := 9) rfl rfl) ?_
              refine D_qn ?_
              refine D_e rfl ?_
              refine s_buildSlice rfl rfl (BS43_1 _ _ _) hs ?_; clear hs; intro b49 w hs
              refine D_en ?re ?_
              case re =>
                refine Reks_cons rfl rfl rfl rfl ?_ ?_
                · skip
                  refine s_move rfl rfl ?_
                  exact Rek_end rfl
                refine Reks_cons rfl rfl rfl rfl ?_ ?_
                · skip
                  refine s_move rfl rfl ?_
                  exact Rek_end rfl
                refine Reks_cons rfl rfl rfl rfl ?_ ?_
                · skip
                  refine s_nilCheck rfl rfl ?_
                  exact Rek_end rfl
                refine Reks_cons rfl rfl rfl rfl ?_ ?_
                · skip
                  refine s_fieldAddr rfl rfl (FA45_1 _ _) ?_
                  exact Rek_end rfl
                refine Reks_cons rfl rfl rfl rfl ?_ ?_
                · skip
                  first
                    | refine s_load Try.isAgg43 rfl rfl (hs.cell (k := 0) rfl rfl) ?_
                    | refine s_load Try.isAgg43 rfl rfl (hs.cell (k := 1) rfl rfl) ?_
                    | refine s_load Try.isAgg43 rfl rfl (hs.cell (k := 2) rfl rfl) ?_
                    | refine s_load Try.isAgg43 rfl rfl (hs.cell (k := 3) rfl rfl) ?_
                    | refine s_load Try.isAgg43 rfl rfl (hs.cell (k := 4) rfl rfl) ?_
                    | refine s_load Try.isAgg43 rfl rfl (hs.cell (k := 5) rfl rfl) ?_
                    | refine s_load Try.isAgg43 rfl rfl (hs.cell (k := 6) rfl rfl) ?_
                    | refine s_load Try.isAgg43 rfl rfl (hs.cell (k := 7) rfl rfl) ?_
                    | refine s_load Try.isAgg43 rfl rfl (hs.cell (k := 8) rfl rfl) ?_
                    | refine s_load Try.isAgg43 rfl rfl (hs.cell (k := 9) rfl rfl) ?_
                  exact Rek_end rfl
                exact Reks_nil
              refine D_e rfl ?_
              replace hs : St (ids L0) w0 w (_ :: _ :: _ :: (Ll ++ Lg)) := St.reord [[_], [_], [_], Lg, Ll] [0, 1, 2, 4, 3] [] hs rfl
              refine s_appendM (M := [_, _, _]) (X := Lg) El43 rfl rfl rfl hO hs (hs.sl (k := 0) (ds := m.cells) rfl (Nat.le_refl _) (by intro j u hj; rw [Nat.zero_add]; exact hj)) rfl (rcells_one [m]) (by omega) ?_
              clear hs; intro lv' w Ll' hO' hs
              simp only [List.cons_append, List.nil_append] at hs
              obtain ⟨tl', tc', ta', rfl, rfl⟩ := hO'.form
              refine D_en ?re ?_
              case re =>
                refine Reks_cons rfl rfl rfl rfl ?_ ?_
                · skip
                  refine s_move rfl rfl ?_
                  exact Rek_end rfl
                exact Reks_nil
              refine D_q rfl rfl ?_
              refine s_nilCheck rfl rfl ?_
              refine D_qn ?_
              refine D_q rfl rfl ?_
              refine s_fieldAddr rfl rfl (FA45_1 _ _) ?_
              refine D_qn ?_
              refine D_e rfl ?_
              first
                | refine s_storeB Try.sizeOf43 rfl rfl rfl hs (kk := 0) rfl rfl ?_
                | refine s_storeB Try.sizeOf43 rfl rfl rfl hs (kk := 1) rfl rfl ?_
                | refine s_storeB Try.sizeOf43 rfl rfl rfl hs (kk := 2) rfl rfl ?_
                | refine s_storeB Try.sizeOf43 rfl rfl rfl hs (kk := 3) rfl rfl ?_
                | refine s_storeB Try.sizeOf43 rfl rfl rfl hs (kk := 4) rfl rfl ?_
                | refine s_storeB Try.sizeOf43 rfl rfl rfl hs (kk := 5) rfl rfl ?_
                | refine s_storeB Try.sizeOf43 rfl rfl rfl hs (kk := 6) rfl rfl ?_
                | refine s_storeB Try.sizeOf43 rfl rfl rfl hs (kk := 7) rfl rfl ?_
                | refine s_storeB Try.sizeOf43 rfl rfl rfl hs (kk := 8) rfl rfl ?_
                | refine s_storeB Try.sizeOf43 rfl rfl rfl hs (kk := 9) rfl rfl ?_
              clear hs; intro w hs; try simp only [List.set_cons_zero, List.set_cons_succ, splice, List.take_succ_cons, List.take_zero, List.drop_succ_cons, List.drop_zero, List.nil_append, List.cons_append, List.length_cons, List.length_nil, Nat.reduceAdd, List.append_assoc] at hs
              refine D_en ?re ?_
              case re =>
                exact Reks_nil
              refine D_nil ?_
              refine n_then ?_
              refine W_seq ?_
              refine W_region ?_
              refine s_assign rfl rfl ?_
              refine WL_nil ?_
              refine n_then ?_
              refine W_ret ?_
              refine end1 rfl rfl ?_
              first
                | (have hE : sendC gs.length rs.length m.f m.t m.n = 1 := by rw [sendC, if_pos (by omega)]
                   rw [hE]
                   exact ⟨_, hs.tail, rfl, _, Lg, _, Ll, rfl, hG, hO⟩)
                | (have hE : sendC gs.length rs.length m.f m.t m.n = 4 := by rw [sendC, if_neg (by omega), if_pos (by omega)]
                   rw [hE]
                   exact ⟨_, hs.tail, rfl, _, Lg, _, Ll, rfl, hG, hO⟩)
                | (have hE : sendC gs.length rs.length m.f m.t m.n = 0 := by rw [sendC, if_neg (by omega), if_neg (by omega)]
                   rw [hE]
                   refine ⟨_, St.reord [[_], [_], [_], Ll', Lg] [2, 4, 3] [0, 1] hs rfl, rfl, _, Lg, _, Ll', rfl, hG, ?_⟩
                   rw [if_pos rfl, List.length_append, rcells_append]
                   simpa [rcells] using hO')
theorem remove_ok (p : Nat) (gs : List Int) (rs : List RMsg) (i : Int) (L0 : Hp) (w0 : World) (hN : RefAt p gs rs L0) (hs : St (ids L0) w0 w0 L0) (hi : 0 ≤ i ∧ i < rs.length) (hm : rs.length ≤ 1000) :
    Ret Try.prog 33 [.pointer (some ⟨p, 0, none⟩), .int .i64 i].toArray w0 fun r w' => ∃ L', St (ids L0) w0 w' L' ∧ RefAt p gs (rs.eraseIdx i.toNat) L' := by
  obtain ⟨k, rfl⟩ : ∃ k : Nat, i = k := ⟨i.toNat, by omega⟩
  obtain ⟨gv, Lg, lv, Ll, hL, hG, hO⟩ := hN
  obtain ⟨gl, gc, ga, rfl, rfl⟩ := hG.form
  obtain ⟨tl, tc, ta, rfl, rfl⟩ := hO.form
  replace hs : St (ids L0) w0 w0 ((p, Blk 45 [.slice ga gs.length gc, .slice ta rs.length tc]) :: (Lg ++ Ll)) := by rw [hL] at hs ⊢; exact hs
  refine Ret_startL hs fun w hs => ?_
  obtain ⟨g, cap, sp, hv, hcap, hLl⟩ := hO.block (by omega)
  cases hv
  subst hLl
  refine Ret_of Try.func33 rfl Try.ntmps33 rfl ?_
  refine W_seq ?_
  refine W_region ?_
  refine s_assign rfl rfl ?_
  refine WL_nil ?_
  refine n_then ?_
  refine W_seq ?_
  refine W_region ?_
  refine s_move rfl rfl ?_
  refine s_move rfl rfl ?_
  refine s_nilCheck rfl rfl ?_
  refine s_fieldAddr rfl rfl (FA45_1 _ _) ?_
  first
    | refine s_load Try.isAgg43 rfl rfl (hs.cell (k := 0) rfl rfl) ?_
    | refine s_load Try.isAgg43 rfl rfl (hs.cell (k := 1) rfl rfl) ?_
    | refine s_load Try.isAgg43 rfl rfl (hs.cell (k := 2) rfl rfl) ?_
    | refine s_load Try.isAgg43 rfl rfl (hs.cell (k := 3) rfl rfl) ?_
    | refine s_load Try.isAgg43 rfl rfl (hs.cell (k := 4) rfl rfl) ?_
    | refine s_load Try.isAgg43 rfl rfl (hs.cell (k := 5) rfl rfl) ?_
    | refine s_load Try.isAgg43 rfl rfl (hs.cell (k := 6) rfl rfl) ?_
    | refine s_load Try.isAgg43 rfl rfl (hs.cell (k := 7) rfl rfl) ?_
    | refine s_load Try.isAgg43 rfl rfl (hs.cell (k := 8) rfl rfl) ?_
    | refine s_load Try.isAgg43 rfl rfl (hs.cell (k := 9) rfl rfl) ?_
  refine s_move rfl rfl ?_
  (refine s_slice_hi El43 rfl rfl rfl ?hx ?_; case hx => (constructor <;> omega))
  have hsl := (hO.slM (M := [_] ++ Lg) (X := []) (by simpa using hs)).take (size := 3) (k := (k : Int).toNat) (by omega) rfl
  refine s_append El43 rfl rfl rfl (OwnS.nil _ _) hs hsl (by simp [rcells_length]; omega) (fun c hc => rcells_one rs c (List.mem_of_mem_take hc)) (by omega) ?_
  clear hs hsl; intro ov w Lo hO1 hs
  simp only [Nat.zero_add, List.nil_append] at hO1
  replace hs : St (ids L0) w0 w (_ :: (Lo ++ (Lg ++ [_]))) := St.reord [Lo, [_], Lg, [_]] [1, 0, 2, 3] [] hs rfl
  refine s_assign rfl rfl ?_
  refine WL_nil ?_
  refine n_then ?_
  refine W_region ?_
  refine s_move rfl rfl ?_
  refine s_move rfl rfl ?_
  refine s_move rfl rfl ?_
  refine s_nilCheck rfl rfl ?_
  refine s_fieldAddr rfl rfl (FA45_1 _ _) ?_
  first
    | refine s_load Try.isAgg43 rfl rfl (hs.cell (k := 0) rfl rfl) ?_
    | refine s_load Try.isAgg43 rfl rfl (hs.cell (k := 1) rfl rfl) ?_
    | refine s_load Try.isAgg43 rfl rfl (hs.cell (k := 2) rfl rfl) ?_
    | refine s_load Try.isAgg43 rfl rfl (hs.cell (k := 3) rfl rfl) ?_
    | refine s_load Try.isAgg43 rfl rfl (hs.cell (k := 4) rfl rfl) ?_
    | refine s_load Try.isAgg43 rfl rfl (hs.cell (k := 5) rfl rfl) ?_
    | refine s_load Try.isAgg43 rfl rfl (hs.cell (k := 6) rfl rfl) ?_
    | refine s_load Try.isAgg43 rfl rfl (hs.cell (k := 7) rfl rfl) ?_
    | refine s_load Try.isAgg43 rfl rfl (hs.cell (k := 8) rfl rfl) ?_
    | refine s_load Try.isAgg43 rfl rfl (hs.cell (k := 9) rfl rfl) ?_
  refine s_move rfl rfl ?_
  first | (refine s_add' rfl rfl rfl ?hx ?_; case hx => (constructor <;> omega)) | refine s_add rfl rfl rfl ?_
  (refine s_slice_lo El43 rfl rfl rfl ?hx ?_; case hx => (constructor <;> omega))
  have hs4 : St (ids L0) w0 w [_] := St.reord [[_], Lo, Lg, [_]] [3] [0, 1, 2] hs rfl
  have hsl := (hO.sl (M := []) hs4).drop (k := ((k : Int) + 1).toNat) (size := 3) (rcells_length rs) (by omega)
  refine s_appendM (M := [_]) (X := Lg ++ [_]) El43 rfl rfl rfl hO1 hs hsl (by simp [rcells_length]; omega) (fun c hc => rcells_one rs c (List.mem_of_mem_drop hc)) (by omega) ?_
  clear hs hsl hs4; intro lv' w Ll' hO' hs
  simp only [List.cons_append, List.nil_append] at hs
  obtain ⟨tl', tc', ta', rfl, rfl⟩ := hO'.form
  refine s_nilCheck rfl rfl ?_
  refine s_fieldAddr rfl rfl (FA45_1 _ _) ?_
  first
    | refine s_storeB Try.sizeOf43 rfl rfl rfl hs (kk := 0) rfl rfl ?_
    | refine s_storeB Try.sizeOf43 rfl rfl rfl hs (kk := 1) rfl rfl ?_
    | refine s_storeB Try.sizeOf43 rfl rfl rfl hs (kk := 2) rfl rfl ?_
    | refine s_storeB Try.sizeOf43 rfl rfl rfl hs (kk := 3) rfl rfl ?_
    | refine s_storeB Try.sizeOf43 rfl rfl rfl hs (kk := 4) rfl rfl ?_
    | refine s_storeB Try.sizeOf43 rfl rfl rfl hs (kk := 5) rfl rfl ?_
    | refine s_storeB Try.sizeOf43 rfl rfl rfl hs (kk := 6) rfl rfl ?_
    | refine s_storeB Try.sizeOf43 rfl rfl rfl hs (kk := 7) rfl rfl ?_
    | refine s_storeB Try.sizeOf43 rfl rfl rfl hs (kk := 8) rfl rfl ?_
    | refine s_storeB Try.sizeOf43 rfl rfl rfl hs (kk := 9) rfl rfl ?_
  clear hs; intro w hs; try simp only [List.set_cons_zero, List.set_cons_succ, splice, List.take_succ_cons, List.take_zero, List.drop_succ_cons, List.drop_zero, List.nil_append, List.cons_append, List.length_cons, List.length_nil, Nat.reduceAdd, List.append_assoc] at hs
  refine WL_nil ?_
  refine end0' rfl ⟨_, St.reord [[_], Ll', Lg, [_]] [0, 2, 1] [3] hs rfl, _, Lg, _, Ll', rfl, hG, ?_⟩
  have hl : (rs.eraseIdx k).length = rs.length - 1 := by rw [List.length_eraseIdx, if_pos (by omega)]
  have e1 : (k : Int).toNat = k := by omega
  have e2 : ((k : Int) + 1).toNat = k + 1 := by omega
  rw [e1, rcells_erase, hl]
  rw [e2]
  rw [e1, e2] at hO'
  rw [show k + (rs.length - (k + 1)) = rs.length - 1 by omega] at hO' ⊢
  exact hO'
theorem rtake_no (p : Nat) (gs : List Int) (rs : List RMsg) (i : Int) (L0 : Hp) (w0 : World) (hN : RefAt p gs rs L0) (hs : St (ids L0) w0 w0 L0) (hin : ¬ (0 ≤ i ∧ i < rs.length)) :
    Ret Try.prog 15 [.pointer (some ⟨p, 0, none⟩), .int .i64 i].toArray w0 fun r w' => ∃ L', St (ids L0) w0 w' L' ∧ r = .tuple #[.agg #[.int .i64 0, .int .i64 0, .slice none 0 0], .int .i64 9] ∧ RefAt p gs rs L' := by
  obtain ⟨gv, Lg, lv, Ll, hL, hG, hO⟩ := hN
  obtain ⟨gl, gc, ga, rfl, rfl⟩ := hG.form
  obtain ⟨tl, tc, ta, rfl, rfl⟩ := hO.form
  replace hs : St (ids L0) w0 w0 ((p, Blk 45 [.slice ga gs.length gc, .slice ta rs.length tc]) :: (Lg ++ Ll)) := by rw [hL] at hs ⊢; exact hs
  refine Ret_startL hs fun w hs => ?_
  refine Ret_of Try.func15 rfl Try.ntmps15 rfl ?_
  refine W_seq ?_
  refine W_region ?_
  refine s_alloc rfl AL32 hs ?_; clear hs; intro b4 w hs
  refine s_assign rfl rfl ?_
  refine WL_nil ?_
  refine n_then ?_
  refine W_seq ?_
  refine W_seq ?_
  refine W_region ?_
  refine s_move rfl rfl ?_
  refine s_lss rfl rfl rfl ?_
  refine s_move rfl rfl ?_
  refine WL_case (s := 9) rfl (fun hg9 => ?_) (fun hg9 => ?_)
  · skip
    simp only [decide_eq_true_eq, decide_eq_false_iff_not] at hg9
    refine WL_skip rfl rfl rfl ?_
    refine WL_skip rfl rfl rfl ?_
    refine WL_skip rfl rfl rfl ?_
    refine WL_skip rfl rfl rfl ?_
    refine WL_skip rfl rfl rfl ?_
    refine WL_skip rfl rfl rfl ?_
    refine WL_skip rfl rfl rfl ?_
    refine s_pick_t rfl rfl rfl ?_
    refine WL_nil ?_
    refine n_then ?_
    refine W_cond_t rfl ?_
    refine W_seq ?_
    refine W_region ?_
    refine s_build rfl rfl (BD32_ ) ?_
    first
      | refine s_storeW Try.sizeOf32 rfl rfl rfl rfl hs (kk := 0) rfl rfl ?_
      | refine s_storeW Try.sizeOf32 rfl rfl rfl rfl hs (kk := 1) rfl rfl ?_
      | refine s_storeW Try.sizeOf32 rfl rfl rfl rfl hs (kk := 2) rfl rfl ?_
      | refine s_storeW Try.sizeOf32 rfl rfl rfl rfl hs (kk := 3) rfl rfl ?_
      | refine s_storeW Try.sizeOf32 rfl rfl rfl rfl hs (kk := 4) rfl rfl ?_
      | refine s_storeW Try.sizeOf32 rfl rfl rfl rfl hs (kk := 5) rfl rfl ?_
      | refine s_storeW Try.sizeOf32 rfl rfl rfl rfl hs (kk := 6) rfl rfl ?_
      | refine s_storeW Try.sizeOf32 rfl rfl rfl rfl hs (kk := 7) rfl rfl ?_
      | refine s_storeW Try.sizeOf32 rfl rfl rfl rfl hs (kk := 8) rfl rfl ?_
      | refine s_storeW Try.sizeOf32 rfl rfl rfl rfl hs (kk := 9) rfl rfl ?_
      | refine s_storeAB Try.sizeOf32 rfl rfl rfl rfl hs (kk := 0) rfl rfl ?_
      | refine s_storeAB Try.sizeOf32 rfl rfl rfl rfl hs (kk := 1) rfl rfl ?_
      | refine s_storeAB Try.sizeOf32 rfl rfl rfl rfl hs (kk := 2) rfl rfl ?_
      | refine s_storeAB Try.sizeOf32 rfl rfl rfl rfl hs (kk := 3) rfl rfl ?_
      | refine s_storeAB Try.sizeOf32 rfl rfl rfl rfl hs (kk := 4) rfl rfl ?_
      | refine s_storeAB Try.sizeOf32 rfl rfl rfl rfl hs (kk := 5) rfl rfl ?_
      | refine s_storeAB Try.sizeOf32 rfl rfl rfl rfl hs (kk := 6) rfl rfl ?_
      | refine s_storeAB Try.sizeOf32 rfl rfl rfl rfl hs (kk := 7) rfl rfl ?_
      | refine s_storeAB Try.sizeOf32 rfl rfl rfl rfl hs (kk := 8) rfl rfl ?_
      | refine s_storeAB Try.sizeOf32 rfl rfl rfl rfl hs (kk := 9) rfl rfl ?_
    clear hs; intro w hs; try simp only [List.set_cons_zero, List.set_cons_succ, splice, List.take_succ_cons, List.take_zero, List.drop_succ_cons, List.drop_zero, List.nil_append, List.cons_append, List.length_cons, List.length_nil, Nat.reduceAdd, List.append_assoc] at hs
    refine s_assign rfl rfl ?_
    refine WL_nil ?_
    refine n_then ?_
    refine W_ret ?_
    refine r_then ?_
    refine end2 rfl (resOk_block Try.isAgg32 Try.sizeOf32 hs rfl (kk := 0) rfl rfl) rfl ?_
    exact ⟨_, hs.tail, rfl, _, Lg, _, Ll, rfl, hG, hO⟩
  · skip
    simp only [decide_eq_true_eq, decide_eq_false_iff_not] at hg9
    refine WL_take rfl ?_
    refine s_move rfl rfl ?_
    refine WL_take rfl ?_
    refine s_move rfl rfl ?_
    refine WL_take rfl ?_
    refine s_nilCheck rfl rfl ?_
    refine WL_take rfl ?_
    refine s_fieldAddr rfl rfl (FA45_1 _ _) ?_
    refine WL_take rfl ?_
    first
      | refine s_load Try.isAgg43 rfl rfl (hs.cell (k := 0) rfl rfl) ?_
      | refine s_load Try.isAgg43 rfl rfl (hs.cell (k := 1) rfl rfl) ?_
      | refine s_load Try.isAgg43 rfl rfl (hs.cell (k := 2) rfl rfl) ?_
      | refine s_load Try.isAgg43 rfl rfl (hs.cell (k := 3) rfl rfl) ?_
      | refine s_load Try.isAgg43 rfl rfl (hs.cell (k := 4) rfl rfl) ?_
      | refine s_load Try.isAgg43 rfl rfl (hs.cell (k := 5) rfl rfl) ?_
      | refine s_load Try.isAgg43 rfl rfl (hs.cell (k := 6) rfl rfl) ?_
      | refine s_load Try.isAgg43 rfl rfl (hs.cell (k := 7) rfl rfl) ?_
      | refine s_load Try.isAgg43 rfl rfl (hs.cell (k := 8) rfl rfl) ?_
      | refine s_load Try.isAgg43 rfl rfl (hs.cell (k := 9) rfl rfl) ?_
    refine WL_take rfl ?_
    refine s_len rfl rfl (LN43 _ _ _ _) ?_
    refine WL_take rfl ?_
    refine s_geq rfl rfl rfl ?_
    refine s_pick_f rfl rfl rfl ?_
    refine WL_nil ?_
    refine n_then ?_
    refine W_cond_kt rfl ((by simp; omega)) ?_
    refine W_seq ?_
    refine W_region ?_
    refine s_build rfl rfl (BD32_ ) ?_
    first
      | refine s_storeW Try.sizeOf32 rfl rfl rfl rfl hs (kk := 0) rfl rfl ?_
      | refine s_storeW Try.sizeOf32 rfl rfl rfl rfl hs (kk := 1) rfl rfl ?_
      | refine s_storeW Try.sizeOf32 rfl rfl rfl rfl hs (kk := 2) rfl rfl ?_
      | refine s_storeW Try.sizeOf32 rfl rfl rfl rfl hs (kk := 3) rfl rfl ?_
      | refine s_storeW Try.sizeOf32 rfl rfl rfl rfl hs (kk := 4) rfl rfl ?_
      | refine s_storeW Try.sizeOf32 rfl rfl rfl rfl hs (kk := 5) rfl rfl ?_
      | refine s_storeW Try.sizeOf32 rfl rfl rfl rfl hs (kk := 6) rfl rfl ?_
      | refine s_storeW Try.sizeOf32 rfl rfl rfl rfl hs (kk := 7) rfl rfl ?_
      | refine s_storeW Try.sizeOf32 rfl rfl rfl rfl hs (kk := 8) rfl rfl ?_
      | refine s_storeW Try.sizeOf32 rfl rfl rfl rfl hs (kk := 9) rfl rfl ?_
      | refine s_storeAB Try.sizeOf32 rfl rfl rfl rfl hs (kk := 0) rfl rfl ?_
      | refine s_storeAB Try.sizeOf32 rfl rfl rfl rfl hs (kk := 1) rfl rfl ?_
      | refine s_storeAB Try.sizeOf32 rfl rfl rfl rfl hs (kk := 2) rfl rfl ?_
      | refine s_storeAB Try.sizeOf32 rfl rfl rfl rfl hs (kk := 3) rfl rfl ?_
      | refine s_storeAB Try.sizeOf32 rfl rfl rfl rfl hs (kk := 4) rfl rfl ?_
      | refine s_storeAB Try.sizeOf32 rfl rfl rfl rfl hs (kk := 5) rfl rfl ?_
      | refine s_storeAB Try.sizeOf32 rfl rfl rfl rfl hs (kk := 6) rfl rfl ?_
      | refine s_storeAB Try.sizeOf32 rfl rfl rfl rfl hs (kk := 7) rfl rfl ?_
      | refine s_storeAB Try.sizeOf32 rfl rfl rfl rfl hs (kk := 8) rfl rfl ?_
      | refine s_storeAB Try.sizeOf32 rfl rfl rfl rfl hs (kk := 9) rfl rfl ?_
    clear hs; intro w hs; try simp only [List.set_cons_zero, List.set_cons_succ, splice, List.take_succ_cons, List.take_zero, List.drop_succ_cons, List.drop_zero, List.nil_append, List.cons_append, List.length_cons, List.length_nil, Nat.reduceAdd, List.append_assoc] at hs
    refine s_assign rfl rfl ?_
    refine WL_nil ?_
    refine n_then ?_
    refine W_ret ?_
    refine r_then ?_
    refine end2 rfl (resOk_block Try.isAgg32 Try.sizeOf32 hs rfl (kk := 0) rfl rfl) rfl ?_
    exact ⟨_, hs.tail, rfl, _, Lg, _, Ll, rfl, hG, hO⟩
theorem rtake_yes (p : Nat) (gs : List Int) (rs : List RMsg) (i : Int) (m : RMsg) (L0 : Hp) (w0 : World) (hN : RefAt p gs rs L0) (hs : St (ids L0) w0 w0 L0) (hin : 0 ≤ i ∧ i < rs.length) (hm : rs[i.toNat]? = some m) (hml : rs.length ≤ 1000) (hmv : 0 ≤ m.f ∧ m.f < gs.length ∧ 0 ≤ m.t ∧ m.t < gs.length) :
    Ret Try.prog 15 [.pointer (some ⟨p, 0, none⟩), .int .i64 i].toArray w0 fun r w' => ∃ L', St (ids L0) w0 w' L' ∧
      ((grp gs m.f ≠ grp gs m.t ∧ r = .tuple #[.agg #[.int .i64 0, .int .i64 0, .slice none 0 0], .int .i64 20] ∧ RefAt p gs rs L') ∨
       (grp gs m.f = grp gs m.t ∧ r = .tuple #[.agg m.cells.toArray, .int .i64 0] ∧ RefAt p gs (rs.eraseIdx i.toNat) L')) := by
  obtain ⟨gv, Lg, lv, Ll, hL, hG, hO⟩ := hN
  obtain ⟨gl, gc, ga, rfl, rfl⟩ := hG.form
  obtain ⟨tl, tc, ta, rfl, rfl⟩ := hO.form
  replace hs : St (ids L0) w0 w0 ((p, Blk 45 [.slice ga gs.length gc, .slice ta rs.length tc]) :: (Lg ++ Ll)) := by rw [hL] at hs ⊢; exact hs
  refine Ret_startL hs fun w hs => ?_
  obtain ⟨g, cap, sp, hv, hcap, hLl⟩ := hO.block (by omega)
  cases hv
  subst hLl
  obtain ⟨gg, gcap, gsp, hgv, hgcap, hLg⟩ := hG.block (by omega)
  cases hgv
  subst hLg
  have c0 : (rcells rs ++ sp)[0 + i.toNat * 3 + 0]? = some (.int .i64 m.f) := by rw [Nat.zero_add, List.getElem?_append_left (by rw [rcells_length]; omega)]; exact rcells_at (by omega) hm
  have c1 : (rcells rs ++ sp)[0 + i.toNat * 3 + 1]? = some (.int .i64 m.t) := by rw [Nat.zero_add, List.getElem?_append_left (by rw [rcells_length]; omega)]; exact rcells_at (by omega) hm
  have c2 : (rcells rs ++ sp)[0 + i.toNat * 3 + 2]? = some (.slice m.a m.n m.c) := by rw [Nat.zero_add, List.getElem?_append_left (by rw [rcells_length]; omega)]; exact rcells_at (by omega) hm
  simp only [List.cons_append, List.nil_append] at hs
  refine Ret_of Try.func15 rfl Try.ntmps15 rfl ?_
  refine W_seq ?_
  refine W_region ?_
  refine s_alloc rfl AL32 hs ?_; clear hs; intro b4 w hs
  refine s_assign rfl rfl ?_
  refine WL_nil ?_
  refine n_then ?_
  refine W_seq ?_
  refine W_seq ?_
  refine W_region ?_
  refine s_move rfl rfl ?_
  refine s_lss rfl rfl rfl ?_
  refine s_move rfl rfl ?_
  refine WL_know (s := 9) (c := false) rfl ((by simp; omega)) ?_
  refine WL_take rfl ?_
  refine s_move rfl rfl ?_
  refine WL_take rfl ?_
  refine s_move rfl rfl ?_
  refine WL_take rfl ?_
  refine s_nilCheck rfl rfl ?_
  refine WL_take rfl ?_
  refine s_fieldAddr rfl rfl (FA45_1 _ _) ?_
  refine WL_take rfl ?_
  first
    | refine s_load Try.isAgg43 rfl rfl (hs.cell (k := 0) rfl rfl) ?_
    | refine s_load Try.isAgg43 rfl rfl (hs.cell (k := 1) rfl rfl) ?_
    | refine s_load Try.isAgg43 rfl rfl (hs.cell (k := 2) rfl rfl) ?_
    | refine s_load Try.isAgg43 rfl rfl (hs.cell (k := 3) rfl rfl) ?_
    | refine s_load Try.isAgg43 rfl rfl (hs.cell (k := 4) rfl rfl) ?_
    | refine s_load Try.isAgg43 rfl rfl (hs.cell (k := 5) rfl rfl) ?_
    | refine s_load Try.isAgg43 rfl rfl (hs.cell (k := 6) rfl rfl) ?_
    | refine s_load Try.isAgg43 rfl rfl (hs.cell (k := 7) rfl rfl) ?_
    | refine s_load Try.isAgg43 rfl rfl (hs.cell (k := 8) rfl rfl) ?_
    | refine s_load Try.isAgg43 rfl rfl (hs.cell (k := 9) rfl rfl) ?_
    | refine s_load Try.isAgg43 rfl rfl (hs.cell (k := 3) (e := 3) (fz := (0, 0)) rfl (gs_in (sp := gsp) ⟨hmv.1, hmv.2.1⟩ rfl)) ?_
    | refine s_load Try.isAgg43 rfl rfl (hs.cell (k := 3) (e := 3) (fz := (0, 0)) rfl (gs_in (sp := gsp) ⟨hmv.2.2.1, hmv.2.2.2⟩ rfl)) ?_
  refine WL_take rfl ?_
  refine s_len rfl rfl (LN43 _ _ _ _) ?_
  refine WL_take rfl ?_
  refine s_geq rfl rfl rfl ?_
  refine s_pick_f rfl rfl rfl ?_
  refine WL_nil ?_
  refine n_then ?_
  refine W_cond_kf rfl ((by simp; omega)) ?_
  refine W_skip ?_
  refine n_then ?_
  refine W_seq ?_
  refine W_region ?_
  refine s_move rfl rfl ?_
  refine s_nilCheck rfl rfl ?_
  refine s_fieldAddr rfl rfl (FA45_1 _ _) ?_
  first
    | refine s_load Try.isAgg43 rfl rfl (hs.cell (k := 0) rfl rfl) ?_
    | refine s_load Try.isAgg43 rfl rfl (hs.cell (k := 1) rfl rfl) ?_
    | refine s_load Try.isAgg43 rfl rfl (hs.cell (k := 2) rfl rfl) ?_
    | refine s_load Try.isAgg43 rfl rfl (hs.cell (k := 3) rfl rfl) ?_
    | refine s_load Try.isAgg43 rfl rfl (hs.cell (k := 4) rfl rfl) ?_
    | refine s_load Try.isAgg43 rfl rfl (hs.cell (k := 5) rfl rfl) ?_
    | refine s_load Try.isAgg43 rfl rfl (hs.cell (k := 6) rfl rfl) ?_
    | refine s_load Try.isAgg43 rfl rfl (hs.cell (k := 7) rfl rfl) ?_
    | refine s_load Try.isAgg43 rfl rfl (hs.cell (k := 8) rfl rfl) ?_
    | refine s_load Try.isAgg43 rfl rfl (hs.cell (k := 9) rfl rfl) ?_
    | refine s_load Try.isAgg43 rfl rfl (hs.cell (k := 3) (e := 3) (fz := (0, 0)) rfl (gs_in (sp := gsp) ⟨hmv.1, hmv.2.1⟩ rfl)) ?_
    | refine s_load Try.isAgg43 rfl rfl (hs.cell (k := 3) (e := 3) (fz := (0, 0)) rfl (gs_in (sp := gsp) ⟨hmv.2.2.1, hmv.2.2.2⟩ rfl)) ?_
  refine s_move rfl rfl ?_
  (refine s_indexAddr El43 rfl rfl rfl ?hx ?_; case hx => (constructor <;> first | omega | (simp; omega)))
  refine s_load_3 Try.isAgg32 Try.sizeOf32 rfl rfl (hs.cell (k := 3) (fz := (0, 0)) rfl c0) (hs.cell (k := 3) (fz := (0, 0)) rfl c1) (hs.cell (k := 3) (fz := (0, 0)) rfl c2) ?_
  refine s_alloc rfl AL32 hs ?_; clear hs; intro b6 w hs
  first
    | refine s_storeW Try.sizeOf32 rfl rfl rfl rfl hs (kk := 0) rfl rfl ?_
    | refine s_storeW Try.sizeOf32 rfl rfl rfl rfl hs (kk := 1) rfl rfl ?_
    | refine s_storeW Try.sizeOf32 rfl rfl rfl rfl hs (kk := 2) rfl rfl ?_
    | refine s_storeW Try.sizeOf32 rfl rfl rfl rfl hs (kk := 3) rfl rfl ?_
    | refine s_storeW Try.sizeOf32 rfl rfl rfl rfl hs (kk := 4) rfl rfl ?_
    | refine s_storeW Try.sizeOf32 rfl rfl rfl rfl hs (kk := 5) rfl rfl ?_
    | refine s_storeW Try.sizeOf32 rfl rfl rfl rfl hs (kk := 6) rfl rfl ?_
    | refine s_storeW Try.sizeOf32 rfl rfl rfl rfl hs (kk := 7) rfl rfl ?_
    | refine s_storeW Try.sizeOf32 rfl rfl rfl rfl hs (kk := 8) rfl rfl ?_
    | refine s_storeW Try.sizeOf32 rfl rfl rfl rfl hs (kk := 9) rfl rfl ?_
    | refine s_storeAB Try.sizeOf32 rfl rfl rfl rfl hs (kk := 0) rfl rfl ?_
    | refine s_storeAB Try.sizeOf32 rfl rfl rfl rfl hs (kk := 1) rfl rfl ?_
    | refine s_storeAB Try.sizeOf32 rfl rfl rfl rfl hs (kk := 2) rfl rfl ?_
    | refine s_storeAB Try.sizeOf32 rfl rfl rfl rfl hs (kk := 3) rfl rfl ?_
    | refine s_storeAB Try.sizeOf32 rfl rfl rfl rfl hs (kk := 4) rfl rfl ?_
    | refine s_storeAB Try.sizeOf32 rfl rfl rfl rfl hs (kk := 5) rfl rfl ?_
    | refine s_storeAB Try.sizeOf32 rfl rfl rfl rfl hs (kk := 6) rfl rfl ?_
    | refine s_storeAB Try.sizeOf32 rfl rfl rfl rfl hs (kk := 7) rfl rfl ?_
    | refine s_storeAB Try.sizeOf32 rfl rfl rfl rfl hs (kk := 8) rfl rfl ?_
    | refine s_storeAB Try.sizeOf32 rfl rfl rfl rfl hs (kk := 9) rfl rfl ?_
  clear hs; intro w hs; try simp only [List.set_cons_zero, List.set_cons_succ, splice, List.take_succ_cons, List.take_zero, List.drop_succ_cons, List.drop_zero, List.nil_append, List.cons_append, List.length_cons, List.length_nil, Nat.reduceAdd, List.append_assoc] at hs
  refine WL_nil ?_
  refine n_then ?_
  refine W_seq ?_
  refine W_seq ?_
  refine W_draw [(0, true, []), (1, true, []), (2, true, []), (3, true, []), (4, true, []), (5, true, []), (6, true, []), (7, true, []), (8, true, []), (9, true, []), (10, true, []), (11, true, []), (12, true, []), (13, true, []), (14, true, []), (15, true, []), (16, true, [])] MX (by kernel_rfl) ?_
  intro w1 hw1 hw2 hw3 hw4; replace hs := hs.redrawn hw1 hw2 hw3 hw4; clear hw1 hw2 hw3 hw4
  obtain ⟨w, rfl⟩ : ∃ w : World, w = w1 := ⟨_, rfl⟩
  refine D_q rfl rfl ?_
  refine s_move rfl rfl ?_
  refine D_qn ?_
  refine D_q rfl rfl ?_
  refine s_nilCheck rfl rfl ?_
  refine D_qn ?_
  refine D_q rfl rfl ?_
  refine s_fieldAddr rfl rfl (FA45_0 _ _) ?_
  refine D_qn ?_
  refine D_q rfl rfl ?_
  first
    | refine s_load Try.isAgg22 rfl rfl (hs.cell (k := 0) rfl rfl) ?_
    | refine s_load Try.isAgg22 rfl rfl (hs.cell (k := 1) rfl rfl) ?_
    | refine s_load Try.isAgg22 rfl rfl (hs.cell (k := 2) rfl rfl) ?_
    | refine s_load Try.isAgg22 rfl rfl (hs.cell (k := 3) rfl rfl) ?_
    | refine s_load Try.isAgg22 rfl rfl (hs.cell (k := 4) rfl rfl) ?_
    | refine s_load Try.isAgg22 rfl rfl (hs.cell (k := 5) rfl rfl) ?_
    | refine s_load Try.isAgg22 rfl rfl (hs.cell (k := 6) rfl rfl) ?_
    | refine s_load Try.isAgg22 rfl rfl (hs.cell (k := 7) rfl rfl) ?_
    | refine s_load Try.isAgg22 rfl rfl (hs.cell (k := 8) rfl rfl) ?_
    | refine s_load Try.isAgg22 rfl rfl (hs.cell (k := 9) rfl rfl) ?_
    | refine s_load Try.isAgg22 rfl rfl (hs.cell (k := 3) (e := 3) (fz := (0, 0)) rfl (gs_in (sp := gsp) ⟨hmv.1, hmv.2.1⟩ rfl)) ?_
    | refine s_load Try.isAgg22 rfl rfl (hs.cell (k := 3) (e := 3) (fz := (0, 0)) rfl (gs_in (sp := gsp) ⟨hmv.2.2.1, hmv.2.2.2⟩ rfl)) ?_
  refine D_qn ?_
  refine D_q rfl rfl ?_
  refine s_fieldAddr rfl rfl (FA32_0 _ _) ?_
  refine D_qn ?_
  refine D_q rfl rfl ?_
  first
    | refine s_load Try.isAgg3 rfl rfl (hs.cell (k := 0) rfl rfl) ?_
    | refine s_load Try.isAgg3 rfl rfl (hs.cell (k := 1) rfl rfl) ?_
    | refine s_load Try.isAgg3 rfl rfl (hs.cell (k := 2) rfl rfl) ?_
    | refine s_load Try.isAgg3 rfl rfl (hs.cell (k := 3) rfl rfl) ?_
    | refine s_load Try.isAgg3 rfl rfl (hs.cell (k := 4) rfl rfl) ?_
    | refine s_load Try.isAgg3 rfl rfl (hs.cell (k := 5) rfl rfl) ?_
    | refine s_load Try.isAgg3 rfl rfl (hs.cell (k := 6) rfl rfl) ?_
    | refine s_load Try.isAgg3 rfl rfl (hs.cell (k := 7) rfl rfl) ?_
    | refine s_load Try.isAgg3 rfl rfl (hs.cell (k := 8) rfl rfl) ?_
    | refine s_load Try.isAgg3 rfl rfl (hs.cell (k := 9) rfl rfl) ?_
    | refine s_load Try.isAgg3 rfl rfl (hs.cell (k := 3) (e := 3) (fz := (0, 0)) rfl (gs_in (sp := gsp) ⟨hmv.1, hmv.2.1⟩ rfl)) ?_
    | refine s_load Try.isAgg3 rfl rfl (hs.cell (k := 3) (e := 3) (fz := (0, 0)) rfl (gs_in (sp := gsp) ⟨hmv.2.2.1, hmv.2.2.2⟩ rfl)) ?_
  refine D_qn ?_
  refine D_q rfl rfl ?_
  (refine s_indexAddr1 El22 rfl rfl rfl ?hx ?_; case hx => (constructor <;> first | omega | (simp; omega)))
  refine D_qn ?_
  refine D_q rfl rfl ?_
  first
    | refine s_load Try.isAgg3 rfl rfl (hs.cell (k := 0) rfl rfl) ?_
    | refine s_load Try.isAgg3 rfl rfl (hs.cell (k := 1) rfl rfl) ?_
    | refine s_load Try.isAgg3 rfl rfl (hs.cell (k := 2) rfl rfl) ?_
    | refine s_load Try.isAgg3 rfl rfl (hs.cell (k := 3) rfl rfl) ?_
    | refine s_load Try.isAgg3 rfl rfl (hs.cell (k := 4) rfl rfl) ?_
    | refine s_load Try.isAgg3 rfl rfl (hs.cell (k := 5) rfl rfl) ?_
    | refine s_load Try.isAgg3 rfl rfl (hs.cell (k := 6) rfl rfl) ?_
    | refine s_load Try.isAgg3 rfl rfl (hs.cell (k := 7) rfl rfl) ?_
    | refine s_load Try.isAgg3 rfl rfl (hs.cell (k := 8) rfl rfl) ?_
    | refine s_load Try.isAgg3 rfl rfl (hs.cell (k := 9) rfl rfl) ?_
    | refine s_load Try.isAgg3 rfl rfl (hs.cell (k := 3) (e := 3) (fz := (0, 0)) rfl (gs_in (sp := gsp) ⟨hmv.1, hmv.2.1⟩ rfl)) ?_
    | refine s_load Try.isAgg3 rfl rfl (hs.cell (k := 3) (e := 3) (fz := (0, 0)) rfl (gs_in (sp := gsp) ⟨hmv.2.2.1, hmv.2.2.2⟩ rfl)) ?_
  refine D_qn ?_
  refine D_q rfl rfl ?_
  refine s_move rfl rfl ?_
  refine D_qn ?_
  refine D_q rfl rfl ?_
  refine s_nilCheck rfl rfl ?_
  refine D_qn ?_
  refine D_q rfl rfl ?_
  refine s_fieldAddr rfl rfl (FA45_0 _ _) ?_
  refine D_qn ?_
  refine D_q rfl rfl ?_
  first
    | refine s_load Try.isAgg22 rfl rfl (hs.cell (k := 0) rfl rfl) ?_
    | refine s_load Try.isAgg22 rfl rfl (hs.cell (k := 1) rfl rfl) ?_
    | refine s_load Try.isAgg22 rfl rfl (hs.cell (k := 2) rfl rfl) ?_
    | refine s_load Try.isAgg22 rfl rfl (hs.cell (k := 3) rfl rfl) ?_
    | refine s_load Try.isAgg22 rfl rfl (hs.cell (k := 4) rfl rfl) ?_
    | refine s_load Try.isAgg22 rfl rfl (hs.cell (k := 5) rfl rfl) ?_
    | refine s_load Try.isAgg22 rfl rfl (hs.cell (k := 6) rfl rfl) ?_
    | refine s_load Try.isAgg22 rfl rfl (hs.cell (k := 7) rfl rfl) ?_
    | refine s_load Try.isAgg22 rfl rfl (hs.cell (k := 8) rfl rfl) ?_
    | refine s_load Try.isAgg22 rfl rfl (hs.cell (k := 9) rfl rfl) ?_
    | refine s_load Try.isAgg22 rfl rfl (hs.cell (k := 3) (e := 3) (fz := (0, 0)) rfl (gs_in (sp := gsp) ⟨hmv.1, hmv.2.1⟩ rfl)) ?_
    | refine s_load Try.isAgg22 rfl rfl (hs.cell (k := 3) (e := 3) (fz := (0, 0)) rfl (gs_in (sp := gsp) ⟨hmv.2.2.1, hmv.2.2.2⟩ rfl)) ?_
  refine D_qn ?_
  refine D_q rfl rfl ?_
  refine s_fieldAddr rfl rfl (FA32_1 _ _) ?_
  refine D_qn ?_
  refine D_q rfl rfl ?_
  first
    | refine s_load Try.isAgg3 rfl rfl (hs.cell (k := 0) rfl rfl) ?_
    | refine s_load Try.isAgg3 rfl rfl (hs.cell (k := 1) rfl rfl) ?_
    | refine s_load Try.isAgg3 rfl rfl (hs.cell (k := 2) rfl rfl) ?_
    | refine s_load Try.isAgg3 rfl rfl (hs.cell (k := 3) rfl rfl) ?_
    | refine s_load Try.isAgg3 rfl rfl (hs.cell (k := 4) rfl rfl) ?_
    | refine s_load Try.isAgg3 rfl rfl (hs.cell (k := 5) rfl rfl) ?_
    | refine s_load Try.isAgg3 rfl rfl (hs.cell (k := 6) rfl rfl) ?_
    | refine s_load Try.isAgg3 rfl rfl (hs.cell (k := 7) rfl rfl) ?_
    | refine s_load Try.isAgg3 rfl rfl (hs.cell (k := 8) rfl rfl) ?_
    | refine s_load Try.isAgg3 rfl rfl (hs.cell (k := 9) rfl rfl) ?_
    | refine s_load Try.isAgg3 rfl rfl (hs.cell (k := 3) (e := 3) (fz := (0, 0)) rfl (gs_in (sp := gsp) ⟨hmv.1, hmv.2.1⟩ rfl)) ?_
    | refine s_load Try.isAgg3 rfl rfl (hs.cell (k := 3) (e := 3) (fz := (0, 0)) rfl (gs_in (sp := gsp) ⟨hmv.2.2.1, hmv.2.2.2⟩ rfl)) ?_
  refine D_qn ?_
  refine D_q rfl rfl ?_
  (refine s_indexAddr1 El22 rfl rfl rfl ?hx ?_; case hx => (constructor <;> first | omega | (simp; omega)))
  refine D_qn ?_
  refine D_q rfl rfl ?_
  first
    | refine s_load Try.isAgg3 rfl rfl (hs.cell (k := 0) rfl rfl) ?_
    | refine s_load Try.isAgg3 rfl rfl (hs.cell (k := 1) rfl rfl) ?_
    | refine s_load Try.isAgg3 rfl rfl (hs.cell (k := 2) rfl rfl) ?_
    | refine s_load Try.isAgg3 rfl rfl (hs.cell (k := 3) rfl rfl) ?_
    | refine s_load Try.isAgg3 rfl rfl (hs.cell (k := 4) rfl rfl) ?_
    | refine s_load Try.isAgg3 rfl rfl (hs.cell (k := 5) rfl rfl) ?_
    | refine s_load Try.isAgg3 rfl rfl (hs.cell (k := 6) rfl rfl) ?_
    | refine s_load Try.isAgg3 rfl rfl (hs.cell (k := 7) rfl rfl) ?_
    | refine s_load Try.isAgg3 rfl rfl (hs.cell (k := 8) rfl rfl) ?_
    | refine s_load Try.isAgg3 rfl rfl (hs.cell (k := 9) rfl rfl) ?_
    | refine s_load Try.isAgg3 rfl rfl (hs.cell (k := 3) (e := 3) (fz := (0, 0)) rfl (gs_in (sp := gsp) ⟨hmv.1, hmv.2.1⟩ rfl)) ?_
    | refine s_load Try.isAgg3 rfl rfl (hs.cell (k := 3) (e := 3) (fz := (0, 0)) rfl (gs_in (sp := gsp) ⟨hmv.2.2.1, hmv.2.2.2⟩ rfl)) ?_
  refine D_qn ?_
  refine D_q rfl rfl ?_
  refine s_neq rfl rfl rfl ?_
  refine D_qn ?_
  refine D_nil ?_
  refine n_then ?_
  refine W_cond rfl (fun hc42 => ?_) (fun hc42 => ?_)
  · skip
    simp only [decide_eq_true_eq, decide_eq_false_iff_not, bne_iff_ne, bne_eq_false_iff_eq, ne_eq] at hc42
    refine W_seq ?_
    refine W_region ?_
    refine s_build rfl rfl (BD32_ ) ?_
    first
      | refine s_storeW Try.sizeOf32 rfl rfl rfl rfl hs (kk := 0) rfl rfl ?_
      | refine s_storeW Try.sizeOf32 rfl rfl rfl rfl hs (kk := 1) rfl rfl ?_
      | refine s_storeW Try.sizeOf32 rfl rfl rfl rfl hs (kk := 2) rfl rfl ?_
      | refine s_storeW Try.sizeOf32 rfl rfl rfl rfl hs (kk := 3) rfl rfl ?_
      | refine s_storeW Try.sizeOf32 rfl rfl rfl rfl hs (kk := 4) rfl rfl ?_
      | refine s_storeW Try.sizeOf32 rfl rfl rfl rfl hs (kk := 5) rfl rfl ?_
      | refine s_storeW Try.sizeOf32 rfl rfl rfl rfl hs (kk := 6) rfl rfl ?_
      | refine s_storeW Try.sizeOf32 rfl rfl rfl rfl hs (kk := 7) rfl rfl ?_
      | refine s_storeW Try.sizeOf32 rfl rfl rfl rfl hs (kk := 8) rfl rfl ?_
      | refine s_storeW Try.sizeOf32 rfl rfl rfl rfl hs (kk := 9) rfl rfl ?_
      | refine s_storeAB Try.sizeOf32 rfl rfl rfl rfl hs (kk := 0) rfl rfl ?_
      | refine s_storeAB Try.sizeOf32 rfl rfl rfl rfl hs (kk := 1) rfl rfl ?_
      | refine s_storeAB Try.sizeOf32 rfl rfl rfl rfl hs (kk := 2) rfl rfl ?_
      | refine s_storeAB Try.sizeOf32 rfl rfl rfl rfl hs (kk := 3) rfl rfl ?_
      | refine s_storeAB Try.sizeOf32 rfl rfl rfl rfl hs (kk := 4) rfl rfl ?_
      | refine s_storeAB Try.sizeOf32 rfl rfl rfl rfl hs (kk := 5) rfl rfl ?_
      | refine s_storeAB Try.sizeOf32 rfl rfl rfl rfl hs (kk := 6) rfl rfl ?_
      | refine s_storeAB Try.sizeOf32 rfl rfl rfl rfl hs (kk := 7) rfl rfl ?_
      | refine s_storeAB Try.sizeOf32 rfl rfl rfl rfl hs (kk := 8) rfl rfl ?_
      | refine s_storeAB Try.sizeOf32 rfl rfl rfl rfl hs (kk := 9) rfl rfl ?_
    clear hs; intro w hs; try simp only [List.set_cons_zero, List.set_cons_succ, splice, List.take_succ_cons, List.take_zero, List.drop_succ_cons, List.drop_zero, List.nil_append, List.cons_append, List.length_cons, List.length_nil, Nat.reduceAdd, List.append_assoc] at hs
    refine s_assign rfl rfl ?_
    refine WL_nil ?_
    refine n_then ?_
    refine W_ret ?_
    refine r_then ?_
    refine end2 rfl (resOk_block Try.isAgg32 Try.sizeOf32 hs rfl (kk := 1) rfl rfl) rfl ?_
    first
      | exact ⟨_, hs.tail.tail, Or.inl ⟨by assumption, rfl, _, [_], _, [_], rfl, hG, hO⟩⟩
      | exact ⟨L1, by have := hs.tail.tail; simpa using this, Or.inr ⟨by assumption, rfl, hN1⟩⟩
  · skip
    simp only [decide_eq_true_eq, decide_eq_false_iff_not, bne_iff_ne, bne_eq_false_iff_eq, ne_eq] at hc42
    refine W_skip ?_
    refine n_then ?_
    refine W_seq ?_
    refine W_region ?_
    refine s_move rfl rfl ?_
    refine s_move rfl rfl ?_
    refine s_callL (M := [_, _]) (L1 := [_, _, _]) (X := []) Try.call33 rfl rfl hs (fun h => remove_ok p gs rs i _ w ⟨_, [_], _, [_], rfl, hG, hO⟩ h hin hml) ?_
    clear hs; intro v w L1 hN1 _ hs
    simp only [List.cons_append, List.nil_append] at hs
    refine WL_nil ?_
    refine n_then ?_
    refine W_seq ?_
    refine W_region ?_
    first
      | refine s_loadW Try.isAgg32 Try.sizeOf32 rfl rfl hs (kk := 0) rfl rfl ?_
      | refine s_loadW Try.isAgg32 Try.sizeOf32 rfl rfl hs (kk := 1) rfl rfl ?_
      | refine s_loadW Try.isAgg32 Try.sizeOf32 rfl rfl hs (kk := 2) rfl rfl ?_
      | refine s_loadW Try.isAgg32 Try.sizeOf32 rfl rfl hs (kk := 3) rfl rfl ?_
      | refine s_loadW Try.isAgg32 Try.sizeOf32 rfl rfl hs (kk := 4) rfl rfl ?_
      | refine s_loadW Try.isAgg32 Try.sizeOf32 rfl rfl hs (kk := 5) rfl rfl ?_
      | refine s_loadW Try.isAgg32 Try.sizeOf32 rfl rfl hs (kk := 6) rfl rfl ?_
      | refine s_loadW Try.isAgg32 Try.sizeOf32 rfl rfl hs (kk := 7) rfl rfl ?_
      | refine s_loadW Try.isAgg32 Try.sizeOf32 rfl rfl hs (kk := 8) rfl rfl ?_
      | refine s_loadW Try.isAgg32 Try.sizeOf32 rfl rfl hs (kk := 9) rfl rfl ?_
      | refine s_load_3 Try.isAgg32 Try.sizeOf32 rfl rfl (by first | exact hs.cell (k := 0) rfl rfl | exact hs.cell (k := 1) rfl rfl | exact hs.cell (k := 2) rfl rfl | exact hs.cell (k := 3) rfl rfl | exact hs.cell (k := 4) rfl rfl | exact hs.cell (k := 5) rfl rfl | exact hs.cell (k := 6) rfl rfl | exact hs.cell (k := 7) rfl rfl | exact hs.cell (k := 8) rfl rfl | exact hs.cell (k := 9) rfl rfl) (by first | exact hs.cell (k := 0) rfl rfl | exact hs.cell (k := 1) rfl rfl | exact hs.cell (k := 2) rfl rfl | exact hs.cell (k := 3) rfl rfl | exact hs.cell (k := 4) rfl rfl | exact hs.cell (k := 5) rfl rfl | exact hs.cell (k := 6) rfl rfl | exact hs.cell (k := 7) rfl rfl | exact hs.cell (k := 8) rfl rfl | exact hs.cell (k := 9) rfl rfl) (by first | exact hs.cell (k := 0) rfl rfl | exact hs.cell (k := 1) rfl rfl | exact hs.cell (k := 2) rfl rfl | exact hs.cell (k := 3) rfl rfl | exact hs.cell (k := 4) rfl rfl | exact hs.cell (k := 5) rfl rfl | exact hs.cell (k := 6) rfl rfl | exact hs.cell (k := 7) rfl rfl | exact hs.cell (k := 8) rfl rfl | exact hs.cell (k := 9) rfl rfl) ?_
    first
      | refine s_storeW Try.sizeOf32 rfl rfl rfl rfl hs (kk := 0) rfl rfl ?_
      | refine s_storeW Try.sizeOf32 rfl rfl rfl rfl hs (kk := 1) rfl rfl ?_
      | refine s_storeW Try.sizeOf32 rfl rfl rfl rfl hs (kk := 2) rfl rfl ?_
      | refine s_storeW Try.sizeOf32 rfl rfl rfl rfl hs (kk := 3) rfl rfl ?_
      | refine s_storeW Try.sizeOf32 rfl rfl rfl rfl hs (kk := 4) rfl rfl ?_
      | refine s_storeW Try.sizeOf32 rfl rfl rfl rfl hs (kk := 5) rfl rfl ?_
      | refine s_storeW Try.sizeOf32 rfl rfl rfl rfl hs (kk := 6) rfl rfl ?_
      | refine s_storeW Try.sizeOf32 rfl rfl rfl rfl hs (kk := 7) rfl rfl ?_
      | refine s_storeW Try.sizeOf32 rfl rfl rfl rfl hs (kk := 8) rfl rfl ?_
      | refine s_storeW Try.sizeOf32 rfl rfl rfl rfl hs (kk := 9) rfl rfl ?_
      | refine s_storeAB Try.sizeOf32 rfl rfl rfl rfl hs (kk := 0) rfl rfl ?_
      | refine s_storeAB Try.sizeOf32 rfl rfl rfl rfl hs (kk := 1) rfl rfl ?_
      | refine s_storeAB Try.sizeOf32 rfl rfl rfl rfl hs (kk := 2) rfl rfl ?_
      | refine s_storeAB Try.sizeOf32 rfl rfl rfl rfl hs (kk := 3) rfl rfl ?_
      | refine s_storeAB Try.sizeOf32 rfl rfl rfl rfl hs (kk := 4) rfl rfl ?_
      | refine s_storeAB Try.sizeOf32 rfl rfl rfl rfl hs (kk := 5) rfl rfl ?_
      | refine s_storeAB Try.sizeOf32 rfl rfl rfl rfl hs (kk := 6) rfl rfl ?_
      | refine s_storeAB Try.sizeOf32 rfl rfl rfl rfl hs (kk := 7) rfl rfl ?_
      | refine s_storeAB Try.sizeOf32 rfl rfl rfl rfl hs (kk := 8) rfl rfl ?_
      | refine s_storeAB Try.sizeOf32 rfl rfl rfl rfl hs (kk := 9) rfl rfl ?_
    clear hs; intro w hs; try simp only [List.set_cons_zero, List.set_cons_succ, splice, List.take_succ_cons, List.take_zero, List.drop_succ_cons, List.drop_zero, List.nil_append, List.cons_append, List.length_cons, List.length_nil, Nat.reduceAdd, List.append_assoc] at hs
    refine s_assign rfl rfl ?_
    refine WL_nil ?_
    refine n_then ?_
    refine W_ret ?_
    refine end2 rfl (resOk_block Try.isAgg32 Try.sizeOf32 hs rfl (kk := 1) rfl rfl) rfl ?_
    first
      | exact ⟨_, hs.tail.tail, Or.inl ⟨by assumption, rfl, _, [_], _, [_], rfl, hG, hO⟩⟩
      | exact ⟨L1, by have := hs.tail.tail; simpa using this, Or.inr ⟨by assumption, rfl, hN1⟩⟩
end Go.Proofs.Ytgkdbiibbfipjaa
