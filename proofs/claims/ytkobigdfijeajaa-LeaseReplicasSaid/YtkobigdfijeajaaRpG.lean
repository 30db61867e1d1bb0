/- A replica: follow, lead. -/
import Derived.Test.YtkobigdfijeajaaRpF
set_option linter.unusedVariables false
set_option linter.unusedSimpArgs false
namespace Go.Proofs.Ytkobigdfijeajaa
open Go.SL
def Rp.follow (R : Rp) (t : Nat) : Rp := if R.term < t then { R with term := t, role := 0 } else R
def Rp.takes (R : Rp) (lt : Nat) (log : List En) : Prop := R.lterm < lt ∨ lt = R.lterm ∧ R.log.length < log.length
instance (R : Rp) (lt : Nat) (log : List En) : Decidable (R.takes lt log) := by unfold Rp.takes; infer_instance
def Rp.adopt (R : Rp) (lt : Nat) (log : List En) : Rp := if R.takes lt log then { R with log := log, lterm := lt } else R
theorem VotesAt.off {r r' : Nat} {vv : Value} {LV : Hp} (h : VotesAt r vv LV) (hr : r' ≠ 1) : VotesAt r' vv LV := by
  rcases h with ⟨h1, h2, _⟩ | ⟨b, o, kvs, h1, h2, h3, h4, _⟩
  · exact .inl ⟨h1, h2, hr⟩
  · exact .inr ⟨b, o, kvs, h1, h2, h3, h4, fun h => absurd h hr⟩
theorem VotesAt.val {r : Nat} {vv : Value} {LV : Hp} (h : VotesAt r vv LV) : ∃ x, vv = .map x := by
  rcases h with ⟨h1, _⟩ | ⟨b, o, kvs, h1, _⟩ <;> exact ⟨_, h1⟩
theorem LogAt.form {l : List En} {lv : Value} {es : List Em} {LB LP : Hp} (h : LogAt l lv es LB LP) : ∃ a c, lv = .slice a l.length c ∧ es.length = l.length := by
  obtain ⟨tl, tc, ta, h1, h2⟩ := h.1.form
  have : es.length = l.length := by rw [← h.2.2, ens_length]
  exact ⟨ta, tc, by rw [h1, h2, this], this⟩
set_option maxHeartbeats 1000000 in
theorem follow_ok (p : Nat) (R : Rp) (t : Nat) (L0 : Hp) (w0 : World) (hR : RepAt p R L0) (ht : t ≤ 1073741824) (hs : St (ids L0) w0 w0 L0) :
    Ret Try.prog 72 [.pointer (some ⟨p, 0, none⟩), .int .i64 (t : Int)].toArray w0 fun r w' => ∃ L', St (ids L0) w0 w' L' ∧ RepAt p (R.follow t) L' := by
  have hR0 := hR
  obtain ⟨lv, vv, av, es, LB, LP, LV, LA, hL, hlog, hvo, hac, hav, hok⟩ := hR
  obtain ⟨la, lc, rfl, -⟩ := hlog.form
  obtain ⟨vx, rfl⟩ := hvo.val
  obtain ⟨ax, rfl⟩ := hav
  have hs2 := hs
  rw [hL] at hs2
  replace hs := hs2
  rw [← hL] at hs
  clear hs2
  revert hs
  generalize ids L0 = F
  rw [hL]
  intro hs
  unfold rpCells at hs
  refine Ret_startL hs fun w hs => ?_
  refine Ret_of Try.func72 rfl Try.ntmps72 rfl ?_
  refine W_seq ?_
  refine W_region ?_
  refine s_move rfl rfl ?_
  refine s_move rfl rfl ?_
  refine s_nilCheck rfl rfl ?_
  refine s_fieldAddr rfl rfl (FA89_2 _ _) ?_
  first
    | refine s_load Try.isAgg3 rfl rfl (hs.cell (k := 0) rfl rfl) ?_
  refine s_gtr rfl rfl rfl ?_
  refine WL_nil ?_
  refine n_then ?_
  refine W_cond rfl (fun hc9 => ?_) (fun hc9 => ?_)
  · skip
    try simp only [decide_eq_true_eq, decide_eq_false_iff_not, gt_iff_lt] at hc9
    refine W_region ?_
    refine s_move rfl rfl ?_
    refine s_move rfl rfl ?_
    refine s_move rfl rfl ?_
    refine s_nilCheck rfl rfl ?_
    refine s_fieldAddr rfl rfl (FA89_2 _ _) ?_
    first
      | refine s_storeB Try.sizeOf3 rfl rfl rfl hs (kk := 0) rfl rfl ?_
    clear hs; intro w hs; try simp only [List.set_cons_zero, List.set_cons_succ, splice, List.take_succ_cons, List.take_zero, List.drop_succ_cons, List.drop_zero, List.nil_append, List.cons_append, List.length_cons, List.length_nil, Nat.reduceAdd, List.append_assoc] at hs
    refine s_nilCheck rfl rfl ?_
    refine s_fieldAddr rfl rfl (FA89_4 _ _) ?_
    first
      | refine s_storeB Try.sizeOf3 rfl rfl rfl hs (kk := 0) rfl rfl ?_
    clear hs; intro w hs; try simp only [List.set_cons_zero, List.set_cons_succ, splice, List.take_succ_cons, List.take_zero, List.drop_succ_cons, List.drop_zero, List.nil_append, List.cons_append, List.length_cons, List.length_nil, Nat.reduceAdd, List.append_assoc] at hs
    refine WL_nil ?_
    first
      | (refine end0' rfl ⟨_, hs, ?_⟩
         rw [Rp.follow, if_pos (by omega)]
         exact ⟨.slice la R.log.length lc, .map vx, .map ax, es, LB, LP, LV, LA, rfl, hlog, hvo.off (by simp), by simp, ⟨_, rfl⟩, { hok with term := ht, role := by simp }⟩)
  · skip
    try simp only [decide_eq_true_eq, decide_eq_false_iff_not, gt_iff_lt] at hc9
    refine W_skip ?_
    first
      | (refine end0' rfl ⟨_, hs, ?_⟩
         rw [Rp.follow, if_neg (by omega), ← rpCells.eq_1, ← hL]; exact hR0)
end Go.Proofs.Ytkobigdfijeajaa
