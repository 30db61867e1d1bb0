/- LeaseArguments. -/
import Derived.Test.YtkobigdfijeajaaRpP
import Derived.Test.YtkobigdfijeajaaCut
import Derived.Test.YtkobigdfijeajaaTree
set_option linter.unusedVariables false
set_option linter.unusedSimpArgs false
namespace Go.SL
theorem St.apartY {F : List Nat} {w0 w : World} {M L X : Hp} (h : St F w0 w (M ++ (L ++ X))) {b : Nat} (hb : b ∈ ids X) : b ∉ ids L := by
  have := h.right.nodup
  rw [ids_append] at this
  exact fun h2 => (List.nodup_append.1 this).2.2 b h2 b hb rfl
end Go.SL
namespace Go.Proofs.Ytkobigdfijeajaa
open Go.SL
theorem u8wrap_isB (z : Int) : isB (IntKind.u8.wrap z) := by
  have : IntKind.u8.wrap z = z % 256 := by simp [IntKind.wrap, IntKind.bits, IntKind.signed]
  rw [this]; unfold isB; omega
theorem madeC_isB (n : Int) : ∀ b ∈ madeC n, isB b := by
  intro b hb
  rw [madeC] at hb
  split at hb
  · cases hb
  · simp only [List.mem_cons, List.not_mem_nil, or_false] at hb
    rcases hb with rfl | rfl <;> exact u8wrap_isB _
theorem ruleS_name {j : Nat} (h : j < 3) : nameP (ruleS j) := by
  match j, h with
  | 0, _ => decide +kernel
  | 1, _ => decide +kernel
  | 2, _ => decide +kernel
theorem made_valid (n : Int) : validP (madeG n) (madeX n) (madeC n).length := by
  have hr := aroundV_range (m := n) (q := 1073741824) (by omega)
  have hcl : (madeC n).length ≤ 2 := by rw [madeC]; split <;> simp
  refine ⟨ruleS_name (by omega), ?_, ?_, ?_, by omega, ?_⟩
  · simp only [madeX]; omega
  · simp only [madeX]; omega
  · simp only [madeX]; omega
  · rw [madeC]
    cases madeG n
    · exact .inl rfl
    · exact .inr rfl
def madeE (n : Int) : En := ⟨madeG n, madeX n, madeC n⟩
theorem madeE_ok (n : Int) : (madeE n).ok := ⟨made_valid n, madeC_isB n⟩
theorem rep_head {p : Nat} {R : Rp} {L : Hp} {w : World} (h : RepAt p R L) (ho : ∀ q ∈ L, w.heap[q.1]? = some q.2) : ∃ cs, w.heap[p]? = some (Blk 89 cs) ∧ cs[0]? = some (.int .i64 (R.id : Int)) ∧ cs[1]? = some (.int .i64 (R.mem : Int)) ∧ cs[2]? = some (.int .i64 (R.term : Int)) ∧ cs[4]? = some (.int .i64 (R.role : Int)) := by
  obtain ⟨lv, vv, av, es, LB, LP, LV, LA, rfl, _⟩ := h
  exact ⟨_, ho _ List.mem_cons_self, rfl, rfl, rfl, rfl⟩
theorem RepAt.ok {p : Nat} {R : Rp} {L : Hp} (h : RepAt p R L) : R.ok := by obtain ⟨lv, vv, av, es, LB, LP, LV, LA, rfl, _, _, _, _, h⟩ := h; exact h
theorem MsAt.form {r : Value} {ms : List Ms} {L : Hp} (h : MsAt r ms L) : ∃ a c, r = .slice a ms.length c := by
  obtain ⟨mm, LB, LP, rfl, hO, hM, rfl⟩ := h
  obtain ⟨tl, tc, ta, h1, h2⟩ := hO.form
  exact ⟨ta, tc, by rw [h1, h2, List.length_map]⟩
theorem em_entry (e : En) (v : Value) : Value.agg #[.bool e.g, .string e.x.rule, .int .i64 e.x.holder, .int .i64 e.x.token, .int .i64 e.x.til, v] = .agg (Em.cells ⟨e, v⟩).toArray := rfl
def R00 (id mem : Int) : Rp := ⟨id.toNat, mem.toNat, 0, 0, 0, [], 0, fun _ => 0⟩
set_option maxHeartbeats 4000000 in
set_option maxRecDepth 8000 in
theorem argsA (id mem t frm to b : Int) (w0 : World) (hx : mem < 1 ∨ 3 < mem ∨ id < 0 ∨ mem ≤ id) :
    Ret Try.prog 4 [.int .i64 id, .int .i64 mem, .int .i64 t, .int .i64 frm, .int .i64 to, .int .u8 b].toArray w0 fun r w' => Fwd [] w0 w' ∧ r = .bool true := by
  refine Ret_start fun w hs => ?_
  refine Ret_of Try.func4 rfl Try.ntmps4 rfl ?_
  refine W_seq ?_
  refine W_region ?_
  refine s_assign rfl rfl ?_
  refine WL_nil ?_
  refine n_then ?_
  refine W_seq ?_
  refine W_region ?_
  refine s_move rfl rfl ?_
  refine s_move rfl rfl ?_
  refine s_call Try.call8 rfl rfl (start_ok id mem w) ?_
  rintro r w (⟨-, rfl, hst⟩ | ⟨hgood, -⟩)
  case inr => exfalso; omega
  replace hs := hs.back0 hst
  clear hst
  rw [List.nil_append] at hs
  refine s_move rfl rfl ?_
  refine s_extract rfl rfl rfl ?_
  refine s_extract rfl rfl rfl ?_
  refine s_assign rfl rfl ?_
  refine s_assign rfl rfl ?_
  refine WL_nil ?_
  refine n_then ?_
  refine W_seq ?_
  refine W_seq ?_
  refine W_region ?_
  refine s_move rfl rfl ?_
  refine s_lss rfl rfl rfl ?_
  refine s_move rfl rfl ?_
  refine WL_case (s := 39) rfl (fun hg39 => ?_) (fun hg39 => ?_)
  · skip
    try simp only [decide_eq_true_eq, decide_eq_false_iff_not, gt_iff_lt, ge_iff_le, beq_iff_eq, beq_eq_false_iff_ne, ne_eq, bne_iff_ne, bne_eq_false_iff_eq, Bool.not_eq_true', Bool.not_eq_false', Bool.not_eq_true, Bool.not_eq_false, Decidable.not_not] at hg39
    refine WL_skip rfl rfl rfl ?_
    refine WL_skip rfl rfl rfl ?_
    refine s_pick_t rfl rfl rfl ?_
    refine s_move rfl rfl ?_
    refine WL_skip rfl rfl rfl ?_
    refine WL_skip rfl rfl rfl ?_
    refine s_pick_t rfl rfl rfl ?_
    refine s_move rfl rfl ?_
    refine WL_skip rfl rfl rfl ?_
    refine WL_skip rfl rfl rfl ?_
    refine WL_skip rfl rfl rfl ?_
    refine s_pick_t rfl rfl rfl ?_
    refine WL_nil ?_
    refine n_then ?_
    refine W_cond_t rfl ?_
    refine W_seq ?_
    refine W_region ?_
    refine s_move rfl rfl ?_
    refine s_eql_nil_nil Try.underlying25 rfl rfl rfl ?_
    refine s_move rfl rfl ?_
    refine WL_know (s := 54) (c := true) rfl (rfl) ?_
    refine WL_take rfl ?_
    refine s_move rfl rfl ?_
    refine WL_take rfl ?_
    refine s_eql rfl rfl rfl ?_
    refine s_pick_t rfl rfl rfl ?_
    refine s_move rfl rfl ?_
    refine WL_know (s := 58) (c := true) rfl (rfl) ?_
    refine WL_take rfl ?_
    refine s_call Try.call19 rfl rfl (lives_ok w) ?_
    rintro r w ⟨hst, rfl⟩
    replace hs := hs.fwd1 hst
    refine s_pick_t rfl rfl rfl ?_
    refine s_assign rfl rfl ?_
    refine WL_nil ?_
    refine n_then ?_
    refine W_ret ?_
    refine r_then ?_
    exact end1 rfl rfl ⟨hs.fwd, rfl⟩
  · skip
    try simp only [decide_eq_true_eq, decide_eq_false_iff_not, gt_iff_lt, ge_iff_le, beq_iff_eq, beq_eq_false_iff_ne, ne_eq, bne_iff_ne, bne_eq_false_iff_eq, Bool.not_eq_true', Bool.not_eq_false', Bool.not_eq_true, Bool.not_eq_false, Decidable.not_not] at hg39
    refine WL_take rfl ?_
    refine s_move rfl rfl ?_
    refine WL_take rfl ?_
    refine s_gtr rfl rfl rfl ?_
    refine s_pick_f rfl rfl rfl ?_
    refine s_move rfl rfl ?_
    refine WL_case (s := 43) rfl (fun hg43 => ?_) (fun hg43 => ?_)
    · skip
      try simp only [decide_eq_true_eq, decide_eq_false_iff_not, gt_iff_lt, ge_iff_le, beq_iff_eq, beq_eq_false_iff_ne, ne_eq, bne_iff_ne, bne_eq_false_iff_eq, Bool.not_eq_true', Bool.not_eq_false', Bool.not_eq_true, Bool.not_eq_false, Decidable.not_not] at hg43
      refine WL_skip rfl rfl rfl ?_
      refine WL_skip rfl rfl rfl ?_
      refine s_pick_t rfl rfl rfl ?_
      refine s_move rfl rfl ?_
      refine WL_skip rfl rfl rfl ?_
      refine WL_skip rfl rfl rfl ?_
      refine WL_skip rfl rfl rfl ?_
      refine s_pick_t rfl rfl rfl ?_
      refine WL_nil ?_
      refine n_then ?_
      refine W_cond_t rfl ?_
      refine W_seq ?_
      refine W_region ?_
      refine s_move rfl rfl ?_
      refine s_eql_nil_nil Try.underlying25 rfl rfl rfl ?_
      refine s_move rfl rfl ?_
      refine WL_know (s := 54) (c := true) rfl (rfl) ?_
      refine WL_take rfl ?_
      refine s_move rfl rfl ?_
      refine WL_take rfl ?_
      refine s_eql rfl rfl rfl ?_
      refine s_pick_t rfl rfl rfl ?_
      refine s_move rfl rfl ?_
      refine WL_know (s := 58) (c := true) rfl (rfl) ?_
      refine WL_take rfl ?_
      refine s_call Try.call19 rfl rfl (lives_ok w) ?_
      rintro r w ⟨hst, rfl⟩
      replace hs := hs.fwd1 hst
      refine s_pick_t rfl rfl rfl ?_
      refine s_assign rfl rfl ?_
      refine WL_nil ?_
      refine n_then ?_
      refine W_ret ?_
      refine r_then ?_
      exact end1 rfl rfl ⟨hs.fwd, rfl⟩
    · skip
      try simp only [decide_eq_true_eq, decide_eq_false_iff_not, gt_iff_lt, ge_iff_le, beq_iff_eq, beq_eq_false_iff_ne, ne_eq, bne_iff_ne, bne_eq_false_iff_eq, Bool.not_eq_true', Bool.not_eq_false', Bool.not_eq_true, Bool.not_eq_false, Decidable.not_not] at hg43
      refine WL_take rfl ?_
      refine s_move rfl rfl ?_
      refine WL_take rfl ?_
      refine s_lss rfl rfl rfl ?_
      refine s_pick_f rfl rfl rfl ?_
      refine s_move rfl rfl ?_
      refine WL_case (s := 47) rfl (fun hg47 => ?_) (fun hg47 => ?_)
      · skip
        try simp only [decide_eq_true_eq, decide_eq_false_iff_not, gt_iff_lt, ge_iff_le, beq_iff_eq, beq_eq_false_iff_ne, ne_eq, bne_iff_ne, bne_eq_false_iff_eq, Bool.not_eq_true', Bool.not_eq_false', Bool.not_eq_true, Bool.not_eq_false, Decidable.not_not] at hg47
        refine WL_skip rfl rfl rfl ?_
        refine WL_skip rfl rfl rfl ?_
        refine WL_skip rfl rfl rfl ?_
        refine s_pick_t rfl rfl rfl ?_
        refine WL_nil ?_
        refine n_then ?_
        refine W_cond_t rfl ?_
        refine W_seq ?_
        refine W_region ?_
        refine s_move rfl rfl ?_
        refine s_eql_nil_nil Try.underlying25 rfl rfl rfl ?_
        refine s_move rfl rfl ?_
        refine WL_know (s := 54) (c := true) rfl (rfl) ?_
        refine WL_take rfl ?_
        refine s_move rfl rfl ?_
        refine WL_take rfl ?_
        refine s_eql rfl rfl rfl ?_
        refine s_pick_t rfl rfl rfl ?_
        refine s_move rfl rfl ?_
        refine WL_know (s := 58) (c := true) rfl (rfl) ?_
        refine WL_take rfl ?_
        refine s_call Try.call19 rfl rfl (lives_ok w) ?_
        rintro r w ⟨hst, rfl⟩
        replace hs := hs.fwd1 hst
        refine s_pick_t rfl rfl rfl ?_
        refine s_assign rfl rfl ?_
        refine WL_nil ?_
        refine n_then ?_
        refine W_ret ?_
        refine r_then ?_
        exact end1 rfl rfl ⟨hs.fwd, rfl⟩
      · skip
        try simp only [decide_eq_true_eq, decide_eq_false_iff_not, gt_iff_lt, ge_iff_le, beq_iff_eq, beq_eq_false_iff_ne, ne_eq, bne_iff_ne, bne_eq_false_iff_eq, Bool.not_eq_true', Bool.not_eq_false', Bool.not_eq_true, Bool.not_eq_false, Decidable.not_not] at hg47
        refine WL_take rfl ?_
        refine s_move rfl rfl ?_
        refine WL_take rfl ?_
        refine s_move rfl rfl ?_
        refine WL_take rfl ?_
        refine s_geq rfl rfl rfl ?_
        refine s_pick_f rfl rfl rfl ?_
        refine WL_nil ?_
        refine n_then ?_
        refine W_cond rfl (fun hc51 => ?_) (fun hc51 => ?_)
        · skip
          try simp only [decide_eq_true_eq, decide_eq_false_iff_not, gt_iff_lt, ge_iff_le, beq_iff_eq, beq_eq_false_iff_ne, ne_eq, bne_iff_ne, bne_eq_false_iff_eq, Bool.not_eq_true', Bool.not_eq_false', Bool.not_eq_true, Bool.not_eq_false, Decidable.not_not] at hc51
          refine W_seq ?_
          refine W_region ?_
          refine s_move rfl rfl ?_
          refine s_eql_nil_nil Try.underlying25 rfl rfl rfl ?_
          refine s_move rfl rfl ?_
          refine WL_know (s := 54) (c := true) rfl (rfl) ?_
          refine WL_take rfl ?_
          refine s_move rfl rfl ?_
          refine WL_take rfl ?_
          refine s_eql rfl rfl rfl ?_
          refine s_pick_t rfl rfl rfl ?_
          refine s_move rfl rfl ?_
          refine WL_know (s := 58) (c := true) rfl (rfl) ?_
          refine WL_take rfl ?_
          refine s_call Try.call19 rfl rfl (lives_ok w) ?_
          rintro r w ⟨hst, rfl⟩
          replace hs := hs.fwd1 hst
          refine s_pick_t rfl rfl rfl ?_
          refine s_assign rfl rfl ?_
          refine WL_nil ?_
          refine n_then ?_
          refine W_ret ?_
          refine r_then ?_
          exact end1 rfl rfl ⟨hs.fwd, rfl⟩
        · skip
          try simp only [decide_eq_true_eq, decide_eq_false_iff_not, gt_iff_lt, ge_iff_le, beq_iff_eq, beq_eq_false_iff_ne, ne_eq, bne_iff_ne, bne_eq_false_iff_eq, Bool.not_eq_true', Bool.not_eq_false', Bool.not_eq_true, Bool.not_eq_false, Decidable.not_not] at hc51
          exfalso; omega -- DEAD
set_option maxHeartbeats 4000000 in
set_option maxRecDepth 8000 in
theorem argsB (id mem t frm to b : Int) (w0 : World) (hgood : 1 ≤ mem ∧ mem ≤ 3 ∧ 0 ≤ id ∧ id < mem) (ht : isI64 t) (hx : t < 1 ∨ 1073741824 < t ∨ t % mem ≠ id) :
    Ret Try.prog 4 [.int .i64 id, .int .i64 mem, .int .i64 t, .int .i64 frm, .int .i64 to, .int .u8 b].toArray w0 fun r w' => Fwd [] w0 w' ∧ r = .bool true := by
  refine Ret_start fun w hs => ?_
  refine Ret_of Try.func4 rfl Try.ntmps4 rfl ?_
  refine W_seq ?_
  refine W_region ?_
  refine s_assign rfl rfl ?_
  refine WL_nil ?_
  refine n_then ?_
  refine W_seq ?_
  refine W_region ?_
  refine s_move rfl rfl ?_
  refine s_move rfl rfl ?_
  refine s_call Try.call8 rfl rfl (start_ok id mem w) ?_
  rintro r w (⟨hbad, -, -⟩ | ⟨hgood, p, L, rfl, hRA, hst⟩)
  · exfalso; omega
  replace hs := hs.back0 hst
  clear hst
  rw [List.append_nil] at hs
  obtain ⟨R, hRd⟩ : ∃ R, R = R00 id mem := ⟨_, rfl⟩
  replace hRA : RepAt p R L := by rw [hRd]; exact hRA
  have q0 : (R.id : Int) = id := by rw [hRd]; show ((id.toNat : Nat) : Int) = id; omega
  have q1 : (R.mem : Int) = mem := by rw [hRd]; show ((mem.toNat : Nat) : Int) = mem; omega
  have q2 : R.term = 0 := by rw [hRd]; rfl
  have q3 : R.role = 0 := by rw [hRd]; rfl
  have q4 : R.log = [] := by rw [hRd]; rfl
  have q5 : R.n = 0 := by rw [hRd]; rfl
  clear hRd
  refine s_move rfl rfl ?_
  refine s_extract rfl rfl rfl ?_
  refine s_extract rfl rfl rfl ?_
  refine s_assign rfl rfl ?_
  refine s_assign rfl rfl ?_
  refine WL_nil ?_
  refine n_then ?_
  refine W_seq ?_
  refine W_seq ?_
  refine W_region ?_
  refine s_move rfl rfl ?_
  refine s_lss rfl rfl rfl ?_
  refine s_move rfl rfl ?_
  refine WL_know (s := 39) (c := false) rfl ((decide_eq_false (by omega))) ?_
  refine WL_take rfl ?_
  refine s_move rfl rfl ?_
  refine WL_take rfl ?_
  refine s_gtr rfl rfl rfl ?_
  refine s_pick_f rfl rfl rfl ?_
  refine s_move rfl rfl ?_
  refine WL_know (s := 43) (c := false) rfl ((decide_eq_false (by omega))) ?_
  refine WL_take rfl ?_
  refine s_move rfl rfl ?_
  refine WL_take rfl ?_
  refine s_lss rfl rfl rfl ?_
  refine s_pick_f rfl rfl rfl ?_
  refine s_move rfl rfl ?_
  refine WL_know (s := 47) (c := false) rfl ((decide_eq_false (by omega))) ?_
  refine WL_take rfl ?_
  refine s_move rfl rfl ?_
  refine WL_take rfl ?_
  refine s_move rfl rfl ?_
  refine WL_take rfl ?_
  refine s_geq rfl rfl rfl ?_
  refine s_pick_f rfl rfl rfl ?_
  refine WL_nil ?_
  refine n_then ?_
  refine W_cond_kf rfl ((decide_eq_false (by omega))) ?_
  refine W_skip ?_
  refine n_then ?_
  refine W_seq ?_
  refine W_seq ?_
  refine W_region ?_
  refine s_move rfl rfl ?_
  refine s_eql_ptr_nil Try.underlying25 rfl rfl rfl ?_
  refine s_move rfl rfl ?_
  refine WL_know (s := 63) (c := false) rfl (rfl) ?_
  refine WL_take rfl ?_
  refine s_move rfl rfl ?_
  refine WL_take rfl ?_
  refine s_neq rfl rfl rfl ?_
  refine s_pick_f rfl rfl rfl ?_
  refine s_move rfl rfl ?_
  refine WL_know (s := 67) (c := false) rfl (rfl) ?_
  refine WL_take rfl ?_
  refine s_move rfl rfl ?_
  refine WL_take rfl ?_
  obtain ⟨cs, hp, k0, k1, k2, k4⟩ := rep_head hRA hs.own
  refine s_call Try.call20 rfl rfl (term_ok p cs R.term w hp k2) ?_
  rintro r w ⟨hst, rfl⟩
  replace hs := hs.back0 hst
  clear hst hp k0 k1 k2 k4 cs
  rw [List.nil_append] at hs
  refine WL_take rfl ?_
  refine s_neq rfl rfl rfl ?_
  refine s_pick_f rfl rfl rfl ?_
  refine s_move rfl rfl ?_
  refine WL_know (s := 72) (c := false) rfl ((by simp [q2])) ?_
  refine WL_take rfl ?_
  refine s_move rfl rfl ?_
  refine WL_take rfl ?_
  obtain ⟨cs, hp, k0, k1, k2, k4⟩ := rep_head hRA hs.own
  refine s_call Try.call21 rfl rfl (leader_ok p cs R.role w hp k4) ?_
  rintro r w ⟨hst, rfl⟩
  replace hs := hs.back0 hst
  clear hst hp k0 k1 k2 k4 cs
  rw [List.nil_append] at hs
  refine s_pick_f rfl rfl rfl ?_
  refine s_move rfl rfl ?_
  refine WL_know (s := 76) (c := false) rfl ((decide_eq_false (by omega))) ?_
  refine WL_take rfl ?_
  refine s_move rfl rfl ?_
  refine WL_take rfl ?_
  refine s_call Try.call16 rfl rfl (committed_ok p R L w hRA hs.own) ?_
  rintro r w ⟨ys, LB9, LP9, hlg, hst⟩
  obtain ⟨ca, cc, rfl, -⟩ := hlg.form
  replace hs := (hs.back0 hst).right
  clear hst hlg
  refine WL_take rfl ?_
  refine s_len rfl rfl (LN43 _ _ _ _) ?_
  refine WL_take rfl ?_
  refine s_neq rfl rfl rfl ?_
  refine s_pick_f rfl rfl rfl ?_
  refine WL_nil ?_
  refine n_then ?_
  refine W_cond_kf rfl ((by simp [q4])) ?_
  refine W_skip ?_
  refine n_then ?_
  refine W_seq ?_
  refine W_region ?_
  refine s_call Try.call23 rfl rfl (made_ok 5 w (by unfold isI64; omega)) ?_
  rintro r w ⟨ev, Le, rfl, hOe, hst⟩
  replace hs := (hs.back0 hst).swap (A := Le)
  clear hst
  obtain ⟨_, ec, ea, rfl, hel⟩ := hOe.form
  subst hel
  refine s_call Try.call22 rfl rfl (of_ok (madeG 5) (madeX 5) ea (madeC 5).length ec w) ?_
  rintro r w ⟨hst, rfl⟩
  replace hs := hs.fwd1 hst
  clear hst
  refine s_alloc rfl AL35 hs ?_; clear hs; intro b15 w hs
  first
    | refine s_storeW Try.sizeOf35 rfl rfl rfl rfl hs (kk := 0) rfl rfl ?_
    | refine s_storeW Try.sizeOf35 rfl rfl rfl rfl hs (kk := 1) rfl rfl ?_
    | refine s_storeW Try.sizeOf35 rfl rfl rfl rfl hs (kk := 2) rfl rfl ?_
    | refine s_storeW Try.sizeOf35 rfl rfl rfl rfl hs (kk := 3) rfl rfl ?_
    | refine s_storeAB Try.sizeOf35 rfl rfl rfl rfl hs (kk := 0) rfl rfl ?_
    | refine s_storeAB Try.sizeOf35 rfl rfl rfl rfl hs (kk := 1) rfl rfl ?_
    | refine s_storeAB Try.sizeOf35 rfl rfl rfl rfl hs (kk := 2) rfl rfl ?_
    | refine s_storeAB Try.sizeOf35 rfl rfl rfl rfl hs (kk := 3) rfl rfl ?_
  clear hs; intro w hs; try simp only [List.set_cons_zero, List.set_cons_succ, splice, List.take_succ_cons, List.take_zero, List.drop_succ_cons, List.drop_zero, List.nil_append, List.cons_append, List.length_cons, List.length_nil, Nat.reduceAdd, List.append_assoc] at hs
  refine WL_nil ?_
  refine n_then ?_
  refine W_seq ?_
  refine W_region ?_
  refine s_move rfl rfl ?_
  first
    | refine s_loadW Try.isAgg35 Try.sizeOf35 rfl rfl hs (kk := 0) rfl rfl ?_
    | refine s_loadW Try.isAgg35 Try.sizeOf35 rfl rfl hs (kk := 1) rfl rfl ?_
    | refine s_loadW Try.isAgg35 Try.sizeOf35 rfl rfl hs (kk := 2) rfl rfl ?_
    | refine s_loadW Try.isAgg35 Try.sizeOf35 rfl rfl hs (kk := 3) rfl rfl ?_
    | refine s_load_6 Try.isAgg35 Try.sizeOf35 rfl rfl (by first | exact hs.cell (k := 0) rfl rfl | exact hs.cell (k := 1) rfl rfl | exact hs.cell (k := 2) rfl rfl | exact hs.cell (k := 3) rfl rfl) (by first | exact hs.cell (k := 0) rfl rfl | exact hs.cell (k := 1) rfl rfl | exact hs.cell (k := 2) rfl rfl | exact hs.cell (k := 3) rfl rfl) (by first | exact hs.cell (k := 0) rfl rfl | exact hs.cell (k := 1) rfl rfl | exact hs.cell (k := 2) rfl rfl | exact hs.cell (k := 3) rfl rfl) (by first | exact hs.cell (k := 0) rfl rfl | exact hs.cell (k := 1) rfl rfl | exact hs.cell (k := 2) rfl rfl | exact hs.cell (k := 3) rfl rfl) (by first | exact hs.cell (k := 0) rfl rfl | exact hs.cell (k := 1) rfl rfl | exact hs.cell (k := 2) rfl rfl | exact hs.cell (k := 3) rfl rfl) (by first | exact hs.cell (k := 0) rfl rfl | exact hs.cell (k := 1) rfl rfl | exact hs.cell (k := 2) rfl rfl | exact hs.cell (k := 3) rfl rfl) ?_
  have hve : ∀ w', (∀ q ∈ Le, w'.heap[q.1]? = some q.2) → Sl w' (.slice ea (madeC 5).length ec) (madeC 5).length (u8s (madeC 5)) := fun w' h => OwnS_slIn hOe h
  refine s_callL (M := [_]) (L1 := L) (X := Le) Try.call13 rfl rfl hs (fun h => propose_ok p R L (madeE 5) (.slice ea (madeC 5).length ec) w hRA (hve w fun q hq => hs.own q (by simp [hq])) (fun a m c he hne => by cases he; exact hs.apartY (M := [_]) (OwnS_in hOe hne)) (madeC_isB 5) h) ?_
  clear hs; rintro u w L9 ⟨rv, Lr, LQ, rfl, rfl, hRQ, hMs⟩ - hs
  have hpr : R.propose (madeE 5) = (R, [], 20) := by rw [Rp.propose, if_pos (by omega)]
  rw [hpr] at hRQ hMs ⊢
  simp only at hRQ hMs ⊢
  replace hs : St [] w0 w ([(b15, Blk 35 [.bool (madeG 5), .string (madeX 5).rule, .int .i64 (madeX 5).holder, .int .i64 (madeX 5).token, .int .i64 (madeX 5).til, .slice ea (madeC 5).length ec])] ++ (LQ ++ Le)) := by simpa [cat] using St.reord [[_], LQ, Lr, Le] [0, 1, 3] [2] (by simpa [cat] using hs) rfl
  clear hMs hRA hpr
  refine s_move rfl rfl ?_
  refine s_extract rfl rfl rfl ?_
  refine s_extract rfl rfl rfl ?_
  refine s_assign rfl rfl ?_
  refine s_assign rfl rfl ?_
  refine WL_nil ?_
  refine n_then ?_
  refine W_seq ?_
  refine W_region ?_
  refine s_move rfl rfl ?_
  refine s_move rfl rfl ?_
  refine s_callL (M := [_]) (L1 := LQ) (X := Le) Try.call9 rfl rfl hs (fun h => elect_ok p R LQ t w hRQ ht h) ?_
  clear hs; rintro u w L9 ⟨rv1, Lm, LE, rfl, rfl, hRE, hME⟩ - hs
  have hle : R.elect t = (R, [], 1) := by rw [Rp.elect, if_pos (by rw [q0, q1]; exact hx)]
  rw [hle] at hRE hME ⊢
  simp only at hRE hME ⊢
  obtain ⟨ma, mc, rfl⟩ := hME.form
  replace hs : St [] w0 w (LE ++ ([(b15, Blk 35 [.bool (madeG 5), .string (madeX 5).rule, .int .i64 (madeX 5).holder, .int .i64 (madeX 5).token, .int .i64 (madeX 5).til, .slice ea (madeC 5).length ec])] ++ (Le ++ Lm))) := by simpa [cat] using St.reord [[_], LE, Lm, Le] [1, 0, 3, 2] [] (by simpa [cat] using hs) rfl
  refine s_move rfl rfl ?_
  refine s_extract rfl rfl rfl ?_
  refine s_extract rfl rfl rfl ?_
  refine s_assign rfl rfl ?_
  refine s_assign rfl rfl ?_
  refine WL_nil ?_
  refine n_then ?_
  refine W_seq ?_
  refine W_seq ?_
  refine W_region ?_
  refine s_move rfl rfl ?_
  refine s_neq rfl rfl rfl ?_
  refine WL_nil ?_
  refine n_then ?_
  refine W_cond_kf rfl (rfl) ?_
  refine W_skip ?_
  refine n_then ?_
  refine W_seq ?_
  refine W_seq ?_
  refine W_region ?_
  refine s_move rfl rfl ?_
  refine s_lss rfl rfl rfl ?_
  refine s_move rfl rfl ?_
  refine WL_case (s := 100) rfl (fun hg100 => ?_) (fun hg100 => ?_)
  · skip
    try simp only [decide_eq_true_eq, decide_eq_false_iff_not, gt_iff_lt, ge_iff_le, beq_iff_eq, beq_eq_false_iff_ne, ne_eq, bne_iff_ne, bne_eq_false_iff_eq, Bool.not_eq_true', Bool.not_eq_false', Bool.not_eq_true, Bool.not_eq_false, Decidable.not_not] at hg100
    refine WL_skip rfl rfl rfl ?_
    refine WL_skip rfl rfl rfl ?_
    refine s_pick_t rfl rfl rfl ?_
    refine s_move rfl rfl ?_
    refine WL_skip rfl rfl rfl ?_
    refine WL_skip rfl rfl rfl ?_
    refine WL_skip rfl rfl rfl ?_
    refine WL_skip rfl rfl rfl ?_
    refine WL_skip rfl rfl rfl ?_
    refine s_pick_t rfl rfl rfl ?_
    refine WL_nil ?_
    refine n_then ?_
    refine W_cond_t rfl ?_
    refine W_seq ?_
    refine W_region ?_
    refine s_move rfl rfl ?_
    refine s_eql rfl rfl rfl ?_
    refine s_move rfl rfl ?_
    refine WL_know (s := 113) (c := true) rfl (rfl) ?_
    refine WL_take rfl ?_
    refine s_move rfl rfl ?_
    refine WL_take rfl ?_
    refine s_len rfl rfl (LN29 _ _ _ _) ?_
    refine WL_take rfl ?_
    refine s_eql rfl rfl rfl ?_
    refine s_pick_t rfl rfl rfl ?_
    refine s_move rfl rfl ?_
    refine WL_know (s := 118) (c := true) rfl (rfl) ?_
    refine WL_take rfl ?_
    refine s_move rfl rfl ?_
    refine WL_take rfl ?_
    obtain ⟨cs, hp, k0, k1, k2, k4⟩ := rep_head hRE fun q hq => hs.own q (by simp [hq])
    refine s_call Try.call20 rfl rfl (term_ok p cs R.term w hp k2) ?_
    rintro r w ⟨hst, rfl⟩
    replace hs := hs.back0 hst
    clear hst hp k0 k1 k2 k4 cs
    refine WL_take rfl ?_
    refine s_eql rfl rfl rfl ?_
    refine s_pick_t rfl rfl rfl ?_
    refine s_move rfl rfl ?_
    refine WL_know (s := 123) (c := true) rfl ((by simp [q2])) ?_
    refine WL_take rfl ?_
    refine s_call Try.call19 rfl rfl (lives_ok w) ?_
    rintro r w ⟨hst, rfl⟩
    replace hs := hs.fwd1 hst
    refine s_pick_t rfl rfl rfl ?_
    refine s_assign rfl rfl ?_
    refine WL_nil ?_
    refine n_then ?_
    refine W_ret ?_
    refine r_then ?_
    exact end1 rfl rfl ⟨hs.fwd, rfl⟩
  · skip
    try simp only [decide_eq_true_eq, decide_eq_false_iff_not, gt_iff_lt, ge_iff_le, beq_iff_eq, beq_eq_false_iff_ne, ne_eq, bne_iff_ne, bne_eq_false_iff_eq, Bool.not_eq_true', Bool.not_eq_false', Bool.not_eq_true, Bool.not_eq_false, Decidable.not_not] at hg100
    refine WL_take rfl ?_
    refine s_move rfl rfl ?_
    refine WL_take rfl ?_
    refine s_gtr rfl rfl rfl ?_
    refine s_pick_f rfl rfl rfl ?_
    refine s_move rfl rfl ?_
    refine WL_case (s := 104) rfl (fun hg104 => ?_) (fun hg104 => ?_)
    · skip
      try simp only [decide_eq_true_eq, decide_eq_false_iff_not, gt_iff_lt, ge_iff_le, beq_iff_eq, beq_eq_false_iff_ne, ne_eq, bne_iff_ne, bne_eq_false_iff_eq, Bool.not_eq_true', Bool.not_eq_false', Bool.not_eq_true, Bool.not_eq_false, Decidable.not_not] at hg104
      refine WL_skip rfl rfl rfl ?_
      refine WL_skip rfl rfl rfl ?_
      refine WL_skip rfl rfl rfl ?_
      refine WL_skip rfl rfl rfl ?_
      refine WL_skip rfl rfl rfl ?_
      refine s_pick_t rfl rfl rfl ?_
      refine WL_nil ?_
      refine n_then ?_
      refine W_cond_t rfl ?_
      refine W_seq ?_
      refine W_region ?_
      refine s_move rfl rfl ?_
      refine s_eql rfl rfl rfl ?_
      refine s_move rfl rfl ?_
      refine WL_know (s := 113) (c := true) rfl (rfl) ?_
      refine WL_take rfl ?_
      refine s_move rfl rfl ?_
      refine WL_take rfl ?_
      refine s_len rfl rfl (LN29 _ _ _ _) ?_
      refine WL_take rfl ?_
      refine s_eql rfl rfl rfl ?_
      refine s_pick_t rfl rfl rfl ?_
      refine s_move rfl rfl ?_
      refine WL_know (s := 118) (c := true) rfl (rfl) ?_
      refine WL_take rfl ?_
      refine s_move rfl rfl ?_
      refine WL_take rfl ?_
      obtain ⟨cs, hp, k0, k1, k2, k4⟩ := rep_head hRE fun q hq => hs.own q (by simp [hq])
      refine s_call Try.call20 rfl rfl (term_ok p cs R.term w hp k2) ?_
      rintro r w ⟨hst, rfl⟩
      replace hs := hs.back0 hst
      clear hst hp k0 k1 k2 k4 cs
      refine WL_take rfl ?_
      refine s_eql rfl rfl rfl ?_
      refine s_pick_t rfl rfl rfl ?_
      refine s_move rfl rfl ?_
      refine WL_know (s := 123) (c := true) rfl ((by simp [q2])) ?_
      refine WL_take rfl ?_
      refine s_call Try.call19 rfl rfl (lives_ok w) ?_
      rintro r w ⟨hst, rfl⟩
      replace hs := hs.fwd1 hst
      refine s_pick_t rfl rfl rfl ?_
      refine s_assign rfl rfl ?_
      refine WL_nil ?_
      refine n_then ?_
      refine W_ret ?_
      refine r_then ?_
      exact end1 rfl rfl ⟨hs.fwd, rfl⟩
    · skip
      try simp only [decide_eq_true_eq, decide_eq_false_iff_not, gt_iff_lt, ge_iff_le, beq_iff_eq, beq_eq_false_iff_ne, ne_eq, bne_iff_ne, bne_eq_false_iff_eq, Bool.not_eq_true', Bool.not_eq_false', Bool.not_eq_true, Bool.not_eq_false, Decidable.not_not] at hg104
      refine WL_take rfl ?_
      refine s_move rfl rfl ?_
      refine WL_take rfl ?_
      refine s_move rfl rfl ?_
      refine WL_take rfl ?_
      first | (refine s_rem' rfl rfl rfl ?hx ?_; case hx => (refine ⟨?_, ?_⟩ <;> omega)) | (refine s_rem rfl rfl rfl ?hx ?_; case hx => omega)
      refine WL_take rfl ?_
      refine s_move rfl rfl ?_
      refine WL_take rfl ?_
      refine s_neq rfl rfl rfl ?_
      refine s_pick_f rfl rfl rfl ?_
      refine WL_nil ?_
      refine n_then ?_
      refine W_cond rfl (fun hc110 => ?_) (fun hc110 => ?_)
      · skip
        try simp only [decide_eq_true_eq, decide_eq_false_iff_not, gt_iff_lt, ge_iff_le, beq_iff_eq, beq_eq_false_iff_ne, ne_eq, bne_iff_ne, bne_eq_false_iff_eq, Bool.not_eq_true', Bool.not_eq_false', Bool.not_eq_true, Bool.not_eq_false, Decidable.not_not] at hc110
        refine W_seq ?_
        refine W_region ?_
        refine s_move rfl rfl ?_
        refine s_eql rfl rfl rfl ?_
        refine s_move rfl rfl ?_
        refine WL_know (s := 113) (c := true) rfl (rfl) ?_
        refine WL_take rfl ?_
        refine s_move rfl rfl ?_
        refine WL_take rfl ?_
        refine s_len rfl rfl (LN29 _ _ _ _) ?_
        refine WL_take rfl ?_
        refine s_eql rfl rfl rfl ?_
        refine s_pick_t rfl rfl rfl ?_
        refine s_move rfl rfl ?_
        refine WL_know (s := 118) (c := true) rfl (rfl) ?_
        refine WL_take rfl ?_
        refine s_move rfl rfl ?_
        refine WL_take rfl ?_
        obtain ⟨cs, hp, k0, k1, k2, k4⟩ := rep_head hRE fun q hq => hs.own q (by simp [hq])
        refine s_call Try.call20 rfl rfl (term_ok p cs R.term w hp k2) ?_
        rintro r w ⟨hst, rfl⟩
        replace hs := hs.back0 hst
        clear hst hp k0 k1 k2 k4 cs
        refine WL_take rfl ?_
        refine s_eql rfl rfl rfl ?_
        refine s_pick_t rfl rfl rfl ?_
        refine s_move rfl rfl ?_
        refine WL_know (s := 123) (c := true) rfl ((by simp [q2])) ?_
        refine WL_take rfl ?_
        refine s_call Try.call19 rfl rfl (lives_ok w) ?_
        rintro r w ⟨hst, rfl⟩
        replace hs := hs.fwd1 hst
        refine s_pick_t rfl rfl rfl ?_
        refine s_assign rfl rfl ?_
        refine WL_nil ?_
        refine n_then ?_
        refine W_ret ?_
        refine r_then ?_
        exact end1 rfl rfl ⟨hs.fwd, rfl⟩
      · skip
        try simp only [decide_eq_true_eq, decide_eq_false_iff_not, gt_iff_lt, ge_iff_le, beq_iff_eq, beq_eq_false_iff_ne, ne_eq, bne_iff_ne, bne_eq_false_iff_eq, Bool.not_eq_true', Bool.not_eq_false', Bool.not_eq_true, Bool.not_eq_false, Decidable.not_not] at hc110
        exfalso; omega -- DEAD
end Go.Proofs.Ytkobigdfijeajaa
