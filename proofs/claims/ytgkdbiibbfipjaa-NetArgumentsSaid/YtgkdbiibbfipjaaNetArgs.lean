/- NetArguments: New and Send return the specified errors; 1000 messages can be in transit, and no more: the law returns true for every input. -/
import Derived.Test.YtgkdbiibbfipjaaNetE
set_option linter.unusedVariables false
set_option linter.unusedSimpArgs false
namespace Go.Proofs.Ytgkdbiibbfipjaa
open Go.SL
theorem big_sl {F : List Nat} {w0 w : World} {L : Hp} {k b n : Nat} {e : TypeId} (hs : St F w0 w L) (hk : L[k]? = some (b, Blk e (made [.int .u8 0] n))) : Sl w (.slice (some ⟨b, 0, none⟩) n n) (List.replicate n (0 : Int)).length (u8s (List.replicate n 0)) := by
  rw [List.length_replicate]
  refine hs.sl hk (Nat.le_refl _) (fun j u hj => ?_)
  rw [Nat.zero_add, made_one]
  simpa [u8s] using hj
theorem sendE_big {gs : List Int} {ms : List Msg} {f t : Int} {n : Nat} (h : 65536 < n) : sendE gs ms f t (List.replicate n 0) = 1 := by
  rw [sendE, if_pos]
  rw [List.length_replicate]; omega
theorem args_a (nodes from_ to_ i : Int) (long : Bool) (w0 : World) (hn : -9223372036854775808 ≤ nodes ∧ nodes ≤ 9223372036854775807) (h : ¬ (1 ≤ nodes ∧ nodes ≤ 16)) :
    Ret Try.prog 4 [.int .i64 nodes, .int .i64 from_, .int .i64 to_, .bool long, .int .i64 i].toArray w0 fun r w' => Fwd [] w0 w' ∧ r = .bool true := by
  refine Ret_start fun w hs => ?_
  refine Ret_of Try.func4 rfl Try.ntmps4 rfl ?_
  refine W_seq ?_
  refine W_region ?_
  refine s_assign rfl rfl ?_
  refine WL_nil ?_
  refine n_then ?_
  refine W_seq ?_
  refine W_region ?_
  refine s_move rfl rfl ?_
  refine s_call Try.call25 rfl rfl (new_ok nodes w hn) ?_
  rintro r w (⟨h1, h2, _⟩ | ⟨_, rfl, hst⟩)
  case inl => exact absurd ⟨h1, h2⟩ h
  replace hs := hs.fwd1 hst
  clear hst
  refine s_move rfl rfl ?_
  refine s_extract rfl rfl rfl ?_
  refine s_extract rfl rfl rfl ?_
  refine s_assign rfl rfl ?_
  refine s_assign rfl rfl ?_
  refine WL_nil ?_
  refine n_then ?_
  refine W_seq ?_
  refine W_seq ?_
  refine W_region ?_
  refine s_move rfl rfl ?_
  refine s_lss rfl rfl rfl ?_
  refine s_move rfl rfl ?_
  refine WL_case (s := 24) rfl (fun hg24 => ?_) (fun hg24 => ?_)
  · skip
    simp only [decide_eq_true_eq, decide_eq_false_iff_not] at hg24
    refine WL_skip rfl rfl rfl ?_
    refine WL_skip rfl rfl rfl ?_
    refine s_pick_t rfl rfl rfl ?_
    refine WL_nil ?_
    refine n_then ?_
    refine W_cond_t rfl ?_
    refine W_seq ?_
    refine W_region ?_
    refine s_move rfl rfl ?_
    refine s_eql_nil_nil Try.underlying23 rfl rfl rfl ?_
    refine s_move rfl rfl ?_
    refine WL_know (s := 30) (c := true) rfl (rfl) ?_
    refine WL_take rfl ?_
    refine s_move rfl rfl ?_
    refine WL_take rfl ?_
    refine s_eql rfl rfl rfl ?_
    refine s_pick_t rfl rfl rfl ?_
    refine s_move rfl rfl ?_
    refine WL_know (s := 34) (c := true) rfl (rfl) ?_
    refine WL_take rfl ?_
    refine s_call Try.call24 rfl rfl (lives_ok w) ?_
    rintro r w ⟨hst, rfl⟩
    replace hs := hs.fwd1 hst
    clear hst
    refine s_pick_t rfl rfl rfl ?_
    refine s_assign rfl rfl ?_
    refine WL_nil ?_
    refine n_then ?_
    refine W_ret ?_
    refine r_then ?_
    exact end1 rfl rfl ⟨hs.fwd, rfl⟩
  · skip
    simp only [decide_eq_true_eq, decide_eq_false_iff_not] at hg24
    refine WL_take rfl ?_
    refine s_move rfl rfl ?_
    refine WL_take rfl ?_
    refine s_gtr rfl rfl rfl ?_
    refine s_pick_f rfl rfl rfl ?_
    refine WL_nil ?_
    refine n_then ?_
    refine W_cond_kt rfl ((by simp; omega)) ?_
    refine W_seq ?_
    refine W_region ?_
    refine s_move rfl rfl ?_
    refine s_eql_nil_nil Try.underlying23 rfl rfl rfl ?_
    refine s_move rfl rfl ?_
    refine WL_know (s := 30) (c := true) rfl (rfl) ?_
    refine WL_take rfl ?_
    refine s_move rfl rfl ?_
    refine WL_take rfl ?_
    refine s_eql rfl rfl rfl ?_
    refine s_pick_t rfl rfl rfl ?_
    refine s_move rfl rfl ?_
    refine WL_know (s := 34) (c := true) rfl (rfl) ?_
    refine WL_take rfl ?_
    refine s_call Try.call24 rfl rfl (lives_ok w) ?_
    rintro r w ⟨hst, rfl⟩
    replace hs := hs.fwd1 hst
    clear hst
    refine s_pick_t rfl rfl rfl ?_
    refine s_assign rfl rfl ?_
    refine WL_nil ?_
    refine n_then ?_
    refine W_ret ?_
    refine r_then ?_
    exact end1 rfl rfl ⟨hs.fwd, rfl⟩
theorem args_b (nodes from_ to_ i : Int) (long : Bool) (w0 : World) (hn : -9223372036854775808 ≤ nodes ∧ nodes ≤ 9223372036854775807) (h : 1 ≤ nodes ∧ nodes ≤ 16) (hb : from_ < 0 ∨ nodes ≤ from_ ∨ to_ < 0 ∨ nodes ≤ to_) :
    Ret Try.prog 4 [.int .i64 nodes, .int .i64 from_, .int .i64 to_, .bool long, .int .i64 i].toArray w0 fun r w' => Fwd [] w0 w' ∧ r = .bool true := by
  refine Ret_start fun w hs => ?_
  refine Ret_of Try.func4 rfl Try.ntmps4 rfl ?_
  refine W_seq ?_
  refine W_region ?_
  refine s_assign rfl rfl ?_
  refine WL_nil ?_
  refine n_then ?_
  refine W_seq ?_
  refine W_region ?_
  refine s_move rfl rfl ?_
  refine s_call Try.call25 rfl rfl (new_ok nodes w hn) ?_
  rintro r w (⟨_, _, p, LN, rfl, hN, hst⟩ | ⟨h, _⟩)
  case inr => exact absurd ⟨by omega, by omega⟩ h
  replace hs : St [] w0 w (LN ++ []) := St.back0 hs hst
  clear hst
  have hgl : (List.replicate nodes.toNat (0 : Int)).length = nodes.toNat := by simp
  refine s_move rfl rfl ?_
  refine s_extract rfl rfl rfl ?_
  refine s_extract rfl rfl rfl ?_
  refine s_assign rfl rfl ?_
  refine s_assign rfl rfl ?_
  refine WL_nil ?_
  refine n_then ?_
  refine W_seq ?_
  refine W_seq ?_
  refine W_region ?_
  refine s_move rfl rfl ?_
  refine s_lss rfl rfl rfl ?_
  refine s_move rfl rfl ?_
  refine WL_know (s := 24) (c := false) rfl ((by simp; omega)) ?_
  refine WL_take rfl ?_
  refine s_move rfl rfl ?_
  refine WL_take rfl ?_
  refine s_gtr rfl rfl rfl ?_
  refine s_pick_f rfl rfl rfl ?_
  refine WL_nil ?_
  refine n_then ?_
  refine W_cond_kf rfl ((by simp; omega)) ?_
  refine W_skip ?_
  refine n_then ?_
  refine W_seq ?_
  refine W_seq ?_
  refine W_region ?_
  refine s_move rfl rfl ?_
  refine s_eql_ptr_nil Try.underlying23 rfl rfl rfl ?_
  refine s_move rfl rfl ?_
  refine WL_know (s := 39) (c := false) rfl (rfl) ?_
  refine WL_take rfl ?_
  refine s_move rfl rfl ?_
  refine WL_take rfl ?_
  refine s_neq rfl rfl rfl ?_
  refine s_pick_f rfl rfl rfl ?_
  refine WL_nil ?_
  refine n_then ?_
  refine W_cond_kf rfl (rfl) ?_
  refine W_skip ?_
  refine n_then ?_
  refine W_seq ?_
  refine W_region ?_
  refine s_move rfl rfl ?_
  refine s_move rfl rfl ?_
  refine s_buildSlice rfl rfl (BS30_1 _) hs ?_; clear hs; intro b45 w hs
  refine s_build rfl rfl (BD32_0_1_2 _ _ _ _ _) ?_
  refine s_alloc rfl AL32 hs ?_; clear hs; intro b13 w hs
  first
    | refine s_storeW Try.sizeOf32 rfl rfl rfl rfl hs (kk := 0) rfl rfl ?_
    | refine s_storeW Try.sizeOf32 rfl rfl rfl rfl hs (kk := 1) rfl rfl ?_
    | refine s_storeW Try.sizeOf32 rfl rfl rfl rfl hs (kk := 2) rfl rfl ?_
    | refine s_storeW Try.sizeOf32 rfl rfl rfl rfl hs (kk := 3) rfl rfl ?_
    | refine s_storeW Try.sizeOf32 rfl rfl rfl rfl hs (kk := 4) rfl rfl ?_
    | refine s_storeW Try.sizeOf32 rfl rfl rfl rfl hs (kk := 5) rfl rfl ?_
    | refine s_storeW Try.sizeOf32 rfl rfl rfl rfl hs (kk := 6) rfl rfl ?_
    | refine s_storeW Try.sizeOf32 rfl rfl rfl rfl hs (kk := 7) rfl rfl ?_
    | refine s_storeW Try.sizeOf32 rfl rfl rfl rfl hs (kk := 8) rfl rfl ?_
    | refine s_storeW Try.sizeOf32 rfl rfl rfl rfl hs (kk := 9) rfl rfl ?_
    | refine s_storeAB Try.sizeOf32 rfl rfl rfl rfl hs (kk := 0) rfl rfl ?_
    | refine s_storeAB Try.sizeOf32 rfl rfl rfl rfl hs (kk := 1) rfl rfl ?_
    | refine s_storeAB Try.sizeOf32 rfl rfl rfl rfl hs (kk := 2) rfl rfl ?_
    | refine s_storeAB Try.sizeOf32 rfl rfl rfl rfl hs (kk := 3) rfl rfl ?_
    | refine s_storeAB Try.sizeOf32 rfl rfl rfl rfl hs (kk := 4) rfl rfl ?_
    | refine s_storeAB Try.sizeOf32 rfl rfl rfl rfl hs (kk := 5) rfl rfl ?_
    | refine s_storeAB Try.sizeOf32 rfl rfl rfl rfl hs (kk := 6) rfl rfl ?_
    | refine s_storeAB Try.sizeOf32 rfl rfl rfl rfl hs (kk := 7) rfl rfl ?_
    | refine s_storeAB Try.sizeOf32 rfl rfl rfl rfl hs (kk := 8) rfl rfl ?_
    | refine s_storeAB Try.sizeOf32 rfl rfl rfl rfl hs (kk := 9) rfl rfl ?_
  clear hs; intro w hs; try simp only [List.set_cons_zero, List.set_cons_succ, splice, List.take_succ_cons, List.take_zero, List.drop_succ_cons, List.drop_zero, List.nil_append, List.cons_append, List.length_cons, List.length_nil, Nat.reduceAdd, List.append_assoc] at hs
  refine WL_nil ?_
  refine n_then ?_
  refine W_seq ?_
  refine W_region ?_
  refine s_move rfl rfl ?_
  first
    | refine s_loadW Try.isAgg32 Try.sizeOf32 rfl rfl hs (kk := 0) rfl rfl ?_
    | refine s_loadW Try.isAgg32 Try.sizeOf32 rfl rfl hs (kk := 1) rfl rfl ?_
    | refine s_loadW Try.isAgg32 Try.sizeOf32 rfl rfl hs (kk := 2) rfl rfl ?_
    | refine s_loadW Try.isAgg32 Try.sizeOf32 rfl rfl hs (kk := 3) rfl rfl ?_
    | refine s_loadW Try.isAgg32 Try.sizeOf32 rfl rfl hs (kk := 4) rfl rfl ?_
    | refine s_loadW Try.isAgg32 Try.sizeOf32 rfl rfl hs (kk := 5) rfl rfl ?_
    | refine s_loadW Try.isAgg32 Try.sizeOf32 rfl rfl hs (kk := 6) rfl rfl ?_
    | refine s_loadW Try.isAgg32 Try.sizeOf32 rfl rfl hs (kk := 7) rfl rfl ?_
    | refine s_loadW Try.isAgg32 Try.sizeOf32 rfl rfl hs (kk := 8) rfl rfl ?_
    | refine s_loadW Try.isAgg32 Try.sizeOf32 rfl rfl hs (kk := 9) rfl rfl ?_
    | refine s_load_3 Try.isAgg32 Try.sizeOf32 rfl rfl (by first | exact hs.cell (k := 0) rfl rfl | exact hs.cell (k := 1) rfl rfl | exact hs.cell (k := 2) rfl rfl | exact hs.cell (k := 3) rfl rfl | exact hs.cell (k := 4) rfl rfl | exact hs.cell (k := 5) rfl rfl | exact hs.cell (k := 6) rfl rfl | exact hs.cell (k := 7) rfl rfl | exact hs.cell (k := 8) rfl rfl | exact hs.cell (k := 9) rfl rfl) (by first | exact hs.cell (k := 0) rfl rfl | exact hs.cell (k := 1) rfl rfl | exact hs.cell (k := 2) rfl rfl | exact hs.cell (k := 3) rfl rfl | exact hs.cell (k := 4) rfl rfl | exact hs.cell (k := 5) rfl rfl | exact hs.cell (k := 6) rfl rfl | exact hs.cell (k := 7) rfl rfl | exact hs.cell (k := 8) rfl rfl | exact hs.cell (k := 9) rfl rfl) (by first | exact hs.cell (k := 0) rfl rfl | exact hs.cell (k := 1) rfl rfl | exact hs.cell (k := 2) rfl rfl | exact hs.cell (k := 3) rfl rfl | exact hs.cell (k := 4) rfl rfl | exact hs.cell (k := 5) rfl rfl | exact hs.cell (k := 6) rfl rfl | exact hs.cell (k := 7) rfl rfl | exact hs.cell (k := 8) rfl rfl | exact hs.cell (k := 9) rfl rfl) ?_
  refine s_callL (M := [_, _]) (L1 := LN) (X := []) Try.call12 rfl rfl hs (fun h => send_ok p _ [] from_ to_ _ [1] LN w hN h (hs.sl (k := 1) rfl (Nat.le_refl _) (by intro j u hj; rw [Nat.zero_add]; exact hj)) (by simp) (fun a m c he _ => by cases he; exact hs.notin (M := [_, _]) (by simp [ids]))) ?_
  clear hs; rintro v w LN ⟨rfl, ms, hN, hms0, hms⟩ - hs
  have hE : sendE (List.replicate nodes.toNat 0) [] from_ to_ [1] = 1 := by rw [sendE, if_pos (by rw [hgl]; omega)]
  obtain rfl := hms0 (by rw [hE]; omega)
  rw [hE]
  clear hms0 hms
  simp only [List.cons_append, List.nil_append] at hs
  refine s_assign rfl rfl ?_
  refine WL_nil ?_
  refine n_then ?_
  refine W_seq ?_
  refine W_seq ?_
  refine W_region ?_
  refine s_move rfl rfl ?_
  refine s_lss rfl rfl rfl ?_
  refine s_move rfl rfl ?_
  refine WL_case (s := 52) rfl (fun hg52 => ?_) (fun hg52 => ?_)
  · skip
    simp only [decide_eq_true_eq, decide_eq_false_iff_not] at hg52
    refine WL_skip rfl rfl rfl ?_
    refine WL_skip rfl rfl rfl ?_
    refine WL_skip rfl rfl rfl ?_
    refine s_pick_t rfl rfl rfl ?_
    refine s_move rfl rfl ?_
    refine WL_skip rfl rfl rfl ?_
    refine WL_skip rfl rfl rfl ?_
    refine s_pick_t rfl rfl rfl ?_
    refine s_move rfl rfl ?_
    refine WL_skip rfl rfl rfl ?_
    refine WL_skip rfl rfl rfl ?_
    refine WL_skip rfl rfl rfl ?_
    refine s_pick_t rfl rfl rfl ?_
    refine WL_nil ?_
    refine n_then ?_
    refine W_cond_t rfl ?_
    refine W_seq ?_
    refine W_region ?_
    refine s_move rfl rfl ?_
    refine s_eql rfl rfl rfl ?_
    refine s_move rfl rfl ?_
    refine WL_know (s := 68) (c := true) rfl (rfl) ?_
    refine WL_take rfl ?_
    refine s_move rfl rfl ?_
    refine WL_take rfl ?_
    refine s_call Try.call23 rfl rfl (len_ok p _ _ LN w hN (hs.lendM (M := [_, _]))) ?_
    rintro r w ⟨rfl, rfl⟩
    refine WL_take rfl ?_
    refine s_eql rfl rfl rfl ?_
    refine s_pick_t rfl rfl rfl ?_
    refine s_move rfl rfl ?_
    refine WL_know (s := 73) (c := true) rfl (rfl) ?_
    refine WL_take rfl ?_
    refine s_call Try.call24 rfl rfl (lives_ok w) ?_
    rintro r w ⟨hst, rfl⟩
    replace hs := hs.fwd1 hst
    clear hst
    refine s_pick_t rfl rfl rfl ?_
    refine s_assign rfl rfl ?_
    refine WL_nil ?_
    refine n_then ?_
    refine W_ret ?_
    refine r_then ?_
    exact end1 rfl rfl ⟨hs.fwd, rfl⟩
  · skip
    simp only [decide_eq_true_eq, decide_eq_false_iff_not] at hg52
    refine WL_take rfl ?_
    refine s_move rfl rfl ?_
    refine WL_take rfl ?_
    refine s_move rfl rfl ?_
    refine WL_take rfl ?_
    refine s_geq rfl rfl rfl ?_
    refine s_pick_f rfl rfl rfl ?_
    refine s_move rfl rfl ?_
    refine WL_case (s := 57) rfl (fun hg57 => ?_) (fun hg57 => ?_)
    · skip
      simp only [decide_eq_true_eq, decide_eq_false_iff_not] at hg57
      refine WL_skip rfl rfl rfl ?_
      refine WL_skip rfl rfl rfl ?_
      refine s_pick_t rfl rfl rfl ?_
      refine s_move rfl rfl ?_
      refine WL_skip rfl rfl rfl ?_
      refine WL_skip rfl rfl rfl ?_
      refine WL_skip rfl rfl rfl ?_
      refine s_pick_t rfl rfl rfl ?_
      refine WL_nil ?_
      refine n_then ?_
      refine W_cond_t rfl ?_
      refine W_seq ?_
      refine W_region ?_
      refine s_move rfl rfl ?_
      refine s_eql rfl rfl rfl ?_
      refine s_move rfl rfl ?_
      refine WL_know (s := 68) (c := true) rfl (rfl) ?_
      refine WL_take rfl ?_
      refine s_move rfl rfl ?_
      refine WL_take rfl ?_
      refine s_call Try.call23 rfl rfl (len_ok p _ _ LN w hN (hs.lendM (M := [_, _]))) ?_
      rintro r w ⟨rfl, rfl⟩
      refine WL_take rfl ?_
      refine s_eql rfl rfl rfl ?_
      refine s_pick_t rfl rfl rfl ?_
      refine s_move rfl rfl ?_
      refine WL_know (s := 73) (c := true) rfl (rfl) ?_
      refine WL_take rfl ?_
      refine s_call Try.call24 rfl rfl (lives_ok w) ?_
      rintro r w ⟨hst, rfl⟩
      replace hs := hs.fwd1 hst
      clear hst
      refine s_pick_t rfl rfl rfl ?_
      refine s_assign rfl rfl ?_
      refine WL_nil ?_
      refine n_then ?_
      refine W_ret ?_
      refine r_then ?_
      exact end1 rfl rfl ⟨hs.fwd, rfl⟩
    · skip
      simp only [decide_eq_true_eq, decide_eq_false_iff_not] at hg57
      refine WL_take rfl ?_
      refine s_move rfl rfl ?_
      refine WL_take rfl ?_
      refine s_lss rfl rfl rfl ?_
      refine s_pick_f rfl rfl rfl ?_
      refine s_move rfl rfl ?_
      refine WL_case (s := 61) rfl (fun hg61 => ?_) (fun hg61 => ?_)
      · skip
        simp only [decide_eq_true_eq, decide_eq_false_iff_not] at hg61
        refine WL_skip rfl rfl rfl ?_
        refine WL_skip rfl rfl rfl ?_
        refine WL_skip rfl rfl rfl ?_
        refine s_pick_t rfl rfl rfl ?_
        refine WL_nil ?_
        refine n_then ?_
        refine W_cond_t rfl ?_
        refine W_seq ?_
        refine W_region ?_
        refine s_move rfl rfl ?_
        refine s_eql rfl rfl rfl ?_
        refine s_move rfl rfl ?_
        refine WL_know (s := 68) (c := true) rfl (rfl) ?_
        refine WL_take rfl ?_
        refine s_move rfl rfl ?_
        refine WL_take rfl ?_
        refine s_call Try.call23 rfl rfl (len_ok p _ _ LN w hN (hs.lendM (M := [_, _]))) ?_
        rintro r w ⟨rfl, rfl⟩
        refine WL_take rfl ?_
        refine s_eql rfl rfl rfl ?_
        refine s_pick_t rfl rfl rfl ?_
        refine s_move rfl rfl ?_
        refine WL_know (s := 73) (c := true) rfl (rfl) ?_
        refine WL_take rfl ?_
        refine s_call Try.call24 rfl rfl (lives_ok w) ?_
        rintro r w ⟨hst, rfl⟩
        replace hs := hs.fwd1 hst
        clear hst
        refine s_pick_t rfl rfl rfl ?_
        refine s_assign rfl rfl ?_
        refine WL_nil ?_
        refine n_then ?_
        refine W_ret ?_
        refine r_then ?_
        exact end1 rfl rfl ⟨hs.fwd, rfl⟩
      · skip
        simp only [decide_eq_true_eq, decide_eq_false_iff_not] at hg61
        refine WL_take rfl ?_
        refine s_move rfl rfl ?_
        refine WL_take rfl ?_
        refine s_move rfl rfl ?_
        refine WL_take rfl ?_
        refine s_geq rfl rfl rfl ?_
        refine s_pick_f rfl rfl rfl ?_
        refine WL_nil ?_
        refine n_then ?_
        refine W_cond_kt rfl ((by simp; omega)) ?_
        refine W_seq ?_
        refine W_region ?_
        refine s_move rfl rfl ?_
        refine s_eql rfl rfl rfl ?_
        refine s_move rfl rfl ?_
        refine WL_know (s := 68) (c := true) rfl (rfl) ?_
        refine WL_take rfl ?_
        refine s_move rfl rfl ?_
        refine WL_take rfl ?_
        refine s_call Try.call23 rfl rfl (len_ok p _ _ LN w hN (hs.lendM (M := [_, _]))) ?_
        rintro r w ⟨rfl, rfl⟩
        refine WL_take rfl ?_
        refine s_eql rfl rfl rfl ?_
        refine s_pick_t rfl rfl rfl ?_
        refine s_move rfl rfl ?_
        refine WL_know (s := 73) (c := true) rfl (rfl) ?_
        refine WL_take rfl ?_
        refine s_call Try.call24 rfl rfl (lives_ok w) ?_
        rintro r w ⟨hst, rfl⟩
        replace hs := hs.fwd1 hst
        clear hst
        refine s_pick_t rfl rfl rfl ?_
        refine s_assign rfl rfl ?_
        refine WL_nil ?_
        refine n_then ?_
        refine W_ret ?_
        refine r_then ?_
        exact end1 rfl rfl ⟨hs.fwd, rfl⟩
theorem args_c (nodes from_ to_ i : Int) (long : Bool) (w0 : World) (hn : -9223372036854775808 ≤ nodes ∧ nodes ≤ 9223372036854775807) (h : 1 ≤ nodes ∧ nodes ≤ 16) (hb : 0 ≤ from_ ∧ from_ < nodes ∧ 0 ≤ to_ ∧ to_ < nodes) (hlg : long = true) :
    Ret Try.prog 4 [.int .i64 nodes, .int .i64 from_, .int .i64 to_, .bool long, .int .i64 i].toArray w0 fun r w' => Fwd [] w0 w' ∧ r = .bool true := by
  subst hlg
  refine Ret_start fun w hs => ?_
  refine Ret_of Try.func4 rfl Try.ntmps4 rfl ?_
  refine W_seq ?_
  refine W_region ?_
  refine s_assign rfl rfl ?_
  refine WL_nil ?_
  refine n_then ?_
  refine W_seq ?_
  refine W_region ?_
  refine s_move rfl rfl ?_
  refine s_call Try.call25 rfl rfl (new_ok nodes w hn) ?_
  rintro r w (⟨_, _, p, LN, rfl, hN, hst⟩ | ⟨h, _⟩)
  case inr => exact absurd ⟨by omega, by omega⟩ h
  replace hs : St [] w0 w (LN ++ []) := St.back0 hs hst
  clear hst
  have hgl : (List.replicate nodes.toNat (0 : Int)).length = nodes.toNat := by simp
  refine s_move rfl rfl ?_
  refine s_extract rfl rfl rfl ?_
  refine s_extract rfl rfl rfl ?_
  refine s_assign rfl rfl ?_
  refine s_assign rfl rfl ?_
  refine WL_nil ?_
  refine n_then ?_
  refine W_seq ?_
  refine W_seq ?_
  refine W_region ?_
  refine s_move rfl rfl ?_
  refine s_lss rfl rfl rfl ?_
  refine s_move rfl rfl ?_
  refine WL_know (s := 24) (c := false) rfl ((by simp; omega)) ?_
  refine WL_take rfl ?_
  refine s_move rfl rfl ?_
  refine WL_take rfl ?_
  refine s_gtr rfl rfl rfl ?_
  refine s_pick_f rfl rfl rfl ?_
  refine WL_nil ?_
  refine n_then ?_
  refine W_cond_kf rfl ((by simp; omega)) ?_
  refine W_skip ?_
  refine n_then ?_
  refine W_seq ?_
  refine W_seq ?_
  refine W_region ?_
  refine s_move rfl rfl ?_
  refine s_eql_ptr_nil Try.underlying23 rfl rfl rfl ?_
  refine s_move rfl rfl ?_
  refine WL_know (s := 39) (c := false) rfl (rfl) ?_
  refine WL_take rfl ?_
  refine s_move rfl rfl ?_
  refine WL_take rfl ?_
  refine s_neq rfl rfl rfl ?_
  refine s_pick_f rfl rfl rfl ?_
  refine WL_nil ?_
  refine n_then ?_
  refine W_cond_kf rfl (rfl) ?_
  refine W_skip ?_
  refine n_then ?_
  refine W_seq ?_
  refine W_region ?_
  refine s_move rfl rfl ?_
  refine s_move rfl rfl ?_
  refine s_buildSlice rfl rfl (BS30_1 _) hs ?_; clear hs; intro b45 w hs
  refine s_build rfl rfl (BD32_0_1_2 _ _ _ _ _) ?_
  refine s_alloc rfl AL32 hs ?_; clear hs; intro b13 w hs
  first
    | refine s_storeW Try.sizeOf32 rfl rfl rfl rfl hs (kk := 0) rfl rfl ?_
    | refine s_storeW Try.sizeOf32 rfl rfl rfl rfl hs (kk := 1) rfl rfl ?_
    | refine s_storeW Try.sizeOf32 rfl rfl rfl rfl hs (kk := 2) rfl rfl ?_
    | refine s_storeW Try.sizeOf32 rfl rfl rfl rfl hs (kk := 3) rfl rfl ?_
    | refine s_storeW Try.sizeOf32 rfl rfl rfl rfl hs (kk := 4) rfl rfl ?_
    | refine s_storeW Try.sizeOf32 rfl rfl rfl rfl hs (kk := 5) rfl rfl ?_
    | refine s_storeW Try.sizeOf32 rfl rfl rfl rfl hs (kk := 6) rfl rfl ?_
    | refine s_storeW Try.sizeOf32 rfl rfl rfl rfl hs (kk := 7) rfl rfl ?_
    | refine s_storeW Try.sizeOf32 rfl rfl rfl rfl hs (kk := 8) rfl rfl ?_
    | refine s_storeW Try.sizeOf32 rfl rfl rfl rfl hs (kk := 9) rfl rfl ?_
    | refine s_storeAB Try.sizeOf32 rfl rfl rfl rfl hs (kk := 0) rfl rfl ?_
    | refine s_storeAB Try.sizeOf32 rfl rfl rfl rfl hs (kk := 1) rfl rfl ?_
    | refine s_storeAB Try.sizeOf32 rfl rfl rfl rfl hs (kk := 2) rfl rfl ?_
    | refine s_storeAB Try.sizeOf32 rfl rfl rfl rfl hs (kk := 3) rfl rfl ?_
    | refine s_storeAB Try.sizeOf32 rfl rfl rfl rfl hs (kk := 4) rfl rfl ?_
    | refine s_storeAB Try.sizeOf32 rfl rfl rfl rfl hs (kk := 5) rfl rfl ?_
    | refine s_storeAB Try.sizeOf32 rfl rfl rfl rfl hs (kk := 6) rfl rfl ?_
    | refine s_storeAB Try.sizeOf32 rfl rfl rfl rfl hs (kk := 7) rfl rfl ?_
    | refine s_storeAB Try.sizeOf32 rfl rfl rfl rfl hs (kk := 8) rfl rfl ?_
    | refine s_storeAB Try.sizeOf32 rfl rfl rfl rfl hs (kk := 9) rfl rfl ?_
  clear hs; intro w hs; try simp only [List.set_cons_zero, List.set_cons_succ, splice, List.take_succ_cons, List.take_zero, List.drop_succ_cons, List.drop_zero, List.nil_append, List.cons_append, List.length_cons, List.length_nil, Nat.reduceAdd, List.append_assoc] at hs
  refine WL_nil ?_
  refine n_then ?_
  refine W_seq ?_
  refine W_region ?_
  refine s_move rfl rfl ?_
  first
    | refine s_loadW Try.isAgg32 Try.sizeOf32 rfl rfl hs (kk := 0) rfl rfl ?_
    | refine s_loadW Try.isAgg32 Try.sizeOf32 rfl rfl hs (kk := 1) rfl rfl ?_
    | refine s_loadW Try.isAgg32 Try.sizeOf32 rfl rfl hs (kk := 2) rfl rfl ?_
    | refine s_loadW Try.isAgg32 Try.sizeOf32 rfl rfl hs (kk := 3) rfl rfl ?_
    | refine s_loadW Try.isAgg32 Try.sizeOf32 rfl rfl hs (kk := 4) rfl rfl ?_
    | refine s_loadW Try.isAgg32 Try.sizeOf32 rfl rfl hs (kk := 5) rfl rfl ?_
    | refine s_loadW Try.isAgg32 Try.sizeOf32 rfl rfl hs (kk := 6) rfl rfl ?_
    | refine s_loadW Try.isAgg32 Try.sizeOf32 rfl rfl hs (kk := 7) rfl rfl ?_
    | refine s_loadW Try.isAgg32 Try.sizeOf32 rfl rfl hs (kk := 8) rfl rfl ?_
    | refine s_loadW Try.isAgg32 Try.sizeOf32 rfl rfl hs (kk := 9) rfl rfl ?_
    | refine s_load_3 Try.isAgg32 Try.sizeOf32 rfl rfl (by first | exact hs.cell (k := 0) rfl rfl | exact hs.cell (k := 1) rfl rfl | exact hs.cell (k := 2) rfl rfl | exact hs.cell (k := 3) rfl rfl | exact hs.cell (k := 4) rfl rfl | exact hs.cell (k := 5) rfl rfl | exact hs.cell (k := 6) rfl rfl | exact hs.cell (k := 7) rfl rfl | exact hs.cell (k := 8) rfl rfl | exact hs.cell (k := 9) rfl rfl) (by first | exact hs.cell (k := 0) rfl rfl | exact hs.cell (k := 1) rfl rfl | exact hs.cell (k := 2) rfl rfl | exact hs.cell (k := 3) rfl rfl | exact hs.cell (k := 4) rfl rfl | exact hs.cell (k := 5) rfl rfl | exact hs.cell (k := 6) rfl rfl | exact hs.cell (k := 7) rfl rfl | exact hs.cell (k := 8) rfl rfl | exact hs.cell (k := 9) rfl rfl) (by first | exact hs.cell (k := 0) rfl rfl | exact hs.cell (k := 1) rfl rfl | exact hs.cell (k := 2) rfl rfl | exact hs.cell (k := 3) rfl rfl | exact hs.cell (k := 4) rfl rfl | exact hs.cell (k := 5) rfl rfl | exact hs.cell (k := 6) rfl rfl | exact hs.cell (k := 7) rfl rfl | exact hs.cell (k := 8) rfl rfl | exact hs.cell (k := 9) rfl rfl) ?_
  refine s_callL (M := [_, _]) (L1 := LN) (X := []) Try.call12 rfl rfl hs (fun h => send_ok p _ [] from_ to_ _ [1] LN w hN h (hs.sl (k := 1) rfl (Nat.le_refl _) (by intro j u hj; rw [Nat.zero_add]; exact hj)) (by simp) (fun a m c he _ => by cases he; exact hs.notin (M := [_, _]) (by simp [ids]))) ?_
  clear hs; rintro v w LN ⟨rfl, ms, hN, hms0, hms⟩ - hs
  have hE : sendE (List.replicate nodes.toNat 0) [] from_ to_ [1] = 0 := by rw [sendE, if_neg (by rw [hgl]; simp; omega), if_neg (by simp)]
  obtain ⟨b1, rfl⟩ := hms hE
  rw [hE]
  clear hms0 hms
  simp only [List.cons_append, List.nil_append] at hs hN
  refine s_assign rfl rfl ?_
  refine WL_nil ?_
  refine n_then ?_
  refine W_seq ?_
  refine W_seq ?_
  refine W_region ?_
  refine s_move rfl rfl ?_
  refine s_lss rfl rfl rfl ?_
  refine s_move rfl rfl ?_
  refine WL_know (s := 52) (c := false) rfl ((by simp; omega)) ?_
  refine WL_take rfl ?_
  refine s_move rfl rfl ?_
  refine WL_take rfl ?_
  refine s_move rfl rfl ?_
  refine WL_take rfl ?_
  refine s_geq rfl rfl rfl ?_
  refine s_pick_f rfl rfl rfl ?_
  refine s_move rfl rfl ?_
  refine WL_know (s := 57) (c := false) rfl ((by simp; omega)) ?_
  refine WL_take rfl ?_
  refine s_move rfl rfl ?_
  refine WL_take rfl ?_
  refine s_lss rfl rfl rfl ?_
  refine s_pick_f rfl rfl rfl ?_
  refine s_move rfl rfl ?_
  refine WL_know (s := 61) (c := false) rfl ((by simp; omega)) ?_
  refine WL_take rfl ?_
  refine s_move rfl rfl ?_
  refine WL_take rfl ?_
  refine s_move rfl rfl ?_
  refine WL_take rfl ?_
  refine s_geq rfl rfl rfl ?_
  refine s_pick_f rfl rfl rfl ?_
  refine WL_nil ?_
  refine n_then ?_
  refine W_cond_kf rfl ((by simp; omega)) ?_
  refine W_skip ?_
  refine n_then ?_
  refine W_seq ?_
  refine W_seq ?_
  refine W_region ?_
  refine s_move rfl rfl ?_
  refine WL_nil ?_
  refine n_then ?_
  refine W_cond_kt rfl (rfl) ?_
  refine W_seq ?_
  refine W_region ?_
  refine s_makeSlice El30 rfl rfl rfl ?hx hs ?_
  case hx => (refine ⟨?_, ?_, ?_, ?_⟩ <;> omega)
  clear hs; intro b77 w hs
  refine s_fieldAddr rfl rfl (FA32_2 _ _) ?_
  first
    | refine s_storeB Try.sizeOf30 rfl rfl rfl hs (kk := 0) rfl rfl ?_
    | refine s_storeB Try.sizeOf30 rfl rfl rfl hs (kk := 1) rfl rfl ?_
    | refine s_storeB Try.sizeOf30 rfl rfl rfl hs (kk := 2) rfl rfl ?_
    | refine s_storeB Try.sizeOf30 rfl rfl rfl hs (kk := 3) rfl rfl ?_
    | refine s_storeB Try.sizeOf30 rfl rfl rfl hs (kk := 4) rfl rfl ?_
    | refine s_storeB Try.sizeOf30 rfl rfl rfl hs (kk := 5) rfl rfl ?_
    | refine s_storeB Try.sizeOf30 rfl rfl rfl hs (kk := 6) rfl rfl ?_
    | refine s_storeB Try.sizeOf30 rfl rfl rfl hs (kk := 7) rfl rfl ?_
    | refine s_storeB Try.sizeOf30 rfl rfl rfl hs (kk := 8) rfl rfl ?_
    | refine s_storeB Try.sizeOf30 rfl rfl rfl hs (kk := 9) rfl rfl ?_
  clear hs; intro w hs; try simp only [List.set_cons_zero, List.set_cons_succ, splice, List.take_succ_cons, List.take_zero, List.drop_succ_cons, List.drop_zero, List.nil_append, List.cons_append, List.length_cons, List.length_nil, Nat.reduceAdd, List.append_assoc] at hs
  refine WL_nil ?_
  refine n_then ?_
  refine W_seq ?_
  refine W_region ?_
  refine s_move rfl rfl ?_
  refine s_eql rfl rfl rfl ?_
  refine s_move rfl rfl ?_
  refine WL_know (s := 81) (c := true) rfl ((by first | rfl | simp)) ?_
  refine WL_take rfl ?_
  refine s_move rfl rfl ?_
  refine WL_take rfl ?_
  first
    | refine s_loadW Try.isAgg32 Try.sizeOf32 rfl rfl hs (kk := 0) rfl rfl ?_
    | refine s_loadW Try.isAgg32 Try.sizeOf32 rfl rfl hs (kk := 1) rfl rfl ?_
    | refine s_loadW Try.isAgg32 Try.sizeOf32 rfl rfl hs (kk := 2) rfl rfl ?_
    | refine s_loadW Try.isAgg32 Try.sizeOf32 rfl rfl hs (kk := 3) rfl rfl ?_
    | refine s_loadW Try.isAgg32 Try.sizeOf32 rfl rfl hs (kk := 4) rfl rfl ?_
    | refine s_loadW Try.isAgg32 Try.sizeOf32 rfl rfl hs (kk := 5) rfl rfl ?_
    | refine s_loadW Try.isAgg32 Try.sizeOf32 rfl rfl hs (kk := 6) rfl rfl ?_
    | refine s_loadW Try.isAgg32 Try.sizeOf32 rfl rfl hs (kk := 7) rfl rfl ?_
    | refine s_loadW Try.isAgg32 Try.sizeOf32 rfl rfl hs (kk := 8) rfl rfl ?_
    | refine s_loadW Try.isAgg32 Try.sizeOf32 rfl rfl hs (kk := 9) rfl rfl ?_
    | refine s_load_3 Try.isAgg32 Try.sizeOf32 rfl rfl (by first | exact hs.cell (k := 0) rfl rfl | exact hs.cell (k := 1) rfl rfl | exact hs.cell (k := 2) rfl rfl | exact hs.cell (k := 3) rfl rfl | exact hs.cell (k := 4) rfl rfl | exact hs.cell (k := 5) rfl rfl | exact hs.cell (k := 6) rfl rfl | exact hs.cell (k := 7) rfl rfl | exact hs.cell (k := 8) rfl rfl | exact hs.cell (k := 9) rfl rfl) (by first | exact hs.cell (k := 0) rfl rfl | exact hs.cell (k := 1) rfl rfl | exact hs.cell (k := 2) rfl rfl | exact hs.cell (k := 3) rfl rfl | exact hs.cell (k := 4) rfl rfl | exact hs.cell (k := 5) rfl rfl | exact hs.cell (k := 6) rfl rfl | exact hs.cell (k := 7) rfl rfl | exact hs.cell (k := 8) rfl rfl | exact hs.cell (k := 9) rfl rfl) (by first | exact hs.cell (k := 0) rfl rfl | exact hs.cell (k := 1) rfl rfl | exact hs.cell (k := 2) rfl rfl | exact hs.cell (k := 3) rfl rfl | exact hs.cell (k := 4) rfl rfl | exact hs.cell (k := 5) rfl rfl | exact hs.cell (k := 6) rfl rfl | exact hs.cell (k := 7) rfl rfl | exact hs.cell (k := 8) rfl rfl | exact hs.cell (k := 9) rfl rfl) ?_
  refine WL_take rfl ?_
  refine s_callL (M := [_, _, _]) (L1 := LN) (X := []) Try.call12 rfl rfl hs (fun h => send_ok p _ _ from_ to_ _ (List.replicate (Int.toNat 65537) 0) LN w hN h (big_sl hs (k := 0) rfl) (by simp) (fun a m c he _ => by cases he; exact hs.notin (M := [_, _, _]) (by simp [ids]))) ?_
  clear hs; rintro v w LN ⟨rfl, ms, hN, hms0, -⟩ - hs
  have hE2 : sendE (List.replicate nodes.toNat 0) [⟨from_, to_, b1, [1]⟩] from_ to_ (List.replicate (Int.toNat 65537) 0) = 1 := sendE_big (by decide)
  obtain rfl := hms0 (by rw [hE2]; omega)
  rw [hE2]
  clear hms0
  simp only [List.cons_append, List.nil_append] at hs
  refine WL_take rfl ?_
  refine s_eql rfl rfl rfl ?_
  refine s_pick_t rfl rfl rfl ?_
  refine s_move rfl rfl ?_
  refine WL_know (s := 87) (c := true) rfl ((by first | rfl | simp)) ?_
  refine WL_take rfl ?_
  refine s_move rfl rfl ?_
  refine WL_take rfl ?_
  refine s_call Try.call23 rfl rfl (len_ok p _ _ LN w hN (hs.lendM (M := [_, _, _]))) ?_
  rintro r w ⟨rfl, rfl⟩
  refine WL_take rfl ?_
  refine s_eql rfl rfl rfl ?_
  refine s_pick_t rfl rfl rfl ?_
  refine s_move rfl rfl ?_
  refine WL_know (s := 92) (c := true) rfl ((by first | rfl | simp)) ?_
  refine WL_take rfl ?_
  refine s_call Try.call24 rfl rfl (lives_ok w) ?_
  rintro r w ⟨hst, rfl⟩
  replace hs := hs.fwd1 hst
  clear hst
  refine s_pick_t rfl rfl rfl ?_
  refine s_assign rfl rfl ?_
  refine WL_nil ?_
  refine n_then ?_
  refine W_ret ?_
  refine r_then ?_
  exact end1 rfl rfl ⟨hs.fwd, rfl⟩
set_option maxHeartbeats 1000000 in
theorem args_d (nodes from_ to_ i : Int) (long : Bool) (w0 : World) (hn : -9223372036854775808 ≤ nodes ∧ nodes ≤ 9223372036854775807) (h : 1 ≤ nodes ∧ nodes ≤ 16) (hb : 0 ≤ from_ ∧ from_ < nodes ∧ 0 ≤ to_ ∧ to_ < nodes) (hlg : long = false) (hi : ¬ (0 ≤ i ∧ i < 1000)) :
    Ret Try.prog 4 [.int .i64 nodes, .int .i64 from_, .int .i64 to_, .bool long, .int .i64 i].toArray w0 fun r w' => Fwd [] w0 w' ∧ r = .bool true := by
  subst hlg
  refine Ret_start fun w hs => ?_
  refine Ret_of Try.func4 rfl Try.ntmps4 rfl ?_
  refine W_seq ?_
  refine W_region ?_
  refine s_assign rfl rfl ?_
  refine WL_nil ?_
  refine n_then ?_
  refine W_seq ?_
  refine W_region ?_
  refine s_move rfl rfl ?_
  refine s_call Try.call25 rfl rfl (new_ok nodes w hn) ?_
  rintro r w (⟨_, _, p, LN, rfl, hN, hst⟩ | ⟨h, _⟩)
  case inr => exact absurd ⟨by omega, by omega⟩ h
  replace hs : St [] w0 w (LN ++ []) := St.back0 hs hst
  clear hst
  have hgl : (List.replicate nodes.toNat (0 : Int)).length = nodes.toNat := by simp
  refine s_move rfl rfl ?_
  refine s_extract rfl rfl rfl ?_
  refine s_extract rfl rfl rfl ?_
  refine s_assign rfl rfl ?_
  refine s_assign rfl rfl ?_
  refine WL_nil ?_
  refine n_then ?_
  refine W_seq ?_
  refine W_seq ?_
  refine W_region ?_
  refine s_move rfl rfl ?_
  refine s_lss rfl rfl rfl ?_
  refine s_move rfl rfl ?_
  refine WL_know (s := 24) (c := false) rfl ((by simp; omega)) ?_
  refine WL_take rfl ?_
  refine s_move rfl rfl ?_
  refine WL_take rfl ?_
  refine s_gtr rfl rfl rfl ?_
  refine s_pick_f rfl rfl rfl ?_
  refine WL_nil ?_
  refine n_then ?_
  refine W_cond_kf rfl ((by simp; omega)) ?_
  refine W_skip ?_
  refine n_then ?_
  refine W_seq ?_
  refine W_seq ?_
  refine W_region ?_
  refine s_move rfl rfl ?_
  refine s_eql_ptr_nil Try.underlying23 rfl rfl rfl ?_
  refine s_move rfl rfl ?_
  refine WL_know (s := 39) (c := false) rfl (rfl) ?_
  refine WL_take rfl ?_
  refine s_move rfl rfl ?_
  refine WL_take rfl ?_
  refine s_neq rfl rfl rfl ?_
  refine s_pick_f rfl rfl rfl ?_
  refine WL_nil ?_
  refine n_then ?_
  refine W_cond_kf rfl (rfl) ?_
  refine W_skip ?_
  refine n_then ?_
  refine W_seq ?_
  refine W_region ?_
  refine s_move rfl rfl ?_
  refine s_move rfl rfl ?_
  refine s_buildSlice rfl rfl (BS30_1 _) hs ?_; clear hs; intro b45 w hs
  refine s_build rfl rfl (BD32_0_1_2 _ _ _ _ _) ?_
  refine s_alloc rfl AL32 hs ?_; clear hs; intro b13 w hs
  first
    | refine s_storeW Try.sizeOf32 rfl rfl rfl rfl hs (kk := 0) rfl rfl ?_
    | refine s_storeW Try.sizeOf32 rfl rfl rfl rfl hs (kk := 1) rfl rfl ?_
    | refine s_storeW Try.sizeOf32 rfl rfl rfl rfl hs (kk := 2) rfl rfl ?_
    | refine s_storeW Try.sizeOf32 rfl rfl rfl rfl hs (kk := 3) rfl rfl ?_
    | refine s_storeW Try.sizeOf32 rfl rfl rfl rfl hs (kk := 4) rfl rfl ?_
    | refine s_storeW Try.sizeOf32 rfl rfl rfl rfl hs (kk := 5) rfl rfl ?_
    | refine s_storeW Try.sizeOf32 rfl rfl rfl rfl hs (kk := 6) rfl rfl ?_
    | refine s_storeW Try.sizeOf32 rfl rfl rfl rfl hs (kk := 7) rfl rfl ?_
    | refine s_storeW Try.sizeOf32 rfl rfl rfl rfl hs (kk := 8) rfl rfl ?_
    | refine s_storeW Try.sizeOf32 rfl rfl rfl rfl hs (kk := 9) rfl rfl ?_
    | refine s_storeAB Try.sizeOf32 rfl rfl rfl rfl hs (kk := 0) rfl rfl ?_
    | refine s_storeAB Try.sizeOf32 rfl rfl rfl rfl hs (kk := 1) rfl rfl ?_
    | refine s_storeAB Try.sizeOf32 rfl rfl rfl rfl hs (kk := 2) rfl rfl ?_
    | refine s_storeAB Try.sizeOf32 rfl rfl rfl rfl hs (kk := 3) rfl rfl ?_
    | refine s_storeAB Try.sizeOf32 rfl rfl rfl rfl hs (kk := 4) rfl rfl ?_
    | refine s_storeAB Try.sizeOf32 rfl rfl rfl rfl hs (kk := 5) rfl rfl ?_
    | refine s_storeAB Try.sizeOf32 rfl rfl rfl rfl hs (kk := 6) rfl rfl ?_
    | refine s_storeAB Try.sizeOf32 rfl rfl rfl rfl hs (kk := 7) rfl rfl ?_
    | refine s_storeAB Try.sizeOf32 rfl rfl rfl rfl hs (kk := 8) rfl rfl ?_
    | refine s_storeAB Try.sizeOf32 rfl rfl rfl rfl hs (kk := 9) rfl rfl ?_
  clear hs; intro w hs; try simp only [List.set_cons_zero, List.set_cons_succ, splice, List.take_succ_cons, List.take_zero, List.drop_succ_cons, List.drop_zero, List.nil_append, List.cons_append, List.length_cons, List.length_nil, Nat.reduceAdd, List.append_assoc] at hs
  refine WL_nil ?_
  refine n_then ?_
  refine W_seq ?_
  refine W_region ?_
  refine s_move rfl rfl ?_
  first
    | refine s_loadW Try.isAgg32 Try.sizeOf32 rfl rfl hs (kk := 0) rfl rfl ?_
    | refine s_loadW Try.isAgg32 Try.sizeOf32 rfl rfl hs (kk := 1) rfl rfl ?_
    | refine s_loadW Try.isAgg32 Try.sizeOf32 rfl rfl hs (kk := 2) rfl rfl ?_
    | refine s_loadW Try.isAgg32 Try.sizeOf32 rfl rfl hs (kk := 3) rfl rfl ?_
    | refine s_loadW Try.isAgg32 Try.sizeOf32 rfl rfl hs (kk := 4) rfl rfl ?_
    | refine s_loadW Try.isAgg32 Try.sizeOf32 rfl rfl hs (kk := 5) rfl rfl ?_
    | refine s_loadW Try.isAgg32 Try.sizeOf32 rfl rfl hs (kk := 6) rfl rfl ?_
    | refine s_loadW Try.isAgg32 Try.sizeOf32 rfl rfl hs (kk := 7) rfl rfl ?_
    | refine s_loadW Try.isAgg32 Try.sizeOf32 rfl rfl hs (kk := 8) rfl rfl ?_
    | refine s_loadW Try.isAgg32 Try.sizeOf32 rfl rfl hs (kk := 9) rfl rfl ?_
    | refine s_load_3 Try.isAgg32 Try.sizeOf32 rfl rfl (by first | exact hs.cell (k := 0) rfl rfl | exact hs.cell (k := 1) rfl rfl | exact hs.cell (k := 2) rfl rfl | exact hs.cell (k := 3) rfl rfl | exact hs.cell (k := 4) rfl rfl | exact hs.cell (k := 5) rfl rfl | exact hs.cell (k := 6) rfl rfl | exact hs.cell (k := 7) rfl rfl | exact hs.cell (k := 8) rfl rfl | exact hs.cell (k := 9) rfl rfl) (by first | exact hs.cell (k := 0) rfl rfl | exact hs.cell (k := 1) rfl rfl | exact hs.cell (k := 2) rfl rfl | exact hs.cell (k := 3) rfl rfl | exact hs.cell (k := 4) rfl rfl | exact hs.cell (k := 5) rfl rfl | exact hs.cell (k := 6) rfl rfl | exact hs.cell (k := 7) rfl rfl | exact hs.cell (k := 8) rfl rfl | exact hs.cell (k := 9) rfl rfl) (by first | exact hs.cell (k := 0) rfl rfl | exact hs.cell (k := 1) rfl rfl | exact hs.cell (k := 2) rfl rfl | exact hs.cell (k := 3) rfl rfl | exact hs.cell (k := 4) rfl rfl | exact hs.cell (k := 5) rfl rfl | exact hs.cell (k := 6) rfl rfl | exact hs.cell (k := 7) rfl rfl | exact hs.cell (k := 8) rfl rfl | exact hs.cell (k := 9) rfl rfl) ?_
  refine s_callL (M := [_, _]) (L1 := LN) (X := []) Try.call12 rfl rfl hs (fun h => send_ok p _ [] from_ to_ _ [1] LN w hN h (hs.sl (k := 1) rfl (Nat.le_refl _) (by intro j u hj; rw [Nat.zero_add]; exact hj)) (by simp) (fun a m c he _ => by cases he; exact hs.notin (M := [_, _]) (by simp [ids]))) ?_
  clear hs; rintro v w LN ⟨rfl, ms, hN, hms0, hms⟩ - hs
  have hE : sendE (List.replicate nodes.toNat 0) [] from_ to_ [1] = 0 := by rw [sendE, if_neg (by rw [hgl]; simp; omega), if_neg (by simp)]
  obtain ⟨b1, rfl⟩ := hms hE
  rw [hE]
  clear hms0 hms
  simp only [List.cons_append, List.nil_append] at hs hN
  refine s_assign rfl rfl ?_
  refine WL_nil ?_
  refine n_then ?_
  refine W_seq ?_
  refine W_seq ?_
  refine W_region ?_
  refine s_move rfl rfl ?_
  refine s_lss rfl rfl rfl ?_
  refine s_move rfl rfl ?_
  refine WL_know (s := 52) (c := false) rfl ((by simp; omega)) ?_
  refine WL_take rfl ?_
  refine s_move rfl rfl ?_
  refine WL_take rfl ?_
  refine s_move rfl rfl ?_
  refine WL_take rfl ?_
  refine s_geq rfl rfl rfl ?_
  refine s_pick_f rfl rfl rfl ?_
  refine s_move rfl rfl ?_
  refine WL_know (s := 57) (c := false) rfl ((by simp; omega)) ?_
  refine WL_take rfl ?_
  refine s_move rfl rfl ?_
  refine WL_take rfl ?_
  refine s_lss rfl rfl rfl ?_
  refine s_pick_f rfl rfl rfl ?_
  refine s_move rfl rfl ?_
  refine WL_know (s := 61) (c := false) rfl ((by simp; omega)) ?_
  refine WL_take rfl ?_
  refine s_move rfl rfl ?_
  refine WL_take rfl ?_
  refine s_move rfl rfl ?_
  refine WL_take rfl ?_
  refine s_geq rfl rfl rfl ?_
  refine s_pick_f rfl rfl rfl ?_
  refine WL_nil ?_
  refine n_then ?_
  refine W_cond_kf rfl ((by simp; omega)) ?_
  refine W_skip ?_
  refine n_then ?_
  refine W_seq ?_
  refine W_seq ?_
  refine W_region ?_
  refine s_move rfl rfl ?_
  refine WL_nil ?_
  refine n_then ?_
  refine W_cond_kf rfl (rfl) ?_
  refine W_skip ?_
  refine n_then ?_
  refine W_seq ?_
  refine W_seq ?_
  refine W_region ?_
  refine s_assign rfl rfl ?_
  refine WL_nil ?_
  refine n_then ?_
  refine W_block ?_
  refine W_loop (σ := Nat × List Msg × Hp) (fun s => [(4, .int .i64 i), (11, .pointer (some ⟨p, 0, none⟩)), (13, .pointer (some ⟨b13, 0, none⟩)), (14, .int .i64 0), (15, .int .i64 (s.1 : Int))])
    (fun s w => St [] w0 w ((b13, Blk 32 [.int .i64 from_, .int .i64 to_, .slice (some ⟨b45, 0, none⟩) 1 1]) :: (b45, Blk 5 [.int .u8 1]) :: (s.2.2 ++ [])) ∧ NetAt p (List.replicate nodes.toNat 0) s.2.1 s.2.2 ∧ s.2.1.length = s.1 ∧ (∀ m ∈ s.2.1, m.bs = [1]) ∧ 1 ≤ s.1 ∧ s.1 ≤ 1000)
    (fun s => 1000 - s.1) (1, [⟨from_, to_, b1, [1]⟩], LN) ⟨rfl, rfl, rfl, rfl, rfl, trivial⟩ ⟨hs, hN, rfl, by simp, by show 1 ≤ 1; omega, by show 1 ≤ 1000; omega⟩ ?_
  clear hs hN
  rintro ⟨k, ms, LN⟩ w ⟨hs, hN, hml, hbs, hk1, hk2⟩
  simp only at hs hN hml hbs hk1 hk2
  refine W_seq ?_
  refine W_seq ?_
  refine W_region ?_
  refine s_move rfl rfl ?_
  refine s_lss rfl rfl rfl ?_
  refine WL_nil ?_
  refine n_then ?_
  refine W_cond rfl (fun hc96 => ?_) (fun hc96 => ?_)
  · skip
    simp only [decide_eq_true_eq, decide_eq_false_iff_not] at hc96
    refine W_skip ?_
    refine n_then ?_
    refine W_seq ?_
    refine W_block ?_
    refine W_seq ?_
    refine W_region ?_
    refine s_move rfl rfl ?_
    refine s_callL (M := [_, _]) (L1 := LN) (X := []) Try.call17 rfl rfl hs (fun h => copy_yes p _ ms 0 LN w hN h (by omega) (by omega) (fun m hm => by rw [hbs m hm]; simp)) ?_
    clear hs; intro v w LN h _ hs
    obtain ⟨h, _⟩ | ⟨_, rfl, m, b3, hm, hN⟩ := h
    case inl => exact absurd h (by omega)
    have hmb := hbs m (List.mem_of_getElem? hm)
    simp only [List.cons_append, List.nil_append] at hs
    refine s_neq rfl rfl rfl ?_
    refine WL_nil ?_
    refine n_then ?_
    refine W_cond_kf rfl (rfl) ?_
    refine W_skip ?_
    refine n_blk ?_
    refine n_then ?_
    refine W_region ?_
    refine s_move rfl rfl ?_
    first | (refine s_add' rfl rfl rfl ?hx ?_; case hx => (constructor <;> omega)) | refine s_add rfl rfl rfl ?_
    refine s_assign rfl rfl ?_
    refine WL_nil ?_
    refine n_loop ?_
    refine ⟨(k + 1, _, _), ⟨rfl, rfl, rfl, rfl, rfl, trivial⟩, ⟨hs, hN, by simp [hml], ?_, by show 1 ≤ k + 1; omega, by show k + 1 ≤ 1000; omega⟩, by show 1000 - (k + 1) < 1000 - k; omega⟩
    intro m' hm'
    rcases List.mem_append.1 hm' with h | h
    · exact hbs m' h
    · simp at h; rw [h]; exact hmb
  · skip
    simp only [decide_eq_true_eq, decide_eq_false_iff_not] at hc96
    obtain rfl : k = 1000 := by omega
    refine W_exit ?_
    refine x_then ?_
    refine x_then ?_
    refine exit_hit ?_
    refine n_then ?_
    refine W_seq ?_
    refine W_seq ?_
    refine W_region ?_
    refine s_move rfl rfl ?_
    refine s_call Try.call23 rfl rfl (len_ok p _ _ LN w hN (hs.lendM (M := [_, _]))) ?_
    rintro r w ⟨rfl, rfl⟩
    rw [hml]
    refine s_neq rfl rfl rfl ?_
    refine s_move rfl rfl ?_
    refine WL_know (s := 105) (c := false) rfl (rfl) ?_
    refine WL_take rfl ?_
    refine s_move rfl rfl ?_
    refine WL_take rfl ?_
    refine s_callL (M := [_, _]) (L1 := LN) (X := []) Try.call17 rfl rfl hs (fun h => copy_yes p _ ms 0 LN w hN h (by omega) (by omega) (fun m hm => by rw [hbs m hm]; simp)) ?_
    clear hs; intro v w LN h _ hs
    obtain ⟨_, rfl, hN⟩ | ⟨h, _⟩ := h
    case inr => exact absurd h (by omega)
    simp only [List.cons_append, List.nil_append] at hs
    refine WL_take rfl ?_
    refine s_neq rfl rfl rfl ?_
    refine s_pick_f rfl rfl rfl ?_
    refine s_move rfl rfl ?_
    refine WL_know (s := 110) (c := false) rfl (rfl) ?_
    refine WL_take rfl ?_
    refine s_move rfl rfl ?_
    refine WL_take rfl ?_
    first
      | refine s_loadW Try.isAgg32 Try.sizeOf32 rfl rfl hs (kk := 0) rfl rfl ?_
      | refine s_loadW Try.isAgg32 Try.sizeOf32 rfl rfl hs (kk := 1) rfl rfl ?_
      | refine s_loadW Try.isAgg32 Try.sizeOf32 rfl rfl hs (kk := 2) rfl rfl ?_
      | refine s_loadW Try.isAgg32 Try.sizeOf32 rfl rfl hs (kk := 3) rfl rfl ?_
      | refine s_loadW Try.isAgg32 Try.sizeOf32 rfl rfl hs (kk := 4) rfl rfl ?_
      | refine s_loadW Try.isAgg32 Try.sizeOf32 rfl rfl hs (kk := 5) rfl rfl ?_
      | refine s_loadW Try.isAgg32 Try.sizeOf32 rfl rfl hs (kk := 6) rfl rfl ?_
      | refine s_loadW Try.isAgg32 Try.sizeOf32 rfl rfl hs (kk := 7) rfl rfl ?_
      | refine s_loadW Try.isAgg32 Try.sizeOf32 rfl rfl hs (kk := 8) rfl rfl ?_
      | refine s_loadW Try.isAgg32 Try.sizeOf32 rfl rfl hs (kk := 9) rfl rfl ?_
      | refine s_load_3 Try.isAgg32 Try.sizeOf32 rfl rfl (by first | exact hs.cell (k := 0) rfl rfl | exact hs.cell (k := 1) rfl rfl | exact hs.cell (k := 2) rfl rfl | exact hs.cell (k := 3) rfl rfl | exact hs.cell (k := 4) rfl rfl | exact hs.cell (k := 5) rfl rfl | exact hs.cell (k := 6) rfl rfl | exact hs.cell (k := 7) rfl rfl | exact hs.cell (k := 8) rfl rfl | exact hs.cell (k := 9) rfl rfl) (by first | exact hs.cell (k := 0) rfl rfl | exact hs.cell (k := 1) rfl rfl | exact hs.cell (k := 2) rfl rfl | exact hs.cell (k := 3) rfl rfl | exact hs.cell (k := 4) rfl rfl | exact hs.cell (k := 5) rfl rfl | exact hs.cell (k := 6) rfl rfl | exact hs.cell (k := 7) rfl rfl | exact hs.cell (k := 8) rfl rfl | exact hs.cell (k := 9) rfl rfl) (by first | exact hs.cell (k := 0) rfl rfl | exact hs.cell (k := 1) rfl rfl | exact hs.cell (k := 2) rfl rfl | exact hs.cell (k := 3) rfl rfl | exact hs.cell (k := 4) rfl rfl | exact hs.cell (k := 5) rfl rfl | exact hs.cell (k := 6) rfl rfl | exact hs.cell (k := 7) rfl rfl | exact hs.cell (k := 8) rfl rfl | exact hs.cell (k := 9) rfl rfl) ?_
    refine WL_take rfl ?_
    refine s_callL (M := [_, _]) (L1 := LN) (X := []) Try.call12 rfl rfl hs (fun h => send_ok p _ ms from_ to_ _ [1] LN w hN h (hs.sl (k := 1) rfl (Nat.le_refl _) (by intro j u hj; rw [Nat.zero_add]; exact hj)) (by omega) (fun a m c he _ => by cases he; exact hs.notin (M := [_, _]) (by simp [ids]))) ?_
    clear hs hN; rintro v w LN ⟨rfl, ms', hN7, hms0, -⟩ - hs
    have hE2 : sendE (List.replicate nodes.toNat 0) ms from_ to_ [1] = 4 := by rw [sendE, if_neg (by rw [hgl]; simp; omega), if_pos (by omega)]
    obtain rfl := hms0 (by rw [hE2]; omega)
    rw [hE2]
    clear hms0
    simp only [List.cons_append, List.nil_append] at hs
    refine WL_take rfl ?_
    refine s_neq rfl rfl rfl ?_
    refine s_pick_f rfl rfl rfl ?_
    refine WL_nil ?_
    refine n_then ?_
    refine W_cond_kf rfl (rfl) ?_
    refine W_skip ?_
    refine n_then ?_
    refine W_seq ?_
    refine W_region ?_
    refine s_move rfl rfl ?_
    refine s_move rfl rfl ?_
    refine s_callL (M := [_, _]) (L1 := LN) (X := []) Try.call19 rfl rfl hs (fun h => drop_no p _ ms' i LN w hN7 h (by omega)) ?_
    clear hs; rintro v w LN ⟨rfl, hN8⟩ - hs
    simp only [List.cons_append, List.nil_append] at hs
    refine s_assign rfl rfl ?_
    refine WL_nil ?_
    refine n_then ?_
    refine W_seq ?_
    refine W_seq ?_
    refine W_region ?_
    refine s_move rfl rfl ?_
    refine s_lss rfl rfl rfl ?_
    refine s_move rfl rfl ?_
    refine WL_case (s := 121) rfl (fun hg121 => ?_) (fun hg121 => ?_)
    · skip
      simp only [decide_eq_true_eq, decide_eq_false_iff_not] at hg121
      refine WL_skip rfl rfl rfl ?_
      refine WL_skip rfl rfl rfl ?_
      refine s_pick_t rfl rfl rfl ?_
      refine WL_nil ?_
      refine n_then ?_
      refine W_cond_t rfl ?_
      refine W_seq ?_
      refine W_region ?_
      refine s_move rfl rfl ?_
      refine s_eql rfl rfl rfl ?_
      refine s_move rfl rfl ?_
      refine WL_know (s := 127) (c := true) rfl (rfl) ?_
      refine WL_take rfl ?_
      refine s_move rfl rfl ?_
      refine WL_take rfl ?_
      refine s_eql rfl rfl rfl ?_
      refine s_pick_t rfl rfl rfl ?_
      refine s_move rfl rfl ?_
      refine WL_know (s := 131) (c := true) rfl (rfl) ?_
      refine WL_take rfl ?_
      refine s_move rfl rfl ?_
      refine WL_take rfl ?_
      refine s_call Try.call23 rfl rfl (len_ok p _ _ LN w hN8 (hs.lendM (M := [_, _]))) ?_
      rintro r w ⟨rfl, rfl⟩
      rw [hml]
      refine WL_take rfl ?_
      refine s_eql rfl rfl rfl ?_
      refine s_pick_t rfl rfl rfl ?_
      refine s_move rfl rfl ?_
      refine WL_know (s := 136) (c := true) rfl (rfl) ?_
      refine WL_take rfl ?_
      refine s_call Try.call24 rfl rfl (lives_ok w) ?_
      rintro r w ⟨hst, rfl⟩
      replace hs := hs.fwd1 hst
      clear hst
      refine s_pick_t rfl rfl rfl ?_
      refine s_assign rfl rfl ?_
      refine WL_nil ?_
      refine n_then ?_
      refine W_ret ?_
      refine r_then ?_
      exact end1 rfl rfl ⟨hs.fwd, rfl⟩
    · skip
      simp only [decide_eq_true_eq, decide_eq_false_iff_not] at hg121
      refine WL_take rfl ?_
      refine s_move rfl rfl ?_
      refine WL_take rfl ?_
      refine s_geq rfl rfl rfl ?_
      refine s_pick_f rfl rfl rfl ?_
      refine WL_nil ?_
      refine n_then ?_
      refine W_cond_kt rfl ((by simp; omega)) ?_
      refine W_seq ?_
      refine W_region ?_
      refine s_move rfl rfl ?_
      refine s_eql rfl rfl rfl ?_
      refine s_move rfl rfl ?_
      refine WL_know (s := 127) (c := true) rfl (rfl) ?_
      refine WL_take rfl ?_
      refine s_move rfl rfl ?_
      refine WL_take rfl ?_
      refine s_eql rfl rfl rfl ?_
      refine s_pick_t rfl rfl rfl ?_
      refine s_move rfl rfl ?_
      refine WL_know (s := 131) (c := true) rfl (rfl) ?_
      refine WL_take rfl ?_
      refine s_move rfl rfl ?_
      refine WL_take rfl ?_
      refine s_call Try.call23 rfl rfl (len_ok p _ _ LN w hN8 (hs.lendM (M := [_, _]))) ?_
      rintro r w ⟨rfl, rfl⟩
      rw [hml]
      refine WL_take rfl ?_
      refine s_eql rfl rfl rfl ?_
      refine s_pick_t rfl rfl rfl ?_
      refine s_move rfl rfl ?_
      refine WL_know (s := 136) (c := true) rfl (rfl) ?_
      refine WL_take rfl ?_
      refine s_call Try.call24 rfl rfl (lives_ok w) ?_
      rintro r w ⟨hst, rfl⟩
      replace hs := hs.fwd1 hst
      clear hst
      refine s_pick_t rfl rfl rfl ?_
      refine s_assign rfl rfl ?_
      refine WL_nil ?_
      refine n_then ?_
      refine W_ret ?_
      refine r_then ?_
      exact end1 rfl rfl ⟨hs.fwd, rfl⟩
set_option maxHeartbeats 1000000 in
theorem args_e (nodes from_ to_ i : Int) (long : Bool) (w0 : World) (hn : -9223372036854775808 ≤ nodes ∧ nodes ≤ 9223372036854775807) (h : 1 ≤ nodes ∧ nodes ≤ 16) (hb : 0 ≤ from_ ∧ from_ < nodes ∧ 0 ≤ to_ ∧ to_ < nodes) (hlg : long = false) (hi : 0 ≤ i ∧ i < 1000) :
    Ret Try.prog 4 [.int .i64 nodes, .int .i64 from_, .int .i64 to_, .bool long, .int .i64 i].toArray w0 fun r w' => Fwd [] w0 w' ∧ r = .bool true := by
  subst hlg
  refine Ret_start fun w hs => ?_
  refine Ret_of Try.func4 rfl Try.ntmps4 rfl ?_
  refine W_seq ?_
  refine W_region ?_
  refine s_assign rfl rfl ?_
  refine WL_nil ?_
  refine n_then ?_
  refine W_seq ?_
  refine W_region ?_
  refine s_move rfl rfl ?_
  refine s_call Try.call25 rfl rfl (new_ok nodes w hn) ?_
  rintro r w (⟨_, _, p, LN, rfl, hN, hst⟩ | ⟨h, _⟩)
  case inr => exact absurd ⟨by omega, by omega⟩ h
  replace hs : St [] w0 w (LN ++ []) := St.back0 hs hst
  clear hst
  have hgl : (List.replicate nodes.toNat (0 : Int)).length = nodes.toNat := by simp
  refine s_move rfl rfl ?_
  refine s_extract rfl rfl rfl ?_
  refine s_extract rfl rfl rfl ?_
  refine s_assign rfl rfl ?_
  refine s_assign rfl rfl ?_
  refine WL_nil ?_
  refine n_then ?_
  refine W_seq ?_
  refine W_seq ?_
  refine W_region ?_
  refine s_move rfl rfl ?_
  refine s_lss rfl rfl rfl ?_
  refine s_move rfl rfl ?_
  refine WL_know (s := 24) (c := false) rfl ((by simp; omega)) ?_
  refine WL_take rfl ?_
  refine s_move rfl rfl ?_
  refine WL_take rfl ?_
  refine s_gtr rfl rfl rfl ?_
  refine s_pick_f rfl rfl rfl ?_
  refine WL_nil ?_
  refine n_then ?_
  refine W_cond_kf rfl ((by simp; omega)) ?_
  refine W_skip ?_
  refine n_then ?_
  refine W_seq ?_
  refine W_seq ?_
  refine W_region ?_
  refine s_move rfl rfl ?_
  refine s_eql_ptr_nil Try.underlying23 rfl rfl rfl ?_
  refine s_move rfl rfl ?_
  refine WL_know (s := 39) (c := false) rfl (rfl) ?_
  refine WL_take rfl ?_
  refine s_move rfl rfl ?_
  refine WL_take rfl ?_
  refine s_neq rfl rfl rfl ?_
  refine s_pick_f rfl rfl rfl ?_
  refine WL_nil ?_
  refine n_then ?_
  refine W_cond_kf rfl (rfl) ?_
  refine W_skip ?_
  refine n_then ?_
  refine W_seq ?_
  refine W_region ?_
  refine s_move rfl rfl ?_
  refine s_move rfl rfl ?_
  refine s_buildSlice rfl rfl (BS30_1 _) hs ?_; clear hs; intro b45 w hs
  refine s_build rfl rfl (BD32_0_1_2 _ _ _ _ _) ?_
  refine s_alloc rfl AL32 hs ?_; clear hs; intro b13 w hs
  first
    | refine s_storeW Try.sizeOf32 rfl rfl rfl rfl hs (kk := 0) rfl rfl ?_
    | refine s_storeW Try.sizeOf32 rfl rfl rfl rfl hs (kk := 1) rfl rfl ?_
    | refine s_storeW Try.sizeOf32 rfl rfl rfl rfl hs (kk := 2) rfl rfl ?_
    | refine s_storeW Try.sizeOf32 rfl rfl rfl rfl hs (kk := 3) rfl rfl ?_
    | refine s_storeW Try.sizeOf32 rfl rfl rfl rfl hs (kk := 4) rfl rfl ?_
    | refine s_storeW Try.sizeOf32 rfl rfl rfl rfl hs (kk := 5) rfl rfl ?_
    | refine s_storeW Try.sizeOf32 rfl rfl rfl rfl hs (kk := 6) rfl rfl ?_
    | refine s_storeW Try.sizeOf32 rfl rfl rfl rfl hs (kk := 7) rfl rfl ?_
    | refine s_storeW Try.sizeOf32 rfl rfl rfl rfl hs (kk := 8) rfl rfl ?_
    | refine s_storeW Try.sizeOf32 rfl rfl rfl rfl hs (kk := 9) rfl rfl ?_
    | refine s_storeAB Try.sizeOf32 rfl rfl rfl rfl hs (kk := 0) rfl rfl ?_
    | refine s_storeAB Try.sizeOf32 rfl rfl rfl rfl hs (kk := 1) rfl rfl ?_
    | refine s_storeAB Try.sizeOf32 rfl rfl rfl rfl hs (kk := 2) rfl rfl ?_
    | refine s_storeAB Try.sizeOf32 rfl rfl rfl rfl hs (kk := 3) rfl rfl ?_
    | refine s_storeAB Try.sizeOf32 rfl rfl rfl rfl hs (kk := 4) rfl rfl ?_
    | refine s_storeAB Try.sizeOf32 rfl rfl rfl rfl hs (kk := 5) rfl rfl ?_
    | refine s_storeAB Try.sizeOf32 rfl rfl rfl rfl hs (kk := 6) rfl rfl ?_
    | refine s_storeAB Try.sizeOf32 rfl rfl rfl rfl hs (kk := 7) rfl rfl ?_
    | refine s_storeAB Try.sizeOf32 rfl rfl rfl rfl hs (kk := 8) rfl rfl ?_
    | refine s_storeAB Try.sizeOf32 rfl rfl rfl rfl hs (kk := 9) rfl rfl ?_
  clear hs; intro w hs; try simp only [List.set_cons_zero, List.set_cons_succ, splice, List.take_succ_cons, List.take_zero, List.drop_succ_cons, List.drop_zero, List.nil_append, List.cons_append, List.length_cons, List.length_nil, Nat.reduceAdd, List.append_assoc] at hs
  refine WL_nil ?_
  refine n_then ?_
  refine W_seq ?_
  refine W_region ?_
  refine s_move rfl rfl ?_
  first
    | refine s_loadW Try.isAgg32 Try.sizeOf32 rfl rfl hs (kk := 0) rfl rfl ?_
    | refine s_loadW Try.isAgg32 Try.sizeOf32 rfl rfl hs (kk := 1) rfl rfl ?_
    | refine s_loadW Try.isAgg32 Try.sizeOf32 rfl rfl hs (kk := 2) rfl rfl ?_
    | refine s_loadW Try.isAgg32 Try.sizeOf32 rfl rfl hs (kk := 3) rfl rfl ?_
    | refine s_loadW Try.isAgg32 Try.sizeOf32 rfl rfl hs (kk := 4) rfl rfl ?_
    | refine s_loadW Try.isAgg32 Try.sizeOf32 rfl rfl hs (kk := 5) rfl rfl ?_
    | refine s_loadW Try.isAgg32 Try.sizeOf32 rfl rfl hs (kk := 6) rfl rfl ?_
    | refine s_loadW Try.isAgg32 Try.sizeOf32 rfl rfl hs (kk := 7) rfl rfl ?_
    | refine s_loadW Try.isAgg32 Try.sizeOf32 rfl rfl hs (kk := 8) rfl rfl ?_
    | refine s_loadW Try.isAgg32 Try.sizeOf32 rfl rfl hs (kk := 9) rfl rfl ?_
    | refine s_load_3 Try.isAgg32 Try.sizeOf32 rfl rfl (by first | exact hs.cell (k := 0) rfl rfl | exact hs.cell (k := 1) rfl rfl | exact hs.cell (k := 2) rfl rfl | exact hs.cell (k := 3) rfl rfl | exact hs.cell (k := 4) rfl rfl | exact hs.cell (k := 5) rfl rfl | exact hs.cell (k := 6) rfl rfl | exact hs.cell (k := 7) rfl rfl | exact hs.cell (k := 8) rfl rfl | exact hs.cell (k := 9) rfl rfl) (by first | exact hs.cell (k := 0) rfl rfl | exact hs.cell (k := 1) rfl rfl | exact hs.cell (k := 2) rfl rfl | exact hs.cell (k := 3) rfl rfl | exact hs.cell (k := 4) rfl rfl | exact hs.cell (k := 5) rfl rfl | exact hs.cell (k := 6) rfl rfl | exact hs.cell (k := 7) rfl rfl | exact hs.cell (k := 8) rfl rfl | exact hs.cell (k := 9) rfl rfl) (by first | exact hs.cell (k := 0) rfl rfl | exact hs.cell (k := 1) rfl rfl | exact hs.cell (k := 2) rfl rfl | exact hs.cell (k := 3) rfl rfl | exact hs.cell (k := 4) rfl rfl | exact hs.cell (k := 5) rfl rfl | exact hs.cell (k := 6) rfl rfl | exact hs.cell (k := 7) rfl rfl | exact hs.cell (k := 8) rfl rfl | exact hs.cell (k := 9) rfl rfl) ?_
  refine s_callL (M := [_, _]) (L1 := LN) (X := []) Try.call12 rfl rfl hs (fun h => send_ok p _ [] from_ to_ _ [1] LN w hN h (hs.sl (k := 1) rfl (Nat.le_refl _) (by intro j u hj; rw [Nat.zero_add]; exact hj)) (by simp) (fun a m c he _ => by cases he; exact hs.notin (M := [_, _]) (by simp [ids]))) ?_
  clear hs; rintro v w LN ⟨rfl, ms, hN, hms0, hms⟩ - hs
  have hE : sendE (List.replicate nodes.toNat 0) [] from_ to_ [1] = 0 := by rw [sendE, if_neg (by rw [hgl]; simp; omega), if_neg (by simp)]
  obtain ⟨b1, rfl⟩ := hms hE
  rw [hE]
  clear hms0 hms
  simp only [List.cons_append, List.nil_append] at hs hN
  refine s_assign rfl rfl ?_
  refine WL_nil ?_
  refine n_then ?_
  refine W_seq ?_
  refine W_seq ?_
  refine W_region ?_
  refine s_move rfl rfl ?_
  refine s_lss rfl rfl rfl ?_
  refine s_move rfl rfl ?_
  refine WL_know (s := 52) (c := false) rfl ((by simp; omega)) ?_
  refine WL_take rfl ?_
  refine s_move rfl rfl ?_
  refine WL_take rfl ?_
  refine s_move rfl rfl ?_
  refine WL_take rfl ?_
  refine s_geq rfl rfl rfl ?_
  refine s_pick_f rfl rfl rfl ?_
  refine s_move rfl rfl ?_
  refine WL_know (s := 57) (c := false) rfl ((by simp; omega)) ?_
  refine WL_take rfl ?_
  refine s_move rfl rfl ?_
  refine WL_take rfl ?_
  refine s_lss rfl rfl rfl ?_
  refine s_pick_f rfl rfl rfl ?_
  refine s_move rfl rfl ?_
  refine WL_know (s := 61) (c := false) rfl ((by simp; omega)) ?_
  refine WL_take rfl ?_
  refine s_move rfl rfl ?_
  refine WL_take rfl ?_
  refine s_move rfl rfl ?_
  refine WL_take rfl ?_
  refine s_geq rfl rfl rfl ?_
  refine s_pick_f rfl rfl rfl ?_
  refine WL_nil ?_
  refine n_then ?_
  refine W_cond_kf rfl ((by simp; omega)) ?_
  refine W_skip ?_
  refine n_then ?_
  refine W_seq ?_
  refine W_seq ?_
  refine W_region ?_
  refine s_move rfl rfl ?_
  refine WL_nil ?_
  refine n_then ?_
  refine W_cond_kf rfl (rfl) ?_
  refine W_skip ?_
  refine n_then ?_
  refine W_seq ?_
  refine W_seq ?_
  refine W_region ?_
  refine s_assign rfl rfl ?_
  refine WL_nil ?_
  refine n_then ?_
  refine W_block ?_
  refine W_loop (σ := Nat × List Msg × Hp) (fun s => [(4, .int .i64 i), (11, .pointer (some ⟨p, 0, none⟩)), (13, .pointer (some ⟨b13, 0, none⟩)), (14, .int .i64 0), (15, .int .i64 (s.1 : Int))])
    (fun s w => St [] w0 w ((b13, Blk 32 [.int .i64 from_, .int .i64 to_, .slice (some ⟨b45, 0, none⟩) 1 1]) :: (b45, Blk 5 [.int .u8 1]) :: (s.2.2 ++ [])) ∧ NetAt p (List.replicate nodes.toNat 0) s.2.1 s.2.2 ∧ s.2.1.length = s.1 ∧ (∀ m ∈ s.2.1, m.bs = [1]) ∧ 1 ≤ s.1 ∧ s.1 ≤ 1000)
    (fun s => 1000 - s.1) (1, [⟨from_, to_, b1, [1]⟩], LN) ⟨rfl, rfl, rfl, rfl, rfl, trivial⟩ ⟨hs, hN, rfl, by simp, by show 1 ≤ 1; omega, by show 1 ≤ 1000; omega⟩ ?_
  clear hs hN
  rintro ⟨k, ms, LN⟩ w ⟨hs, hN, hml, hbs, hk1, hk2⟩
  simp only at hs hN hml hbs hk1 hk2
  refine W_seq ?_
  refine W_seq ?_
  refine W_region ?_
  refine s_move rfl rfl ?_
  refine s_lss rfl rfl rfl ?_
  refine WL_nil ?_
  refine n_then ?_
  refine W_cond rfl (fun hc96 => ?_) (fun hc96 => ?_)
  · skip
    simp only [decide_eq_true_eq, decide_eq_false_iff_not] at hc96
    refine W_skip ?_
    refine n_then ?_
    refine W_seq ?_
    refine W_block ?_
    refine W_seq ?_
    refine W_region ?_
    refine s_move rfl rfl ?_
    refine s_callL (M := [_, _]) (L1 := LN) (X := []) Try.call17 rfl rfl hs (fun h => copy_yes p _ ms 0 LN w hN h (by omega) (by omega) (fun m hm => by rw [hbs m hm]; simp)) ?_
    clear hs; intro v w LN h _ hs
    obtain ⟨h, _⟩ | ⟨_, rfl, m, b3, hm, hN⟩ := h
    case inl => exact absurd h (by omega)
    have hmb := hbs m (List.mem_of_getElem? hm)
    simp only [List.cons_append, List.nil_append] at hs
    refine s_neq rfl rfl rfl ?_
    refine WL_nil ?_
    refine n_then ?_
    refine W_cond_kf rfl (rfl) ?_
    refine W_skip ?_
    refine n_blk ?_
    refine n_then ?_
    refine W_region ?_
    refine s_move rfl rfl ?_
    first | (refine s_add' rfl rfl rfl ?hx ?_; case hx => (constructor <;> omega)) | refine s_add rfl rfl rfl ?_
    refine s_assign rfl rfl ?_
    refine WL_nil ?_
    refine n_loop ?_
    refine ⟨(k + 1, _, _), ⟨rfl, rfl, rfl, rfl, rfl, trivial⟩, ⟨hs, hN, by simp [hml], ?_, by show 1 ≤ k + 1; omega, by show k + 1 ≤ 1000; omega⟩, by show 1000 - (k + 1) < 1000 - k; omega⟩
    intro m' hm'
    rcases List.mem_append.1 hm' with h | h
    · exact hbs m' h
    · simp at h; rw [h]; exact hmb
  · skip
    simp only [decide_eq_true_eq, decide_eq_false_iff_not] at hc96
    obtain rfl : k = 1000 := by omega
    refine W_exit ?_
    refine x_then ?_
    refine x_then ?_
    refine exit_hit ?_
    refine n_then ?_
    refine W_seq ?_
    refine W_seq ?_
    refine W_region ?_
    refine s_move rfl rfl ?_
    refine s_call Try.call23 rfl rfl (len_ok p _ _ LN w hN (hs.lendM (M := [_, _]))) ?_
    rintro r w ⟨rfl, rfl⟩
    rw [hml]
    refine s_neq rfl rfl rfl ?_
    refine s_move rfl rfl ?_
    refine WL_know (s := 105) (c := false) rfl (rfl) ?_
    refine WL_take rfl ?_
    refine s_move rfl rfl ?_
    refine WL_take rfl ?_
    refine s_callL (M := [_, _]) (L1 := LN) (X := []) Try.call17 rfl rfl hs (fun h => copy_yes p _ ms 0 LN w hN h (by omega) (by omega) (fun m hm => by rw [hbs m hm]; simp)) ?_
    clear hs; intro v w LN h _ hs
    obtain ⟨_, rfl, hN⟩ | ⟨h, _⟩ := h
    case inr => exact absurd h (by omega)
    simp only [List.cons_append, List.nil_append] at hs
    refine WL_take rfl ?_
    refine s_neq rfl rfl rfl ?_
    refine s_pick_f rfl rfl rfl ?_
    refine s_move rfl rfl ?_
    refine WL_know (s := 110) (c := false) rfl (rfl) ?_
    refine WL_take rfl ?_
    refine s_move rfl rfl ?_
    refine WL_take rfl ?_
    first
      | refine s_loadW Try.isAgg32 Try.sizeOf32 rfl rfl hs (kk := 0) rfl rfl ?_
      | refine s_loadW Try.isAgg32 Try.sizeOf32 rfl rfl hs (kk := 1) rfl rfl ?_
      | refine s_loadW Try.isAgg32 Try.sizeOf32 rfl rfl hs (kk := 2) rfl rfl ?_
      | refine s_loadW Try.isAgg32 Try.sizeOf32 rfl rfl hs (kk := 3) rfl rfl ?_
      | refine s_loadW Try.isAgg32 Try.sizeOf32 rfl rfl hs (kk := 4) rfl rfl ?_
      | refine s_loadW Try.isAgg32 Try.sizeOf32 rfl rfl hs (kk := 5) rfl rfl ?_
      | refine s_loadW Try.isAgg32 Try.sizeOf32 rfl rfl hs (kk := 6) rfl rfl ?_
      | refine s_loadW Try.isAgg32 Try.sizeOf32 rfl rfl hs (kk := 7) rfl rfl ?_
      | refine s_loadW Try.isAgg32 Try.sizeOf32 rfl rfl hs (kk := 8) rfl rfl ?_
      | refine s_loadW Try.isAgg32 Try.sizeOf32 rfl rfl hs (kk := 9) rfl rfl ?_
      | refine s_load_3 Try.isAgg32 Try.sizeOf32 rfl rfl (by first | exact hs.cell (k := 0) rfl rfl | exact hs.cell (k := 1) rfl rfl | exact hs.cell (k := 2) rfl rfl | exact hs.cell (k := 3) rfl rfl | exact hs.cell (k := 4) rfl rfl | exact hs.cell (k := 5) rfl rfl | exact hs.cell (k := 6) rfl rfl | exact hs.cell (k := 7) rfl rfl | exact hs.cell (k := 8) rfl rfl | exact hs.cell (k := 9) rfl rfl) (by first | exact hs.cell (k := 0) rfl rfl | exact hs.cell (k := 1) rfl rfl | exact hs.cell (k := 2) rfl rfl | exact hs.cell (k := 3) rfl rfl | exact hs.cell (k := 4) rfl rfl | exact hs.cell (k := 5) rfl rfl | exact hs.cell (k := 6) rfl rfl | exact hs.cell (k := 7) rfl rfl | exact hs.cell (k := 8) rfl rfl | exact hs.cell (k := 9) rfl rfl) (by first | exact hs.cell (k := 0) rfl rfl | exact hs.cell (k := 1) rfl rfl | exact hs.cell (k := 2) rfl rfl | exact hs.cell (k := 3) rfl rfl | exact hs.cell (k := 4) rfl rfl | exact hs.cell (k := 5) rfl rfl | exact hs.cell (k := 6) rfl rfl | exact hs.cell (k := 7) rfl rfl | exact hs.cell (k := 8) rfl rfl | exact hs.cell (k := 9) rfl rfl) ?_
    refine WL_take rfl ?_
    refine s_callL (M := [_, _]) (L1 := LN) (X := []) Try.call12 rfl rfl hs (fun h => send_ok p _ ms from_ to_ _ [1] LN w hN h (hs.sl (k := 1) rfl (Nat.le_refl _) (by intro j u hj; rw [Nat.zero_add]; exact hj)) (by omega) (fun a m c he _ => by cases he; exact hs.notin (M := [_, _]) (by simp [ids]))) ?_
    clear hs hN; rintro v w LN ⟨rfl, ms', hN7, hms0, -⟩ - hs
    have hE2 : sendE (List.replicate nodes.toNat 0) ms from_ to_ [1] = 4 := by rw [sendE, if_neg (by rw [hgl]; simp; omega), if_pos (by omega)]
    obtain rfl := hms0 (by rw [hE2]; omega)
    rw [hE2]
    clear hms0
    simp only [List.cons_append, List.nil_append] at hs
    refine WL_take rfl ?_
    refine s_neq rfl rfl rfl ?_
    refine s_pick_f rfl rfl rfl ?_
    refine WL_nil ?_
    refine n_then ?_
    refine W_cond_kf rfl (rfl) ?_
    refine W_skip ?_
    refine n_then ?_
    refine W_seq ?_
    refine W_region ?_
    refine s_move rfl rfl ?_
    refine s_move rfl rfl ?_
    refine s_callL (M := [_, _]) (L1 := LN) (X := []) Try.call19 rfl rfl hs (fun h => drop_yes p _ ms' i LN w hN7 h (by omega) (by omega)) ?_
    clear hs; rintro v w LN ⟨rfl, hN8⟩ - hs
    simp only [List.cons_append, List.nil_append] at hs
    have hel : (ms'.eraseIdx i.toNat).length = 999 := by rw [List.length_eraseIdx, if_pos (by omega)]; omega
    refine s_assign rfl rfl ?_
    refine WL_nil ?_
    refine n_then ?_
    refine W_seq ?_
    refine W_seq ?_
    refine W_region ?_
    refine s_move rfl rfl ?_
    refine s_lss rfl rfl rfl ?_
    refine s_move rfl rfl ?_
    refine WL_know (s := 121) (c := false) rfl ((by simp; omega)) ?_
    refine WL_take rfl ?_
    refine s_move rfl rfl ?_
    refine WL_take rfl ?_
    refine s_geq rfl rfl rfl ?_
    refine s_pick_f rfl rfl rfl ?_
    refine WL_nil ?_
    refine n_then ?_
    refine W_cond_kf rfl ((by simp; omega)) ?_
    refine W_skip ?_
    refine n_then ?_
    refine W_seq ?_
    refine W_region ?_
    refine s_move rfl rfl ?_
    refine s_eql rfl rfl rfl ?_
    refine s_move rfl rfl ?_
    refine WL_know (s := 141) (c := true) rfl (rfl) ?_
    refine WL_take rfl ?_
    refine s_move rfl rfl ?_
    refine WL_take rfl ?_
    refine s_eql rfl rfl rfl ?_
    refine s_pick_t rfl rfl rfl ?_
    refine s_move rfl rfl ?_
    refine WL_know (s := 145) (c := true) rfl (rfl) ?_
    refine WL_take rfl ?_
    refine s_move rfl rfl ?_
    refine WL_take rfl ?_
    first
      | refine s_loadW Try.isAgg32 Try.sizeOf32 rfl rfl hs (kk := 0) rfl rfl ?_
      | refine s_loadW Try.isAgg32 Try.sizeOf32 rfl rfl hs (kk := 1) rfl rfl ?_
      | refine s_loadW Try.isAgg32 Try.sizeOf32 rfl rfl hs (kk := 2) rfl rfl ?_
      | refine s_loadW Try.isAgg32 Try.sizeOf32 rfl rfl hs (kk := 3) rfl rfl ?_
      | refine s_loadW Try.isAgg32 Try.sizeOf32 rfl rfl hs (kk := 4) rfl rfl ?_
      | refine s_loadW Try.isAgg32 Try.sizeOf32 rfl rfl hs (kk := 5) rfl rfl ?_
      | refine s_loadW Try.isAgg32 Try.sizeOf32 rfl rfl hs (kk := 6) rfl rfl ?_
      | refine s_loadW Try.isAgg32 Try.sizeOf32 rfl rfl hs (kk := 7) rfl rfl ?_
      | refine s_loadW Try.isAgg32 Try.sizeOf32 rfl rfl hs (kk := 8) rfl rfl ?_
      | refine s_loadW Try.isAgg32 Try.sizeOf32 rfl rfl hs (kk := 9) rfl rfl ?_
      | refine s_load_3 Try.isAgg32 Try.sizeOf32 rfl rfl (by first | exact hs.cell (k := 0) rfl rfl | exact hs.cell (k := 1) rfl rfl | exact hs.cell (k := 2) rfl rfl | exact hs.cell (k := 3) rfl rfl | exact hs.cell (k := 4) rfl rfl | exact hs.cell (k := 5) rfl rfl | exact hs.cell (k := 6) rfl rfl | exact hs.cell (k := 7) rfl rfl | exact hs.cell (k := 8) rfl rfl | exact hs.cell (k := 9) rfl rfl) (by first | exact hs.cell (k := 0) rfl rfl | exact hs.cell (k := 1) rfl rfl | exact hs.cell (k := 2) rfl rfl | exact hs.cell (k := 3) rfl rfl | exact hs.cell (k := 4) rfl rfl | exact hs.cell (k := 5) rfl rfl | exact hs.cell (k := 6) rfl rfl | exact hs.cell (k := 7) rfl rfl | exact hs.cell (k := 8) rfl rfl | exact hs.cell (k := 9) rfl rfl) (by first | exact hs.cell (k := 0) rfl rfl | exact hs.cell (k := 1) rfl rfl | exact hs.cell (k := 2) rfl rfl | exact hs.cell (k := 3) rfl rfl | exact hs.cell (k := 4) rfl rfl | exact hs.cell (k := 5) rfl rfl | exact hs.cell (k := 6) rfl rfl | exact hs.cell (k := 7) rfl rfl | exact hs.cell (k := 8) rfl rfl | exact hs.cell (k := 9) rfl rfl) ?_
    refine WL_take rfl ?_
    refine s_callL (M := [_, _]) (L1 := LN) (X := []) Try.call12 rfl rfl hs (fun h => send_ok p _ _ from_ to_ _ [1] LN w hN8 h (hs.sl (k := 1) rfl (Nat.le_refl _) (by intro j u hj; rw [Nat.zero_add]; exact hj)) (by omega) (fun a m c he _ => by cases he; exact hs.notin (M := [_, _]) (by simp [ids]))) ?_
    clear hs; rintro v w LN ⟨rfl, ms2, hN9, -, hms⟩ - hs
    have hE3 : sendE (List.replicate nodes.toNat 0) (ms'.eraseIdx i.toNat) from_ to_ [1] = 0 := by rw [sendE, if_neg (by rw [hgl]; simp; omega), if_neg (by omega)]
    obtain ⟨b9, rfl⟩ := hms hE3
    rw [hE3]
    simp only [List.cons_append, List.nil_append] at hs
    refine WL_take rfl ?_
    refine s_eql rfl rfl rfl ?_
    refine s_pick_t rfl rfl rfl ?_
    refine s_move rfl rfl ?_
    refine WL_know (s := 151) (c := true) rfl (rfl) ?_
    refine WL_take rfl ?_
    refine s_move rfl rfl ?_
    refine WL_take rfl ?_
    refine s_call Try.call23 rfl rfl (len_ok p _ _ LN w hN9 (hs.lendM (M := [_, _]))) ?_
    rintro r w ⟨rfl, rfl⟩
    rw [List.length_append, hel]
    refine WL_take rfl ?_
    refine s_eql rfl rfl rfl ?_
    refine s_pick_t rfl rfl rfl ?_
    refine s_move rfl rfl ?_
    refine WL_know (s := 156) (c := true) rfl (rfl) ?_
    refine WL_take rfl ?_
    refine s_call Try.call24 rfl rfl (lives_ok w) ?_
    rintro r w ⟨hst, rfl⟩
    replace hs := hs.fwd1 hst
    clear hst
    refine s_pick_t rfl rfl rfl ?_
    refine s_assign rfl rfl ?_
    refine WL_nil ?_
    refine n_then ?_
    refine W_ret ?_
    exact end1 rfl rfl ⟨hs.fwd, rfl⟩
theorem netArguments_ok (nodes from_ to_ i : Int) (long : Bool) (w0 : World) (hn : -9223372036854775808 ≤ nodes ∧ nodes ≤ 9223372036854775807) :
    Ret Try.prog 4 [.int .i64 nodes, .int .i64 from_, .int .i64 to_, .bool long, .int .i64 i].toArray w0 fun r w' => Fwd [] w0 w' ∧ r = .bool true := by
  by_cases h : 1 ≤ nodes ∧ nodes ≤ 16
  · by_cases hb : 0 ≤ from_ ∧ from_ < nodes ∧ 0 ≤ to_ ∧ to_ < nodes
    · cases hl : long with
      | true => exact args_c nodes from_ to_ i true w0 hn h hb rfl
      | false =>
        by_cases hi : 0 ≤ i ∧ i < 1000
        · exact args_e nodes from_ to_ i false w0 hn h hb rfl hi
        · exact args_d nodes from_ to_ i false w0 hn h hb rfl hi
    · exact args_b nodes from_ to_ i long w0 hn h (by omega)
  · exact args_a nodes from_ to_ i long w0 hn h
end Go.Proofs.Ytgkdbiibbfipjaa
