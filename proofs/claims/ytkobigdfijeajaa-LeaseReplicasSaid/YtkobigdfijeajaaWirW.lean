/- Contracts of package wire: the writer. -/
import Derived.Test.YtkobigdfijeajaaLib
import Derived.Test.YtkobigdfijeajaaWirP
import Derived.Test.YtkobigdfijeajaaCut
set_option linter.unusedVariables false
set_option linter.unusedSimpArgs false
namespace Go.Proofs.Ytkobigdfijeajaa
open Go.SL
/-- the writer at p: the bytes so far -/
def WrAt (p : Nat) (bs : List Int) (L : Hp) : Prop := ∃ v Lb, L = (p, Blk 136 [v]) :: Lb ∧ OwnS 5 1 v bs.length (u8s bs) Lb
theorem wr_new (p : Nat) : WrAt p [] [(p, Blk 136 [.slice none 0 0])] := ⟨_, [], rfl, OwnS.nil _ _⟩
theorem wUint_ok (p : Nat) (bs : List Int) (n : Nat) (L0 : Hp) (w0 : World) (hW : WrAt p bs L0) (hs : St (ids L0) w0 w0 L0) (hn : n < 18446744073709551616) (hl : bs.length ≤ 1099511627776) :
    Ret Try.prog 89 [.pointer (some ⟨p, 0, none⟩), .int .u64 n].toArray w0 fun r w' => ∃ L', St (ids L0) w0 w' L' ∧ WrAt p (bs ++ uvar n) L' ∧ r = .tuple #[] := by
  refine Ret_of Try.func89 rfl Try.ntmps89 rfl ?_
  refine W_seq ?_
  refine W_block ?_
  refine W_loop (σ := Nat × List Int × Hp) (fun s => [(0, .pointer (some ⟨p, 0, none⟩)), (1, .int .u64 (s.1 : Int))]) (fun s w => St (ids L0) w0 w s.2.2 ∧ WrAt p s.2.1 s.2.2 ∧ s.2.1 ++ uvar s.1 = bs ++ uvar n ∧ s.1 < 18446744073709551616) (fun s => s.1) (n, bs, L0) ⟨rfl, rfl, trivial⟩ ⟨hs, hW, rfl, hn⟩ ?_
  clear hs hW
  rintro ⟨m, cs, L⟩ w ⟨hs, ⟨v, Lb, hL, hO⟩, hcat, hm⟩
  simp only at hs hL hO hcat hm ⊢
  subst hL
  have hlen : cs.length ≤ bs.length + 10 := by
    have := congrArg List.length hcat
    have h2 := uvar_len10 hn
    simp only [List.length_append] at this; omega
  obtain ⟨_, vc, va, rfl, rfl⟩ := hO.form
  refine W_seq ?_
  refine W_seq ?_
  refine W_region ?_
  refine s_move rfl rfl ?_
  refine s_geq rfl rfl rfl ?_
  refine WL_nil ?_
  refine n_then ?_
  refine W_cond rfl (fun hc5 => ?_) (fun hc5 => ?_)
  · skip
    simp only [decide_eq_true_eq, decide_eq_false_iff_not] at hc5
    refine W_skip ?_
    refine n_then ?_
    refine W_block ?_
    refine W_seq ?_
    refine W_region ?_
    refine s_move rfl rfl ?_
    refine s_move rfl rfl ?_
    refine s_nilCheck rfl rfl ?_
    refine s_fieldAddr rfl rfl (FA136_0 _ _) ?_
    first
      | refine s_load Try.isAgg22 rfl rfl (hs.cell (k := 0) rfl rfl) ?_
    refine s_move rfl rfl ?_
    refine s_convert rfl rfl (CV142_5 _) ?_
    refine s_or rfl rfl rfl ?_
    rw [or128]
    refine s_buildSlice rfl rfl (BS22_1 _) hs ?_; clear hs; intro b14 w hs
    refine s_appendM (M := [_, _]) (X := []) El22 rfl rfl rfl hO (by simpa using hs) (hs.sl (k := 0) (ds := [_]) rfl (Nat.le_refl _) (by intro j u hj; rw [Nat.zero_add]; exact hj)) rfl (by simp [Value.oneCell']) (by omega) ?_
    clear hs; intro v' w Lv' hO' hs
    obtain ⟨_, vc', va', rfl, rfl⟩ := hO'.form
    simp only [List.cons_append, List.nil_append, List.append_nil] at hs
    refine s_nilCheck rfl rfl ?_
    refine s_fieldAddr rfl rfl (FA136_0 _ _) ?_
    first
      | refine s_storeB Try.sizeOf22 rfl rfl rfl hs (kk := 1) rfl rfl ?_
    clear hs; intro w hs; try simp only [List.set_cons_zero, List.set_cons_succ, splice, List.take_succ_cons, List.take_zero, List.drop_succ_cons, List.drop_zero, List.nil_append, List.cons_append, List.length_cons, List.length_nil, Nat.reduceAdd, List.append_assoc] at hs
    refine WL_nil ?_
    refine n_then ?_
    refine W_region ?_
    refine s_move rfl rfl ?_
    (refine s_shr rfl rfl rfl ?hx ?_; case hx => omega)
    have hsh : (m : Int).fdiv (2 ^ (min (7 : Int).toNat IntKind.u64.bits)) = ((m / 128 : Nat) : Int) := by
      rw [show (2 : Int) ^ (min (7 : Int).toNat IntKind.u64.bits) = 128 from rfl, Int.fdiv_eq_ediv_of_nonneg _ (by omega)]; rfl
    rw [hsh]
    refine s_assign rfl rfl ?_
    refine WL_nil ?_
    refine n_blk ?_
    refine n_loop ?_
    refine ⟨(m / 128, cs ++ [((m % 128 + 128 : Nat) : Int)], _), ⟨rfl, rfl, trivial⟩, ⟨hs.tail, ⟨_, Lv', rfl, by simpa using hO'⟩, ?_, by simp only; omega⟩, by simp only; omega⟩
    rw [← hcat, uvar_hi (n := m) (by omega)]; simp
  · skip
    simp only [decide_eq_true_eq, decide_eq_false_iff_not] at hc5
    refine W_exit ?_
    refine x_then ?_
    refine x_then ?_
    refine exit_hit ?_
    refine n_then ?_
    refine W_region ?_
    refine s_move rfl rfl ?_
    refine s_move rfl rfl ?_
    refine s_nilCheck rfl rfl ?_
    refine s_fieldAddr rfl rfl (FA136_0 _ _) ?_
    first
      | refine s_load Try.isAgg22 rfl rfl (hs.cell (k := 0) rfl rfl) ?_
    refine s_move rfl rfl ?_
    refine s_convert rfl rfl (CV142_5 _) ?_
    rw [IntWalk.u8_in _ (by omega)]
    refine s_buildSlice rfl rfl (BS22_1 _) hs ?_; clear hs; intro b27 w hs
    refine s_appendM (M := [_, _]) (X := []) El22 rfl rfl rfl hO (by simpa using hs) (hs.sl (k := 0) (ds := [_]) rfl (Nat.le_refl _) (by intro j u hj; rw [Nat.zero_add]; exact hj)) rfl (by simp [Value.oneCell']) (by omega) ?_
    clear hs; intro v' w Lv' hO' hs
    obtain ⟨_, vc', va', rfl, rfl⟩ := hO'.form
    simp only [List.cons_append, List.nil_append, List.append_nil] at hs
    refine s_nilCheck rfl rfl ?_
    refine s_fieldAddr rfl rfl (FA136_0 _ _) ?_
    first
      | refine s_storeB Try.sizeOf22 rfl rfl rfl hs (kk := 1) rfl rfl ?_
    clear hs; intro w hs; try simp only [List.set_cons_zero, List.set_cons_succ, splice, List.take_succ_cons, List.take_zero, List.drop_succ_cons, List.drop_zero, List.nil_append, List.cons_append, List.length_cons, List.length_nil, Nat.reduceAdd, List.append_assoc] at hs
    refine WL_nil ?_
    refine end0' rfl ⟨_, hs.tail, ⟨_, Lv', rfl, ?_⟩, rfl⟩
    rw [← hcat, uvar_lo (n := m) (by omega)]; simpa using hO'
theorem wInt_ok (p : Nat) (bs : List Int) (n : Int) (L0 : Hp) (w0 : World) (hW : WrAt p bs L0) (hs : St (ids L0) w0 w0 L0) (hn : isI64 n) (hl : bs.length ≤ 1099511627776) :
    Ret Try.prog 79 [.pointer (some ⟨p, 0, none⟩), .int .i64 n].toArray w0 fun r w' => ∃ L', St (ids L0) w0 w' L' ∧ WrAt p (bs ++ uvar (zz n)) L' ∧ r = .tuple #[] := by
  refine Ret_startL hs fun w hs => ?_
  refine Ret_of Try.func79 rfl Try.ntmps79 rfl ?_
  refine W_region ?_
  refine s_move rfl rfl ?_
  refine s_move rfl rfl ?_
  refine s_convert rfl rfl (CV3_142 _) ?_
  (refine s_shl rfl rfl rfl ?hx ?_; case hx => omega)
  refine s_move rfl rfl ?_
  (refine s_shr rfl rfl rfl ?hx ?_; case hx => omega)
  refine s_convert rfl rfl (CV3_142 _) ?_
  refine s_xor rfl rfl rfl ?_
  rw [zig n hn]
  refine s_callL (M := []) (L1 := L0) (X := []) Try.call89 rfl rfl (by simpa using hs) (fun h => wUint_ok p bs (zz n) L0 w hW h (zz_lt hn) hl) ?_
  clear hs; rintro v w L2 ⟨hW2, rfl⟩ - hs
  simp only [List.nil_append, List.append_nil] at hs
  refine WL_nil ?_
  exact end0' rfl ⟨_, hs, hW2, rfl⟩
theorem wBool_ok (p : Nat) (bs : List Int) (b : Bool) (L0 : Hp) (w0 : World) (hW : WrAt p bs L0) (hs : St (ids L0) w0 w0 L0) (hl : bs.length ≤ 1099511627776) :
    Ret Try.prog 90 [.pointer (some ⟨p, 0, none⟩), .bool b].toArray w0 fun r w' => ∃ L', St (ids L0) w0 w' L' ∧ WrAt p (bs ++ [if b then 1 else 0]) L' ∧ r = .tuple #[] := by
  obtain ⟨v, Lb, hL, hO⟩ := hW
  obtain ⟨_, vc, va, rfl, rfl⟩ := hO.form
  replace hs : St (ids L0) w0 w0 ((p, Blk 136 [.slice va bs.length vc]) :: Lb) := by rw [hL] at hs ⊢; exact hs
  refine Ret_startL hs fun w hs => ?_
  refine Ret_of Try.func90 rfl Try.ntmps90 rfl ?_
  refine W_seq ?_
  refine W_region ?_
  refine s_move rfl rfl ?_
  refine WL_nil ?_
  refine n_then ?_
  refine W_cond rfl (fun hc4 => ?_) (fun hc4 => ?_)
  · skip
    refine W_region ?_
    refine s_move rfl rfl ?_
    refine s_move rfl rfl ?_
    refine s_nilCheck rfl rfl ?_
    refine s_fieldAddr rfl rfl (FA136_0 _ _) ?_
    first
      | refine s_load Try.isAgg22 rfl rfl (hs.cell (k := 0) rfl rfl) ?_
    refine s_buildSlice rfl rfl (BS22_1 _) hs ?_; clear hs; intro b10 w hs
    refine s_appendM (M := [_, _]) (X := []) El22 rfl rfl rfl hO (by simpa using hs) (hs.sl (k := 0) (ds := [_]) rfl (Nat.le_refl _) (by intro j u hj; rw [Nat.zero_add]; exact hj)) rfl (by simp [Value.oneCell']) (by omega) ?_
    clear hs; intro v' w Lv' hO' hs
    obtain ⟨_, vc', va', rfl, rfl⟩ := hO'.form
    simp only [List.cons_append, List.nil_append, List.append_nil] at hs
    refine s_nilCheck rfl rfl ?_
    refine s_fieldAddr rfl rfl (FA136_0 _ _) ?_
    first
      | refine s_storeB Try.sizeOf22 rfl rfl rfl hs (kk := 1) rfl rfl ?_
    clear hs; intro w hs; try simp only [List.set_cons_zero, List.set_cons_succ, splice, List.take_succ_cons, List.take_zero, List.drop_succ_cons, List.drop_zero, List.nil_append, List.cons_append, List.length_cons, List.length_nil, Nat.reduceAdd, List.append_assoc] at hs
    refine WL_nil ?_
    first
      | (refine end0' rfl ⟨_, hs.tail, ⟨_, Lv', rfl, ?_⟩, rfl⟩
         subst hc4; simpa using hO')
  · skip
    refine W_region ?_
    refine s_move rfl rfl ?_
    refine s_move rfl rfl ?_
    refine s_nilCheck rfl rfl ?_
    refine s_fieldAddr rfl rfl (FA136_0 _ _) ?_
    first
      | refine s_load Try.isAgg22 rfl rfl (hs.cell (k := 0) rfl rfl) ?_
    refine s_buildSlice rfl rfl (BS22_1 _) hs ?_; clear hs; intro b19 w hs
    refine s_appendM (M := [_, _]) (X := []) El22 rfl rfl rfl hO (by simpa using hs) (hs.sl (k := 0) (ds := [_]) rfl (Nat.le_refl _) (by intro j u hj; rw [Nat.zero_add]; exact hj)) rfl (by simp [Value.oneCell']) (by omega) ?_
    clear hs; intro v' w Lv' hO' hs
    obtain ⟨_, vc', va', rfl, rfl⟩ := hO'.form
    simp only [List.cons_append, List.nil_append, List.append_nil] at hs
    refine s_nilCheck rfl rfl ?_
    refine s_fieldAddr rfl rfl (FA136_0 _ _) ?_
    first
      | refine s_storeB Try.sizeOf22 rfl rfl rfl hs (kk := 1) rfl rfl ?_
    clear hs; intro w hs; try simp only [List.set_cons_zero, List.set_cons_succ, splice, List.take_succ_cons, List.take_zero, List.drop_succ_cons, List.drop_zero, List.nil_append, List.cons_append, List.length_cons, List.length_nil, Nat.reduceAdd, List.append_assoc] at hs
    refine WL_nil ?_
    first
      | (refine end0' rfl ⟨_, hs.tail, ⟨_, Lv', rfl, ?_⟩, rfl⟩
         subst hc4; simpa using hO')
theorem wDone_ok (p : Nat) (bs : List Int) (L0 : Hp) (w0 : World) (hW : WrAt p bs L0) (hs : St (ids L0) w0 w0 L0) (hl : bs.length ≤ 4294967296) :
    Ret Try.prog 82 [.pointer (some ⟨p, 0, none⟩)].toArray w0 fun r w' => ∃ L', St (ids L0) w0 w' L' ∧ ∃ Lr, L' = L0 ++ Lr ∧ OwnS 5 1 r bs.length (u8s bs) Lr := by
  obtain ⟨v, Lb, hL, hO⟩ := hW
  obtain ⟨_, vc, va, rfl, rfl⟩ := hO.form
  replace hs : St (ids L0) w0 w0 ((p, Blk 136 [.slice va bs.length vc]) :: Lb) := by rw [hL] at hs ⊢; exact hs
  refine Ret_startL hs fun w hs => ?_
  refine Ret_of Try.func82 rfl Try.ntmps82 rfl ?_
  refine W_seq ?_
  refine W_region ?_
  refine s_assign rfl rfl ?_
  refine WL_nil ?_
  refine n_then ?_
  refine W_seq ?_
  refine W_region ?_
  refine s_move rfl rfl ?_
  refine s_nilCheck rfl rfl ?_
  refine s_fieldAddr rfl rfl (FA136_0 _ _) ?_
  first
    | refine s_load Try.isAgg22 rfl rfl (hs.cell (k := 0) rfl rfl) ?_
  refine s_call Try.call43 rfl rfl (clone_ok _ bs w (hO.slM (M := [_]) (X := []) (by simpa using hs)) hl) ?_
  rintro r w ⟨Lr, hr, hst⟩
  replace hs := (St.back0 hs hst).swap
  clear hst
  refine s_assign rfl rfl ?_
  refine WL_nil ?_
  refine n_then ?_
  refine W_ret ?_
  exact end1 rfl rfl ⟨_, hs, Lr, by rw [hL], hr⟩
theorem wRaw_ok (p : Nat) (bs cs : List Int) (v : Value) (L0 : Hp) (w0 : World) (hW : WrAt p bs L0) (hs : St (ids L0) w0 w0 L0) (hv : Sl w0 v cs.length (u8s cs)) (hd : ∀ a m c, v = .slice (some a) m c → u8s cs ≠ [] → a.block ∉ ids L0) (hl : bs.length ≤ 1099511627776) (hc : cs.length ≤ 1099511627776) :
    Ret Try.prog 81 [.pointer (some ⟨p, 0, none⟩), v].toArray w0 fun r w' => ∃ L', St (ids L0) w0 w' L' ∧ WrAt p (bs ++ uvar cs.length ++ cs) L' ∧ r = .tuple #[] := by
  obtain ⟨a, c, rfl, hac⟩ := hv.len_le
  refine Ret_startL hs fun w hs => ?_
  refine Ret_of Try.func81 rfl Try.ntmps81 rfl ?_
  refine W_seq ?_
  refine W_region ?_
  refine s_move rfl rfl ?_
  refine s_move rfl rfl ?_
  refine s_len rfl rfl (LN22 _ _ _ _) ?_
  refine s_convert rfl rfl (CV3_142 _) ?_
  rw [u64w (by omega)]
  refine s_callL (M := []) (L1 := L0) (X := []) Try.call89 rfl rfl (by simpa using hs) (fun h => wUint_ok p bs cs.length L0 w hW h (by omega) hl) ?_
  clear hs; rintro v w L2 ⟨⟨v2, Lb, rfl, hO⟩, rfl⟩ - hs
  simp only [List.nil_append, List.append_nil] at hs
  have hlen : (bs ++ uvar cs.length).length ≤ bs.length + 10 := by have := uvar_len10 (n := cs.length) (by omega); simp only [List.length_append]; omega
  obtain ⟨_, vc, va, rfl, rfl⟩ := hO.form
  refine WL_nil ?_
  refine n_then ?_
  refine W_region ?_
  refine s_move rfl rfl ?_
  refine s_move rfl rfl ?_
  refine s_nilCheck rfl rfl ?_
  refine s_fieldAddr rfl rfl (FA136_0 _ _) ?_
  first
    | refine s_load Try.isAgg22 rfl rfl (hs.cell (k := 0) rfl rfl) ?_
  refine s_move rfl rfl ?_
  refine s_appendM (M := [_]) (X := []) El22 rfl rfl rfl hO (by simpa using hs) (hv.fwd hs.fwd hd) (by simp) (u8s_one _) (by omega) ?_
  clear hs; intro v' w Lv' hO' hs
  obtain ⟨_, vc', va', rfl, rfl⟩ := hO'.form
  simp only [List.cons_append, List.nil_append, List.append_nil] at hs
  refine s_nilCheck rfl rfl ?_
  refine s_fieldAddr rfl rfl (FA136_0 _ _) ?_
  first
    | refine s_storeB Try.sizeOf22 rfl rfl rfl hs (kk := 0) rfl rfl ?_
  clear hs; intro w hs; try simp only [List.set_cons_zero, List.set_cons_succ, splice, List.take_succ_cons, List.take_zero, List.drop_succ_cons, List.drop_zero, List.nil_append, List.cons_append, List.length_cons, List.length_nil, Nat.reduceAdd, List.append_assoc] at hs
  refine WL_nil ?_
  refine end0' rfl ⟨_, hs, ⟨_, Lv', rfl, ?_⟩, rfl⟩
  have he : (bs ++ uvar cs.length ++ cs).length = (bs ++ uvar cs.length).length + cs.length := by rw [List.length_append]
  rw [he, u8s, List.map_append]
  exact hO'
theorem wText_ok (p : Nat) (bs : List Int) (s : ByteArray) (L0 : Hp) (w0 : World) (hW : WrAt p bs L0) (hs : St (ids L0) w0 w0 L0) (hl : bs.length ≤ 1099511627776) (hc : s.size ≤ 1099511627776) :
    Ret Try.prog 91 [.pointer (some ⟨p, 0, none⟩), .string s].toArray w0 fun r w' => ∃ L', St (ids L0) w0 w' L' ∧ WrAt p (bs ++ uvar s.size ++ bytesOf s) L' ∧ r = .tuple #[] := by
  refine Ret_startL hs fun w hs => ?_
  refine Ret_of Try.func91 rfl Try.ntmps91 rfl ?_
  refine W_seq ?_
  refine W_region ?_
  refine s_move rfl rfl ?_
  refine s_move rfl rfl ?_
  refine s_len rfl rfl (LN9 _ _) ?_
  refine s_convert rfl rfl (CV3_142 _) ?_
  rw [u64w (by omega)]
  refine s_callL (M := []) (L1 := L0) (X := []) Try.call89 rfl rfl (by simpa using hs) (fun h => wUint_ok p bs s.size L0 w hW h (by omega) hl) ?_
  clear hs; rintro v w L2 ⟨⟨v2, Lb, rfl, hO⟩, rfl⟩ - hs
  simp only [List.nil_append, List.append_nil] at hs
  have hlen : (bs ++ uvar s.size).length ≤ bs.length + 10 := by have := uvar_len10 (n := s.size) (by omega); simp only [List.length_append]; omega
  obtain ⟨_, vc, va, rfl, rfl⟩ := hO.form
  refine WL_nil ?_
  refine n_then ?_
  refine W_region ?_
  refine s_move rfl rfl ?_
  refine s_move rfl rfl ?_
  refine s_nilCheck rfl rfl ?_
  refine s_fieldAddr rfl rfl (FA136_0 _ _) ?_
  first
    | refine s_load Try.isAgg22 rfl rfl (hs.cell (k := 0) rfl rfl) ?_
  refine s_move rfl rfl ?_
  refine s_appendStr (M := [_]) (X := []) El22 Try.underlying9 rfl rfl rfl hO (by simpa using hs) (by omega) ?_
  clear hs; intro v' w Lv' hO' hs
  obtain ⟨_, vc', va', rfl, rfl⟩ := hO'.form
  simp only [List.cons_append, List.nil_append, List.append_nil] at hs
  refine s_nilCheck rfl rfl ?_
  refine s_fieldAddr rfl rfl (FA136_0 _ _) ?_
  first
    | refine s_storeB Try.sizeOf22 rfl rfl rfl hs (kk := 0) rfl rfl ?_
  clear hs; intro w hs; try simp only [List.set_cons_zero, List.set_cons_succ, splice, List.take_succ_cons, List.take_zero, List.drop_succ_cons, List.drop_zero, List.nil_append, List.cons_append, List.length_cons, List.length_nil, Nat.reduceAdd, List.append_assoc] at hs
  refine WL_nil ?_
  refine end0' rfl ⟨_, hs, ⟨_, Lv', rfl, ?_⟩, rfl⟩
  have he : (bs ++ uvar s.size ++ bytesOf s).length = (bs ++ uvar s.size).length + s.size := by rw [List.length_append, bytesOf_length]
  rw [he, u8s, List.map_append, u8s_bytesOf]
  exact hO'
end Go.Proofs.Ytkobigdfijeajaa
