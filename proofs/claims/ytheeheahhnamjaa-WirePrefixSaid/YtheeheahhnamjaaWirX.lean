/- WirePrefix. -/
import Derived.Test.YtheeheahhnamjaaWirQ
set_option linter.unusedVariables false
set_option linter.unusedSimpArgs false
namespace Go.SL
theorem s_neq_ptr_nil {P : Program} {n : Nat} {ops : Array Oper} {Q : Post} {l : Fr} {w : World} {rest : List Oper} {d ty : Nat} {pos : String} {aft : Array Edge} {x y : Operand} {t e t' : Nat} {a : Addr} (hu : P.underlying t = some (.pointer e)) (hd : Nat.blt d n = true) (hx : ev l x = some (.pointer (some a))) (hy : ev l y = some (.pointer none)) (k : WL P n ops Q rest ((d, .bool true) :: l) w) :
    WL P n ops Q (⟨some d, .binOp .neq t x y t', ty, pos, aft, none⟩ :: rest) l w := WL_val hd (fun ac ha => by
      simp only [execOp, ha.eval hx, ha.eval hy, eqGuard, binOp, Sem.run_bind]
      have := eql_of (equalIn_ptr_nil (a := some a) hu 9999 w)
      simp [this]) k
end Go.SL
namespace Go.Proofs.Ytheeheahhnamjaa
open Go.SL
/-- the reader of a proper prefix, behind i values -/
def preS (vs : List VV) (i : Nat) (s : RS) : Prop := s.e = 3 ∨ ∃ k, k < (encVs (vs.drop i)).length ∧ s = ⟨(encVs (vs.drop i)).take k, 0⟩
theorem preS_next {vs : List VV} {i : Nat} {s : RS} {x : VV} (h : preS vs i s) (hdr : encVs (vs.drop i) = encV x.p ++ encVs (vs.drop (i + 1))) (hx : VV.gen x) : preS vs (i + 1) (rdV x.p.kind s).2 := by
  rcases h with h | ⟨k, hk, rfl⟩
  · left; rw [rdV_err _ (by rw [h]; decide)]; exact h
  · rw [hdr] at hk ⊢
    rcases Nat.lt_or_ge k (encV x.p).length with h | h
    · left; rw [List.take_append_of_le_length (by omega)]; exact rdV_pre hx.1.p hx.2.1 h
    · obtain ⟨k', rfl⟩ : ∃ k', k = (encV x.p).length + k' := ⟨k - (encV x.p).length, by omega⟩
      right
      rw [List.take_length_add_append, rdV_enc hx.1.p hx.2.1]
      exact ⟨k', by rw [List.length_append] at hk; omega, rfl⟩
theorem encV_pos {p : PV} : 0 < (encV p).length := by
  have h : ∀ n, 0 < (uvar n).length := fun n => List.length_pos_iff.2 (uvar_ne n)
  unfold encV
  split
  · exact h _
  · split
    · exact h _
    · split
      · simp
      · split <;> rw [List.length_append] <;> have := h p.bs.length <;> have := h p.ls.length <;> omega
set_option maxHeartbeats 4000000 in
theorem wirePrefix_ok (v : Value) (xs : List Int) (cut c8 : Int) (w0 : World) (hv : Sl w0 v xs.length (i64s xs)) (hx : ∀ z ∈ xs, isI64 z) (hcut : isI64 cut) (hc8 : isB c8) :
    Ret Try.prog 9 [v, .int .i64 cut, .int .u8 c8].toArray w0 fun r w' => Fwd [] w0 w' ∧ r = .bool true := by
  refine Ret_start fun w hs => ?_
  refine Ret_of Try.func9 rfl Try.ntmps9 rfl ?_
  refine W_seq ?_
  refine W_region ?_
  refine s_assign rfl rfl ?_
  refine WL_nil ?_
  refine n_then ?_
  refine W_seq ?_
  refine W_region ?_
  refine s_move rfl rfl ?_
  refine s_call Try.call19 rfl rfl (vals_ok v xs w (hv.fwd0 hs.fwd) hx) ?_
  rintro r w ⟨vs, Lv, hO, hst, hg, hl0⟩
  replace hs := St.back0 hs hst
  simp only [List.append_nil] at hs
  clear hst
  obtain ⟨_, avc, ava, rfl, rfl⟩ := hO.form
  have hlen := fun k => encVs_take vs (fun x hx => gen_len (hg x hx)) k
  have hlen2 : (encVs vs).length ≤ 480 := by have := hlen vs.length; rw [List.take_length] at this; omega
  have hB := encVs_isB (fun x hx => (hg x hx).1)
  refine s_assign rfl rfl ?_
  refine WL_nil ?_
  refine n_then ?_
  refine W_seq ?_
  refine W_region ?_
  refine s_move rfl rfl ?_
  refine s_call Try.call35 rfl rfl (encode_ok _ vs w (hO.sl hs) (fun x hx => (hg x hx).1) (fun q hq => hs.own q (List.mem_append_right _ hq)) (fun k => by have := hlen k; omega) (by omega)) ?_
  rintro r w ⟨Lr, hOr, hst⟩
  replace hs := St.back0 hs hst
  clear hst
  obtain ⟨_, rvc, rva, rfl, rfl⟩ := hOr.form
  refine s_assign rfl rfl ?_
  refine WL_nil ?_
  refine n_then ?_
  refine W_seq ?_
  refine W_seq ?_
  refine W_region ?_
  refine s_move rfl rfl ?_
  refine s_len rfl rfl (LN24 _ _ _ _) ?_
  refine s_eql rfl rfl rfl ?_
  refine WL_nil ?_
  refine n_then ?_
  refine W_cond rfl (fun hc20 => ?_) (fun hc20 => ?_)
  · skip
    try simp only [decide_eq_true_eq, decide_eq_false_iff_not, beq_iff_eq, beq_eq_false_iff_ne, ne_eq] at hc20
    refine W_seq ?_
    refine W_region ?_
    refine s_call Try.call21 rfl rfl (read_ok _ [] w ⟨none, 0, rfl, Nat.le_refl _, .inl rfl⟩ (by simp) (by simp)) ?_
    rintro r w ⟨p, LP, rfl, hP, hst⟩
    replace hs := St.back0 hs hst
    clear hst
    refine s_assign rfl rfl ?_
    refine WL_nil ?_
    refine n_then ?_
    refine W_seq ?_
    refine W_region ?_
    refine s_move rfl rfl ?_
    refine s_neq_ptr_nil Try.underlying39 rfl rfl rfl ?_
    refine s_move rfl rfl ?_
    refine WL_know (s := 24) (c := true) rfl (rfl) ?_
    refine WL_take rfl ?_
    refine s_move rfl rfl ?_
    refine WL_take rfl ?_
    refine s_callL (M := []) (L1 := LP) Try.call25 rfl rfl hs (fun h => rEnd_ok p _ _ w hP h) ?_
    clear hs; rintro v w LP2 ⟨rfl, rfl⟩ - hs
    refine WL_take rfl ?_
    refine s_eql rfl rfl rfl ?_
    refine s_pick_t rfl rfl rfl ?_
    refine s_move rfl rfl ?_
    refine WL_know (s := 29) (c := true) rfl (rfl) ?_
    refine WL_take rfl ?_
    refine s_call Try.call17 rfl rfl (lives_ok w) ?_
    rintro r w ⟨hst, rfl⟩
    replace hs := hs.fwd1 hst
    refine s_pick_t rfl rfl rfl ?_
    refine s_assign rfl rfl ?_
    refine WL_nil ?_
    refine n_then ?_
    refine W_ret ?_
    refine r_then ?_
    exact end1 rfl rfl ⟨hs.fwd, rfl⟩
  · skip
    try simp only [decide_eq_true_eq, decide_eq_false_iff_not, beq_iff_eq, beq_eq_false_iff_ne, ne_eq] at hc20
    refine W_skip ?_
    refine n_then ?_
    refine W_seq ?_
    refine W_region ?_
    refine s_move rfl rfl ?_
    refine s_move rfl rfl ?_
    refine s_move rfl rfl ?_
    refine s_len rfl rfl (LN24 _ _ _ _) ?_
    have hpos : 0 < (encVs vs).length := by omega
    refine s_call Try.call11 rfl rfl (around_ok cut (encVs vs).length w (by omega) hcut) ?_
    rintro r w ⟨rfl, rfl⟩
    have hkr := aroundV_range (m := cut) (q := (encVs vs).length) (by omega)
    obtain ⟨k, hkN⟩ : ∃ k : Nat, aroundV cut (encVs vs).length = k := ⟨(aroundV cut (encVs vs).length).toNat, by omega⟩
    rw [hkN] at hkr ⊢
    (refine s_slice_hi El24 rfl rfl rfl ?hx ?_; case hx => (have := hOr.sl hs; obtain ⟨_, _, h1, h2⟩ := this.len_le; cases h1; constructor <;> omega))
    have hslp : Sl w (.slice rva k rvc) ((encVs vs).take k).length (u8s ((encVs vs).take k)) := by
      have h1 := (hOr.sl hs).take (size := 1) (k := k) (by omega) rfl
      rw [Nat.mul_one, ← List.map_take] at h1
      rw [List.length_take, Nat.min_eq_left (by omega)]; exact h1
    refine s_call Try.call21 rfl rfl (read_ok _ ((encVs vs).take k) w hslp (by rw [List.length_take]; omega) (fun b hb => hB b (List.mem_of_mem_take hb))) ?_
    rintro r w ⟨p, LP, rfl, hP, hst⟩
    replace hs := St.back0 hs hst
    clear hst
    refine s_assign rfl rfl ?_
    refine WL_nil ?_
    refine n_then ?_
    refine W_seq ?_
    refine W_region ?_
    refine s_move rfl rfl ?_
    refine s_move rfl rfl ?_
    refine s_len rfl rfl (LN24 _ _ _ _) ?_
    refine s_call Try.call20 rfl rfl (few_ok _ (encVs vs) (encVs vs).length w (hOr.slM (M := LP) hs) (by omega)) ?_
    rintro r w ⟨Lf, hOf, hst⟩
    replace hs := St.back0 hs hst
    clear hst
    rw [Nat.min_self, List.take_length] at hOf
    obtain ⟨_, fvc, fva, rfl, rfl⟩ := hOf.form
    refine s_move rfl rfl ?_
    refine s_buildSlice rfl rfl (BS24_1 _) hs ?_; clear hs; intro b44 w hs
    refine s_appendM (M := [_]) (Lv := Lf) El24 rfl rfl rfl hOf hs (hs.sl (k := 0) (ds := [_]) rfl (Nat.le_refl _) (by intro j w hj; rw [Nat.zero_add]; exact hj)) rfl (by simp [Value.oneCell']) (by omega) ?_
    clear hs; intro v' w Lf' hOf' hs
    simp only [List.cons_append, List.nil_append] at hs
    replace hs := hs.tail
    replace hOf' : OwnS 5 1 v' (encVs vs ++ [c8]).length (u8s (encVs vs ++ [c8])) Lf' := by rw [List.length_append, u8s, List.map_append]; exact hOf'
    refine s_call Try.call21 rfl rfl (read_ok _ (encVs vs ++ [c8]) w (hOf'.sl hs) (by rw [List.length_append]; simp; omega) (by intro b hb; rcases List.mem_append.1 hb with h | h; exact hB b h; simp at h; subst h; exact hc8)) ?_
    rintro r w ⟨q, LQ, rfl, hQ, hst⟩
    replace hs := St.back0 hs hst
    clear hst
    replace hs : St [] w0 w (Lv ++ (vblks vs ++ (LP ++ LQ))) := by simpa [cat] using St.reord [LQ, Lf', LP, Lr, Lv, vblks vs] [4, 5, 2, 0] [1, 3] (by simpa [cat] using hs) rfl
    have hpre : preS vs 0 ⟨(encVs vs).take k, 0⟩ := .inr ⟨k, by simp only [List.drop_zero]; omega, rfl⟩
    generalize (⟨(encVs vs).take k, 0⟩ : RS) = s0 at hpre hP
    refine s_assign rfl rfl ?_
    refine WL_nil ?_
    refine n_then ?_
    refine W_seq ?_
    refine W_seq ?_
    refine W_region ?_
    refine s_move rfl rfl ?_
    refine s_eql_ptr_nil Try.underlying39 rfl rfl rfl ?_
    refine s_move rfl rfl ?_
    refine WL_know (s := 49) (c := false) rfl (rfl) ?_
    refine WL_take rfl ?_
    refine s_move rfl rfl ?_
    refine WL_take rfl ?_
    refine s_eql_ptr_nil Try.underlying39 rfl rfl rfl ?_
    refine s_pick_f rfl rfl rfl ?_
    refine WL_nil ?_
    refine n_then ?_
    refine W_cond_kf rfl (rfl) ?_
    refine W_skip ?_
    refine n_then ?_
    refine W_seq ?_
    refine W_seq ?_
    refine W_region ?_
    refine s_assign rfl rfl ?_
    refine WL_nil ?_
    refine n_then ?_
    refine W_block ?_
    refine W_loop (σ := Nat × RS × Hp × Hp) (fun s => [(1, .int .i64 cut), (7, .slice ava vs.length avc), (10, .pointer (some ⟨p, 0, none⟩)), (11, .pointer (some ⟨q, 0, none⟩)), (12, .int .i64 (s.1 : Int))]) (fun s w => St [] w0 w (Lv ++ (vblks vs ++ (s.2.2.1 ++ s.2.2.2))) ∧ RdAt p s.2.1 s.2.2.1 ∧ preS vs s.1 s.2.1 ∧ RdAt q ⟨encVs (vs.drop s.1) ++ [c8], 0⟩ s.2.2.2 ∧ s.1 ≤ vs.length) (fun s => vs.length - s.1) (0, s0, LP, LQ) ⟨rfl, rfl, rfl, rfl, rfl, trivial⟩ ⟨hs, hP, hpre, hQ, Nat.zero_le _⟩ ?_
    clear hs hP hQ hpre LP LQ s0
    rintro ⟨i, s1, LP, LQ⟩ w ⟨hs, hP, hpre, hQ, hil⟩
    simp only at hs hP hpre hQ hil ⊢
    refine W_seq ?_
    refine W_seq ?_
    refine W_region ?_
    refine s_move rfl rfl ?_
    refine s_move rfl rfl ?_
    refine s_len rfl rfl (LN35 _ _ _ _) ?_
    refine s_lss rfl rfl rfl ?_
    refine WL_nil ?_
    refine n_then ?_
    refine W_cond rfl (fun hc56 => ?_) (fun hc56 => ?_)
    · skip
      try simp only [decide_eq_true_eq, decide_eq_false_iff_not, beq_iff_eq, beq_eq_false_iff_ne, ne_eq] at hc56
      have hix : i < vs.length := by omega
      have hxi : vs[i]? = some vs[i] := List.getElem?_eq_getElem hix
      have hxm : vs[i] ∈ vs := List.getElem_mem hix
      obtain ⟨g, cap, sp, hgv, hcap, rfl⟩ := hO.block (by omega)
      cases hgv
      simp only [List.cons_append, List.nil_append] at hs
      have hdr : encVs (vs.drop i) = encV vs[i].p ++ encVs (vs.drop (i + 1)) := by rw [List.drop_eq_getElem_cons hix, encVs, List.flatMap_cons]; rfl
      have cc : ∀ j u, j < 5 → vs[i].cells[j]? = some u → (vcells vs ++ sp)[0 + (i : Int).toNat * 5 + j]? = some u := fun j u hj hu => by
        rw [Nat.zero_add, Int.toNat_natCast, List.getElem?_append_left (by rw [vcells_length]; omega), vcells_at hj hxi]; exact hu
      generalize vs[i] = x at hxm cc hdr
      have hxg := hg x hxm
      have hrd := rdV_enc (r := encVs (vs.drop (i + 1)) ++ [c8]) hxg.1.p hxg.2.1
      have hpre2 := preS_next hpre hdr hxg
      rw [hdr, List.append_assoc] at hQ
      refine W_skip ?_
      refine n_then ?_
      refine W_seq ?_
      refine W_block ?_
      refine W_seq ?_
      refine W_region ?_
      refine s_move rfl rfl ?_
      refine s_move rfl rfl ?_
      refine s_move rfl rfl ?_
      (refine s_indexAddr El35 rfl rfl rfl ?hx ?_; case hx => (constructor <;> first | omega | (simp; omega)))
      refine s_fieldAddr rfl rfl (FA47_0 _ _) ?_
      first
        | refine s_load Try.isAgg3 rfl rfl (hs.cell (k := 0) rfl rfl) ?_
        | refine s_load Try.isAgg3 rfl rfl (hs.cell (k := 1) rfl rfl) ?_
        | refine s_load Try.isAgg3 rfl rfl (hs.cell (k := 2) rfl rfl) ?_
        | refine s_load Try.isAgg3 rfl rfl ((hs.cell (k := 0) rfl (cc 0 _ (by omega) rfl))) ?_
      refine s_callL (M := _ :: vblks vs) (L1 := LP) (X := LQ) Try.call23 rfl rfl hs (fun h => rread_ok p _ x.p.kind LP w hP h) ?_
      clear hs hP; rintro v w L2 ⟨LP, y, rfl, rfl, hP, hyp, hyo⟩ - hs
      replace hs : St [] w0 w ((g, Blk 47 (vcells vs ++ sp)) :: (vblks vs ++ (LP ++ LQ))) := by simpa [cat] using St.reord [[(g, Blk 47 (vcells vs ++ sp))], vblks vs, LP, y.L, LQ] [0, 1, 2, 4] [3] (by simpa [cat] using hs) rfl
      refine WL_nil ?_
      refine n_then ?_
      refine W_region ?_
      refine s_move rfl rfl ?_
      refine s_move rfl rfl ?_
      refine s_move rfl rfl ?_
      (refine s_indexAddr El35 rfl rfl rfl ?hx ?_; case hx => (constructor <;> first | omega | (simp; omega)))
      refine s_fieldAddr rfl rfl (FA47_0 _ _) ?_
      first
        | refine s_load Try.isAgg3 rfl rfl (hs.cell (k := 0) rfl rfl) ?_
        | refine s_load Try.isAgg3 rfl rfl (hs.cell (k := 1) rfl rfl) ?_
        | refine s_load Try.isAgg3 rfl rfl (hs.cell (k := 2) rfl rfl) ?_
        | refine s_load Try.isAgg3 rfl rfl ((hs.cell (k := 0) rfl (cc 0 _ (by omega) rfl))) ?_
      refine s_callL (M := _ :: (vblks vs ++ LP)) (L1 := LQ) (X := []) Try.call23 rfl rfl (by simpa using hs) (fun h => rread_ok q _ x.p.kind LQ w hQ h) ?_
      clear hs hQ; rintro v w L2 ⟨LQ, z, rfl, rfl, hQ, hzp, hzo⟩ - hs
      rw [hrd] at hQ
      simp only at hQ
      replace hs : St [] w0 w ((g, Blk 47 (vcells vs ++ sp)) :: (vblks vs ++ (LP ++ LQ))) := by simpa [cat] using St.reord [[(g, Blk 47 (vcells vs ++ sp))], vblks vs, LP, LQ, z.L] [0, 1, 2, 3] [4] (by simpa [cat] using hs) rfl
      refine WL_nil ?_
      refine n_blk ?_
      refine n_then ?_
      refine W_region ?_
      refine s_move rfl rfl ?_
      first | (refine s_add' rfl rfl rfl ?hx ?_; case hx => (constructor <;> first | omega | (simp only; omega))) | refine s_add rfl rfl rfl ?_
      refine s_assign rfl rfl ?_
      refine WL_nil ?_
      refine n_loop ?_
      exact ⟨(i + 1, _, LP, LQ), ⟨rfl, rfl, rfl, rfl, rfl, trivial⟩, ⟨hs, hP, hpre2, hQ, by simp only; omega⟩, by simp only; omega⟩
    · skip
      try simp only [decide_eq_true_eq, decide_eq_false_iff_not, beq_iff_eq, beq_eq_false_iff_ne, ne_eq] at hc56
      have hie : i = vs.length := by omega
      subst hie
      rw [List.drop_length] at hQ
      have he3 : s1.e = 3 := by
        rcases hpre with h | ⟨k', hk', _⟩
        · exact h
        · rw [List.drop_length] at hk'; simp [encVs] at hk'
      have hend : rdEnd s1 = 3 := by rw [rdEnd, if_pos (by rw [he3]; decide), he3]
      refine W_exit ?_
      refine x_then ?_
      refine x_then ?_
      refine exit_hit ?_
      refine n_then ?_
      refine W_seq ?_
      refine W_seq ?_
      refine W_region ?_
      refine s_move rfl rfl ?_
      refine s_callL (M := Lv ++ vblks vs) (L1 := LP) (X := LQ) Try.call25 rfl rfl (by simpa using hs) (fun h => rEnd_ok p _ _ w hP h) ?_
      clear hs; rintro v w LP2 ⟨rfl, rfl⟩ - hs
      rw [hend]
      refine s_neq rfl rfl rfl ?_
      refine s_move rfl rfl ?_
      refine WL_know (s := 76) (c := false) rfl (rfl) ?_
      refine WL_take rfl ?_
      refine s_move rfl rfl ?_
      refine WL_take rfl ?_
      refine s_callL (M := (Lv ++ vblks vs) ++ LP2) (L1 := LQ) (X := []) Try.call25 rfl rfl (by simpa using hs) (fun h => rEnd_ok q _ _ w hQ h) ?_
      clear hs; rintro v w LQ2 ⟨rfl, rfl⟩ - hs
      rw [show rdEnd ⟨encVs [] ++ [c8], 0⟩ = 2 from rfl]
      refine WL_take rfl ?_
      refine s_neq rfl rfl rfl ?_
      refine s_pick_f rfl rfl rfl ?_
      refine WL_nil ?_
      refine n_then ?_
      refine W_cond_kf rfl (rfl) ?_
      refine W_skip ?_
      refine n_then ?_
      refine W_seq ?_
      refine W_region ?_
      refine s_move rfl rfl ?_
      refine s_move rfl rfl ?_
      refine s_call Try.call11 rfl rfl (around_ok cut 6 w (by omega) hcut) ?_
      rintro r w ⟨rfl, rfl⟩
      generalize aroundV cut 6 = k6
      replace hs : St [] w0 w LP2 := by simpa [cat] using St.reord [Lv, vblks vs, LP2, LQ2] [2] [0, 1, 3] (by simpa [cat] using hs) rfl
      refine s_callL (M := []) (L1 := LP2) (X := []) Try.call23 rfl rfl (by simpa using hs) (fun h => rread_ok p _ k6 LP2 w hP h) ?_
      clear hs hP; rintro v w L2 ⟨LP, y, rfl, rfl, hP, hyp, hyo⟩ - hs
      rw [rdV_err k6 (by rw [he3]; decide)] at hP hyp
      simp only [List.nil_append, List.append_nil] at hs hP hyp
      have hyc : y.cells = [.int .i64 y.p.kind, .int .u64 (y.p.u : Int), .int .i64 y.p.n, y.bv, y.lv] := rfl
      have hyo' : ∀ q ∈ y.L, w.heap[q.1]? = some q.2 := fun q hq => hs.own q (by simp [hq])
      obtain ⟨_, ybc, yba, hyb, rfl⟩ := hyo.b.form w (fun q hq => hyo' q (List.mem_append_left _ hq))
      obtain ⟨_, ylc, yla, hyl, rfl⟩ := hyo.l.form w (fun q hq => hyo' q (List.mem_append_right _ hq))
      have hyb2 := hyo.b
      have hyl2 := hyo.l
      rw [hyb] at hyb2
      rw [hyl] at hyl2
      rw [hyc, hyb, hyl]
      refine s_alloc rfl AL47 hs ?_; clear hs; intro b13 w hs
      first
        | refine s_storeW Try.sizeOf47 rfl rfl rfl rfl hs (kk := 0) rfl rfl ?_
        | refine s_storeW Try.sizeOf47 rfl rfl rfl rfl hs (kk := 1) rfl rfl ?_
        | refine s_storeW Try.sizeOf47 rfl rfl rfl rfl hs (kk := 2) rfl rfl ?_
        | refine s_storeAB Try.sizeOf47 rfl rfl rfl rfl hs (kk := 0) rfl rfl ?_
        | refine s_storeAB Try.sizeOf47 rfl rfl rfl rfl hs (kk := 1) rfl rfl ?_
        | refine s_storeAB Try.sizeOf47 rfl rfl rfl rfl hs (kk := 2) rfl rfl ?_
      clear hs; intro w hs; try simp only [List.set_cons_zero, List.set_cons_succ, splice, List.take_succ_cons, List.take_zero, List.drop_succ_cons, List.drop_zero, List.nil_append, List.cons_append, List.length_cons, List.length_nil, Nat.reduceAdd, List.append_assoc] at hs
      refine WL_nil ?_
      refine n_then ?_
      refine W_seq ?_
      refine W_region ?_
      first
        | refine s_loadW Try.isAgg47 Try.sizeOf47 rfl rfl hs (kk := 0) rfl rfl ?_
        | refine s_loadW Try.isAgg47 Try.sizeOf47 rfl rfl hs (kk := 1) rfl rfl ?_
        | refine s_loadW Try.isAgg47 Try.sizeOf47 rfl rfl hs (kk := 2) rfl rfl ?_
        | refine s_load_5 Try.isAgg47 Try.sizeOf47 rfl rfl (by first | exact hs.cell (k := 0) rfl rfl | exact hs.cell (k := 1) rfl rfl | exact hs.cell (k := 2) rfl rfl) (by first | exact hs.cell (k := 0) rfl rfl | exact hs.cell (k := 1) rfl rfl | exact hs.cell (k := 2) rfl rfl) (by first | exact hs.cell (k := 0) rfl rfl | exact hs.cell (k := 1) rfl rfl | exact hs.cell (k := 2) rfl rfl) (by first | exact hs.cell (k := 0) rfl rfl | exact hs.cell (k := 1) rfl rfl | exact hs.cell (k := 2) rfl rfl) (by first | exact hs.cell (k := 0) rfl rfl | exact hs.cell (k := 1) rfl rfl | exact hs.cell (k := 2) rfl rfl) ?_
      refine s_fieldAddr rfl rfl (FA47_0 _ _) ?_
      first
        | refine s_load Try.isAgg3 rfl rfl (hs.cell (k := 0) rfl rfl) ?_
        | refine s_load Try.isAgg3 rfl rfl (hs.cell (k := 1) rfl rfl) ?_
        | refine s_load Try.isAgg3 rfl rfl (hs.cell (k := 2) rfl rfl) ?_
        | refine s_load Try.isAgg3 rfl rfl ((hs.cell (k := 0) rfl (cc 0 _ (by omega) rfl))) ?_
      refine s_build rfl rfl (BD47_0 _) ?_
      have hyo' : ∀ q ∈ y.L, w.heap[q.1]? = some q.2 := fun q hq => hs.own q (by simp [hq])
      have hsm := same_ok y ⟨⟨y.p.kind, 0, 0, [], []⟩, .slice none 0 0, [], .slice none 0 0, []⟩ w (hyo.b.sl w (fun q hq => hyo' q (List.mem_append_left _ hq))) ⟨none, 0, rfl, Nat.le_refl _, .inl rfl⟩ (hyo.l.sl w (fun q hq => hyo' q (List.mem_append_right _ hq))) ⟨none, 0, rfl, Nat.le_refl _, .inl rfl⟩ hyo.p.hbl hyo.p.hll
      rw [hyc, hyb, hyl] at hsm
      refine s_call Try.call22 rfl rfl hsm ?_
      rintro r w ⟨hst, rfl⟩
      replace hs := (hs.fwd1 hst).tail
      clear hst
      refine s_move rfl rfl ?_
      refine WL_know (s := 90) (c := true) rfl ((by rw [hyp]; simp)) ?_
      refine WL_take rfl ?_
      refine s_move rfl rfl ?_
      refine WL_take rfl ?_
      refine s_callL (M := []) (L1 := LP) (X := y.L) Try.call25 rfl rfl hs (fun h => rEnd_ok p _ _ w hP h) ?_
      clear hs; rintro v w LP2 ⟨rfl, rfl⟩ - hs
      rw [hend]
      refine WL_take rfl ?_
      refine s_eql rfl rfl rfl ?_
      refine s_pick_t rfl rfl rfl ?_
      refine s_move rfl rfl ?_
      refine WL_know (s := 95) (c := true) rfl (rfl) ?_
      refine WL_take rfl ?_
      refine s_call Try.call17 rfl rfl (lives_ok w) ?_
      rintro r w ⟨hst, rfl⟩
      replace hs := hs.fwd1 hst
      refine s_pick_t rfl rfl rfl ?_
      refine s_assign rfl rfl ?_
      refine WL_nil ?_
      refine n_then ?_
      refine W_ret ?_
      exact end1 rfl rfl ⟨hs.fwd, rfl⟩
end Go.Proofs.Ytheeheahhnamjaa
