/- WireOne. -/
import Derived.Test.YtheeheahhnamjaaWirQ
import Derived.Test.YtheeheahhnamjaaWirO
set_option linter.unusedVariables false
set_option linter.unusedSimpArgs false
namespace Go.Proofs.Ytheeheahhnamjaa
open Go.SL
theorem encVs_take_le (gs : List VV) (k : Nat) : (encVs (gs.take k)).length ≤ (encVs gs).length := by
  have : encVs gs = encVs (gs.take k) ++ encVs (gs.drop k) := by rw [← encVs_append, List.take_append_drop]
  rw [this, List.length_append]; omega
/-- what was read so far -/
def oneS (tb : List Int) (gs : List VV) (s : RS) : Prop := (s.e = 0 → tb = encVs gs ++ s.rest)
theorem oneS_next {tb : List Int} {gs : List VV} {s : RS} {k : Int} {y : VV} (hb : ∀ b ∈ tb, isB b) (h : oneS tb gs s) (hy : y.p = (rdV k s).1) : oneS tb (gs ++ [y]) (rdV k s).2 := by
  intro he
  have hbb : s.e = 0 → ∀ b ∈ s.rest, isB b := fun h0 b hbm => hb b (by rw [h h0]; exact List.mem_append_right _ hbm)
  obtain ⟨h0, h1⟩ := rdV_inv hbb he
  rw [h h0, encVs_append, h1]
  simp [encVs, hy]
theorem rdEnd_zero {s : RS} (h : rdEnd s = 0) : s.e = 0 ∧ s.rest = [] := by
  unfold rdEnd at h
  split at h
  · rename_i h1; exact absurd h h1
  · rename_i h1
    split at h
    · rename_i h2; exact ⟨by simpa using h1, h2⟩
    · omega
structure GS where
  i : Nat
  s : RS
  LP : Hp
  gs : List VV
  gv : Value
  Lg : Hp
set_option maxHeartbeats 4000000 in
theorem wireOne_ok (rv v kv : Value) (raw xs ks : List Int) (at_ c8 : Int) (w0 : World) (hr : Sl w0 rv raw.length (u8s raw)) (hrB : ∀ z ∈ raw, isB z) (hv : Sl w0 v xs.length (i64s xs)) (hx : ∀ z ∈ xs, isI64 z) (hat : isI64 at_) (hc8 : isB c8) (hk : Sl w0 kv ks.length (i64s ks)) (hkI : ∀ z ∈ ks, isI64 z) :
    Ret Try.prog 8 [rv, v, .int .i64 at_, .int .u8 c8, kv].toArray w0 fun r w' => Fwd [] w0 w' ∧ r = .bool true := by
  obtain ⟨ka, kc, rfl, hkc⟩ := hk.len_le
  refine Ret_start fun w hs => ?_
  refine Ret_of Try.func8 rfl Try.ntmps8 rfl ?_
  refine W_seq ?_
  refine W_region ?_
  refine s_assign rfl rfl ?_
  refine WL_nil ?_
  refine n_then ?_
  refine W_seq ?_
  refine W_region ?_
  refine s_move rfl rfl ?_
  refine s_call Try.call19 rfl rfl (vals_ok v xs w (hv.fwd0 hs.fwd) hx) ?_
  rintro r w ⟨vs, Lv, hO, hst, hg, hl0⟩
  replace hs := St.back0 hs hst
  simp only [List.append_nil] at hs
  clear hst
  obtain ⟨_, avc, ava, rfl, rfl⟩ := hO.form
  have hlen := fun k => encVs_take vs (fun x hx => gen_len (hg x hx)) k
  have hlen2 : (encVs vs).length ≤ 480 := by have := hlen vs.length; rw [List.take_length] at this; omega
  have hB := encVs_isB (fun x hx => (hg x hx).1)
  refine s_assign rfl rfl ?_
  refine WL_nil ?_
  refine n_then ?_
  refine W_seq ?_
  refine W_region ?_
  refine s_move rfl rfl ?_
  refine s_call Try.call35 rfl rfl (encode_ok _ vs w (hO.sl hs) (fun x hx => (hg x hx).1) (fun q hq => hs.own q (List.mem_append_right _ hq)) (fun k => by have := hlen k; omega) (by omega)) ?_
  rintro r w ⟨Lr, hOr, hst⟩
  replace hs := St.back0 hs hst
  clear hst
  obtain ⟨_, rvc, rva, rfl, rfl⟩ := hOr.form
  generalize encVs vs = eb at hOr hlen2 hB
  refine s_assign rfl rfl ?_
  refine WL_nil ?_
  refine n_then ?_
  refine W_cut (σ := List Int × Hp) (fun s => [(0, rv), (4, .slice ka ks.length kc), (11, .slice ava vs.length avc), (12, .slice rva s.1.length rvc)])
    (fun s w => St [] w0 w (s.2 ++ (Lv ++ vblks vs)) ∧ OwnS 5 1 (.slice rva s.1.length rvc) s.1.length (u8s s.1) s.2 ∧ (∀ b ∈ s.1, isB b) ∧ s.1.length ≤ 480) ?_ ?_
  · skip
    refine W_seq ?_
    refine W_region ?_
    refine s_move rfl rfl ?_
    refine s_len rfl rfl (LN24 _ _ _ _) ?_
    refine s_gtr rfl rfl rfl ?_
    refine WL_nil ?_
    refine n_then ?_
    refine W_cond rfl (fun hc24 => ?_) (fun hc24 => ?_)
    · skip
      try simp only [decide_eq_true_eq, decide_eq_false_iff_not, beq_iff_eq, beq_eq_false_iff_ne, ne_eq, bne_iff_ne, bne_eq_false_iff_eq] at hc24
      obtain ⟨g, cap, sp, hgv, hcap, rfl⟩ := hOr.block (by omega)
      cases hgv
      simp only [List.cons_append, List.nil_append] at hs
      refine W_region ?_
      refine s_move rfl rfl ?_
      refine s_move rfl rfl ?_
      refine s_move rfl rfl ?_
      refine s_len rfl rfl (LN24 _ _ _ _) ?_
      refine s_call Try.call11 rfl rfl (around_ok at_ eb.length w (by omega) hat) ?_
      rintro r w ⟨rfl, rfl⟩
      have hkr := aroundV_range (m := at_) (q := eb.length) (by omega)
      obtain ⟨k, hkN⟩ : ∃ k : Nat, aroundV at_ eb.length = k := ⟨(aroundV at_ eb.length).toNat, by omega⟩
      rw [hkN] at hkr ⊢
      refine s_move rfl rfl ?_
      (refine s_indexAddr1 El24 rfl rfl rfl ?hx ?_; case hx => (constructor <;> first | omega | (simp; omega)))
      refine s_store Try.sizeOf5 rfl rfl rfl hs (kk := 0) rfl (by have := hOr.1; simp at this ⊢; omega) ?_
      clear hs; intro w hs
      simp only [List.set_cons_zero] at hs
      refine WL_nil ?_
      refine n_loop ?_
      first
        | (have hO9 := own_set8 (i := k) c8 hOr (by omega)
           have hl9 : (eb.set k c8).length = eb.length := List.length_set ..
           refine ⟨(eb.set k c8, [_]), ⟨rfl, rfl, rfl, by simp only [hl9]; rfl, trivial⟩, hs, by simp only [hl9]; exact hO9, ?_, by simp only [hl9]; omega⟩
           intro b hb
           rcases List.mem_or_eq_of_mem_set hb with h | h
           · exact hB b h
           · rw [h]; exact hc8)
        | exact ⟨(eb, Lr), ⟨rfl, rfl, rfl, rfl, trivial⟩, hs, hOr, hB, hlen2⟩
    · skip
      try simp only [decide_eq_true_eq, decide_eq_false_iff_not, beq_iff_eq, beq_eq_false_iff_ne, ne_eq, bne_iff_ne, bne_eq_false_iff_eq] at hc24
      refine W_skip ?_
      refine n_loop ?_
      first
        | (have hO9 := own_set8 (i := k) c8 hOr (by omega)
           have hl9 : (eb.set k c8).length = eb.length := List.length_set ..
           refine ⟨(eb.set k c8, [_]), ⟨rfl, rfl, rfl, by simp only [hl9]; rfl, trivial⟩, hs, by simp only [hl9]; exact hO9, ?_, by simp only [hl9]; omega⟩
           intro b hb
           rcases List.mem_or_eq_of_mem_set hb with h | h
           · exact hB b h
           · rw [h]; exact hc8)
        | exact ⟨(eb, Lr), ⟨rfl, rfl, rfl, rfl, trivial⟩, hs, hOr, hB, hlen2⟩
  · skip
    clear hs hOr hB hlen2
    clear eb
    rintro ⟨tb, Lt⟩ w ⟨hs, hOt, hB, hlen2⟩
    simp only at hs hOt hB hlen2 ⊢
    refine W_seq ?_
    refine W_region ?_
    refine s_move rfl rfl ?_
    refine s_call Try.call21 rfl rfl (read_ok _ tb w (hOt.sl hs) (by omega) hB) ?_
    rintro r w ⟨p, LP, rfl, hP, hst⟩
    replace hs := St.back0 hs hst
    clear hst
    replace hs : St [] w0 w (Lv ++ (vblks vs ++ (Lt ++ LP))) := by simpa [cat] using St.reord [LP, Lt, Lv, vblks vs] [2, 3, 1, 0] [] (by simpa [cat] using hs) rfl
    refine s_assign rfl rfl ?_
    refine WL_nil ?_
    refine n_then ?_
    refine W_seq ?_
    refine W_seq ?_
    refine W_region ?_
    refine s_move rfl rfl ?_
    refine s_eql_ptr_nil Try.underlying39 rfl rfl rfl ?_
    refine WL_nil ?_
    refine n_then ?_
    refine W_cond_kf rfl (rfl) ?_
    refine W_skip ?_
    refine n_then ?_
    refine W_seq ?_
    refine W_region ?_
    refine s_assign rfl rfl ?_
    refine WL_nil ?_
    refine n_then ?_
    refine W_seq ?_
    refine W_seq ?_
    refine W_region ?_
    refine s_assign rfl rfl ?_
    refine WL_nil ?_
    refine n_then ?_
    refine W_block ?_
    refine W_loop (σ := GS) (fun s => [(0, rv), (4, .slice ka ks.length kc), (11, .slice ava vs.length avc), (12, .slice rva tb.length rvc), (13, .pointer (some ⟨p, 0, none⟩)), (14, s.gv), (15, .int .i64 (s.i : Int))])
      (fun s w => St [] w0 w (Lv ++ (vblks vs ++ (Lt ++ (s.LP ++ (s.Lg ++ vblks s.gs))))) ∧ RdAt p s.s s.LP ∧ OwnS 47 5 s.gv s.gs.length (vcells s.gs) s.Lg ∧ (∀ x ∈ s.gs, x.ok) ∧ oneS tb s.gs s.s ∧ s.gs.length = s.i ∧ s.i ≤ vs.length) (fun s => vs.length - s.i) ⟨0, _, LP, [], .slice none 0 0, []⟩ ⟨rfl, rfl, rfl, rfl, rfl, rfl, rfl, trivial⟩ ⟨by simpa [vblks] using hs, hP, OwnS.nil _ _, by simp, fun _ => rfl, rfl, Nat.zero_le _⟩ ?_
    clear hs hP LP
    rintro ⟨i, s1, LP, gs, gv, Lg⟩ w ⟨hs, hP, hOg, hok, hone, hgl, hil⟩
    simp only at hs hP hOg hok hone hgl hil ⊢
    refine W_seq ?_
    refine W_seq ?_
    refine W_region ?_
    refine s_move rfl rfl ?_
    refine s_move rfl rfl ?_
    refine s_len rfl rfl (LN35 _ _ _ _) ?_
    refine s_lss rfl rfl rfl ?_
    refine WL_nil ?_
    refine n_then ?_
    refine W_cond rfl (fun hc39 => ?_) (fun hc39 => ?_)
    · skip
      try simp only [decide_eq_true_eq, decide_eq_false_iff_not, beq_iff_eq, beq_eq_false_iff_ne, ne_eq, bne_iff_ne, bne_eq_false_iff_eq] at hc39
      have hix : i < vs.length := by omega
      have hxi : vs[i]? = some vs[i] := List.getElem?_eq_getElem hix
      obtain ⟨g, cap, sp, hgv, hcap, rfl⟩ := hO.block (by omega)
      cases hgv
      simp only [List.cons_append, List.nil_append] at hs
      have cc : ∀ j u, j < 5 → vs[i].cells[j]? = some u → (vcells vs ++ sp)[0 + (i : Int).toNat * 5 + j]? = some u := fun j u hj hu => by
        rw [Nat.zero_add, Int.toNat_natCast, List.getElem?_append_left (by rw [vcells_length]; omega), vcells_at hj hxi]; exact hu
      generalize vs[i] = x at cc
      refine W_skip ?_
      refine n_then ?_
      refine W_seq ?_
      refine W_block ?_
      refine W_region ?_
      refine s_move rfl rfl ?_
      refine s_move rfl rfl ?_
      refine s_move rfl rfl ?_
      refine s_move rfl rfl ?_
      (refine s_indexAddr El35 rfl rfl rfl ?hx ?_; case hx => (constructor <;> first | omega | (simp; omega)))
      refine s_fieldAddr rfl rfl (FA47_0 _ _) ?_
      first
        | refine s_load Try.isAgg3 rfl rfl (hs.cell (k := 0) rfl rfl) ?_
        | refine s_load Try.isAgg3 rfl rfl (hs.cell (k := 1) rfl rfl) ?_
        | refine s_load Try.isAgg3 rfl rfl (hs.cell (k := 2) rfl rfl) ?_
        | refine s_load Try.isAgg3 rfl rfl ((hs.cell (k := 0) rfl (cc 0 _ (by omega) rfl))) ?_
      refine s_callL (M := _ :: (vblks vs ++ Lt)) (L1 := LP) (X := Lg ++ vblks gs) Try.call23 rfl rfl (by simpa using hs) (fun h => rread_ok p _ x.p.kind LP w hP h) ?_
      clear hs hP; rintro v w L2 ⟨LP, y, rfl, rfl, hP, hyp, hyo⟩ - hs
      simp only [List.cons_append, List.append_assoc] at hs
      have hone2 := oneS_next hB hone hyp
      have hyo' : ∀ q ∈ y.L, w.heap[q.1]? = some q.2 := fun q hq => hs.own q (by simp [hq])
      have hy1 : y.bv.oneCell' = true := by obtain ⟨_, ybc, yba, hyb, _⟩ := hyo.b.form w (fun q hq => hyo' q (List.mem_append_left _ hq)); rw [hyb]; rfl
      have hy2 : y.lv.oneCell' = true := by obtain ⟨_, ybc, yba, hyb, _⟩ := hyo.l.form w (fun q hq => hyo' q (List.mem_append_right _ hq)); rw [hyb]; rfl
      refine s_buildSlice rfl rfl (BS35_1 _ _ _ _ _) hs ?_; clear hs; intro b50 w hs
      refine s_appendM (M := _ :: _ :: (vblks vs ++ (Lt ++ (LP ++ y.L)))) (Lv := Lg) (X := vblks gs) El35 rfl rfl rfl hOg (by simpa using hs) (hs.sl (k := 0) (ds := y.cells) rfl (Nat.le_refl _) (by intro j u hj; rw [Nat.zero_add]; exact hj)) rfl (vcells_one y hy1 hy2) (by omega) ?_
      clear hs; intro gv' w Lg' hOg' hs
      replace hs : St [] w0 w ((g, Blk 47 (vcells vs ++ sp)) :: (vblks vs ++ (Lt ++ (LP ++ (Lg' ++ (vblks gs ++ y.L)))))) := by simpa [cat] using St.reord [[_], [(g, Blk 47 (vcells vs ++ sp))], vblks vs, Lt, LP, y.L, Lg', vblks gs] [1, 2, 3, 4, 6, 7, 5] [0] (by simpa [cat] using hs) rfl
      refine s_assign rfl rfl ?_
      refine WL_nil ?_
      refine n_blk ?_
      refine n_then ?_
      refine W_region ?_
      refine s_move rfl rfl ?_
      first | (refine s_add' rfl rfl rfl ?hx ?_; case hx => (constructor <;> first | omega | (simp only; omega))) | refine s_add rfl rfl rfl ?_
      refine s_assign rfl rfl ?_
      refine WL_nil ?_
      refine n_loop ?_
      refine ⟨⟨i + 1, _, LP, gs ++ [y], gv', Lg'⟩, ⟨rfl, rfl, rfl, rfl, rfl, rfl, rfl, trivial⟩, ⟨?_, hP, ?_, ?_, hone2, by simp [hgl], by simp only; omega⟩, by simp only; omega⟩
      · simp only; rw [vblks_append]; simpa [vblks] using hs
      · simp only [List.length_append, List.length_cons, List.length_nil]; rw [vcells_append]; simpa [vcells] using hOg'
      · intro z hz; rcases List.mem_append.1 hz with h | h
        · exact hok z h
        · simp at h; subst h; exact hyo
    · skip
      try simp only [decide_eq_true_eq, decide_eq_false_iff_not, beq_iff_eq, beq_eq_false_iff_ne, ne_eq, bne_iff_ne, bne_eq_false_iff_eq] at hc39
      refine W_exit ?_
      refine x_then ?_
      refine x_then ?_
      refine exit_hit ?_
      refine n_then ?_
      refine W_seq ?_
      refine W_seq ?_
      refine W_region ?_
      refine s_move rfl rfl ?_
      refine s_callL (M := Lv ++ (vblks vs ++ Lt)) (L1 := LP) (X := Lg ++ vblks gs) Try.call25 rfl rfl (by simpa using hs) (fun h => rEnd_ok p _ _ w hP h) ?_
      clear hs; rintro v w LP2 ⟨rfl, rfl⟩ - hs
      refine s_eql rfl rfl rfl ?_
      refine s_move rfl rfl ?_
      refine WL_case (s := 55) rfl (fun hg55 => ?_) (fun hg55 => ?_)
      · skip
        try simp only [decide_eq_true_eq, decide_eq_false_iff_not, beq_iff_eq, beq_eq_false_iff_ne, ne_eq, bne_iff_ne, bne_eq_false_iff_eq] at hg55
        obtain ⟨he0, hrn⟩ := rdEnd_zero hg55
        have htb : tb = encVs gs := by have := hone he0; rw [hrn, List.append_nil] at this; exact this
        replace hs : St [] w0 w (Lg ++ (vblks gs ++ (Lt ++ []))) := by simpa [cat] using St.reord [Lv, vblks vs, Lt, LP2, Lg, vblks gs] [4, 5, 2] [0, 1, 3] (by simpa [cat] using hs) rfl
        refine WL_take rfl ?_
        refine s_move rfl rfl ?_
        refine WL_take rfl ?_
        refine s_call Try.call35 rfl rfl (encode_ok _ gs w (hOg.sl hs) hok (fun q hq => hs.own q (by simp [hq])) (fun k => by have := encVs_take_le gs k; rw [← htb] at this; omega) (by omega)) ?_
        rintro r w ⟨Le, hOe, hst⟩
        replace hs := St.back0 hs hst
        clear hst
        rw [← htb] at hOe
        refine WL_take rfl ?_
        refine s_move rfl rfl ?_
        refine WL_take rfl ?_
        refine s_call Try.call30 rfl rfl (sameBytes_ok _ _ tb tb w (hOe.sl hs) (St_lastSl (M := Le ++ (Lg ++ vblks gs)) (A := []) (B := Lt) (by simpa using hs) hOt) (by omega)) ?_
        rintro r w ⟨hst, rfl⟩
        replace hs := hs.fwd1 hst
        clear hst
        refine WL_take rfl ?_
        refine s_not rfl rfl ?_
        refine s_pick_t rfl rfl rfl ?_
        refine WL_nil ?_
        refine n_then ?_
        refine W_cond_kf rfl ((by simp)) ?_
        refine W_skip ?_
        refine n_then ?_
        refine W_seq ?_
        refine W_region ?_
        refine s_move rfl rfl ?_
        refine s_call Try.call20 rfl rfl (few_ok rv raw 60 w (hr.fwd0 hs.fwd) (by omega)) ?_
        rintro r w ⟨Lf, hOf, hst⟩
        replace hs : St [] w0 w Lf := (St.back0 hs hst).left
        clear hst
        have hbl : (raw.take 60).length = min raw.length 60 := by rw [List.length_take, Nat.min_comm]
        rw [← hbl] at hOf
        have hfB : ∀ z ∈ raw.take 60, isB z := fun z hz => hrB z (List.mem_of_mem_take hz)
        have hf60 : (raw.take 60).length ≤ 60 := by rw [hbl]; omega
        generalize raw.take 60 = fb at hOf hfB hf60
        obtain ⟨_, fvc, fva, rfl, rfl⟩ := hOf.form
        refine s_assign rfl rfl ?_
        refine WL_nil ?_
        refine n_then ?_
        refine W_seq ?_
        refine W_region ?_
        refine s_move rfl rfl ?_
        refine s_call Try.call21 rfl rfl (read_ok _ fb w (hOf.sl (M := []) (by simpa using hs)) (by omega) hfB) ?_
        rintro r w ⟨q, LQ, rfl, hQ, hst⟩
        replace hs : St [] w0 w (Lf ++ LQ) := (St.back0 hs hst).swap
        clear hst
        refine s_assign rfl rfl ?_
        refine WL_nil ?_
        refine n_then ?_
        refine W_seq ?_
        refine W_seq ?_
        refine W_region ?_
        refine s_move rfl rfl ?_
        refine s_eql_ptr_nil Try.underlying39 rfl rfl rfl ?_
        refine WL_nil ?_
        refine n_then ?_
        refine W_cond_kf rfl (rfl) ?_
        refine W_skip ?_
        refine n_then ?_
        refine W_seq ?_
        refine W_region ?_
        refine s_assign rfl rfl ?_
        refine WL_nil ?_
        refine n_then ?_
        refine W_seq ?_
        refine W_seq ?_
        refine W_region ?_
        refine s_assign rfl rfl ?_
        refine WL_nil ?_
        refine n_then ?_
        refine W_block ?_
        refine W_loop (σ := GS) (fun s => [(4, .slice ka ks.length kc), (13, .pointer (some ⟨q, 0, none⟩)), (14, s.gv), (16, .slice fva fb.length fvc), (17, .int .i64 (s.i : Int))])
          (fun s w => St [] w0 w (Lf ++ (s.LP ++ (s.Lg ++ vblks s.gs))) ∧ RdAt q s.s s.LP ∧ OwnS 47 5 s.gv s.gs.length (vcells s.gs) s.Lg ∧ (∀ x ∈ s.gs, x.ok) ∧ oneS fb s.gs s.s ∧ s.gs.length = s.i ∧ s.i ≤ 10) (fun s => 10 - s.i) ⟨0, _, LQ, [], .slice none 0 0, []⟩ ⟨rfl, rfl, rfl, rfl, rfl, trivial⟩ ⟨by simpa [vblks] using hs, hQ, OwnS.nil _ _, by simp, fun _ => rfl, rfl, Nat.zero_le _⟩ ?_
        clear hs hQ LQ
        clear hP hOg hok hone hgl hil
        rintro ⟨i, s1, LP, gs, gv, Lg⟩ w ⟨hs, hP, hOg, hok, hone, hgl, hil⟩
        simp only at hs hP hOg hok hone hgl hil ⊢
        refine W_seq ?_
        refine W_seq ?_
        refine W_region ?_
        refine s_move rfl rfl ?_
        refine s_move rfl rfl ?_
        refine s_len rfl rfl (LN33 _ _ _ _) ?_
        refine s_lss rfl rfl rfl ?_
        refine s_move rfl rfl ?_
        refine WL_case (s := 72) rfl (fun hg72 => ?_) (fun hg72 => ?_)
        · skip
          try simp only [decide_eq_true_eq, decide_eq_false_iff_not, beq_iff_eq, beq_eq_false_iff_ne, ne_eq, bne_iff_ne, bne_eq_false_iff_eq] at hg72
          refine WL_take rfl ?_
          refine s_move rfl rfl ?_
          refine WL_take rfl ?_
          refine s_lss rfl rfl rfl ?_
          refine s_pick_t rfl rfl rfl ?_
          refine s_move rfl rfl ?_
          refine WL_case (s := 76) rfl (fun hg76 => ?_) (fun hg76 => ?_)
          · skip
            try simp only [decide_eq_true_eq, decide_eq_false_iff_not, beq_iff_eq, beq_eq_false_iff_ne, ne_eq, bne_iff_ne, bne_eq_false_iff_eq] at hg76
            refine WL_take rfl ?_
            refine s_move rfl rfl ?_
            refine WL_take rfl ?_
            refine s_callL (M := Lf) (L1 := LP) (X := Lg ++ vblks gs) Try.call25 rfl rfl hs (fun h => rEnd_ok q _ _ w hP h) ?_
            clear hs; rintro v w LP2 ⟨rfl, rfl⟩ - hs
            refine WL_take rfl ?_
            refine s_neq rfl rfl rfl ?_
            refine s_pick_t rfl rfl rfl ?_
            refine WL_nil ?_
            refine n_then ?_
            refine W_cond rfl (fun hc80 => ?_) (fun hc80 => ?_)
            · skip
              try simp only [decide_eq_true_eq, decide_eq_false_iff_not, beq_iff_eq, beq_eq_false_iff_ne, ne_eq, bne_iff_ne, bne_eq_false_iff_eq] at hc80
              refine W_skip ?_
              refine n_then ?_
              refine W_seq ?_
              refine W_block ?_
              refine W_region ?_
              refine s_move rfl rfl ?_
              refine s_move rfl rfl ?_
              refine s_move rfl rfl ?_
              refine s_move rfl rfl ?_
              have hix : i < ks.length := by omega
              obtain ⟨b1, o1, hA1, hc1⟩ := hk.at (k := i) (i64s_at' hix)
              have hB1 : b1 < w0.heap.size := World.block_lt_of_cell? w0 _ hc1
              have hm : isI64 (ks.getD i 0) := hkI _ (by rw [List.getD_eq_getElem?_getD, List.getElem?_eq_getElem hix]; simp)
              generalize ks.getD i 0 = kq at hc1 hm
              (refine s_indexAddrO El33 rfl rfl rfl hA1 ?hx ?_; case hx => (constructor <;> omega))
              refine s_load Try.isAgg3 rfl rfl ((hs.oldcell (a := ⟨b1, o1 + i, none⟩) hB1 (by simp)).trans hc1) ?_
              refine s_call Try.call11 rfl rfl (around_ok kq 6 w (by omega) hm) ?_
              rintro r w ⟨rfl, rfl⟩
              generalize aroundV kq 6 = k6
              refine s_callL (M := Lf) (L1 := LP2) (X := Lg ++ vblks gs) Try.call23 rfl rfl hs (fun h => rread_ok q _ k6 LP2 w hP h) ?_
              clear hs hP; rintro v w L2 ⟨LP, y, rfl, rfl, hP, hyp, hyo⟩ - hs
              simp only [List.append_assoc] at hs
              have hone2 := oneS_next hfB hone hyp
              have hyo' : ∀ q ∈ y.L, w.heap[q.1]? = some q.2 := fun q hq => hs.own q (by simp [hq])
              have hy1 : y.bv.oneCell' = true := by obtain ⟨_, ybc, yba, hyb, _⟩ := hyo.b.form w (fun q hq => hyo' q (List.mem_append_left _ hq)); rw [hyb]; rfl
              have hy2 : y.lv.oneCell' = true := by obtain ⟨_, ybc, yba, hyb, _⟩ := hyo.l.form w (fun q hq => hyo' q (List.mem_append_right _ hq)); rw [hyb]; rfl
              refine s_buildSlice rfl rfl (BS35_1 _ _ _ _ _) hs ?_; clear hs; intro b91 w hs
              refine s_appendM (M := _ :: (Lf ++ (LP ++ y.L))) (Lv := Lg) (X := vblks gs) El35 rfl rfl rfl hOg (by simpa using hs) (hs.sl (k := 0) (ds := y.cells) rfl (Nat.le_refl _) (by intro j u hj; rw [Nat.zero_add]; exact hj)) rfl (vcells_one y hy1 hy2) (by omega) ?_
              clear hs; intro gv' w Lg' hOg' hs
              replace hs : St [] w0 w (Lf ++ (LP ++ (Lg' ++ (vblks gs ++ y.L)))) := by simpa [cat] using St.reord [[_], Lf, LP, y.L, Lg', vblks gs] [1, 2, 4, 5, 3] [0] (by simpa [cat] using hs) rfl
              refine s_assign rfl rfl ?_
              refine WL_nil ?_
              refine n_blk ?_
              refine n_then ?_
              refine W_region ?_
              refine s_move rfl rfl ?_
              first | (refine s_add' rfl rfl rfl ?hx ?_; case hx => (constructor <;> first | omega | (simp only; omega))) | refine s_add rfl rfl rfl ?_
              refine s_assign rfl rfl ?_
              refine WL_nil ?_
              refine n_loop ?_
              refine ⟨⟨i + 1, _, LP, gs ++ [y], gv', Lg'⟩, ⟨rfl, rfl, rfl, rfl, rfl, trivial⟩, ⟨?_, hP, ?_, ?_, hone2, by simp [hgl], by simp only; omega⟩, by simp only; omega⟩
              · simp only; rw [vblks_append]; simpa [vblks] using hs
              · simp only [List.length_append, List.length_cons, List.length_nil]; rw [vcells_append]; simpa [vcells] using hOg'
              · intro z hz; rcases List.mem_append.1 hz with h | h
                · exact hok z h
                · simp at h; subst h; exact hyo
            · skip
              try simp only [decide_eq_true_eq, decide_eq_false_iff_not, beq_iff_eq, beq_eq_false_iff_ne, ne_eq, bne_iff_ne, bne_eq_false_iff_eq] at hc80
              refine W_exit ?_
              refine x_then ?_
              refine x_then ?_
              refine exit_hit ?_
              refine n_then ?_
              refine W_seq ?_
              refine W_region ?_
              refine s_move rfl rfl ?_
              first
                | (refine s_callL (M := Lf) (L1 := LP) (X := Lg ++ vblks gs) Try.call25 rfl rfl hs (fun h => rEnd_ok q _ _ w hP h) ?_)
                | (refine s_callL (M := Lf) (L1 := LP2) (X := Lg ++ vblks gs) Try.call25 rfl rfl hs (fun h => rEnd_ok q _ _ w hP h) ?_)
              clear hs; rintro v w LP9 ⟨rfl, rfl⟩ - hs
              refine s_neq rfl rfl rfl ?_
              refine s_move rfl rfl ?_
              refine WL_case (s := 96) rfl (fun hg96 => ?_) (fun hg96 => ?_)
              · skip
                try simp only [decide_eq_true_eq, decide_eq_false_iff_not, beq_iff_eq, beq_eq_false_iff_ne, ne_eq, bne_iff_ne, bne_eq_false_iff_eq] at hg96
                refine WL_skip rfl rfl rfl ?_
                refine WL_skip rfl rfl rfl ?_
                refine WL_skip rfl rfl rfl ?_
                refine WL_skip rfl rfl rfl ?_
                refine s_pick_t rfl rfl rfl ?_
                refine s_move rfl rfl ?_
                refine WL_take rfl ?_
                refine s_call Try.call17 rfl rfl (lives_ok w) ?_
                rintro r w ⟨hst, rfl⟩
                replace hs := hs.fwd1 hst
                refine s_pick_t rfl rfl rfl ?_
                refine s_assign rfl rfl ?_
                refine WL_nil ?_
                refine n_then ?_
                refine W_ret ?_
                exact end1 rfl rfl ⟨hs.fwd, rfl⟩
              · skip
                try simp only [decide_eq_true_eq, decide_eq_false_iff_not, beq_iff_eq, beq_eq_false_iff_ne, ne_eq, bne_iff_ne, bne_eq_false_iff_eq] at hg96
                obtain ⟨he0, hrn⟩ := rdEnd_zero hg96
                have htb : fb = encVs gs := by have := hone he0; rw [hrn, List.append_nil] at this; exact this
                replace hs : St [] w0 w (Lg ++ (vblks gs ++ (Lf ++ []))) := by simpa [cat] using St.reord [Lf, LP9, Lg, vblks gs] [2, 3, 0] [1] (by simpa [cat] using hs) rfl
                refine WL_take rfl ?_
                refine s_move rfl rfl ?_
                refine WL_take rfl ?_
                refine s_call Try.call35 rfl rfl (encode_ok _ gs w (hOg.sl hs) hok (fun q hq => hs.own q (by simp [hq])) (fun k => by have := encVs_take_le gs k; rw [← htb] at this; omega) (by omega)) ?_
                rintro r w ⟨Le, hOe, hst⟩
                replace hs := St.back0 hs hst
                clear hst
                rw [← htb] at hOe
                refine WL_take rfl ?_
                refine s_move rfl rfl ?_
                refine WL_take rfl ?_
                refine s_call Try.call30 rfl rfl (sameBytes_ok _ _ fb fb w (hOe.sl hs) (St_lastSl (M := Le ++ (Lg ++ vblks gs)) (A := []) (B := Lf) (by simpa using hs) hOf) (by omega)) ?_
                rintro r w ⟨hst, rfl⟩
                replace hs := hs.fwd1 hst
                clear hst
                refine s_pick_f rfl rfl rfl ?_
                refine s_move rfl rfl ?_
                refine WL_know (s := 102) (c := true) rfl ((by simp)) ?_
                refine WL_take rfl ?_
                refine s_call Try.call17 rfl rfl (lives_ok w) ?_
                rintro r w ⟨hst, rfl⟩
                replace hs := hs.fwd1 hst
                refine s_pick_t rfl rfl rfl ?_
                refine s_assign rfl rfl ?_
                refine WL_nil ?_
                refine n_then ?_
                refine W_ret ?_
                exact end1 rfl rfl ⟨hs.fwd, rfl⟩
          · skip
            try simp only [decide_eq_true_eq, decide_eq_false_iff_not, beq_iff_eq, beq_eq_false_iff_ne, ne_eq, bne_iff_ne, bne_eq_false_iff_eq] at hg76
            refine WL_skip rfl rfl rfl ?_
            refine WL_skip rfl rfl rfl ?_
            refine WL_skip rfl rfl rfl ?_
            refine s_pick_f rfl rfl rfl ?_
            refine WL_nil ?_
            refine n_then ?_
            refine W_cond_f rfl ?_
            refine W_exit ?_
            refine x_then ?_
            refine x_then ?_
            refine exit_hit ?_
            refine n_then ?_
            refine W_seq ?_
            refine W_region ?_
            refine s_move rfl rfl ?_
            first
              | (refine s_callL (M := Lf) (L1 := LP) (X := Lg ++ vblks gs) Try.call25 rfl rfl hs (fun h => rEnd_ok q _ _ w hP h) ?_)
              | (refine s_callL (M := Lf) (L1 := LP2) (X := Lg ++ vblks gs) Try.call25 rfl rfl hs (fun h => rEnd_ok q _ _ w hP h) ?_)
            clear hs; rintro v w LP9 ⟨rfl, rfl⟩ - hs
            refine s_neq rfl rfl rfl ?_
            refine s_move rfl rfl ?_
            refine WL_case (s := 96) rfl (fun hg96 => ?_) (fun hg96 => ?_)
            · skip
              try simp only [decide_eq_true_eq, decide_eq_false_iff_not, beq_iff_eq, beq_eq_false_iff_ne, ne_eq, bne_iff_ne, bne_eq_false_iff_eq] at hg96
              refine WL_skip rfl rfl rfl ?_
              refine WL_skip rfl rfl rfl ?_
              refine WL_skip rfl rfl rfl ?_
              refine WL_skip rfl rfl rfl ?_
              refine s_pick_t rfl rfl rfl ?_
              refine s_move rfl rfl ?_
              refine WL_take rfl ?_
              refine s_call Try.call17 rfl rfl (lives_ok w) ?_
              rintro r w ⟨hst, rfl⟩
              replace hs := hs.fwd1 hst
              refine s_pick_t rfl rfl rfl ?_
              refine s_assign rfl rfl ?_
              refine WL_nil ?_
              refine n_then ?_
              refine W_ret ?_
              exact end1 rfl rfl ⟨hs.fwd, rfl⟩
            · skip
              try simp only [decide_eq_true_eq, decide_eq_false_iff_not, beq_iff_eq, beq_eq_false_iff_ne, ne_eq, bne_iff_ne, bne_eq_false_iff_eq] at hg96
              obtain ⟨he0, hrn⟩ := rdEnd_zero hg96
              have htb : fb = encVs gs := by have := hone he0; rw [hrn, List.append_nil] at this; exact this
              replace hs : St [] w0 w (Lg ++ (vblks gs ++ (Lf ++ []))) := by simpa [cat] using St.reord [Lf, LP9, Lg, vblks gs] [2, 3, 0] [1] (by simpa [cat] using hs) rfl
              refine WL_take rfl ?_
              refine s_move rfl rfl ?_
              refine WL_take rfl ?_
              refine s_call Try.call35 rfl rfl (encode_ok _ gs w (hOg.sl hs) hok (fun q hq => hs.own q (by simp [hq])) (fun k => by have := encVs_take_le gs k; rw [← htb] at this; omega) (by omega)) ?_
              rintro r w ⟨Le, hOe, hst⟩
              replace hs := St.back0 hs hst
              clear hst
              rw [← htb] at hOe
              refine WL_take rfl ?_
              refine s_move rfl rfl ?_
              refine WL_take rfl ?_
              refine s_call Try.call30 rfl rfl (sameBytes_ok _ _ fb fb w (hOe.sl hs) (St_lastSl (M := Le ++ (Lg ++ vblks gs)) (A := []) (B := Lf) (by simpa using hs) hOf) (by omega)) ?_
              rintro r w ⟨hst, rfl⟩
              replace hs := hs.fwd1 hst
              clear hst
              refine s_pick_f rfl rfl rfl ?_
              refine s_move rfl rfl ?_
              refine WL_know (s := 102) (c := true) rfl ((by simp)) ?_
              refine WL_take rfl ?_
              refine s_call Try.call17 rfl rfl (lives_ok w) ?_
              rintro r w ⟨hst, rfl⟩
              replace hs := hs.fwd1 hst
              refine s_pick_t rfl rfl rfl ?_
              refine s_assign rfl rfl ?_
              refine WL_nil ?_
              refine n_then ?_
              refine W_ret ?_
              exact end1 rfl rfl ⟨hs.fwd, rfl⟩
        · skip
          try simp only [decide_eq_true_eq, decide_eq_false_iff_not, beq_iff_eq, beq_eq_false_iff_ne, ne_eq, bne_iff_ne, bne_eq_false_iff_eq] at hg72
          refine WL_skip rfl rfl rfl ?_
          refine WL_skip rfl rfl rfl ?_
          refine s_pick_f rfl rfl rfl ?_
          refine s_move rfl rfl ?_
          refine WL_skip rfl rfl rfl ?_
          refine WL_skip rfl rfl rfl ?_
          refine WL_skip rfl rfl rfl ?_
          refine s_pick_f rfl rfl rfl ?_
          refine WL_nil ?_
          refine n_then ?_
          refine W_cond_f rfl ?_
          refine W_exit ?_
          refine x_then ?_
          refine x_then ?_
          refine exit_hit ?_
          refine n_then ?_
          refine W_seq ?_
          refine W_region ?_
          refine s_move rfl rfl ?_
          first
            | (refine s_callL (M := Lf) (L1 := LP) (X := Lg ++ vblks gs) Try.call25 rfl rfl hs (fun h => rEnd_ok q _ _ w hP h) ?_)
            | (refine s_callL (M := Lf) (L1 := LP2) (X := Lg ++ vblks gs) Try.call25 rfl rfl hs (fun h => rEnd_ok q _ _ w hP h) ?_)
          clear hs; rintro v w LP9 ⟨rfl, rfl⟩ - hs
          refine s_neq rfl rfl rfl ?_
          refine s_move rfl rfl ?_
          refine WL_case (s := 96) rfl (fun hg96 => ?_) (fun hg96 => ?_)
          · skip
            try simp only [decide_eq_true_eq, decide_eq_false_iff_not, beq_iff_eq, beq_eq_false_iff_ne, ne_eq, bne_iff_ne, bne_eq_false_iff_eq] at hg96
            refine WL_skip rfl rfl rfl ?_
            refine WL_skip rfl rfl rfl ?_
            refine WL_skip rfl rfl rfl ?_
            refine WL_skip rfl rfl rfl ?_
            refine s_pick_t rfl rfl rfl ?_
            refine s_move rfl rfl ?_
            refine WL_take rfl ?_
            refine s_call Try.call17 rfl rfl (lives_ok w) ?_
            rintro r w ⟨hst, rfl⟩
            replace hs := hs.fwd1 hst
            refine s_pick_t rfl rfl rfl ?_
            refine s_assign rfl rfl ?_
            refine WL_nil ?_
            refine n_then ?_
            refine W_ret ?_
            exact end1 rfl rfl ⟨hs.fwd, rfl⟩
          · skip
            try simp only [decide_eq_true_eq, decide_eq_false_iff_not, beq_iff_eq, beq_eq_false_iff_ne, ne_eq, bne_iff_ne, bne_eq_false_iff_eq] at hg96
            obtain ⟨he0, hrn⟩ := rdEnd_zero hg96
            have htb : fb = encVs gs := by have := hone he0; rw [hrn, List.append_nil] at this; exact this
            replace hs : St [] w0 w (Lg ++ (vblks gs ++ (Lf ++ []))) := by simpa [cat] using St.reord [Lf, LP9, Lg, vblks gs] [2, 3, 0] [1] (by simpa [cat] using hs) rfl
            refine WL_take rfl ?_
            refine s_move rfl rfl ?_
            refine WL_take rfl ?_
            refine s_call Try.call35 rfl rfl (encode_ok _ gs w (hOg.sl hs) hok (fun q hq => hs.own q (by simp [hq])) (fun k => by have := encVs_take_le gs k; rw [← htb] at this; omega) (by omega)) ?_
            rintro r w ⟨Le, hOe, hst⟩
            replace hs := St.back0 hs hst
            clear hst
            rw [← htb] at hOe
            refine WL_take rfl ?_
            refine s_move rfl rfl ?_
            refine WL_take rfl ?_
            refine s_call Try.call30 rfl rfl (sameBytes_ok _ _ fb fb w (hOe.sl hs) (St_lastSl (M := Le ++ (Lg ++ vblks gs)) (A := []) (B := Lf) (by simpa using hs) hOf) (by omega)) ?_
            rintro r w ⟨hst, rfl⟩
            replace hs := hs.fwd1 hst
            clear hst
            refine s_pick_f rfl rfl rfl ?_
            refine s_move rfl rfl ?_
            refine WL_know (s := 102) (c := true) rfl ((by simp)) ?_
            refine WL_take rfl ?_
            refine s_call Try.call17 rfl rfl (lives_ok w) ?_
            rintro r w ⟨hst, rfl⟩
            replace hs := hs.fwd1 hst
            refine s_pick_t rfl rfl rfl ?_
            refine s_assign rfl rfl ?_
            refine WL_nil ?_
            refine n_then ?_
            refine W_ret ?_
            exact end1 rfl rfl ⟨hs.fwd, rfl⟩
      · skip
        try simp only [decide_eq_true_eq, decide_eq_false_iff_not, beq_iff_eq, beq_eq_false_iff_ne, ne_eq, bne_iff_ne, bne_eq_false_iff_eq] at hg55
        refine WL_skip rfl rfl rfl ?_
        refine WL_skip rfl rfl rfl ?_
        refine WL_skip rfl rfl rfl ?_
        refine WL_skip rfl rfl rfl ?_
        refine WL_skip rfl rfl rfl ?_
        refine s_pick_f rfl rfl rfl ?_
        refine WL_nil ?_
        refine n_then ?_
        refine W_cond_f rfl ?_
        refine W_skip ?_
        refine n_then ?_
        refine W_seq ?_
        refine W_region ?_
        refine s_move rfl rfl ?_
        refine s_call Try.call20 rfl rfl (few_ok rv raw 60 w (hr.fwd0 hs.fwd) (by omega)) ?_
        rintro r w ⟨Lf, hOf, hst⟩
        replace hs : St [] w0 w Lf := (St.back0 hs hst).left
        clear hst
        have hbl : (raw.take 60).length = min raw.length 60 := by rw [List.length_take, Nat.min_comm]
        rw [← hbl] at hOf
        have hfB : ∀ z ∈ raw.take 60, isB z := fun z hz => hrB z (List.mem_of_mem_take hz)
        have hf60 : (raw.take 60).length ≤ 60 := by rw [hbl]; omega
        generalize raw.take 60 = fb at hOf hfB hf60
        obtain ⟨_, fvc, fva, rfl, rfl⟩ := hOf.form
        refine s_assign rfl rfl ?_
        refine WL_nil ?_
        refine n_then ?_
        refine W_seq ?_
        refine W_region ?_
        refine s_move rfl rfl ?_
        refine s_call Try.call21 rfl rfl (read_ok _ fb w (hOf.sl (M := []) (by simpa using hs)) (by omega) hfB) ?_
        rintro r w ⟨q, LQ, rfl, hQ, hst⟩
        replace hs : St [] w0 w (Lf ++ LQ) := (St.back0 hs hst).swap
        clear hst
        refine s_assign rfl rfl ?_
        refine WL_nil ?_
        refine n_then ?_
        refine W_seq ?_
        refine W_seq ?_
        refine W_region ?_
        refine s_move rfl rfl ?_
        refine s_eql_ptr_nil Try.underlying39 rfl rfl rfl ?_
        refine WL_nil ?_
        refine n_then ?_
        refine W_cond_kf rfl (rfl) ?_
        refine W_skip ?_
        refine n_then ?_
        refine W_seq ?_
        refine W_region ?_
        refine s_assign rfl rfl ?_
        refine WL_nil ?_
        refine n_then ?_
        refine W_seq ?_
        refine W_seq ?_
        refine W_region ?_
        refine s_assign rfl rfl ?_
        refine WL_nil ?_
        refine n_then ?_
        refine W_block ?_
        refine W_loop (σ := GS) (fun s => [(4, .slice ka ks.length kc), (13, .pointer (some ⟨q, 0, none⟩)), (14, s.gv), (16, .slice fva fb.length fvc), (17, .int .i64 (s.i : Int))])
          (fun s w => St [] w0 w (Lf ++ (s.LP ++ (s.Lg ++ vblks s.gs))) ∧ RdAt q s.s s.LP ∧ OwnS 47 5 s.gv s.gs.length (vcells s.gs) s.Lg ∧ (∀ x ∈ s.gs, x.ok) ∧ oneS fb s.gs s.s ∧ s.gs.length = s.i ∧ s.i ≤ 10) (fun s => 10 - s.i) ⟨0, _, LQ, [], .slice none 0 0, []⟩ ⟨rfl, rfl, rfl, rfl, rfl, trivial⟩ ⟨by simpa [vblks] using hs, hQ, OwnS.nil _ _, by simp, fun _ => rfl, rfl, Nat.zero_le _⟩ ?_
        clear hs hQ LQ
        clear hP hOg hok hone hgl hil
        rintro ⟨i, s1, LP, gs, gv, Lg⟩ w ⟨hs, hP, hOg, hok, hone, hgl, hil⟩
        simp only at hs hP hOg hok hone hgl hil ⊢
        refine W_seq ?_
        refine W_seq ?_
        refine W_region ?_
        refine s_move rfl rfl ?_
        refine s_move rfl rfl ?_
        refine s_len rfl rfl (LN33 _ _ _ _) ?_
        refine s_lss rfl rfl rfl ?_
        refine s_move rfl rfl ?_
        refine WL_case (s := 72) rfl (fun hg72 => ?_) (fun hg72 => ?_)
        · skip
          try simp only [decide_eq_true_eq, decide_eq_false_iff_not, beq_iff_eq, beq_eq_false_iff_ne, ne_eq, bne_iff_ne, bne_eq_false_iff_eq] at hg72
          refine WL_take rfl ?_
          refine s_move rfl rfl ?_
          refine WL_take rfl ?_
          refine s_lss rfl rfl rfl ?_
          refine s_pick_t rfl rfl rfl ?_
          refine s_move rfl rfl ?_
          refine WL_case (s := 76) rfl (fun hg76 => ?_) (fun hg76 => ?_)
          · skip
            try simp only [decide_eq_true_eq, decide_eq_false_iff_not, beq_iff_eq, beq_eq_false_iff_ne, ne_eq, bne_iff_ne, bne_eq_false_iff_eq] at hg76
            refine WL_take rfl ?_
            refine s_move rfl rfl ?_
            refine WL_take rfl ?_
            refine s_callL (M := Lf) (L1 := LP) (X := Lg ++ vblks gs) Try.call25 rfl rfl hs (fun h => rEnd_ok q _ _ w hP h) ?_
            clear hs; rintro v w LP2 ⟨rfl, rfl⟩ - hs
            refine WL_take rfl ?_
            refine s_neq rfl rfl rfl ?_
            refine s_pick_t rfl rfl rfl ?_
            refine WL_nil ?_
            refine n_then ?_
            refine W_cond rfl (fun hc80 => ?_) (fun hc80 => ?_)
            · skip
              try simp only [decide_eq_true_eq, decide_eq_false_iff_not, beq_iff_eq, beq_eq_false_iff_ne, ne_eq, bne_iff_ne, bne_eq_false_iff_eq] at hc80
              refine W_skip ?_
              refine n_then ?_
              refine W_seq ?_
              refine W_block ?_
              refine W_region ?_
              refine s_move rfl rfl ?_
              refine s_move rfl rfl ?_
              refine s_move rfl rfl ?_
              refine s_move rfl rfl ?_
              have hix : i < ks.length := by omega
              obtain ⟨b1, o1, hA1, hc1⟩ := hk.at (k := i) (i64s_at' hix)
              have hB1 : b1 < w0.heap.size := World.block_lt_of_cell? w0 _ hc1
              have hm : isI64 (ks.getD i 0) := hkI _ (by rw [List.getD_eq_getElem?_getD, List.getElem?_eq_getElem hix]; simp)
              generalize ks.getD i 0 = kq at hc1 hm
              (refine s_indexAddrO El33 rfl rfl rfl hA1 ?hx ?_; case hx => (constructor <;> omega))
              refine s_load Try.isAgg3 rfl rfl ((hs.oldcell (a := ⟨b1, o1 + i, none⟩) hB1 (by simp)).trans hc1) ?_
              refine s_call Try.call11 rfl rfl (around_ok kq 6 w (by omega) hm) ?_
              rintro r w ⟨rfl, rfl⟩
              generalize aroundV kq 6 = k6
              refine s_callL (M := Lf) (L1 := LP2) (X := Lg ++ vblks gs) Try.call23 rfl rfl hs (fun h => rread_ok q _ k6 LP2 w hP h) ?_
              clear hs hP; rintro v w L2 ⟨LP, y, rfl, rfl, hP, hyp, hyo⟩ - hs
              simp only [List.append_assoc] at hs
              have hone2 := oneS_next hfB hone hyp
              have hyo' : ∀ q ∈ y.L, w.heap[q.1]? = some q.2 := fun q hq => hs.own q (by simp [hq])
              have hy1 : y.bv.oneCell' = true := by obtain ⟨_, ybc, yba, hyb, _⟩ := hyo.b.form w (fun q hq => hyo' q (List.mem_append_left _ hq)); rw [hyb]; rfl
              have hy2 : y.lv.oneCell' = true := by obtain ⟨_, ybc, yba, hyb, _⟩ := hyo.l.form w (fun q hq => hyo' q (List.mem_append_right _ hq)); rw [hyb]; rfl
              refine s_buildSlice rfl rfl (BS35_1 _ _ _ _ _) hs ?_; clear hs; intro b91 w hs
              refine s_appendM (M := _ :: (Lf ++ (LP ++ y.L))) (Lv := Lg) (X := vblks gs) El35 rfl rfl rfl hOg (by simpa using hs) (hs.sl (k := 0) (ds := y.cells) rfl (Nat.le_refl _) (by intro j u hj; rw [Nat.zero_add]; exact hj)) rfl (vcells_one y hy1 hy2) (by omega) ?_
              clear hs; intro gv' w Lg' hOg' hs
              replace hs : St [] w0 w (Lf ++ (LP ++ (Lg' ++ (vblks gs ++ y.L)))) := by simpa [cat] using St.reord [[_], Lf, LP, y.L, Lg', vblks gs] [1, 2, 4, 5, 3] [0] (by simpa [cat] using hs) rfl
              refine s_assign rfl rfl ?_
              refine WL_nil ?_
              refine n_blk ?_
              refine n_then ?_
              refine W_region ?_
              refine s_move rfl rfl ?_
              first | (refine s_add' rfl rfl rfl ?hx ?_; case hx => (constructor <;> first | omega | (simp only; omega))) | refine s_add rfl rfl rfl ?_
              refine s_assign rfl rfl ?_
              refine WL_nil ?_
              refine n_loop ?_
              refine ⟨⟨i + 1, _, LP, gs ++ [y], gv', Lg'⟩, ⟨rfl, rfl, rfl, rfl, rfl, trivial⟩, ⟨?_, hP, ?_, ?_, hone2, by simp [hgl], by simp only; omega⟩, by simp only; omega⟩
              · simp only; rw [vblks_append]; simpa [vblks] using hs
              · simp only [List.length_append, List.length_cons, List.length_nil]; rw [vcells_append]; simpa [vcells] using hOg'
              · intro z hz; rcases List.mem_append.1 hz with h | h
                · exact hok z h
                · simp at h; subst h; exact hyo
            · skip
              try simp only [decide_eq_true_eq, decide_eq_false_iff_not, beq_iff_eq, beq_eq_false_iff_ne, ne_eq, bne_iff_ne, bne_eq_false_iff_eq] at hc80
              refine W_exit ?_
              refine x_then ?_
              refine x_then ?_
              refine exit_hit ?_
              refine n_then ?_
              refine W_seq ?_
              refine W_region ?_
              refine s_move rfl rfl ?_
              first
                | (refine s_callL (M := Lf) (L1 := LP) (X := Lg ++ vblks gs) Try.call25 rfl rfl hs (fun h => rEnd_ok q _ _ w hP h) ?_)
                | (refine s_callL (M := Lf) (L1 := LP2) (X := Lg ++ vblks gs) Try.call25 rfl rfl hs (fun h => rEnd_ok q _ _ w hP h) ?_)
              clear hs; rintro v w LP9 ⟨rfl, rfl⟩ - hs
              refine s_neq rfl rfl rfl ?_
              refine s_move rfl rfl ?_
              refine WL_case (s := 96) rfl (fun hg96 => ?_) (fun hg96 => ?_)
              · skip
                try simp only [decide_eq_true_eq, decide_eq_false_iff_not, beq_iff_eq, beq_eq_false_iff_ne, ne_eq, bne_iff_ne, bne_eq_false_iff_eq] at hg96
                refine WL_skip rfl rfl rfl ?_
                refine WL_skip rfl rfl rfl ?_
                refine WL_skip rfl rfl rfl ?_
                refine WL_skip rfl rfl rfl ?_
                refine s_pick_t rfl rfl rfl ?_
                refine s_move rfl rfl ?_
                refine WL_take rfl ?_
                refine s_call Try.call17 rfl rfl (lives_ok w) ?_
                rintro r w ⟨hst, rfl⟩
                replace hs := hs.fwd1 hst
                refine s_pick_t rfl rfl rfl ?_
                refine s_assign rfl rfl ?_
                refine WL_nil ?_
                refine n_then ?_
                refine W_ret ?_
                exact end1 rfl rfl ⟨hs.fwd, rfl⟩
              · skip
                try simp only [decide_eq_true_eq, decide_eq_false_iff_not, beq_iff_eq, beq_eq_false_iff_ne, ne_eq, bne_iff_ne, bne_eq_false_iff_eq] at hg96
                obtain ⟨he0, hrn⟩ := rdEnd_zero hg96
                have htb : fb = encVs gs := by have := hone he0; rw [hrn, List.append_nil] at this; exact this
                replace hs : St [] w0 w (Lg ++ (vblks gs ++ (Lf ++ []))) := by simpa [cat] using St.reord [Lf, LP9, Lg, vblks gs] [2, 3, 0] [1] (by simpa [cat] using hs) rfl
                refine WL_take rfl ?_
                refine s_move rfl rfl ?_
                refine WL_take rfl ?_
                refine s_call Try.call35 rfl rfl (encode_ok _ gs w (hOg.sl hs) hok (fun q hq => hs.own q (by simp [hq])) (fun k => by have := encVs_take_le gs k; rw [← htb] at this; omega) (by omega)) ?_
                rintro r w ⟨Le, hOe, hst⟩
                replace hs := St.back0 hs hst
                clear hst
                rw [← htb] at hOe
                refine WL_take rfl ?_
                refine s_move rfl rfl ?_
                refine WL_take rfl ?_
                refine s_call Try.call30 rfl rfl (sameBytes_ok _ _ fb fb w (hOe.sl hs) (St_lastSl (M := Le ++ (Lg ++ vblks gs)) (A := []) (B := Lf) (by simpa using hs) hOf) (by omega)) ?_
                rintro r w ⟨hst, rfl⟩
                replace hs := hs.fwd1 hst
                clear hst
                refine s_pick_f rfl rfl rfl ?_
                refine s_move rfl rfl ?_
                refine WL_know (s := 102) (c := true) rfl ((by simp)) ?_
                refine WL_take rfl ?_
                refine s_call Try.call17 rfl rfl (lives_ok w) ?_
                rintro r w ⟨hst, rfl⟩
                replace hs := hs.fwd1 hst
                refine s_pick_t rfl rfl rfl ?_
                refine s_assign rfl rfl ?_
                refine WL_nil ?_
                refine n_then ?_
                refine W_ret ?_
                exact end1 rfl rfl ⟨hs.fwd, rfl⟩
          · skip
            try simp only [decide_eq_true_eq, decide_eq_false_iff_not, beq_iff_eq, beq_eq_false_iff_ne, ne_eq, bne_iff_ne, bne_eq_false_iff_eq] at hg76
            refine WL_skip rfl rfl rfl ?_
            refine WL_skip rfl rfl rfl ?_
            refine WL_skip rfl rfl rfl ?_
            refine s_pick_f rfl rfl rfl ?_
            refine WL_nil ?_
            refine n_then ?_
            refine W_cond_f rfl ?_
            refine W_exit ?_
            refine x_then ?_
            refine x_then ?_
            refine exit_hit ?_
            refine n_then ?_
            refine W_seq ?_
            refine W_region ?_
            refine s_move rfl rfl ?_
            first
              | (refine s_callL (M := Lf) (L1 := LP) (X := Lg ++ vblks gs) Try.call25 rfl rfl hs (fun h => rEnd_ok q _ _ w hP h) ?_)
              | (refine s_callL (M := Lf) (L1 := LP2) (X := Lg ++ vblks gs) Try.call25 rfl rfl hs (fun h => rEnd_ok q _ _ w hP h) ?_)
            clear hs; rintro v w LP9 ⟨rfl, rfl⟩ - hs
            refine s_neq rfl rfl rfl ?_
            refine s_move rfl rfl ?_
            refine WL_case (s := 96) rfl (fun hg96 => ?_) (fun hg96 => ?_)
            · skip
              try simp only [decide_eq_true_eq, decide_eq_false_iff_not, beq_iff_eq, beq_eq_false_iff_ne, ne_eq, bne_iff_ne, bne_eq_false_iff_eq] at hg96
              refine WL_skip rfl rfl rfl ?_
              refine WL_skip rfl rfl rfl ?_
              refine WL_skip rfl rfl rfl ?_
              refine WL_skip rfl rfl rfl ?_
              refine s_pick_t rfl rfl rfl ?_
              refine s_move rfl rfl ?_
              refine WL_take rfl ?_
              refine s_call Try.call17 rfl rfl (lives_ok w) ?_
              rintro r w ⟨hst, rfl⟩
              replace hs := hs.fwd1 hst
              refine s_pick_t rfl rfl rfl ?_
              refine s_assign rfl rfl ?_
              refine WL_nil ?_
              refine n_then ?_
              refine W_ret ?_
              exact end1 rfl rfl ⟨hs.fwd, rfl⟩
            · skip
              try simp only [decide_eq_true_eq, decide_eq_false_iff_not, beq_iff_eq, beq_eq_false_iff_ne, ne_eq, bne_iff_ne, bne_eq_false_iff_eq] at hg96
              obtain ⟨he0, hrn⟩ := rdEnd_zero hg96
              have htb : fb = encVs gs := by have := hone he0; rw [hrn, List.append_nil] at this; exact this
              replace hs : St [] w0 w (Lg ++ (vblks gs ++ (Lf ++ []))) := by simpa [cat] using St.reord [Lf, LP9, Lg, vblks gs] [2, 3, 0] [1] (by simpa [cat] using hs) rfl
              refine WL_take rfl ?_
              refine s_move rfl rfl ?_
              refine WL_take rfl ?_
              refine s_call Try.call35 rfl rfl (encode_ok _ gs w (hOg.sl hs) hok (fun q hq => hs.own q (by simp [hq])) (fun k => by have := encVs_take_le gs k; rw [← htb] at this; omega) (by omega)) ?_
              rintro r w ⟨Le, hOe, hst⟩
              replace hs := St.back0 hs hst
              clear hst
              rw [← htb] at hOe
              refine WL_take rfl ?_
              refine s_move rfl rfl ?_
              refine WL_take rfl ?_
              refine s_call Try.call30 rfl rfl (sameBytes_ok _ _ fb fb w (hOe.sl hs) (St_lastSl (M := Le ++ (Lg ++ vblks gs)) (A := []) (B := Lf) (by simpa using hs) hOf) (by omega)) ?_
              rintro r w ⟨hst, rfl⟩
              replace hs := hs.fwd1 hst
              clear hst
              refine s_pick_f rfl rfl rfl ?_
              refine s_move rfl rfl ?_
              refine WL_know (s := 102) (c := true) rfl ((by simp)) ?_
              refine WL_take rfl ?_
              refine s_call Try.call17 rfl rfl (lives_ok w) ?_
              rintro r w ⟨hst, rfl⟩
              replace hs := hs.fwd1 hst
              refine s_pick_t rfl rfl rfl ?_
              refine s_assign rfl rfl ?_
              refine WL_nil ?_
              refine n_then ?_
              refine W_ret ?_
              exact end1 rfl rfl ⟨hs.fwd, rfl⟩
        · skip
          try simp only [decide_eq_true_eq, decide_eq_false_iff_not, beq_iff_eq, beq_eq_false_iff_ne, ne_eq, bne_iff_ne, bne_eq_false_iff_eq] at hg72
          refine WL_skip rfl rfl rfl ?_
          refine WL_skip rfl rfl rfl ?_
          refine s_pick_f rfl rfl rfl ?_
          refine s_move rfl rfl ?_
          refine WL_skip rfl rfl rfl ?_
          refine WL_skip rfl rfl rfl ?_
          refine WL_skip rfl rfl rfl ?_
          refine s_pick_f rfl rfl rfl ?_
          refine WL_nil ?_
          refine n_then ?_
          refine W_cond_f rfl ?_
          refine W_exit ?_
          refine x_then ?_
          refine x_then ?_
          refine exit_hit ?_
          refine n_then ?_
          refine W_seq ?_
          refine W_region ?_
          refine s_move rfl rfl ?_
          first
            | (refine s_callL (M := Lf) (L1 := LP) (X := Lg ++ vblks gs) Try.call25 rfl rfl hs (fun h => rEnd_ok q _ _ w hP h) ?_)
            | (refine s_callL (M := Lf) (L1 := LP2) (X := Lg ++ vblks gs) Try.call25 rfl rfl hs (fun h => rEnd_ok q _ _ w hP h) ?_)
          clear hs; rintro v w LP9 ⟨rfl, rfl⟩ - hs
          refine s_neq rfl rfl rfl ?_
          refine s_move rfl rfl ?_
          refine WL_case (s := 96) rfl (fun hg96 => ?_) (fun hg96 => ?_)
          · skip
            try simp only [decide_eq_true_eq, decide_eq_false_iff_not, beq_iff_eq, beq_eq_false_iff_ne, ne_eq, bne_iff_ne, bne_eq_false_iff_eq] at hg96
            refine WL_skip rfl rfl rfl ?_
            refine WL_skip rfl rfl rfl ?_
            refine WL_skip rfl rfl rfl ?_
            refine WL_skip rfl rfl rfl ?_
            refine s_pick_t rfl rfl rfl ?_
            refine s_move rfl rfl ?_
            refine WL_take rfl ?_
            refine s_call Try.call17 rfl rfl (lives_ok w) ?_
            rintro r w ⟨hst, rfl⟩
            replace hs := hs.fwd1 hst
            refine s_pick_t rfl rfl rfl ?_
            refine s_assign rfl rfl ?_
            refine WL_nil ?_
            refine n_then ?_
            refine W_ret ?_
            exact end1 rfl rfl ⟨hs.fwd, rfl⟩
          · skip
            try simp only [decide_eq_true_eq, decide_eq_false_iff_not, beq_iff_eq, beq_eq_false_iff_ne, ne_eq, bne_iff_ne, bne_eq_false_iff_eq] at hg96
            obtain ⟨he0, hrn⟩ := rdEnd_zero hg96
            have htb : fb = encVs gs := by have := hone he0; rw [hrn, List.append_nil] at this; exact this
            replace hs : St [] w0 w (Lg ++ (vblks gs ++ (Lf ++ []))) := by simpa [cat] using St.reord [Lf, LP9, Lg, vblks gs] [2, 3, 0] [1] (by simpa [cat] using hs) rfl
            refine WL_take rfl ?_
            refine s_move rfl rfl ?_
            refine WL_take rfl ?_
            refine s_call Try.call35 rfl rfl (encode_ok _ gs w (hOg.sl hs) hok (fun q hq => hs.own q (by simp [hq])) (fun k => by have := encVs_take_le gs k; rw [← htb] at this; omega) (by omega)) ?_
            rintro r w ⟨Le, hOe, hst⟩
            replace hs := St.back0 hs hst
            clear hst
            rw [← htb] at hOe
            refine WL_take rfl ?_
            refine s_move rfl rfl ?_
            refine WL_take rfl ?_
            refine s_call Try.call30 rfl rfl (sameBytes_ok _ _ fb fb w (hOe.sl hs) (St_lastSl (M := Le ++ (Lg ++ vblks gs)) (A := []) (B := Lf) (by simpa using hs) hOf) (by omega)) ?_
            rintro r w ⟨hst, rfl⟩
            replace hs := hs.fwd1 hst
            clear hst
            refine s_pick_f rfl rfl rfl ?_
            refine s_move rfl rfl ?_
            refine WL_know (s := 102) (c := true) rfl ((by simp)) ?_
            refine WL_take rfl ?_
            refine s_call Try.call17 rfl rfl (lives_ok w) ?_
            rintro r w ⟨hst, rfl⟩
            replace hs := hs.fwd1 hst
            refine s_pick_t rfl rfl rfl ?_
            refine s_assign rfl rfl ?_
            refine WL_nil ?_
            refine n_then ?_
            refine W_ret ?_
            exact end1 rfl rfl ⟨hs.fwd, rfl⟩
end Go.Proofs.Ytheeheahhnamjaa
