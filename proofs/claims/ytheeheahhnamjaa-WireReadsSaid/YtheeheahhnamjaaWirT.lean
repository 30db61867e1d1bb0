/- WireRound. -/
import Derived.Test.YtheeheahhnamjaaWirN
set_option linter.unusedVariables false
set_option linter.unusedSimpArgs false
namespace Go.Proofs.Ytheeheahhnamjaa
open Go.SL
theorem rdV_enc {p : PV} {r : List Int} (h : p.ok) (hn : p.norm) : rdV p.kind ⟨encV p ++ r, 0⟩ = (p, ⟨r, 0⟩) := by
  obtain ⟨k, u, n, bs, ls⟩ := p
  obtain ⟨hu, hnn, hb, hl, hbl, hll⟩ := h
  simp only at hu hnn hb hl hbl hll
  rcases hn with ⟨rfl, rfl, rfl, rfl⟩ | ⟨rfl, rfl, rfl, rfl⟩ | ⟨rfl, rfl, h01, rfl, rfl⟩ | ⟨h34, rfl, rfl, rfl⟩ | ⟨rfl, rfl, rfl, rfl⟩
  · simp only [rdV, encV, if_true, rdU_uvar hu]
  · simp only [rdV, encV]; simp [rdI_uvar hnn]
  · simp only at h01
    rcases h01 with rfl | rfl <;> simp [rdV, encV, rdB, rdO]
  · simp only at h34
    have h1 : encV ⟨k, 0, 0, bs, []⟩ = uvar bs.length ++ bs := by rw [encV, if_neg (by simp only; omega), if_neg (by simp only; omega), if_neg (by simp only; omega), if_pos h34]
    rw [h1, rdV, if_neg (by simp only; omega), if_neg (by simp only; omega), if_neg (by simp only; omega), if_pos h34, List.append_assoc, rdRaw_uvar (by omega)]
  · have h1 : encV ⟨5, 0, 0, [], ls⟩ = uvar ls.length ++ encInts ls := by simp [encV]
    rw [h1, rdV, if_neg (by simp), if_neg (by simp), if_neg (by simp), if_neg (by simp), List.append_assoc, encInts, rdInts_uvar hl (by omega)]
theorem encInts_len (l : List Int) (h : ∀ z ∈ l, isI64 z) : (encInts l).length ≤ 10 * l.length := by
  induction l with
  | nil => simp [encInts]
  | cons z l ih =>
    have := ih (fun q hq => h q (List.mem_cons_of_mem _ hq))
    have h2 := uvar_len10 (zz_lt (h z (by simp)))
    rw [encInts, List.flatMap_cons, List.length_append, List.length_cons]; rw [encInts] at this; omega
theorem encV_len {p : PV} (h : p.ok) : (encV p).length ≤ 10 + p.bs.length + 10 * p.ls.length := by
  unfold encV
  have h1 := uvar_len10 h.hu
  have h2 := uvar_len10 (zz_lt h.hn)
  have h3 := uvar_len10 (n := p.bs.length) (by have := h.hbl; omega)
  have h4 := uvar_len10 (n := p.ls.length) (by have := h.hll; omega)
  have h5 := encInts_len p.ls h.hl
  split
  · omega
  · split
    · omega
    · split
      · simp; omega
      · split <;> rw [List.length_append] <;> omega
theorem encV_isB {p : PV} (h : p.ok) : ∀ b ∈ encV p, isB b := by
  unfold encV
  split
  · exact uvar_isB _
  · split
    · exact uvar_isB _
    · split
      · intro b hb; simp at hb; subst hb; unfold isB; split <;> omega
      · split
        · intro b hb; rcases List.mem_append.1 hb with hb | hb
          · exact uvar_isB _ b hb
          · exact h.hb b hb
        · intro b hb; rcases List.mem_append.1 hb with hb | hb
          · exact uvar_isB _ b hb
          · simp only [encInts, List.mem_flatMap] at hb; obtain ⟨q, _, hb⟩ := hb; exact uvar_isB _ b hb
theorem encVs_isB {vs : List VV} (h : ∀ x ∈ vs, x.ok) : ∀ b ∈ encVs vs, isB b := by
  intro b hb
  simp only [encVs, List.mem_flatMap] at hb
  obtain ⟨x, hx, hb⟩ := hb
  exact encV_isB (h x hx).p b hb
theorem encVs_len {N : Nat} (vs : List VV) (h : ∀ x ∈ vs, (encV x.p).length ≤ N) : (encVs vs).length ≤ N * vs.length := by
  induction vs with
  | nil => simp [encVs]
  | cons x r ih =>
    have h1 := ih (fun y hy => h y (List.mem_cons_of_mem _ hy))
    have h2 := h x (by simp)
    rw [encVs, List.flatMap_cons, List.length_append, List.length_cons, Nat.mul_add]; rw [encVs] at h1; omega
theorem encVs_take {N : Nat} (vs : List VV) (h : ∀ x ∈ vs, (encV x.p).length ≤ N) (k : Nat) : (encVs (vs.take k)).length ≤ N * vs.length := by
  have h1 := encVs_len (vs.take k) (fun x hx => h x (List.mem_of_mem_take hx))
  have h2 : (vs.take k).length ≤ vs.length := by simp; omega
  exact Nat.le_trans h1 (Nat.mul_le_mul_left _ h2)
theorem gen_len {x : VV} (h : VV.gen x) : (encV x.p).length ≤ 60 := by
  have := encV_len h.1.p; have h2 := h.2.2; omega
theorem encVs_append (a b : List VV) : encVs (a ++ b) = encVs a ++ encVs b := by simp [encVs]
/-- the two values behind the generated ones -/
def vU (u : Nat) : VV := ⟨⟨0, u, 0, [], []⟩, .slice none 0 0, [], .slice none 0 0, []⟩
def vN (n : Int) : VV := ⟨⟨1, 0, n, [], []⟩, .slice none 0 0, [], .slice none 0 0, []⟩
theorem vU_gen {u : Nat} (h : u < 18446744073709551616) : VV.gen (vU u) := ⟨⟨⟨h, by unfold isI64; simp [vU], by simp [vU], by simp [vU], by simp [vU], by simp [vU]⟩, RdS.nil, RdS.nil⟩, .inl ⟨rfl, rfl, rfl, rfl⟩, by simp [vU], by simp [vU]⟩
theorem vN_gen {n : Int} (h : isI64 n) : VV.gen (vN n) := ⟨⟨⟨by simp [vN], h, by simp [vN], by simp [vN], by simp [vN], by simp [vN]⟩, RdS.nil, RdS.nil⟩, .inr (.inl ⟨rfl, rfl, rfl, rfl⟩), by simp [vN], by simp [vN]⟩
set_option maxHeartbeats 4000000 in
theorem wireRound_ok (v : Value) (xs : List Int) (u : Nat) (n : Int) (w0 : World) (hv : Sl w0 v xs.length (i64s xs)) (hx : ∀ z ∈ xs, isI64 z) (hu : u < 18446744073709551616) (hn : isI64 n) :
    Ret Try.prog 7 [v, .int .u64 u, .int .i64 n].toArray w0 fun r w' => Fwd [] w0 w' ∧ r = .bool true := by
  refine Ret_start fun w hs => ?_
  refine Ret_of Try.func7 rfl Try.ntmps7 rfl ?_
  refine W_seq ?_
  refine W_region ?_
  refine s_assign rfl rfl ?_
  refine WL_nil ?_
  refine n_then ?_
  refine W_seq ?_
  refine W_region ?_
  refine s_move rfl rfl ?_
  refine s_call Try.call19 rfl rfl (vals_ok v xs w (hv.fwd0 hs.fwd) hx) ?_
  rintro r w ⟨vs0, Lv, hO, hst, hg0, hl0⟩
  replace hs := St.back0 hs hst
  simp only [List.append_nil] at hs
  clear hst
  refine s_move rfl rfl ?_
  refine s_build rfl rfl (BD47_1 _) ?_
  refine s_move rfl rfl ?_
  refine s_build rfl rfl (BD47_0_2 _ _) ?_
  refine s_buildSlice rfl rfl (BS35_2 _ _ _ _ _ _ _ _ _ _) hs ?_; clear hs; intro b16 w hs
  refine s_appendM (M := [_]) (Lv := Lv) (X := vblks vs0) El35 rfl rfl rfl hO hs (hs.sl (k := 0) (ds := (vU u).cells ++ (vN n).cells) rfl (Nat.le_refl _) (by intro j w hj; rw [Nat.zero_add]; exact hj)) rfl (by simp [vU, vN, VV.cells, Value.oneCell']) (by omega) ?_
  clear hs; intro v' w Lv' hO' hs
  simp only [List.cons_append, List.nil_append] at hs
  replace hs := hs.tail
  obtain ⟨vs, hvs⟩ : ∃ vs, vs = vs0 ++ [vU u, vN n] := ⟨_, rfl⟩
  have hg : ∀ x ∈ vs, VV.gen x := by
    intro x hx; rw [hvs] at hx
    rcases List.mem_append.1 hx with h | h
    · exact hg0 x h
    · simp at h; rcases h with rfl | rfl
      · exact vU_gen hu
      · exact vN_gen hn
  have hvl : vs.length = vs0.length + 2 := by rw [hvs]; simp
  replace hO' : OwnS 47 5 v' vs.length (vcells vs) Lv' := by rw [hvl, hvs, vcells_append]; exact hO'
  replace hs : St [] w0 w (Lv' ++ vblks vs) := by rw [hvs, vblks_append]; simpa [vblks, VV.L, vU, vN] using hs
  clear hvs hO hg0
  have hvl2 : vs.length ≤ 10 := by omega
  clear hvl
  obtain ⟨_, avc, ava, rfl, rfl⟩ := hO'.form
  have hlen := fun k => encVs_take vs (fun x hx => gen_len (hg x hx)) k
  refine s_assign rfl rfl ?_
  refine WL_nil ?_
  refine n_then ?_
  refine W_seq ?_
  refine W_region ?_
  refine s_move rfl rfl ?_
  refine s_call Try.call35 rfl rfl (encode_ok _ vs w (hO'.sl hs) (fun x hx => (hg x hx).1) (fun q hq => hs.own q (List.mem_append_right _ hq)) (fun k => by have := hlen k; omega) (by omega)) ?_
  rintro r w ⟨Lr, hOr, hst⟩
  replace hs := St.back0 hs hst
  clear hst
  refine s_call Try.call21 rfl rfl (read_ok _ (encVs vs) w (hOr.sl hs) (by have := hlen vs.length; rw [List.take_length] at this; omega) (encVs_isB (fun x hx => (hg x hx).1))) ?_
  rintro r w ⟨p, LP, rfl, hP, hst⟩
  replace hs := St.back0 hs.right hst
  clear hst
  replace hs : St [] w0 w (Lv' ++ (vblks vs ++ LP)) := by simpa using hs.swap
  refine s_assign rfl rfl ?_
  refine WL_nil ?_
  refine n_then ?_
  refine W_seq ?_
  refine W_seq ?_
  refine W_region ?_
  refine s_move rfl rfl ?_
  refine s_eql_ptr_nil Try.underlying39 rfl rfl rfl ?_
  refine WL_nil ?_
  refine n_then ?_
  refine W_cond_kf rfl (rfl) ?_
  refine W_skip ?_
  refine n_then ?_
  refine W_seq ?_
  refine W_seq ?_
  refine W_region ?_
  refine s_assign rfl rfl ?_
  refine WL_nil ?_
  refine n_then ?_
  refine W_block ?_
  refine W_loop (σ := Nat × Hp) (fun s => [(7, .slice ava vs.length avc), (8, .pointer (some ⟨p, 0, none⟩)), (9, .int .i64 (s.1 : Int))]) (fun s w => St [] w0 w (Lv' ++ (vblks vs ++ s.2)) ∧ RdAt p ⟨encVs (vs.drop s.1), 0⟩ s.2 ∧ s.1 ≤ vs.length) (fun s => vs.length - s.1) (0, LP) ⟨rfl, rfl, rfl, trivial⟩ ⟨hs, hP, Nat.zero_le _⟩ ?_
  clear hs hP LP
  rintro ⟨i, LP⟩ w ⟨hs, hP, hil⟩
  simp only at hs hP hil ⊢
  refine W_seq ?_
  refine W_seq ?_
  refine W_region ?_
  refine s_move rfl rfl ?_
  refine s_move rfl rfl ?_
  refine s_len rfl rfl (LN35 _ _ _ _) ?_
  refine s_lss rfl rfl rfl ?_
  refine WL_nil ?_
  refine n_then ?_
  refine W_cond rfl (fun hc26 => ?_) (fun hc26 => ?_)
  · skip
    try simp only [decide_eq_true_eq, decide_eq_false_iff_not, beq_iff_eq, beq_eq_false_iff_ne, ne_eq] at hc26
    have hix : i < vs.length := by omega
    have hxi : vs[i]? = some vs[i] := List.getElem?_eq_getElem hix
    have hxm : vs[i] ∈ vs := List.getElem_mem hix
    obtain ⟨g, cap, sp, hgv, hcap, rfl⟩ := hO'.block (by omega)
    cases hgv
    simp only [List.cons_append, List.nil_append] at hs
    have hdr : encVs (vs.drop i) = encV vs[i].p ++ encVs (vs.drop (i + 1)) := by rw [List.drop_eq_getElem_cons hix, encVs, List.flatMap_cons]; rfl
    have cc : ∀ j u, j < 5 → vs[i].cells[j]? = some u → (vcells vs ++ sp)[0 + (i : Int).toNat * 5 + j]? = some u := fun j u hj hu => by
      rw [Nat.zero_add, Int.toNat_natCast, List.getElem?_append_left (by rw [vcells_length]; omega), vcells_at hj hxi]; exact hu
    generalize vs[i] = x at hxm cc hdr
    have hxg := hg x hxm
    have hrd := rdV_enc (r := encVs (vs.drop (i + 1))) hxg.1.p hxg.2.1
    rw [hdr] at hP
    refine W_skip ?_
    refine n_then ?_
    refine W_seq ?_
    refine W_block ?_
    refine W_seq ?_
    refine W_draw [(0, true, []), (1, true, []), (2, true, []), (3, true, []), (4, true, []), (5, true, []), (7, true, []), (8, true, []), (9, true, []), (10, true, []), (6, false, [7, 8, 9, 10]), (11, false, []), (12, true, [])] MX (by kernel_rfl) ?_
    intro w1 hw1 hw2 hw3 hw4; replace hs := hs.redrawn hw1 hw2 hw3 hw4; clear hw1 hw2 hw3 hw4
    obtain ⟨w, rfl⟩ : ∃ w : World, w = w1 := ⟨_, rfl⟩
    refine D_q rfl rfl ?_
    refine s_move rfl rfl ?_
    refine D_qn ?_
    refine D_q rfl rfl ?_
    refine s_move rfl rfl ?_
    refine D_qn ?_
    refine D_q rfl rfl ?_
    refine s_move rfl rfl ?_
    refine D_qn ?_
    refine D_q rfl rfl ?_
    (refine s_indexAddr El35 rfl rfl rfl ?hx ?_; case hx => (constructor <;> first | omega | (simp; omega)))
    refine D_qn ?_
    refine D_q rfl rfl ?_
    refine s_fieldAddr rfl rfl (FA47_0 _ _) ?_
    refine D_qn ?_
    refine D_q rfl rfl ?_
    first
      | refine s_load Try.isAgg3 rfl rfl (hs.cell (k := 0) rfl rfl) ?_
      | refine s_load Try.isAgg3 rfl rfl (hs.cell (k := 1) rfl rfl) ?_
      | refine s_load Try.isAgg3 rfl rfl (hs.cell (k := 2) rfl rfl) ?_
      | refine s_load Try.isAgg3 rfl rfl ((hs.cell (k := 0) rfl (cc 0 _ (by omega) rfl))) ?_
    refine D_qn ?_
    refine D_q rfl rfl ?_
    refine s_move rfl rfl ?_
    refine D_qn ?_
    refine D_q rfl rfl ?_
    refine s_move rfl rfl ?_
    refine D_qn ?_
    refine D_q rfl rfl ?_
    (refine s_indexAddr El35 rfl rfl rfl ?hx ?_; case hx => (constructor <;> first | omega | (simp; omega)))
    refine D_qn ?_
    refine D_q rfl rfl ?_
    refine s_load_5 Try.isAgg47 Try.sizeOf47 rfl rfl (hs.cell (k := 0) rfl (cc 0 _ (by omega) rfl)) (hs.cell (k := 0) rfl (cc 1 _ (by omega) rfl)) (hs.cell (k := 0) rfl (cc 2 _ (by omega) rfl)) (hs.cell (k := 0) rfl (cc 3 _ (by omega) rfl)) (hs.cell (k := 0) rfl (cc 4 _ (by omega) rfl)) ?_
    refine D_qn ?_
    refine D_e rfl ?_
    refine s_callL (M := _ :: vblks vs) (L1 := LP) (X := []) Try.call23 rfl rfl (by simpa using hs) (fun h => rread_ok p _ x.p.kind LP w hP h) ?_
    clear hs hP; rintro v w L2 ⟨LP, y, rfl, rfl, hP, hyp, hyo⟩ - hs
    rw [hrd] at hP hyp
    simp only [List.append_nil, List.cons_append] at hs hP hyp
    refine D_en ?re ?_
    case re =>
      refine Reks_cons rfl rfl rfl rfl ?_ ?_
      · skip
        refine s_move rfl rfl ?_
        exact Rek_end rfl
      refine Reks_cons rfl rfl rfl rfl ?_ ?_
      · skip
        refine s_move rfl rfl ?_
        exact Rek_end rfl
      refine Reks_cons rfl rfl rfl rfl ?_ ?_
      · skip
        (refine s_indexAddr El35 rfl rfl rfl ?hx ?_; case hx => (constructor <;> first | omega | (simp; omega)))
        exact Rek_end rfl
      refine Reks_cons rfl rfl rfl rfl ?_ ?_
      · skip
        refine s_load_5 Try.isAgg47 Try.sizeOf47 rfl rfl (hs.cell (k := 0) rfl (cc 0 _ (by omega) rfl)) (hs.cell (k := 0) rfl (cc 1 _ (by omega) rfl)) (hs.cell (k := 0) rfl (cc 2 _ (by omega) rfl)) (hs.cell (k := 0) rfl (cc 3 _ (by omega) rfl)) (hs.cell (k := 0) rfl (cc 4 _ (by omega) rfl)) ?_
        exact Rek_end rfl
      exact Reks_nil
    refine D_e rfl ?_
    have hyo' : ∀ q ∈ y.L, w.heap[q.1]? = some q.2 := fun q hq => hs.own q (by simp [hq])
    have hxo' : ∀ q ∈ x.L, w.heap[q.1]? = some q.2 := fun q hq => hs.own q (by have := vblks_of hxm q hq; simp [this])
    refine s_call Try.call22 rfl rfl (same_ok y x w (hyo.b.sl w (fun q hq => hyo' q (List.mem_append_left _ hq))) (hxg.1.b.sl w (fun q hq => hxo' q (List.mem_append_left _ hq))) (hyo.l.sl w (fun q hq => hyo' q (List.mem_append_right _ hq))) (hxg.1.l.sl w (fun q hq => hxo' q (List.mem_append_right _ hq))) hyo.p.hbl hyo.p.hll) ?_
    rintro r w ⟨hst, rfl⟩
    replace hs := hs.fwd1 hst
    clear hst
    refine D_en ?re ?_
    case re =>
      exact Reks_nil
    refine D_q rfl rfl ?_
    refine s_not rfl rfl ?_
    refine D_qn ?_
    refine D_nil ?_
    refine n_then ?_
    refine W_cond_kf rfl ((by rw [hyp]; simp)) ?_
    refine W_skip ?_
    refine n_blk ?_
    refine n_then ?_
    refine W_region ?_
    refine s_move rfl rfl ?_
    first | (refine s_add' rfl rfl rfl ?hx ?_; case hx => (constructor <;> first | omega | (simp only; omega))) | refine s_add rfl rfl rfl ?_
    refine s_assign rfl rfl ?_
    refine WL_nil ?_
    refine n_loop ?_
    refine ⟨(i + 1, LP), ⟨rfl, rfl, rfl, trivial⟩, ⟨St.left (M := y.L) (by simpa using hs), hP, by simp only; omega⟩, by simp only; omega⟩
  · skip
    try simp only [decide_eq_true_eq, decide_eq_false_iff_not, beq_iff_eq, beq_eq_false_iff_ne, ne_eq] at hc26
    have hie : i = vs.length := by omega
    subst hie
    rw [List.drop_length] at hP
    refine W_exit ?_
    refine x_then ?_
    refine x_then ?_
    refine exit_hit ?_
    refine n_then ?_
    refine W_seq ?_
    refine W_region ?_
    refine s_move rfl rfl ?_
    refine s_callL (M := Lv' ++ vblks vs) (L1 := LP) (X := []) Try.call25 rfl rfl (by simpa using hs) (fun h => rEnd_ok p _ _ w hP h) ?_
    clear hs; rintro v w LP2 ⟨rfl, rfl⟩ - hs
    refine s_eql rfl rfl rfl ?_
    refine s_move rfl rfl ?_
    refine WL_know (s := 45) (c := true) rfl (rfl) ?_
    refine WL_take rfl ?_
    refine s_call Try.call17 rfl rfl (lives_ok w) ?_
    rintro r w ⟨hst, rfl⟩
    replace hs := hs.fwd1 hst
    refine s_pick_t rfl rfl rfl ?_
    refine s_assign rfl rfl ?_
    refine WL_nil ?_
    refine n_then ?_
    refine W_ret ?_
    exact end1 rfl rfl ⟨hs.fwd, rfl⟩
end Go.Proofs.Ytheeheahhnamjaa
