/- WireWrites. -/
import Derived.Test.YtheeheahhnamjaaWirE
set_option linter.unusedVariables false
set_option linter.unusedSimpArgs false
namespace Go.Proofs.Ytheeheahhnamjaa
open Go.SL
def vB (bs : List Int) (v : Value) (L : Hp) : VV := ⟨⟨4, 0, 0, bs, []⟩, v, L, .slice none 0 0, []⟩
def vL (ls : List Int) (v : Value) (L : Hp) : VV := ⟨⟨5, 0, 0, [], ls⟩, .slice none 0 0, [], v, L⟩
def vT : VV := ⟨⟨2, 0, 1, [], []⟩, .slice none 0 0, [], .slice none 0 0, []⟩
theorem vT_ok : vT.ok := ⟨⟨by simp [vT], by unfold isI64; simp [vT], by simp [vT], by simp [vT], by simp [vT], by simp [vT]⟩, RdS.nil, RdS.nil⟩
set_option maxHeartbeats 4000000 in
theorem wireWrites_ok (v bv lv : Value) (xs bx lx : List Int) (u : Nat) (n : Int) (w0 : World) (hv : Sl w0 v xs.length (i64s xs)) (hx : ∀ z ∈ xs, isI64 z) (hu : u < 18446744073709551616) (hn : isI64 n)
    (hbv : Sl w0 bv bx.length (u8s bx)) (hbx : ∀ z ∈ bx, isB z) (hlv : Sl w0 lv lx.length (i64s lx)) (hlx : ∀ z ∈ lx, isI64 z) :
    Ret Try.prog 6 [v, .int .u64 u, .int .i64 n, bv, lv].toArray w0 fun r w' => Fwd [] w0 w' ∧ r = .bool true := by
  refine Ret_start fun w hs => ?_
  refine Ret_of Try.func6 rfl Try.ntmps6 rfl ?_
  refine W_seq ?_
  refine W_region ?_
  refine s_assign rfl rfl ?_
  refine WL_nil ?_
  refine n_then ?_
  refine W_seq ?_
  refine W_region ?_
  refine s_move rfl rfl ?_
  refine s_call Try.call19 rfl rfl (vals_ok v xs w (hv.fwd0 hs.fwd) hx) ?_
  rintro r w ⟨vs0, Lv, hO, hst, hg0, hl0⟩
  replace hs := St.back0 hs hst
  simp only [List.append_nil] at hs
  clear hst
  refine s_move rfl rfl ?_
  refine s_build rfl rfl (BD47_1 _) ?_
  refine s_move rfl rfl ?_
  refine s_build rfl rfl (BD47_0_2 _ _) ?_
  refine s_move rfl rfl ?_
  refine s_call Try.call20 rfl rfl (few_ok _ bx 200 w (hbv.fwd0 hs.fwd) (by omega)) ?_
  rintro r w ⟨Lb, hOb, hst⟩
  replace hs := St.back0 hs hst
  clear hst
  have hbl : (bx.take 200).length = min bx.length 200 := by rw [List.length_take, Nat.min_comm]
  rw [← hbl] at hOb
  have hbB : ∀ z ∈ bx.take 200, isB z := fun z hz => hbx z (List.mem_of_mem_take hz)
  have hb200 : (bx.take 200).length ≤ 200 := by rw [hbl]; omega
  generalize bx.take 200 = bs at hOb hbB hb200
  obtain ⟨_, bvc, bva, rfl, rfl⟩ := hOb.form
  refine s_build rfl rfl (BD47_0_3 _ _ _ _) ?_
  refine s_move rfl rfl ?_
  refine s_call Try.call27 rfl rfl (ints_ok _ lx 20 w (hlv.fwd0 hs.fwd) (by omega)) ?_
  rintro r w ⟨Ll, hOl, hst⟩
  replace hs := St.back0 hs hst
  clear hst
  have hll : (lx.take 20).length = min lx.length 20 := by rw [List.length_take, Nat.min_comm]
  rw [← hll] at hOl
  have hlI : ∀ z ∈ lx.take 20, isI64 z := fun z hz => hlx z (List.mem_of_mem_take hz)
  have hl20 : (lx.take 20).length ≤ 20 := by rw [hll]; omega
  generalize lx.take 20 = ls at hOl hlI hl20
  obtain ⟨_, lvc, lva, rfl, rfl⟩ := hOl.form
  refine s_build rfl rfl (BD47_0_4 _ _ _ _) ?_
  refine s_build rfl rfl (BD47_0_2 _ _) ?_
  refine s_buildSlice rfl rfl (BS35_5 _ _ _ _ _ _ _ _ _ _ _ _ _ _ _ _ _ _ _ _ _ _ _ _ _) hs ?_; clear hs; intro b27 w hs
  refine s_appendM (M := _ :: (Ll ++ Lb)) (Lv := Lv) (X := vblks vs0) El35 rfl rfl rfl hO (by simpa using hs) (hs.sl (k := 0) (ds := (vU u).cells ++ (vN n).cells ++ (vB bs (.slice bva bs.length bvc) Lb).cells ++ (vL ls (.slice lva ls.length lvc) Ll).cells ++ vT.cells) rfl (Nat.le_refl _) (by intro j w hj; rw [Nat.zero_add]; exact hj)) rfl (by simp [vU, vN, vB, vL, vT, VV.cells, Value.oneCell']) (by omega) ?_
  clear hs; intro v' w Lv' hO' hs
  obtain ⟨vs, hvs⟩ : ∃ vs, vs = vs0 ++ [vU u, vN n, vB bs (.slice bva bs.length bvc) Lb, vL ls (.slice lva ls.length lvc) Ll, vT] := ⟨_, rfl⟩
  have hBok : (vB bs (.slice bva bs.length bvc) Lb).ok := ⟨⟨by simp [vB], by unfold isI64; simp [vB], hbB, by simp [vB], by simp only [vB]; omega, by simp [vB]⟩, hOb.rdS, RdS.nil⟩
  have hLok : (vL ls (.slice lva ls.length lvc) Ll).ok := ⟨⟨by simp [vL], by unfold isI64; simp [vL], by simp [vL], hlI, by simp [vL], by simp only [vL]; omega⟩, RdS.nil, hOl.rdS⟩
  have hg : ∀ x ∈ vs, x.ok ∧ (encV x.p).length ≤ 220 := by
    intro x hx; rw [hvs] at hx
    rcases List.mem_append.1 hx with h | h
    · exact ⟨(hg0 x h).1, by have := gen_len (hg0 x h); omega⟩
    · simp at h; rcases h with rfl | rfl | rfl | rfl | rfl
      · exact ⟨(vU_gen hu).1, by have := gen_len (vU_gen hu); omega⟩
      · exact ⟨(vN_gen hn).1, by have := gen_len (vN_gen hn); omega⟩
      · exact ⟨hBok, by have := encV_len hBok.p; simp only [vB, List.length_nil] at this ⊢; omega⟩
      · exact ⟨hLok, by have := encV_len hLok.p; simp only [vL, List.length_nil] at this ⊢; omega⟩
      · exact ⟨vT_ok, by have := encV_len vT_ok.p; simp [vT] at this ⊢; omega⟩
  have hvl : vs.length = vs0.length + 5 := by rw [hvs]; simp
  replace hO' : OwnS 47 5 v' vs.length (vcells vs) Lv' := by
    rw [hvl, hvs, vcells_append]; simpa [vcells] using hO'
  replace hs : St [] w0 w (Lv' ++ vblks vs) := by
    rw [hvs, vblks_append]
    simpa [vblks, VV.L, vU, vN, vB, vL, vT, cat] using St.reord [[_], Ll, Lb, Lv', vblks vs0] [3, 4, 2, 1] [0] (by simpa [cat] using hs) rfl
  clear hvs hO hg0
  have hvl2 : vs.length ≤ 13 := by omega
  clear hvl
  obtain ⟨_, avc, ava, rfl, rfl⟩ := hO'.form
  have hlen := fun k => encVs_take vs (fun x hx => (hg x hx).2) k
  refine s_assign rfl rfl ?_
  refine WL_nil ?_
  refine n_then ?_
  refine W_seq ?_
  refine W_region ?_
  refine s_alloc rfl AL26 hs ?_; clear hs; intro b12 w hs
  refine WL_nil ?_
  refine n_then ?_
  refine W_seq ?_
  refine W_seq ?_
  refine W_region ?_
  refine s_assign rfl rfl ?_
  refine WL_nil ?_
  refine n_then ?_
  refine W_block ?_
  replace hs : St [] w0 w (Lv' ++ (vblks vs ++ [(b12, Blk 26 [.slice none 0 0])])) := by simpa using St.swap (A := [_]) hs
  refine W_loop (σ := Nat × Hp) (fun s => [(11, .slice ava vs.length avc), (12, .pointer (some ⟨b12, 0, none⟩)), (13, .int .i64 (s.1 : Int))]) (fun s w => St [] w0 w (Lv' ++ (vblks vs ++ s.2)) ∧ WrAt b12 (encVs (vs.take s.1)) s.2 ∧ s.1 ≤ vs.length) (fun s => vs.length - s.1) (0, _) ⟨rfl, rfl, rfl, trivial⟩ ⟨hs, wr_new b12, Nat.zero_le _⟩ ?_
  clear hs
  rintro ⟨i, LW⟩ w ⟨hs, hW, hil⟩
  simp only at hs hW hil ⊢
  refine W_seq ?_
  refine W_seq ?_
  refine W_region ?_
  refine s_move rfl rfl ?_
  refine s_move rfl rfl ?_
  refine s_len rfl rfl (LN35 _ _ _ _) ?_
  refine s_lss rfl rfl rfl ?_
  refine WL_nil ?_
  refine n_then ?_
  refine W_cond rfl (fun hc32 => ?_) (fun hc32 => ?_)
  · skip
    try simp only [decide_eq_true_eq, decide_eq_false_iff_not, beq_iff_eq, beq_eq_false_iff_ne, ne_eq] at hc32
    have hix : i < vs.length := by omega
    have hxi : vs[i]? = some vs[i] := List.getElem?_eq_getElem hix
    have hxm : vs[i] ∈ vs := List.getElem_mem hix
    have htk : encVs (vs.take (i + 1)) = encVs (vs.take i) ++ encV vs[i].p := by rw [List.take_succ_eq_append_getElem hix, encVs, List.flatMap_append]; simp [encVs]
    obtain ⟨g, cap, sp, hgv, hcap, rfl⟩ := hO'.block (by omega)
    cases hgv
    simp only [List.cons_append, List.nil_append] at hs
    have cc : ∀ j u, j < 5 → vs[i].cells[j]? = some u → (vcells vs ++ sp)[0 + (i : Int).toNat * 5 + j]? = some u := fun j u hj hu => by
      rw [Nat.zero_add, Int.toNat_natCast, List.getElem?_append_left (by rw [vcells_length]; omega), vcells_at hj hxi]; exact hu
    generalize vs[i] = x at hxm cc htk
    have hxg := hg x hxm
    have hl1 := hlen i
    have hl2 := hlen (i + 1)
    refine W_skip ?_
    refine n_then ?_
    refine W_seq ?_
    refine W_block ?_
    refine W_seq ?_
    refine W_region ?_
    refine s_move rfl rfl ?_
    refine s_move rfl rfl ?_
    (refine s_indexAddr El35 rfl rfl rfl ?hx ?_; case hx => (constructor <;> first | omega | (simp; omega)))
    refine s_load_5 Try.isAgg47 Try.sizeOf47 rfl rfl (hs.cell (k := 0) rfl (cc 0 _ (by omega) rfl)) (hs.cell (k := 0) rfl (cc 1 _ (by omega) rfl)) (hs.cell (k := 0) rfl (cc 2 _ (by omega) rfl)) (hs.cell (k := 0) rfl (cc 3 _ (by omega) rfl)) (hs.cell (k := 0) rfl (cc 4 _ (by omega) rfl)) ?_
    refine s_callL (M := _ :: vblks vs) (L1 := LW) (X := []) Try.call34 rfl rfl (by simpa using hs) (fun h => write_ok b12 _ x LW w hW h hxg.1 (fun q hq => hs.own q (by have := vblks_of hxm q hq; simp [this])) (fun b hb => by
      have h1 : b ∈ ids (vblks vs) := by obtain ⟨o9, ho9⟩ := mem_ids.1 hb; exact mem_ids_of (vblks_of hxm _ ho9)
      have h2 := hs.tail.nodup
      rw [ids_append] at h2
      exact fun h3 => (List.nodup_append.1 h2).2.2 b h1 b h3 rfl) (by omega)) ?_
    clear hs hW; rintro v w LW ⟨hW, rfl⟩ - hs
    simp only [List.append_nil, List.cons_append] at hs
    rw [← htk] at hW
    refine WL_nil ?_
    refine n_then ?_
    refine W_seq ?_
    refine W_draw [(1, true, []), (2, true, []), (3, true, []), (4, true, []), (0, false, [1, 2, 3, 4]), (5, false, []), (6, false, []), (7, true, [])] MX (by kernel_rfl) ?_
    intro w1 hw1 hw2 hw3 hw4; replace hs := hs.redrawn hw1 hw2 hw3 hw4; clear hw1 hw2 hw3 hw4
    obtain ⟨w, rfl⟩ : ∃ w : World, w = w1 := ⟨_, rfl⟩
    refine D_q rfl rfl ?_
    refine s_move rfl rfl ?_
    refine D_qn ?_
    refine D_q rfl rfl ?_
    refine s_move rfl rfl ?_
    refine D_qn ?_
    refine D_q rfl rfl ?_
    first | (refine s_add' rfl rfl rfl ?hx ?_; case hx => (constructor <;> first | omega | (simp only; omega))) | refine s_add rfl rfl rfl ?_
    refine D_qn ?_
    refine D_q rfl rfl ?_
    (refine s_slice_hi El35 rfl rfl rfl ?hx ?_; case hx => (constructor <;> omega))
    refine D_qn ?_
    refine D_e rfl ?_
    refine s_callL (M := _ :: vblks vs) (L1 := LW) (X := []) Try.call16 rfl rfl (by simpa using hs) (fun h => wDone_ok b12 _ _ w hW h (by omega)) ?_
    clear hs; rintro v w LW2 ⟨Ld, rfl, hOd⟩ - hs
    simp only [List.append_nil, List.cons_append] at hs
    refine D_en ?re ?_
    case re =>
      refine Reks_cons rfl rfl rfl rfl ?_ ?_
      · skip
        refine s_move rfl rfl ?_
        exact Rek_end rfl
      refine Reks_cons rfl rfl rfl rfl ?_ ?_
      · skip
        refine s_move rfl rfl ?_
        exact Rek_end rfl
      refine Reks_cons rfl rfl rfl rfl ?_ ?_
      · skip
        first | (refine s_add' rfl rfl rfl ?hx ?_; case hx => (constructor <;> first | omega | (simp only; omega))) | refine s_add rfl rfl rfl ?_
        exact Rek_end rfl
      refine Reks_cons rfl rfl rfl rfl ?_ ?_
      · skip
        (refine s_slice_hi El35 rfl rfl rfl ?hx ?_; case hx => (constructor <;> omega))
        exact Rek_end rfl
      exact Reks_nil
    refine D_e rfl ?_
    have hsle : Sl w (.slice (some ⟨g, 0, none⟩) (((i : Int) + 1).toNat) avc) (vs.take (i + 1)).length (vcells (vs.take (i + 1))) := by
      have hlt : (vs.take (i + 1)).length = i + 1 := by rw [List.length_take]; omega
      have h1 := (hO'.sl (M := vblks vs ++ (LW ++ Ld)) hs).take (size := 5) (k := i + 1) (by omega) rfl
      have h2 : List.take ((i + 1) * 5) (vcells vs) = vcells (vs.take (i + 1)) := by
        have h3 : vcells vs = vcells (vs.take (i + 1)) ++ vcells (vs.drop (i + 1)) := by rw [← vcells_append, List.take_append_drop]
        have h4 : (vcells (vs.take (i + 1))).length = (i + 1) * 5 := by rw [vcells_length, hlt]
        rw [h3, ← h4, List.take_left]
      rw [h2] at h1
      rw [hlt, show ((i : Int) + 1).toNat = i + 1 by omega]; exact h1
    refine s_call Try.call18 rfl rfl (fEncode_ok _ (vs.take (i + 1)) w hsle (fun x hx => (hg x (List.mem_of_mem_take hx)).1) (fun q hq => hs.own q (by
      have : q ∈ vblks vs := by simp only [vblks, List.mem_flatMap] at hq ⊢; obtain ⟨y, hy, hq⟩ := hq; exact ⟨y, List.mem_of_mem_take hy, hq⟩
      simp [this])) (fun k => by have := encVs_take (vs.take (i + 1)) (fun x hx => (hg x (List.mem_of_mem_take hx)).2) k; have h9 : (vs.take (i + 1)).length ≤ 13 := by rw [List.length_take]; omega
                                 omega) (by rw [List.length_take]; omega)) ?_
    rintro r w ⟨Le, hOe, hst⟩
    replace hs := St.back0 hs hst
    clear hst
    refine D_en ?re ?_
    case re =>
      exact Reks_nil
    refine D_e rfl ?_
    refine s_call Try.call30 rfl rfl (sameBytes_ok _ _ _ _ w (St_lastSl (M := Le ++ (_ :: vblks vs)) (A := LW) (B := Ld) (by simpa using hs) hOd) (hOe.sl hs) (by omega)) ?_
    rintro r w ⟨hst, rfl⟩
    replace hs := (hs.fwd1 hst).right
    clear hst
    refine D_en ?re ?_
    case re =>
      exact Reks_nil
    refine D_q rfl rfl ?_
    refine s_not rfl rfl ?_
    refine D_qn ?_
    refine D_nil ?_
    refine n_then ?_
    refine W_cond_kf rfl ((by simp)) ?_
    refine W_skip ?_
    refine n_blk ?_
    refine n_then ?_
    refine W_region ?_
    refine s_move rfl rfl ?_
    first | (refine s_add' rfl rfl rfl ?hx ?_; case hx => (constructor <;> first | omega | (simp only; omega))) | refine s_add rfl rfl rfl ?_
    refine s_assign rfl rfl ?_
    refine WL_nil ?_
    refine n_loop ?_
    exact ⟨(i + 1, LW), ⟨rfl, rfl, rfl, trivial⟩, ⟨St.left (M := Ld) (by simpa using hs), hW, by simp only; omega⟩, by simp only; omega⟩
  · skip
    try simp only [decide_eq_true_eq, decide_eq_false_iff_not, beq_iff_eq, beq_eq_false_iff_ne, ne_eq] at hc32
    refine W_exit ?_
    refine x_then ?_
    refine x_then ?_
    refine exit_hit ?_
    refine n_then ?_
    refine W_seq ?_
    refine W_region ?_
    refine s_call Try.call17 rfl rfl (lives_ok w) ?_
    rintro r w ⟨hst, rfl⟩
    replace hs := hs.fwd1 hst
    refine s_assign rfl rfl ?_
    refine WL_nil ?_
    refine n_then ?_
    refine W_ret ?_
    exact end1 rfl rfl ⟨hs.fwd, rfl⟩
end Go.Proofs.Ytheeheahhnamjaa
