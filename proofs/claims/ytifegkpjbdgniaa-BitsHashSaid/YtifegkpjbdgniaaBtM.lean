/- BitsRound. -/
import Derived.Test.YtifegkpjbdgniaaBtK
set_option linter.unusedVariables false
set_option linter.unusedSimpArgs false
namespace Go.Proofs.Ytifegkpjbdgniaa
open Go.SL
def lowV (n : Nat) (c : Int) : Nat := n % 2 ^ (clampV c).toNat
theorem low_ok (n : Nat) (c : Int) (w0 : World) (hn : n < 18446744073709551616) : Ret Try.prog 32 [.int .u64 (n : Int), .int .i64 c].toArray w0 fun r w' => w' = w0 ∧ r = .int .u64 (lowV n c : Int) := by
  unfold lowV
  obtain ⟨hcv, hc⟩ := clampV_nat c
  generalize hk : (clampV c).toNat = k at *
  refine Ret_of Try.func32 rfl Try.ntmps32 rfl ?_
  refine W_seq ?_
  refine W_region ?_
  refine s_assign rfl rfl ?_
  refine WL_nil ?_
  refine n_then ?_
  refine W_seq ?_
  refine W_region ?_
  refine s_move rfl rfl ?_
  refine s_call Try.call51 rfl rfl (count_ok c w0) ?_
  rintro v w1 ⟨hw1, rfl⟩
  rw [hw1, hcv]; clear hw1 w1
  refine s_assign rfl rfl ?_
  refine WL_nil ?_
  refine n_then ?_
  refine W_seq ?_
  refine W_seq ?_
  refine W_region ?_
  refine s_move rfl rfl ?_
  refine s_eql rfl rfl rfl ?_
  refine WL_nil ?_
  refine n_then ?_
  refine W_cond rfl (fun hc9 => ?_) (fun hc9 => ?_)
  · skip
    try simp only [beq_iff_eq, beq_eq_false_iff_ne, ne_eq] at hc9
    refine W_seq ?_
    refine W_region ?_
    refine s_move rfl rfl ?_
    refine s_assign rfl rfl ?_
    refine WL_nil ?_
    refine n_then ?_
    refine W_ret ?_
    refine r_then ?_
    first
      | exact end1 rfl rfl ⟨rfl, rfl⟩
      | (refine end1 rfl rfl ⟨rfl, ?_⟩
         have hk64 : k = 64 := by omega
         rw [hk64, Nat.mod_eq_of_lt (show n < 2 ^ 64 by omega)])
  · skip
    try simp only [beq_iff_eq, beq_eq_false_iff_ne, ne_eq] at hc9
    refine W_skip ?_
    refine n_then ?_
    refine W_seq ?_
    refine W_region ?_
    refine s_move rfl rfl ?_
    refine s_move rfl rfl ?_
    refine s_convert rfl rfl (CV3_23 _) ?_
    rw [IntWalk.u64_in _ (by omega)]
    (refine s_shl rfl rfl rfl ?hx ?_; case hx => omega)
    rw [shl1 k (by omega)]
    (refine s_rem rfl rfl rfl ?hx ?_; case hx => (have := Nat.pow_pos (n := k) (show 0 < 2 by decide); omega))
    rw [show (n : Int).tmod ((2 ^ k : Nat) : Int) = ((n % 2 ^ k : Nat) : Int) from rfl]
    refine s_assign rfl rfl ?_
    refine WL_nil ?_
    refine n_then ?_
    refine W_ret ?_
    first
      | exact end1 rfl rfl ⟨rfl, rfl⟩
      | (refine end1 rfl rfl ⟨rfl, ?_⟩
         have hk64 : k = 64 := by omega
         rw [hk64, Nat.mod_eq_of_lt (show n < 2 ^ 64 by omega)])
/-- the bits of x lie at k -/
def AtBits (bs x : List Bool) (k : Nat) : Prop := ∃ r, bs.drop k = x ++ r
theorem AtBits.gb {bs x : List Bool} {k : Nat} (h : AtBits bs x k) {j : Nat} (hj : j < x.length) : gb bs (k + j) = gb x j := by
  obtain ⟨r, h⟩ := h
  unfold Proofs.Ytifegkpjbdgniaa.gb
  rw [← List.getElem?_drop, h, List.getElem?_append_left hj]
theorem AtBits.len {bs x : List Bool} {k : Nat} (h : AtBits bs x k) (hx : x ≠ []) : k + x.length ≤ bs.length := by
  obtain ⟨r, h⟩ := h
  have h1 := congrArg List.length h
  simp only [List.length_drop, List.length_append] at h1
  have h2 : 0 < x.length := List.length_pos_iff.2 hx
  omega
theorem ruGo_at (ys : List Int) (k m n : Nat) (hm : n ≤ m) (hf : bitAt ys (k + n) = false) (ht : ∀ j, j < n → bitAt ys (k + j) = true) : ∀ d f, d ≤ n → d < f → ruGo ys k m f (n - d) = (n, k + n + 1, 0) := by
  intro d
  induction d with
  | zero =>
    intro f _ hf2
    obtain ⟨f, rfl⟩ : ∃ g, f = g + 1 := ⟨f - 1, by omega⟩
    rw [ruGo, Nat.sub_zero, if_pos hf]
  | succ d ih =>
    intro f hd hf2
    obtain ⟨f, rfl⟩ : ∃ g, f = g + 1 := ⟨f - 1, by omega⟩
    rw [ruGo, if_neg (by rw [ht _ (by omega)]; simp), if_neg (by omega), show n - (d + 1) + 1 = n - d by omega]
    exact ih f (by omega) (by omega)
theorem ruV_at (bs : List Bool) (k n : Nat) (h : AtBits bs (List.replicate n true ++ [false]) k) : ruV (pk bs) k 0 (n : Int) = (n, k + n + 1, 0) := by
  have hl := h.len (by simp)
  have hp := pk_length bs
  simp at hl
  unfold ruV
  rw [if_neg (by simp), Int.toNat_natCast]
  have h0 := ruGo_at (pk bs) k n n (Nat.le_refl _) (by rw [bitAt_pk bs _ (by omega), h.gb (by simp)]; simp [gb]) (fun j hj => by rw [bitAt_pk bs _ (by omega), h.gb (by simp; omega)]; simp [gb, List.getElem?_append_left, hj]) n (8 * (pk bs).length - k) (Nat.le_refl _) (by omega)
  rw [Nat.sub_self] at h0
  exact h0
theorem rbV_at (bs : List Bool) (k n : Nat) (c : Int) (hk : k ≤ bs.length) (h : AtBits bs (nb n (clampV c).toNat) k) : rbV (pk bs) k 0 c = (lowV n c, k + (clampV c).toNat, 0) := by
  have hp := pk_length bs
  unfold rbV lowV
  rw [if_neg (by simp)]
  generalize (clampV c).toNat = d at *
  have hl : k + d ≤ bs.length := by
    by_cases hd : d = 0
    · omega
    · have := h.len (by intro he; have := congrArg List.length he; rw [nb_length] at this; exact hd this)
      rw [nb_length] at this; exact this
  rw [if_neg (by omega), bitsAt_pk bs k d hl]
  obtain ⟨r, h⟩ := h
  rw [h, List.take_append_of_le_length (by rw [nb_length]; exact Nat.le_refl _), List.take_of_length_le (by rw [nb_length]; exact Nat.le_refl _), va_nb]
theorem reV_end (bs : List Bool) : reV (pk bs) bs.length 0 = 0 := by
  have hp := pk_length bs
  unfold reV
  rw [if_neg (by simp), if_neg (by omega), if_neg]
  intro h
  obtain ⟨j, hj, hj2⟩ := List.any_eq_true.1 h
  have := List.mem_range.1 hj
  rw [bitAt_pk bs _ (by omega), gb_ge (by omega)] at hj2
  cases hj2
/-! walk -/
theorem obits_split (os : List BO) (i : Nat) (h : i < os.length) : obits os = obits (os.take i) ++ (os[i].bits ++ obits (os.drop (i + 1))) := by
  have h1 : os = os.take i ++ os[i] :: os.drop (i + 1) := by rw [List.getElem_cons_drop, List.take_append_drop]
  refine (congrArg obits h1).trans ?_
  unfold obits
  rw [List.flatMap_append, List.flatMap_cons]
theorem obits_at (os : List BO) (i : Nat) (h : i < os.length) : AtBits (obits os) os[i].bits (obits (os.take i)).length := by
  refine ⟨obits (os.drop (i + 1)), ?_⟩
  rw [obits_split os i h, List.drop_left]
set_option maxHeartbeats 4000000 in
theorem bitsRound_ok (v : Value) (xs : List Int) (n : Nat) (cnt : Int) (w0 : World) (hv : Sl w0 v xs.length (i64s xs)) (hx : ∀ z ∈ xs, isI64 z) (hn : n < 18446744073709551616) (hcnt : isI64 cnt) :
    Ret Try.prog 5 [v, .int .u64 (n : Int), .int .i64 cnt].toArray w0 fun r w' => Fwd [] w0 w' ∧ r = .bool true := by
  refine Ret_start fun w hs => ?_
  refine Ret_of Try.func5 rfl Try.ntmps5 rfl ?_
  refine W_seq ?_
  refine W_region ?_
  refine s_assign rfl rfl ?_
  refine WL_nil ?_
  refine n_then ?_
  refine W_seq ?_
  refine W_region ?_
  refine s_move rfl rfl ?_
  refine s_call Try.call12 rfl rfl (ops_ok v xs w (hv.fwd0 hs.fwd) hx) ?_
  rintro r w ⟨os0, Lo, hO, hst, hg0, hol⟩
  replace hs := St.back0 hs hst
  simp only [List.append_nil] at hs
  clear hst
  obtain ⟨_, oc0, oa0, rfl, rfl⟩ := hO.form
  refine s_move rfl rfl ?_
  refine s_move rfl rfl ?_
  refine s_build rfl rfl (BD27_1_2 _ _) ?_
  refine s_buildSlice rfl rfl (BS24_1 _ _ _) hs ?_; clear hs; intro b17 w hs
  refine s_appendM (M := [_]) (X := []) El24 rfl rfl rfl hO (by simpa using hs) (hs.sl (k := 0) (ds := [_, _, _]) rfl (Nat.le_refl _) (by intro j u hj; rw [Nat.zero_add]; exact hj)) rfl (by simp [Value.oneCell']) (by omega) ?_
  clear hs; intro v' w Lo hO' hs
  have hO2 : OwnS 27 3 v' (os0 ++ [(⟨false, n, cnt⟩ : BO)]).length (bcells (os0 ++ [(⟨false, n, cnt⟩ : BO)])) Lo := by simpa [bcells_snoc, BO.cells] using hO'
  have hg : ∀ o ∈ os0 ++ [(⟨false, n, cnt⟩ : BO)], BO.ok o := by
    intro x hx
    rcases List.mem_append.1 hx with h | h
    · exact hg0 x h
    · rw [List.mem_singleton.1 h]; exact ⟨hn, fun h => by simp at h, hcnt⟩
  have hol2 : (os0 ++ [(⟨false, n, cnt⟩ : BO)]).length ≤ 13 := by simp; omega
  generalize os0 ++ [(⟨false, n, cnt⟩ : BO)] = os at hO2 hg hol2
  clear hO' hO hg0
  obtain ⟨_, oc, oa, rfl, rfl⟩ := hO2.form
  replace hs : St [] w0 w Lo := by simpa using hs.tail
  have hlen : ∀ i, (obits (os.take i)).length ≤ 832 := fun i => by
    have h1 := obits_len (os.take i) (fun o ho => hg o (List.mem_of_mem_take ho))
    have h2 : (os.take i).length ≤ 13 := by simp; omega
    omega
  refine s_assign rfl rfl ?_
  refine WL_nil ?_
  refine n_then ?_
  refine W_seq ?_
  refine W_region ?_
  refine s_alloc rfl AL31 hs ?_; clear hs; intro b8 w hs
  refine WL_nil ?_
  refine n_then ?_
  refine W_seq ?_
  refine W_seq ?_
  refine W_region ?_
  refine s_assign rfl rfl ?_
  refine WL_nil ?_
  refine n_then ?_
  refine W_block ?_
  refine W_loop (σ := Nat × Hp) (fun s => [(7, .slice oa os.length oc), (8, .pointer (some ⟨b8, 0, none⟩)), (9, .int .i64 (s.1 : Int))]) (fun s w => St [] w0 w (s.2 ++ Lo) ∧ WbAt b8 (obits (os.take s.1)) s.2 ∧ s.1 ≤ os.length) (fun s => os.length - s.1) (0, [_]) ⟨rfl, rfl, rfl, trivial⟩ ⟨hs, wb_new b8, Nat.zero_le _⟩ ?_
  clear hs
  rintro ⟨i, LW⟩ w ⟨hs, hW, hil⟩
  simp only at hs hW hil ⊢
  have hl1 := hlen i
  refine W_seq ?_
  refine W_seq ?_
  refine W_region ?_
  refine s_move rfl rfl ?_
  refine s_move rfl rfl ?_
  refine s_len rfl rfl (LN24 _ _ _ _) ?_
  refine s_lss rfl rfl rfl ?_
  refine WL_nil ?_
  refine n_then ?_
  refine W_cond rfl (fun hc22 => ?_) (fun hc22 => ?_)
  · skip
    try simp only [decide_eq_true_eq, decide_eq_false_iff_not, beq_iff_eq, beq_eq_false_iff_ne, ne_eq, bne_iff_ne, bne_eq_false_iff_eq] at hc22
    have hix : i < os.length := by omega
    have hxi : os[i]? = some os[i] := List.getElem?_eq_getElem hix
    have hxm : os[i] ∈ os := List.getElem_mem hix
    have htk : obits (os.take (i + 1)) = obits (os.take i) ++ os[i].bits := by rw [List.take_succ_eq_append_getElem hix, obits, List.flatMap_append]; simp [obits]
    obtain ⟨g, cap, sp, hgv, hcap, rfl⟩ := hO2.block (by omega)
    cases hgv
    have cc : ∀ j u, j < 3 → os[i].cells[j]? = some u → (bcells os ++ sp)[0 + (i : Int).toNat * 3 + j]? = some u := fun j u hj hu => by
      rw [Nat.zero_add, Int.toNat_natCast, List.getElem?_append_left (by rw [bcells_length]; omega), bcells_at hj hxi]; exact hu
    have hsw : St [] w0 w ((g, Blk 27 (bcells os ++ sp)) :: LW) := by simpa using hs.swap
    generalize os[i] = x at hxm cc htk
    have hxg := hg x hxm
    refine W_skip ?_
    refine n_then ?_
    refine W_seq ?_
    refine W_block ?_
    refine W_region ?_
    refine s_move rfl rfl ?_
    refine s_move rfl rfl ?_
    (refine s_indexAddr El24 rfl rfl rfl ?hx ?_; case hx => (constructor <;> first | omega | (simp; omega)))
    refine s_load_3 Try.isAgg27 Try.sizeOf27 rfl rfl (hsw.cell (k := 0) rfl (cc 0 _ (by omega) rfl)) (hsw.cell (k := 0) rfl (cc 1 _ (by omega) rfl)) (hsw.cell (k := 0) rfl (cc 2 _ (by omega) rfl)) ?_
    refine s_callL (M := []) (L1 := LW) (X := [_]) Try.call14 rfl rfl hs (fun h => write_ok b8 _ x hxg LW w hW h (by omega)) ?_
    clear hs hsw hW; rintro v w LW2 ⟨hW, rfl⟩ - hs
    simp only [List.nil_append] at hs
    refine WL_nil ?_
    refine n_blk ?_
    refine n_then ?_
    refine W_region ?_
    refine s_move rfl rfl ?_
    first | (refine s_add' rfl rfl rfl ?hx ?_; case hx => (constructor <;> first | omega | (simp only; omega))) | refine s_add rfl rfl rfl ?_
    refine s_assign rfl rfl ?_
    refine WL_nil ?_
    refine n_loop ?_
    exact ⟨(i + 1, LW2), ⟨rfl, rfl, rfl, trivial⟩, ⟨hs, by simp only; rw [htk]; exact hW, by simp only; omega⟩, by simp only; omega⟩
  · skip
    try simp only [decide_eq_true_eq, decide_eq_false_iff_not, beq_iff_eq, beq_eq_false_iff_ne, ne_eq, bne_iff_ne, bne_eq_false_iff_eq] at hc22
    rw [List.take_of_length_le (show os.length ≤ i by omega)] at hW hl1
    have hpl := pk_length (obits os)
    have hpB := pk_isB (obits os)
    refine W_exit ?_
    refine x_then ?_
    refine x_then ?_
    refine exit_hit ?_
    refine n_then ?_
    refine W_seq ?_
    refine W_region ?_
    refine s_callL (M := []) (L1 := LW) (X := Lo) Try.call18 rfl rfl hs (fun h => wDone_ok b8 _ _ w hW h (by omega)) ?_
    clear hs; rintro v w L9 ⟨Lr, rfl, hOr⟩ - hs
    simp only [List.nil_append, List.append_assoc] at hs
    refine s_call Try.call22 rfl rfl (bRead_ok _ (pk (obits os)) w (hOr.slM (M := LW) (X := Lo) hs) (by omega) hpB) ?_
    rintro r w ⟨p, LP, rfl, hP, hst⟩
    replace hs := St.back0 hs hst
    replace hs : St [] w0 w (Lo ++ (LP ++ LW)) := by simpa [cat] using St.reord [LP, LW, Lr, Lo] [3, 0, 1] [2] (by simpa [cat] using hs) rfl
    clear hst hOr
    refine s_assign rfl rfl ?_
    refine WL_nil ?_
    refine n_then ?_
    refine W_seq ?_
    refine W_seq ?_
    refine W_region ?_
    refine s_move rfl rfl ?_
    refine s_eql_ptr_nil Try.underlying43 rfl rfl rfl ?_
    refine WL_nil ?_
    refine n_then ?_
    refine W_cond_kf rfl (rfl) ?_
    refine W_skip ?_
    refine n_then ?_
    refine W_seq ?_
    refine W_seq ?_
    refine W_region ?_
    refine s_assign rfl rfl ?_
    refine WL_nil ?_
    refine n_then ?_
    refine W_block ?_
    refine W_loop (σ := Nat × Hp) (fun s => [(7, .slice oa os.length oc), (8, .pointer (some ⟨b8, 0, none⟩)), (10, .pointer (some ⟨p, 0, none⟩)), (11, .int .i64 (s.1 : Int))]) (fun s w => St [] w0 w (Lo ++ (s.2 ++ LW)) ∧ RbAt p (pk (obits os)) (obits (os.take s.1)).length 0 s.2 ∧ s.1 ≤ os.length) (fun s => os.length - s.1) (0, LP) ⟨rfl, rfl, rfl, rfl, trivial⟩ ⟨hs, by simpa [obits] using hP, Nat.zero_le _⟩ ?_
    clear hs hP hil
    clear hc22 i
    rintro ⟨i, LP⟩ w ⟨hs, hP, hil⟩
    simp only at hs hP hil ⊢
    refine W_seq ?_
    refine W_seq ?_
    refine W_region ?_
    refine s_move rfl rfl ?_
    refine s_move rfl rfl ?_
    refine s_len rfl rfl (LN24 _ _ _ _) ?_
    refine s_lss rfl rfl rfl ?_
    refine WL_nil ?_
    refine n_then ?_
    refine W_cond rfl (fun hc37 => ?_) (fun hc37 => ?_)
    · skip
      try simp only [decide_eq_true_eq, decide_eq_false_iff_not, beq_iff_eq, beq_eq_false_iff_ne, ne_eq, bne_iff_ne, bne_eq_false_iff_eq] at hc37
      have hix : i < os.length := by omega
      have hxi : os[i]? = some os[i] := List.getElem?_eq_getElem hix
      have hxm : os[i] ∈ os := List.getElem_mem hix
      have htk : obits (os.take (i + 1)) = obits (os.take i) ++ os[i].bits := by rw [List.take_succ_eq_append_getElem hix, obits, List.flatMap_append]; simp [obits]
      have hAt := obits_at os i hix
      have hkl : (obits (os.take i)).length ≤ (obits os).length := by rw [obits_split os i hix, List.length_append]; omega
      obtain ⟨g, cap, sp, hgv, hcap, rfl⟩ := hO2.block (by omega)
      cases hgv
      have cc : ∀ j u, j < 3 → os[i].cells[j]? = some u → (bcells os ++ sp)[0 + (i : Int).toNat * 3 + j]? = some u := fun j u hj hu => by
        rw [Nat.zero_add, Int.toNat_natCast, List.getElem?_append_left (by rw [bcells_length]; omega), bcells_at hj hxi]; exact hu
      simp only [List.cons_append, List.nil_append] at hs
      generalize os[i] = x at hxm cc htk hAt
      have hxg := hg x hxm
      have hxn := hxg.n
      have hxu := hxg.u
      obtain ⟨u, xn, xc⟩ := x
      simp only at hxn hxu
      have htk2 := congrArg List.length htk
      rw [List.length_append] at htk2
      refine W_skip ?_
      refine n_then ?_
      refine W_seq ?_
      refine W_block ?_
      refine W_seq ?_
      refine W_seq ?_
      refine W_draw [(0, true, []), (1, true, []), (2, true, []), (3, true, []), (4, true, []), (5, true, []), (6, true, []), (7, true, []), (8, true, []), (9, true, []), (10, true, []), (11, true, []), (12, true, []), (14, true, []), (15, true, []), (16, true, []), (17, true, []), (18, true, []), (19, true, []), (13, false, [14, 15, 16, 17, 18, 19]), (20, true, []), (21, true, [])] MX (by kernel_rfl) ?_
      intro w1 hw1 hw2 hw3 hw4; replace hs := hs.redrawn hw1 hw2 hw3 hw4; clear hw1 hw2 hw3 hw4
      obtain ⟨w, rfl⟩ : ∃ w : World, w = w1 := ⟨_, rfl⟩
      refine D_q rfl rfl ?_
      refine s_move rfl rfl ?_
      refine D_qn ?_
      refine D_q rfl rfl ?_
      refine s_move rfl rfl ?_
      refine D_qn ?_
      refine D_q rfl rfl ?_
      (refine s_indexAddr El24 rfl rfl rfl ?hx ?_; case hx => (constructor <;> first | omega | (simp; omega)))
      refine D_qn ?_
      refine D_q rfl rfl ?_
      refine s_fieldAddr rfl rfl (FA27_0 _ _) ?_
      refine D_qn ?_
      refine D_q rfl rfl ?_
      refine s_load Try.isAgg4 rfl rfl (hs.cell (k := 0) rfl (cc 0 _ (by omega) rfl)) ?_
      cases u
      · skip
        refine D_qn ?_
        refine D_q rfl rfl ?_
        refine s_move rfl rfl ?_
        refine WL_know (s := 45) (c := false) rfl (rfl) ?_
        refine D_qn ?_
        refine D_q rfl rfl ?_
        refine WL_skip rfl rfl rfl ?_
        refine D_qn ?_
        refine D_q rfl rfl ?_
        refine WL_skip rfl rfl rfl ?_
        refine D_qn ?_
        refine D_q rfl rfl ?_
        refine WL_skip rfl rfl rfl ?_
        refine D_qn ?_
        refine D_q rfl rfl ?_
        refine WL_skip rfl rfl rfl ?_
        refine D_qn ?_
        refine D_q rfl rfl ?_
        refine WL_skip rfl rfl rfl ?_
        refine D_qn ?_
        refine D_q rfl rfl ?_
        refine WL_skip rfl rfl rfl ?_
        refine D_qn ?_
        refine D_q rfl rfl ?_
        refine WL_skip rfl rfl rfl ?_
        refine D_qn ?_
        refine D_q rfl rfl ?_
        refine WL_skip rfl rfl rfl ?_
        refine D_qn ?_
        refine D_q rfl rfl ?_
        refine WL_skip rfl rfl rfl ?_
        refine D_qn ?_
        refine D_q rfl rfl ?_
        refine WL_skip rfl rfl rfl ?_
        refine D_qn ?_
        refine D_q rfl rfl ?_
        refine WL_skip rfl rfl rfl ?_
        refine D_qn ?_
        refine D_q rfl rfl ?_
        refine WL_skip rfl rfl rfl ?_
        refine D_qn ?_
        refine D_q rfl rfl ?_
        refine WL_skip rfl rfl rfl ?_
        refine D_qn ?_
        refine D_e rfl ?_
        refine WL_skip rfl rfl rfl ?_
        refine D_en ?re ?_
        case re =>
          refine Reks_cons rfl rfl rfl rfl ?_ ?_
          · skip
            refine WL_skip rfl rfl rfl ?_
            exact Rek_end rfl
          refine Reks_cons rfl rfl rfl rfl ?_ ?_
          · skip
            refine WL_skip rfl rfl rfl ?_
            exact Rek_end rfl
          refine Reks_cons rfl rfl rfl rfl ?_ ?_
          · skip
            refine WL_skip rfl rfl rfl ?_
            exact Rek_end rfl
          refine Reks_cons rfl rfl rfl rfl ?_ ?_
          · skip
            refine WL_skip rfl rfl rfl ?_
            exact Rek_end rfl
          refine Reks_cons rfl rfl rfl rfl ?_ ?_
          · skip
            refine WL_skip rfl rfl rfl ?_
            exact Rek_end rfl
          refine Reks_cons rfl rfl rfl rfl ?_ ?_
          · skip
            refine WL_skip rfl rfl rfl ?_
            exact Rek_end rfl
          exact Reks_nil
        refine D_q rfl rfl ?_
        refine WL_skip rfl rfl rfl ?_
        refine D_qn ?_
        refine D_q rfl rfl ?_
        refine s_pick_f rfl rfl rfl ?_
        refine D_qn ?_
        refine D_nil ?_
        refine n_then ?_
        refine W_cond_f rfl ?_
        refine W_skip ?_
        refine n_then ?_
        refine W_seq ?_
        refine W_draw [(0, true, []), (1, true, []), (2, true, []), (3, true, []), (4, true, []), (5, true, []), (6, true, []), (7, true, []), (8, true, []), (9, true, []), (10, true, []), (11, true, []), (12, true, []), (14, true, []), (15, true, []), (16, true, []), (17, true, []), (18, true, []), (19, true, []), (20, true, []), (21, true, []), (22, true, []), (23, true, []), (13, false, [14, 15, 16, 17, 18, 19, 20, 21, 22, 23]), (24, false, []), (25, true, []), (26, true, [])] MX (by kernel_rfl) ?_
        intro w1 hw1 hw2 hw3 hw4; replace hs := hs.redrawn hw1 hw2 hw3 hw4; clear hw1 hw2 hw3 hw4
        obtain ⟨w, rfl⟩ : ∃ w : World, w = w1 := ⟨_, rfl⟩
        refine D_q rfl rfl ?_
        refine s_move rfl rfl ?_
        refine D_qn ?_
        refine D_q rfl rfl ?_
        refine s_move rfl rfl ?_
        refine D_qn ?_
        refine D_q rfl rfl ?_
        (refine s_indexAddr El24 rfl rfl rfl ?hx ?_; case hx => (constructor <;> first | omega | (simp; omega)))
        refine D_qn ?_
        refine D_q rfl rfl ?_
        refine s_fieldAddr rfl rfl (FA27_0 _ _) ?_
        refine D_qn ?_
        refine D_q rfl rfl ?_
        first
          | refine s_load Try.isAgg4 rfl rfl (hs.cell (k := 0) rfl rfl) ?_
          | refine s_load Try.isAgg4 rfl rfl (hs.cell (k := 1) rfl rfl) ?_
          | refine s_load Try.isAgg4 rfl rfl (hs.cell (k := 2) rfl rfl) ?_
          | refine s_load Try.isAgg4 rfl rfl ((hs.cell (k := 0) rfl (cc 0 _ (by omega) rfl))) ?_
          | refine s_load Try.isAgg4 rfl rfl ((hs.cell (k := 0) rfl (cc 1 _ (by omega) rfl))) ?_
          | refine s_load Try.isAgg4 rfl rfl ((hs.cell (k := 0) rfl (cc 2 _ (by omega) rfl))) ?_
        refine D_qn ?_
        refine D_q rfl rfl ?_
        refine s_not rfl rfl ?_
        refine D_qn ?_
        refine D_q rfl rfl ?_
        refine s_move rfl rfl ?_
        refine WL_know (s := 68) (c := true) rfl (rfl) ?_
        refine D_qn ?_
        refine D_q rfl rfl ?_
        refine WL_take rfl ?_
        refine s_move rfl rfl ?_
        refine D_qn ?_
        refine D_q rfl rfl ?_
        refine WL_take rfl ?_
        refine s_move rfl rfl ?_
        refine D_qn ?_
        refine D_q rfl rfl ?_
        refine WL_take rfl ?_
        refine s_move rfl rfl ?_
        refine D_qn ?_
        refine D_q rfl rfl ?_
        refine WL_take rfl ?_
        (refine s_indexAddr El24 rfl rfl rfl ?hx ?_; case hx => (constructor <;> first | omega | (simp; omega)))
        refine D_qn ?_
        refine D_q rfl rfl ?_
        refine WL_take rfl ?_
        refine s_fieldAddr rfl rfl (FA27_2 _ _) ?_
        refine D_qn ?_
        refine D_q rfl rfl ?_
        refine WL_take rfl ?_
        first
          | refine s_load Try.isAgg3 rfl rfl (hs.cell (k := 0) rfl rfl) ?_
          | refine s_load Try.isAgg3 rfl rfl (hs.cell (k := 1) rfl rfl) ?_
          | refine s_load Try.isAgg3 rfl rfl (hs.cell (k := 2) rfl rfl) ?_
          | refine s_load Try.isAgg3 rfl rfl ((hs.cell (k := 0) rfl (cc 0 _ (by omega) rfl))) ?_
          | refine s_load Try.isAgg3 rfl rfl ((hs.cell (k := 0) rfl (cc 1 _ (by omega) rfl))) ?_
          | refine s_load Try.isAgg3 rfl rfl ((hs.cell (k := 0) rfl (cc 2 _ (by omega) rfl))) ?_
        refine D_qn ?_
        refine D_q rfl rfl ?_
        refine WL_take rfl ?_
        refine s_move rfl rfl ?_
        refine D_qn ?_
        refine D_q rfl rfl ?_
        refine WL_take rfl ?_
        refine s_move rfl rfl ?_
        refine D_qn ?_
        refine D_q rfl rfl ?_
        refine WL_take rfl ?_
        (refine s_indexAddr El24 rfl rfl rfl ?hx ?_; case hx => (constructor <;> first | omega | (simp; omega)))
        refine D_qn ?_
        refine D_q rfl rfl ?_
        refine WL_take rfl ?_
        refine s_fieldAddr rfl rfl (FA27_1 _ _) ?_
        refine D_qn ?_
        refine D_q rfl rfl ?_
        refine WL_take rfl ?_
        first
          | refine s_load Try.isAgg23 rfl rfl (hs.cell (k := 0) rfl rfl) ?_
          | refine s_load Try.isAgg23 rfl rfl (hs.cell (k := 1) rfl rfl) ?_
          | refine s_load Try.isAgg23 rfl rfl (hs.cell (k := 2) rfl rfl) ?_
          | refine s_load Try.isAgg23 rfl rfl ((hs.cell (k := 0) rfl (cc 0 _ (by omega) rfl))) ?_
          | refine s_load Try.isAgg23 rfl rfl ((hs.cell (k := 0) rfl (cc 1 _ (by omega) rfl))) ?_
          | refine s_load Try.isAgg23 rfl rfl ((hs.cell (k := 0) rfl (cc 2 _ (by omega) rfl))) ?_
        refine D_qn ?_
        refine D_q rfl rfl ?_
        refine WL_take rfl ?_
        refine s_move rfl rfl ?_
        refine D_qn ?_
        refine D_q rfl rfl ?_
        refine WL_take rfl ?_
        refine s_move rfl rfl ?_
        refine D_qn ?_
        refine D_q rfl rfl ?_
        refine WL_take rfl ?_
        (refine s_indexAddr El24 rfl rfl rfl ?hx ?_; case hx => (constructor <;> first | omega | (simp; omega)))
        refine D_qn ?_
        refine D_q rfl rfl ?_
        refine WL_take rfl ?_
        refine s_fieldAddr rfl rfl (FA27_2 _ _) ?_
        refine D_qn ?_
        refine D_q rfl rfl ?_
        refine WL_take rfl ?_
        first
          | refine s_load Try.isAgg3 rfl rfl (hs.cell (k := 0) rfl rfl) ?_
          | refine s_load Try.isAgg3 rfl rfl (hs.cell (k := 1) rfl rfl) ?_
          | refine s_load Try.isAgg3 rfl rfl (hs.cell (k := 2) rfl rfl) ?_
          | refine s_load Try.isAgg3 rfl rfl ((hs.cell (k := 0) rfl (cc 0 _ (by omega) rfl))) ?_
          | refine s_load Try.isAgg3 rfl rfl ((hs.cell (k := 0) rfl (cc 1 _ (by omega) rfl))) ?_
          | refine s_load Try.isAgg3 rfl rfl ((hs.cell (k := 0) rfl (cc 2 _ (by omega) rfl))) ?_
        refine D_qn ?_
        refine D_e rfl ?_
        refine WL_take rfl ?_
        refine s_callL (M := [_]) (L1 := LP) (X := LW) Try.call25 rfl rfl hs (fun h => rBits_ok p _ _ _ xc _ w hP h) ?_
        clear hs hP; rintro v w LP2 ⟨hP, rfl⟩ - hs
        have hru := rbV_at (obits os) (obits (os.take i)).length xn xc hkl hAt
        rw [hru] at hP ⊢
        simp only [List.cons_append, List.nil_append] at hs hP ⊢
        refine D_en ?re ?_
        case re =>
          refine Reks_cons rfl rfl rfl rfl ?_ ?_
          · skip
            refine WL_take rfl ?_
            refine s_move rfl rfl ?_
            exact Rek_end rfl
          refine Reks_cons rfl rfl rfl rfl ?_ ?_
          · skip
            refine WL_take rfl ?_
            refine s_move rfl rfl ?_
            exact Rek_end rfl
          refine Reks_cons rfl rfl rfl rfl ?_ ?_
          · skip
            refine WL_take rfl ?_
            (refine s_indexAddr El24 rfl rfl rfl ?hx ?_; case hx => (constructor <;> first | omega | (simp; omega)))
            exact Rek_end rfl
          refine Reks_cons rfl rfl rfl rfl ?_ ?_
          · skip
            refine WL_take rfl ?_
            refine s_fieldAddr rfl rfl (FA27_1 _ _) ?_
            exact Rek_end rfl
          refine Reks_cons rfl rfl rfl rfl ?_ ?_
          · skip
            refine WL_take rfl ?_
            first
              | refine s_load Try.isAgg23 rfl rfl (hs.cell (k := 0) rfl rfl) ?_
              | refine s_load Try.isAgg23 rfl rfl (hs.cell (k := 1) rfl rfl) ?_
              | refine s_load Try.isAgg23 rfl rfl (hs.cell (k := 2) rfl rfl) ?_
              | refine s_load Try.isAgg23 rfl rfl ((hs.cell (k := 0) rfl (cc 0 _ (by omega) rfl))) ?_
              | refine s_load Try.isAgg23 rfl rfl ((hs.cell (k := 0) rfl (cc 1 _ (by omega) rfl))) ?_
              | refine s_load Try.isAgg23 rfl rfl ((hs.cell (k := 0) rfl (cc 2 _ (by omega) rfl))) ?_
            exact Rek_end rfl
          refine Reks_cons rfl rfl rfl rfl ?_ ?_
          · skip
            refine WL_take rfl ?_
            refine s_move rfl rfl ?_
            exact Rek_end rfl
          refine Reks_cons rfl rfl rfl rfl ?_ ?_
          · skip
            refine WL_take rfl ?_
            refine s_move rfl rfl ?_
            exact Rek_end rfl
          refine Reks_cons rfl rfl rfl rfl ?_ ?_
          · skip
            refine WL_take rfl ?_
            (refine s_indexAddr El24 rfl rfl rfl ?hx ?_; case hx => (constructor <;> first | omega | (simp; omega)))
            exact Rek_end rfl
          refine Reks_cons rfl rfl rfl rfl ?_ ?_
          · skip
            refine WL_take rfl ?_
            refine s_fieldAddr rfl rfl (FA27_2 _ _) ?_
            exact Rek_end rfl
          refine Reks_cons rfl rfl rfl rfl ?_ ?_
          · skip
            refine WL_take rfl ?_
            first
              | refine s_load Try.isAgg3 rfl rfl (hs.cell (k := 0) rfl rfl) ?_
              | refine s_load Try.isAgg3 rfl rfl (hs.cell (k := 1) rfl rfl) ?_
              | refine s_load Try.isAgg3 rfl rfl (hs.cell (k := 2) rfl rfl) ?_
              | refine s_load Try.isAgg3 rfl rfl ((hs.cell (k := 0) rfl (cc 0 _ (by omega) rfl))) ?_
              | refine s_load Try.isAgg3 rfl rfl ((hs.cell (k := 0) rfl (cc 1 _ (by omega) rfl))) ?_
              | refine s_load Try.isAgg3 rfl rfl ((hs.cell (k := 0) rfl (cc 2 _ (by omega) rfl))) ?_
            exact Rek_end rfl
          exact Reks_nil
        refine D_e rfl ?_
        refine WL_take rfl ?_
        refine s_call Try.call32 rfl rfl (low_ok xn xc w hxn) ?_
        rintro v w1 ⟨hw1, rfl⟩
        rw [hw1]; clear hw1 w1
        refine D_en ?re ?_
        case re =>
          exact Reks_nil
        refine D_q rfl rfl ?_
        refine WL_take rfl ?_
        refine s_neq rfl rfl rfl ?_
        refine D_qn ?_
        refine D_q rfl rfl ?_
        refine s_pick_t rfl rfl rfl ?_
        refine D_qn ?_
        refine D_nil ?_
        refine n_then ?_
        refine W_cond_kf rfl ((by simp)) ?_
        refine W_skip ?_
        refine n_blk ?_
        refine n_then ?_
        refine W_region ?_
        refine s_move rfl rfl ?_
        first | (refine s_add' rfl rfl rfl ?hx ?_; case hx => (constructor <;> first | omega | (simp only; omega))) | refine s_add rfl rfl rfl ?_
        refine s_assign rfl rfl ?_
        refine WL_nil ?_
        refine n_loop ?_
        exact ⟨(i + 1, LP2), ⟨rfl, rfl, rfl, rfl, trivial⟩, ⟨hs, by simp only; rw [htk2]; simpa [BO.bits, nb_length] using hP, by simp only; omega⟩, by simp only; omega⟩
      · skip
        refine D_qn ?_
        refine D_q rfl rfl ?_
        refine s_move rfl rfl ?_
        refine WL_know (s := 45) (c := true) rfl (rfl) ?_
        refine D_qn ?_
        refine D_q rfl rfl ?_
        refine WL_take rfl ?_
        refine s_move rfl rfl ?_
        refine D_qn ?_
        refine D_q rfl rfl ?_
        refine WL_take rfl ?_
        refine s_move rfl rfl ?_
        refine D_qn ?_
        refine D_q rfl rfl ?_
        refine WL_take rfl ?_
        refine s_move rfl rfl ?_
        refine D_qn ?_
        refine D_q rfl rfl ?_
        refine WL_take rfl ?_
        (refine s_indexAddr El24 rfl rfl rfl ?hx ?_; case hx => (constructor <;> first | omega | (simp; omega)))
        refine D_qn ?_
        refine D_q rfl rfl ?_
        refine WL_take rfl ?_
        refine s_fieldAddr rfl rfl (FA27_1 _ _) ?_
        refine D_qn ?_
        refine D_q rfl rfl ?_
        refine WL_take rfl ?_
        first
          | refine s_load Try.isAgg23 rfl rfl (hs.cell (k := 0) rfl rfl) ?_
          | refine s_load Try.isAgg23 rfl rfl (hs.cell (k := 1) rfl rfl) ?_
          | refine s_load Try.isAgg23 rfl rfl (hs.cell (k := 2) rfl rfl) ?_
          | refine s_load Try.isAgg23 rfl rfl ((hs.cell (k := 0) rfl (cc 0 _ (by omega) rfl))) ?_
          | refine s_load Try.isAgg23 rfl rfl ((hs.cell (k := 0) rfl (cc 1 _ (by omega) rfl))) ?_
          | refine s_load Try.isAgg23 rfl rfl ((hs.cell (k := 0) rfl (cc 2 _ (by omega) rfl))) ?_
        refine D_qn ?_
        refine D_q rfl rfl ?_
        refine WL_take rfl ?_
        refine s_convert rfl rfl (CV23_3 _) ?_
        rw [IntWalk.i64_in _ (by have := hxu rfl; (try simp only); omega)]
        refine D_qn ?_
        refine D_q rfl rfl ?_
        refine WL_take rfl ?_
        refine s_move rfl rfl ?_
        refine D_qn ?_
        refine D_q rfl rfl ?_
        refine WL_take rfl ?_
        refine s_move rfl rfl ?_
        refine D_qn ?_
        refine D_q rfl rfl ?_
        refine WL_take rfl ?_
        (refine s_indexAddr El24 rfl rfl rfl ?hx ?_; case hx => (constructor <;> first | omega | (simp; omega)))
        refine D_qn ?_
        refine D_q rfl rfl ?_
        refine WL_take rfl ?_
        refine s_fieldAddr rfl rfl (FA27_1 _ _) ?_
        refine D_qn ?_
        refine D_q rfl rfl ?_
        refine WL_take rfl ?_
        first
          | refine s_load Try.isAgg23 rfl rfl (hs.cell (k := 0) rfl rfl) ?_
          | refine s_load Try.isAgg23 rfl rfl (hs.cell (k := 1) rfl rfl) ?_
          | refine s_load Try.isAgg23 rfl rfl (hs.cell (k := 2) rfl rfl) ?_
          | refine s_load Try.isAgg23 rfl rfl ((hs.cell (k := 0) rfl (cc 0 _ (by omega) rfl))) ?_
          | refine s_load Try.isAgg23 rfl rfl ((hs.cell (k := 0) rfl (cc 1 _ (by omega) rfl))) ?_
          | refine s_load Try.isAgg23 rfl rfl ((hs.cell (k := 0) rfl (cc 2 _ (by omega) rfl))) ?_
        refine D_qn ?_
        refine D_q rfl rfl ?_
        refine WL_take rfl ?_
        refine s_convert rfl rfl (CV23_3 _) ?_
        rw [IntWalk.i64_in _ (by have := hxu rfl; (try simp only); omega)]
        refine D_qn ?_
        refine D_e rfl ?_
        refine WL_take rfl ?_
        refine s_callL (M := [_]) (L1 := LP) (X := LW) Try.call27 rfl rfl hs (fun h => rUnary_ok p _ _ _ (xn : Int) _ w hP h) ?_
        clear hs hP; rintro v w LP2 ⟨hP, rfl⟩ - hs
        have hru := ruV_at (obits os) (obits (os.take i)).length xn hAt
        rw [hru] at hP ⊢
        simp only [List.cons_append, List.nil_append] at hs hP ⊢
        refine D_en ?re ?_
        case re =>
          refine Reks_cons rfl rfl rfl rfl ?_ ?_
          · skip
            refine WL_take rfl ?_
            refine s_move rfl rfl ?_
            exact Rek_end rfl
          refine Reks_cons rfl rfl rfl rfl ?_ ?_
          · skip
            refine WL_take rfl ?_
            refine s_move rfl rfl ?_
            exact Rek_end rfl
          refine Reks_cons rfl rfl rfl rfl ?_ ?_
          · skip
            refine WL_take rfl ?_
            (refine s_indexAddr El24 rfl rfl rfl ?hx ?_; case hx => (constructor <;> first | omega | (simp; omega)))
            exact Rek_end rfl
          refine Reks_cons rfl rfl rfl rfl ?_ ?_
          · skip
            refine WL_take rfl ?_
            refine s_fieldAddr rfl rfl (FA27_1 _ _) ?_
            exact Rek_end rfl
          refine Reks_cons rfl rfl rfl rfl ?_ ?_
          · skip
            refine WL_take rfl ?_
            first
              | refine s_load Try.isAgg23 rfl rfl (hs.cell (k := 0) rfl rfl) ?_
              | refine s_load Try.isAgg23 rfl rfl (hs.cell (k := 1) rfl rfl) ?_
              | refine s_load Try.isAgg23 rfl rfl (hs.cell (k := 2) rfl rfl) ?_
              | refine s_load Try.isAgg23 rfl rfl ((hs.cell (k := 0) rfl (cc 0 _ (by omega) rfl))) ?_
              | refine s_load Try.isAgg23 rfl rfl ((hs.cell (k := 0) rfl (cc 1 _ (by omega) rfl))) ?_
              | refine s_load Try.isAgg23 rfl rfl ((hs.cell (k := 0) rfl (cc 2 _ (by omega) rfl))) ?_
            exact Rek_end rfl
          refine Reks_cons rfl rfl rfl rfl ?_ ?_
          · skip
            refine WL_take rfl ?_
            refine s_convert rfl rfl (CV23_3 _) ?_
            rw [IntWalk.i64_in _ (by have := hxu rfl; (try simp only); omega)]
            exact Rek_end rfl
          exact Reks_nil
        refine D_q rfl rfl ?_
        refine WL_take rfl ?_
        refine s_neq rfl rfl rfl ?_
        refine D_qn ?_
        refine D_q rfl rfl ?_
        refine s_pick_t rfl rfl rfl ?_
        refine D_qn ?_
        refine D_nil ?_
        refine n_then ?_
        refine W_cond_kf rfl ((by simp)) ?_
        refine W_skip ?_
        refine n_then ?_
        refine W_seq ?_
        refine W_draw [(0, true, []), (1, true, []), (2, true, []), (3, true, []), (4, true, []), (5, true, []), (6, true, []), (7, true, []), (8, true, []), (9, true, []), (10, true, []), (11, true, []), (12, true, []), (14, true, []), (15, true, []), (16, true, []), (17, true, []), (18, true, []), (19, true, []), (20, true, []), (21, true, []), (22, true, []), (23, true, []), (13, false, [14, 15, 16, 17, 18, 19, 20, 21, 22, 23]), (24, false, []), (25, true, []), (26, true, [])] MX (by kernel_rfl) ?_
        intro w1 hw1 hw2 hw3 hw4; replace hs := hs.redrawn hw1 hw2 hw3 hw4; clear hw1 hw2 hw3 hw4
        obtain ⟨w, rfl⟩ : ∃ w : World, w = w1 := ⟨_, rfl⟩
        refine D_q rfl rfl ?_
        refine s_move rfl rfl ?_
        refine D_qn ?_
        refine D_q rfl rfl ?_
        refine s_move rfl rfl ?_
        refine D_qn ?_
        refine D_q rfl rfl ?_
        (refine s_indexAddr El24 rfl rfl rfl ?hx ?_; case hx => (constructor <;> first | omega | (simp; omega)))
        refine D_qn ?_
        refine D_q rfl rfl ?_
        refine s_fieldAddr rfl rfl (FA27_0 _ _) ?_
        refine D_qn ?_
        refine D_q rfl rfl ?_
        first
          | refine s_load Try.isAgg4 rfl rfl (hs.cell (k := 0) rfl rfl) ?_
          | refine s_load Try.isAgg4 rfl rfl (hs.cell (k := 1) rfl rfl) ?_
          | refine s_load Try.isAgg4 rfl rfl (hs.cell (k := 2) rfl rfl) ?_
          | refine s_load Try.isAgg4 rfl rfl ((hs.cell (k := 0) rfl (cc 0 _ (by omega) rfl))) ?_
          | refine s_load Try.isAgg4 rfl rfl ((hs.cell (k := 0) rfl (cc 1 _ (by omega) rfl))) ?_
          | refine s_load Try.isAgg4 rfl rfl ((hs.cell (k := 0) rfl (cc 2 _ (by omega) rfl))) ?_
        refine D_qn ?_
        refine D_q rfl rfl ?_
        refine s_not rfl rfl ?_
        refine D_qn ?_
        refine D_q rfl rfl ?_
        refine s_move rfl rfl ?_
        refine WL_know (s := 68) (c := false) rfl (rfl) ?_
        refine D_qn ?_
        refine D_q rfl rfl ?_
        refine WL_skip rfl rfl rfl ?_
        refine D_qn ?_
        refine D_q rfl rfl ?_
        refine WL_skip rfl rfl rfl ?_
        refine D_qn ?_
        refine D_q rfl rfl ?_
        refine WL_skip rfl rfl rfl ?_
        refine D_qn ?_
        refine D_q rfl rfl ?_
        refine WL_skip rfl rfl rfl ?_
        refine D_qn ?_
        refine D_q rfl rfl ?_
        refine WL_skip rfl rfl rfl ?_
        refine D_qn ?_
        refine D_q rfl rfl ?_
        refine WL_skip rfl rfl rfl ?_
        refine D_qn ?_
        refine D_q rfl rfl ?_
        refine WL_skip rfl rfl rfl ?_
        refine D_qn ?_
        refine D_q rfl rfl ?_
        refine WL_skip rfl rfl rfl ?_
        refine D_qn ?_
        refine D_q rfl rfl ?_
        refine WL_skip rfl rfl rfl ?_
        refine D_qn ?_
        refine D_q rfl rfl ?_
        refine WL_skip rfl rfl rfl ?_
        refine D_qn ?_
        refine D_q rfl rfl ?_
        refine WL_skip rfl rfl rfl ?_
        refine D_qn ?_
        refine D_q rfl rfl ?_
        refine WL_skip rfl rfl rfl ?_
        refine D_qn ?_
        refine D_q rfl rfl ?_
        refine WL_skip rfl rfl rfl ?_
        refine D_qn ?_
        refine D_q rfl rfl ?_
        refine WL_skip rfl rfl rfl ?_
        refine D_qn ?_
        refine D_q rfl rfl ?_
        refine WL_skip rfl rfl rfl ?_
        refine D_qn ?_
        refine D_q rfl rfl ?_
        refine WL_skip rfl rfl rfl ?_
        refine D_qn ?_
        refine D_e rfl ?_
        refine WL_skip rfl rfl rfl ?_
        refine D_en ?re ?_
        case re =>
          refine Reks_cons rfl rfl rfl rfl ?_ ?_
          · skip
            refine WL_skip rfl rfl rfl ?_
            exact Rek_end rfl
          refine Reks_cons rfl rfl rfl rfl ?_ ?_
          · skip
            refine WL_skip rfl rfl rfl ?_
            exact Rek_end rfl
          refine Reks_cons rfl rfl rfl rfl ?_ ?_
          · skip
            refine WL_skip rfl rfl rfl ?_
            exact Rek_end rfl
          refine Reks_cons rfl rfl rfl rfl ?_ ?_
          · skip
            refine WL_skip rfl rfl rfl ?_
            exact Rek_end rfl
          refine Reks_cons rfl rfl rfl rfl ?_ ?_
          · skip
            refine WL_skip rfl rfl rfl ?_
            exact Rek_end rfl
          refine Reks_cons rfl rfl rfl rfl ?_ ?_
          · skip
            refine WL_skip rfl rfl rfl ?_
            exact Rek_end rfl
          refine Reks_cons rfl rfl rfl rfl ?_ ?_
          · skip
            refine WL_skip rfl rfl rfl ?_
            exact Rek_end rfl
          refine Reks_cons rfl rfl rfl rfl ?_ ?_
          · skip
            refine WL_skip rfl rfl rfl ?_
            exact Rek_end rfl
          refine Reks_cons rfl rfl rfl rfl ?_ ?_
          · skip
            refine WL_skip rfl rfl rfl ?_
            exact Rek_end rfl
          refine Reks_cons rfl rfl rfl rfl ?_ ?_
          · skip
            refine WL_skip rfl rfl rfl ?_
            exact Rek_end rfl
          exact Reks_nil
        refine D_e rfl ?_
        refine WL_skip rfl rfl rfl ?_
        refine D_en ?re ?_
        case re =>
          exact Reks_nil
        refine D_q rfl rfl ?_
        refine WL_skip rfl rfl rfl ?_
        refine D_qn ?_
        refine D_q rfl rfl ?_
        refine s_pick_f rfl rfl rfl ?_
        refine D_qn ?_
        refine D_nil ?_
        refine n_then ?_
        refine W_cond_f rfl ?_
        refine W_skip ?_
        refine n_blk ?_
        refine n_then ?_
        refine W_region ?_
        refine s_move rfl rfl ?_
        first | (refine s_add' rfl rfl rfl ?hx ?_; case hx => (constructor <;> first | omega | (simp only; omega))) | refine s_add rfl rfl rfl ?_
        refine s_assign rfl rfl ?_
        refine WL_nil ?_
        refine n_loop ?_
        exact ⟨(i + 1, LP2), ⟨rfl, rfl, rfl, rfl, trivial⟩, ⟨hs, by simp only; rw [htk2]; simpa [BO.bits, Nat.add_assoc] using hP, by simp only; omega⟩, by simp only; omega⟩
    · skip
      try simp only [decide_eq_true_eq, decide_eq_false_iff_not, beq_iff_eq, beq_eq_false_iff_ne, ne_eq, bne_iff_ne, bne_eq_false_iff_eq] at hc37
      rw [List.take_of_length_le (show os.length ≤ i by omega)] at hP
      replace hs : St [] w0 w (LP ++ LW) := hs.right
      refine W_exit ?_
      refine x_then ?_
      refine x_then ?_
      refine exit_hit ?_
      refine n_then ?_
      refine W_seq ?_
      refine W_region ?_
      refine s_move rfl rfl ?_
      refine s_callL (M := []) (L1 := LP) (X := LW) Try.call30 rfl rfl hs (fun h => rEnd_ok p _ _ _ _ w hP h) ?_
      clear hs; rintro v w L9 ⟨hL9, rfl⟩ - hs
      rw [hL9] at hs; clear hL9 L9
      rw [reV_end]
      simp only [List.nil_append] at hs
      refine s_eql rfl rfl rfl ?_
      refine s_move rfl rfl ?_
      refine WL_know (s := 92) (c := true) rfl (rfl) ?_
      refine WL_take rfl ?_
      refine s_move rfl rfl ?_
      refine WL_take rfl ?_
      refine s_callL (M := []) (L1 := LP) (X := LW) Try.call29 rfl rfl hs (fun h => rAt_ok p _ _ _ _ w hP h) ?_
      clear hs; rintro v w L9 ⟨hL9, rfl⟩ - hs
      rw [hL9] at hs; clear hL9 L9
      simp only [List.nil_append] at hs
      refine WL_take rfl ?_
      refine s_callL (M := LP) (L1 := LW) (X := []) Try.call16 rfl rfl (by simpa using hs) (fun h => wLen_ok b8 _ _ w hW h) ?_
      clear hs; rintro v w L9 ⟨hL9, rfl⟩ - hs
      rw [hL9] at hs; clear hL9 L9
      refine WL_take rfl ?_
      refine s_eql rfl rfl rfl ?_
      refine s_pick_t rfl rfl rfl ?_
      refine s_move rfl rfl ?_
      refine WL_know (s := 98) (c := true) rfl ((by simp)) ?_
      refine WL_take rfl ?_
      refine s_call Try.call20 rfl rfl (lives_ok w) ?_
      rintro r w ⟨hst, rfl⟩
      replace hs := hs.fwd1 hst
      clear hst
      refine s_pick_t rfl rfl rfl ?_
      refine s_assign rfl rfl ?_
      refine WL_nil ?_
      refine n_then ?_
      refine W_ret ?_
      exact end1 rfl rfl ⟨hs.fwd, rfl⟩
end Go.Proofs.Ytifegkpjbdgniaa
