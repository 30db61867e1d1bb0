/- BitsPadding. -/
import Derived.Test.YtifegkpjbdgniaaBtG
set_option linter.unusedVariables false
set_option linter.unusedSimpArgs false
namespace Go.Proofs.Ytifegkpjbdgniaa
open Go.SL
theorem nb_zero (r : Nat) : nb 0 r = List.replicate r false := by
  induction r with
  | zero => rfl
  | succ r ih => rw [nb, ih, List.replicate_succ]; simp
theorem gb_zeros (bs : List Bool) (r i : Nat) : gb (bs ++ List.replicate r false) i = gb bs i := by
  unfold gb
  rcases Nat.lt_or_ge i bs.length with h | h
  · rw [List.getElem?_append_left h]
  · rw [List.getElem?_append_right h, List.getElem?_eq_none h]
    simp only [List.getElem?_replicate]; split <;> rfl
theorem pk_zeros (bs : List Bool) (r : Nat) (h : (bs.length + r + 7) / 8 = (bs.length + 7) / 8) : pk (bs ++ List.replicate r false) = pk bs := by
  unfold pk
  rw [List.length_append, List.length_replicate, h]
  congr 1
  funext j
  congr 1
  exact b8_congr fun i _ => gb_zeros bs r _
theorem pk_one (bs : List Bool) (h : (bs.length + 1 + 7) / 8 = (bs.length + 7) / 8) : pk (bs ++ [true]) ≠ pk bs := by
  intro he
  have hj : bs.length / 8 < (bs.length + 7) / 8 := by omega
  have h1 := congrArg (fun l => l[bs.length / 8]?) he
  simp only [pk, List.getElem?_map, List.length_append, List.length_singleton] at h1
  rw [List.getElem?_range (by omega), List.getElem?_range hj] at h1
  simp only [Option.map_some, Option.some.injEq, byteAt_snoc, if_true] at h1
  have h2 : 1 ≤ 128 / 2 ^ (bs.length % 8) := by
    have hc : bs.length % 8 = 0 ∨ bs.length % 8 = 1 ∨ bs.length % 8 = 2 ∨ bs.length % 8 = 3 ∨ bs.length % 8 = 4 ∨ bs.length % 8 = 5 ∨ bs.length % 8 = 6 ∨ bs.length % 8 = 7 := by omega
    rcases hc with h | h | h | h | h | h | h | h <;> rw [h] <;> decide
  simp only [Bool.toNat_true, Nat.one_mul] at h1
  omega
theorem BO.bits_len (o : BO) (h : o.ok) : o.bits.length ≤ 64 := by
  unfold BO.bits
  have hc := (clampV_nat o.c).2
  split
  · rename_i hu; have := h.u hu; simp; omega
  · rw [nb_length]; exact hc
/-! walk -/
theorem bcells_at {os : List BO} {i j : Nat} {o : BO} (hj : j < 3) (h : os[i]? = some o) : (bcells os)[i * 3 + j]? = o.cells[j]? := by
  induction os generalizing i with
  | nil => simp at h
  | cons x os ih =>
    cases i with
    | zero =>
      simp at h; subst h
      rw [Nat.zero_mul, Nat.zero_add]
      show (x.cells ++ bcells os)[j]? = _
      rw [List.getElem?_append_left (by simpa [BO.cells] using hj)]
    | succ i =>
      rw [show (i + 1) * 3 + j = 3 + (i * 3 + j) by omega]
      show (x.cells ++ bcells os)[_]? = _
      rw [List.getElem?_append_right (by simp [BO.cells]), show 3 + (i * 3 + j) - x.cells.length = i * 3 + j by simp [BO.cells]]
      exact ih (by simpa using h)
def obits (os : List BO) : List Bool := os.flatMap BO.bits
theorem obits_len (os : List BO) (h : ∀ o ∈ os, BO.ok o) : (obits os).length ≤ 64 * os.length := by
  induction os with
  | nil => simp [obits]
  | cons o os ih =>
    have h1 := o.bits_len (h o (by simp))
    have h2 := ih (fun x hx => h x (by simp [hx]))
    simp only [obits, List.flatMap_cons, List.length_append, List.length_cons] at h2 ⊢
    omega
theorem obits_take (os : List BO) (h : ∀ o ∈ os, BO.ok o) (hl : os.length ≤ 12) (i : Nat) : (obits (os.take i)).length ≤ 768 := by
  have h1 := obits_len (os.take i) (fun o ho => h o (List.mem_of_mem_take ho))
  have h2 : (os.take i).length ≤ 12 := by simp; omega
  omega
set_option maxHeartbeats 2000000 in
theorem bitsPadding_ok (v : Value) (xs : List Int) (kz : Int) (w0 : World) (hv : Sl w0 v xs.length (i64s xs)) (hx : ∀ z ∈ xs, isI64 z) (hk : isI64 kz) :
    Ret Try.prog 7 [v, .int .i64 kz].toArray w0 fun r w' => Fwd [] w0 w' ∧ r = .bool true := by
  refine Ret_start fun w hs => ?_
  refine Ret_of Try.func7 rfl Try.ntmps7 rfl ?_
  refine W_seq ?_
  refine W_region ?_
  refine s_assign rfl rfl ?_
  refine WL_nil ?_
  refine n_then ?_
  refine W_seq ?_
  refine W_region ?_
  refine s_move rfl rfl ?_
  refine s_call Try.call12 rfl rfl (ops_ok v xs w (hv.fwd0 hs.fwd) hx) ?_
  rintro r w ⟨os, Lo, hO, hst, hg, hol⟩
  replace hs := St.back0 hs hst
  simp only [List.append_nil] at hs
  clear hst
  obtain ⟨_, oc, oa, rfl, rfl⟩ := hO.form
  have hlen := obits_take os hg hol
  refine s_assign rfl rfl ?_
  refine WL_nil ?_
  refine n_then ?_
  refine W_seq ?_
  refine W_region ?_
  refine s_alloc rfl AL31 hs ?_; clear hs; intro b6 w hs
  refine WL_nil ?_
  refine n_then ?_
  refine W_seq ?_
  refine W_seq ?_
  refine W_region ?_
  refine s_assign rfl rfl ?_
  refine WL_nil ?_
  refine n_then ?_
  refine W_block ?_
  refine W_loop (σ := Nat × Hp) (fun s => [(1, .int .i64 kz), (5, .slice oa os.length oc), (6, .pointer (some ⟨b6, 0, none⟩)), (7, .int .i64 (s.1 : Int))]) (fun s w => St [] w0 w (s.2 ++ Lo) ∧ WbAt b6 (obits (os.take s.1)) s.2 ∧ s.1 ≤ os.length) (fun s => os.length - s.1) (0, [_]) ⟨rfl, rfl, rfl, rfl, trivial⟩ ⟨hs, wb_new b6, Nat.zero_le _⟩ ?_
  clear hs
  rintro ⟨i, LW⟩ w ⟨hs, hW, hil⟩
  simp only at hs hW hil ⊢
  have hl1 := hlen i
  refine W_seq ?_
  refine W_seq ?_
  refine W_region ?_
  refine s_move rfl rfl ?_
  refine s_move rfl rfl ?_
  refine s_len rfl rfl (LN24 _ _ _ _) ?_
  refine s_lss rfl rfl rfl ?_
  refine WL_nil ?_
  refine n_then ?_
  refine W_cond rfl (fun hc16 => ?_) (fun hc16 => ?_)
  · skip
    try simp only [decide_eq_true_eq, decide_eq_false_iff_not, beq_iff_eq, beq_eq_false_iff_ne, ne_eq, bne_iff_ne, bne_eq_false_iff_eq] at hc16
    have hix : i < os.length := by omega
    have hxi : os[i]? = some os[i] := List.getElem?_eq_getElem hix
    have hxm : os[i] ∈ os := List.getElem_mem hix
    have htk : obits (os.take (i + 1)) = obits (os.take i) ++ os[i].bits := by rw [List.take_succ_eq_append_getElem hix, obits, List.flatMap_append]; simp [obits]
    obtain ⟨g, cap, sp, hgv, hcap, rfl⟩ := hO.block (by omega)
    cases hgv
    have cc : ∀ j u, j < 3 → os[i].cells[j]? = some u → (bcells os ++ sp)[0 + (i : Int).toNat * 3 + j]? = some u := fun j u hj hu => by
      rw [Nat.zero_add, Int.toNat_natCast, List.getElem?_append_left (by rw [bcells_length]; omega), bcells_at hj hxi]; exact hu
    have hsw : St [] w0 w ((g, Blk 27 (bcells os ++ sp)) :: LW) := by simpa using hs.swap
    generalize os[i] = x at hxm cc htk
    have hxg := hg x hxm
    refine W_skip ?_
    refine n_then ?_
    refine W_seq ?_
    refine W_block ?_
    refine W_region ?_
    refine s_move rfl rfl ?_
    refine s_move rfl rfl ?_
    (refine s_indexAddr El24 rfl rfl rfl ?hx ?_; case hx => (constructor <;> first | omega | (simp; omega)))
    refine s_load_3 Try.isAgg27 Try.sizeOf27 rfl rfl (hsw.cell (k := 0) rfl (cc 0 _ (by omega) rfl)) (hsw.cell (k := 0) rfl (cc 1 _ (by omega) rfl)) (hsw.cell (k := 0) rfl (cc 2 _ (by omega) rfl)) ?_
    refine s_callL (M := []) (L1 := LW) (X := [_]) Try.call14 rfl rfl hs (fun h => write_ok b6 _ x hxg LW w hW h (by omega)) ?_
    clear hs hsw hW; rintro v w LW2 ⟨hW, rfl⟩ - hs
    simp only [List.nil_append] at hs
    refine WL_nil ?_
    refine n_blk ?_
    refine n_then ?_
    refine W_region ?_
    refine s_move rfl rfl ?_
    first | (refine s_add' rfl rfl rfl ?hx ?_; case hx => (constructor <;> first | omega | (simp only; omega))) | refine s_add rfl rfl rfl ?_
    refine s_assign rfl rfl ?_
    refine WL_nil ?_
    refine n_loop ?_
    exact ⟨(i + 1, LW2), ⟨rfl, rfl, rfl, rfl, trivial⟩, ⟨hs, by simp only; rw [htk]; exact hW, by simp only; omega⟩, by simp only; omega⟩
  · skip
    try simp only [decide_eq_true_eq, decide_eq_false_iff_not, beq_iff_eq, beq_eq_false_iff_ne, ne_eq, bne_iff_ne, bne_eq_false_iff_eq] at hc16
    generalize obits (os.take i) = bs at hW hl1
    have hpl := pk_length bs
    refine W_exit ?_
    refine x_then ?_
    refine x_then ?_
    refine exit_hit ?_
    refine n_then ?_
    refine W_seq ?_
    refine W_region ?_
    refine s_callL (M := []) (L1 := LW) (X := Lo) Try.call18 rfl rfl hs (fun h => wDone_ok b6 bs _ w hW h (by omega)) ?_
    clear hs; rintro v w L9 ⟨Lr, rfl, hOr⟩ - hs
    simp only [List.nil_append, List.append_assoc] at hs
    obtain ⟨_, rc, ra, rfl, rfl⟩ := hOr.form
    rw [hpl]
    refine s_assign rfl rfl ?_
    refine WL_nil ?_
    refine n_then ?_
    refine W_seq ?_
    refine W_region ?_
    refine s_callL (M := []) (L1 := LW) (X := Lr ++ Lo) Try.call16 rfl rfl hs (fun h => wLen_ok b6 bs _ w hW h) ?_
    clear hs; rintro v w L9 ⟨hL9, rfl⟩ - hs
    rw [hL9] at hs; clear hL9 L9
    simp only [List.nil_append] at hs
    refine s_assign rfl rfl ?_
    refine WL_nil ?_
    refine n_then ?_
    refine W_seq ?_
    refine W_seq ?_
    refine W_region ?_
    refine s_move rfl rfl ?_
    refine s_len rfl rfl (LN29 _ _ _ _) ?_
    refine s_move rfl rfl ?_
    first | (refine s_add' rfl rfl rfl ?hx ?_; case hx => (constructor <;> first | omega | (simp only; omega))) | refine s_add rfl rfl rfl ?_
    first | (refine s_quo' rfl rfl rfl ?hx ?_; case hx => (refine ⟨?_, ?_, ?_⟩ <;> omega)) | (refine s_quo rfl rfl rfl ?hx ?_; case hx => omega)
    refine s_neq rfl rfl rfl ?_
    refine WL_nil ?_
    refine n_then ?_
    refine W_cond_kf rfl ((by simp)) ?_
    refine W_skip ?_
    refine n_then ?_
    refine W_seq ?_
    refine W_region ?_
    refine s_move rfl rfl ?_
    refine s_len rfl rfl (LN29 _ _ _ _) ?_
    first | (refine s_mul' rfl rfl rfl ?hx ?_; case hx => (constructor <;> first | omega | (simp only; omega))) | refine s_mul rfl rfl rfl ?_
    refine s_move rfl rfl ?_
    first | (refine s_sub' rfl rfl rfl ?hx ?_; case hx => (constructor <;> first | omega | (simp only; omega))) | refine s_sub rfl rfl rfl ?_
    refine s_assign rfl rfl ?_
    refine WL_nil ?_
    refine n_then ?_
    refine W_seq ?_
    refine W_seq ?_
    refine W_region ?_
    refine s_move rfl rfl ?_
    refine s_eql rfl rfl rfl ?_
    refine WL_nil ?_
    refine n_then ?_
    refine W_cond rfl (fun hc38 => ?_) (fun hc38 => ?_)
    · skip
      try simp only [decide_eq_true_eq, decide_eq_false_iff_not, beq_iff_eq, beq_eq_false_iff_ne, ne_eq, bne_iff_ne, bne_eq_false_iff_eq] at hc38
      refine W_seq ?_
      refine W_region ?_
      refine s_callL (M := []) (L1 := LW) (X := Lr ++ Lo) Try.call33 rfl rfl hs (fun h => wBits_ok b6 bs 0 1 _ w hW h (by decide) (by omega)) ?_
      clear hs hW; rintro v w LW ⟨hW, rfl⟩ - hs
      rw [show nb 0 (clampV 1).toNat = [false] from by decide] at hW
      simp only [List.nil_append] at hs
      refine WL_nil ?_
      refine n_then ?_
      refine W_seq ?_
      refine W_region ?_
      refine s_callL (M := []) (L1 := LW) (X := Lr ++ Lo) Try.call18 rfl rfl hs (fun h => wDone_ok b6 _ _ w hW h (by simp; omega)) ?_
      clear hs; rintro v w L9 ⟨Lq, rfl, hOq⟩ - hs
      obtain ⟨_, qc, qa, rfl, rfl⟩ := hOq.form
      rw [pk_length]
      refine s_len rfl rfl (LN29 _ _ _ _) ?_
      refine s_move rfl rfl ?_
      refine s_len rfl rfl (LN29 _ _ _ _) ?_
      first | (refine s_add' rfl rfl rfl ?hx ?_; case hx => (constructor <;> first | omega | (simp only; omega))) | refine s_add rfl rfl rfl ?_
      refine s_eql rfl rfl rfl ?_
      refine s_move rfl rfl ?_
      refine WL_know (s := 46) (c := true) rfl ((by simp; omega)) ?_
      refine WL_take rfl ?_
      refine s_call Try.call20 rfl rfl (lives_ok w) ?_
      rintro r w ⟨hst, rfl⟩
      replace hs := hs.fwd1 hst
      clear hst
      refine s_pick_t rfl rfl rfl ?_
      refine s_assign rfl rfl ?_
      refine WL_nil ?_
      refine n_then ?_
      refine W_ret ?_
      refine r_then ?_
      exact end1 rfl rfl ⟨hs.fwd, rfl⟩
    · skip
      try simp only [decide_eq_true_eq, decide_eq_false_iff_not, beq_iff_eq, beq_eq_false_iff_ne, ne_eq, bne_iff_ne, bne_eq_false_iff_eq] at hc38
      refine W_skip ?_
      refine n_then ?_
      refine W_seq ?_
      refine W_region ?_
      refine s_move rfl rfl ?_
      refine s_move rfl rfl ?_
      refine s_call Try.call24 rfl rfl (around_ok kz (8 * ((((bs.length + 7) / 8 : Nat) : Int)) - (bs.length : Int)) w (by omega) hk) ?_
      rintro r w1 ⟨hw1, rfl⟩
      rw [hw1]; clear hw1 w1
      have har := aroundV_range (m := kz) (q := 8 * ((((bs.length + 7) / 8 : Nat) : Int)) - (bs.length : Int)) (by omega)
      generalize hcv : aroundV kz (8 * ((((bs.length + 7) / 8 : Nat) : Int)) - (bs.length : Int)) = cv at har
      obtain ⟨r, rfl⟩ : ∃ r : Nat, cv = r := ⟨cv.toNat, by omega⟩
      have hcr : (clampV (r : Int)).toNat = r := by unfold clampV; split <;> split at * <;> omega
      refine s_callL (M := []) (L1 := LW) (X := Lr ++ Lo) Try.call33 rfl rfl hs (fun h => wBits_ok b6 bs 0 (r : Int) _ w hW h (by decide) (by omega)) ?_
      clear hs hW; rintro v w LW ⟨hW, rfl⟩ - hs
      rw [hcr, nb_zero] at hW
      simp only [List.nil_append] at hs
      have hpz := pk_zeros bs r (by omega)
      have hzl : (bs ++ List.replicate r false).length = bs.length + r := by simp
      generalize bs ++ List.replicate r false = zs at hW hpz hzl
      refine WL_nil ?_
      refine n_then ?_
      refine W_seq ?_
      refine W_seq ?_
      refine W_region ?_
      refine s_callL (M := []) (L1 := LW) (X := Lr ++ Lo) Try.call18 rfl rfl hs (fun h => wDone_ok b6 zs _ w hW h (by omega)) ?_
      clear hs; rintro v w L9 ⟨Lq, rfl, hOq⟩ - hs
      rw [hpz] at hOq
      simp only [List.nil_append, List.append_assoc] at hs
      refine s_move rfl rfl ?_
      refine s_call Try.call17 rfl rfl (sameBytes_ok _ _ (pk bs) (pk bs) w (hOq.slM (M := LW) (X := Lr ++ Lo) hs) (by have h9 := hOr.slM (M := LW ++ Lq) (X := Lo) (by simpa using hs); rw [hpl] at h9 ⊢; exact h9) (by omega)) ?_
      rintro r w ⟨hst, rfl⟩
      replace hs := hs.fwd1 hst
      clear hst
      refine s_not rfl rfl ?_
      refine s_move rfl rfl ?_
      refine WL_know (s := 57) (c := false) rfl ((by simp)) ?_
      refine WL_take rfl ?_
      refine s_callL (M := []) (L1 := LW) (X := Lq ++ (Lr ++ Lo)) Try.call16 rfl rfl hs (fun h => wLen_ok b6 zs _ w hW h) ?_
      clear hs; rintro v w L9 ⟨hL9, rfl⟩ - hs
      rw [hL9] at hs; clear hL9 L9
      rw [hzl]
      simp only [List.nil_append] at hs
      refine WL_take rfl ?_
      refine s_move rfl rfl ?_
      refine WL_take rfl ?_
      refine s_move rfl rfl ?_
      refine WL_take rfl ?_
      refine s_move rfl rfl ?_
      refine WL_take rfl ?_
      refine s_call Try.call24 rfl rfl (around_ok kz (8 * ((((bs.length + 7) / 8 : Nat) : Int)) - (bs.length : Int)) w (by omega) hk) ?_
      rintro r9 w1 ⟨hw1, rfl⟩
      rw [hw1, hcv]; clear hw1 w1
      refine WL_take rfl ?_
      first | (refine s_add' rfl rfl rfl ?hx ?_; case hx => (constructor <;> first | omega | (simp only; omega))) | refine s_add rfl rfl rfl ?_
      refine WL_take rfl ?_
      refine s_neq rfl rfl rfl ?_
      refine s_pick_f rfl rfl rfl ?_
      refine WL_nil ?_
      refine n_then ?_
      refine W_cond_kf rfl ((by simp)) ?_
      refine W_skip ?_
      refine n_then ?_
      refine W_seq ?_
      refine W_region ?_
      refine s_callL (M := []) (L1 := LW) (X := Lq ++ (Lr ++ Lo)) Try.call33 rfl rfl hs (fun h => wBits_ok b6 zs 1 1 _ w hW h (by decide) (by omega)) ?_
      clear hs hW; rintro v w LW ⟨hW, rfl⟩ - hs
      rw [show nb 1 (clampV 1).toNat = [true] from by decide] at hW
      simp only [List.nil_append] at hs
      have hne := pk_one zs (by omega)
      rw [hpz] at hne
      have hol2 := pk_length (zs ++ [true])
      rw [List.length_append, List.length_singleton] at hol2
      refine WL_nil ?_
      refine n_then ?_
      refine W_seq ?_
      refine W_region ?_
      refine s_callL (M := []) (L1 := LW) (X := Lq ++ (Lr ++ Lo)) Try.call18 rfl rfl hs (fun h => wDone_ok b6 _ _ w hW h (by simp; omega)) ?_
      clear hs; rintro v w L9 ⟨Ls, rfl, hOs⟩ - hs
      obtain ⟨_, sc, sa, rfl, rfl⟩ := hOs.form
      simp only [List.nil_append, List.append_assoc] at hs
      refine s_len rfl rfl (LN29 _ _ _ _) ?_
      refine s_move rfl rfl ?_
      refine s_len rfl rfl (LN29 _ _ _ _) ?_
      refine s_eql rfl rfl rfl ?_
      refine s_move rfl rfl ?_
      refine WL_know (s := 72) (c := true) rfl ((by simp; omega)) ?_
      refine WL_take rfl ?_
      refine s_callL (M := []) (L1 := LW) (X := Ls ++ (Lq ++ (Lr ++ Lo))) Try.call18 rfl rfl hs (fun h => wDone_ok b6 _ _ w hW h (by simp; omega)) ?_
      clear hs; rintro v w L9 ⟨Lt, rfl, hOt⟩ - hs
      simp only [List.nil_append, List.append_assoc] at hs
      refine WL_take rfl ?_
      refine s_move rfl rfl ?_
      refine WL_take rfl ?_
      refine s_call Try.call17 rfl rfl (sameBytes_ok _ _ (pk (zs ++ [true])) (pk bs) w (hOt.slM (M := LW) (X := Ls ++ (Lq ++ (Lr ++ Lo))) hs) (by have h9 := hOr.slM (M := LW ++ (Lt ++ (Ls ++ Lq))) (X := Lo) (by simpa using hs); rw [hpl] at h9 ⊢; exact h9) (by omega)) ?_
      rintro r w ⟨hst, rfl⟩
      replace hs := hs.fwd1 hst
      clear hst
      refine WL_take rfl ?_
      refine s_not rfl rfl ?_
      refine s_pick_t rfl rfl rfl ?_
      refine s_move rfl rfl ?_
      refine WL_know (s := 78) (c := true) rfl ((by simp [hne])) ?_
      refine WL_take rfl ?_
      refine s_call Try.call20 rfl rfl (lives_ok w) ?_
      rintro r w ⟨hst, rfl⟩
      replace hs := hs.fwd1 hst
      clear hst
      refine s_pick_t rfl rfl rfl ?_
      refine s_assign rfl rfl ?_
      refine WL_nil ?_
      refine n_then ?_
      refine W_ret ?_
      exact end1 rfl rfl ⟨hs.fwd, rfl⟩
end Go.Proofs.Ytifegkpjbdgniaa
