/- WalDetects. -/
import Derived.Test.YtnepohadpdkfcaaWaQ
set_option linter.unusedVariables false
set_option linter.unusedSimpArgs false
namespace Go.Proofs.Ytnepohadpdkfcaa
open Go.SL
theorem xor_bit' {x : Int} {k : Nat} (hx : isB x) (hk : k < 8) : isB (IntKind.u8.wrap (((BitVec.ofInt IntKind.u8.bits x ^^^ BitVec.ofInt IntKind.u8.bits (IntKind.u8.wrap (1 * 2 ^ (min k IntKind.u8.bits)))).toNat : Nat) : Int)) ∧ IntKind.u8.wrap (((BitVec.ofInt IntKind.u8.bits x ^^^ BitVec.ofInt IntKind.u8.bits (IntKind.u8.wrap (1 * 2 ^ (min k IntKind.u8.bits)))).toNat : Nat) : Int) ≠ x := by
  unfold isB at hx
  have h := xor_bit ⟨x.toNat, by omega⟩ ⟨k, hk⟩
  simp only at h
  rw [show ((x.toNat : Nat) : Int) = x by omega] at h
  exact h
theorem scan_none {mx : Nat → Nat → Nat} {bs : List Int} (h : noFrame mx 0 bs) : IsScan mx 0 bs [] := ⟨bs, by simp [framesV], h⟩
theorem scan_one {mx : Nat → Nat → Nat} (x : List Int) : IsScan mx 0 (frameV mx ((0 : Nat) : Int) x) [x] := ⟨[], by simp [framesV], noFrame_nil _ _⟩
set_option maxHeartbeats 2000000 in
theorem walDetects_ok (vb : Value) (bs : List Int) (bit : Int) (w0 : World) (hb : Sl w0 vb bs.length (u8s bs)) (hbb : ∀ z ∈ bs, isB z) (hbit : isI64 bit) :
    Ret Try.prog 5 [vb, .int .i64 bit].toArray w0 fun r w' => Fwd [] w0 w' ∧ r = .bool true := by
  obtain ⟨mx, hmx⟩ := isMix
  obtain ⟨ow, how⟩ : ∃ ow, ow = bs.take 200 := ⟨_, rfl⟩
  have hol : ow.length = min bs.length 200 := by rw [how]; simp [Nat.min_comm]
  have hol2 : min bs.length 200 ≤ 200 := Nat.min_le_right _ _
  have howB : ∀ z ∈ ow, isB z := fun z hz => hbb z (List.mem_of_mem_take (by rw [← how]; exact hz))
  have h0I : isI64 0 := by unfold isI64; omega
  have hcl := coreV_len (n := 0) (x := ow) h0I (by omega)
  have hcB := coreV_isB (n := 0) howB
  have hfl := frame_len_le hmx (n := 0) (x := ow) h0I (by omega)
  have hfB := frameV_isB (mx := mx) (n := 0) howB
  have hhl := hashV_lt hmx (bytesOf sWal) (coreV 0 ow)
  have hul := uvar_len10 (n := (coreV 0 ow).length) (by omega)
  have hturn := fun i c => frame_turned hmx (x := ow) (n := 0) (i := i) (c := c) howB (by omega) (by omega)
  have hone := scan_one (mx := mx) ow
  have hpar := frame_parse hmx (n := 0) (x := ow) [] h0I (by omega)
  have hfal : (uvar (coreV 0 ow).length).length < (frameV mx 0 ow).length := by
    have h2 : 0 < (uvar (hashV mx (bytesOf sWal) (coreV 0 ow))).length := List.length_pos_iff.2 (uvar_ne _)
    rw [frameV]; simp only [List.length_append]; omega
  simp only [Int.natCast_zero] at hturn hone
  rw [List.append_nil] at hpar
  obtain ⟨hp1, hp2, -, -⟩ := hpar
  rw [List.append_nil] at hp1 hp2
  have hcl2 : (coreV 0 ow).length ≤ 220 := by omega
  have hwr : coreV 0 ow = uvar (zz 0) ++ (uvar ow.length ++ ow) := by rw [coreV, List.append_assoc]
  refine Ret_start fun w hs => ?_
  refine Ret_of Try.func5 rfl Try.ntmps5 rfl ?_
  refine W_seq ?_
  refine W_region ?_
  refine s_assign rfl rfl ?_
  refine WL_nil ?_
  refine n_then ?_
  refine W_seq ?_
  refine W_region ?_
  refine s_move rfl rfl ?_
  refine s_call Try.call6 rfl rfl (few_ok vb bs 200 w (hb.fwd0 hs.fwd) (by omega)) ?_
  rintro r w ⟨Lo, hOo, hst⟩
  replace hs := (St.back0 hs hst).left
  clear hst
  rw [← how, ← hol] at hOo
  obtain ⟨_, co, ao, rfl, hvo⟩ := hOo.form
  subst hvo
  refine s_assign rfl rfl ?_
  refine WL_nil ?_
  refine n_then ?_
  refine W_seq ?_
  refine W_region ?_
  refine s_move rfl rfl ?_
  refine s_call Try.call8 rfl rfl (frame_ok hmx 0 _ ow w (OwnS_slIn hOo fun p hp => hs.own p (by simp [hp])) h0I howB (by omega)) ?_
  rintro r w ⟨Lf, hOf, hst⟩
  replace hs := St.back0 hs hst
  clear hst
  generalize hfb : frameV mx 0 ow = fb at *
  obtain ⟨_, cf, af, rfl, hvf⟩ := hOf.form
  subst hvf
  refine s_assign rfl rfl ?_
  refine WL_nil ?_
  refine n_then ?_
  refine W_seq ?_
  refine W_region ?_
  refine s_alloc rfl AL37 hs ?_; clear hs; intro b7 w hs
  refine WL_nil ?_
  refine n_then ?_
  refine W_seq ?_
  refine W_region ?_
  refine s_callL (M := []) (L1 := [_]) (X := Lf ++ Lo) Try.call16 rfl rfl hs (fun h => wInt_ok b7 [] 0 _ w (wr_new b7) h h0I (by simp)) ?_
  clear hs; rintro u w LW ⟨hW, rfl⟩ - hs
  simp only [List.nil_append] at hs hW
  refine WL_nil ?_
  refine n_then ?_
  refine W_seq ?_
  refine W_region ?_
  refine s_move rfl rfl ?_
  refine s_callL (M := []) (L1 := LW) (X := Lf ++ Lo) Try.call17 rfl rfl hs (fun h => wRaw_ok b7 _ ow _ LW w hW h (OwnS_slIn hOo fun p hp => hs.own p (by simp [hp])) (fun a m c he hne => by cases he; exact St.apartX (M := []) (L := LW) (X := Lf ++ Lo) hs (by rw [ids_append]; exact List.mem_append_right _ (OwnS_in hOo hne))) (by have := uvar_len10 (zz_lt h0I); omega) (by omega)) ?_
  clear hs hW; rintro u w LW ⟨hW, rfl⟩ - hs
  simp only [List.nil_append] at hs
  replace hW : WrAt b7 (coreV 0 ow) LW := hW
  refine WL_nil ?_
  refine n_then ?_
  refine W_seq ?_
  refine W_region ?_
  refine s_callL (M := []) (L1 := LW) (X := Lf ++ Lo) Try.call18 rfl rfl hs (fun h => wDone_ok b7 (coreV 0 ow) LW w hW h (by omega)) ?_
  clear hs; rintro u w L9 ⟨Lc, rfl, hOc⟩ - hs
  simp only [List.nil_append, List.append_assoc] at hs
  replace hs := hs.right
  clear hW
  generalize hC : coreV 0 ow = C at *
  obtain ⟨_, cc, ac, rfl, hvc⟩ := hOc.form
  subst hvc
  refine s_assign rfl rfl ?_
  refine WL_nil ?_
  refine n_then ?_
  refine W_seq ?_
  refine W_region ?_
  refine s_alloc rfl AL37 hs ?_; clear hs; intro b9 w hs
  refine WL_nil ?_
  refine n_then ?_
  refine W_seq ?_
  refine W_region ?_
  refine s_move rfl rfl ?_
  refine s_len rfl rfl (LN23 _ _ _ _) ?_
  refine s_convert rfl rfl (CV3_42 _) ?_
  rw [show IntKind.u64.wrap (C.length : Int) = (C.length : Int) from u64w (by omega)]
  refine s_callL (M := []) (L1 := [_]) (X := Lc ++ (Lf ++ Lo)) Try.call19 rfl rfl hs (fun h => wUint_ok b9 [] C.length _ w (wr_new b9) h (by omega) (by simp)) ?_
  clear hs; rintro u w LW ⟨hW, rfl⟩ - hs
  simp only [List.nil_append] at hs hW
  refine WL_nil ?_
  refine n_then ?_
  refine W_seq ?_
  refine W_region ?_
  refine s_callL (M := []) (L1 := LW) (X := Lc ++ (Lf ++ Lo)) Try.call18 rfl rfl hs (fun h => wDone_ok b9 _ LW w hW h (by omega)) ?_
  clear hs; rintro u w L9 ⟨Ld, rfl, hOd⟩ - hs
  simp only [List.nil_append, List.append_assoc] at hs
  obtain ⟨_, cd, ad, rfl, hvd⟩ := hOd.form
  subst hvd
  replace hs : St [] w0 w (LW ++ (Lc ++ (Lf ++ Lo))) := by simpa [cat] using St.reord [LW, Ld, Lc, Lf, Lo] [0, 2, 3, 4] [1] (by simpa [cat] using hs) rfl
  clear hOd
  refine s_len rfl rfl (LN23 _ _ _ _) ?_
  refine s_assign rfl rfl ?_
  refine WL_nil ?_
  refine n_then ?_
  refine W_seq ?_
  refine W_region ?_
  refine s_move rfl rfl ?_
  refine s_callL (M := []) (L1 := LW) (X := Lc ++ (Lf ++ Lo)) Try.call17 rfl rfl hs (fun h => wRaw_ok b9 _ C _ LW w hW h (OwnS_slIn hOc fun p hp => hs.own p (by simp [hp])) (fun a m c he hne => by cases he; exact St.apartX (M := []) (L := LW) (X := Lc ++ (Lf ++ Lo)) hs (by rw [ids_append]; exact List.mem_append_left _ (OwnS_in hOc hne))) (by omega) (by omega)) ?_
  clear hs hW; rintro u w LW ⟨hW, rfl⟩ - hs
  simp only [List.nil_append] at hs
  replace hs := hs.right
  clear hW hOo
  generalize hA : (uvar C.length).length = A at *
  refine WL_nil ?_
  refine n_then ?_
  refine W_seq ?_
  refine W_seq ?_
  refine W_region ?_
  refine s_move rfl rfl ?_
  refine s_len rfl rfl (LN23 _ _ _ _) ?_
  refine s_move rfl rfl ?_
  refine s_leq rfl rfl rfl ?_
  refine WL_nil ?_
  refine n_then ?_
  refine W_cond_kf rfl ((by simp; omega)) ?_
  refine W_skip ?_
  refine n_then ?_
  refine W_seq ?_
  refine W_region ?_
  refine s_move rfl rfl ?_
  refine s_move rfl rfl ?_
  refine s_len rfl rfl (LN23 _ _ _ _) ?_
  refine s_move rfl rfl ?_
  first | (refine s_sub' rfl rfl rfl ?hx ?_; case hx => (constructor <;> first | omega | (simp only; omega))) | refine s_sub rfl rfl rfl ?_
  first | (refine s_mul' rfl rfl rfl ?hx ?_; case hx => (constructor <;> first | omega | (simp only; omega))) | refine s_mul rfl rfl rfl ?_
  have hra := aroundV_range (m := bit) (q := 8 * ((fb.length : Int) - (A : Int))) (by omega)
  refine s_call Try.call15 rfl rfl (around_ok bit (8 * ((fb.length : Int) - (A : Int))) _ (by omega) hbit) ?_
  rintro r w ⟨rfl, rfl⟩
  generalize hat : aroundV bit (8 * ((fb.length : Int) - (A : Int))) = at_ at hra
  refine s_assign rfl rfl ?_
  refine WL_nil ?_
  refine n_then ?_
  refine W_seq ?_
  refine W_region ?_
  refine s_move rfl rfl ?_
  refine s_move rfl rfl ?_
  refine s_len rfl rfl (LN23 _ _ _ _) ?_
  refine s_call Try.call6 rfl rfl (few_ok _ fb fb.length w (OwnS_slIn hOf fun p hp => hs.own p (by simp [hp])) (by omega)) ?_
  rintro r w ⟨Lt, hOt, hst⟩
  replace hs := St.back0 hs hst
  clear hst
  rw [Nat.min_self, List.take_of_length_le (Nat.le_refl _)] at hOt
  obtain ⟨g, cap, sp, rfl, hcap, rfl⟩ := hOt.block (by omega)
  obtain ⟨ix, hix⟩ : ∃ ix : Nat, (ix : Int) = (A : Int) + at_ / 8 := ⟨((A : Int) + at_ / 8).toNat, by omega⟩
  have hixl : ix < fb.length := by omega
  obtain ⟨z, hz⟩ : ∃ z, fb[ix]? = some z := ⟨_, List.getElem?_eq_getElem hixl⟩
  have hzB : isB z := hfB z (List.mem_of_getElem? hz)
  have hxor := xor_bit' (x := z) (k := (at_ % 8).toNat) hzB (by omega)
  generalize hzn : IntKind.u8.wrap (((BitVec.ofInt IntKind.u8.bits z ^^^ BitVec.ofInt IntKind.u8.bits (IntKind.u8.wrap (1 * 2 ^ (min (at_ % 8).toNat IntKind.u8.bits)))).toNat : Nat) : Int) = zn at hxor
  simp only [List.cons_append, List.nil_append] at hs
  refine s_assign rfl rfl ?_
  refine WL_nil ?_
  refine n_then ?_
  refine W_seq ?_
  refine W_region ?_
  refine s_move rfl rfl ?_
  refine s_move rfl rfl ?_
  refine s_move rfl rfl ?_
  first | (refine s_quo' rfl rfl rfl ?hx ?_; case hx => (refine ⟨?_, ?_, ?_⟩ <;> omega)) | (refine s_quo rfl rfl rfl ?hx ?_; case hx => omega)
  (refine s_add' rfl rfl rfl ?hx ?_; case hx => (constructor <;> omega))
  rw [← hix]
  refine s_move rfl rfl ?_
  refine s_move rfl rfl ?_
  refine s_move rfl rfl ?_
  first | (refine s_quo' rfl rfl rfl ?hx ?_; case hx => (refine ⟨?_, ?_, ?_⟩ <;> omega)) | (refine s_quo rfl rfl rfl ?hx ?_; case hx => omega)
  (refine s_add' rfl rfl rfl ?hx ?_; case hx => (constructor <;> omega))
  rw [← hix]
  (refine s_indexAddr1 El23 rfl rfl rfl ?hx ?_; case hx => (constructor <;> first | omega | (simp; omega)))
  refine s_load Try.isAgg5 rfl rfl (hs.cell (k := 0) (fz := (0, 0)) rfl (v := .int .u8 z) (by rw [Nat.zero_add, Int.toNat_natCast, List.getElem?_append_left (by simpa using hixl), List.getElem?_map, hz]; rfl)) ?_
  refine s_move rfl rfl ?_
  first | (refine s_rem' rfl rfl rfl ?hx ?_; case hx => (refine ⟨?_, ?_⟩ <;> omega)) | (refine s_rem rfl rfl rfl ?hx ?_; case hx => omega)
  refine s_convert rfl rfl (CV3_43 _) ?_
  rw [show IntKind.u64.wrap (at_ % 8) = at_ % 8 from by rw [wrapU64]; omega]
  (refine s_shl rfl rfl rfl ?hx ?_; case hx => omega)
  refine s_xor rfl rfl rfl ?_
  rw [hzn]
  (refine s_indexAddr1 El23 rfl rfl rfl ?hx ?_; case hx => (constructor <;> first | omega | (simp; omega)))
  refine s_store Try.sizeOf5 rfl rfl rfl hs (kk := 0) rfl (by simp; omega) ?_
  clear hs; intro w hs
  simp only [List.set_cons_zero, Nat.zero_add, Int.toNat_natCast] at hs
  rw [List.set_append_left _ _ (by simp; omega), ← List.map_set] at hs
  have hno := hturn ix zn hxor.1 (by omega) hixl (by rw [hz]; intro h; exact hxor.2 (Option.some.inj h).symm)
  have hsc0 := scan_none hno
  have hBt : ∀ b ∈ fb.set ix zn, isB b := by
    intro b hm
    rcases List.mem_or_eq_of_mem_set hm with hm | rfl
    · exact hfB b hm
    · exact hxor.1
  have hlt : (fb.set ix zn).length = fb.length := List.length_set
  clear hno hOt
  refine WL_nil ?_
  refine n_then ?_
  refine W_seq ?_
  refine W_region ?_
  refine s_move rfl rfl ?_
  refine s_call Try.call11 rfl rfl (scan_ok hmx _ (fb.set ix zn) w (by rw [hlt]; exact hs.sl (k := 0) rfl hcap (by intro j u hj; rw [Nat.zero_add, List.getElem?_append_left (List.getElem?_eq_some_iff.1 hj).1]; exact hj)) hBt (by omega)) ?_
  rintro r w ⟨rs, u, Lu, Lx, rfl, hOu, hst, hrs, hsc⟩
  have hxs := scan_unique hmx (by omega) hsc hsc0
  replace hs := (St.back0 hs hst).right.tail
  clear hst hsc hrs
  have hrl : rs.length = 0 := by rw [← Recs.x_length, hxs]; rfl
  rw [hxs]
  obtain ⟨_, cu, au, rfl, hvu⟩ := hOu.form
  subst hvu
  clear hOu
  refine s_move rfl rfl ?_
  refine s_extract rfl rfl rfl ?_
  refine s_extract rfl rfl rfl ?_
  refine s_assign rfl rfl ?_
  refine s_assign rfl rfl ?_
  refine WL_nil ?_
  refine n_then ?_
  refine W_seq ?_
  refine W_region ?_
  refine s_move rfl rfl ?_
  refine s_call Try.call11 rfl rfl (scan_ok hmx _ fb w (OwnS_slIn hOf fun p hp => hs.own p (by simp [hp])) hfB (by omega)) ?_
  rintro r w ⟨rs1, u, Lu1, Lx1, rfl, hOu1, hst, hrs1, hsc⟩
  have hxs1 := scan_unique hmx (by omega) hsc hone
  replace hs := (St.back0 hs hst).right
  clear hst hsc hrs1
  have hrl1 : rs1.length = 1 := by rw [← Recs.x_length, hxs1]; rfl
  have hfl1 : (framesV mx 0 [ow]).length = fb.length := by simp [framesV, hfb]
  rw [hxs1, hfl1]
  obtain ⟨_, cu1, au1, rfl, hvu1⟩ := hOu1.form
  subst hvu1
  clear hOu1
  refine s_move rfl rfl ?_
  refine s_extract rfl rfl rfl ?_
  refine s_extract rfl rfl rfl ?_
  refine s_assign rfl rfl ?_
  refine s_assign rfl rfl ?_
  refine WL_nil ?_
  refine n_then ?_
  refine W_seq ?_
  refine W_region ?_
  refine s_move rfl rfl ?_
  refine s_call Try.call20 rfl rfl (read_ok _ fb w (OwnS_slIn hOf fun p hp => hs.own p (by simp [hp])) (by omega) hfB) ?_
  rintro r w ⟨p, LO, rfl, hR, hst⟩
  replace hs := St.back0 hs hst
  clear hst
  refine s_assign rfl rfl ?_
  refine WL_nil ?_
  refine n_then ?_
  refine W_seq ?_
  refine W_seq ?_
  refine W_region ?_
  refine s_move rfl rfl ?_
  refine s_eql_ptr_nil Try.underlying44 rfl rfl rfl ?_
  refine WL_nil ?_
  refine n_then ?_
  refine W_cond_kf rfl (rfl) ?_
  refine W_skip ?_
  refine n_then ?_
  refine W_seq ?_
  refine W_region ?_
  refine s_move rfl rfl ?_
  refine s_callL (M := []) (L1 := LO) (X := Lc ++ (Lf ++ Lo)) Try.call21 rfl rfl hs (fun h => rRaw_ok p ⟨fb, 0⟩ LO w hR h) ?_
  clear hs hR; rintro v1 w L1 ⟨LR, Li, rfl, hR, hOi⟩ - hs
  rw [hp1] at hR hOi
  simp only [List.nil_append, List.append_assoc] at hs hR hOi
  refine s_assign rfl rfl ?_
  refine WL_nil ?_
  refine n_then ?_
  refine W_seq ?_
  refine W_region ?_
  refine s_move rfl rfl ?_
  refine s_callL (M := []) (L1 := LR) (X := Li ++ (Lc ++ (Lf ++ Lo))) Try.call22 rfl rfl hs (fun h => rUint_ok p _ LR w hR h) ?_
  clear hs hR; rintro v2 w LU ⟨hR, rfl⟩ - hs
  rw [hp2] at hR ⊢
  simp only [List.nil_append] at hs hR
  refine s_assign rfl rfl ?_
  refine WL_nil ?_
  refine n_then ?_
  refine W_seq ?_
  refine W_region ?_
  refine s_move rfl rfl ?_
  refine s_len rfl rfl (LN27 _ _ _ _) ?_
  refine s_eql rfl rfl rfl ?_
  refine s_move rfl rfl ?_
  refine WL_know (s := 90) (c := true) rfl ((by simp [hrl])) ?_
  refine WL_take rfl ?_
  refine s_move rfl rfl ?_
  refine WL_take rfl ?_
  refine s_eql rfl rfl rfl ?_
  refine s_pick_t rfl rfl rfl ?_
  refine s_move rfl rfl ?_
  refine WL_know (s := 94) (c := true) rfl ((by simp [framesV])) ?_
  refine WL_take rfl ?_
  refine s_move rfl rfl ?_
  refine WL_take rfl ?_
  refine s_len rfl rfl (LN27 _ _ _ _) ?_
  refine WL_take rfl ?_
  refine s_eql rfl rfl rfl ?_
  refine s_pick_t rfl rfl rfl ?_
  refine s_move rfl rfl ?_
  refine WL_know (s := 99) (c := true) rfl ((by simp [hrl1])) ?_
  refine WL_take rfl ?_
  refine s_move rfl rfl ?_
  refine WL_take rfl ?_
  refine s_move rfl rfl ?_
  refine WL_take rfl ?_
  refine s_len rfl rfl (LN23 _ _ _ _) ?_
  refine WL_take rfl ?_
  refine s_eql rfl rfl rfl ?_
  refine s_pick_t rfl rfl rfl ?_
  refine s_move rfl rfl ?_
  refine WL_know (s := 105) (c := true) rfl ((by simp)) ?_
  refine WL_take rfl ?_
  refine s_move rfl rfl ?_
  refine WL_take rfl ?_
  refine s_callL (M := []) (L1 := LU) (X := Li ++ (Lc ++ (Lf ++ Lo))) Try.call23 rfl rfl hs (fun h => rEnd_ok p _ LU w hR h) ?_
  clear hs; rintro v2 w L9 ⟨hL9, rfl⟩ - hs
  rw [hL9] at hs; clear hL9 L9
  simp only [List.nil_append] at hs
  refine WL_take rfl ?_
  refine s_eql rfl rfl rfl ?_
  refine s_pick_t rfl rfl rfl ?_
  refine s_move rfl rfl ?_
  refine WL_know (s := 110) (c := true) rfl ((by simp [rdEnd])) ?_
  refine WL_take rfl ?_
  refine s_move rfl rfl ?_
  refine WL_take rfl ?_
  refine s_move rfl rfl ?_
  refine WL_take rfl ?_
  refine s_call Try.call7 rfl rfl (sameBytes_ok _ _ C C w (OwnS_slIn hOi fun p hp => hs.own p (by simp [hp])) (OwnS_slIn hOc fun p hp => hs.own p (by simp [hp])) (by omega)) ?_
  rintro r w ⟨hst, rfl⟩
  replace hs := hs.fwd1 hst
  clear hst
  refine s_pick_t rfl rfl rfl ?_
  refine s_move rfl rfl ?_
  refine WL_know (s := 115) (c := true) rfl ((by simp)) ?_
  refine WL_take rfl ?_
  refine s_move rfl rfl ?_
  refine WL_take rfl ?_
  refine s_move rfl rfl ?_
  refine WL_take rfl ?_
  refine s_call Try.call24 rfl rfl (hBytes_ok hmx sWal _ C w (OwnS_slIn hOc fun p hp => hs.own p (by simp [hp])) hcB (by decide +kernel) (by omega)) ?_
  rintro r w ⟨hst, rfl⟩
  replace hs := hs.fwd1 hst
  clear hst
  refine WL_take rfl ?_
  refine s_eql rfl rfl rfl ?_
  refine s_pick_t rfl rfl rfl ?_
  refine s_move rfl rfl ?_
  refine WL_know (s := 121) (c := true) rfl ((by simp)) ?_
  refine WL_take rfl ?_
  refine s_call Try.call14 rfl rfl (lives_ok w) ?_
  rintro r w ⟨hst, rfl⟩
  replace hs := hs.fwd1 hst
  clear hst
  refine s_pick_t rfl rfl rfl ?_
  refine s_assign rfl rfl ?_
  refine WL_nil ?_
  refine n_then ?_
  refine W_ret ?_
  exact end1 rfl rfl ⟨hs.fwd, rfl⟩
end Go.Proofs.Ytnepohadpdkfcaa
