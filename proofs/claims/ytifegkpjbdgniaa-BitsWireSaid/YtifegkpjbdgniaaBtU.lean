/- BitsHash and BitsWire. -/
import Derived.Test.YtifegkpjbdgniaaBtS
import Derived.Test.YtifegkpjbdgniaaWqR
import Derived.Test.YtifegkpjbdgniaaHash
set_option linter.unusedVariables false
set_option linter.unusedSimpArgs false
namespace Go.Proofs.Ytifegkpjbdgniaa
open Go.SL
theorem atBits_all (bs : List Bool) : AtBits bs bs 0 := ⟨[], by simp⟩
theorem rb_all (n : Nat) (c : Int) : rbV (pk (nb n (clampV c).toNat)) 0 0 c = (lowV n c, (nb n (clampV c).toNat).length, 0) := by
  rw [rbV_at (nb n (clampV c).toNat) 0 n c (Nat.zero_le _) (atBits_all _), nb_length, Nat.zero_add]
theorem rdRaw_last {bs : List Int} (h : bs.length < 18446744073709551616) : rdRaw ⟨uvar bs.length ++ bs, 0⟩ = (bs, ⟨[], 0⟩) := by
  have := rdRaw_uvar (r := []) h; simpa using this
set_option maxHeartbeats 4000000 in
theorem bitsHash_ok (m n : Nat) (cnt : Int) (s : ByteArray) (w0 : World) (hm : m < 18446744073709551616) (hn : n < 18446744073709551616) (hcnt : isI64 cnt) :
    Ret Try.prog 11 [.int .u64 (m : Int), .int .u64 (n : Int), .int .i64 cnt, .string s].toArray w0 fun r w' => Fwd [] w0 w' ∧ r = .bool true := by
  obtain ⟨mx, hmx⟩ := isMix
  refine Ret_start fun w hs => ?_
  refine Ret_of Try.func11 rfl Try.ntmps11 rfl ?_
  refine W_seq ?_
  refine W_region ?_
  refine s_assign rfl rfl ?_
  refine WL_nil ?_
  refine n_then ?_
  refine W_seq ?_
  refine W_region ?_
  refine s_move rfl rfl ?_
  refine s_call Try.call24 rfl rfl (around_ok cnt 65 w (by omega) hcnt) ?_
  rintro r w1 ⟨hw1, rfl⟩
  rw [hw1]; clear hw1 w1
  generalize aroundV cnt 65 = c
  obtain ⟨hcv, hc⟩ := clampV_nat c
  have hpo := pk_order [] m n (clampV c).toNat
  have hBm := pk_isB (nb m (clampV c).toNat)
  have hBn := pk_isB (nb n (clampV c).toNat)
  have hlm : (pk (nb m (clampV c).toNat)).length ≤ 8 := by rw [pk_length, nb_length]; omega
  have hln : (pk (nb n (clampV c).toNat)).length = (pk (nb m (clampV c).toNat)).length := by rw [pk_length, pk_length, nb_length, nb_length]
  have hrm := rb_all m c
  have hrn := rb_all n c
  have hem := reV_end (nb m (clampV c).toNat)
  have hen := reV_end (nb n (clampV c).toNat)
  simp only [List.nil_append] at hpo
  have hbl : ∀ k, (nb k (clampV c).toNat).length ≤ 64 := fun k => by rw [nb_length]; exact hc
  refine s_assign rfl rfl ?_
  refine WL_nil ?_
  refine n_then ?_
  refine W_seq ?_
  refine W_region ?_
  refine s_alloc rfl AL31 hs ?_; clear hs; intro b10 w hs
  refine WL_nil ?_
  refine n_then ?_
  refine W_seq ?_
  refine W_region ?_
  refine s_move rfl rfl ?_
  refine s_move rfl rfl ?_
  refine s_callL (M := []) (L1 := [_]) (X := []) Try.call33 rfl rfl hs (fun h => wBits_ok b10 [] m c _ w (wb_new b10) h hm (by simp)) ?_
  clear hs; rintro v w LX ⟨hX, rfl⟩ - hs
  simp only [List.nil_append, List.append_nil] at hs hX
  refine WL_nil ?_
  refine n_then ?_
  refine W_seq ?_
  refine W_region ?_
  refine s_alloc rfl AL31 hs ?_; clear hs; intro b11 w hs
  refine WL_nil ?_
  refine n_then ?_
  refine W_seq ?_
  refine W_region ?_
  refine s_move rfl rfl ?_
  refine s_move rfl rfl ?_
  refine s_callL (M := []) (L1 := [_]) (X := LX) Try.call33 rfl rfl hs (fun h => wBits_ok b11 [] n c _ w (wb_new b11) h hn (by simp)) ?_
  clear hs; rintro v w LY ⟨hY, rfl⟩ - hs
  simp only [List.nil_append] at hs hY
  have hbm := hbl m; have hbn := hbl n
  generalize nb m (clampV c).toNat = xm at *
  generalize nb n (clampV c).toNat = xn at *
  generalize hA : pk xm = A at *
  generalize hB : pk xn = B at *
  refine WL_nil ?_
  refine n_then ?_
  refine W_seq ?_
  refine W_region ?_
  refine s_alloc rfl AL63 hs ?_; clear hs; intro b12 w hs
  refine WL_nil ?_
  refine n_then ?_
  refine W_seq ?_
  refine W_region ?_
  refine s_callL (M := _ :: LY) (L1 := LX) (X := []) Try.call18 rfl rfl (by simpa using hs) (fun h => wDone_ok b10 _ _ w hX h (by omega)) ?_
  clear hs; rintro va w L9 ⟨La, rfl, hOa⟩ - hs
  rw [hA] at hOa
  simp only [List.append_nil, List.cons_append, List.append_assoc] at hs
  refine s_callL (M := []) (L1 := [_]) (X := LY ++ (LX ++ La)) Try.call40 rfl rfl hs (fun h => Wi.wRaw_ok b12 [] A _ _ w (Wi.wr_new b12) h (hOa.slM (M := _ :: (LY ++ LX)) (X := []) (by simpa using hs)) (fun a m c he hne h2 => (List.nodup_cons.1 hs.nodup).1 (by
    simp only [ids, List.mem_singleton] at h2
    rw [← h2, ids_append, ids_append]
    have := OwnS_in (he ▸ hOa) hne
    simp [this])) (by simp) (by omega)) ?_
  clear hs; rintro v w LW ⟨hW, rfl⟩ - hs
  simp only [List.nil_append] at hs hW
  replace hs : St [] w0 w (LW ++ LY) := by simpa [cat] using St.reord [LW, LY, LX, La] [0, 1] [2, 3] (by simpa [cat] using hs) rfl
  clear hOa
  refine WL_nil ?_
  refine n_then ?_
  refine W_seq ?_
  refine W_region ?_
  refine s_callL (M := LW) (L1 := LY) (X := []) Try.call18 rfl rfl (by simpa using hs) (fun h => wDone_ok b11 _ _ w hY h (by omega)) ?_
  clear hs; rintro vb w L9 ⟨Lb, rfl, hOb⟩ - hs
  rw [hB] at hOb
  simp only [List.append_nil] at hs
  have hul := uvar_len10 (n := A.length) (by omega)
  refine s_callL (M := []) (L1 := LW) (X := LY ++ Lb) Try.call40 rfl rfl hs (fun h => Wi.wRaw_ok b12 _ B _ _ w hW h (hOb.slM (M := LW ++ LY) (X := []) (by simpa using hs)) (fun a m c he hne => by
    have h1 := OwnS_in (he ▸ hOb) hne
    exact St_apart (M := []) (A := LW) (B := LY ++ Lb) hs (by rw [ids_append]; exact List.mem_append_right _ h1)) (by simp; omega) (by omega)) ?_
  clear hs hW; rintro v w LW ⟨hW, rfl⟩ - hs
  simp only [List.nil_append, List.append_assoc] at hs hW
  replace hs : St [] w0 w LW := hs.left
  have hul2 := uvar_len10 (n := B.length) (by omega)
  have hEB : ∀ z ∈ uvar A.length ++ (A ++ (uvar B.length ++ B)), isB z := by
    intro z hz
    simp only [List.mem_append] at hz
    rcases hz with h | h | h | h
    · exact uvar_isB _ z h
    · exact hBm z h
    · exact uvar_isB _ z h
    · exact hBn z h
  refine WL_nil ?_
  refine n_then ?_
  refine W_seq ?_
  refine W_region ?_
  refine s_callL (M := []) (L1 := LW) (X := []) Try.call39 rfl rfl (by simpa using hs) (fun h => Wi.wDone_ok b12 _ _ w hW h (by simp; omega)) ?_
  clear hs; rintro vw w L9 ⟨Lw, rfl, hOw⟩ - hs
  simp only [List.append_nil, List.nil_append] at hs
  refine s_call Try.call36 rfl rfl (Wi.read_ok _ _ w (hOw.slM (M := LW) (X := []) (by simpa using hs)) (by simp; omega) hEB) ?_
  rintro r w ⟨p, LR, rfl, hR, hst⟩
  replace hs := (St.back0 hs hst).left
  clear hst
  refine s_assign rfl rfl ?_
  refine WL_nil ?_
  refine n_then ?_
  refine W_seq ?_
  refine W_seq ?_
  refine W_region ?_
  refine s_move rfl rfl ?_
  refine s_eql_ptr_nil Try.underlying67 rfl rfl rfl ?_
  refine WL_nil ?_
  refine n_then ?_
  refine W_cond_kf rfl (rfl) ?_
  refine W_skip ?_
  refine n_then ?_
  refine W_seq ?_
  refine W_region ?_
  refine s_move rfl rfl ?_
  refine s_callL (M := []) (L1 := LR) (X := []) Try.call41 rfl rfl (by simpa using hs) (fun h => Wi.rRaw_ok p _ _ w hR h) ?_
  clear hs hR; rintro v w L9 ⟨LR, La, rfl, hR, hOa⟩ - hs
  rw [rdRaw_uvar (by omega)] at hR hOa
  simp only [List.append_nil, List.nil_append] at hs hR hOa
  obtain ⟨_, ac, aa, rfl, rfl⟩ := hOa.form
  refine s_assign rfl rfl ?_
  refine WL_nil ?_
  refine n_then ?_
  refine W_seq ?_
  refine W_region ?_
  refine s_move rfl rfl ?_
  refine s_callL (M := []) (L1 := LR) (X := La) Try.call41 rfl rfl hs (fun h => Wi.rRaw_ok p _ _ w hR h) ?_
  clear hs hR; rintro v w L9 ⟨LR, Lb, rfl, hR, hOb⟩ - hs
  rw [rdRaw_last (by omega)] at hR hOb
  simp only [List.append_nil, List.nil_append, List.append_assoc] at hs hR hOb
  obtain ⟨_, bc, ba, rfl, rfl⟩ := hOb.form
  refine s_assign rfl rfl ?_
  refine WL_nil ?_
  refine n_then ?_
  refine W_seq ?_
  refine W_region ?_
  refine s_move rfl rfl ?_
  refine s_call Try.call22 rfl rfl (bRead_ok _ A w (hOa.slM (M := LR ++ Lb) (X := []) (by simpa using hs)) (by omega) hBm) ?_
  rintro r w ⟨q1, LP, rfl, hP, hst⟩
  replace hs := St.back0 hs hst
  clear hst
  refine s_assign rfl rfl ?_
  refine WL_nil ?_
  refine n_then ?_
  refine W_seq ?_
  refine W_region ?_
  refine s_move rfl rfl ?_
  refine s_call Try.call22 rfl rfl (bRead_ok _ B w (hOb.slM (M := LP ++ LR) (X := La) (by simpa using hs)) (by omega) hBn) ?_
  rintro r w ⟨q2, LQ, rfl, hQ, hst⟩
  replace hs := St.back0 hs hst
  clear hst
  refine s_assign rfl rfl ?_
  refine WL_nil ?_
  refine n_then ?_
  refine W_seq ?_
  refine W_seq ?_
  refine W_region ?_
  refine s_move rfl rfl ?_
  refine s_eql_ptr_nil Try.underlying43 rfl rfl rfl ?_
  refine s_move rfl rfl ?_
  refine WL_know (s := 47) (c := false) rfl (rfl) ?_
  refine WL_take rfl ?_
  refine s_move rfl rfl ?_
  refine WL_take rfl ?_
  refine s_eql_ptr_nil Try.underlying43 rfl rfl rfl ?_
  refine s_pick_f rfl rfl rfl ?_
  refine WL_nil ?_
  refine n_then ?_
  refine W_cond_kf rfl (rfl) ?_
  refine W_skip ?_
  refine n_then ?_
  refine W_seq ?_
  refine W_region ?_
  refine s_move rfl rfl ?_
  refine s_move rfl rfl ?_
  refine s_callL (M := LQ) (L1 := LP) (X := LR ++ (Lb ++ La)) Try.call25 rfl rfl hs (fun h => rBits_ok q1 _ _ _ c _ w hP h) ?_
  clear hs hP; rintro v w LP ⟨hP, rfl⟩ - hs
  rw [hrm] at hP ⊢; simp only at hP ⊢
  refine s_assign rfl rfl ?_
  refine WL_nil ?_
  refine n_then ?_
  refine W_seq ?_
  refine W_region ?_
  refine s_move rfl rfl ?_
  refine s_move rfl rfl ?_
  refine s_callL (M := []) (L1 := LQ) (X := LP ++ (LR ++ (Lb ++ La))) Try.call25 rfl rfl hs (fun h => rBits_ok q2 _ _ _ c _ w hQ h) ?_
  clear hs hQ; rintro v w LQ ⟨hQ, rfl⟩ - hs
  rw [hrn] at hQ ⊢; simp only at hQ ⊢
  simp only [List.nil_append] at hs
  refine s_assign rfl rfl ?_
  refine WL_nil ?_
  refine n_then ?_
  refine W_seq ?_
  refine W_region ?_
  refine s_move rfl rfl ?_
  refine s_call Try.call42 rfl rfl (shortS_ok s 20 w) ?_
  rintro r w1 ⟨hw1, s', rfl, hsz⟩
  rw [hw1]; clear hw1 w1
  refine s_assign rfl rfl ?_
  refine WL_nil ?_
  refine n_then ?_
  refine W_seq ?_
  refine W_region ?_
  refine s_move rfl rfl ?_
  refine s_callL (M := LQ ++ LP) (L1 := LR) (X := Lb ++ La) Try.call38 rfl rfl (by simpa using hs) (fun h => Wi.rEnd_ok p _ _ w hR h) ?_
  clear hs; rintro v w L9 ⟨hL9, rfl⟩ - hs
  rw [hL9] at hs; clear hL9 L9
  simp only [List.append_assoc] at hs
  refine s_eql rfl rfl rfl ?_
  refine s_move rfl rfl ?_
  refine WL_know (s := 62) (c := true) rfl (rfl) ?_
  refine WL_take rfl ?_
  refine s_move rfl rfl ?_
  refine WL_take rfl ?_
  refine s_move rfl rfl ?_
  refine WL_take rfl ?_
  refine s_move rfl rfl ?_
  refine WL_take rfl ?_
  refine s_call Try.call32 rfl rfl (low_ok m c w hm) ?_
  rintro v w1 ⟨hw1, rfl⟩
  rw [hw1]; clear hw1 w1
  refine WL_take rfl ?_
  refine s_eql rfl rfl rfl ?_
  refine s_pick_t rfl rfl rfl ?_
  refine s_move rfl rfl ?_
  refine WL_know (s := 69) (c := true) rfl ((by simp)) ?_
  refine WL_take rfl ?_
  refine s_move rfl rfl ?_
  refine WL_take rfl ?_
  refine s_move rfl rfl ?_
  refine WL_take rfl ?_
  refine s_move rfl rfl ?_
  refine WL_take rfl ?_
  refine s_call Try.call32 rfl rfl (low_ok n c w hn) ?_
  rintro v w1 ⟨hw1, rfl⟩
  rw [hw1]; clear hw1 w1
  refine WL_take rfl ?_
  refine s_eql rfl rfl rfl ?_
  refine s_pick_t rfl rfl rfl ?_
  refine s_move rfl rfl ?_
  refine WL_know (s := 76) (c := true) rfl ((by simp)) ?_
  refine WL_take rfl ?_
  refine s_move rfl rfl ?_
  refine WL_take rfl ?_
  refine s_callL (M := LQ) (L1 := LP) (X := LR ++ (Lb ++ La)) Try.call30 rfl rfl hs (fun h => rEnd_ok q1 _ _ _ _ w hP h) ?_
  clear hs; rintro v w L9 ⟨hL9, rfl⟩ - hs
  rw [hL9] at hs; clear hL9 L9
  rw [hem]
  refine WL_take rfl ?_
  refine s_eql rfl rfl rfl ?_
  refine s_pick_t rfl rfl rfl ?_
  refine s_move rfl rfl ?_
  refine WL_know (s := 81) (c := true) rfl (rfl) ?_
  refine WL_take rfl ?_
  refine s_move rfl rfl ?_
  refine WL_take rfl ?_
  refine s_callL (M := []) (L1 := LQ) (X := LP ++ (LR ++ (Lb ++ La))) Try.call30 rfl rfl hs (fun h => rEnd_ok q2 _ _ _ _ w hQ h) ?_
  clear hs; rintro v w L9 ⟨hL9, rfl⟩ - hs
  rw [hL9] at hs; clear hL9 L9
  rw [hen]
  simp only [List.nil_append] at hs
  refine WL_take rfl ?_
  refine s_eql rfl rfl rfl ?_
  refine s_pick_t rfl rfl rfl ?_
  refine s_move rfl rfl ?_
  refine WL_know (s := 86) (c := true) rfl (rfl) ?_
  refine WL_take rfl ?_
  refine s_move rfl rfl ?_
  refine WL_take rfl ?_
  refine s_move rfl rfl ?_
  refine WL_take rfl ?_
  refine s_call Try.call43 rfl rfl (hBytes_ok hmx s' _ A w (hOa.slM (M := LQ ++ (LP ++ (LR ++ Lb))) (X := []) (by simpa using hs)) hBm (by omega) (by omega)) ?_
  rintro r w ⟨hst, rfl⟩
  replace hs := hs.fwd1 hst
  clear hst
  refine WL_take rfl ?_
  refine s_move rfl rfl ?_
  refine WL_take rfl ?_
  refine s_move rfl rfl ?_
  refine WL_take rfl ?_
  refine s_call Try.call43 rfl rfl (hBytes_ok hmx s' _ B w (hOb.slM (M := LQ ++ (LP ++ LR)) (X := La) (by simpa using hs)) hBn (by omega) (by omega)) ?_
  rintro r w ⟨hst, rfl⟩
  replace hs := hs.fwd1 hst
  clear hst
  refine WL_take rfl ?_
  refine s_eql rfl rfl rfl ?_
  refine WL_take rfl ?_
  refine s_move rfl rfl ?_
  refine WL_take rfl ?_
  refine s_move rfl rfl ?_
  refine WL_take rfl ?_
  refine s_eql rfl rfl rfl ?_
  refine WL_take rfl ?_
  refine s_eql_bool Try.underlying4 rfl rfl rfl ?_
  refine s_pick_t rfl rfl rfl ?_
  refine s_move rfl rfl ?_
  refine WL_know (s := 99) (c := true) rfl ((by
have hi := hashV_inj hmx (lab := bytesOf s') hBm hBn hln.symm hlm
unfold lowV
rw [beq_iff_eq, Bool.eq_iff_iff, beq_iff_eq, beq_iff_eq, Int.ofNat_inj, Int.ofNat_inj, hi]
exact hpo.2)) ?_
  refine WL_take rfl ?_
  refine s_call Try.call20 rfl rfl (lives_ok w) ?_
  rintro r w ⟨hst, rfl⟩
  replace hs := hs.fwd1 hst
  clear hst
  refine s_pick_t rfl rfl rfl ?_
  refine s_assign rfl rfl ?_
  refine WL_nil ?_
  refine n_then ?_
  refine W_ret ?_
  exact end1 rfl rfl ⟨hs.fwd, rfl⟩
end Go.Proofs.Ytifegkpjbdgniaa
