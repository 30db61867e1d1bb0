/- The reference's Scan. -/
import Derived.Test.YtkappdlbpilghaaGreatWaI
set_option linter.unusedVariables false
set_option linter.unusedSimpArgs false
namespace Go.Proofs.YtkappdlbpilghaaGreat
open Go.SL
/-- records: their values and their bytes -/
abbrev Recs := List (Value × List Int)
def Recs.v (rs : Recs) : List Value := rs.map Prod.fst
def Recs.x (rs : Recs) : List (List Int) := rs.map Prod.snd
theorem Recs.v_snoc (rs : Recs) (u : Value) (x : List Int) : Recs.v (rs ++ [(u, x)]) = Recs.v rs ++ [u] := by simp [Recs.v]
theorem Recs.x_snoc (rs : Recs) (u : Value) (x : List Int) : Recs.x (rs ++ [(u, x)]) = Recs.x rs ++ [x] := by simp [Recs.x]
theorem Recs.x_length (rs : Recs) : (Recs.x rs).length = rs.length := by simp [Recs.x]
theorem Recs.v_length (rs : Recs) : (Recs.v rs).length = rs.length := by simp [Recs.v]
structure ScS where
  rs : Recs
  rest : List Int
  v : Value
  L : Hp
set_option maxHeartbeats 1000000 in
theorem fScan_ok {mx : Nat → Nat → Nat} (hmx : IsMix mx) (v : Value) (bs : List Int) (Ls : Hp) (w0 : World) (hv : RdS v bs.length (u8s bs) Ls) (hsrc : ∀ p ∈ Ls, w0.heap[p.1]? = some p.2) (hB : ∀ b ∈ bs, isB b) (hl : bs.length ≤ 1048576) :
    Ret Tryz.prog 26 [v].toArray w0 fun r w' => ∃ (rs : Recs) (u : Value) (Lu : Hp), r = .tuple #[u, .int .i64 ((framesV mx 0 rs.x).length : Int)] ∧ OwnS 39 1 u rs.length rs.v Lu ∧ St [] w0 w' Lu ∧ (∀ q ∈ rs, RdS q.1 q.2.length (u8s q.2) Ls) ∧ IsScan mx 0 bs rs.x := by
  obtain ⟨_, c, a, rfl, rfl⟩ := hv.form w0 hsrc
  refine Ret_start fun w hs => ?_
  refine Ret_of Tryz.func26 rfl Tryz.ntmps26 rfl ?_
  refine W_seq ?_
  refine W_region ?_
  refine s_assign rfl rfl ?_
  refine s_assign rfl rfl ?_
  refine WL_nil ?_
  refine n_then ?_
  refine W_seq ?_
  refine W_region ?_
  refine s_assign rfl rfl ?_
  refine WL_nil ?_
  refine n_then ?_
  refine W_seq ?_
  refine W_region ?_
  refine s_assign rfl rfl ?_
  refine WL_nil ?_
  refine n_then ?_
  refine W_seq ?_
  refine W_block ?_
  refine W_loop (σ := ScS) (fun s => [(0, .slice a bs.length c), (4, s.v), (5, .int .i64 ((framesV mx 0 s.rs.x).length : Int))]) (fun s w => St [] w0 w s.L ∧ OwnS 39 1 s.v s.rs.length s.rs.v s.L ∧ (∀ q ∈ s.rs, RdS q.1 q.2.length (u8s q.2) Ls) ∧ bs = framesV mx 0 s.rs.x ++ s.rest) (fun s => s.rest.length) ⟨[], bs, .slice none 0 0, []⟩ ⟨rfl, rfl, rfl, trivial⟩ ⟨hs, OwnS.nil _ _, by simp, rfl⟩ ?_
  clear hs
  rintro ⟨rs, rest, v, L⟩ w ⟨hs, hO, hrs, hbs⟩
  simp only at hs hO hrs hbs ⊢
  obtain ⟨_, tc, ta, rfl, rfl⟩ := hO.form
  have hbl := congrArg List.length hbs
  rw [List.length_append] at hbl
  have hcnt := framesV_cnt (mx := mx) (n := 0) (xs := rs.x)
  rw [Recs.x_length] at hcnt
  refine W_seq ?_
  refine W_seq ?_
  refine W_region ?_
  refine s_move rfl rfl ?_
  refine s_move rfl rfl ?_
  refine s_len rfl rfl (LN39 _ _ _ _) ?_
  refine s_lss rfl rfl rfl ?_
  refine WL_nil ?_
  refine n_then ?_
  refine W_cond rfl (fun hc11 => ?_) (fun hc11 => ?_)
  · skip
    try simp only [decide_eq_true_eq, decide_eq_false_iff_not] at hc11
    obtain ⟨b1, o1, hA1, -⟩ := (hv.sl w (src_old hs hsrc)).at (k := 0) (u := .int .u8 (bs.getD 0 0)) (by rw [List.getElem?_map]; cases bs with | nil => (simp only [List.length_nil] at *; omega) | cons z r => rfl)
    subst hA1
    have hvd := RdS_drop (k := (framesV mx 0 rs.x).length) hv rfl (by omega)
    rw [show bs.drop (framesV mx 0 rs.x).length = rest by conv => lhs; rw [hbs]; simp] at hvd
    rw [show bs.length - (framesV mx 0 rs.x).length = rest.length by omega] at hvd
    refine W_skip ?_
    refine n_then ?_
    refine W_block ?_
    refine W_seq ?_
    refine W_region ?_
    refine s_move rfl rfl ?_
    refine s_len rfl rfl (LN29 _ _ _ _) ?_
    refine s_move rfl rfl ?_
    refine s_move rfl rfl ?_
    (refine s_slice_lo El39 rfl rfl rfl ?hx ?_; case hx => (constructor <;> omega))
    refine s_call Tryz.call45 rfl rfl (fFirst_ok hmx rs.length _ rest Ls w (by rw [Int.toNat_natCast, show bs.length - (framesV mx 0 rs.x).length = rest.length by omega]; exact hvd) (src_old hs hsrc) (fun b hb => hB b (by rw [hbs]; exact List.mem_append_right _ hb)) (by omega) (by omega)) ?_
    rintro r w ⟨hst, h⟩
    replace hs := hs.fwd1 hst
    clear hst
    obtain ⟨u, x, q, rfl, hrq, hrd, hxB⟩ | ⟨rfl, hno⟩ := h
    · skip
      refine s_move rfl rfl ?_
      refine s_extract rfl rfl rfl ?_
      refine s_extract rfl rfl rfl ?_
      refine s_assign rfl rfl ?_
      refine s_assign rfl rfl ?_
      refine WL_nil ?_
      refine n_then ?_
      refine W_seq ?_
      refine W_seq ?_
      refine W_region ?_
      refine s_move rfl rfl ?_
      refine s_not rfl rfl ?_
      refine WL_nil ?_
      refine n_then ?_
      refine W_cond_kf rfl (rfl) ?_
      refine W_skip ?_
      refine n_then ?_
      refine W_seq ?_
      refine W_region ?_
      refine s_move rfl rfl ?_
      refine s_move rfl rfl ?_
      refine s_len rfl rfl (LN29 _ _ _ _) ?_
      refine s_move rfl rfl ?_
      have hxl : x.length ≤ 1048576 := by have := frame_len (mx := mx) (n := (rs.length : Int)) (x := x); rw [hrq] at hbl; simp only [List.length_append] at hbl; omega
      refine s_call Tryz.call37 rfl rfl (fFrame_ok hmx (rs.length : Int) _ x w (hrd.sl w (src_old hs hsrc)) (by unfold isI64; omega) hxB hxl) ?_
      rintro r w ⟨LF, hOF, hst⟩
      replace hs := (St.back0 hs hst).right
      clear hst
      obtain ⟨_, cF, aF, rfl, rfl⟩ := hOF.form
      have hfl : (frameV mx (rs.length : Int) x).length ≤ 1048576 := by rw [hrq] at hbl; simp only [List.length_append] at hbl; omega
      obtain ⟨_, cu, au, rfl, rfl⟩ := hrd.form w (src_old hs hsrc)
      refine s_len rfl rfl (LN39 _ _ _ _) ?_
      first | (refine s_add' rfl rfl rfl ?hx ?_; case hx => (constructor <;> first | omega | (simp only; omega))) | refine s_add rfl rfl rfl ?_
      refine s_assign rfl rfl ?_
      refine WL_nil ?_
      refine n_then ?_
      refine W_region ?_
      refine s_move rfl rfl ?_
      refine s_move rfl rfl ?_
      refine s_buildSlice rfl rfl (BS29_1 _ _ _) hs ?_; clear hs; intro b32 w hs
      refine s_appendM (M := [_]) (X := []) El29 rfl rfl rfl hO (by simpa using hs) (hs.sl (k := 0) (ds := [_]) rfl (Nat.le_refl _) (by intro j u hj; rw [Nat.zero_add]; exact hj)) rfl (by simp [Value.oneCell']) (by omega) ?_
      clear hs; intro v' w Lv' hO' hs
      simp only [List.cons_append, List.nil_append, List.append_nil] at hs
      refine s_assign rfl rfl ?_
      refine WL_nil ?_
      refine n_blk ?_
      refine n_loop ?_
      have hsn := framesV_snoc mx rs.x x 0
      rw [Recs.x_length, Nat.zero_add] at hsn
      refine ⟨⟨rs ++ [(.slice au x.length cu, x)], q, v', Lv'⟩, ⟨rfl, rfl, ?_, trivial⟩, ⟨hs.tail, ?_, ?_, ?_⟩, ?_⟩
      · simp only [Recs.x_snoc, hsn, List.length_append, Int.natCast_add]; rfl
      · simp only [Recs.v_snoc, List.length_append]; exact hO'
      · intro z hz
        rcases List.mem_append.1 hz with hz | hz
        · exact hrs z hz
        · rw [List.mem_singleton.1 hz]; exact hrd
      · simp only [Recs.x_snoc, hsn]; rw [hbs, hrq, List.append_assoc]
      · simp only; rw [hrq]; have := frame_len (mx := mx) (n := (rs.length : Int)) (x := x); simp only [List.length_append]; omega
    · skip
      refine s_move rfl rfl ?_
      refine s_extract rfl rfl rfl ?_
      refine s_extract rfl rfl rfl ?_
      refine s_assign rfl rfl ?_
      refine s_assign rfl rfl ?_
      refine WL_nil ?_
      refine n_then ?_
      refine W_seq ?_
      refine W_seq ?_
      refine W_region ?_
      refine s_move rfl rfl ?_
      refine s_not rfl rfl ?_
      refine WL_nil ?_
      refine n_then ?_
      refine W_cond_kt rfl (rfl) ?_
      refine W_exit ?_
      refine x_then ?_
      refine exit_miss rfl ?_
      refine x_then ?_
      refine exit_hit ?_
      refine n_then ?_
      refine W_seq ?_
      refine W_region ?_
      refine s_move rfl rfl ?_
      refine s_move rfl rfl ?_
      refine s_assign rfl rfl ?_
      refine s_assign rfl rfl ?_
      refine WL_nil ?_
      refine n_then ?_
      refine W_ret ?_
      refine end2 rfl rfl rfl ⟨rs, _, L, rfl, hO, hs, hrs, rest, hbs, ?_⟩
      rw [Nat.zero_add, Recs.x_length]
      first
        | exact hno
        | (rw [List.eq_nil_of_length_eq_zero (l := rest) (by omega)]; exact noFrame_nil _ _)
  · skip
    try simp only [decide_eq_true_eq, decide_eq_false_iff_not] at hc11
    refine W_exit ?_
    refine x_then ?_
    refine x_then ?_
    refine exit_hit ?_
    refine n_then ?_
    refine W_seq ?_
    refine W_region ?_
    refine s_move rfl rfl ?_
    refine s_move rfl rfl ?_
    refine s_assign rfl rfl ?_
    refine s_assign rfl rfl ?_
    refine WL_nil ?_
    refine n_then ?_
    refine W_ret ?_
    refine end2 rfl rfl rfl ⟨rs, _, L, rfl, hO, hs, hrs, rest, hbs, ?_⟩
    rw [Nat.zero_add, Recs.x_length]
    first
      | exact hno
      | (rw [List.eq_nil_of_length_eq_zero (l := rest) (by omega)]; exact noFrame_nil _ _)
end Go.Proofs.YtkappdlbpilghaaGreat
