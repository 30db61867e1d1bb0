/- LeaseGrants. -/
import Derived.Test.YtlchcfegfonnmaaLeaD
set_option linter.unusedVariables false
set_option linter.unusedSimpArgs false
namespace Go.Proofs.Ytlchcfegfonnmaa
open Go.SL
abbrev rS : ByteArray := ⟨#[114]⟩
theorem rS_name : nameP rS := by decide +kernel
/-- the table in round i + 1 -/
def GInv (f : ByteArray → Option Lz) (a at_ n : Int) (i : Nat) : Prop := tokN f rS = i ∧ ∀ y, f rS = some y → y = ⟨rS, a, i, at_ + n⟩
section
variable {f : ByteArray → Option Lz} {a b at_ n : Int} {i : Nat}
theorem g_grant (hG : GInv f a at_ n i) (ha : 0 ≤ a ∧ a < 3) (ht : 0 ≤ at_ ∧ at_ < 1000000) (hn : 1 ≤ n ∧ n ≤ 4096) (hi : i < 5) : grantX f rS a at_ n = ⟨rS, a, i + 1, at_ + n⟩ ∧ grantE f rS a at_ n = 0 := by
  have hX : grantX f rS a at_ n = ⟨rS, a, i + 1, at_ + n⟩ := by rw [grantX, hG.1]
  refine ⟨hX, ?_⟩
  have hv : validP true ⟨rS, a, i + 1, at_ + n⟩ 0 := ⟨rS_name, ha, by simp only; omega, by simp only; omega, by omega, .inr rfl⟩
  rw [grantE, if_neg (by omega), hX, if_neg (by simpa using hv)]
  cases h : f rS with
  | none => rfl
  | some y => simp only; rw [if_neg (by rw [hG.2 y h]; simp)]
theorem g_apply (hG : GInv f a at_ n i) (ha : 0 ≤ a ∧ a < 3) (ht : 0 ≤ at_ ∧ at_ < 1000000) (hn : 1 ≤ n ∧ n ≤ 4096) (hi : i < 5) : applyE f true ⟨rS, a, i + 1, at_ + n⟩ 0 at_ = 0 := by
  have hv : validP true ⟨rS, a, i + 1, at_ + n⟩ 0 := ⟨rS_name, ha, by simp only; omega, by simp only; omega, by omega, .inr rfl⟩
  cases h : f rS with
  | none => exact applyE_g0n hv (by omega) rfl (by simp only; omega) h
  | some y => refine applyE_g0 hv (by omega) rfl (by simp only; omega) h ?_; rw [hG.2 y h]; simp; omega
theorem g_at (h : applyE f true ⟨rS, a, i + 1, at_ + n⟩ 0 at_ = 0) : applyF f true ⟨rS, a, i + 1, at_ + n⟩ 0 at_ rS = some ⟨rS, a, i + 1, at_ + n⟩ := by rw [applyF, if_pos ⟨h, rfl⟩]; simp
theorem g_next (h : f rS = some ⟨rS, a, i + 1, at_ + n⟩) : GInv f a at_ n (i + 1) := ⟨by rw [tokN, h]; simp, fun y hy => by rw [h] at hy; cases hy; simp⟩
theorem g_again (h : f rS = some ⟨rS, a, i + 1, at_ + n⟩) (ha : 0 ≤ a ∧ a < 3) (ht : 0 ≤ at_ ∧ at_ < 1000000) (hn : 1 ≤ n ∧ n ≤ 4096) (hi : i < 5) : applyE f true ⟨rS, a, i + 1, at_ + n⟩ 0 at_ = 15 := by
  have hv : validP true ⟨rS, a, i + 1, at_ + n⟩ 0 := ⟨rS_name, ha, by simp only; omega, by simp only; omega, by omega, .inr rfl⟩
  exact applyE_g15 hv (by omega) rfl (by simp only; omega) h (by simp)
theorem g_other (h : f rS = some ⟨rS, a, i + 1, at_ + n⟩) (hb : 0 ≤ b ∧ b < 3) (t : Int) (ht : 0 ≤ t ∧ t ≤ 1004096) (hi : i < 5) : grantX f rS b t 5 = ⟨rS, b, i + 2, t + 5⟩ ∧ grantE f rS b t 5 = if t < at_ + n ∧ a ≠ b then 15 else 0 := by
  have hX : grantX f rS b t 5 = ⟨rS, b, i + 2, t + 5⟩ := by rw [grantX, tokN, h]; simp; omega
  refine ⟨hX, ?_⟩
  have hv : validP true ⟨rS, b, i + 2, t + 5⟩ 0 := ⟨rS_name, hb, by simp only; omega, by simp only; omega, by omega, .inr rfl⟩
  rw [grantE, if_neg (by omega), hX, if_neg (by simpa using hv), h]
end
set_option maxHeartbeats 4000000 in
theorem leaseGrants_ok (h0 h1 h2 h3 h4 : Int) (w0 : World) (hh0 : isI64 h0) (hh1 : isI64 h1) (hh2 : isI64 h2) (hh3 : isI64 h3) (hh4 : isI64 h4) :
    Ret Try.prog 5 [.int .i64 h0, .int .i64 h1, .int .i64 h2, .int .i64 h3, .int .i64 h4].toArray w0 fun r w' => Fwd [] w0 w' ∧ r = .bool true := by
  refine Ret_start fun w hs => ?_
  refine Ret_of Try.func5 rfl Try.ntmps5 rfl ?_
  refine W_seq ?_
  refine W_region ?_
  refine s_assign rfl rfl ?_
  refine WL_nil ?_
  refine n_then ?_
  refine W_seq ?_
  refine W_region ?_
  refine s_call Try.call6 rfl rfl (new_ok w) ?_
  rintro r w ⟨p, LT, rfl, hT, hst⟩
  replace hs := St.back0 hs hst
  simp only [List.append_nil] at hs
  clear hst
  refine s_assign rfl rfl ?_
  refine WL_nil ?_
  refine n_then ?_
  refine W_seq ?_
  refine W_seq ?_
  refine W_region ?_
  refine s_move rfl rfl ?_
  refine s_eql_ptr_nil Try.underlying23 rfl rfl rfl ?_
  refine WL_nil ?_
  refine n_then ?_
  refine W_cond_kf rfl (rfl) ?_
  refine W_skip ?_
  refine n_then ?_
  refine W_seq ?_
  refine W_region ?_
  refine s_move rfl rfl ?_
  refine s_call Try.call10 rfl rfl (around_ok h0 3 w (by omega) hh0) ?_
  rintro r w ⟨rfl, rfl⟩
  have ha := aroundV_range (m := h0) (q := 3) (by omega)
  generalize aroundV h0 3 = a at ha
  refine s_assign rfl rfl ?_
  refine WL_nil ?_
  refine n_then ?_
  refine W_seq ?_
  refine W_region ?_
  refine s_move rfl rfl ?_
  refine s_call Try.call10 rfl rfl (around_ok h1 3 w (by omega) hh1) ?_
  rintro r w ⟨rfl, rfl⟩
  have hb := aroundV_range (m := h1) (q := 3) (by omega)
  generalize aroundV h1 3 = b at hb
  refine s_assign rfl rfl ?_
  refine WL_nil ?_
  refine n_then ?_
  refine W_seq ?_
  refine W_region ?_
  refine s_move rfl rfl ?_
  refine s_call Try.call10 rfl rfl (around_ok h2 1000000 w (by omega) hh2) ?_
  rintro r w ⟨rfl, rfl⟩
  have ht := aroundV_range (m := h2) (q := 1000000) (by omega)
  generalize aroundV h2 1000000 = tt at ht
  refine s_assign rfl rfl ?_
  refine WL_nil ?_
  refine n_then ?_
  refine W_seq ?_
  refine W_region ?_
  refine s_move rfl rfl ?_
  refine s_call Try.call10 rfl rfl (around_ok h3 4096 w (by omega) hh3) ?_
  rintro r w ⟨rfl, rfl⟩
  have hn := aroundV_range (m := h3) (q := 4096) (by omega)
  generalize aroundV h3 4096 = nn at hn
  first | (refine s_add' rfl rfl rfl ?hx ?_; case hx => (constructor <;> first | omega | (simp only; omega))) | refine s_add rfl rfl rfl ?_
  refine s_assign rfl rfl ?_
  refine WL_nil ?_
  refine n_then ?_
  refine W_seq ?_
  refine W_region ?_
  refine s_move rfl rfl ?_
  refine s_call Try.call10 rfl rfl (around_ok h4 5 w (by omega) hh4) ?_
  rintro r w ⟨rfl, rfl⟩
  have hm := aroundV_range (m := h4) (q := 5) (by omega)
  generalize aroundV h4 5 = mm at hm
  first | (refine s_add' rfl rfl rfl ?hx ?_; case hx => (constructor <;> first | omega | (simp only; omega))) | refine s_add rfl rfl rfl ?_
  refine s_assign rfl rfl ?_
  refine WL_nil ?_
  refine n_then ?_
  refine W_seq ?_
  refine W_seq ?_
  refine W_region ?_
  refine s_assign rfl rfl ?_
  refine WL_nil ?_
  refine n_then ?_
  refine W_block ?_
  refine W_loop (σ := Nat × (ByteArray → Option Lz) × Hp) (fun s => [(11, .pointer (some ⟨p, 0, none⟩)), (12, .int .i64 a), (13, .int .i64 b), (14, .int .i64 tt), (15, .int .i64 (1 + nn)), (16, .int .i64 (1 + mm)), (17, .int .i64 ((s.1 : Int) + 1))])
    (fun s w => St [] w0 w s.2.2 ∧ TabAt p s.2.1 [] s.2.2 ∧ GInv s.2.1 a tt (1 + nn) s.1 ∧ s.1 ≤ 1 + mm) (fun s => 6 - s.1) (0, fun _ => none, LT) ⟨rfl, rfl, rfl, rfl, rfl, rfl, rfl, trivial⟩ ⟨hs, hT, ⟨rfl, by simp⟩, by simp only; omega⟩ ?_
  clear hs hT LT
  rintro ⟨i, f, LT⟩ w ⟨hs, hT, hG, hi⟩
  simp only at hs hT hG hi ⊢
  refine W_seq ?_
  refine W_seq ?_
  refine W_region ?_
  refine s_move rfl rfl ?_
  refine s_move rfl rfl ?_
  refine s_leq rfl rfl rfl ?_
  refine WL_nil ?_
  refine n_then ?_
  refine W_cond rfl (fun hc45 => ?_) (fun hc45 => ?_)
  · skip
    try simp only [decide_eq_true_eq, decide_eq_false_iff_not] at hc45
    have hi5 : i < 5 := by omega
    obtain ⟨hgX, hgE⟩ := g_grant hG ha ht (by omega) hi5
    have hA1 := g_apply hG ha ht (by omega) hi5
    have hF1 := g_at hA1
    have hA2 := g_again hF1 ha ht (by omega) hi5
    have hF2 : applyF (applyF f true ⟨rS, a, i + 1, tt + (1 + nn)⟩ 0 tt) true ⟨rS, a, i + 1, tt + (1 + nn)⟩ 0 tt rS = some ⟨rS, a, i + 1, tt + (1 + nn)⟩ := by rw [applyF, if_neg (by rw [hA2]; simp)]; exact hF1
    generalize hf1 : applyF f true ⟨rS, a, i + 1, tt + (1 + nn)⟩ 0 tt = f1 at hF1 hA2 hF2
    generalize hf2 : applyF f1 true ⟨rS, a, i + 1, tt + (1 + nn)⟩ 0 tt = f2 at hF2
    refine W_skip ?_
    refine n_then ?_
    refine W_seq ?_
    refine W_block ?_
    refine W_seq ?_
    refine W_region ?_
    refine s_move rfl rfl ?_
    refine s_move rfl rfl ?_
    refine s_move rfl rfl ?_
    refine s_move rfl rfl ?_
    refine s_callL (M := []) (L1 := LT) (X := []) Try.call16 rfl rfl (by simpa using hs) (fun h => grant_ok p f [] rS a tt (1 + nn) LT w hT h (by intro y hy; rw [hG.2 y hy]; simp only; omega)) ?_
    clear hs; rintro v w LT2 ⟨rfl, g, x, rfl, hx1, hx2⟩ - hs
    obtain ⟨rfl, rfl, hxv⟩ := hx1 hgE
    simp only [hgE, hgX, List.append_nil, List.nil_append] at hs ⊢
    clear hx1 hx2 hxv
    refine s_move rfl rfl ?_
    refine s_extract rfl rfl rfl ?_
    refine s_extract rfl rfl rfl ?_
    refine s_alloc rfl AL38 hs ?_; clear hs; intro b18 w hs
    first
      | refine s_storeW Try.sizeOf38 rfl rfl rfl rfl hs (kk := 0) rfl rfl ?_
      | refine s_storeW Try.sizeOf38 rfl rfl rfl rfl hs (kk := 1) rfl rfl ?_
      | refine s_storeW Try.sizeOf38 rfl rfl rfl rfl hs (kk := 2) rfl rfl ?_
      | refine s_storeW Try.sizeOf38 rfl rfl rfl rfl hs (kk := 3) rfl rfl ?_
      | refine s_storeW Try.sizeOf38 rfl rfl rfl rfl hs (kk := 4) rfl rfl ?_
      | refine s_storeW Try.sizeOf38 rfl rfl rfl rfl hs (kk := 5) rfl rfl ?_
      | refine s_storeAB Try.sizeOf38 rfl rfl rfl rfl hs (kk := 0) rfl rfl ?_
      | refine s_storeAB Try.sizeOf38 rfl rfl rfl rfl hs (kk := 1) rfl rfl ?_
      | refine s_storeAB Try.sizeOf38 rfl rfl rfl rfl hs (kk := 2) rfl rfl ?_
      | refine s_storeAB Try.sizeOf38 rfl rfl rfl rfl hs (kk := 3) rfl rfl ?_
      | refine s_storeAB Try.sizeOf38 rfl rfl rfl rfl hs (kk := 4) rfl rfl ?_
      | refine s_storeAB Try.sizeOf38 rfl rfl rfl rfl hs (kk := 5) rfl rfl ?_
    clear hs; intro w hs; try simp only [List.set_cons_zero, List.set_cons_succ, splice, List.take_succ_cons, List.take_zero, List.drop_succ_cons, List.drop_zero, List.nil_append, List.cons_append, List.length_cons, List.length_nil, Nat.reduceAdd, List.append_assoc] at hs
    refine s_assign rfl rfl ?_
    refine WL_nil ?_
    refine n_then ?_
    refine W_seq ?_
    refine W_seq ?_
    refine W_region ?_
    refine s_move rfl rfl ?_
    refine s_neq rfl rfl rfl ?_
    refine s_move rfl rfl ?_
    refine WL_know (s := 58) (c := false) rfl (rfl) ?_
    refine WL_take rfl ?_
    refine s_fieldAddr rfl rfl (FA38_1 _ _) ?_
    refine WL_take rfl ?_
    first
      | refine s_loadW Try.isAgg28 Try.sizeOf28 rfl rfl hs (kk := 0) rfl rfl ?_
      | refine s_loadW Try.isAgg28 Try.sizeOf28 rfl rfl hs (kk := 1) rfl rfl ?_
      | refine s_loadW Try.isAgg28 Try.sizeOf28 rfl rfl hs (kk := 2) rfl rfl ?_
      | refine s_loadW Try.isAgg28 Try.sizeOf28 rfl rfl hs (kk := 3) rfl rfl ?_
      | refine s_loadW Try.isAgg28 Try.sizeOf28 rfl rfl hs (kk := 4) rfl rfl ?_
      | refine s_loadW Try.isAgg28 Try.sizeOf28 rfl rfl hs (kk := 5) rfl rfl ?_
      | refine s_load_4 Try.isAgg28 Try.sizeOf28 rfl rfl (by first | exact hs.cell (k := 0) rfl rfl | exact hs.cell (k := 1) rfl rfl | exact hs.cell (k := 2) rfl rfl | exact hs.cell (k := 3) rfl rfl | exact hs.cell (k := 4) rfl rfl | exact hs.cell (k := 5) rfl rfl) (by first | exact hs.cell (k := 0) rfl rfl | exact hs.cell (k := 1) rfl rfl | exact hs.cell (k := 2) rfl rfl | exact hs.cell (k := 3) rfl rfl | exact hs.cell (k := 4) rfl rfl | exact hs.cell (k := 5) rfl rfl) (by first | exact hs.cell (k := 0) rfl rfl | exact hs.cell (k := 1) rfl rfl | exact hs.cell (k := 2) rfl rfl | exact hs.cell (k := 3) rfl rfl | exact hs.cell (k := 4) rfl rfl | exact hs.cell (k := 5) rfl rfl) (by first | exact hs.cell (k := 0) rfl rfl | exact hs.cell (k := 1) rfl rfl | exact hs.cell (k := 2) rfl rfl | exact hs.cell (k := 3) rfl rfl | exact hs.cell (k := 4) rfl rfl | exact hs.cell (k := 5) rfl rfl) ?_
    refine WL_take rfl ?_
    refine s_move rfl rfl ?_
    refine WL_take rfl ?_
    refine s_move rfl rfl ?_
    refine WL_take rfl ?_
    refine s_move rfl rfl ?_
    refine WL_take rfl ?_
    refine s_move rfl rfl ?_
    refine WL_take rfl ?_
    first | (refine s_add' rfl rfl rfl ?hx ?_; case hx => (constructor <;> first | omega | (simp only; omega))) | refine s_add rfl rfl rfl ?_
    refine WL_take rfl ?_
    refine s_build rfl rfl (BD28_0_1_2_3 _ _ _ _) ?_
    refine WL_take rfl ?_
    refine s_neq_agg EG28 rfl rfl rfl (SE28 _ _ _ _ _ _ _ _) ?_
    refine s_pick_f rfl rfl rfl ?_
    refine s_move rfl rfl ?_
    refine WL_know (s := 69) (c := false) rfl ((by simp)) ?_
    refine WL_take rfl ?_
    refine s_fieldAddr rfl rfl (FA38_0 _ _) ?_
    refine WL_take rfl ?_
    first
      | refine s_load Try.isAgg4 rfl rfl (hs.cell (k := 0) rfl rfl) ?_
      | refine s_load Try.isAgg4 rfl rfl (hs.cell (k := 1) rfl rfl) ?_
      | refine s_load Try.isAgg4 rfl rfl (hs.cell (k := 2) rfl rfl) ?_
      | refine s_load Try.isAgg4 rfl rfl (hs.cell (k := 3) rfl rfl) ?_
      | refine s_load Try.isAgg4 rfl rfl (hs.cell (k := 4) rfl rfl) ?_
      | refine s_load Try.isAgg4 rfl rfl (hs.cell (k := 5) rfl rfl) ?_
    refine WL_take rfl ?_
    refine s_not rfl rfl ?_
    refine s_pick_f rfl rfl rfl ?_
    refine s_move rfl rfl ?_
    refine WL_know (s := 74) (c := false) rfl (rfl) ?_
    refine WL_take rfl ?_
    refine s_move rfl rfl ?_
    refine WL_take rfl ?_
    first
      | refine s_loadW Try.isAgg38 Try.sizeOf38 rfl rfl hs (kk := 0) rfl rfl ?_
      | refine s_loadW Try.isAgg38 Try.sizeOf38 rfl rfl hs (kk := 1) rfl rfl ?_
      | refine s_loadW Try.isAgg38 Try.sizeOf38 rfl rfl hs (kk := 2) rfl rfl ?_
      | refine s_loadW Try.isAgg38 Try.sizeOf38 rfl rfl hs (kk := 3) rfl rfl ?_
      | refine s_loadW Try.isAgg38 Try.sizeOf38 rfl rfl hs (kk := 4) rfl rfl ?_
      | refine s_loadW Try.isAgg38 Try.sizeOf38 rfl rfl hs (kk := 5) rfl rfl ?_
      | refine s_load_6 Try.isAgg38 Try.sizeOf38 rfl rfl (by first | exact hs.cell (k := 0) rfl rfl | exact hs.cell (k := 1) rfl rfl | exact hs.cell (k := 2) rfl rfl | exact hs.cell (k := 3) rfl rfl | exact hs.cell (k := 4) rfl rfl | exact hs.cell (k := 5) rfl rfl) (by first | exact hs.cell (k := 0) rfl rfl | exact hs.cell (k := 1) rfl rfl | exact hs.cell (k := 2) rfl rfl | exact hs.cell (k := 3) rfl rfl | exact hs.cell (k := 4) rfl rfl | exact hs.cell (k := 5) rfl rfl) (by first | exact hs.cell (k := 0) rfl rfl | exact hs.cell (k := 1) rfl rfl | exact hs.cell (k := 2) rfl rfl | exact hs.cell (k := 3) rfl rfl | exact hs.cell (k := 4) rfl rfl | exact hs.cell (k := 5) rfl rfl) (by first | exact hs.cell (k := 0) rfl rfl | exact hs.cell (k := 1) rfl rfl | exact hs.cell (k := 2) rfl rfl | exact hs.cell (k := 3) rfl rfl | exact hs.cell (k := 4) rfl rfl | exact hs.cell (k := 5) rfl rfl) (by first | exact hs.cell (k := 0) rfl rfl | exact hs.cell (k := 1) rfl rfl | exact hs.cell (k := 2) rfl rfl | exact hs.cell (k := 3) rfl rfl | exact hs.cell (k := 4) rfl rfl | exact hs.cell (k := 5) rfl rfl) (by first | exact hs.cell (k := 0) rfl rfl | exact hs.cell (k := 1) rfl rfl | exact hs.cell (k := 2) rfl rfl | exact hs.cell (k := 3) rfl rfl | exact hs.cell (k := 4) rfl rfl | exact hs.cell (k := 5) rfl rfl) ?_
    refine WL_take rfl ?_
    refine s_move rfl rfl ?_
    refine WL_take rfl ?_
    refine s_callL (M := [_]) (L1 := LT2) (X := []) Try.call11 rfl rfl (by simpa using hs) (fun h => apply_ok p f [] true ⟨rS, a, i + 1, tt + (1 + nn)⟩ (.slice none 0 0) [] tt LT2 w hT h ⟨none, 0, rfl, Nat.le_refl _, .inl rfl⟩ (by simp) (by intro a m c h; cases h)) ?_
    clear hs; rintro v w LT ⟨rfl, cs', hT, hc1, hc2⟩ - hs
    obtain rfl := hc1 (by simp)
    simp only [List.length_nil, hA1, List.append_nil, List.cons_append, List.nil_append, hf1] at hs hT ⊢
    clear hc1 hc2
    refine WL_take rfl ?_
    refine s_neq rfl rfl rfl ?_
    refine s_pick_f rfl rfl rfl ?_
    refine s_move rfl rfl ?_
    refine WL_know (s := 81) (c := false) rfl (rfl) ?_
    refine WL_take rfl ?_
    refine s_move rfl rfl ?_
    refine WL_take rfl ?_
    first
      | refine s_loadW Try.isAgg38 Try.sizeOf38 rfl rfl hs (kk := 0) rfl rfl ?_
      | refine s_loadW Try.isAgg38 Try.sizeOf38 rfl rfl hs (kk := 1) rfl rfl ?_
      | refine s_loadW Try.isAgg38 Try.sizeOf38 rfl rfl hs (kk := 2) rfl rfl ?_
      | refine s_loadW Try.isAgg38 Try.sizeOf38 rfl rfl hs (kk := 3) rfl rfl ?_
      | refine s_loadW Try.isAgg38 Try.sizeOf38 rfl rfl hs (kk := 4) rfl rfl ?_
      | refine s_loadW Try.isAgg38 Try.sizeOf38 rfl rfl hs (kk := 5) rfl rfl ?_
      | refine s_load_6 Try.isAgg38 Try.sizeOf38 rfl rfl (by first | exact hs.cell (k := 0) rfl rfl | exact hs.cell (k := 1) rfl rfl | exact hs.cell (k := 2) rfl rfl | exact hs.cell (k := 3) rfl rfl | exact hs.cell (k := 4) rfl rfl | exact hs.cell (k := 5) rfl rfl) (by first | exact hs.cell (k := 0) rfl rfl | exact hs.cell (k := 1) rfl rfl | exact hs.cell (k := 2) rfl rfl | exact hs.cell (k := 3) rfl rfl | exact hs.cell (k := 4) rfl rfl | exact hs.cell (k := 5) rfl rfl) (by first | exact hs.cell (k := 0) rfl rfl | exact hs.cell (k := 1) rfl rfl | exact hs.cell (k := 2) rfl rfl | exact hs.cell (k := 3) rfl rfl | exact hs.cell (k := 4) rfl rfl | exact hs.cell (k := 5) rfl rfl) (by first | exact hs.cell (k := 0) rfl rfl | exact hs.cell (k := 1) rfl rfl | exact hs.cell (k := 2) rfl rfl | exact hs.cell (k := 3) rfl rfl | exact hs.cell (k := 4) rfl rfl | exact hs.cell (k := 5) rfl rfl) (by first | exact hs.cell (k := 0) rfl rfl | exact hs.cell (k := 1) rfl rfl | exact hs.cell (k := 2) rfl rfl | exact hs.cell (k := 3) rfl rfl | exact hs.cell (k := 4) rfl rfl | exact hs.cell (k := 5) rfl rfl) (by first | exact hs.cell (k := 0) rfl rfl | exact hs.cell (k := 1) rfl rfl | exact hs.cell (k := 2) rfl rfl | exact hs.cell (k := 3) rfl rfl | exact hs.cell (k := 4) rfl rfl | exact hs.cell (k := 5) rfl rfl) ?_
    refine WL_take rfl ?_
    refine s_move rfl rfl ?_
    refine WL_take rfl ?_
    refine s_callL (M := [_]) (L1 := LT) (X := []) Try.call11 rfl rfl (by simpa using hs) (fun h => apply_ok p f1 [] true ⟨rS, a, i + 1, tt + (1 + nn)⟩ (.slice none 0 0) [] tt LT w hT h ⟨none, 0, rfl, Nat.le_refl _, .inl rfl⟩ (by simp) (by intro a m c h; cases h)) ?_
    clear hs; rintro v w LT3 ⟨rfl, cs', hT, hc1, hc2⟩ - hs
    obtain rfl := hc1 (by simp)
    simp only [List.length_nil, hA2, List.append_nil, List.cons_append, List.nil_append, hf2] at hs hT ⊢
    clear hc1 hc2
    refine WL_take rfl ?_
    refine s_neq rfl rfl rfl ?_
    refine s_pick_f rfl rfl rfl ?_
    refine WL_nil ?_
    refine n_then ?_
    refine W_cond_kf rfl (rfl) ?_
    refine W_skip ?_
    refine n_then ?_
    refine W_seq ?_
    refine W_region ?_
    refine s_move rfl rfl ?_
    refine s_move rfl rfl ?_
    refine s_move rfl rfl ?_
    first | (refine s_add' rfl rfl rfl ?hx ?_; case hx => (constructor <;> first | omega | (simp only; omega))) | refine s_add rfl rfl rfl ?_
    first | (refine s_sub' rfl rfl rfl ?hx ?_; case hx => (constructor <;> first | omega | (simp only; omega))) | refine s_sub rfl rfl rfl ?_
    refine s_callL (M := [_]) (L1 := LT3) (X := []) Try.call9 rfl rfl (by simpa using hs) (fun h => holder_ok p f2 [] rS _ LT3 w hT h) ?_
    clear hs; rintro v w LT4 ⟨rfl, y, kn, rfl, hy1, hy2⟩ - hs
    have hkn : kn = true := by
      cases kn
      · have h9 := (hy2 rfl).1; rw [holderV, hF2] at h9; simp only at h9; rw [if_neg (by omega)] at h9; cases h9
      · rfl
    subst hkn
    obtain rfl : y = ⟨rS, a, i + 1, tt + (1 + nn)⟩ := by have := (hy1 rfl).1; rw [hF2] at this; cases this; rfl
    simp only [List.append_nil, List.cons_append, List.nil_append] at hs
    clear hy1 hy2
    refine s_move rfl rfl ?_
    refine s_extract rfl rfl rfl ?_
    refine s_extract rfl rfl rfl ?_
    refine s_alloc rfl AL28 hs ?_; clear hs; intro b20 w hs
    first
      | refine s_storeW Try.sizeOf28 rfl rfl rfl rfl hs (kk := 0) rfl rfl ?_
      | refine s_storeW Try.sizeOf28 rfl rfl rfl rfl hs (kk := 1) rfl rfl ?_
      | refine s_storeW Try.sizeOf28 rfl rfl rfl rfl hs (kk := 2) rfl rfl ?_
      | refine s_storeW Try.sizeOf28 rfl rfl rfl rfl hs (kk := 3) rfl rfl ?_
      | refine s_storeW Try.sizeOf28 rfl rfl rfl rfl hs (kk := 4) rfl rfl ?_
      | refine s_storeW Try.sizeOf28 rfl rfl rfl rfl hs (kk := 5) rfl rfl ?_
      | refine s_storeAB Try.sizeOf28 rfl rfl rfl rfl hs (kk := 0) rfl rfl ?_
      | refine s_storeAB Try.sizeOf28 rfl rfl rfl rfl hs (kk := 1) rfl rfl ?_
      | refine s_storeAB Try.sizeOf28 rfl rfl rfl rfl hs (kk := 2) rfl rfl ?_
      | refine s_storeAB Try.sizeOf28 rfl rfl rfl rfl hs (kk := 3) rfl rfl ?_
      | refine s_storeAB Try.sizeOf28 rfl rfl rfl rfl hs (kk := 4) rfl rfl ?_
      | refine s_storeAB Try.sizeOf28 rfl rfl rfl rfl hs (kk := 5) rfl rfl ?_
    clear hs; intro w hs; try simp only [List.set_cons_zero, List.set_cons_succ, splice, List.take_succ_cons, List.take_zero, List.drop_succ_cons, List.drop_zero, List.nil_append, List.cons_append, List.length_cons, List.length_nil, Nat.reduceAdd, List.append_assoc] at hs
    refine s_assign rfl rfl ?_
    refine WL_nil ?_
    refine n_then ?_
    refine W_seq ?_
    refine W_region ?_
    refine s_move rfl rfl ?_
    refine s_move rfl rfl ?_
    refine s_move rfl rfl ?_
    first | (refine s_add' rfl rfl rfl ?hx ?_; case hx => (constructor <;> first | omega | (simp only; omega))) | refine s_add rfl rfl rfl ?_
    refine s_callL (M := [_, _]) (L1 := LT4) (X := []) Try.call9 rfl rfl (by simpa using hs) (fun h => holder_ok p f2 [] rS _ LT4 w hT h) ?_
    clear hs; rintro v w LT5 ⟨rfl, y, kn, rfl, hy1, hy2⟩ - hs
    have hkn : kn = false := by
      cases kn
      · rfl
      · have h9 := hy1 rfl; rw [hF2] at h9; obtain ⟨h8, h9⟩ := h9; cases h8; simp only at h9; omega
    subst hkn
    simp only [List.append_nil, List.cons_append, List.nil_append] at hs
    clear hy1 hy2
    refine s_move rfl rfl ?_
    refine s_extract rfl rfl rfl ?_
    refine s_extract rfl rfl rfl ?_
    refine s_alloc rfl AL28 hs ?_; clear hs; intro b22 w hs
    first
      | refine s_storeW Try.sizeOf28 rfl rfl rfl rfl hs (kk := 0) rfl rfl ?_
      | refine s_storeW Try.sizeOf28 rfl rfl rfl rfl hs (kk := 1) rfl rfl ?_
      | refine s_storeW Try.sizeOf28 rfl rfl rfl rfl hs (kk := 2) rfl rfl ?_
      | refine s_storeW Try.sizeOf28 rfl rfl rfl rfl hs (kk := 3) rfl rfl ?_
      | refine s_storeW Try.sizeOf28 rfl rfl rfl rfl hs (kk := 4) rfl rfl ?_
      | refine s_storeW Try.sizeOf28 rfl rfl rfl rfl hs (kk := 5) rfl rfl ?_
      | refine s_storeAB Try.sizeOf28 rfl rfl rfl rfl hs (kk := 0) rfl rfl ?_
      | refine s_storeAB Try.sizeOf28 rfl rfl rfl rfl hs (kk := 1) rfl rfl ?_
      | refine s_storeAB Try.sizeOf28 rfl rfl rfl rfl hs (kk := 2) rfl rfl ?_
      | refine s_storeAB Try.sizeOf28 rfl rfl rfl rfl hs (kk := 3) rfl rfl ?_
      | refine s_storeAB Try.sizeOf28 rfl rfl rfl rfl hs (kk := 4) rfl rfl ?_
      | refine s_storeAB Try.sizeOf28 rfl rfl rfl rfl hs (kk := 5) rfl rfl ?_
    clear hs; intro w hs; try simp only [List.set_cons_zero, List.set_cons_succ, splice, List.take_succ_cons, List.take_zero, List.drop_succ_cons, List.drop_zero, List.nil_append, List.cons_append, List.length_cons, List.length_nil, Nat.reduceAdd, List.append_assoc] at hs
    refine s_assign rfl rfl ?_
    refine WL_nil ?_
    refine n_then ?_
    refine W_seq ?_
    refine W_seq ?_
    refine W_region ?_
    refine s_move rfl rfl ?_
    refine s_not rfl rfl ?_
    refine s_move rfl rfl ?_
    refine WL_know (s := 107) (c := false) rfl (rfl) ?_
    refine WL_take rfl ?_
    refine s_move rfl rfl ?_
    refine s_pick_f rfl rfl rfl ?_
    refine s_move rfl rfl ?_
    refine WL_know (s := 110) (c := false) rfl (rfl) ?_
    refine WL_take rfl ?_
    first
      | refine s_loadW Try.isAgg28 Try.sizeOf28 rfl rfl hs (kk := 0) rfl rfl ?_
      | refine s_loadW Try.isAgg28 Try.sizeOf28 rfl rfl hs (kk := 1) rfl rfl ?_
      | refine s_loadW Try.isAgg28 Try.sizeOf28 rfl rfl hs (kk := 2) rfl rfl ?_
      | refine s_loadW Try.isAgg28 Try.sizeOf28 rfl rfl hs (kk := 3) rfl rfl ?_
      | refine s_loadW Try.isAgg28 Try.sizeOf28 rfl rfl hs (kk := 4) rfl rfl ?_
      | refine s_loadW Try.isAgg28 Try.sizeOf28 rfl rfl hs (kk := 5) rfl rfl ?_
      | refine s_load_4 Try.isAgg28 Try.sizeOf28 rfl rfl (by first | exact hs.cell (k := 0) rfl rfl | exact hs.cell (k := 1) rfl rfl | exact hs.cell (k := 2) rfl rfl | exact hs.cell (k := 3) rfl rfl | exact hs.cell (k := 4) rfl rfl | exact hs.cell (k := 5) rfl rfl) (by first | exact hs.cell (k := 0) rfl rfl | exact hs.cell (k := 1) rfl rfl | exact hs.cell (k := 2) rfl rfl | exact hs.cell (k := 3) rfl rfl | exact hs.cell (k := 4) rfl rfl | exact hs.cell (k := 5) rfl rfl) (by first | exact hs.cell (k := 0) rfl rfl | exact hs.cell (k := 1) rfl rfl | exact hs.cell (k := 2) rfl rfl | exact hs.cell (k := 3) rfl rfl | exact hs.cell (k := 4) rfl rfl | exact hs.cell (k := 5) rfl rfl) (by first | exact hs.cell (k := 0) rfl rfl | exact hs.cell (k := 1) rfl rfl | exact hs.cell (k := 2) rfl rfl | exact hs.cell (k := 3) rfl rfl | exact hs.cell (k := 4) rfl rfl | exact hs.cell (k := 5) rfl rfl) ?_
    refine WL_take rfl ?_
    refine s_fieldAddr rfl rfl (FA38_1 _ _) ?_
    refine WL_take rfl ?_
    first
      | refine s_loadW Try.isAgg28 Try.sizeOf28 rfl rfl hs (kk := 0) rfl rfl ?_
      | refine s_loadW Try.isAgg28 Try.sizeOf28 rfl rfl hs (kk := 1) rfl rfl ?_
      | refine s_loadW Try.isAgg28 Try.sizeOf28 rfl rfl hs (kk := 2) rfl rfl ?_
      | refine s_loadW Try.isAgg28 Try.sizeOf28 rfl rfl hs (kk := 3) rfl rfl ?_
      | refine s_loadW Try.isAgg28 Try.sizeOf28 rfl rfl hs (kk := 4) rfl rfl ?_
      | refine s_loadW Try.isAgg28 Try.sizeOf28 rfl rfl hs (kk := 5) rfl rfl ?_
      | refine s_load_4 Try.isAgg28 Try.sizeOf28 rfl rfl (by first | exact hs.cell (k := 0) rfl rfl | exact hs.cell (k := 1) rfl rfl | exact hs.cell (k := 2) rfl rfl | exact hs.cell (k := 3) rfl rfl | exact hs.cell (k := 4) rfl rfl | exact hs.cell (k := 5) rfl rfl) (by first | exact hs.cell (k := 0) rfl rfl | exact hs.cell (k := 1) rfl rfl | exact hs.cell (k := 2) rfl rfl | exact hs.cell (k := 3) rfl rfl | exact hs.cell (k := 4) rfl rfl | exact hs.cell (k := 5) rfl rfl) (by first | exact hs.cell (k := 0) rfl rfl | exact hs.cell (k := 1) rfl rfl | exact hs.cell (k := 2) rfl rfl | exact hs.cell (k := 3) rfl rfl | exact hs.cell (k := 4) rfl rfl | exact hs.cell (k := 5) rfl rfl) (by first | exact hs.cell (k := 0) rfl rfl | exact hs.cell (k := 1) rfl rfl | exact hs.cell (k := 2) rfl rfl | exact hs.cell (k := 3) rfl rfl | exact hs.cell (k := 4) rfl rfl | exact hs.cell (k := 5) rfl rfl) ?_
    refine WL_take rfl ?_
    refine s_neq_agg EG28 rfl rfl rfl (SE28 _ _ _ _ _ _ _ _) ?_
    refine s_pick_f rfl rfl rfl ?_
    refine WL_nil ?_
    refine n_then ?_
    refine W_cond_kf rfl ((by simp)) ?_
    refine W_skip ?_
    refine n_then ?_
    refine W_seq ?_
    refine W_region ?_
    refine s_move rfl rfl ?_
    refine s_move rfl rfl ?_
    refine s_move rfl rfl ?_
    refine s_move rfl rfl ?_
    first | (refine s_add' rfl rfl rfl ?hx ?_; case hx => (constructor <;> first | omega | (simp only; omega))) | refine s_add rfl rfl rfl ?_
    first | (refine s_sub' rfl rfl rfl ?hx ?_; case hx => (constructor <;> first | omega | (simp only; omega))) | refine s_sub rfl rfl rfl ?_
    obtain ⟨hX6, hE6⟩ := g_other (b := b) hF2 hb (tt + (1 + nn) - 1) (by omega) hi5
    replace hE6 : grantE f2 rS b (tt + (1 + nn) - 1) 5 = if a = b then 0 else 15 := by rw [hE6]; by_cases hab : a = b <;> simp [hab] <;> omega
    refine s_callL (M := [_, _, _]) (L1 := LT5) (X := []) Try.call16 rfl rfl (by simpa using hs) (fun h => grant_ok p f2 [] rS b _ 5 LT5 w hT h (by intro y hy; rw [hF2] at hy; cases hy; simp only; omega)) ?_
    clear hs; rintro v w LT6 ⟨rfl, g6, x6, rfl, -, -⟩ - hs
    simp only [hE6, List.append_nil, List.cons_append, List.nil_append] at hs ⊢
    refine s_move rfl rfl ?_
    refine s_extract rfl rfl rfl ?_
    refine s_extract rfl rfl rfl ?_
    refine s_alloc rfl AL38 hs ?_; clear hs; intro b24 w hs
    first
      | refine s_storeW Try.sizeOf38 rfl rfl rfl rfl hs (kk := 0) rfl rfl ?_
      | refine s_storeW Try.sizeOf38 rfl rfl rfl rfl hs (kk := 1) rfl rfl ?_
      | refine s_storeW Try.sizeOf38 rfl rfl rfl rfl hs (kk := 2) rfl rfl ?_
      | refine s_storeW Try.sizeOf38 rfl rfl rfl rfl hs (kk := 3) rfl rfl ?_
      | refine s_storeW Try.sizeOf38 rfl rfl rfl rfl hs (kk := 4) rfl rfl ?_
      | refine s_storeW Try.sizeOf38 rfl rfl rfl rfl hs (kk := 5) rfl rfl ?_
      | refine s_storeAB Try.sizeOf38 rfl rfl rfl rfl hs (kk := 0) rfl rfl ?_
      | refine s_storeAB Try.sizeOf38 rfl rfl rfl rfl hs (kk := 1) rfl rfl ?_
      | refine s_storeAB Try.sizeOf38 rfl rfl rfl rfl hs (kk := 2) rfl rfl ?_
      | refine s_storeAB Try.sizeOf38 rfl rfl rfl rfl hs (kk := 3) rfl rfl ?_
      | refine s_storeAB Try.sizeOf38 rfl rfl rfl rfl hs (kk := 4) rfl rfl ?_
      | refine s_storeAB Try.sizeOf38 rfl rfl rfl rfl hs (kk := 5) rfl rfl ?_
    clear hs; intro w hs; try simp only [List.set_cons_zero, List.set_cons_succ, splice, List.take_succ_cons, List.take_zero, List.drop_succ_cons, List.drop_zero, List.nil_append, List.cons_append, List.length_cons, List.length_nil, Nat.reduceAdd, List.append_assoc] at hs
    refine s_assign rfl rfl ?_
    refine WL_nil ?_
    refine n_then ?_
    refine W_seq ?_
    refine W_region ?_
    refine s_move rfl rfl ?_
    refine s_move rfl rfl ?_
    refine s_move rfl rfl ?_
    refine s_move rfl rfl ?_
    first | (refine s_add' rfl rfl rfl ?hx ?_; case hx => (constructor <;> first | omega | (simp only; omega))) | refine s_add rfl rfl rfl ?_
    obtain ⟨hX7, hE7⟩ := g_other (b := b) hF2 hb (tt + (1 + nn)) (by omega) hi5
    refine s_callL (M := [_, _, _, _]) (L1 := LT6) (X := []) Try.call16 rfl rfl (by simpa using hs) (fun h => grant_ok p f2 [] rS b _ 5 LT6 w hT h (by intro y hy; rw [hF2] at hy; cases hy; simp only; omega)) ?_
    clear hs; rintro v w LT7 ⟨rfl, g7, x7, rfl, hx71, -⟩ - hs
    rw [if_neg (by omega)] at hE7
    obtain ⟨rfl, rfl, -⟩ := hx71 hE7
    simp only [hE7, hX7, List.append_nil, List.cons_append, List.nil_append] at hs ⊢
    refine s_move rfl rfl ?_
    refine s_extract rfl rfl rfl ?_
    refine s_extract rfl rfl rfl ?_
    refine s_alloc rfl AL38 hs ?_; clear hs; intro b26 w hs
    first
      | refine s_storeW Try.sizeOf38 rfl rfl rfl rfl hs (kk := 0) rfl rfl ?_
      | refine s_storeW Try.sizeOf38 rfl rfl rfl rfl hs (kk := 1) rfl rfl ?_
      | refine s_storeW Try.sizeOf38 rfl rfl rfl rfl hs (kk := 2) rfl rfl ?_
      | refine s_storeW Try.sizeOf38 rfl rfl rfl rfl hs (kk := 3) rfl rfl ?_
      | refine s_storeW Try.sizeOf38 rfl rfl rfl rfl hs (kk := 4) rfl rfl ?_
      | refine s_storeW Try.sizeOf38 rfl rfl rfl rfl hs (kk := 5) rfl rfl ?_
      | refine s_storeAB Try.sizeOf38 rfl rfl rfl rfl hs (kk := 0) rfl rfl ?_
      | refine s_storeAB Try.sizeOf38 rfl rfl rfl rfl hs (kk := 1) rfl rfl ?_
      | refine s_storeAB Try.sizeOf38 rfl rfl rfl rfl hs (kk := 2) rfl rfl ?_
      | refine s_storeAB Try.sizeOf38 rfl rfl rfl rfl hs (kk := 3) rfl rfl ?_
      | refine s_storeAB Try.sizeOf38 rfl rfl rfl rfl hs (kk := 4) rfl rfl ?_
      | refine s_storeAB Try.sizeOf38 rfl rfl rfl rfl hs (kk := 5) rfl rfl ?_
    clear hs; intro w hs; try simp only [List.set_cons_zero, List.set_cons_succ, splice, List.take_succ_cons, List.take_zero, List.drop_succ_cons, List.drop_zero, List.nil_append, List.cons_append, List.length_cons, List.length_nil, Nat.reduceAdd, List.append_assoc] at hs
    refine s_assign rfl rfl ?_
    refine WL_nil ?_
    refine n_then ?_
    refine W_seq ?_
    refine W_region ?_
    refine s_move rfl rfl ?_
    refine s_eql rfl rfl rfl ?_
    refine s_move rfl rfl ?_
    refine s_move rfl rfl ?_
    refine s_eql rfl rfl rfl ?_
    refine s_neq_bool Try.underlying4 rfl rfl rfl ?_
    refine s_move rfl rfl ?_
    refine WL_know (s := 141) (c := false) rfl ((by by_cases hab : a = b <;> simp [hab])) ?_
    refine WL_take rfl ?_
    refine s_move rfl rfl ?_
    refine WL_take rfl ?_
    refine s_neq rfl rfl rfl ?_
    refine WL_take rfl ?_
    refine s_move rfl rfl ?_
    refine WL_case (s := 144) rfl (fun hg144 => ?_) (fun hg144 => ?_)
    · skip
      try simp only [bne_iff_ne, ne_eq, bne_eq_false_iff_eq] at hg144
      refine WL_take rfl ?_
      refine s_move rfl rfl ?_
      refine WL_take rfl ?_
      refine s_neq rfl rfl rfl ?_
      refine WL_take rfl ?_
      refine s_pick_t rfl rfl rfl ?_
      refine s_pick_f rfl rfl rfl ?_
      refine s_move rfl rfl ?_
      refine WL_know (s := 149) (c := false) rfl ((by first | rfl | (by_cases hab : a = b <;> simp_all))) ?_
      refine WL_take rfl ?_
      refine s_move rfl rfl ?_
      refine WL_take rfl ?_
      refine s_neq rfl rfl rfl ?_
      refine s_pick_f rfl rfl rfl ?_
      refine s_move rfl rfl ?_
      refine WL_know (s := 153) (c := false) rfl (rfl) ?_
      refine WL_take rfl ?_
      refine s_fieldAddr rfl rfl (FA38_1 _ _) ?_
      refine WL_take rfl ?_
      refine s_fieldAddr rfl rfl (FA28_2 _ _) ?_
      refine WL_take rfl ?_
      first
        | refine s_load Try.isAgg3 rfl rfl (hs.cell (k := 0) rfl rfl) ?_
        | refine s_load Try.isAgg3 rfl rfl (hs.cell (k := 1) rfl rfl) ?_
        | refine s_load Try.isAgg3 rfl rfl (hs.cell (k := 2) rfl rfl) ?_
        | refine s_load Try.isAgg3 rfl rfl (hs.cell (k := 3) rfl rfl) ?_
        | refine s_load Try.isAgg3 rfl rfl (hs.cell (k := 4) rfl rfl) ?_
        | refine s_load Try.isAgg3 rfl rfl (hs.cell (k := 5) rfl rfl) ?_
      refine WL_take rfl ?_
      refine s_fieldAddr rfl rfl (FA38_1 _ _) ?_
      refine WL_take rfl ?_
      refine s_fieldAddr rfl rfl (FA28_2 _ _) ?_
      refine WL_take rfl ?_
      first
        | refine s_load Try.isAgg3 rfl rfl (hs.cell (k := 0) rfl rfl) ?_
        | refine s_load Try.isAgg3 rfl rfl (hs.cell (k := 1) rfl rfl) ?_
        | refine s_load Try.isAgg3 rfl rfl (hs.cell (k := 2) rfl rfl) ?_
        | refine s_load Try.isAgg3 rfl rfl (hs.cell (k := 3) rfl rfl) ?_
        | refine s_load Try.isAgg3 rfl rfl (hs.cell (k := 4) rfl rfl) ?_
        | refine s_load Try.isAgg3 rfl rfl (hs.cell (k := 5) rfl rfl) ?_
      refine WL_take rfl ?_
      first | (refine s_add' rfl rfl rfl ?hx ?_; case hx => (constructor <;> first | omega | (simp only; omega))) | refine s_add rfl rfl rfl ?_
      refine WL_take rfl ?_
      refine s_neq rfl rfl rfl ?_
      refine s_pick_f rfl rfl rfl ?_
      refine WL_nil ?_
      refine n_then ?_
      refine W_cond_kf rfl ((by simp; omega)) ?_
      refine W_skip ?_
      refine n_blk ?_
      refine n_then ?_
      refine W_region ?_
      refine s_move rfl rfl ?_
      first | (refine s_add' rfl rfl rfl ?hx ?_; case hx => (constructor <;> first | omega | (simp only; omega))) | refine s_add rfl rfl rfl ?_
      refine s_assign rfl rfl ?_
      refine WL_nil ?_
      refine n_loop ?_
      exact ⟨(i + 1, f2, LT7), ⟨rfl, rfl, rfl, rfl, rfl, rfl, rfl, trivial⟩, ⟨hs.tail.tail.tail.tail.tail, hT, g_next hF2, by simp only; omega⟩, by simp only; omega⟩
    · skip
      try simp only [bne_iff_ne, ne_eq, bne_eq_false_iff_eq] at hg144
      refine WL_skip rfl rfl rfl ?_
      refine WL_skip rfl rfl rfl ?_
      refine WL_take rfl ?_
      refine s_pick_f rfl rfl rfl ?_
      refine s_pick_f rfl rfl rfl ?_
      refine s_move rfl rfl ?_
      refine WL_take rfl ?_
      refine s_move rfl rfl ?_
      refine WL_take rfl ?_
      refine s_neq rfl rfl rfl ?_
      refine s_pick_f rfl rfl rfl ?_
      refine s_move rfl rfl ?_
      refine WL_know (s := 153) (c := false) rfl (rfl) ?_
      refine WL_take rfl ?_
      refine s_fieldAddr rfl rfl (FA38_1 _ _) ?_
      refine WL_take rfl ?_
      refine s_fieldAddr rfl rfl (FA28_2 _ _) ?_
      refine WL_take rfl ?_
      first
        | refine s_load Try.isAgg3 rfl rfl (hs.cell (k := 0) rfl rfl) ?_
        | refine s_load Try.isAgg3 rfl rfl (hs.cell (k := 1) rfl rfl) ?_
        | refine s_load Try.isAgg3 rfl rfl (hs.cell (k := 2) rfl rfl) ?_
        | refine s_load Try.isAgg3 rfl rfl (hs.cell (k := 3) rfl rfl) ?_
        | refine s_load Try.isAgg3 rfl rfl (hs.cell (k := 4) rfl rfl) ?_
        | refine s_load Try.isAgg3 rfl rfl (hs.cell (k := 5) rfl rfl) ?_
      refine WL_take rfl ?_
      refine s_fieldAddr rfl rfl (FA38_1 _ _) ?_
      refine WL_take rfl ?_
      refine s_fieldAddr rfl rfl (FA28_2 _ _) ?_
      refine WL_take rfl ?_
      first
        | refine s_load Try.isAgg3 rfl rfl (hs.cell (k := 0) rfl rfl) ?_
        | refine s_load Try.isAgg3 rfl rfl (hs.cell (k := 1) rfl rfl) ?_
        | refine s_load Try.isAgg3 rfl rfl (hs.cell (k := 2) rfl rfl) ?_
        | refine s_load Try.isAgg3 rfl rfl (hs.cell (k := 3) rfl rfl) ?_
        | refine s_load Try.isAgg3 rfl rfl (hs.cell (k := 4) rfl rfl) ?_
        | refine s_load Try.isAgg3 rfl rfl (hs.cell (k := 5) rfl rfl) ?_
      refine WL_take rfl ?_
      first | (refine s_add' rfl rfl rfl ?hx ?_; case hx => (constructor <;> first | omega | (simp only; omega))) | refine s_add rfl rfl rfl ?_
      refine WL_take rfl ?_
      refine s_neq rfl rfl rfl ?_
      refine s_pick_f rfl rfl rfl ?_
      refine WL_nil ?_
      refine n_then ?_
      refine W_cond_kf rfl ((by simp; omega)) ?_
      refine W_skip ?_
      refine n_blk ?_
      refine n_then ?_
      refine W_region ?_
      refine s_move rfl rfl ?_
      first | (refine s_add' rfl rfl rfl ?hx ?_; case hx => (constructor <;> first | omega | (simp only; omega))) | refine s_add rfl rfl rfl ?_
      refine s_assign rfl rfl ?_
      refine WL_nil ?_
      refine n_loop ?_
      exact ⟨(i + 1, f2, LT7), ⟨rfl, rfl, rfl, rfl, rfl, rfl, rfl, trivial⟩, ⟨hs.tail.tail.tail.tail.tail, hT, g_next hF2, by simp only; omega⟩, by simp only; omega⟩
  · skip
    try simp only [decide_eq_true_eq, decide_eq_false_iff_not] at hc45
    refine W_exit ?_
    refine x_then ?_
    refine x_then ?_
    refine exit_hit ?_
    refine n_then ?_
    refine W_seq ?_
    refine W_region ?_
    refine s_move rfl rfl ?_
    refine s_callL (M := []) (L1 := LT) (X := []) Try.call23 rfl rfl (by simpa using hs) (fun h => commands_ok p f [] LT w hT h (by simp)) ?_
    clear hs; rintro v w LT8 ⟨cs2, Lr, rfl, hOr, hbs, -⟩ - hs
    obtain ⟨_, tc9, ta9, rfl, rfl⟩ := hOr.form
    refine s_len rfl rfl (LN44 _ _ _ _) ?_
    refine s_eql rfl rfl rfl ?_
    refine s_move rfl rfl ?_
    refine WL_know (s := 167) (c := true) rfl (rfl) ?_
    refine WL_take rfl ?_
    refine s_call Try.call13 rfl rfl (lives_ok w) ?_
    rintro r w ⟨hst, rfl⟩
    replace hs := hs.fwd1 hst
    refine s_pick_t rfl rfl rfl ?_
    refine s_assign rfl rfl ?_
    refine WL_nil ?_
    refine n_then ?_
    refine W_ret ?_
    exact end1 rfl rfl ⟨hs.fwd, rfl⟩
end Go.Proofs.Ytlchcfegfonnmaa
