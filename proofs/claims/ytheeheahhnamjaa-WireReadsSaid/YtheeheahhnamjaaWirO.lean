/- WireOwn. -/
import Derived.Test.YtheeheahhnamjaaWirL
set_option linter.unusedVariables false
set_option linter.unusedSimpArgs false
namespace Go.Proofs.Ytheeheahhnamjaa
open Go.SL
theorem own_set8 {e n c g i : Nat} {zs : List Int} {sp : List Value} (x : Int) (h : OwnS e 1 (.slice (some ⟨g, 0, none⟩) n c) n (u8s zs) [(g, Blk e (u8s zs ++ sp))]) (hi : i < n) :
    OwnS e 1 (.slice (some ⟨g, 0, none⟩) n c) n (u8s (zs.set i x)) [(g, Blk e ((u8s zs ++ sp).set (0 + (i : Int).toNat) (.int .u8 x)))] := by
  obtain ⟨h1, h2⟩ := h
  have hl : zs.length = n := by simpa using h1
  rcases h2 with ⟨_, h2, _⟩ | ⟨g', cap, sp', h2, h3, h4, h5, h6⟩
  · omega
  · cases h2
    have h7 : u8s zs ++ sp = u8s zs ++ sp' := by simpa using h6
    have h8 : sp = sp' := List.append_cancel_left h7
    subst h8
    refine ⟨by simpa using hl, .inr ⟨g, c, sp, rfl, h3, h4, by simpa using h5, ?_⟩⟩
    rw [Nat.zero_add, Int.toNat_natCast, List.set_append_left _ _ (by simpa [hl] using hi)]; simp [List.map_set]
theorem own_setI {e n c g i : Nat} {zs : List Int} {sp : List Value} (x : Int) (h : OwnS e 1 (.slice (some ⟨g, 0, none⟩) n c) n (i64s zs) [(g, Blk e (i64s zs ++ sp))]) (hi : i < n) :
    OwnS e 1 (.slice (some ⟨g, 0, none⟩) n c) n (i64s (zs.set i x)) [(g, Blk e ((i64s zs ++ sp).set (0 + (i : Int).toNat) (.int .i64 x)))] := by
  obtain ⟨h1, h2⟩ := h
  have hl : zs.length = n := by simpa using h1
  rcases h2 with ⟨_, h2, _⟩ | ⟨g', cap, sp', h2, h3, h4, h5, h6⟩
  · omega
  · cases h2
    have h7 : i64s zs ++ sp = i64s zs ++ sp' := by simpa using h6
    have h8 : sp = sp' := List.append_cancel_left h7
    subst h8
    refine ⟨by simpa using hl, .inr ⟨g, c, sp, rfl, h3, h4, by simpa using h5, ?_⟩⟩
    rw [Nat.zero_add, Int.toNat_natCast, List.set_append_left _ _ (by simpa [hl] using hi)]; simp [List.map_set]
theorem St_apart2 {F : List Nat} {w0 w : World} {A B : Hp} {b : Nat} (hs : St F w0 w (A ++ B)) (hb : b ∈ ids B) : b ∉ ids A := St_apart (M := []) hs hb
structure OS where
  i : Nat
  zs : List Int
  L : Hp
set_option maxHeartbeats 2000000 in
theorem wireOwn_ok (v u : Value) (xs ys : List Int) (w0 : World) (hv : Sl w0 v xs.length (u8s xs)) (hx : ∀ z ∈ xs, isB z) (hu : Sl w0 u ys.length (i64s ys)) (hy : ∀ z ∈ ys, isI64 z) :
    Ret Try.prog 5 [v, u].toArray w0 fun r w' => Fwd [] w0 w' ∧ r = .bool true := by
  obtain ⟨a, c, rfl, hc⟩ := hv.len_le
  obtain ⟨ua, uc, rfl, huc⟩ := hu.len_le
  refine Ret_start fun w hs => ?_
  refine Ret_of Try.func5 rfl Try.ntmps5 rfl ?_
  refine W_seq ?_
  refine W_region ?_
  refine s_assign rfl rfl ?_
  refine WL_nil ?_
  refine n_then ?_
  refine W_seq ?_
  refine W_region ?_
  refine s_move rfl rfl ?_
  refine s_call Try.call20 rfl rfl (few_ok _ xs 30 w (hv.fwd0 hs.fwd) (by omega)) ?_
  rintro r w ⟨Lo, hOo, hst⟩
  replace hs := St.back0 hs hst
  simp only [List.append_nil] at hs
  clear hst
  have hbl : (xs.take 30).length = min xs.length 30 := by rw [List.length_take, Nat.min_comm]
  rw [← hbl] at hOo
  have hB : ∀ z ∈ xs.take 30, isB z := fun z hz => hx z (List.mem_of_mem_take hz)
  have hb30 : (xs.take 30).length ≤ 30 := by rw [hbl]; omega
  generalize xs.take 30 = bs at hOo hB hb30
  obtain ⟨_, oc, oa, rfl, rfl⟩ := hOo.form
  refine s_assign rfl rfl ?_
  refine WL_nil ?_
  refine n_then ?_
  refine W_seq ?_
  refine W_region ?_
  refine s_move rfl rfl ?_
  refine s_call Try.call27 rfl rfl (ints_ok _ ys 10 w (hu.fwd0 hs.fwd) (by omega)) ?_
  rintro r w ⟨Ln, hOn, hst⟩
  replace hs := St.back0 hs hst
  clear hst
  have hnl : (ys.take 10).length = min ys.length 10 := by rw [List.length_take, Nat.min_comm]
  rw [← hnl] at hOn
  have hI : ∀ z ∈ ys.take 10, isI64 z := fun z hz => hy z (List.mem_of_mem_take hz)
  have hn10 : (ys.take 10).length ≤ 10 := by rw [hnl]; omega
  generalize hns : ys.take 10 = ns at hOn hI hn10
  obtain ⟨_, nc, na, rfl, rfl⟩ := hOn.form
  refine s_assign rfl rfl ?_
  refine WL_nil ?_
  refine n_then ?_
  refine W_seq ?_
  refine W_region ?_
  refine s_alloc rfl AL26 hs ?_; clear hs; intro b7 w hs
  refine WL_nil ?_
  refine n_then ?_
  refine W_seq ?_
  refine W_region ?_
  refine s_move rfl rfl ?_
  refine s_callL (M := []) (L1 := [_]) (X := Ln ++ Lo) Try.call28 rfl rfl hs (fun h => wRaw_ok b7 [] bs _ _ w (wr_new b7) h (St_lastSl (M := [_]) (A := Ln) hs hOo) (fun a m c he hne => by cases he; exact St_apart2 (A := [_]) (B := Ln ++ Lo) hs (by rw [ids_append]; exact List.mem_append_right _ (OwnS_in hOo hne))) (by simp) (by omega)) ?_
  clear hs; rintro v w LW ⟨hW, rfl⟩ - hs
  simp only [List.nil_append] at hs hW
  have hwl : (uvar bs.length ++ bs).length ≤ 40 := by have := uvar_len10 (n := bs.length) (by omega); rw [List.length_append]; omega
  refine WL_nil ?_
  refine n_then ?_
  refine W_seq ?_
  refine W_region ?_
  refine s_move rfl rfl ?_
  refine s_callL (M := []) (L1 := LW) (X := Ln ++ Lo) Try.call29 rfl rfl hs (fun h => wInts_ok b7 _ ns _ _ w hW h (hOn.sl (M := Lo ++ LW) (by simpa [cat] using St.reord [LW, Ln, Lo] [1, 2, 0] [] hs rfl)) hI (fun a m c he hne => by cases he; exact St_apart2 (A := LW) (B := Ln ++ Lo) hs (by rw [ids_append]; exact List.mem_append_left _ (OwnS_in hOn hne))) (by omega) (by omega)) ?_
  clear hs hW; rintro v w LW ⟨hW, rfl⟩ - hs
  simp only [List.nil_append] at hs
  have hel : (encInts ns).length ≤ 100 := by
    have h1 : ∀ l : List Int, (∀ z ∈ l, isI64 z) → (encInts l).length ≤ 10 * l.length := by
      intro l
      induction l with
      | nil => simp [encInts]
      | cons z l ih =>
        intro hz
        have := ih (fun q hq => hz q (List.mem_cons_of_mem _ hq))
        have h2 := uvar_len10 (zz_lt (hz z (by simp)))
        rw [encInts, List.flatMap_cons, List.length_append, List.length_cons]; rw [encInts] at this; omega
    have := h1 ns hI; omega
  have hal : (uvar bs.length ++ bs ++ uvar ns.length ++ encInts ns).length ≤ 200 := by have := uvar_len10 (n := ns.length) (by omega); rw [List.length_append, List.length_append]; omega
  have hall : uvar bs.length ++ bs ++ uvar ns.length ++ encInts ns = uvar bs.length ++ (bs ++ (uvar ns.length ++ (ns.flatMap (fun n => uvar (zz n)) ++ []))) := by simp [encInts]
  have hallB : ∀ z ∈ uvar bs.length ++ bs ++ uvar ns.length ++ encInts ns, isB z := by
    intro z hz
    simp only [List.mem_append, encInts, List.mem_flatMap] at hz
    rcases hz with ((hz | hz) | hz) | ⟨q, _, hz⟩
    · exact uvar_isB _ z hz
    · exact hB z hz
    · exact uvar_isB _ z hz
    · exact uvar_isB _ z hz
  generalize hAA : uvar bs.length ++ bs ++ uvar ns.length ++ encInts ns = all at hW hal hall hallB
  refine WL_nil ?_
  refine n_then ?_
  refine W_seq ?_
  refine W_region ?_
  refine s_callL (M := []) (L1 := LW) (X := Ln ++ Lo) Try.call16 rfl rfl hs (fun h => wDone_ok b7 _ _ w hW h (by omega)) ?_
  clear hs; rintro v w LW2 ⟨Lf, rfl, hOf⟩ - hs
  simp only [List.nil_append, List.append_assoc] at hs
  obtain ⟨_, fc, fa, rfl, rfl⟩ := hOf.form
  refine s_assign rfl rfl ?_
  refine WL_nil ?_
  refine n_then ?_
  refine W_seq ?_
  refine W_region ?_
  refine s_buildSlice rfl rfl (BS24_0 ) hs ?_; clear hs; intro b27 w hs
  refine s_move rfl rfl ?_
  refine s_append El24 rfl rfl rfl (OwnS.bare _ _ _) (Lv := []) hs (hOf.sl (M := (Ln ++ Lo) ++ ([_] ++ LW)) (by simpa [cat] using St.reord [[_], LW, Lf, Ln ++ Lo] [2, 3, 0, 1] [] hs rfl)) (by simp) (u8s_one _) (by omega) ?_
  clear hs; intro v' w La hOa hs
  simp only [Nat.zero_add, List.nil_append] at hOa
  obtain ⟨_, ac, aa, rfl, rfl⟩ := hOa.form
  replace hs : St [] w0 w (Lo ++ (La ++ (LW ++ (Lf ++ Ln)))) := by simpa [cat] using St.reord [La, [_], LW, Lf, Ln, Lo] [5, 0, 2, 3, 4] [1] (by simpa [cat] using hs) rfl
  refine s_assign rfl rfl ?_
  refine WL_nil ?_
  refine n_then ?_
  refine W_seq ?_
  refine W_seq ?_
  refine W_region ?_
  refine s_assign rfl rfl ?_
  refine WL_nil ?_
  refine n_then ?_
  refine W_block ?_
  refine W_loop (σ := OS) (fun s => [(1, .slice ua ys.length uc), (5, .slice oa bs.length oc), (6, .slice na ns.length nc), (7, .pointer (some ⟨b7, 0, none⟩)), (8, .slice fa all.length fc), (9, .slice aa all.length ac), (10, .int .i64 (s.i : Int))]) (fun s w => St [] w0 w (s.L ++ (La ++ (LW ++ (Lf ++ Ln)))) ∧ OwnS 5 1 (.slice oa bs.length oc) bs.length (u8s s.zs) s.L ∧ s.i ≤ bs.length) (fun s => bs.length - s.i) ⟨0, bs, Lo⟩ ⟨rfl, rfl, rfl, rfl, rfl, rfl, rfl, trivial⟩ ⟨hs, hOo, Nat.zero_le _⟩ ?_
  clear hs hOo
  rintro ⟨i, zs, Lz⟩ w ⟨hs, hOz, hil⟩
  simp only at hs hOz hil ⊢
  refine W_seq ?_
  refine W_seq ?_
  refine W_region ?_
  refine s_move rfl rfl ?_
  refine s_move rfl rfl ?_
  refine s_len rfl rfl (LN24 _ _ _ _) ?_
  refine s_lss rfl rfl rfl ?_
  refine WL_nil ?_
  refine n_then ?_
  refine W_cond rfl (fun hc33 => ?_) (fun hc33 => ?_)
  · skip
    simp only [decide_eq_true_eq, decide_eq_false_iff_not] at hc33
    obtain ⟨g, cap, sp, hg, hcap, rfl⟩ := hOz.block (by omega)
    cases hg
    simp only [List.cons_append, List.nil_append] at hs
    refine W_skip ?_
    refine n_then ?_
    refine W_seq ?_
    refine W_block ?_
    refine W_region ?_
    refine s_move rfl rfl ?_
    refine s_move rfl rfl ?_
    (refine s_indexAddr1 El24 rfl rfl rfl ?hx ?_; case hx => (constructor <;> first | omega | (simp; omega)))
    refine s_store Try.sizeOf5 rfl rfl rfl hs (kk := 0) rfl (by have := hOz.1; simp at this ⊢; omega) ?_
    clear hs; intro w hs
    simp only [List.set_cons_zero] at hs
    refine WL_nil ?_
    refine n_blk ?_
    refine n_then ?_
    refine W_region ?_
    refine s_move rfl rfl ?_
    first | (refine s_add' rfl rfl rfl ?hx ?_; case hx => (constructor <;> first | omega | (simp only; omega))) | refine s_add rfl rfl rfl ?_
    refine s_assign rfl rfl ?_
    refine WL_nil ?_
    refine n_loop ?_
    exact ⟨⟨i + 1, zs.set i 7, [_]⟩, ⟨rfl, rfl, rfl, rfl, rfl, rfl, rfl, trivial⟩, ⟨hs, own_set8 7 hOz (by omega), by simp only; omega⟩, by simp only; omega⟩
  · skip
    simp only [decide_eq_true_eq, decide_eq_false_iff_not] at hc33
    replace hs : St [] w0 w (Ln ++ (La ++ (LW ++ Lf))) := by simpa [cat] using St.reord [Lz, La, LW, Lf, Ln] [4, 1, 2, 3] [0] (by simpa [cat] using hs) rfl
    clear hOz
    refine W_exit ?_
    refine x_then ?_
    refine x_then ?_
    refine exit_hit ?_
    refine n_then ?_
    refine W_seq ?_
    refine W_seq ?_
    refine W_region ?_
    refine s_assign rfl rfl ?_
    refine WL_nil ?_
    refine n_then ?_
    refine W_block ?_
    refine W_loop (σ := OS) (fun s => [(1, .slice ua ys.length uc), (6, .slice na ns.length nc), (7, .pointer (some ⟨b7, 0, none⟩)), (8, .slice fa all.length fc), (9, .slice aa all.length ac), (11, .int .i64 (s.i : Int))]) (fun s w => St [] w0 w (s.L ++ (La ++ (LW ++ Lf))) ∧ OwnS 3 1 (.slice na ns.length nc) ns.length (i64s s.zs) s.L ∧ s.i ≤ ns.length) (fun s => ns.length - s.i) ⟨0, ns, Ln⟩ ⟨rfl, rfl, rfl, rfl, rfl, rfl, trivial⟩ ⟨hs, hOn, Nat.zero_le _⟩ ?_
    clear hs hOn hil
    rintro ⟨i, zs, Lz⟩ w ⟨hs, hOz, hil⟩
    simp only at hs hOz hil ⊢
    refine W_seq ?_
    refine W_seq ?_
    refine W_region ?_
    refine s_move rfl rfl ?_
    refine s_move rfl rfl ?_
    refine s_len rfl rfl (LN33 _ _ _ _) ?_
    refine s_lss rfl rfl rfl ?_
    refine WL_nil ?_
    refine n_then ?_
    refine W_cond rfl (fun hc42 => ?_) (fun hc42 => ?_)
    · skip
      simp only [decide_eq_true_eq, decide_eq_false_iff_not] at hc42
      obtain ⟨g, cap, sp, hg, hcap, rfl⟩ := hOz.block (by omega)
      cases hg
      simp only [List.cons_append, List.nil_append] at hs
      refine W_skip ?_
      refine n_then ?_
      refine W_seq ?_
      refine W_block ?_
      refine W_region ?_
      refine s_move rfl rfl ?_
      refine s_move rfl rfl ?_
      (refine s_indexAddr1 El33 rfl rfl rfl ?hx ?_; case hx => (constructor <;> first | omega | (simp; omega)))
      refine s_store Try.sizeOf3 rfl rfl rfl hs (kk := 0) rfl (by have := hOz.1; simp at this ⊢; omega) ?_
      clear hs; intro w hs
      simp only [List.set_cons_zero] at hs
      refine WL_nil ?_
      refine n_blk ?_
      refine n_then ?_
      refine W_region ?_
      refine s_move rfl rfl ?_
      first | (refine s_add' rfl rfl rfl ?hx ?_; case hx => (constructor <;> first | omega | (simp only; omega))) | refine s_add rfl rfl rfl ?_
      refine s_assign rfl rfl ?_
      refine WL_nil ?_
      refine n_loop ?_
      exact ⟨⟨i + 1, zs.set i 7, [_]⟩, ⟨rfl, rfl, rfl, rfl, rfl, rfl, trivial⟩, ⟨hs, own_setI 7 hOz (by omega), by simp only; omega⟩, by simp only; omega⟩
    · skip
      simp only [decide_eq_true_eq, decide_eq_false_iff_not] at hc42
      replace hs : St [] w0 w (Lf ++ (La ++ LW)) := by simpa [cat] using St.reord [Lz, La, LW, Lf] [3, 1, 2] [0] (by simpa [cat] using hs) rfl
      clear hOz
      refine W_exit ?_
      refine x_then ?_
      refine x_then ?_
      refine exit_hit ?_
      refine n_then ?_
      refine W_seq ?_
      refine W_seq ?_
      refine W_region ?_
      refine s_assign rfl rfl ?_
      refine WL_nil ?_
      refine n_then ?_
      refine W_block ?_
      refine W_loop (σ := OS) (fun s => [(1, .slice ua ys.length uc), (7, .pointer (some ⟨b7, 0, none⟩)), (8, .slice fa all.length fc), (9, .slice aa all.length ac), (12, .int .i64 (s.i : Int))]) (fun s w => St [] w0 w (s.L ++ (La ++ LW)) ∧ OwnS 5 1 (.slice fa all.length fc) all.length (u8s s.zs) s.L ∧ s.i ≤ all.length) (fun s => all.length - s.i) ⟨0, all, Lf⟩ ⟨rfl, rfl, rfl, rfl, rfl, trivial⟩ ⟨hs, hOf, Nat.zero_le _⟩ ?_
      clear hs hOf hil
      rintro ⟨i, zs, Lz⟩ w ⟨hs, hOz, hil⟩
      simp only at hs hOz hil ⊢
      refine W_seq ?_
      refine W_seq ?_
      refine W_region ?_
      refine s_move rfl rfl ?_
      refine s_move rfl rfl ?_
      refine s_len rfl rfl (LN24 _ _ _ _) ?_
      refine s_lss rfl rfl rfl ?_
      refine WL_nil ?_
      refine n_then ?_
      refine W_cond rfl (fun hc51 => ?_) (fun hc51 => ?_)
      · skip
        simp only [decide_eq_true_eq, decide_eq_false_iff_not] at hc51
        obtain ⟨g, cap, sp, hg, hcap, rfl⟩ := hOz.block (by omega)
        cases hg
        simp only [List.cons_append, List.nil_append] at hs
        refine W_skip ?_
        refine n_then ?_
        refine W_seq ?_
        refine W_block ?_
        refine W_region ?_
        refine s_move rfl rfl ?_
        refine s_move rfl rfl ?_
        (refine s_indexAddr1 El24 rfl rfl rfl ?hx ?_; case hx => (constructor <;> first | omega | (simp; omega)))
        refine s_store Try.sizeOf5 rfl rfl rfl hs (kk := 0) rfl (by have := hOz.1; simp at this ⊢; omega) ?_
        clear hs; intro w hs
        simp only [List.set_cons_zero] at hs
        refine WL_nil ?_
        refine n_blk ?_
        refine n_then ?_
        refine W_region ?_
        refine s_move rfl rfl ?_
        first | (refine s_add' rfl rfl rfl ?hx ?_; case hx => (constructor <;> first | omega | (simp only; omega))) | refine s_add rfl rfl rfl ?_
        refine s_assign rfl rfl ?_
        refine WL_nil ?_
        refine n_loop ?_
        exact ⟨⟨i + 1, zs.set i 9, [_]⟩, ⟨rfl, rfl, rfl, rfl, rfl, trivial⟩, ⟨hs, own_set8 9 hOz (by omega), by simp only; omega⟩, by simp only; omega⟩
      · skip
        simp only [decide_eq_true_eq, decide_eq_false_iff_not] at hc51
        replace hs : St [] w0 w (La ++ LW) := hs.right
        clear hOz
        refine W_exit ?_
        refine x_then ?_
        refine x_then ?_
        refine exit_hit ?_
        refine n_then ?_
        refine W_seq ?_
        refine W_seq ?_
        refine W_region ?_
        refine s_callL (M := La) (L1 := LW) (X := []) Try.call16 rfl rfl (by simpa using hs) (fun h => wDone_ok b7 _ _ w hW h (by omega)) ?_
        clear hs; rintro v w LW2 ⟨Lg, rfl, hOg⟩ - hs
        simp only [List.append_nil] at hs
        refine s_move rfl rfl ?_
        refine s_call Try.call30 rfl rfl (sameBytes_ok _ _ all all w (St_lastSl (M := La) (A := LW) hs hOg) (hOa.sl hs) (by omega)) ?_
        rintro r w ⟨hst, rfl⟩
        replace hs : St [] w0 w La := (hs.fwd1 hst).left
        clear hst
        refine s_not rfl rfl ?_
        refine WL_nil ?_
        refine n_then ?_
        refine W_cond_kf rfl ((by simp)) ?_
        refine W_skip ?_
        refine n_then ?_
        refine W_seq ?_
        refine W_region ?_
        refine s_buildSlice rfl rfl (BS24_0 ) hs ?_; clear hs; intro b61 w hs
        refine s_move rfl rfl ?_
        refine s_append El24 rfl rfl rfl (OwnS.bare _ _ _) (Lv := []) hs (hOa.sl (M := [_]) (hs.swap (A := [_]))) (by simp) (u8s_one _) (by omega) ?_
        clear hs; intro v' w Ld hOd hs
        simp only [Nat.zero_add, List.nil_append] at hOd
        obtain ⟨_, dc, da, rfl, rfl⟩ := hOd.form
        replace hs : St [] w0 w Ld := hs.left
        refine s_assign rfl rfl ?_
        refine WL_nil ?_
        refine n_then ?_
        refine W_seq ?_
        refine W_region ?_
        refine s_move rfl rfl ?_
        refine s_call Try.call21 rfl rfl (read_ok _ all w (hOd.sl (M := []) (by simpa using hs)) (by omega) hallB) ?_
        rintro r w ⟨p, LP, rfl, hP, hst⟩
        replace hs := (St.back0 hs hst).swap
        clear hst
        refine s_assign rfl rfl ?_
        refine WL_nil ?_
        refine n_then ?_
        refine W_seq ?_
        refine W_seq ?_
        refine W_region ?_
        refine s_move rfl rfl ?_
        refine s_eql_ptr_nil Try.underlying39 rfl rfl rfl ?_
        refine WL_nil ?_
        refine n_then ?_
        refine W_cond_kf rfl (rfl) ?_
        refine W_skip ?_
        refine n_then ?_
        refine W_seq ?_
        refine W_seq ?_
        refine W_region ?_
        refine s_assign rfl rfl ?_
        refine WL_nil ?_
        refine n_then ?_
        refine W_block ?_
        refine W_loop (σ := OS) (fun s => [(1, .slice ua ys.length uc), (13, .slice da all.length dc), (14, .pointer (some ⟨p, 0, none⟩)), (15, .int .i64 (s.i : Int))]) (fun s w => St [] w0 w (s.L ++ LP) ∧ OwnS 5 1 (.slice da all.length dc) all.length (u8s s.zs) s.L ∧ s.i ≤ all.length) (fun s => all.length - s.i) ⟨0, all, Ld⟩ ⟨rfl, rfl, rfl, rfl, trivial⟩ ⟨hs, hOd, Nat.zero_le _⟩ ?_
        clear hs hOd hil
        rintro ⟨i, zs, Lz⟩ w ⟨hs, hOz, hil⟩
        simp only at hs hOz hil ⊢
        refine W_seq ?_
        refine W_seq ?_
        refine W_region ?_
        refine s_move rfl rfl ?_
        refine s_move rfl rfl ?_
        refine s_len rfl rfl (LN24 _ _ _ _) ?_
        refine s_lss rfl rfl rfl ?_
        refine WL_nil ?_
        refine n_then ?_
        refine W_cond rfl (fun hc71 => ?_) (fun hc71 => ?_)
        · skip
          simp only [decide_eq_true_eq, decide_eq_false_iff_not] at hc71
          obtain ⟨g, cap, sp, hg, hcap, rfl⟩ := hOz.block (by omega)
          cases hg
          simp only [List.cons_append, List.nil_append] at hs
          refine W_skip ?_
          refine n_then ?_
          refine W_seq ?_
          refine W_block ?_
          refine W_region ?_
          refine s_move rfl rfl ?_
          refine s_move rfl rfl ?_
          (refine s_indexAddr1 El24 rfl rfl rfl ?hx ?_; case hx => (constructor <;> first | omega | (simp; omega)))
          refine s_store Try.sizeOf5 rfl rfl rfl hs (kk := 0) rfl (by have := hOz.1; simp at this ⊢; omega) ?_
          clear hs; intro w hs
          simp only [List.set_cons_zero] at hs
          refine WL_nil ?_
          refine n_blk ?_
          refine n_then ?_
          refine W_region ?_
          refine s_move rfl rfl ?_
          first | (refine s_add' rfl rfl rfl ?hx ?_; case hx => (constructor <;> first | omega | (simp only; omega))) | refine s_add rfl rfl rfl ?_
          refine s_assign rfl rfl ?_
          refine WL_nil ?_
          refine n_loop ?_
          exact ⟨⟨i + 1, zs.set i 255, [_]⟩, ⟨rfl, rfl, rfl, rfl, trivial⟩, ⟨hs, own_set8 255 hOz (by omega), by simp only; omega⟩, by simp only; omega⟩
        · skip
          simp only [decide_eq_true_eq, decide_eq_false_iff_not] at hc71
          replace hs : St [] w0 w LP := hs.right
          clear hOz
          have hrr : rdRaw ⟨all, 0⟩ = (bs, ⟨uvar ns.length ++ (ns.flatMap (fun n => uvar (zz n)) ++ []), 0⟩) := by rw [hall]; exact rdRaw_uvar (by omega)
          refine W_exit ?_
          refine x_then ?_
          refine x_then ?_
          refine exit_hit ?_
          refine n_then ?_
          refine W_seq ?_
          refine W_region ?_
          refine s_move rfl rfl ?_
          refine s_callL (M := []) (L1 := LP) (X := []) Try.call31 rfl rfl (by simpa using hs) (fun h => rRaw_ok p _ _ w hP h) ?_
          clear hs hP; rintro v w LP2 ⟨LP, Lx, rfl, hP, hOx⟩ - hs
          simp only [List.nil_append, List.append_nil] at hs
          rw [hrr] at hP hOx
          simp only at hP hOx
          obtain ⟨_, xc, xa, rfl, rfl⟩ := hOx.form
          replace hs := hs.swap
          refine s_assign rfl rfl ?_
          refine WL_nil ?_
          refine n_then ?_
          refine W_seq ?_
          refine W_seq ?_
          refine W_region ?_
          refine s_assign rfl rfl ?_
          refine WL_nil ?_
          refine n_then ?_
          refine W_block ?_
          refine W_loop (σ := OS) (fun s => [(1, .slice ua ys.length uc), (14, .pointer (some ⟨p, 0, none⟩)), (16, .slice xa bs.length xc), (17, .int .i64 (s.i : Int))]) (fun s w => St [] w0 w (s.L ++ LP) ∧ OwnS 5 1 (.slice xa bs.length xc) bs.length (u8s s.zs) s.L ∧ s.i ≤ bs.length) (fun s => bs.length - s.i) ⟨0, bs, Lx⟩ ⟨rfl, rfl, rfl, rfl, trivial⟩ ⟨hs, hOx, Nat.zero_le _⟩ ?_
          clear hs hOx hil
          rintro ⟨i, zs, Lz⟩ w ⟨hs, hOz, hil⟩
          simp only at hs hOz hil ⊢
          refine W_seq ?_
          refine W_seq ?_
          refine W_region ?_
          refine s_move rfl rfl ?_
          refine s_move rfl rfl ?_
          refine s_len rfl rfl (LN24 _ _ _ _) ?_
          refine s_lss rfl rfl rfl ?_
          refine WL_nil ?_
          refine n_then ?_
          refine W_cond rfl (fun hc82 => ?_) (fun hc82 => ?_)
          · skip
            simp only [decide_eq_true_eq, decide_eq_false_iff_not] at hc82
            obtain ⟨g, cap, sp, hg, hcap, rfl⟩ := hOz.block (by omega)
            cases hg
            simp only [List.cons_append, List.nil_append] at hs
            refine W_skip ?_
            refine n_then ?_
            refine W_seq ?_
            refine W_block ?_
            refine W_region ?_
            refine s_move rfl rfl ?_
            refine s_move rfl rfl ?_
            (refine s_indexAddr1 El24 rfl rfl rfl ?hx ?_; case hx => (constructor <;> first | omega | (simp; omega)))
            refine s_store Try.sizeOf5 rfl rfl rfl hs (kk := 0) rfl (by have := hOz.1; simp at this ⊢; omega) ?_
            clear hs; intro w hs
            simp only [List.set_cons_zero] at hs
            refine WL_nil ?_
            refine n_blk ?_
            refine n_then ?_
            refine W_region ?_
            refine s_move rfl rfl ?_
            first | (refine s_add' rfl rfl rfl ?hx ?_; case hx => (constructor <;> first | omega | (simp only; omega))) | refine s_add rfl rfl rfl ?_
            refine s_assign rfl rfl ?_
            refine WL_nil ?_
            refine n_loop ?_
            exact ⟨⟨i + 1, zs.set i 1, [_]⟩, ⟨rfl, rfl, rfl, rfl, trivial⟩, ⟨hs, own_set8 1 hOz (by omega), by simp only; omega⟩, by simp only; omega⟩
          · skip
            simp only [decide_eq_true_eq, decide_eq_false_iff_not] at hc82
            replace hs : St [] w0 w LP := hs.right
            clear hOz
            have hri : rdInts ⟨uvar ns.length ++ (ns.flatMap (fun n => uvar (zz n)) ++ []), 0⟩ = (ns, ⟨[], 0⟩) := rdInts_uvar hI (by omega)
            refine W_exit ?_
            refine x_then ?_
            refine x_then ?_
            refine exit_hit ?_
            refine n_then ?_
            refine W_seq ?_
            refine W_region ?_
            refine s_move rfl rfl ?_
            refine s_callL (M := []) (L1 := LP) (X := []) Try.call33 rfl rfl (by simpa using hs) (fun h => rInts_ok p _ _ w hP h) ?_
            clear hs hP; rintro v w LP2 ⟨LP, Ly, rfl, hP, hOy⟩ - hs
            simp only [List.nil_append, List.append_nil] at hs
            rw [hri] at hP hOy
            simp only at hP hOy
            refine s_move rfl rfl ?_
            refine s_call Try.call27 rfl rfl (ints_ok _ ys 10 w (hu.fwd0 hs.fwd) (by omega)) ?_
            rintro r w ⟨Lk, hOk, hst⟩
            replace hs := St.back0 hs hst
            clear hst
            rw [← hnl, hns] at hOk
            refine s_call Try.call32 rfl rfl (sameInts_ok _ _ ns ns w (St_lastSl (M := Lk) (A := LP) hs hOy) (hOk.sl hs) (by omega)) ?_
            rintro r w ⟨hst, rfl⟩
            replace hs := hs.fwd1 hst
            clear hst
            refine s_move rfl rfl ?_
            refine WL_know (s := 93) (c := true) rfl ((by simp)) ?_
            refine WL_take rfl ?_
            refine s_move rfl rfl ?_
            refine WL_take rfl ?_
            refine s_callL (M := Lk) (L1 := LP) (X := Ly) Try.call25 rfl rfl hs (fun h => rEnd_ok p _ _ w hP h) ?_
            clear hs; rintro v w LP2 ⟨rfl, rfl⟩ - hs
            refine WL_take rfl ?_
            refine s_eql rfl rfl rfl ?_
            refine s_pick_t rfl rfl rfl ?_
            refine s_move rfl rfl ?_
            refine WL_know (s := 98) (c := true) rfl (rfl) ?_
            refine WL_take rfl ?_
            refine s_call Try.call17 rfl rfl (lives_ok w) ?_
            rintro r w ⟨hst, rfl⟩
            replace hs := hs.fwd1 hst
            refine s_pick_t rfl rfl rfl ?_
            refine s_assign rfl rfl ?_
            refine WL_nil ?_
            refine n_then ?_
            refine W_ret ?_
            exact end1 rfl rfl ⟨hs.fwd, rfl⟩
end Go.Proofs.Ytheeheahhnamjaa
