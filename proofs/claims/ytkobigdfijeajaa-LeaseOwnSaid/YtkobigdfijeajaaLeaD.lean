/- Contracts of package lease: Commands. -/
import Derived.Test.YtkobigdfijeajaaLeaC
import Derived.Test.YtkobigdfijeajaaCut
set_option linter.unusedVariables false
set_option linter.unusedSimpArgs false
namespace Go.Proofs.Ytkobigdfijeajaa
open Go.SL
theorem cblks_of {c : Cmd} {cs : List Cmd} (h : c ∈ cs) : ∀ x ∈ c.L, x ∈ cblks cs := fun x hx => List.mem_flatMap.2 ⟨c, h, hx⟩
structure CS where
  i : Nat
  v : Value
  cs : List Cmd
  L : Hp
set_option maxHeartbeats 1000000 in
theorem commands_ok (p : Nat) (f : ByteArray → Option Lz) (cs : List Cmd) (L0 : Hp) (w0 : World) (hT : TabAt p f cs L0) (hs : St (ids L0) w0 w0 L0) (hcl : cs.length ≤ 4294967296) :
    Ret Try.prog 15 [.pointer (some ⟨p, 0, none⟩)].toArray w0 fun r w' => ∃ L', St (ids L0) w0 w' L' ∧
      ∃ cs2 Lr, L' = L0 ++ (Lr ++ cblks cs2) ∧ OwnS 22 1 r cs.length (cvals cs2) Lr ∧ cs2.map (·.bs) = cs.map (·.bs) ∧ ∀ c ∈ cs2, c.ok := by
  obtain ⟨m, o, cv, Lc, hL, hM, hO, hC⟩ := hT
  obtain ⟨cl, cc, ca, rfl, rfl⟩ := hO.form
  replace hs : St (ids L0) w0 w0 ((p, Blk 85 [.map (some m), .slice ca cs.length cc]) :: (m, o) :: (Lc ++ cblks cs)) := by rw [hL] at hs ⊢; exact hs
  refine Ret_startL hs fun w hs => ?_
  refine Ret_of Try.func15 rfl Try.ntmps15 rfl ?_
  refine W_seq ?_
  refine W_region ?_
  refine s_assign rfl rfl ?_
  refine WL_nil ?_
  refine n_then ?_
  refine W_seq ?_
  refine W_region ?_
  refine s_move rfl rfl ?_
  refine s_nilCheck rfl rfl ?_
  refine s_fieldAddr rfl rfl (FA85_1 _ _) ?_
  first
    | refine s_load Try.isAgg41 rfl rfl (hs.cell (k := 0) rfl rfl) ?_
    | refine s_load Try.isAgg41 rfl rfl (hs.cell (k := 1) rfl rfl) ?_
    | refine s_load Try.isAgg41 rfl rfl (hs.cell (k := 2) rfl rfl) ?_
    | refine s_load Try.isAgg41 rfl rfl (hs.cell (k := 3) rfl rfl) ?_
    | refine s_load Try.isAgg41 rfl rfl (hs.cell (k := 4) rfl rfl) ?_
    | refine s_load Try.isAgg41 rfl rfl ((hs.cell (k := 2) rfl hcell)) ?_
  refine s_len rfl rfl (LN41 _ _ _ _) ?_
  refine s_makeSlice El41 rfl rfl rfl ?hx hs ?_
  case hx => (refine ⟨?_, ?_, ?_, ?_⟩ <;> omega)
  clear hs; intro b11 w hs
  refine s_assign rfl rfl ?_
  refine WL_nil ?_
  refine n_then ?_
  refine W_seq ?_
  refine W_seq ?_
  refine W_region ?_
  refine s_move rfl rfl ?_
  refine s_nilCheck rfl rfl ?_
  refine s_fieldAddr rfl rfl (FA85_1 _ _) ?_
  first
    | refine s_load Try.isAgg41 rfl rfl (hs.cell (k := 0) rfl rfl) ?_
    | refine s_load Try.isAgg41 rfl rfl (hs.cell (k := 1) rfl rfl) ?_
    | refine s_load Try.isAgg41 rfl rfl (hs.cell (k := 2) rfl rfl) ?_
    | refine s_load Try.isAgg41 rfl rfl (hs.cell (k := 3) rfl rfl) ?_
    | refine s_load Try.isAgg41 rfl rfl (hs.cell (k := 4) rfl rfl) ?_
    | refine s_load Try.isAgg41 rfl rfl ((hs.cell (k := 2) rfl hcell)) ?_
  refine s_len rfl rfl (LN41 _ _ _ _) ?_
  refine s_move rfl rfl ?_
  refine WL_nil ?_
  refine n_then ?_
  refine W_block ?_
  have hs2 : St (ids L0) w0 w ((p, Blk 85 [.map (some m), .slice ca cs.length cc]) :: (m, o) :: (Lc ++ (cblks cs ++ ([(b11, Blk 22 (made [.slice none 0 0] (cs.length : Int).toNat))] ++ cblks [])))) := by
    have := St.swap (A := [_]) hs
    simpa [cblks] using this
  refine W_loop (σ := CS) (fun s => [(15, .slice ca cs.length cc), (16, .int .i64 cs.length), (17, .int .i64 (s.i : Int)), (3, s.v)])
    (fun s w => St (ids L0) w0 w ((p, Blk 85 [.map (some m), .slice ca cs.length cc]) :: (m, o) :: (Lc ++ (cblks cs ++ (s.L ++ cblks s.cs)))) ∧ OwnS 22 1 s.v s.i (cvals s.cs) s.L ∧ s.cs.map (·.bs) = (cs.take s.i).map (·.bs) ∧ (∀ c ∈ s.cs, c.ok) ∧ s.i ≤ cs.length)
    (fun s => cs.length - s.i) ⟨0, _, [], _⟩ ⟨rfl, rfl, rfl, rfl, trivial⟩ ⟨hs2, ⟨rfl, .inr ⟨b11, cs.length, made [.slice none 0 0] (cs.length : Int).toNat, rfl, Nat.zero_le _, by simp [maxLen]; omega, by simp [cvals, made_one], rfl⟩⟩, rfl, by simp, Nat.zero_le _⟩ ?_
  clear hs hs2
  rintro ⟨i, v3, cs2, Lall⟩ w ⟨hs, hO2, hbs, hok2, hil⟩
  simp only at hs hO2 hbs hok2 hil ⊢
  refine W_seq ?_
  refine W_region ?_
  refine s_lss rfl rfl rfl ?_
  refine WL_nil ?_
  refine n_then ?_
  refine W_seq ?_
  refine W_cond rfl (fun hc18 => ?_) (fun hc18 => ?_)
  · skip
    simp only [decide_eq_true_eq, decide_eq_false_iff_not] at hc18
    have hix : i < cs.length := by omega
    obtain ⟨g, cap, sp, hg, hcap, rfl⟩ := hO.block (by omega)
    cases hg
    simp only [List.cons_append, List.nil_append] at hs
    have hci : cs[i]? = some cs[i] := List.getElem?_eq_getElem hix
    have hcm : cs[i] ∈ cs := List.getElem_mem hix
    have hcell : (cvals cs ++ sp)[0 + (i : Int).toNat]? = some cs[i].v := by
      rw [Nat.zero_add, Int.toNat_natCast, List.getElem?_append_left (by simp [cvals, hix])]; simp [cvals, hix]
    have htk : (cs.take (i + 1)).map (·.bs) = (cs.take i).map (·.bs) ++ [cs[i].bs] := by rw [List.take_succ_eq_append_getElem hix, List.map_append]; rfl
    generalize cs[i] = cd at hci hcm hcell htk
    obtain ⟨hcd, hcd2⟩ := hC cd hcm
    refine W_skip ?_
    refine n_then ?_
    refine W_seq ?_
    refine W_block ?_
    refine W_seq ?_
    refine W_region ?_
    (refine s_indexAddr1 El41 rfl rfl rfl ?hx ?_; case hx => (constructor <;> first | omega | (simp; omega)))
    first
      | refine s_load Try.isAgg22 rfl rfl (hs.cell (k := 0) rfl rfl) ?_
      | refine s_load Try.isAgg22 rfl rfl (hs.cell (k := 1) rfl rfl) ?_
      | refine s_load Try.isAgg22 rfl rfl (hs.cell (k := 2) rfl rfl) ?_
      | refine s_load Try.isAgg22 rfl rfl (hs.cell (k := 3) rfl rfl) ?_
      | refine s_load Try.isAgg22 rfl rfl (hs.cell (k := 4) rfl rfl) ?_
      | refine s_load Try.isAgg22 rfl rfl ((hs.cell (k := 2) rfl hcell)) ?_
    refine s_assign rfl rfl ?_
    refine WL_nil ?_
    refine n_then ?_
    refine W_region ?_
    refine s_move rfl rfl ?_
    refine s_move rfl rfl ?_
    refine s_call Try.call43 rfl rfl (clone_ok cd.v cd.bs w (OwnS_slIn hcd (fun x hx => hs.own x (by have := cblks_of hcm x hx; simp [this]))) (by omega)) ?_
    rintro r w ⟨Lr, hr, hst⟩
    replace hs := (St.back0 hs hst).swap
    clear hst
    obtain ⟨_, tc9, ta9, rfl, rfl⟩ := hr.form
    simp only [List.cons_append, List.append_assoc] at hs
    refine s_buildSlice rfl rfl (BS41_1 _ _ _) hs ?_; clear hs; intro b24 w hs
    refine s_appendM (M := _ :: _ :: _ :: _ :: cblks cs) (Lv := Lall) (X := cblks cs2 ++ Lr) El41 rfl rfl rfl hO2 hs (hs.sl (k := 0) (ds := [_]) rfl (Nat.le_refl _) (by intro j u hj; rw [Nat.zero_add]; exact hj)) rfl (by simp [Value.oneCell']) (by omega) ?_
    clear hs; intro tv' w Lt' hO' hs
    simp only [List.cons_append, List.nil_append] at hs
    refine s_assign rfl rfl ?_
    refine WL_nil ?_
    refine n_blk ?_
    refine n_then ?_
    refine W_region ?_
    first | (refine s_add' rfl rfl rfl ?hx ?_; case hx => (constructor <;> first | omega | (simp only; omega))) | refine s_add rfl rfl rfl ?_
    refine s_move rfl rfl ?_
    refine WL_nil ?_
    refine n_loop ?_
    refine ⟨⟨i + 1, tv', cs2 ++ [⟨.slice ta9 cd.bs.length tc9, cd.bs, Lr⟩], Lt'⟩, ⟨rfl, rfl, rfl, rfl, trivial⟩, ⟨?_, ?_, ?_, ?_, by simp only; omega⟩, by simp only; omega⟩
    · rw [cblks_append]; simpa [cblks] using hs.tail
    · simpa [cvals] using hO'
    · simp only [List.map_append, hbs, htk, List.map_cons, List.map_nil]
    · intro d hd'; rcases List.mem_append.1 hd' with h | h
      · exact hok2 d h
      · simp at h; subst h; exact ⟨hr, hcd2⟩
  · skip
    simp only [decide_eq_true_eq, decide_eq_false_iff_not] at hc18
    refine W_exit ?_
    refine x_then ?_
    refine x_then ?_
    refine exit_hit ?_
    refine n_then ?_
    refine W_seq ?_
    refine W_region ?_
    refine s_move rfl rfl ?_
    refine s_assign rfl rfl ?_
    refine WL_nil ?_
    refine n_then ?_
    refine W_ret ?_
    have hie : i = cs.length := by omega
    subst hie
    exact end1 rfl rfl ⟨_, hs, cs2, Lall, by rw [hL]; simp, hO2, by rw [hbs, List.take_length], hok2⟩
end Go.Proofs.Ytkobigdfijeajaa
