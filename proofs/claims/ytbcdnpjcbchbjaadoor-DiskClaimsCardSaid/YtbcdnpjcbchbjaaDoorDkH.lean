/- A disk: Copy. -/
import Derived.Test.YtbcdnpjcbchbjaaDoorDkG
set_option linter.unusedVariables false
set_option linter.unusedSimpArgs false
namespace Go.Proofs.YtbcdnpjcbchbjaaDoor
open Go.SL
structure CoS where
  todo : KVs
  it : Obj
  o2 : Obj
  fs : List Fl
theorem fblks_in {fs : List Fl} {r : Fl} (hr : r ∈ fs) : ∀ p ∈ r.L, p ∈ fblks fs := fun p hp => List.mem_flatMap.2 ⟨r, hr, hp⟩
set_option maxHeartbeats 2000000 in
theorem dCopy_ok (p : Nat) (D : Dk) (L0 : Hp) (w0 : World) (hD : DiskAt p D L0) (hs : St (ids L0) w0 w0 L0) :
    Ret Tryd.prog 41 [.pointer (some ⟨p, 0, none⟩)].toArray w0 fun r w' => ∃ L', St (ids L0) w0 w' L' ∧ ∃ q L1, L' = L1 ++ L0 ∧ r = .pointer (some ⟨q, 0, none⟩) ∧ DiskAt q D L1 := by
  have hfo := hD.firmOk
  obtain ⟨m, o, fs, hL, hM, hF, hR, hA⟩ := hD
  have hfl := fkv_len hM hF
  replace hs : St (ids L0) w0 w0 ((p, Blk 53 (dkCells D m)) :: (m, o) :: fblks fs) := by rw [hL] at hs ⊢; exact hs
  unfold dkCells at hs
  refine Ret_startL hs fun w hs => ?_
  refine Ret_of Tryd.func41 rfl Tryd.ntmps41 rfl ?_
  refine W_seq ?_
  refine W_region ?_
  refine s_assign rfl rfl ?_
  refine WL_nil ?_
  refine n_then ?_
  refine W_seq ?_
  refine W_region ?_
  refine s_move rfl rfl ?_
  refine s_nilCheck rfl rfl ?_
  first
    | refine s_loadW Tryd.isAgg53 Tryd.sizeOf53 rfl rfl hs (kk := 0) rfl rfl ?_
    | refine s_loadW Tryd.isAgg53 Tryd.sizeOf53 rfl rfl hs (kk := 1) rfl rfl ?_
    | refine s_loadW Tryd.isAgg53 Tryd.sizeOf53 rfl rfl hs (kk := 2) rfl rfl ?_
    | refine s_loadW Tryd.isAgg53 Tryd.sizeOf53 rfl rfl hs (kk := 3) rfl rfl ?_
    | refine s_load_6 Tryd.isAgg53 Tryd.sizeOf53 rfl rfl (by first | exact hs.cell (k := 0) rfl rfl | exact hs.cell (k := 1) rfl rfl | exact hs.cell (k := 2) rfl rfl | exact hs.cell (k := 3) rfl rfl) (by first | exact hs.cell (k := 0) rfl rfl | exact hs.cell (k := 1) rfl rfl | exact hs.cell (k := 2) rfl rfl | exact hs.cell (k := 3) rfl rfl) (by first | exact hs.cell (k := 0) rfl rfl | exact hs.cell (k := 1) rfl rfl | exact hs.cell (k := 2) rfl rfl | exact hs.cell (k := 3) rfl rfl) (by first | exact hs.cell (k := 0) rfl rfl | exact hs.cell (k := 1) rfl rfl | exact hs.cell (k := 2) rfl rfl | exact hs.cell (k := 3) rfl rfl) (by first | exact hs.cell (k := 0) rfl rfl | exact hs.cell (k := 1) rfl rfl | exact hs.cell (k := 2) rfl rfl | exact hs.cell (k := 3) rfl rfl) (by first | exact hs.cell (k := 0) rfl rfl | exact hs.cell (k := 1) rfl rfl | exact hs.cell (k := 2) rfl rfl | exact hs.cell (k := 3) rfl rfl) ?_
  refine s_alloc rfl AL53 hs ?_; clear hs; intro b3 w hs
  first
    | refine s_storeW Tryd.sizeOf53 rfl rfl rfl rfl hs (kk := 0) rfl rfl ?_
    | refine s_storeW Tryd.sizeOf53 rfl rfl rfl rfl hs (kk := 1) rfl rfl ?_
    | refine s_storeW Tryd.sizeOf53 rfl rfl rfl rfl hs (kk := 2) rfl rfl ?_
    | refine s_storeW Tryd.sizeOf53 rfl rfl rfl rfl hs (kk := 3) rfl rfl ?_
    | refine s_storeAB Tryd.sizeOf53 rfl rfl rfl rfl hs (kk := 0) rfl rfl ?_
    | refine s_storeAB Tryd.sizeOf53 rfl rfl rfl rfl hs (kk := 1) rfl rfl ?_
    | refine s_storeAB Tryd.sizeOf53 rfl rfl rfl rfl hs (kk := 2) rfl rfl ?_
    | refine s_storeAB Tryd.sizeOf53 rfl rfl rfl rfl hs (kk := 3) rfl rfl ?_
  clear hs; intro w hs; try simp only [List.set_cons_zero, List.set_cons_succ, splice, List.take_succ_cons, List.take_zero, List.drop_succ_cons, List.drop_zero, List.nil_append, List.cons_append, List.length_cons, List.length_nil, Nat.reduceAdd, List.append_assoc] at hs
  refine WL_nil ?_
  refine n_then ?_
  refine W_seq ?_
  refine W_region ?_
  refine s_move rfl rfl ?_
  refine s_nilCheck rfl rfl ?_
  refine s_fieldAddr rfl rfl (FA53_2 _ _) ?_
  first
    | refine s_load Tryd.isAgg51 rfl rfl (hs.cell (k := 0) rfl rfl) ?_
    | refine s_load Tryd.isAgg51 rfl rfl (hs.cell (k := 1) rfl rfl) ?_
    | refine s_load Tryd.isAgg51 rfl rfl (hs.cell (k := 2) rfl rfl) ?_
    | refine s_load Tryd.isAgg51 rfl rfl (hs.cell (k := 3) rfl rfl) ?_
  refine s_lenI Tryd.underlying51 rfl rfl hs (kk := 2) rfl hM ?_
  refine s_makeMapN Tryd.underlying51 rfl rfl hs ?_; clear hs; intro b14 w hs
  refine s_fieldAddr rfl rfl (FA53_2 _ _) ?_
  first
    | refine s_storeB Tryd.sizeOf51 rfl rfl rfl hs (kk := 0) rfl rfl ?_
    | refine s_storeB Tryd.sizeOf51 rfl rfl rfl hs (kk := 1) rfl rfl ?_
    | refine s_storeB Tryd.sizeOf51 rfl rfl rfl hs (kk := 2) rfl rfl ?_
    | refine s_storeB Tryd.sizeOf51 rfl rfl rfl hs (kk := 3) rfl rfl ?_
  clear hs; intro w hs; try simp only [List.set_cons_zero, List.set_cons_succ, splice, List.take_succ_cons, List.take_zero, List.drop_succ_cons, List.drop_zero, List.nil_append, List.cons_append, List.length_cons, List.length_nil, Nat.reduceAdd, List.append_assoc] at hs
  refine WL_nil ?_
  refine n_then ?_
  refine W_seq ?_
  refine W_seq ?_
  refine W_region ?_
  refine s_move rfl rfl ?_
  refine s_nilCheck rfl rfl ?_
  refine s_fieldAddr rfl rfl (FA53_2 _ _) ?_
  first
    | refine s_load Tryd.isAgg51 rfl rfl (hs.cell (k := 0) rfl rfl) ?_
    | refine s_load Tryd.isAgg51 rfl rfl (hs.cell (k := 1) rfl rfl) ?_
    | refine s_load Tryd.isAgg51 rfl rfl (hs.cell (k := 2) rfl rfl) ?_
    | refine s_load Tryd.isAgg51 rfl rfl (hs.cell (k := 3) rfl rfl) ?_
  refine s_rangeI Tryd.underlying51 rfl rfl hs (kk := 3) rfl hM ?_
  clear hs; intro r20 it0 w hI0 hs
  refine WL_nil ?_
  refine n_then ?_
  refine W_block ?_
  refine W_loop (σ := CoS) (fun s => [(0, .pointer (some ⟨p, 0, none⟩)), (3, .pointer (some ⟨b3, 0, none⟩)), (20, .pointer (some ⟨r20, 0, none⟩))]) (fun s w => St (ids L0) w0 w ((r20, s.it) :: (b14, s.o2) :: (b3, Blk 53 [.int .i64 D.room, .int .i64 (total D.c : Int), .map (some b14), .bool D.off, .bool D.armed, .int .i64 D.left]) :: (p, Blk 53 [.int .i64 D.room, .int .i64 (total D.c : Int), .map (some m), .bool D.off, .bool D.armed, .int .i64 D.left]) :: (m, o) :: (fblks s.fs ++ fblks fs)) ∧ ItI m o s.it s.todo ∧ MapI s.o2 (fkv s.fs) ∧ (∀ r ∈ s.fs, r.ok ∧ D.c r.f = r.bs ∧ D.d r.f = r.dur) ∧ (s.fs.map (·.f) ++ s.todo.map Prod.fst).Perm (fs.map (·.f)) ∧ (s.todo.map Prod.fst).Nodup ∧ (∀ e ∈ s.todo, e ∈ fkv fs)) (fun s => s.todo.length) ⟨fkv fs, it0, .map #[] 0, []⟩ ⟨rfl, rfl, rfl, trivial⟩ ⟨hs, hI0, MapI.empty, fun r hr => (by cases hr), by rw [fkv_keys]; exact List.Perm.refl _, hM.keys, fun e he => he⟩ ?_
  clear hs hI0
  rintro ⟨todo, it, o2, gs⟩ w ⟨hs, hIt, hM2, hgs, hp, hnd, hin⟩
  simp only at hs hIt hM2 hgs hp hnd hin ⊢
  refine W_seq ?_
  refine W_region ?_
  refine s_nextI (km := 4) (kr := 0) rfl rfl hs rfl rfl hIt ?_ ?_
  · skip
    intro ht
    refine s_extract rfl rfl rfl ?_
    refine WL_nil ?_
    refine n_then ?_
    refine W_seq ?_
    refine W_cond_kf rfl (rfl) ?_
    refine W_exit ?_
    refine x_then ?_
    refine x_then ?_
    refine exit_hit ?_
    refine n_then ?_
    refine W_seq ?_
    refine W_region ?_
    refine s_assign rfl rfl ?_
    refine WL_nil ?_
    refine n_then ?_
    refine W_ret ?_
    subst ht
    rw [List.map_nil, List.append_nil] at hp
    refine end1 rfl rfl ⟨_, ?_, b3, ((b3, Blk 53 (dkCells D b14)) :: (b14, o2) :: fblks gs), rfl, rfl, b14, o2, gs, rfl, hM2, ⟨fun r hr => (hgs r hr).1, fun r hr => (hgs r hr).2, fun f hf => hF.no f fun h => hf (hp.mem_iff.2 h)⟩, hR, hA⟩
    have h1 : St (ids L0) w0 w ([_] ++ ([_] ++ ([_] ++ ([_, _] ++ (fblks gs ++ fblks fs))))) := hs
    have h2 : St (ids L0) w0 w ([_] ++ ([_] ++ (fblks gs ++ ([_, _] ++ fblks fs)))) := St.reord [[_], [_], [_], [_, _], fblks gs, fblks fs] [2, 1, 4, 3, 5] [0] h1 rfl
    exact (congrArg (fun x => St (ids L0) w0 w ((b3, Blk 53 (dkCells D b14)) :: (b14, o2) :: (fblks gs ++ x))) hL).mpr h2
  · skip
    clear hs
    intro key v w it' hmem hIt' hC hlt hs
    simp only [List.set_cons_zero] at hs
    obtain ⟨r, hr, hrk⟩ := List.mem_map.1 (hin _ hmem)
    have hrf : r.f = key := congrArg Prod.fst hrk
    have hrv : cont r.v r.dur = v := congrArg Prod.snd hrk
    subst hrf hrv
    obtain ⟨hrO, hrne, hrr, hrd, hrB⟩ := hF.ok r hr
    obtain ⟨hrc, hrdd⟩ := hF.is r hr
    have hlt9 := len_le_total D hrr
    rw [hrc] at hlt9
    have hpp := perm_pick hnd hmem
    obtain ⟨_, c1, a1, hrvv, h1l⟩ := hrO.form
    subst h1l
    rw [hrvv] at hC hrO ⊢
    refine s_extract rfl rfl rfl ?_
    refine WL_nil ?_
    refine n_then ?_
    refine W_seq ?_
    refine W_cond_kt rfl (rfl) ?_
    refine W_skip ?_
    refine n_then ?_
    refine W_block ?_
    refine W_seq ?_
    refine W_region ?_
    refine s_entryI (km := 4) (kr := 0) rfl rfl hs rfl rfl hC ?_
    refine s_extract rfl rfl rfl ?_
    refine s_extract rfl rfl rfl ?_
    refine s_alloc rfl AL67 hs ?_; clear hs; intro b5 w hs
    refine s_assign rfl rfl ?_
    first
      | refine s_storeW Tryd.sizeOf67 rfl rfl rfl rfl hs (kk := 0) rfl rfl ?_
      | refine s_storeW Tryd.sizeOf67 rfl rfl rfl rfl hs (kk := 1) rfl rfl ?_
      | refine s_storeW Tryd.sizeOf67 rfl rfl rfl rfl hs (kk := 2) rfl rfl ?_
      | refine s_storeW Tryd.sizeOf67 rfl rfl rfl rfl hs (kk := 3) rfl rfl ?_
      | refine s_storeAB Tryd.sizeOf67 rfl rfl rfl rfl hs (kk := 0) rfl rfl ?_
      | refine s_storeAB Tryd.sizeOf67 rfl rfl rfl rfl hs (kk := 1) rfl rfl ?_
      | refine s_storeAB Tryd.sizeOf67 rfl rfl rfl rfl hs (kk := 2) rfl rfl ?_
      | refine s_storeAB Tryd.sizeOf67 rfl rfl rfl rfl hs (kk := 3) rfl rfl ?_
    clear hs; intro w hs; try simp only [List.set_cons_zero, List.set_cons_succ, splice, List.take_succ_cons, List.take_zero, List.drop_succ_cons, List.drop_zero, List.nil_append, List.cons_append, List.length_cons, List.length_nil, Nat.reduceAdd, List.append_assoc] at hs
    refine WL_nil ?_
    refine n_then ?_
    refine W_draw [(0, true, []), (1, true, []), (2, true, []), (3, true, []), (4, true, []), (6, true, []), (7, true, []), (5, false, [0, 1, 2, 6, 7]), (8, true, []), (9, false, [])] [[], [0], [], [], [3], [3, 4], [], [6], [3, 4, 5, 6, 7], [0, 1, 2, 3, 4, 5, 6, 7, 8]] MX (by kernel_rfl) ?_
    intro w1 hw1 hw2 hw3 hw4; replace hs := hs.redrawn hw1 hw2 hw3 hw4; clear hw1 hw2 hw3 hw4
    obtain ⟨w, rfl⟩ : ∃ w : World, w = w1 := ⟨_, rfl⟩
    refine D_q rfl rfl ?_
    refine s_fieldAddr rfl rfl (FA53_2 _ _) ?_
    refine D_qn ?_
    refine D_q rfl rfl ?_
    first
      | refine s_load Tryd.isAgg51 rfl rfl (hs.cell (k := 0) rfl rfl) ?_
      | refine s_load Tryd.isAgg51 rfl rfl (hs.cell (k := 1) rfl rfl) ?_
      | refine s_load Tryd.isAgg51 rfl rfl (hs.cell (k := 2) rfl rfl) ?_
      | refine s_load Tryd.isAgg51 rfl rfl (hs.cell (k := 3) rfl rfl) ?_
    refine D_qn ?_
    refine D_q rfl rfl ?_
    refine s_move rfl rfl ?_
    refine D_qn ?_
    refine D_q rfl rfl ?_
    refine s_fieldAddr rfl rfl (FA67_0 _ _) ?_
    refine D_qn ?_
    refine D_q rfl rfl ?_
    first
      | refine s_load Tryd.isAgg29 rfl rfl (hs.cell (k := 0) rfl rfl) ?_
      | refine s_load Tryd.isAgg29 rfl rfl (hs.cell (k := 1) rfl rfl) ?_
      | refine s_load Tryd.isAgg29 rfl rfl (hs.cell (k := 2) rfl rfl) ?_
      | refine s_load Tryd.isAgg29 rfl rfl (hs.cell (k := 3) rfl rfl) ?_
    refine D_qn ?_
    refine D_q rfl rfl ?_
    refine s_fieldAddr rfl rfl (FA67_1 _ _) ?_
    refine D_qn ?_
    refine D_q rfl rfl ?_
    first
      | refine s_load Tryd.isAgg3 rfl rfl (hs.cell (k := 0) rfl rfl) ?_
      | refine s_load Tryd.isAgg3 rfl rfl (hs.cell (k := 1) rfl rfl) ?_
      | refine s_load Tryd.isAgg3 rfl rfl (hs.cell (k := 2) rfl rfl) ?_
      | refine s_load Tryd.isAgg3 rfl rfl (hs.cell (k := 3) rfl rfl) ?_
    refine D_qn ?_
    refine D_e rfl ?_
    refine s_call Tryd.call29 rfl rfl (clone_ok _ r.bs w (OwnS_slIn hrO fun q hq => hs.own q (by simp [fblks_in hr q hq])) (by omega)) ?_
    rintro u w ⟨Lr, hOr, hst⟩
    replace hs := St.back0 hs hst
    clear hst
    replace hs : St (ids L0) w0 w ([_, _, _, _, _, _] ++ (fblks gs ++ (Lr ++ fblks fs))) := St.reord [Lr, [_, _, _, _, _, _], fblks gs, fblks fs] [1, 2, 0, 3] [] hs rfl
    simp only [List.cons_append, List.nil_append] at hs
    obtain ⟨_, c2, a2, rfl, h2l⟩ := hOr.form
    subst h2l
    refine D_en ?re ?_
    case re =>
      refine Reks_cons rfl rfl rfl rfl ?_ ?_
      · skip
        refine s_fieldAddr rfl rfl (FA53_2 _ _) ?_
        exact Rek_end rfl
      refine Reks_cons rfl rfl rfl rfl ?_ ?_
      · skip
        first
          | refine s_load Tryd.isAgg51 rfl rfl (hs.cell (k := 0) rfl rfl) ?_
          | refine s_load Tryd.isAgg51 rfl rfl (hs.cell (k := 1) rfl rfl) ?_
          | refine s_load Tryd.isAgg51 rfl rfl (hs.cell (k := 2) rfl rfl) ?_
          | refine s_load Tryd.isAgg51 rfl rfl (hs.cell (k := 3) rfl rfl) ?_
        exact Rek_end rfl
      refine Reks_cons rfl rfl rfl rfl ?_ ?_
      · skip
        refine s_move rfl rfl ?_
        exact Rek_end rfl
      refine Reks_cons rfl rfl rfl rfl ?_ ?_
      · skip
        refine s_fieldAddr rfl rfl (FA67_1 _ _) ?_
        exact Rek_end rfl
      refine Reks_cons rfl rfl rfl rfl ?_ ?_
      · skip
        first
          | refine s_load Tryd.isAgg3 rfl rfl (hs.cell (k := 0) rfl rfl) ?_
          | refine s_load Tryd.isAgg3 rfl rfl (hs.cell (k := 1) rfl rfl) ?_
          | refine s_load Tryd.isAgg3 rfl rfl (hs.cell (k := 2) rfl rfl) ?_
          | refine s_load Tryd.isAgg3 rfl rfl (hs.cell (k := 3) rfl rfl) ?_
        exact Rek_end rfl
      exact Reks_nil
    refine D_q rfl rfl ?_
    refine s_build rfl rfl (BD67_0_1 _ _ _ _) ?_
    refine D_qn ?_
    refine D_e rfl ?_
    refine s_mapUpdateI Tryd.underlying51 Tryd.underlying3 rfl rfl rfl hs (kk := 2) rfl hM2 ?_
    clear hs; intro w o' hM' hs
    try simp only [List.set_cons_succ, List.set_cons_zero] at hs
    refine D_en ?re ?_
    case re =>
      exact Reks_nil
    refine D_nil ?_
    refine n_blk ?_
    refine n_loop ?_
    have hnew : r.f ∉ gs.map (·.f) := by
      have h1 : (gs.map (·.f) ++ todo.map Prod.fst).Nodup := hp.nodup_iff.2 (by have := hM.keys; rw [fkv_keys] at this; exact this)
      intro h2
      exact (List.nodup_append.1 h1).2.2 _ h2 _ (List.mem_map_of_mem (f := Prod.fst) hmem) rfl
    have hkv : fkv (gs ++ [⟨r.f, .slice a2 r.bs.length c2, r.bs, r.dur, Lr⟩]) = updI r.f (.agg #[.slice a2 r.bs.length c2, .int .i64 (r.dur : Int)]) (fkv gs) := by
      rw [updI_new (by rw [fkv_keys]; exact hnew), fkv_app]; rfl
    refine ⟨⟨todo.filter (fun e => !decide (e.1 = r.f)), it', o', gs ++ [⟨r.f, .slice a2 r.bs.length c2, r.bs, r.dur, Lr⟩]⟩, ⟨rfl, rfl, rfl, trivial⟩, ⟨?_, hIt', by rw [hkv]; exact hM', ?_, ?_, nodup_filter hnd, fun e he => hin e (List.mem_filter.1 he).1⟩, hlt⟩
    · have h1 := hs.tail
      have h2 : fblks (gs ++ [⟨r.f, .slice a2 r.bs.length c2, r.bs, r.dur, Lr⟩]) = fblks gs ++ Lr := by rw [fblks_app]; simp [fblks]
      simp only
      rw [h2, List.append_assoc]; exact h1
    · intro q hq
      rcases List.mem_append.1 hq with hq | hq
      · exact hgs q hq
      · rw [List.mem_singleton.1 hq]; exact ⟨⟨hOr, hrne, hrr, hrd, hrB⟩, hrc, hrdd⟩
    · simp only
      rw [List.map_append, List.append_assoc]
      exact (hpp.symm.append_left _).trans hp
end Go.Proofs.YtbcdnpjcbchbjaaDoor
