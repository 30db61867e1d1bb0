/- The examples of package wal. -/
import Derived.Test.YtgppcfgnhahnaaaDoorWaM
import Derived.Test.YtgppcfgnhahnaaaDoorApp
set_option linter.unusedVariables false
set_option linter.unusedSimpArgs false
namespace Go.Proofs.YtgppcfgnhahnaaaDoor
open Go.SL
theorem live_core : coreV 0 [7] = [0, 1, 7] := by
  have h1 : uvar (zz 0) = [0] := by rw [uvar_lo (by decide)]; rfl
  have h2 : uvar ([7] : List Int).length = [1] := by rw [uvar_lo (by decide)]; rfl
  rw [coreV, h1, h2]; rfl
theorem live_frame (mx : Nat → Nat → Nat) : frameV mx 0 [7] = uvar 3 ++ [0, 1, 7] ++ uvar (hashV mx (bytesOf sWal) [0, 1, 7]) := by rw [frameV, live_core]; rfl
theorem live_no {mx : Nat → Nat → Nat} (hmx : IsMix mx) : noFrame mx 1 [3, 0, 1] := by
  intro y r h
  have hl := frame_len (mx := mx) (n := ((1 : Nat) : Int)) (x := y)
  have h3 := congrArg List.length h
  simp only [List.length_append, List.length_cons, List.length_nil] at h3
  obtain ⟨a1, -, -, -⟩ := frame_parse hmx (n := ((1 : Nat) : Int)) (x := y) r (by unfold isI64; omega) (by omega)
  rw [← h] at a1
  have h4 : rdRaw ⟨[3, 0, 1], 0⟩ = ([], ⟨[], 3⟩) := by simp [rdRaw, rdU, pu]
  rw [h4] at a1
  have h5 := congrArg Prod.fst a1
  simp only [coreV] at h5
  exact uvar_ne _ (List.append_eq_nil_iff.1 (List.append_eq_nil_iff.1 h5.symm).1).1
theorem live_scan {mx : Nat → Nat → Nat} (hmx : IsMix mx) : IsScan mx 0 (frameV mx 0 [7] ++ [3, 0, 1]) [[7]] := ⟨[3, 0, 1], by simp [framesV], live_no hmx⟩
set_option maxHeartbeats 1000000 in
theorem lives_ok (w0 : World) : Ret Tryd.prog 14 [].toArray w0 fun r w' => Fwd [] w0 w' ∧ r = .bool true := by
  obtain ⟨mx, hmx⟩ := isMix
  have hsc := live_scan hmx
  have hB : ∀ b ∈ frameV mx 0 [7], isB b := frameV_isB (by intro b hb; rw [List.mem_singleton.1 hb]; unfold isB; omega)
  have hfr := live_frame mx
  have hhl := hashV_lt hmx (bytesOf sWal) [0, 1, 7]
  have hul := uvar_len10 hhl
  have hu3 : uvar 3 = [3] := by rw [uvar_lo (by decide)]; rfl
  have hun : 0 < (uvar (hashV mx (bytesOf sWal) [0, 1, 7])).length := List.length_pos_iff.2 (uvar_ne _)
  have hl5 : 4 < (frameV mx 0 [7]).length ∧ (frameV mx 0 [7]).length ≤ 14 := by rw [hfr, hu3]; simp only [List.length_append, List.length_cons, List.length_nil]; omega
  have hsl : (framesV mx 0 [[7]]).length = (frameV mx 0 [7]).length := by simp [framesV]
  refine Ret_start fun w hs => ?_
  refine Ret_of Tryd.func14 rfl Tryd.ntmps14 rfl ?_
  refine W_seq ?_
  refine W_region ?_
  refine s_assign rfl rfl ?_
  refine WL_nil ?_
  refine n_then ?_
  refine W_seq ?_
  refine W_region ?_
  refine s_buildSlice rfl rfl (BS35_1 _) hs ?_; clear hs; intro b6 w hs
  refine s_call Tryd.call27 rfl rfl (frame_ok hmx 0 _ [7] w (hs.sl (k := 0) (ds := [_]) rfl (Nat.le_refl _) (by intro j u hj; rw [Nat.zero_add]; exact hj)) (by unfold isI64; omega) (by intro b hb; rw [List.mem_singleton.1 hb]; unfold isB; omega) (by decide)) ?_
  rintro r w ⟨Lf, hOf, hst⟩
  replace hs := (St.back0 hs hst).left
  clear hst
  generalize hfb : frameV mx 0 [7] = fb at hOf hsc hB hfr hl5 hsl
  obtain ⟨_, cf, af, rfl, rfl⟩ := hOf.form
  refine s_assign rfl rfl ?_
  refine WL_nil ?_
  refine n_then ?_
  refine W_seq ?_
  refine W_region ?_
  refine s_alloc rfl AL78 hs ?_; clear hs; intro b2 w hs
  refine WL_nil ?_
  refine n_then ?_
  refine W_seq ?_
  refine W_region ?_
  refine s_buildSlice rfl rfl (BS35_3 _ _ _) hs ?_; clear hs; intro b8 w hs
  refine s_callL (M := [_]) (L1 := [_]) (X := Lf) Tryd.call35 rfl rfl hs (fun h => wRaw_ok b2 [] [0, 1, 7] _ _ w (wr_new b2) h (hs.sl (k := 0) (ds := [_, _, _]) rfl (Nat.le_refl _) (by intro j u hj; rw [Nat.zero_add]; exact hj)) (fun a m c he hne => by cases he; exact hs.notin (M := [_]) (L := [_]) (X := Lf) (by simp [ids])) (by simp) (by simp)) ?_
  clear hs; rintro v5 w LW ⟨hW, rfl⟩ - hs
  replace hs := hs.tail
  simp only [List.nil_append] at hs hW
  rw [show (([0, 1, 7] : List Int).length) = 3 from rfl] at hW
  refine WL_nil ?_
  refine n_then ?_
  refine W_seq ?_
  refine W_region ?_
  refine s_buildSlice rfl rfl (BS35_3 _ _ _) hs ?_; clear hs; intro b10 w hs
  refine s_call Tryd.call37 rfl rfl (hBytes_ok hmx sWal _ [0, 1, 7] w (hs.sl (k := 0) (ds := [_, _, _]) rfl (Nat.le_refl _) (by intro j u hj; rw [Nat.zero_add]; exact hj)) (by intro b hb; simp only [List.mem_cons, List.not_mem_nil, or_false] at hb; unfold isB; omega) (by decide +kernel) (by decide)) ?_
  rintro r w ⟨hst, rfl⟩
  replace hs := (hs.fwd1 hst).tail
  clear hst
  generalize hH : hashV mx (bytesOf sWal) [0, 1, 7] = H at hhl hfr hul hun
  refine s_callL (M := []) (L1 := LW) (X := Lf) Tryd.call36 rfl rfl hs (fun h => wUint_ok b2 _ H LW w hW h hhl (by rw [hu3]; simp)) ?_
  clear hs hW; rintro v6 w LW ⟨hW, rfl⟩ - hs
  simp only [List.nil_append] at hs
  rw [← hfr] at hW
  refine WL_nil ?_
  refine n_then ?_
  refine W_seq ?_
  refine W_region ?_
  refine s_move rfl rfl ?_
  refine s_len rfl rfl (LN35 _ _ _ _) ?_
  refine s_assign rfl rfl ?_
  refine WL_nil ?_
  refine n_then ?_
  refine W_seq ?_
  refine W_region ?_
  refine s_move rfl rfl ?_
  refine s_buildSlice rfl rfl (BS35_3 _ _ _) hs ?_; clear hs; intro b17 w hs
  refine s_append_keep (M := _ :: LW) (X := []) El35 rfl rfl rfl hOf (by simp only [List.append_nil]; exact hs) (hs.sl (k := 0) (ds := [_, _, _]) rfl (Nat.le_refl _) (by intro j u hj; rw [Nat.zero_add]; exact hj)) rfl (by simp [Value.oneCell']) (by omega) ?_
  clear hs; intro v' w La Lk hOa hRk hs
  replace hOa : OwnS 5 1 v' (fb ++ [3, 0, 1]).length (u8s (fb ++ [3, 0, 1])) La := by rw [List.length_append, u8s, List.map_append]; exact hOa
  simp only [List.append_nil, List.cons_append] at hs
  replace hs := hs.tail
  refine s_call Tryd.call17 rfl rfl (scan_ok hmx v' (fb ++ [3, 0, 1]) w (hOa.slM (M := LW) (X := Lk) hs) (by
    intro b hb
    rcases List.mem_append.1 hb with hb | hb
    · exact hB b hb
    · simp only [List.mem_cons, List.not_mem_nil, or_false] at hb; unfold isB; omega) (by rw [List.length_append, List.length_cons, List.length_cons, List.length_cons, List.length_nil]; omega)) ?_
  rintro r w ⟨rs, u, Lu, Lx, rfl, hOu, hst, hrs, hsc2⟩
  have hxs := scan_unique hmx (by rw [List.length_append, List.length_cons, List.length_cons, List.length_cons, List.length_nil]; omega) hsc2 hsc
  replace hs := St.back0 hs hst
  simp only [List.append_assoc] at hs
  clear hst hsc2
  rw [hxs, hsl]
  have hrl : rs.length = 1 := by rw [← Recs.x_length, hxs]; rfl
  refine s_move rfl rfl ?_
  refine s_extract rfl rfl rfl ?_
  refine s_extract rfl rfl rfl ?_
  refine s_assign rfl rfl ?_
  refine s_assign rfl rfl ?_
  refine WL_nil ?_
  refine n_then ?_
  refine W_seq ?_
  refine W_region ?_
  refine s_move rfl rfl ?_
  refine s_callL (M := Lu ++ Lx) (L1 := LW) (X := La ++ Lk) Tryd.call39 rfl rfl (by simp only [List.append_assoc]; exact hs) (fun h => wDone_ok b2 fb LW w hW h (by omega)) ?_
  clear hs; rintro v7 w L9 ⟨Lr, rfl, hOr⟩ - hs
  simp only [List.append_assoc] at hs
  refine s_call Tryd.call38 rfl rfl (sameBytes_ok _ _ fb fb w (hRk.sl w fun p hp => hs.own p (by rcases List.mem_append.1 hp with hp | hp <;> simp [hp])) (OwnS_slIn hOr fun p hp => hs.own p (by simp [hp])) (by omega)) ?_
  rintro r w ⟨hst, rfl⟩
  replace hs := hs.fwd1 hst
  clear hst
  refine s_move rfl rfl ?_
  refine WL_know (s := 25) (c := true) rfl ((by simp)) ?_
  refine WL_take rfl ?_
  refine s_move rfl rfl ?_
  refine WL_take rfl ?_
  refine s_gtr rfl rfl rfl ?_
  refine s_pick_t rfl rfl rfl ?_
  refine s_move rfl rfl ?_
  refine WL_know (s := 29) (c := true) rfl ((by simp; omega)) ?_
  refine WL_take rfl ?_
  refine s_move rfl rfl ?_
  refine WL_take rfl ?_
  refine s_move rfl rfl ?_
  refine WL_take rfl ?_
  refine s_eql rfl rfl rfl ?_
  refine s_pick_t rfl rfl rfl ?_
  refine s_move rfl rfl ?_
  refine WL_know (s := 34) (c := true) rfl ((by simp)) ?_
  refine WL_take rfl ?_
  refine s_move rfl rfl ?_
  refine WL_take rfl ?_
  refine s_buildSlice rfl rfl (BS35_1 _) hs ?_; clear hs; intro b36 w hs
  refine WL_take rfl ?_
  refine s_buildSlice rfl rfl (BS26_1 _ _ _) hs ?_; clear hs; intro b37 w hs
  refine WL_take rfl ?_
  have hown : ∀ p ∈ Lu ++ (Lx ++ (LW ++ (Lr ++ (La ++ Lk)))), w.heap[p.1]? = some p.2 := fun p hp => hs.own p (List.mem_cons_of_mem _ (List.mem_cons_of_mem _ hp))
  refine s_call Tryd.call40 rfl rfl (sameLists_ok _ _ rs [(.slice (some ⟨b36, 0, none⟩) 1 1, [7])] w (OwnS_slIn hOu fun p hp => hown p (by simp [hp])) (hs.sl (k := 0) (ds := [_]) rfl (Nat.le_refl _) (by intro j u hj; rw [Nat.zero_add]; exact hj)) (fun q hq => (hrs q hq).sl w fun p hp => hown p (by simp [hp])) (fun q hq => by rw [List.mem_singleton.1 hq]; exact hs.sl (k := 1) (ds := [_]) rfl (Nat.le_refl _) (by intro j u hj; rw [Nat.zero_add]; exact hj)) (by omega) (fun q hq => by
    have h1 : q.2 ∈ rs.x := List.mem_map_of_mem hq
    rw [hxs, List.mem_singleton] at h1
    rw [h1]; decide)) ?_
  rintro r w ⟨hst, rfl⟩
  replace hs := hs.fwd1 hst
  clear hst
  refine s_pick_t rfl rfl rfl ?_
  refine s_assign rfl rfl ?_
  refine WL_nil ?_
  refine n_then ?_
  refine W_ret ?_
  refine end1 rfl rfl ⟨hs.fwd, congrArg Value.bool ?_⟩
  rw [hxs]; simp [Recs.x]
end Go.Proofs.YtgppcfgnhahnaaaDoor
