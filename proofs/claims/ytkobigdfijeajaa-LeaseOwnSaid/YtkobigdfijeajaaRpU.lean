/- Copy of a table. -/
import Derived.Test.YtkobigdfijeajaaRpT
set_option linter.unusedVariables false
set_option linter.unusedSimpArgs false
namespace Go.Proofs.Ytkobigdfijeajaa
open Go.SL
set_option maxHeartbeats 1000000 in
theorem copy_ok (p : Nat) (f : ByteArray → Option Lz) (cs : List Cmd) (L0 : Hp) (w0 : World) (hT : TabAt p f cs L0) (hs : St (ids L0) w0 w0 L0) (hcl : cs.length ≤ 4294967296) :
    Ret Try.prog 14 [.pointer (some ⟨p, 0, none⟩)].toArray w0 fun r w' => ∃ L', St (ids L0) w0 w' L' ∧ ∃ p2 L2 cs2, L' = L0 ++ L2 ∧ r = .pointer (some ⟨p2, 0, none⟩) ∧ TabAt p2 f cs2 L2 ∧ cs2.map (·.bs) = cs.map (·.bs) := by
  have hT0 := hT
  obtain ⟨m, o, cv, Lc, hL, hM, hO, hC⟩ := hT
  obtain ⟨cl, cc, ca, rfl, rfl⟩ := hO.form
  have hMo := hM
  obtain ⟨es, ec, rfl, -⟩ := hMo
  revert hs
  generalize ids L0 = F
  intro hs
  replace hs : St F w0 w0 ((p, Blk 85 [.map (some m), .slice ca cs.length cc]) :: (m, .map (es.map ent).toArray ec) :: (Lc ++ cblks cs)) := by rw [hL] at hs; exact hs
  refine Ret_startL hs fun w hs => ?_
  refine Ret_of Try.func14 rfl Try.ntmps14 rfl ?_
  refine W_seq ?_
  refine W_region ?_
  refine s_assign rfl rfl ?_
  refine WL_nil ?_
  refine n_then ?_
  refine W_seq ?_
  refine W_region ?_
  refine s_move rfl rfl ?_
  refine s_nilCheck rfl rfl ?_
  refine s_fieldAddr rfl rfl (FA85_0 _ _) ?_
  first
    | refine s_load Try.isAgg83 rfl rfl (hs.cell (k := 0) rfl rfl) ?_
    | refine s_load Try.isAgg83 rfl rfl (hs.cell (k := 1) rfl rfl) ?_
    | refine s_load Try.isAgg83 rfl rfl (hs.cell (k := 2) rfl rfl) ?_
    | refine s_load Try.isAgg83 rfl rfl (hs.cell (k := 3) rfl rfl) ?_
    | refine s_load Try.isAgg83 rfl rfl (hs.cell (k := 4) rfl rfl) ?_
    | refine s_load Try.isAgg83 rfl rfl (hs.cell (k := 5) rfl rfl) ?_
    | refine s_load Try.isAgg83 rfl rfl (hs.cell (k := 6) rfl rfl) ?_
    | refine s_load Try.isAgg83 rfl rfl (hs.cell (k := 7) rfl rfl) ?_
    | refine s_load Try.isAgg83 rfl rfl (hs.cell (k := 8) rfl rfl) ?_
    | refine s_load Try.isAgg83 rfl rfl (hs.cell (k := 9) rfl rfl) ?_
  refine s_call Try.call45 rfl rfl (mapsClone_ok m _ ec w (hs.at (k := 1) rfl)) ?_
  rintro r w ⟨b, rfl, hst⟩
  replace hs : St F w0 w ([(b, .map (es.map ent).toArray ec)] ++ (L0 ++ [])) := by rw [hL, List.append_nil]; exact hs.back0 hst
  clear hst
  refine s_move rfl rfl ?_
  refine s_callL (M := [_]) (L1 := L0) (X := []) Try.call15 rfl rfl hs (fun h => commands_ok p f cs L0 w hT0 h hcl) ?_
  clear hs; rintro u w L9 ⟨cs2, Lr, rfl, hO2, hbs, hC2⟩ - hs
  obtain ⟨_, uc, ua, rfl, hul⟩ := hO2.form
  subst hul
  refine s_build rfl rfl (BD85_0_1 _ _ _ _) ?_
  first | refine s_box rfl rfl hs ?_ | refine s_box1 rfl rfl rfl hs ?_
  clear hs; intro b11 w hs
  refine s_assign rfl rfl ?_
  refine WL_nil ?_
  refine n_then ?_
  refine W_ret ?_
  have hlen : cs2.length = cs.length := by have := congrArg List.length hbs; simpa using this
  have hs2 := St.reord [[_], [(b, .map (es.map ent).toArray ec)], L0, Lr, cblks cs2] [2, 0, 1, 3, 4] [] (by simpa [cat] using hs) rfl
  refine end1 rfl rfl ⟨_, by simpa [cat] using hs2, _, _, cs2, rfl, rfl, ⟨b, _, _, Lr, rfl, hM, by rw [hlen]; exact hO2, hC2⟩, hbs⟩
end Go.Proofs.Ytkobigdfijeajaa
