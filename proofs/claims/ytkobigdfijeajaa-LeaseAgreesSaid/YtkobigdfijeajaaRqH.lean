/- LeaseAgrees. -/
import Derived.Test.YtkobigdfijeajaaRqG
set_option linter.unusedVariables false
set_option linter.unusedSimpArgs false
namespace Go.Proofs.Ytkobigdfijeajaa
open Go.SL
theorem sys_start {k pn : Nat} {ps : List Nat} {Ls : List Hp} {LN : Hp} (hk : 1 ≤ k ∧ k ≤ 3) (hG : GrpAt ps (R0of k) Ls) (hp : ps.length = k) (hN : NetAt pn (List.replicate k 0) [] LN) : Sys k pn ps (R0of k) Ls (List.replicate k 0) [] LN (fun _ => False) (fun _ => False) (fun l => l = []) :=
  ⟨hG, hp, hN, by simp, ⟨by simp, nofun⟩, ⟨_, inv_start hk.1 hk.2, fun l hl => ⟨0, .inl hl⟩⟩, ⟨fun i _ e he => (by cases he), fun x hx => hx.elim⟩⟩
structure LwS where
  i : Nat
  R : Nat → Rp
  Ls : List Hp
  gs : List Int
  ms : List Msg
  LN : Hp
  M : Ms → Prop
  es : List Em
  pv : Value
  LPr : Hp
  szs : List Int
  ls : List Em
  lv : Value
  LX : Hp
structure LjS where
  j : Nat
  szs : List Int
  ls : List Em
  lv : Value
  LX : Hp
/-- the longest committed list; the sizes -/
structure LgOk (k : Nat) (R : Nat → Rp) (szs : List Int) (ls : List Em) (lv : Value) (LX : Hp) : Prop where
  sz : szs.length = k
  le : ∀ (j : Nat) (z : Int), szs[j]? = some z → z ≤ ((R j).n : Int)
  rd : RdS lv ls.length (emcells ls) LX
  em : EmsIn ls LX
  len : ls.length ≤ 1000
  ok : ∀ x ∈ ls, x.e.bs.length ≤ 1000000
theorem take_len {R : Rp} (h : R.ok) : (R.log.take R.n).length = R.n := by rw [List.length_take]; have := h.n; omega
theorem en_len {e : En} (h : e.ok) : e.bs.length ≤ 1000000 := by have := h.1; unfold validP at this; omega
set_option maxHeartbeats 1000000 in
set_option maxRecDepth 8000 in
theorem leaseAgrees_ok (three : Bool) (v : Value) (zs : List Int) (w0 : World) (hv : Sl w0 v zs.length (i64s zs)) (hz : ∀ z ∈ zs, isI64 z) :
    Ret Try.prog 6 [.bool three, v].toArray w0 fun r w' => Fwd [] w0 w' ∧ r = .bool true := by
  obtain ⟨va, vc, rfl, hvc⟩ := hv.len_le
  refine Ret_start fun w hs => ?_
  refine Ret_of Try.func6 rfl Try.ntmps6 rfl ?_
  refine W_seq ?_
  refine W_region ?_
  refine s_assign rfl rfl ?_
  refine WL_nil ?_
  refine n_then ?_
  refine W_seq ?_
  refine W_region ?_
  refine s_assign rfl rfl ?_
  refine WL_nil ?_
  refine n_then ?_
  refine W_cut (σ := Nat) (fun k => [(0, .bool three), (1, .slice va zs.length vc), (5, .int .i64 (k : Int))]) (fun k w => St [] w0 w [] ∧ 1 ≤ k ∧ k ≤ 3) ?_ ?_
  · skip
    refine W_seq ?_
    refine W_region ?_
    refine s_move rfl rfl ?_
    refine WL_nil ?_
    refine n_then ?_
    refine W_cond rfl (fun hc16 => ?_) (fun hc16 => ?_)
    · skip
      try simp only [decide_eq_true_eq, decide_eq_false_iff_not, gt_iff_lt, ge_iff_le] at hc16
      refine W_region ?_
      refine s_assign rfl rfl ?_
      refine WL_nil ?_
      refine n_loop ?_
      first
        | exact ⟨3, ⟨rfl, rfl, rfl, trivial⟩, hs, by omega⟩
        | exact ⟨2, ⟨rfl, rfl, rfl, trivial⟩, hs, by omega⟩
    · skip
      try simp only [decide_eq_true_eq, decide_eq_false_iff_not, gt_iff_lt, ge_iff_le] at hc16
      refine W_skip ?_
      refine n_loop ?_
      first
        | exact ⟨3, ⟨rfl, rfl, rfl, trivial⟩, hs, by omega⟩
        | exact ⟨2, ⟨rfl, rfl, rfl, trivial⟩, hs, by omega⟩
  · skip
    clear hs
    rintro k w ⟨hs, hk⟩
    refine W_seq ?_
    refine W_region ?_
    refine s_move rfl rfl ?_
    refine s_call Try.call26 rfl rfl (group_ok k hk w) ?_
    rintro r w ⟨ps, Ls, LG, hOg, hpl, hGr, hst⟩
    replace hs := hs.back0 hst
    clear hst
    rw [List.append_nil] at hs
    obtain ⟨g, cap, sp, rfl, hcap, hLG⟩ := hOg.block (by omega)
    have hcl : ∀ (i p : Nat), ps[i]? = some p → (ptrs ps ++ sp)[0 + (i : Int).toNat]? = some (.pointer (some ⟨p, 0, none⟩)) := fun i p h => by
      have hi := (List.getElem?_eq_some_iff.1 h).1
      rw [Nat.zero_add, Int.toNat_natCast, List.getElem?_append_left (by rw [ptrs, List.length_map]; exact hi), ptrs, List.getElem?_map, h]; rfl
    have hgb : LG = [(g, Blk 25 (ptrs ps ++ sp))] := hLG
    rw [hgb] at hs
    simp only [List.cons_append, List.nil_append] at hs
    refine s_assign rfl rfl ?_
    refine WL_nil ?_
    refine n_then ?_
    refine W_seq ?_
    refine W_region ?_
    refine s_move rfl rfl ?_
    refine s_call Try.call32 rfl rfl (netNew_ok (k : Int) w (by omega)) ?_
    rintro r w (⟨-, -, pn, LN, rfl, hN, hst⟩ | ⟨hbad, -⟩)
    case inr => exfalso; omega
    replace hs := hs.back0 hst
    clear hst
    rw [Int.toNat_natCast] at hN
    have hS := sys_start hk hGr hpl hN
    refine s_move rfl rfl ?_
    refine s_extract rfl rfl rfl ?_
    refine s_extract rfl rfl rfl ?_
    refine s_assign rfl rfl ?_
    refine s_assign rfl rfl ?_
    refine WL_nil ?_
    refine n_then ?_
    refine W_seq ?_
    refine W_seq ?_
    refine W_region ?_
    refine s_move rfl rfl ?_
    refine s_eql_slice_nil Try.underlying60 rfl rfl rfl ?_
    refine s_move rfl rfl ?_
    refine WL_know (s := 26) (c := false) rfl (rfl) ?_
    refine WL_take rfl ?_
    refine s_move rfl rfl ?_
    refine WL_take rfl ?_
    refine s_eql_ptr_nil Try.underlying75 rfl rfl rfl ?_
    refine s_pick_f rfl rfl rfl ?_
    refine s_move rfl rfl ?_
    refine WL_know (s := 30) (c := false) rfl (rfl) ?_
    refine WL_take rfl ?_
    refine s_move rfl rfl ?_
    refine WL_take rfl ?_
    refine s_neq rfl rfl rfl ?_
    refine s_pick_f rfl rfl rfl ?_
    refine WL_nil ?_
    refine n_then ?_
    refine W_cond_kf rfl (rfl) ?_
    refine W_skip ?_
    refine n_then ?_
    refine W_seq ?_
    refine W_region ?_
    refine s_assign rfl rfl ?_
    refine WL_nil ?_
    refine n_then ?_
    refine W_seq ?_
    refine W_region ?_
    refine s_assign rfl rfl ?_
    refine WL_nil ?_
    refine n_then ?_
    refine W_seq ?_
    refine W_region ?_
    refine s_move rfl rfl ?_
    refine s_makeSlice El58 rfl rfl rfl ?hx hs ?_
    case hx => (refine ⟨?_, ?_, ?_, ?_⟩ <;> omega)
    clear hs; intro b35 w hs
    refine s_assign rfl rfl ?_
    refine WL_nil ?_
    refine n_then ?_
    refine W_seq ?_
    refine W_seq ?_
    refine W_region ?_
    refine s_assign rfl rfl ?_
    refine WL_nil ?_
    refine n_then ?_
    refine W_block ?_
    refine W_loop (σ := LwS) (fun s => [(1, .slice va zs.length vc), (5, .int .i64 (k : Int)), (6, .slice (some ⟨g, 0, none⟩) k cap), (7, .pointer (some ⟨pn, 0, none⟩)), (9, s.pv), (10, s.lv), (11, .slice (some ⟨b35, 0, none⟩) k k), (12, .int .i64 (s.i : Int))])
      (fun s w => St [] w0 w ((g, Blk 25 (ptrs ps ++ sp)) :: (b35, Blk 3 (i64s s.szs)) :: (s.LN ++ (s.Ls.flatten ++ (s.LPr ++ s.LX)))) ∧ Sys k pn ps s.R s.Ls s.gs s.ms s.LN s.M (fun e => e ∈ ens s.es) (fun l => l = ens s.ls) ∧ OwnS 35 6 s.pv s.es.length (emcells s.es) s.LPr ∧ EmsIn s.es s.LX ∧ LgOk k s.R s.szs s.ls s.lv s.LX ∧ s.es.length ≤ s.i ∧ s.i ≤ zs.length ∧ s.i ≤ 80) (fun s => 80 - s.i)
      ⟨0, R0of k, Ls, List.replicate k 0, [], LN, fun _ => False, [], .slice none 0 0, [], List.replicate k 0, [], .slice none 0 0, []⟩ ⟨rfl, rfl, rfl, rfl, rfl, rfl, rfl, rfl, trivial⟩
      ⟨by
        have h9 := hs; rw [made_one] at h9
        simpa [i64s, cat] using St.reord [[_], LN, [_], Ls.flatten] [2, 0, 1, 3] [] (by simpa [cat] using h9) rfl, hS.weak (fun _ h => h.elim), OwnS.nil _ _, nofun,
        ⟨by simp, fun j z hj => by
          have h1 := List.mem_of_getElem? hj
          rw [List.mem_replicate] at h1
          rw [h1.2]; omega, (OwnS.nil 35 6).rdS, nofun, by simp, nofun⟩, Nat.le_refl _, Nat.zero_le _, Nat.zero_le _⟩ ?_
    clear hs hS hN hGr
    rintro ⟨i, R, Ls, gs, ms, LN, M, es, pv, LPr, szs, ls, lv, LX⟩ w ⟨hs, hS, hOp, hEp, hLo, hesl, hi, hi80⟩
    simp only at hs hS hOp hEp hLo hesl hi hi80 ⊢
    refine W_seq ?_
    refine W_seq ?_
    refine W_region ?_
    refine s_move rfl rfl ?_
    refine s_move rfl rfl ?_
    refine s_len rfl rfl (LN58 _ _ _ _) ?_
    refine s_lss rfl rfl rfl ?_
    refine s_move rfl rfl ?_
    refine WL_case (s := 40) rfl (fun hg40 => ?_) (fun hg40 => ?_)
    · skip
      try simp only [decide_eq_true_eq, decide_eq_false_iff_not, gt_iff_lt, ge_iff_le] at hg40
      refine WL_take rfl ?_
      refine s_move rfl rfl ?_
      refine WL_take rfl ?_
      refine s_lss rfl rfl rfl ?_
      refine s_pick_t rfl rfl rfl ?_
      refine WL_nil ?_
      refine n_then ?_
      refine W_cond rfl (fun hc43 => ?_) (fun hc43 => ?_)
      · skip
        try simp only [decide_eq_true_eq, decide_eq_false_iff_not, gt_iff_lt, ge_iff_le] at hc43
        have hil : i < zs.length := by omega
        have hzi : zs[i]? = some zs[i] := List.getElem?_eq_getElem hil
        have hzz := hz _ (List.getElem_mem hil)
        generalize zs[i] = z at hzi hzz
        obtain ⟨b1, o1, rfl, hc1⟩ := hv.at (k := i) (u := .int .i64 z) (by simp [hzi])
        have hB1 : b1 < w0.heap.size := World.block_lt_of_cell? w0 _ hc1
        refine W_skip ?_
        refine n_then ?_
        refine W_seq ?_
        refine W_block ?_
        refine W_seq ?_
        refine W_region ?_
        refine s_move rfl rfl ?_
        refine s_move rfl rfl ?_
        refine s_move rfl rfl ?_
        refine s_move rfl rfl ?_
        refine s_move rfl rfl ?_
        (refine s_indexAddr1 El58 rfl rfl rfl ?hx ?_; case hx => (constructor <;> first | omega | (simp; omega)))
        refine s_load Try.isAgg3 rfl rfl ((hs.oldcell (a := ⟨b1, o1 + i, none⟩) hB1 (by simp)).trans hc1) ?_
        replace hs : St [] w0 w ([(b35, Blk 3 (i64s szs))] ++ ((LG ++ (LN ++ Ls.flatten)) ++ (LPr ++ LX))) := by
          rw [hgb]; simpa [cat] using St.reord [[_], [_], LN, Ls.flatten, LPr, LX] [1, 0, 2, 3, 4, 5] [] (by simpa [cat] using hs) rfl
        refine s_callL (M := [_]) (L1 := LG ++ (LN ++ Ls.flatten)) (X := LPr ++ LX) Try.call33 rfl rfl hs (fun h => play_ok k pn ps R Ls gs ms LN LG _ M _ _ (.slice (some ⟨g, 0, none⟩) k cap) z w hS hk hzz hOg rfl h) ?_
        clear hs; rintro u w L9 ⟨R', Ls', gs', ms', LN', M', l1, es1, LB1, LP1, rfl, hl1, hl1l, hS1, hgr⟩ - hs
        obtain ⟨ua, uc, rfl, hes1⟩ := hl1.form
        replace hs : St [] w0 w ([(g, Blk 25 (ptrs ps ++ sp)), (b35, Blk 3 (i64s szs))] ++ ((LN' ++ Ls'.flatten) ++ (LPr ++ (LB1 ++ (LP1 ++ LX))))) := by
          rw [hgb] at hs; simpa [cat] using St.reord [[_], [_], LN', Ls'.flatten, LB1, LP1, LPr, LX] [1, 0, 2, 3, 6, 4, 5, 7] [] (by simpa [cat] using hs) rfl
        obtain ⟨hOl, hEl, hel⟩ := hl1
        rw [hes1] at hOl
        refine s_appendM (M := [_, _] ++ (LN' ++ Ls'.flatten)) (X := LB1 ++ (LP1 ++ LX)) El43 rfl rfl rfl hOp (by simpa using hs) (OwnS_slIn hOl fun q hq => hs.own q (by simp [hq])) (by rw [emcells_length, hes1]) (hEl.one w fun q hq => hs.own q (by simp [hq])) (by omega) ?_
        clear hs hOp; intro pv' w LPr' hOp hs
        replace hs : St [] w0 w ((g, Blk 25 (ptrs ps ++ sp)) :: (b35, Blk 3 (i64s szs)) :: (LN' ++ (Ls'.flatten ++ (LPr' ++ (LP1 ++ LX))))) := by
          simpa [cat] using St.reord [[_], [_], LN', Ls'.flatten, LPr', LB1, LP1, LX] [0, 1, 2, 3, 4, 6, 7] [5] (by simpa [cat] using hs) rfl
        rw [← emcells_append, ← hes1, ← List.length_append] at hOp
        have hEp' : EmsIn (es ++ es1) (LP1 ++ LX) := fun m hm => by
          rcases List.mem_append.1 hm with hm | hm
          · exact RdS.mono' (hEp m hm) fun q hq => by simp [hq]
          · exact RdS.mono' (hEl m hm) fun q hq => by simp [hq]
        have hS' : Sys k pn ps R' Ls' gs' ms' LN' M' (fun e => e ∈ ens (es ++ es1)) (fun l => l = ens ls) := hS1.weak fun e he => by
          rw [ens_append, hel]; exact List.mem_append.2 he
        have hLo' : LgOk k R' szs ls lv (LP1 ++ LX) := ⟨hLo.sz, fun j z hj => by
          have hjl := (List.getElem?_eq_some_iff.1 hj).1
          have h1 := hLo.sz
          have h2 := hLo.le j z hj
          have h3 := hgr j (by omega)
          omega, RdS.mono' hLo.rd fun q hq => by simp [hq], hLo.em.mono fun q hq => by simp [hq], hLo.len, hLo.ok⟩
        have hesl' : (es ++ es1).length ≤ i + 1 := by rw [List.length_append]; omega
        clear hEp hS hS1 hLo hl1l hgr hOl hEl hel hes1 hesl
        generalize es ++ es1 = es2 at hOp hEp' hS' hesl'
        generalize LP1 ++ LX = LX1 at hs hEp' hLo'
        refine s_assign rfl rfl ?_
        refine WL_nil ?_
        refine n_then ?_
        refine W_seq ?_
        refine W_region ?_
        refine s_assign rfl rfl ?_
        refine WL_nil ?_
        refine n_then ?_
        refine W_block ?_
        refine W_loop (σ := LjS) (fun s => [(1, .slice (some ⟨b1, o1, none⟩) zs.length vc), (5, .int .i64 (k : Int)), (6, .slice (some ⟨g, 0, none⟩) k cap), (7, .pointer (some ⟨pn, 0, none⟩)), (9, pv'), (10, s.lv), (11, .slice (some ⟨b35, 0, none⟩) k k), (12, .int .i64 (i : Int)), (13, .int .i64 (s.j : Int))])
          (fun s w => St [] w0 w ((g, Blk 25 (ptrs ps ++ sp)) :: (b35, Blk 3 (i64s s.szs)) :: (LN' ++ (Ls'.flatten ++ (LPr' ++ s.LX)))) ∧ Sys k pn ps R' Ls' gs' ms' LN' M' (fun e => e ∈ ens es2) (fun l => l = ens s.ls) ∧ EmsIn es2 s.LX ∧ LgOk k R' s.szs s.ls s.lv s.LX ∧ s.j ≤ k) (fun s => k - s.j)
          ⟨0, szs, ls, lv, LX1⟩ ⟨rfl, rfl, rfl, rfl, rfl, rfl, rfl, rfl, rfl, trivial⟩ ⟨hs, hS', hEp', hLo', Nat.zero_le _⟩ ?_
        clear hs hS' hEp' hLo' szs ls lv LX1
        rintro ⟨j, szs, ls, lv, LX⟩ w ⟨hs, hS, hEp, hLo, hj⟩
        simp only at hs hS hEp hLo hj ⊢
        refine W_seq ?_
        refine W_seq ?_
        refine W_region ?_
        refine s_move rfl rfl ?_
        refine s_move rfl rfl ?_
        refine s_lss rfl rfl rfl ?_
        refine WL_nil ?_
        refine n_then ?_
        refine W_cond rfl (fun hc57 => ?_) (fun hc57 => ?_)
        · skip
          try simp only [decide_eq_true_eq, decide_eq_false_iff_not, gt_iff_lt, ge_iff_le] at hc57
          have hjk : j < k := by omega
          obtain ⟨p, L, X, hp, hRA, hpm, -, -, -⟩ := hS.rep hjk
          have hszl := hLo.sz
          have hsj : szs[j]? = some szs[j] := List.getElem?_eq_getElem (by omega)
          have hzle := hLo.le j _ hsj
          generalize szs[j] = zj at hsj hzle
          have hRok : (R' j).ok := hRA.ok
          have htl := take_len hRok
          have hRlog := hRok.log
          have hRn := hRok.n
          obtain ⟨_, lc, la, rfl, hlv⟩ := hLo.rd.form w fun q hq => hs.own q (by simp [hq])
          subst hlv
          have hlsl := hLo.len
          refine W_skip ?_
          refine n_then ?_
          refine W_seq ?_
          refine W_block ?_
          refine W_seq ?_
          refine W_region ?_
          refine s_move rfl rfl ?_
          refine s_move rfl rfl ?_
          (refine s_indexAddr1 El60 rfl rfl rfl ?hx ?_; case hx => (constructor <;> first | omega | (simp; omega)))
          refine s_load Try.isAgg25 rfl rfl (hs.cell (k := 0) rfl (hcl _ _ hp)) ?_
          refine s_call Try.call16 rfl rfl (committed_ok p (R' j) L w hRA fun q hq => hs.own q (by have := hpm.mem_iff.2 (List.mem_append_left X hq); simp [this])) ?_
          rintro r w ⟨ys, LBc, LPc, hlg, hst⟩
          replace hs := hs.back0 hst
          clear hst
          obtain ⟨ca, cc, rfl, hyl⟩ := hlg.form
          obtain ⟨hOc, hEc, hec⟩ := hlg
          rw [htl] at hyl hOc ⊢
          rw [hyl] at hOc
          refine s_assign rfl rfl ?_
          refine WL_nil ?_
          refine n_then ?_
          refine W_seq ?_
          refine W_region ?_
          refine s_move rfl rfl ?_
          have hOc' : OwnS 35 6 (.slice ca (R' j).n cc) ys.length (emcells ys) LBc := by rw [hyl]; exact hOc
          refine s_call Try.call34 rfl rfl (plains_ok _ ys LPc w (OwnS_slIn hOc' fun q hq => hs.own q (by simp [hq])) hEc (fun q hq => hs.own q (by simp [hq])) (by omega)) ?_
          rintro r w ⟨LBp, hOq, hst⟩
          replace hs := hs.back0 hst
          clear hst
          obtain ⟨_, qc, qa, rfl, hql⟩ := hOq.form
          subst hql
          replace hs : St [] w0 w ((g, Blk 25 (ptrs ps ++ sp)) :: (b35, Blk 3 (i64s szs)) :: (LN' ++ (Ls'.flatten ++ (LPr' ++ (LBp ++ (LBc ++ (LPc ++ LX))))))) := by
            simpa [cat] using St.reord [LBp, LBc, LPc, [_], [_], LN', Ls'.flatten, LPr', LX] [3, 4, 5, 6, 7, 0, 1, 2, 8] [] (by simpa [cat] using hs) rfl
          have hyok : ∀ y ∈ ys, y.e.bs.length ≤ 1000000 := fun y hy => en_len (hRok.es y.e (List.mem_of_mem_take (by rw [← hec]; exact List.mem_map_of_mem (f := Em.e) hy)))
          have hEx : EmsIn es2 (LBp ++ (LBc ++ (LPc ++ LX))) := hEp.mono fun q hq => by simp [hq]
          have hEy : EmsIn ys (LBp ++ (LBc ++ (LPc ++ LX))) := hEc.mono fun q hq => by simp [hq]
          have hEl : EmsIn ls (LBp ++ (LBc ++ (LPc ++ LX))) := hLo.em.mono fun q hq => by simp [hq]
          have hcmp := hS.cmp hjk rfl
          rw [← hec] at hcmp
          have hSy := hS.note hjk
          rw [← hec] at hSy
          refine s_assign rfl rfl ?_
          refine WL_nil ?_
          refine n_then ?_
          refine W_seq ?_
          refine W_seq ?_
          refine W_region ?_
          refine s_move rfl rfl ?_
          refine s_len rfl rfl (LN69 _ _ _ _) ?_
          refine s_move rfl rfl ?_
          refine s_move rfl rfl ?_
          (refine s_indexAddr1 El58 rfl rfl rfl ?hx ?_; case hx => (constructor <;> first | omega | (simp; omega)))
          refine s_load Try.isAgg3 rfl rfl (hs.cell (k := 1) rfl (show (i64s szs)[0 + (j : Int).toNat]? = some (.int .i64 zj) by simp [hsj])) ?_
          refine s_lss rfl rfl rfl ?_
          refine s_move rfl rfl ?_
          refine WL_know (s := 74) (c := false) rfl ((by simp; omega)) ?_
          refine WL_take rfl ?_
          refine s_move rfl rfl ?_
          refine WL_take rfl ?_
          refine s_move rfl rfl ?_
          refine WL_take rfl ?_
          refine s_call Try.call35 rfl rfl (known_ok _ _ ys es2 (LBp ++ (LBc ++ (LPc ++ LX))) (LBp ++ (LBc ++ (LPc ++ LX))) w (OwnS_slIn (show OwnS 35 6 _ ys.length (emcells ys) LBc by rw [hyl]; exact hOc) fun q hq => hs.own q (by simp [hq])) (OwnS_slIn hOp fun q hq => hs.own q (by simp [hq])) hEy hEx (fun q hq => hs.own q (List.mem_cons_of_mem _ (List.mem_cons_of_mem _ (List.mem_append_right _ (List.mem_append_right _ (List.mem_append_right _ hq)))))) (fun q hq => hs.own q (List.mem_cons_of_mem _ (List.mem_cons_of_mem _ (List.mem_append_right _ (List.mem_append_right _ (List.mem_append_right _ hq)))))) (by omega) (by omega) hyok (fun e he => hS.all.1 j hjk e (List.mem_of_mem_take (by rw [← hec]; exact he)))) ?_
          rintro r w ⟨hst, rfl⟩
          replace hs := hs.fwd1 hst
          clear hst
          refine WL_take rfl ?_
          refine s_not rfl rfl ?_
          refine s_pick_f rfl rfl rfl ?_
          refine WL_nil ?_
          refine n_then ?_
          refine W_cond_kf rfl (rfl) ?_
          refine W_skip ?_
          refine n_then ?_
          refine W_seq ?_
          refine W_region ?_
          refine s_move rfl rfl ?_
          refine s_move rfl rfl ?_
          refine s_move rfl rfl ?_
          refine s_len rfl rfl (LN69 _ _ _ _) ?_
          (refine s_indexAddr1 El58 rfl rfl rfl ?hx ?_; case hx => (constructor <;> first | omega | (simp; omega)))
          refine s_store Try.sizeOf3 rfl rfl rfl hs (kk := 1) rfl (by simp; omega) ?_
          clear hs; intro w hs
          simp only [List.set_cons_zero, List.set_cons_succ, Nat.zero_add, Int.toNat_natCast, i64s_set] at hs
          have hszs : ∀ (a : Nat) (z : Int), (szs.set j (ys.length : Int))[a]? = some z → z ≤ ((R' a).n : Int) := fun a z ha => by
            by_cases hja : a = j
            · subst hja
              rw [List.getElem?_set_self (by omega)] at ha
              cases ha; omega
            · rw [List.getElem?_set_ne (Ne.symm hja)] at ha
              exact hLo.le a z ha
          refine WL_nil ?_
          refine n_then ?_
          refine W_seq ?_
          refine W_seq ?_
          refine W_region ?_
          refine s_move rfl rfl ?_
          refine s_len rfl rfl (LN69 _ _ _ _) ?_
          refine s_move rfl rfl ?_
          refine s_len rfl rfl (LN69 _ _ _ _) ?_
          refine s_gtr rfl rfl rfl ?_
          refine WL_nil ?_
          refine n_then ?_
          refine W_cond rfl (fun hc89 => ?_) (fun hc89 => ?_)
          · skip
            try simp only [decide_eq_true_eq, decide_eq_false_iff_not, gt_iff_lt, ge_iff_le] at hc89
            refine W_seq ?_
            refine W_seq ?_
            refine W_region ?_
            refine s_move rfl rfl ?_
            refine s_move rfl rfl ?_
            refine s_call Try.call36 rfl rfl (prefix_ok _ _ ls ys (LBp ++ (LBc ++ (LPc ++ LX))) (LBp ++ (LBc ++ (LPc ++ LX))) w (hLo.rd.sl w fun q hq => hs.own q (by simp [hq])) (OwnS_slIn hOq fun q hq => hs.own q (by simp [hq])) hEl hEy (fun q hq => hs.own q (List.mem_cons_of_mem _ (List.mem_cons_of_mem _ (List.mem_append_right _ (List.mem_append_right _ (List.mem_append_right _ hq)))))) (fun q hq => hs.own q (List.mem_cons_of_mem _ (List.mem_cons_of_mem _ (List.mem_append_right _ (List.mem_append_right _ (List.mem_append_right _ hq)))))) hLo.len hLo.ok (by
              rcases hcmp with h | h
              · exact h
              · exfalso; have h1 := h.length_le; rw [ens_length, ens_length] at h1; omega)) ?_
            rintro r w ⟨hst, rfl⟩
            replace hs := hs.fwd1 hst
            clear hst
            refine s_not rfl rfl ?_
            refine WL_nil ?_
            refine n_then ?_
            refine W_cond_kf rfl (rfl) ?_
            refine W_skip ?_
            refine n_then ?_
            refine W_region ?_
            refine s_move rfl rfl ?_
            refine s_assign rfl rfl ?_
            refine WL_nil ?_
            refine n_then ?_
            refine W_seq ?_
            refine W_region ?_
            refine s_move rfl rfl ?_
            refine s_move rfl rfl ?_
            first
              | (have hT : (ls.length : Int) < ys.length := hc89
                 refine s_call Try.call36 rfl rfl (prefix_ok (.slice qa ys.length qc) (.slice qa ys.length qc) ys ys (LBp ++ (LBc ++ (LPc ++ LX))) (LBp ++ (LBc ++ (LPc ++ LX))) w (OwnS_slIn hOq fun q hq => hs.own q (by simp [hq])) (OwnS_slIn hOq fun q hq => hs.own q (by simp [hq])) hEy hEy (fun q hq => hs.own q (List.mem_cons_of_mem _ (List.mem_cons_of_mem _ (List.mem_append_right _ (List.mem_append_right _ (List.mem_append_right _ hq)))))) (fun q hq => hs.own q (List.mem_cons_of_mem _ (List.mem_cons_of_mem _ (List.mem_append_right _ (List.mem_append_right _ (List.mem_append_right _ hq)))))) (by omega) hyok (List.prefix_refl _)) ?_)
              | (have hT : ¬ (ls.length : Int) < ys.length := hc89
                 refine s_call Try.call36 rfl rfl (prefix_ok (.slice qa ys.length qc) (.slice la ls.length lc) ys ls (LBp ++ (LBc ++ (LPc ++ LX))) (LBp ++ (LBc ++ (LPc ++ LX))) w (OwnS_slIn hOq fun q hq => hs.own q (by simp [hq])) (hLo.rd.sl w fun q hq => hs.own q (by simp [hq])) hEy hEl (fun q hq => hs.own q (List.mem_cons_of_mem _ (List.mem_cons_of_mem _ (List.mem_append_right _ (List.mem_append_right _ (List.mem_append_right _ hq)))))) (fun q hq => hs.own q (List.mem_cons_of_mem _ (List.mem_cons_of_mem _ (List.mem_append_right _ (List.mem_append_right _ (List.mem_append_right _ hq)))))) (by omega) hyok (by
                  rcases hcmp with h | h
                  · have h1 := h.length_le
                    rw [ens_length, ens_length] at h1
                    rw [List.IsPrefix.eq_of_length h (by rw [ens_length, ens_length]; omega)]
                    exact List.prefix_refl _
                  · exact h)) ?_)
            rintro r w ⟨hst, rfl⟩
            replace hs := hs.fwd1 hst
            clear hst
            refine s_not rfl rfl ?_
            refine WL_nil ?_
            refine n_then ?_
            refine W_cond_kf rfl (rfl) ?_
            refine W_skip ?_
            refine n_blk ?_
            refine n_then ?_
            refine W_region ?_
            refine s_move rfl rfl ?_
            first | (refine s_add' rfl rfl rfl ?hx ?_; case hx => (constructor <;> first | omega | (simp only; omega))) | refine s_add rfl rfl rfl ?_
            refine s_assign rfl rfl ?_
            refine WL_nil ?_
            refine n_loop ?_
            first
              | (have hT : ¬ (ls.length : Int) < ys.length := hc89
                 refine ⟨⟨j + 1, _, ls, .slice la ls.length lc, _⟩, ⟨rfl, rfl, rfl, rfl, rfl, rfl, rfl, rfl, rfl, trivial⟩, ⟨hs, hS, hEx, ⟨by simp [hszl], hszs, RdS.mono' hLo.rd fun q hq => by simp [hq], hEl, hLo.len, hLo.ok⟩, by simp only; omega⟩, by simp only; omega⟩)
              | (have hT : (ls.length : Int) < ys.length := hc89
                 refine ⟨⟨j + 1, _, ys, .slice qa ys.length qc, _⟩, ⟨rfl, rfl, rfl, rfl, rfl, rfl, rfl, rfl, rfl, trivial⟩, ⟨hs, hSy, hEx, ⟨by simp [hszl], hszs, RdS.mono' hOq.rdS fun q hq => by simp [hq], hEy, (show ys.length ≤ 1000 by omega), hyok⟩, by simp only; omega⟩, by simp only; omega⟩)
          · skip
            try simp only [decide_eq_true_eq, decide_eq_false_iff_not, gt_iff_lt, ge_iff_le] at hc89
            refine W_skip ?_
            refine n_then ?_
            refine W_seq ?_
            refine W_region ?_
            refine s_move rfl rfl ?_
            refine s_move rfl rfl ?_
            first
              | (have hT : (ls.length : Int) < ys.length := hc89
                 refine s_call Try.call36 rfl rfl (prefix_ok (.slice qa ys.length qc) (.slice qa ys.length qc) ys ys (LBp ++ (LBc ++ (LPc ++ LX))) (LBp ++ (LBc ++ (LPc ++ LX))) w (OwnS_slIn hOq fun q hq => hs.own q (by simp [hq])) (OwnS_slIn hOq fun q hq => hs.own q (by simp [hq])) hEy hEy (fun q hq => hs.own q (List.mem_cons_of_mem _ (List.mem_cons_of_mem _ (List.mem_append_right _ (List.mem_append_right _ (List.mem_append_right _ hq)))))) (fun q hq => hs.own q (List.mem_cons_of_mem _ (List.mem_cons_of_mem _ (List.mem_append_right _ (List.mem_append_right _ (List.mem_append_right _ hq)))))) (by omega) hyok (List.prefix_refl _)) ?_)
              | (have hT : ¬ (ls.length : Int) < ys.length := hc89
                 refine s_call Try.call36 rfl rfl (prefix_ok (.slice qa ys.length qc) (.slice la ls.length lc) ys ls (LBp ++ (LBc ++ (LPc ++ LX))) (LBp ++ (LBc ++ (LPc ++ LX))) w (OwnS_slIn hOq fun q hq => hs.own q (by simp [hq])) (hLo.rd.sl w fun q hq => hs.own q (by simp [hq])) hEy hEl (fun q hq => hs.own q (List.mem_cons_of_mem _ (List.mem_cons_of_mem _ (List.mem_append_right _ (List.mem_append_right _ (List.mem_append_right _ hq)))))) (fun q hq => hs.own q (List.mem_cons_of_mem _ (List.mem_cons_of_mem _ (List.mem_append_right _ (List.mem_append_right _ (List.mem_append_right _ hq)))))) (by omega) hyok (by
                  rcases hcmp with h | h
                  · have h1 := h.length_le
                    rw [ens_length, ens_length] at h1
                    rw [List.IsPrefix.eq_of_length h (by rw [ens_length, ens_length]; omega)]
                    exact List.prefix_refl _
                  · exact h)) ?_)
            rintro r w ⟨hst, rfl⟩
            replace hs := hs.fwd1 hst
            clear hst
            refine s_not rfl rfl ?_
            refine WL_nil ?_
            refine n_then ?_
            refine W_cond_kf rfl (rfl) ?_
            refine W_skip ?_
            refine n_blk ?_
            refine n_then ?_
            refine W_region ?_
            refine s_move rfl rfl ?_
            first | (refine s_add' rfl rfl rfl ?hx ?_; case hx => (constructor <;> first | omega | (simp only; omega))) | refine s_add rfl rfl rfl ?_
            refine s_assign rfl rfl ?_
            refine WL_nil ?_
            refine n_loop ?_
            first
              | (have hT : ¬ (ls.length : Int) < ys.length := hc89
                 refine ⟨⟨j + 1, _, ls, .slice la ls.length lc, _⟩, ⟨rfl, rfl, rfl, rfl, rfl, rfl, rfl, rfl, rfl, trivial⟩, ⟨hs, hS, hEx, ⟨by simp [hszl], hszs, RdS.mono' hLo.rd fun q hq => by simp [hq], hEl, hLo.len, hLo.ok⟩, by simp only; omega⟩, by simp only; omega⟩)
              | (have hT : (ls.length : Int) < ys.length := hc89
                 refine ⟨⟨j + 1, _, ys, .slice qa ys.length qc, _⟩, ⟨rfl, rfl, rfl, rfl, rfl, rfl, rfl, rfl, rfl, trivial⟩, ⟨hs, hSy, hEx, ⟨by simp [hszl], hszs, RdS.mono' hOq.rdS fun q hq => by simp [hq], hEy, (show ys.length ≤ 1000 by omega), hyok⟩, by simp only; omega⟩, by simp only; omega⟩)
        · skip
          try simp only [decide_eq_true_eq, decide_eq_false_iff_not, gt_iff_lt, ge_iff_le] at hc57
          refine W_exit ?_
          refine x_then ?_
          refine x_then ?_
          refine exit_hit ?_
          refine n_blk ?_
          refine n_then ?_
          refine W_region ?_
          refine s_move rfl rfl ?_
          first | (refine s_add' rfl rfl rfl ?hx ?_; case hx => (constructor <;> first | omega | (simp only; omega))) | refine s_add rfl rfl rfl ?_
          refine s_assign rfl rfl ?_
          refine WL_nil ?_
          refine n_loop ?_
          exact ⟨⟨i + 1, R', Ls', gs', ms', LN', M', es2, pv', LPr', szs, ls, lv, LX⟩, ⟨rfl, rfl, rfl, rfl, rfl, rfl, rfl, rfl, trivial⟩, ⟨hs, hS, hOp, hEp, hLo, hesl', by simp only; omega, by simp only; omega⟩, by simp only; omega⟩
      · skip
        try simp only [decide_eq_true_eq, decide_eq_false_iff_not, gt_iff_lt, ge_iff_le] at hc43
        refine W_exit ?_
        refine x_then ?_
        refine x_then ?_
        refine exit_hit ?_
        refine n_then ?_
        refine W_seq ?_
        refine W_region ?_
        refine s_call Try.call19 rfl rfl (lives_ok w) ?_
        rintro r w ⟨hst, rfl⟩
        replace hs := hs.fwd1 hst
        refine s_assign rfl rfl ?_
        refine WL_nil ?_
        refine n_then ?_
        refine W_ret ?_
        exact end1 rfl rfl ⟨hs.fwd, rfl⟩
    · skip
      try simp only [decide_eq_true_eq, decide_eq_false_iff_not, gt_iff_lt, ge_iff_le] at hg40
      skip
      refine WL_skip rfl rfl rfl ?_
      refine WL_skip rfl rfl rfl ?_
      refine s_pick_f rfl rfl rfl ?_
      refine WL_nil ?_
      refine n_then ?_
      refine W_cond_f rfl ?_
      refine W_exit ?_
      refine x_then ?_
      refine x_then ?_
      refine exit_hit ?_
      refine n_then ?_
      refine W_seq ?_
      refine W_region ?_
      refine s_call Try.call19 rfl rfl (lives_ok w) ?_
      rintro r w ⟨hst, rfl⟩
      replace hs := hs.fwd1 hst
      refine s_assign rfl rfl ?_
      refine WL_nil ?_
      refine n_then ?_
      refine W_ret ?_
      exact end1 rfl rfl ⟨hs.fwd, rfl⟩
end Go.Proofs.Ytkobigdfijeajaa
