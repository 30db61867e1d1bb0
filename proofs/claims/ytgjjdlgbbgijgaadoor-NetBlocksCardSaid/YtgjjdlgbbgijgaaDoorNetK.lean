/- NetBlocks. -/
import Derived.Test.YtgjjdlgbbgijgaaDoorNetE
import Derived.Test.YtgjjdlgbbgijgaaDoorBlk
set_option linter.unusedVariables false
set_option linter.unusedSimpArgs false
namespace Go.Proofs.YtgjjdlgbbgijgaaDoor
open Go.SL
theorem copyAny_ok (p : Nat) (gs : List Int) (ms : List Msg) (i : Int) (L0 : Hp) (w0 : World) (hN : NetAt p gs ms L0) (hs : St (ids L0) w0 w0 L0) (hml : ms.length ≤ 900) (hbl : ∀ m ∈ ms, m.bs.length ≤ 65536) :
    Ret Tryd.prog 12 [.pointer (some ⟨p, 0, none⟩), .int .i64 i].toArray w0 fun r w' => ∃ L', St (ids L0) w0 w' L' ∧ ∃ (e : Int) (ms' : List Msg), r = .int .i64 e ∧ NetAt p gs ms' L' ∧ ms'.length ≤ ms.length + 1 ∧ ∀ m ∈ ms', ∃ m0 ∈ ms, m.f = m0.f ∧ m.t = m0.t ∧ m.bs = m0.bs := by
  by_cases hin : 0 ≤ i ∧ i < ms.length
  · refine (copy_yes p gs ms i L0 w0 hN hs hin (by omega) hbl).mono ?_
    rintro r w ⟨L', h1, ⟨h, -, -⟩ | ⟨-, rfl, m, b, hm, hN'⟩⟩
    · omega
    · refine ⟨L', h1, 0, _, rfl, hN', by simp, fun x hx => ?_⟩
      rcases List.mem_append.1 hx with h | h
      · exact ⟨x, h, rfl, rfl, rfl⟩
      · rw [List.mem_singleton.1 h]; exact ⟨m, List.mem_of_getElem? hm, rfl, rfl, rfl⟩
  · refine (copy_no p gs ms i L0 w0 hN hs hin).mono ?_
    rintro r w ⟨L', h1, rfl, hN'⟩
    exact ⟨L', h1, 9, ms, rfl, hN', by omega, fun x hx => ⟨x, hx, rfl, rfl, rfl⟩⟩
theorem takeAny_ok (p : Nat) (gs : List Int) (ms : List Msg) (i : Int) (L0 : Hp) (w0 : World) (hN : NetAt p gs ms L0) (hs : St (ids L0) w0 w0 L0) (hml : ms.length ≤ 1000) (hmv : ∀ m ∈ ms, 0 ≤ m.f ∧ m.f < gs.length ∧ 0 ≤ m.t ∧ m.t < gs.length) :
    Ret Tryd.prog 13 [.pointer (some ⟨p, 0, none⟩), .int .i64 i].toArray w0 fun r w' => ∃ L', St (ids L0) w0 w' L' ∧
      ((∃ e : Int, e ≠ 0 ∧ r = .tuple #[.agg #[.int .i64 0, .int .i64 0, .slice none 0 0], .int .i64 e] ∧ NetAt p gs ms L') ∨
       (∃ (m : Msg) (L1 : Hp), m ∈ ms ∧ r = .tuple #[.agg m.cells.toArray, .int .i64 0] ∧ L' = m.blk :: L1 ∧ NetAt p gs (ms.eraseIdx i.toNat) L1)) := by
  by_cases hin : 0 ≤ i ∧ i < ms.length
  · have hm : ms[i.toNat]? = some ms[i.toNat] := List.getElem?_eq_getElem (by omega)
    have hmem : ms[i.toNat]'(by omega) ∈ ms := List.getElem_mem _
    refine (take_yes p gs ms i L0 w0 hN hs hin hml _ hm (hmv _ hmem)).mono ?_
    rintro r w ⟨L', h1, ⟨-, rfl, hN'⟩ | ⟨-, rfl, L1, rfl, hN'⟩⟩
    · exact ⟨L', h1, .inl ⟨20, by decide, rfl, hN'⟩⟩
    · exact ⟨_, h1, .inr ⟨_, L1, hmem, rfl, rfl, hN'⟩⟩
  · refine (take_no p gs ms i L0 w0 hN hs hin).mono ?_
    rintro r w ⟨L', h1, rfl, hN'⟩
    exact ⟨L', h1, .inl ⟨9, by decide, rfl, hN'⟩⟩
/-- a block, its claims and their slice -/
structure BE where
  b : Bk
  u : Value
  cl : List Cl
def BE.cells (e : BE) : List Value := e.b.cells e.u
theorem BE.cells_length (e : BE) : e.cells.length = 5 := rfl
def becells (es : List BE) : List Value := es.flatMap BE.cells
theorem becells_length (es : List BE) : (becells es).length = es.length * 5 := flat_length BE.cells_length es
/-- the bytes of message j -/
def msgB (mx : Nat → Nat → Nat) (j : Nat) (e : BE) : List Int := uvar (zz (j : Int)) ++ uvar (blkB mx e.b e.cl).length ++ blkB mx e.b e.cl
structure BEok (e : BE) (LX : Hp) : Prop where
  good : e.b.good
  ok : ∀ x ∈ e.cl, x.ok
  len : e.cl.length ≤ 9
  sl : ∃ a c, e.u = .slice a e.cl.length c
  rd : ∀ w', (∀ q ∈ LX, w'.heap[q.1]? = some q.2) → Sl w' e.u e.cl.length (cls e.cl)
theorem BEok.more {e : BE} {LX LY : Hp} (h : BEok e LX) : BEok e (LX ++ LY) := ⟨h.good, h.ok, h.len, h.sl, fun w' hw => h.rd w' fun q hq => hw q (List.mem_append_left _ hq)⟩
def MsOk (mx : Nat → Nat → Nat) (es : List BE) (ms : List Msg) : Prop := ∀ m ∈ ms, ∃ (j : Nat) (e : BE), es[j]? = some e ∧ m.f = (j : Int) % 3 ∧ m.t = ((j : Int) + 1) % 3 ∧ m.bs = msgB mx j e
theorem MsOk.v {mx : Nat → Nat → Nat} {es : List BE} {ms : List Msg} (h : MsOk mx es ms) : ∀ m ∈ ms, 0 ≤ m.f ∧ m.f < 3 ∧ 0 ≤ m.t ∧ m.t < 3 := fun m hm => by
  obtain ⟨j, e, _, h1, h2, _⟩ := h m hm; omega
theorem msgB_len {mx : Nat → Nat → Nat} (hmx : IsMix mx) {j : Nat} {e : BE} {LX : Hp} (h : BEok e LX) (hj : j ≤ 5) : (msgB mx j e).length ≤ 500 := by
  have h1 := blkB_len hmx h.good h.len
  have h2 := uvar_len10 (n := zz (j : Int)) (zz_lt (by omega))
  have h3 := uvar_len10 (n := (blkB mx e.b e.cl).length) (by omega)
  simp only [msgB, List.length_append]; omega
theorem msgB_isB (mx : Nat → Nat → Nat) (j : Nat) (e : BE) : ∀ z ∈ msgB mx j e, isB z := by
  intro z hz
  simp only [msgB, List.mem_append] at hz
  rcases hz with (hz | hz) | hz
  · exact uvar_isB _ z hz
  · exact uvar_isB _ z hz
  · exact blkB_isB _ _ _ z hz
structure NbS where
  v : Value
  es : List BE
  ms : List Msg
  L9 : Hp
  LX : Hp
  Ln : Hp
structure NcS where
  i : Nat
  ms : List Msg
  Ln : Hp
set_option maxHeartbeats 4000000 in
theorem netBlocks_ok (vm vl vp : Value) (xm xl xp : List Int) (w0 : World) (hg : Wd w0) (hpm : Pm w0) (hm : Sl w0 vm xm.length (i64s xm)) (hmi : ∀ z ∈ xm, isI64 z) (hl : Sl w0 vl xl.length (i64s xl)) (hli : ∀ z ∈ xl, isI64 z) (hll : xl.length ≤ 4611686018427387904) (hp : Sl w0 vp xp.length (i64s xp)) (hpi : ∀ z ∈ xp, isI64 z) :
    Ret Tryd.prog 3 [vm, vl, vp].toArray w0 fun r w' => Fwd [] w0 w' ∧ r = .bool true := by
  obtain ⟨mx, hmx⟩ := isMix
  obtain ⟨am, cm, rfl, hcm⟩ := hm.len_le
  obtain ⟨ap, cp, rfl, hcp⟩ := hp.len_le
  refine Ret_start fun w hs => ?_
  refine Ret_of Tryd.func3 rfl Tryd.ntmps3 rfl ?_
  refine W_seq ?_
  refine W_region ?_
  refine s_assign rfl rfl ?_
  refine WL_nil ?_
  refine n_then ?_
  refine W_seq ?_
  refine W_region ?_
  refine s_call Tryd.call4 rfl rfl (new_ok 3 w (by omega)) ?_
  rintro r w (⟨-, -, p, Ln, rfl, hN, hst⟩ | ⟨h9, -⟩)
  rotate_left
  · exact absurd ⟨by omega, by omega⟩ h9
  replace hs := (St.back0 hs hst).left
  clear hst
  obtain ⟨gs, hgs⟩ : ∃ gs, gs = List.replicate (3 : Int).toNat (0 : Int) := ⟨_, rfl⟩
  have hgl : gs.length = 3 := by rw [hgs]; rfl
  rw [← hgs] at hN
  clear hgs
  refine s_move rfl rfl ?_
  refine s_extract rfl rfl rfl ?_
  refine s_extract rfl rfl rfl ?_
  refine s_assign rfl rfl ?_
  refine s_assign rfl rfl ?_
  refine WL_nil ?_
  refine n_then ?_
  refine W_seq ?_
  refine W_seq ?_
  refine W_region ?_
  refine s_move rfl rfl ?_
  refine s_eql_ptr_nil Tryd.underlying23 rfl rfl rfl ?_
  refine s_move rfl rfl ?_
  refine WL_know (s := 30) (c := false) rfl (rfl) ?_
  refine WL_take rfl ?_
  refine s_move rfl rfl ?_
  refine WL_take rfl ?_
  refine s_neq rfl rfl rfl ?_
  refine s_pick_f rfl rfl rfl ?_
  refine WL_nil ?_
  refine n_then ?_
  refine W_cond_kf rfl (rfl) ?_
  refine W_skip ?_
  refine n_then ?_
  refine W_seq ?_
  refine W_region ?_
  refine s_assign rfl rfl ?_
  refine WL_nil ?_
  refine n_then ?_
  refine W_seq ?_
  refine W_seq ?_
  refine W_region ?_
  refine s_assign rfl rfl ?_
  refine WL_nil ?_
  refine n_then ?_
  refine W_block ?_
  refine W_loop (σ := NbS) (fun s => [(0, .slice am xm.length cm), (1, vl), (2, .slice ap xp.length cp), (7, .pointer (some ⟨p, 0, none⟩)), (9, s.v), (10, .int .i64 (s.es.length : Int))])
    (fun s w => St [] w0 w (s.Ln ++ (s.L9 ++ s.LX)) ∧ NetAt p gs s.ms s.Ln ∧ OwnS 32 5 s.v s.es.length (becells s.es) s.L9 ∧ s.es.length ≤ 5 ∧ s.ms.length ≤ s.es.length ∧ MsOk mx s.es s.ms ∧ ∀ e ∈ s.es, BEok e s.LX) (fun s => 5 - s.es.length) ⟨.slice none 0 0, [], [], [], [], Ln⟩ ⟨rfl, rfl, rfl, rfl, rfl, rfl, trivial⟩ ⟨by simpa using hs, hN, OwnS.nil _ _, by simp, by simp, (fun m hm => nomatch hm), (fun e he => nomatch he)⟩ ?_
  clear hs hN
  rintro ⟨v9, es, ms, L9, LX, Ln⟩ w ⟨hs, hN, hO, h5, hml, hMs, hes⟩
  simp only at hs hN hO h5 hml hMs hes ⊢
  obtain ⟨_, c9, a9, rfl, hv9⟩ := hO.form
  subst hv9
  refine W_seq ?_
  refine W_seq ?_
  refine W_region ?_
  refine s_move rfl rfl ?_
  refine s_move rfl rfl ?_
  refine s_len rfl rfl (LN22 _ _ _ _) ?_
  refine s_lss rfl rfl rfl ?_
  refine s_move rfl rfl ?_
  refine WL_case (s := 38) rfl (fun hg38 => ?_) (fun hg38 => ?_)
  · skip
    try simp only [decide_eq_true_eq, decide_eq_false_iff_not, beq_iff_eq, beq_eq_false_iff_ne, ne_eq, bne_iff_ne, bne_eq_false_iff_eq] at hg38
    refine WL_take rfl ?_
    refine s_move rfl rfl ?_
    refine WL_take rfl ?_
    refine s_lss rfl rfl rfl ?_
    refine s_pick_t rfl rfl rfl ?_
    refine WL_nil ?_
    refine n_then ?_
    refine W_cond rfl (fun hc41 => ?_) (fun hc41 => ?_)
    · skip
      try simp only [decide_eq_true_eq, decide_eq_false_iff_not, beq_iff_eq, beq_eq_false_iff_ne, ne_eq, bne_iff_ne, bne_eq_false_iff_eq] at hc41
      have hix : es.length < xm.length := by omega
      have hi5 : es.length < 5 := by omega
      obtain ⟨b1, o1, hA1, hc1⟩ := hm.at (k := es.length) (i64s_at' hix)
      have hB1 : b1 < w0.heap.size := World.block_lt_of_cell? w0 _ hc1
      have hzi : isI64 (xm.getD es.length 0) := hmi _ (by rw [List.getD_eq_getElem?_getD, List.getElem?_eq_getElem hix]; simp)
      have hmsl : ∀ m ∈ ms, m.bs.length ≤ 65536 := fun m hm => by
        obtain ⟨j, e, he, _, _, h3⟩ := hMs m hm
        have := msgB_len hmx (hes e (List.mem_of_getElem? he)) (j := j) (by have := (List.getElem?_eq_some_iff.1 he).1; omega)
        rw [h3]; omega
      refine W_skip ?_
      refine n_then ?_
      refine W_seq ?_
      refine W_block ?_
      refine W_seq ?_
      refine W_region ?_
      refine s_move rfl rfl ?_
      refine s_move rfl rfl ?_
      (refine s_indexAddrO El22 rfl rfl rfl hA1 ?hx ?_; case hx => (constructor <;> omega))
      refine s_load Tryd.isAgg3 rfl rfl (by rw [Int.toNat_natCast]; exact (hs.oldcell (a := ⟨b1, _, none⟩) hB1 (by simp)).trans hc1) ?_
      refine s_move rfl rfl ?_
      refine s_call Tryd.call5 rfl rfl (blMade_ok _ vl xl w hzi (hl.fwd0 hs.fwd) hli hll) ?_
      rintro r w ⟨b, u, cl, Lc, rfl, hbg, hOc, hst, hok, hcl⟩
      replace hs : St [] w0 w (Ln ++ (L9 ++ (LX ++ Lc))) := St.reord [Lc, Ln, L9, LX] [1, 2, 3, 0] [] (St.back0 hs hst) rfl
      clear hst
      obtain ⟨_, cu, au, rfl, hvu⟩ := hOc.form
      subst hvu
      obtain ⟨e, he⟩ : ∃ e : BE, e = ⟨b, .slice au cl.length cu, cl⟩ := ⟨_, rfl⟩
      have heok : BEok e (LX ++ Lc) := by
        rw [he]
        exact ⟨hbg, hok, hcl, ⟨_, _, rfl⟩, fun w' hw => OwnS_slIn hOc fun q hq => hw q (List.mem_append_right _ hq)⟩
      have hecl : e.cells = b.cells (.slice au cl.length cu) := by rw [he]; rfl
      refine s_alloc rfl AL30 hs ?_; clear hs; intro b11 w hs
      first
        | refine s_storeW Tryd.sizeOf30 rfl rfl rfl rfl hs (kk := 0) rfl rfl ?_
        | refine s_storeW Tryd.sizeOf30 rfl rfl rfl rfl hs (kk := 1) rfl rfl ?_
        | refine s_storeW Tryd.sizeOf30 rfl rfl rfl rfl hs (kk := 2) rfl rfl ?_
        | refine s_storeW Tryd.sizeOf30 rfl rfl rfl rfl hs (kk := 3) rfl rfl ?_
        | refine s_storeAB Tryd.sizeOf30 rfl rfl rfl rfl hs (kk := 0) rfl rfl ?_
        | refine s_storeAB Tryd.sizeOf30 rfl rfl rfl rfl hs (kk := 1) rfl rfl ?_
        | refine s_storeAB Tryd.sizeOf30 rfl rfl rfl rfl hs (kk := 2) rfl rfl ?_
        | refine s_storeAB Tryd.sizeOf30 rfl rfl rfl rfl hs (kk := 3) rfl rfl ?_
      clear hs; intro w hs; try simp only [List.set_cons_zero, List.set_cons_succ, splice, List.take_succ_cons, List.take_zero, List.drop_succ_cons, List.drop_zero, List.nil_append, List.cons_append, List.length_cons, List.length_nil, Nat.reduceAdd, List.append_assoc] at hs
      refine WL_nil ?_
      refine n_then ?_
      refine W_seq ?_
      refine W_region ?_
      refine s_fieldAddr rfl rfl (FA30_0 _ _) ?_
      first
        | refine s_load Tryd.isAgg3 rfl rfl (hs.cell (k := 0) rfl rfl) ?_
        | refine s_load Tryd.isAgg3 rfl rfl (hs.cell (k := 1) rfl rfl) ?_
        | refine s_load Tryd.isAgg3 rfl rfl (hs.cell (k := 2) rfl rfl) ?_
        | refine s_load Tryd.isAgg3 rfl rfl (hs.cell (k := 3) rfl rfl) ?_
      refine s_fieldAddr rfl rfl (FA30_1 _ _) ?_
      first
        | refine s_load Tryd.isAgg3 rfl rfl (hs.cell (k := 0) rfl rfl) ?_
        | refine s_load Tryd.isAgg3 rfl rfl (hs.cell (k := 1) rfl rfl) ?_
        | refine s_load Tryd.isAgg3 rfl rfl (hs.cell (k := 2) rfl rfl) ?_
        | refine s_load Tryd.isAgg3 rfl rfl (hs.cell (k := 3) rfl rfl) ?_
      refine s_fieldAddr rfl rfl (FA30_2 _ _) ?_
      first
        | refine s_load Tryd.isAgg3 rfl rfl (hs.cell (k := 0) rfl rfl) ?_
        | refine s_load Tryd.isAgg3 rfl rfl (hs.cell (k := 1) rfl rfl) ?_
        | refine s_load Tryd.isAgg3 rfl rfl (hs.cell (k := 2) rfl rfl) ?_
        | refine s_load Tryd.isAgg3 rfl rfl (hs.cell (k := 3) rfl rfl) ?_
      refine s_fieldAddr rfl rfl (FA30_3 _ _) ?_
      first
        | refine s_load Tryd.isAgg3 rfl rfl (hs.cell (k := 0) rfl rfl) ?_
        | refine s_load Tryd.isAgg3 rfl rfl (hs.cell (k := 1) rfl rfl) ?_
        | refine s_load Tryd.isAgg3 rfl rfl (hs.cell (k := 2) rfl rfl) ?_
        | refine s_load Tryd.isAgg3 rfl rfl (hs.cell (k := 3) rfl rfl) ?_
      refine s_fieldAddr rfl rfl (FA30_4 _ _) ?_
      first
        | refine s_load Tryd.isAgg28 rfl rfl (hs.cell (k := 0) rfl rfl) ?_
        | refine s_load Tryd.isAgg28 rfl rfl (hs.cell (k := 1) rfl rfl) ?_
        | refine s_load Tryd.isAgg28 rfl rfl (hs.cell (k := 2) rfl rfl) ?_
        | refine s_load Tryd.isAgg28 rfl rfl (hs.cell (k := 3) rfl rfl) ?_
      refine s_build rfl rfl (BD32_0_1_2_3_4 _ _ _ _ _ _ _) ?_
      refine s_alloc rfl AL32 hs ?_; clear hs; intro b12 w hs
      first
        | refine s_storeW Tryd.sizeOf32 rfl rfl rfl rfl hs (kk := 0) rfl rfl ?_
        | refine s_storeW Tryd.sizeOf32 rfl rfl rfl rfl hs (kk := 1) rfl rfl ?_
        | refine s_storeW Tryd.sizeOf32 rfl rfl rfl rfl hs (kk := 2) rfl rfl ?_
        | refine s_storeW Tryd.sizeOf32 rfl rfl rfl rfl hs (kk := 3) rfl rfl ?_
        | refine s_storeAB Tryd.sizeOf32 rfl rfl rfl rfl hs (kk := 0) rfl rfl ?_
        | refine s_storeAB Tryd.sizeOf32 rfl rfl rfl rfl hs (kk := 1) rfl rfl ?_
        | refine s_storeAB Tryd.sizeOf32 rfl rfl rfl rfl hs (kk := 2) rfl rfl ?_
        | refine s_storeAB Tryd.sizeOf32 rfl rfl rfl rfl hs (kk := 3) rfl rfl ?_
      clear hs; intro w hs; try simp only [List.set_cons_zero, List.set_cons_succ, splice, List.take_succ_cons, List.take_zero, List.drop_succ_cons, List.drop_zero, List.nil_append, List.cons_append, List.length_cons, List.length_nil, Nat.reduceAdd, List.append_assoc] at hs
      refine WL_nil ?_
      refine n_then ?_
      refine W_seq ?_
      refine W_region ?_
      first
        | refine s_loadW Tryd.isAgg32 Tryd.sizeOf32 rfl rfl hs (kk := 0) rfl rfl ?_
        | refine s_loadW Tryd.isAgg32 Tryd.sizeOf32 rfl rfl hs (kk := 1) rfl rfl ?_
        | refine s_loadW Tryd.isAgg32 Tryd.sizeOf32 rfl rfl hs (kk := 2) rfl rfl ?_
        | refine s_loadW Tryd.isAgg32 Tryd.sizeOf32 rfl rfl hs (kk := 3) rfl rfl ?_
        | refine s_load_5 Tryd.isAgg32 Tryd.sizeOf32 rfl rfl (by first | exact hs.cell (k := 0) rfl rfl | exact hs.cell (k := 1) rfl rfl | exact hs.cell (k := 2) rfl rfl | exact hs.cell (k := 3) rfl rfl) (by first | exact hs.cell (k := 0) rfl rfl | exact hs.cell (k := 1) rfl rfl | exact hs.cell (k := 2) rfl rfl | exact hs.cell (k := 3) rfl rfl) (by first | exact hs.cell (k := 0) rfl rfl | exact hs.cell (k := 1) rfl rfl | exact hs.cell (k := 2) rfl rfl | exact hs.cell (k := 3) rfl rfl) (by first | exact hs.cell (k := 0) rfl rfl | exact hs.cell (k := 1) rfl rfl | exact hs.cell (k := 2) rfl rfl | exact hs.cell (k := 3) rfl rfl) (by first | exact hs.cell (k := 0) rfl rfl | exact hs.cell (k := 1) rfl rfl | exact hs.cell (k := 2) rfl rfl | exact hs.cell (k := 3) rfl rfl) ?_
      refine s_call Tryd.call6 rfl rfl (blEncode_ok hmx b hbg _ cl w (hg.st hs (by simp)) (hpm.st hs (by simp)) (OwnS_slIn hOc fun q hq => hs.own q (by simp [hq])) hok hcl) ?_
      rintro r w ⟨ub, Lb, rfl, hOb, hst⟩
      replace hs : St [] w0 w ([_, _] ++ (Ln ++ (L9 ++ (LX ++ (Lc ++ Lb))))) := St.reord [Lb, [_, _], Ln, L9, LX, Lc] [1, 2, 3, 4, 5, 0] [] (St.back0 hs hst) rfl
      clear hst
      simp only [List.cons_append, List.nil_append] at hs
      have hbl := blkB_len hmx hbg hcl
      obtain ⟨_, kb, ab, rfl, hvb⟩ := hOb.form
      subst hvb
      refine s_move rfl rfl ?_
      refine s_extract rfl rfl rfl ?_
      refine s_extract rfl rfl rfl ?_
      refine s_assign rfl rfl ?_
      refine s_assign rfl rfl ?_
      refine WL_nil ?_
      refine n_then ?_
      refine W_seq ?_
      refine W_seq ?_
      refine W_region ?_
      refine s_move rfl rfl ?_
      refine s_neq rfl rfl rfl ?_
      refine WL_nil ?_
      refine n_then ?_
      refine W_cond_kf rfl (rfl) ?_
      refine W_skip ?_
      refine n_then ?_
      refine W_seq ?_
      refine W_region ?_
      refine s_alloc rfl AL37 hs ?_; clear hs; intro b15 w hs
      refine WL_nil ?_
      refine n_then ?_
      refine W_seq ?_
      refine W_region ?_
      refine s_move rfl rfl ?_
      refine s_callL (M := []) (L1 := [_]) (X := _ :: _ :: (Ln ++ (L9 ++ (LX ++ (Lc ++ Lb))))) Tryd.call7 rfl rfl (by simpa using hs) (fun h => wInt_ok b15 [] (es.length : Int) _ w (wr_new b15) h (by unfold isI64; omega) (by simp)) ?_
      clear hs; rintro u w LW ⟨hW, rfl⟩ - hs
      simp only [List.nil_append] at hs hW
      refine WL_nil ?_
      refine n_then ?_
      refine W_seq ?_
      refine W_region ?_
      refine s_move rfl rfl ?_
      refine s_callL (M := []) (L1 := LW) (X := _ :: _ :: (Ln ++ (L9 ++ (LX ++ (Lc ++ Lb))))) Tryd.call8 rfl rfl (by simpa using hs) (fun h => wRaw_ok b15 _ (blkB mx b cl) _ _ w hW h (OwnS_slIn hOb fun q hq => hs.own q (by simp [hq])) (fun a m c he hne => by cases he; exact St.apartY (M := []) (L := LW) (X := _ :: _ :: (Ln ++ (L9 ++ (LX ++ (Lc ++ Lb))))) (by simpa using hs) (by simp [ids, ids_append, OwnS_in hOb hne])) (by have := uvar_len10 (n := zz (es.length : Int)) (zz_lt (by omega)); omega) (by omega)) ?_
      clear hs hW; rintro u w LW ⟨hW, rfl⟩ - hs
      simp only [List.nil_append] at hs
      replace hW : WrAt b15 (msgB mx es.length e) LW := by rw [he]; exact hW
      have hmsg := msgB_len hmx heok (j := es.length) h5
      refine WL_nil ?_
      refine n_then ?_
      refine W_seq ?_
      refine W_region ?_
      refine s_move rfl rfl ?_
      refine s_move rfl rfl ?_
      first | (refine s_rem' rfl rfl rfl ?hx ?_; case hx => (refine ⟨?_, ?_⟩ <;> omega)) | (refine s_rem rfl rfl rfl ?hx ?_; case hx => omega)
      refine s_move rfl rfl ?_
      first | (refine s_add' rfl rfl rfl ?hx ?_; case hx => (constructor <;> first | omega | (simp only; omega))) | refine s_add rfl rfl rfl ?_
      first | (refine s_rem' rfl rfl rfl ?hx ?_; case hx => (refine ⟨?_, ?_⟩ <;> omega)) | (refine s_rem rfl rfl rfl ?hx ?_; case hx => omega)
      refine s_callL (M := []) (L1 := LW) (X := _ :: _ :: (Ln ++ (L9 ++ (LX ++ (Lc ++ Lb))))) Tryd.call10 rfl rfl (by simpa using hs) (fun h => wDone_ok b15 _ LW w hW h (by omega)) ?_
      clear hs; rintro u w L0 ⟨Ld, rfl, hOd⟩ - hs
      simp only [List.nil_append, List.append_assoc] at hs
      replace hs : St [] w0 w ([_, _] ++ (Ld ++ (Ln ++ (L9 ++ (LX ++ Lc))))) := St.reord [LW, Ld, [_, _], Ln, L9, LX, Lc, Lb] [2, 1, 3, 4, 5, 6] [0, 7] (hs) rfl
      simp only [List.cons_append, List.nil_append] at hs
      clear hW hOb
      obtain ⟨_, kd, ad, rfl, hvd⟩ := hOd.form
      subst hvd
      refine s_build rfl rfl (BD43_0_1_2 _ _ _ _ _) ?_
      have hs2 : St [] w0 w ((_ :: _ :: Ld) ++ (Ln ++ (L9 ++ (LX ++ Lc)))) := hs
      refine s_callL (M := _ :: _ :: Ld) (L1 := Ln) (X := L9 ++ (LX ++ Lc)) Tryd.call9 rfl rfl hs2 (fun h => send_ok p gs ms _ _ _ (msgB mx es.length e) Ln w hN h (OwnS_slIn hOd fun q hq => hs.own q (by simp [hq])) (by omega) (fun a m c he hne => by cases he; exact St.notin (M := _ :: _ :: Ld) hs2 (by simp [ids, OwnS_in hOd hne]))) ?_
      have hse : sendE gs ms ((es.length : Int) % 3) (((es.length : Int) + 1) % 3) (msgB mx es.length e) = 0 := by
        unfold sendE; rw [hgl, if_neg (by omega), if_neg (by omega)]
      rw [hse]
      clear hs hs2 hN; rintro r w Ln ⟨rfl, ms', hN, -, hsok⟩ - hs
      obtain ⟨mb, rfl⟩ := hsok rfl
      replace hs : St [] w0 w ([_, _] ++ (Ln ++ (L9 ++ (LX ++ Lc)))) := St.reord [[_, _], Ld, Ln, L9, LX, Lc] [0, 2, 3, 4, 5] [1] (hs) rfl
      simp only [List.cons_append, List.nil_append] at hs
      clear hsok hOd
      refine WL_nil ?_
      refine n_then ?_
      refine W_region ?_
      refine s_move rfl rfl ?_
      first
        | refine s_loadW Tryd.isAgg32 Tryd.sizeOf32 rfl rfl hs (kk := 0) rfl rfl ?_
        | refine s_loadW Tryd.isAgg32 Tryd.sizeOf32 rfl rfl hs (kk := 1) rfl rfl ?_
        | refine s_loadW Tryd.isAgg32 Tryd.sizeOf32 rfl rfl hs (kk := 2) rfl rfl ?_
        | refine s_loadW Tryd.isAgg32 Tryd.sizeOf32 rfl rfl hs (kk := 3) rfl rfl ?_
        | refine s_load_5 Tryd.isAgg32 Tryd.sizeOf32 rfl rfl (by first | exact hs.cell (k := 0) rfl rfl | exact hs.cell (k := 1) rfl rfl | exact hs.cell (k := 2) rfl rfl | exact hs.cell (k := 3) rfl rfl) (by first | exact hs.cell (k := 0) rfl rfl | exact hs.cell (k := 1) rfl rfl | exact hs.cell (k := 2) rfl rfl | exact hs.cell (k := 3) rfl rfl) (by first | exact hs.cell (k := 0) rfl rfl | exact hs.cell (k := 1) rfl rfl | exact hs.cell (k := 2) rfl rfl | exact hs.cell (k := 3) rfl rfl) (by first | exact hs.cell (k := 0) rfl rfl | exact hs.cell (k := 1) rfl rfl | exact hs.cell (k := 2) rfl rfl | exact hs.cell (k := 3) rfl rfl) (by first | exact hs.cell (k := 0) rfl rfl | exact hs.cell (k := 1) rfl rfl | exact hs.cell (k := 2) rfl rfl | exact hs.cell (k := 3) rfl rfl) ?_
      refine s_buildSlice rfl rfl (BS27_1 _ _ _ _ _) hs ?_; clear hs; intro b83 w hs
      have hbc : becells (es ++ [e]) = becells es ++ e.cells := by simp [becells]
      refine s_appendM (M := [_, _, _] ++ Ln) (X := LX ++ Lc) El27 rfl rfl rfl hO (by simpa using hs) (hs.sl (k := 0) (ds := b.cells (.slice au cl.length cu)) rfl (Nat.le_refl _) (by intro j u hj; rw [Nat.zero_add]; exact hj)) rfl (by intro u hu; simp only [Bk.cells, List.mem_cons, List.not_mem_nil, or_false] at hu; rcases hu with rfl | rfl | rfl | rfl | rfl <;> rfl) (by omega) ?_
      clear hs hO; intro v' w L9 hO hs
      rw [← hecl, ← hbc] at hO
      simp only [List.cons_append, List.nil_append] at hs
      replace hs : St [] w0 w (Ln ++ (L9 ++ (LX ++ Lc))) := hs.tail.tail.tail
      refine s_assign rfl rfl ?_
      refine WL_nil ?_
      refine n_blk ?_
      refine n_then ?_
      refine W_region ?_
      refine s_move rfl rfl ?_
      first | (refine s_add' rfl rfl rfl ?hx ?_; case hx => (constructor <;> first | omega | (simp only; omega))) | refine s_add rfl rfl rfl ?_
      refine s_assign rfl rfl ?_
      refine WL_nil ?_
      refine n_loop ?_
      refine ⟨⟨v', es ++ [e], _, L9, LX ++ Lc, Ln⟩, ⟨rfl, rfl, rfl, rfl, rfl, by simp [SL.get], trivial⟩, ⟨hs, hN, by simpa using hO, by simp; omega, by simp; omega, ?_, ?_⟩, by simp; omega⟩
      · intro m hm
        rcases List.mem_append.1 hm with h | h
        · obtain ⟨j, e', he', h1, h2, h3⟩ := hMs m h
          exact ⟨j, e', by rw [List.getElem?_append_left (List.getElem?_eq_some_iff.1 he').1]; exact he', h1, h2, h3⟩
        · rw [List.mem_singleton.1 h]
          exact ⟨es.length, e, by simp, rfl, rfl, rfl⟩
      · intro x hx
        rcases List.mem_append.1 hx with h | h
        · exact (hes x h).more
        · rw [List.mem_singleton.1 h]; exact heok
    · skip
      try simp only [decide_eq_true_eq, decide_eq_false_iff_not, beq_iff_eq, beq_eq_false_iff_ne, ne_eq, bne_iff_ne, bne_eq_false_iff_eq] at hc41
      refine W_exit ?_
      refine x_then ?_
      refine x_then ?_
      refine exit_hit ?_
      refine n_then ?_
      refine W_seq ?_
      refine W_seq ?_
      refine W_region ?_
      refine s_assign rfl rfl ?_
      refine WL_nil ?_
      refine n_then ?_
      refine W_block ?_
      refine W_loop (σ := NcS) (fun s => [(2, .slice ap xp.length cp), (7, .pointer (some ⟨p, 0, none⟩)), (9, .slice a9 es.length c9), (16, .int .i64 (s.i : Int))])
        (fun s w => St [] w0 w (s.Ln ++ (L9 ++ LX)) ∧ NetAt p gs s.ms s.Ln ∧ s.i ≤ 12 ∧ s.ms.length ≤ 5 + s.i ∧ MsOk mx es s.ms) (fun s => 12 - s.i) ⟨0, ms, Ln⟩ ⟨rfl, rfl, rfl, rfl, trivial⟩ ⟨hs, hN, by simp, by simp only; omega, hMs⟩ ?_
      clear hs hN hMs hml ms Ln
      rintro ⟨i, ms, Ln⟩ w ⟨hs, hN, hi, hml, hMs⟩
      simp only at hs hN hi hml hMs ⊢
      refine W_seq ?_
      refine W_seq ?_
      refine W_region ?_
      refine s_move rfl rfl ?_
      refine s_move rfl rfl ?_
      refine s_len rfl rfl (LN22 _ _ _ _) ?_
      refine s_lss rfl rfl rfl ?_
      refine s_move rfl rfl ?_
      refine WL_case (s := 89) rfl (fun hg89 => ?_) (fun hg89 => ?_)
      · skip
        try simp only [decide_eq_true_eq, decide_eq_false_iff_not, beq_iff_eq, beq_eq_false_iff_ne, ne_eq, bne_iff_ne, bne_eq_false_iff_eq] at hg89
        refine WL_take rfl ?_
        refine s_move rfl rfl ?_
        refine WL_take rfl ?_
        refine s_lss rfl rfl rfl ?_
        refine s_pick_t rfl rfl rfl ?_
        refine WL_nil ?_
        refine n_then ?_
        refine W_cond rfl (fun hc92 => ?_) (fun hc92 => ?_)
        · skip
          try simp only [decide_eq_true_eq, decide_eq_false_iff_not, beq_iff_eq, beq_eq_false_iff_ne, ne_eq, bne_iff_ne, bne_eq_false_iff_eq] at hc92
          have hix : i < xp.length := by omega
          obtain ⟨b1, o1, hA1, hc1⟩ := hp.at (k := i) (i64s_at' hix)
          have hB1 : b1 < w0.heap.size := World.block_lt_of_cell? w0 _ hc1
          have hzi : isI64 (xp.getD i 0) := hpi _ (by rw [List.getD_eq_getElem?_getD, List.getElem?_eq_getElem hix]; simp)
          have hmsl : ∀ m ∈ ms, m.bs.length ≤ 65536 := fun m hm => by
            obtain ⟨j, e, he, _, _, h3⟩ := hMs m hm
            have := msgB_len hmx (hes e (List.mem_of_getElem? he)) (j := j) (by have := (List.getElem?_eq_some_iff.1 he).1; omega)
            rw [h3]; omega
          refine W_skip ?_
          refine n_then ?_
          refine W_seq ?_
          refine W_block ?_
          refine W_seq ?_
          refine W_region ?_
          refine s_move rfl rfl ?_
          refine s_move rfl rfl ?_
          (refine s_indexAddrO El22 rfl rfl rfl hA1 ?hx ?_; case hx => (constructor <;> omega))
          refine s_load Tryd.isAgg3 rfl rfl (by rw [Int.toNat_natCast]; exact (hs.oldcell (a := ⟨b1, _, none⟩) hB1 (by simp)).trans hc1) ?_
          refine s_call Tryd.call11 rfl rfl (around_ok _ 7 w (by decide) hzi) ?_
          rintro r w1 ⟨hw1, rfl⟩
          rw [hw1]; clear hw1 w1
          generalize aroundV (xp.getD i 0) 7 = k7
          refine s_assign rfl rfl ?_
          refine WL_nil ?_
          refine n_then ?_
          refine W_seq ?_
          refine W_seq ?_
          refine W_region ?_
          refine s_move rfl rfl ?_
          refine s_move rfl rfl ?_
          (refine s_indexAddrO El22 rfl rfl rfl hA1 ?hx ?_; case hx => (constructor <;> omega))
          refine s_load Tryd.isAgg3 rfl rfl (by rw [Int.toNat_natCast]; exact (hs.oldcell (a := ⟨b1, _, none⟩) hB1 (by simp)).trans hc1) ?_
          (refine s_rem rfl rfl rfl ?hx ?_; case hx => omega)
          refine s_eql rfl rfl rfl ?_
          refine WL_nil ?_
          refine n_then ?_
          refine W_cond rfl (fun hc105 => ?_) (fun hc105 => ?_)
          · skip
            try simp only [decide_eq_true_eq, decide_eq_false_iff_not, beq_iff_eq, beq_eq_false_iff_ne, ne_eq, bne_iff_ne, bne_eq_false_iff_eq] at hc105
            refine W_seq ?_
            refine W_region ?_
            refine s_move rfl rfl ?_
            refine s_move rfl rfl ?_
            refine s_callL (M := []) (L1 := Ln) (X := L9 ++ LX) Tryd.call12 rfl rfl hs (fun h => copyAny_ok p gs ms k7 Ln w hN h (by omega) hmsl) ?_
            clear hs hN; rintro r w Ln ⟨e9, ms', rfl, hN, hml', hms'⟩ - hs
            simp only [List.nil_append] at hs
            have hMs' : MsOk mx es ms' := fun m hm => by
              obtain ⟨m0, hm0, h1, h2, h3⟩ := hms' m hm
              obtain ⟨j, e, he, h4, h5, h6⟩ := hMs m0 hm0
              exact ⟨j, e, he, h1.trans h4, h2.trans h5, h3.trans h6⟩
            refine WL_nil ?_
            refine n_then ?_
            refine W_exit ?_
            refine x_then ?_
            refine exit_hit ?_
            refine n_then ?_
            refine W_region ?_
            refine s_move rfl rfl ?_
            first | (refine s_add' rfl rfl rfl ?hx ?_; case hx => (constructor <;> first | omega | (simp only; omega))) | refine s_add rfl rfl rfl ?_
            refine s_assign rfl rfl ?_
            refine WL_nil ?_
            refine n_loop ?_
            first
              | exact ⟨⟨i + 1, ms', Ln⟩, ⟨rfl, rfl, rfl, rfl, trivial⟩, ⟨hs, hN, by simp only; omega, by simp only; omega, hMs'⟩, by simp only; omega⟩
              | exact ⟨⟨i + 1, ms, L0⟩, ⟨rfl, rfl, rfl, rfl, trivial⟩, ⟨hs.tail, hN, by simp only; omega, by simp only; omega, hMs⟩, by simp only; omega⟩
              | exact ⟨⟨i + 1, _, Ln⟩, ⟨rfl, rfl, rfl, rfl, trivial⟩, ⟨St.right (M := Le) (St.right (M := LR) hs.tail.tail), hN, by simp only; omega, by simp only; omega, hMs'⟩, by simp only; omega⟩
          · skip
            try simp only [decide_eq_true_eq, decide_eq_false_iff_not, beq_iff_eq, beq_eq_false_iff_ne, ne_eq, bne_iff_ne, bne_eq_false_iff_eq] at hc105
            refine W_skip ?_
            refine n_then ?_
            refine W_seq ?_
            refine W_region ?_
            refine s_move rfl rfl ?_
            refine s_move rfl rfl ?_
            refine s_callL (M := []) (L1 := Ln) (X := L9 ++ LX) Tryd.call13 rfl rfl hs (fun h => takeAny_ok p gs ms k7 Ln w hN h (by omega) (fun m hm => by rw [hgl]; exact hMs.v m hm)) ?_
            clear hs hN; rintro r w L0 (⟨e9, he9, rfl, hN⟩ | ⟨m, Ln, hmm, rfl, rfl, hN⟩) - hs
            · skip
              simp only [List.nil_append] at hs
              refine s_move rfl rfl ?_
              refine s_extract rfl rfl rfl ?_
              refine s_extract rfl rfl rfl ?_
              refine s_alloc rfl AL43 hs ?_; clear hs; intro b18 w hs
              first
                | refine s_storeW Tryd.sizeOf43 rfl rfl rfl rfl hs (kk := 0) rfl rfl ?_
                | refine s_storeW Tryd.sizeOf43 rfl rfl rfl rfl hs (kk := 1) rfl rfl ?_
                | refine s_storeW Tryd.sizeOf43 rfl rfl rfl rfl hs (kk := 2) rfl rfl ?_
                | refine s_storeW Tryd.sizeOf43 rfl rfl rfl rfl hs (kk := 3) rfl rfl ?_
                | refine s_storeAB Tryd.sizeOf43 rfl rfl rfl rfl hs (kk := 0) rfl rfl ?_
                | refine s_storeAB Tryd.sizeOf43 rfl rfl rfl rfl hs (kk := 1) rfl rfl ?_
                | refine s_storeAB Tryd.sizeOf43 rfl rfl rfl rfl hs (kk := 2) rfl rfl ?_
                | refine s_storeAB Tryd.sizeOf43 rfl rfl rfl rfl hs (kk := 3) rfl rfl ?_
              clear hs; intro w hs; try simp only [List.set_cons_zero, List.set_cons_succ, splice, List.take_succ_cons, List.take_zero, List.drop_succ_cons, List.drop_zero, List.nil_append, List.cons_append, List.length_cons, List.length_nil, Nat.reduceAdd, List.append_assoc] at hs
              refine s_assign rfl rfl ?_
              refine WL_nil ?_
              refine n_then ?_
              refine W_seq ?_
              refine W_seq ?_
              refine W_region ?_
              refine s_move rfl rfl ?_
              refine s_neq rfl rfl rfl ?_
              refine WL_nil ?_
              refine n_then ?_
              refine W_cond_kt rfl ((by simpa using he9)) ?_
              refine W_exit ?_
              refine x_then ?_
              refine exit_hit ?_
              refine n_then ?_
              refine W_region ?_
              refine s_move rfl rfl ?_
              first | (refine s_add' rfl rfl rfl ?hx ?_; case hx => (constructor <;> first | omega | (simp only; omega))) | refine s_add rfl rfl rfl ?_
              refine s_assign rfl rfl ?_
              refine WL_nil ?_
              refine n_loop ?_
              first
                | exact ⟨⟨i + 1, ms', Ln⟩, ⟨rfl, rfl, rfl, rfl, trivial⟩, ⟨hs, hN, by simp only; omega, by simp only; omega, hMs'⟩, by simp only; omega⟩
                | exact ⟨⟨i + 1, ms, L0⟩, ⟨rfl, rfl, rfl, rfl, trivial⟩, ⟨hs.tail, hN, by simp only; omega, by simp only; omega, hMs⟩, by simp only; omega⟩
                | exact ⟨⟨i + 1, _, Ln⟩, ⟨rfl, rfl, rfl, rfl, trivial⟩, ⟨St.right (M := Le) (St.right (M := LR) hs.tail.tail), hN, by simp only; omega, by simp only; omega, hMs'⟩, by simp only; omega⟩
            · skip
              simp only [List.nil_append, List.cons_append] at hs
              obtain ⟨j, e, he, hf, ht, hbs⟩ := hMs m hmm
              have heok := hes e (List.mem_of_getElem? he)
              have hjl : j < es.length := (List.getElem?_eq_some_iff.1 he).1
              have hMs' : MsOk mx es (ms.eraseIdx k7.toNat) := fun m' hm' => hMs m' (List.mem_of_mem_eraseIdx hm')
              have hmsg := msgB_len hmx heok (j := j) (by omega)
              have hel := List.length_eraseIdx_le ms k7.toNat
              have hbb := blkB_len hmx heok.good heok.len
              have hrd1 : rdI ⟨msgB mx j e, 0⟩ = ((j : Int), ⟨uvar (blkB mx e.b e.cl).length ++ (blkB mx e.b e.cl ++ []), 0⟩) := by
                unfold msgB
                rw [List.append_assoc, List.append_nil]
                exact rdI_uvar (by omega)
              have hrd2 : rdRaw ⟨uvar (blkB mx e.b e.cl).length ++ (blkB mx e.b e.cl ++ []), 0⟩ = (blkB mx e.b e.cl, ⟨[], 0⟩) := rdRaw_uvar (by omega)
              have hblk : m.blk = (m.b, Blk 5 (u8s m.bs)) := rfl
              have hmc : m.cells = [.int .i64 m.f, .int .i64 m.t, .slice (some ⟨m.b, 0, none⟩) m.bs.length m.bs.length] := rfl
              obtain ⟨g9, k9, s9, h9v, h9c, h9L⟩ := hO.block (by omega)
              cases h9v
              refine s_move rfl rfl ?_
              refine s_extract rfl rfl rfl ?_
              refine s_extract rfl rfl rfl ?_
              refine s_alloc rfl AL43 hs ?_; clear hs; intro b18 w hs
              first
                | refine s_storeW Tryd.sizeOf43 rfl rfl rfl rfl hs (kk := 0) rfl rfl ?_
                | refine s_storeW Tryd.sizeOf43 rfl rfl rfl rfl hs (kk := 1) rfl rfl ?_
                | refine s_storeW Tryd.sizeOf43 rfl rfl rfl rfl hs (kk := 2) rfl rfl ?_
                | refine s_storeW Tryd.sizeOf43 rfl rfl rfl rfl hs (kk := 3) rfl rfl ?_
                | refine s_storeAB Tryd.sizeOf43 rfl rfl rfl rfl hs (kk := 0) rfl rfl ?_
                | refine s_storeAB Tryd.sizeOf43 rfl rfl rfl rfl hs (kk := 1) rfl rfl ?_
                | refine s_storeAB Tryd.sizeOf43 rfl rfl rfl rfl hs (kk := 2) rfl rfl ?_
                | refine s_storeAB Tryd.sizeOf43 rfl rfl rfl rfl hs (kk := 3) rfl rfl ?_
              clear hs; intro w hs; try simp only [List.set_cons_zero, List.set_cons_succ, splice, List.take_succ_cons, List.take_zero, List.drop_succ_cons, List.drop_zero, List.nil_append, List.cons_append, List.length_cons, List.length_nil, Nat.reduceAdd, List.append_assoc] at hs
              refine s_assign rfl rfl ?_
              refine WL_nil ?_
              refine n_then ?_
              refine W_seq ?_
              refine W_seq ?_
              refine W_region ?_
              refine s_move rfl rfl ?_
              refine s_neq rfl rfl rfl ?_
              refine WL_nil ?_
              refine n_then ?_
              refine W_cond_kf rfl (rfl) ?_
              refine W_skip ?_
              refine n_then ?_
              refine W_seq ?_
              refine W_region ?_
              refine s_fieldAddr rfl rfl (FA43_2 _ _) ?_
              first
                | refine s_load Tryd.isAgg33 rfl rfl (hs.cell (k := 0) rfl rfl) ?_
                | refine s_load Tryd.isAgg33 rfl rfl (hs.cell (k := 1) rfl rfl) ?_
                | refine s_load Tryd.isAgg33 rfl rfl (hs.cell (k := 2) rfl rfl) ?_
                | refine s_load Tryd.isAgg33 rfl rfl (hs.cell (k := 3) rfl rfl) ?_
              have hSm : Sl w (.slice (some ⟨m.b, 0, none⟩) m.bs.length m.bs.length) (msgB mx j e).length (u8s (msgB mx j e)) := by
                rw [← hbs]; exact hs.sl (k := 1) rfl (Nat.le_refl _) (by intro j u hj; rw [Nat.zero_add]; exact hj)
              refine s_call Tryd.call14 rfl rfl (read_ok _ (msgB mx j e) w hSm (by omega) (msgB_isB mx j e)) ?_
              rintro r w ⟨q, LR, rfl, hR, hst⟩
              replace hs : St [] w0 w ([(b18, Blk 43 m.cells)] ++ (LR ++ (Ln ++ (L9 ++ LX)))) := St.reord [LR, [_], [_], Ln, L9, LX] [1, 0, 3, 4, 5] [2] (St.back0 hs hst) rfl
              clear hst hSm
              refine s_assign rfl rfl ?_
              refine WL_nil ?_
              refine n_then ?_
              refine W_seq ?_
              refine W_seq ?_
              refine W_region ?_
              refine s_move rfl rfl ?_
              refine s_eql_ptr_nil Tryd.underlying48 rfl rfl rfl ?_
              refine WL_nil ?_
              refine n_then ?_
              refine W_cond_kf rfl (rfl) ?_
              refine W_skip ?_
              refine n_then ?_
              refine W_seq ?_
              refine W_region ?_
              refine s_move rfl rfl ?_
              refine s_callL (M := [_]) (L1 := LR) (X := Ln ++ (L9 ++ LX)) Tryd.call15 rfl rfl hs (fun h => rInt_ok q _ LR w hR h) ?_
              rw [hrd1]
              clear hs hR; rintro u w LR ⟨hR, rfl⟩ - hs
              simp only at hR
              refine s_assign rfl rfl ?_
              refine WL_nil ?_
              refine n_then ?_
              refine W_seq ?_
              refine W_region ?_
              refine s_move rfl rfl ?_
              refine s_callL (M := [_]) (L1 := LR) (X := Ln ++ (L9 ++ LX)) Tryd.call17 rfl rfl hs (fun h => rRaw_ok q _ LR w hR h) ?_
              rw [hrd2]
              clear hs hR; rintro u w L0 ⟨LR, Lq, rfl, hR, hOq⟩ - hs
              simp only [List.append_assoc] at hs
              simp only at hR hOq
              refine s_call Tryd.call16 rfl rfl (blDecode_ok hmx e.b heok.good _ e.cl w (hg.st hs (by simp)) (hpm.st hs (by simp)) (OwnS_slIn hOq fun q hq => hs.own q (by simp [hq])) heok.ok heok.len) ?_
              rintro r w ⟨uc, Le, rfl, hOe, hst⟩
              replace hs : St [] w0 w ([(b18, Blk 43 m.cells)] ++ (LR ++ (Le ++ (Ln ++ (L9 ++ LX))))) := St.reord [Le, [_], LR, Lq, Ln, L9, LX] [1, 2, 0, 4, 5, 6] [3] (St.back0 hs hst) rfl
              simp only [List.cons_append, List.nil_append] at hs
              clear hst hOq
              obtain ⟨_, kc, ac, rfl, hvc⟩ := hOe.form
              subst hvc
              refine s_move rfl rfl ?_
              refine s_extract rfl rfl rfl ?_
              refine s_extract rfl rfl rfl ?_
              refine s_alloc rfl AL32 hs ?_; clear hs; intro b22 w hs
              first
                | refine s_storeW Tryd.sizeOf32 rfl rfl rfl rfl hs (kk := 0) rfl rfl ?_
                | refine s_storeW Tryd.sizeOf32 rfl rfl rfl rfl hs (kk := 1) rfl rfl ?_
                | refine s_storeW Tryd.sizeOf32 rfl rfl rfl rfl hs (kk := 2) rfl rfl ?_
                | refine s_storeW Tryd.sizeOf32 rfl rfl rfl rfl hs (kk := 3) rfl rfl ?_
                | refine s_storeAB Tryd.sizeOf32 rfl rfl rfl rfl hs (kk := 0) rfl rfl ?_
                | refine s_storeAB Tryd.sizeOf32 rfl rfl rfl rfl hs (kk := 1) rfl rfl ?_
                | refine s_storeAB Tryd.sizeOf32 rfl rfl rfl rfl hs (kk := 2) rfl rfl ?_
                | refine s_storeAB Tryd.sizeOf32 rfl rfl rfl rfl hs (kk := 3) rfl rfl ?_
              clear hs; intro w hs; try simp only [List.set_cons_zero, List.set_cons_succ, splice, List.take_succ_cons, List.take_zero, List.drop_succ_cons, List.drop_zero, List.nil_append, List.cons_append, List.length_cons, List.length_nil, Nat.reduceAdd, List.append_assoc] at hs
              refine s_assign rfl rfl ?_
              refine WL_nil ?_
              refine n_then ?_
              refine W_seq ?_
              refine W_draw [(0, true, []), (1, false, []), (2, true, []), (3, true, []), (4, true, []), (5, true, []), (6, true, []), (7, true, []), (8, true, []), (9, true, []), (10, true, []), (11, true, []), (12, true, []), (13, true, []), (14, true, []), (15, true, []), (16, true, []), (17, true, []), (18, true, []), (19, true, []), (20, true, []), (21, true, []), (22, true, []), (23, false, []), (24, true, []), (25, true, []), (26, true, []), (27, true, []), (28, true, []), (29, true, []), (30, true, []), (31, true, []), (32, true, []), (33, true, []), (34, true, []), (35, true, []), (36, true, []), (37, true, []), (38, true, []), (39, true, []), (40, true, [])] [[], [0], [0, 1], [0, 1, 2], [0, 1, 2, 3], [0, 1, 2, 3, 4], [0, 1, 2, 3, 4, 5], [0, 1, 2, 3, 4, 5, 6], [0, 1, 2, 3, 4, 5, 6, 7], [0, 1, 2, 3, 4, 5, 6, 7, 8], [0, 1, 2, 3, 4, 5, 6, 7, 8, 9], [0, 1, 2, 3, 4, 5, 6, 7, 8, 9, 10], [0, 1, 2, 3, 4, 5, 6, 7, 8, 9, 10, 11], [0, 1, 2, 3, 4, 5, 6, 7, 8, 9, 10, 11], [0, 1, 2, 3, 4, 5, 6, 7, 8, 9, 10, 11, 13], [0, 1, 2, 3, 4, 5, 6, 7, 8, 9, 10, 11, 12, 13, 14], [0, 1, 2, 3, 4, 5, 6, 7, 8, 9, 10, 11, 12, 13, 14, 15], [0, 1, 2, 3, 4, 5, 6, 7, 8, 9, 10, 11, 12, 13, 14, 15, 16], [0, 1, 2, 3, 4, 5, 6, 7, 8, 9, 10, 11, 12, 13, 14, 15, 16, 17], [0, 1, 2, 3, 4, 5, 6, 7, 8, 9, 10, 11, 12, 13, 14, 15, 16, 17], [0, 1, 2, 3, 4, 5, 6, 7, 8, 9, 10, 11, 12, 13, 14, 15, 16, 17], [0, 1, 2, 3, 4, 5, 6, 7, 8, 9, 10, 11, 12, 13, 14, 15, 16, 17, 19, 20], [0, 1, 2, 3, 4, 5, 6, 7, 8, 9, 10, 11, 12, 13, 14, 15, 16, 17, 19, 20, 21], [0, 1, 2, 3, 4, 5, 6, 7, 8, 9, 10, 11, 12, 13, 14, 15, 16, 17, 18, 19, 20, 21, 22], [0, 1, 2, 3, 4, 5, 6, 7, 8, 9, 10, 11, 12, 13, 14, 15, 16, 17, 18, 19, 20, 21, 22, 23], [0, 1, 2, 3, 4, 5, 6, 7, 8, 9, 10, 11, 12, 13, 14, 15, 16, 17, 18, 19, 20, 21, 22, 23, 24], [0, 1, 2, 3, 4, 5, 6, 7, 8, 9, 10, 11, 12, 13, 14, 15, 16, 17, 18, 19, 20, 21, 22, 23, 24, 25], [0, 1, 2, 3, 4, 5, 6, 7, 8, 9, 10, 11, 12, 13, 14, 15, 16, 17, 18, 19, 20, 21, 22, 23, 24, 25, 26], [0, 1, 2, 3, 4, 5, 6, 7, 8, 9, 10, 11, 12, 13, 14, 15, 16, 17, 18, 19, 20, 21, 22, 23, 24, 25, 26, 27], [0, 1, 2, 3, 4, 5, 6, 7, 8, 9, 10, 11, 12, 13, 14, 15, 16, 17, 18, 19, 20, 21, 22, 23, 24, 25, 26], [0, 1, 2, 3, 4, 5, 6, 7, 8, 9, 10, 11, 12, 13, 14, 15, 16, 17, 18, 19, 20, 21, 22, 23, 24, 25, 26, 29], [0, 1, 2, 3, 4, 5, 6, 7, 8, 9, 10, 11, 12, 13, 14, 15, 16, 17, 18, 19, 20, 21, 22, 23, 24, 25, 26, 27, 28, 29, 30], [0, 1, 2, 3, 4, 5, 6, 7, 8, 9, 10, 11, 12, 13, 14, 15, 16, 17, 18, 19, 20, 21, 22, 23, 24, 25, 26, 27, 28, 29, 30, 31], [0, 1, 2, 3, 4, 5, 6, 7, 8, 9, 10, 11, 12, 13, 14, 15, 16, 17, 18, 19, 20, 21, 22, 23, 24, 25, 26, 27, 28, 29, 30, 31, 32], [0, 1, 2, 3, 4, 5, 6, 7, 8, 9, 10, 11, 12, 13, 14, 15, 16, 17, 18, 19, 20, 21, 22, 23, 24, 25, 26, 27, 28, 29, 30, 31, 32, 33], [0, 1, 2, 3, 4, 5, 6, 7, 8, 9, 10, 11, 12, 13, 14, 15, 16, 17, 18, 19, 20, 21, 22, 23, 24, 25, 26, 27, 28, 29, 30, 31, 32, 33, 34], [0, 1, 2, 3, 4, 5, 6, 7, 8, 9, 10, 11, 12, 13, 14, 15, 16, 17, 18, 19, 20, 21, 22, 23, 24, 25, 26, 27, 28, 29, 30, 31, 32, 33], [0, 1, 2, 3, 4, 5, 6, 7, 8, 9, 10, 11, 12, 13, 14, 15, 16, 17, 18, 19, 20, 21, 22, 23, 24, 25, 26, 27, 28, 29, 30, 31, 32, 33, 36], [0, 1, 2, 3, 4, 5, 6, 7, 8, 9, 10, 11, 12, 13, 14, 15, 16, 17, 18, 19, 20, 21, 22, 23, 24, 25, 26, 27, 28, 29, 30, 31, 32, 33, 36, 37], [0, 1, 2, 3, 4, 5, 6, 7, 8, 9, 10, 11, 12, 13, 14, 15, 16, 17, 18, 19, 20, 21, 22, 23, 24, 25, 26, 27, 28, 29, 30, 31, 32, 33, 34, 35, 36, 37, 38], [0, 1, 2, 3, 4, 5, 6, 7, 8, 9, 10, 11, 12, 13, 14, 15, 16, 17, 18, 19, 20, 21, 22, 23, 24, 25, 26, 27, 28, 29, 30, 31, 32, 33, 34, 35, 36, 37, 38, 39]] MX (by kernel_rfl) ?_
              intro w1 hw1 hw2 hw3 hw4; replace hs := hs.redrawn hw1 hw2 hw3 hw4; clear hw1 hw2 hw3 hw4
              obtain ⟨w, rfl⟩ : ∃ w : World, w = w1 := ⟨_, rfl⟩
              refine D_q rfl rfl ?_
              refine s_move rfl rfl ?_
              refine D_qn ?_
              refine D_e rfl ?_
              refine s_callL (M := [_, _]) (L1 := LR) (X := Le ++ (Ln ++ (L9 ++ LX))) Tryd.call18 rfl rfl hs (fun h => rEnd_ok q _ LR w hR h) ?_
              rw [show rdEnd ⟨[], 0⟩ = 0 from rfl]
              clear hs; rintro u w L0 ⟨hL0, rfl⟩ - hs
              rw [hL0] at hs; clear hL0 L0
              simp only [List.cons_append, List.nil_append] at hs
              refine D_en ?re ?_
              case re =>
                exact Reks_nil
              refine D_q rfl rfl ?_
              refine s_neq rfl rfl rfl ?_
              refine D_qn ?_
              refine D_q rfl rfl ?_
              refine s_move rfl rfl ?_
              refine WL_know (s := 133) (c := false) rfl (rfl) ?_
              refine D_qn ?_
              refine D_q rfl rfl ?_
              refine WL_take rfl ?_
              refine s_move rfl rfl ?_
              refine D_qn ?_
              refine D_q rfl rfl ?_
              refine WL_take rfl ?_
              refine s_neq rfl rfl rfl ?_
              refine D_qn ?_
              refine D_q rfl rfl ?_
              refine s_pick_f rfl rfl rfl ?_
              refine D_qn ?_
              refine D_q rfl rfl ?_
              refine s_move rfl rfl ?_
              refine WL_know (s := 137) (c := false) rfl (rfl) ?_
              refine D_qn ?_
              refine D_q rfl rfl ?_
              refine WL_take rfl ?_
              refine s_move rfl rfl ?_
              refine D_qn ?_
              refine D_q rfl rfl ?_
              refine WL_take rfl ?_
              refine s_lss rfl rfl rfl ?_
              refine D_qn ?_
              refine D_q rfl rfl ?_
              refine s_pick_f rfl rfl rfl ?_
              refine D_qn ?_
              refine D_q rfl rfl ?_
              refine s_move rfl rfl ?_
              refine WL_know (s := 141) (c := false) rfl ((by simp)) ?_
              refine D_qn ?_
              refine D_q rfl rfl ?_
              refine WL_take rfl ?_
              refine s_move rfl rfl ?_
              refine D_qn ?_
              refine D_q rfl rfl ?_
              refine WL_take rfl ?_
              refine s_move rfl rfl ?_
              refine D_qn ?_
              refine D_q rfl rfl ?_
              refine WL_take rfl ?_
              refine s_len rfl rfl (LN27 _ _ _ _) ?_
              refine D_qn ?_
              refine D_q rfl rfl ?_
              refine WL_take rfl ?_
              refine s_geq rfl rfl rfl ?_
              refine D_qn ?_
              refine D_q rfl rfl ?_
              refine s_pick_f rfl rfl rfl ?_
              refine D_qn ?_
              refine D_q rfl rfl ?_
              refine s_move rfl rfl ?_
              refine WL_know (s := 147) (c := false) rfl ((by simp; omega)) ?_
              refine D_qn ?_
              refine D_q rfl rfl ?_
              refine WL_take rfl ?_
              first
                | refine s_loadW Tryd.isAgg32 Tryd.sizeOf32 rfl rfl hs (kk := 0) rfl rfl ?_
                | refine s_loadW Tryd.isAgg32 Tryd.sizeOf32 rfl rfl hs (kk := 1) rfl rfl ?_
                | refine s_loadW Tryd.isAgg32 Tryd.sizeOf32 rfl rfl hs (kk := 2) rfl rfl ?_
                | refine s_loadW Tryd.isAgg32 Tryd.sizeOf32 rfl rfl hs (kk := 3) rfl rfl ?_
                | refine s_load_5 Tryd.isAgg32 Tryd.sizeOf32 rfl rfl (by first | exact hs.cell (k := 0) rfl rfl | exact hs.cell (k := 1) rfl rfl | exact hs.cell (k := 2) rfl rfl | exact hs.cell (k := 3) rfl rfl) (by first | exact hs.cell (k := 0) rfl rfl | exact hs.cell (k := 1) rfl rfl | exact hs.cell (k := 2) rfl rfl | exact hs.cell (k := 3) rfl rfl) (by first | exact hs.cell (k := 0) rfl rfl | exact hs.cell (k := 1) rfl rfl | exact hs.cell (k := 2) rfl rfl | exact hs.cell (k := 3) rfl rfl) (by first | exact hs.cell (k := 0) rfl rfl | exact hs.cell (k := 1) rfl rfl | exact hs.cell (k := 2) rfl rfl | exact hs.cell (k := 3) rfl rfl) (by first | exact hs.cell (k := 0) rfl rfl | exact hs.cell (k := 1) rfl rfl | exact hs.cell (k := 2) rfl rfl | exact hs.cell (k := 3) rfl rfl) ?_
              refine D_qn ?_
              refine D_q rfl rfl ?_
              refine WL_take rfl ?_
              refine s_move rfl rfl ?_
              refine D_qn ?_
              refine D_q rfl rfl ?_
              refine WL_take rfl ?_
              refine s_move rfl rfl ?_
              refine D_qn ?_
              refine D_q rfl rfl ?_
              refine WL_take rfl ?_
              (refine s_indexAddr El27 rfl rfl rfl ?hx ?_; case hx => (constructor <;> omega))
              refine D_qn ?_
              refine D_q rfl rfl ?_
              refine WL_take rfl ?_
              have hpos : (g9, Blk 32 (becells es ++ s9)) ∈ (LR ++ (Le ++ (Ln ++ (L9 ++ LX)))) := by rw [h9L]; simp
              obtain ⟨k9', hk9⟩ := List.getElem?_of_mem (List.mem_cons_of_mem (b22, Blk 32 (e.b.cells (.slice ac e.cl.length kc))) (List.mem_cons_of_mem (b18, Blk 43 m.cells) hpos))
              have cc : ∀ o u, o < 5 → e.cells[o]? = some u → w.cell? ⟨g9, 0 + ((j : Nat) : Int).toNat * 5 + o, none⟩ = some u := fun o u ho hu => hs.cell (k := k9') hk9 (flat_at' BE.cells_length ho he hu)
              refine s_load_5 Tryd.isAgg32 Tryd.sizeOf32 rfl rfl (cc 0 _ (by omega) rfl) (cc 1 _ (by omega) rfl) (cc 2 _ (by omega) rfl) (cc 3 _ (by omega) rfl) (cc 4 _ (by omega) rfl) ?_
              refine D_qn ?_
              refine D_e rfl ?_
              refine WL_take rfl ?_
              refine s_call Tryd.call19 rfl rfl (blEqual_ok e.b _ e.u e.cl w (OwnS_slIn hOe fun q hq => hs.own q (by simp [hq])) (heok.rd w fun q hq => hs.own q (by simp [hq])) (by have := heok.len; omega)) ?_
              rintro r w ⟨hst, rfl⟩
              replace hs := hs.fwd1 hst
              clear hst
              refine D_en ?re ?_
              case re =>
                exact Reks_nil
              refine D_q rfl rfl ?_
              refine WL_take rfl ?_
              refine s_not rfl rfl ?_
              refine D_qn ?_
              refine D_q rfl rfl ?_
              refine s_pick_f rfl rfl rfl ?_
              refine D_qn ?_
              refine D_q rfl rfl ?_
              refine s_move rfl rfl ?_
              refine WL_know (s := 156) (c := false) rfl (rfl) ?_
              refine D_qn ?_
              refine D_q rfl rfl ?_
              refine WL_take rfl ?_
              refine s_fieldAddr rfl rfl (FA43_0 _ _) ?_
              refine D_qn ?_
              refine D_q rfl rfl ?_
              refine WL_take rfl ?_
              first
                | refine s_load Tryd.isAgg3 rfl rfl (hs.cell (k := 0) rfl rfl) ?_
                | refine s_load Tryd.isAgg3 rfl rfl (hs.cell (k := 1) rfl rfl) ?_
                | refine s_load Tryd.isAgg3 rfl rfl (hs.cell (k := 2) rfl rfl) ?_
                | refine s_load Tryd.isAgg3 rfl rfl (hs.cell (k := 3) rfl rfl) ?_
              refine D_qn ?_
              refine D_q rfl rfl ?_
              refine WL_take rfl ?_
              refine s_move rfl rfl ?_
              refine D_qn ?_
              refine D_q rfl rfl ?_
              refine WL_take rfl ?_
              first | (refine s_rem' rfl rfl rfl ?hx ?_; case hx => (refine ⟨?_, ?_⟩ <;> omega)) | (refine s_rem rfl rfl rfl ?hx ?_; case hx => omega)
              refine D_qn ?_
              refine D_q rfl rfl ?_
              refine WL_take rfl ?_
              refine s_neq rfl rfl rfl ?_
              refine D_qn ?_
              refine D_q rfl rfl ?_
              refine s_pick_f rfl rfl rfl ?_
              refine D_qn ?_
              refine D_q rfl rfl ?_
              refine s_move rfl rfl ?_
              refine WL_know (s := 163) (c := false) rfl ((by simp [hf])) ?_
              refine D_qn ?_
              refine D_q rfl rfl ?_
              refine WL_take rfl ?_
              refine s_fieldAddr rfl rfl (FA43_1 _ _) ?_
              refine D_qn ?_
              refine D_q rfl rfl ?_
              refine WL_take rfl ?_
              first
                | refine s_load Tryd.isAgg3 rfl rfl (hs.cell (k := 0) rfl rfl) ?_
                | refine s_load Tryd.isAgg3 rfl rfl (hs.cell (k := 1) rfl rfl) ?_
                | refine s_load Tryd.isAgg3 rfl rfl (hs.cell (k := 2) rfl rfl) ?_
                | refine s_load Tryd.isAgg3 rfl rfl (hs.cell (k := 3) rfl rfl) ?_
              refine D_qn ?_
              refine D_q rfl rfl ?_
              refine WL_take rfl ?_
              refine s_move rfl rfl ?_
              refine D_qn ?_
              refine D_q rfl rfl ?_
              refine WL_take rfl ?_
              first | (refine s_add' rfl rfl rfl ?hx ?_; case hx => (constructor <;> first | omega | (simp only; omega))) | refine s_add rfl rfl rfl ?_
              refine D_qn ?_
              refine D_q rfl rfl ?_
              refine WL_take rfl ?_
              first | (refine s_rem' rfl rfl rfl ?hx ?_; case hx => (refine ⟨?_, ?_⟩ <;> omega)) | (refine s_rem rfl rfl rfl ?hx ?_; case hx => omega)
              refine D_qn ?_
              refine D_q rfl rfl ?_
              refine WL_take rfl ?_
              refine s_neq rfl rfl rfl ?_
              refine D_qn ?_
              refine D_q rfl rfl ?_
              refine s_pick_f rfl rfl rfl ?_
              refine D_qn ?_
              refine D_nil ?_
              refine n_then ?_
              refine W_cond_kf rfl ((by simp [ht])) ?_
              refine W_skip ?_
              refine n_blk ?_
              refine n_then ?_
              refine W_region ?_
              refine s_move rfl rfl ?_
              first | (refine s_add' rfl rfl rfl ?hx ?_; case hx => (constructor <;> first | omega | (simp only; omega))) | refine s_add rfl rfl rfl ?_
              refine s_assign rfl rfl ?_
              refine WL_nil ?_
              refine n_loop ?_
              first
                | exact ⟨⟨i + 1, ms', Ln⟩, ⟨rfl, rfl, rfl, rfl, trivial⟩, ⟨hs, hN, by simp only; omega, by simp only; omega, hMs'⟩, by simp only; omega⟩
                | exact ⟨⟨i + 1, ms, L0⟩, ⟨rfl, rfl, rfl, rfl, trivial⟩, ⟨hs.tail, hN, by simp only; omega, by simp only; omega, hMs⟩, by simp only; omega⟩
                | exact ⟨⟨i + 1, _, Ln⟩, ⟨rfl, rfl, rfl, rfl, trivial⟩, ⟨St.right (M := Le) (St.right (M := LR) hs.tail.tail), hN, by simp only; omega, by simp only; omega, hMs'⟩, by simp only; omega⟩
        · skip
          try simp only [decide_eq_true_eq, decide_eq_false_iff_not, beq_iff_eq, beq_eq_false_iff_ne, ne_eq, bne_iff_ne, bne_eq_false_iff_eq] at hc92
          refine W_exit ?_
          refine x_then ?_
          refine x_then ?_
          refine exit_hit ?_
          refine n_then ?_
          refine W_seq ?_
          refine W_region ?_
          refine s_call Tryd.call20 rfl rfl (lives_ok w) ?_
          rintro r w ⟨hst, rfl⟩
          replace hs := hs.fwd1 hst
          clear hst
          refine s_assign rfl rfl ?_
          refine WL_nil ?_
          refine n_then ?_
          refine W_ret ?_
          exact end1 rfl rfl ⟨hs.fwd, rfl⟩
      · skip
        try simp only [decide_eq_true_eq, decide_eq_false_iff_not, beq_iff_eq, beq_eq_false_iff_ne, ne_eq, bne_iff_ne, bne_eq_false_iff_eq] at hg89
        refine WL_skip rfl rfl rfl ?_
        refine WL_skip rfl rfl rfl ?_
        refine s_pick_f rfl rfl rfl ?_
        refine WL_nil ?_
        refine n_then ?_
        refine W_cond_f rfl ?_
        refine W_exit ?_
        refine x_then ?_
        refine x_then ?_
        refine exit_hit ?_
        refine n_then ?_
        refine W_seq ?_
        refine W_region ?_
        refine s_call Tryd.call20 rfl rfl (lives_ok w) ?_
        rintro r w ⟨hst, rfl⟩
        replace hs := hs.fwd1 hst
        clear hst
        refine s_assign rfl rfl ?_
        refine WL_nil ?_
        refine n_then ?_
        refine W_ret ?_
        exact end1 rfl rfl ⟨hs.fwd, rfl⟩
  · skip
    try simp only [decide_eq_true_eq, decide_eq_false_iff_not, beq_iff_eq, beq_eq_false_iff_ne, ne_eq, bne_iff_ne, bne_eq_false_iff_eq] at hg38
    refine WL_skip rfl rfl rfl ?_
    refine WL_skip rfl rfl rfl ?_
    refine s_pick_f rfl rfl rfl ?_
    refine WL_nil ?_
    refine n_then ?_
    refine W_cond_f rfl ?_
    refine W_exit ?_
    refine x_then ?_
    refine x_then ?_
    refine exit_hit ?_
    refine n_then ?_
    refine W_seq ?_
    refine W_seq ?_
    refine W_region ?_
    refine s_assign rfl rfl ?_
    refine WL_nil ?_
    refine n_then ?_
    refine W_block ?_
    refine W_loop (σ := NcS) (fun s => [(2, .slice ap xp.length cp), (7, .pointer (some ⟨p, 0, none⟩)), (9, .slice a9 es.length c9), (16, .int .i64 (s.i : Int))])
      (fun s w => St [] w0 w (s.Ln ++ (L9 ++ LX)) ∧ NetAt p gs s.ms s.Ln ∧ s.i ≤ 12 ∧ s.ms.length ≤ 5 + s.i ∧ MsOk mx es s.ms) (fun s => 12 - s.i) ⟨0, ms, Ln⟩ ⟨rfl, rfl, rfl, rfl, trivial⟩ ⟨hs, hN, by simp, by simp only; omega, hMs⟩ ?_
    clear hs hN hMs hml ms Ln
    rintro ⟨i, ms, Ln⟩ w ⟨hs, hN, hi, hml, hMs⟩
    simp only at hs hN hi hml hMs ⊢
    refine W_seq ?_
    refine W_seq ?_
    refine W_region ?_
    refine s_move rfl rfl ?_
    refine s_move rfl rfl ?_
    refine s_len rfl rfl (LN22 _ _ _ _) ?_
    refine s_lss rfl rfl rfl ?_
    refine s_move rfl rfl ?_
    refine WL_case (s := 89) rfl (fun hg89 => ?_) (fun hg89 => ?_)
    · skip
      try simp only [decide_eq_true_eq, decide_eq_false_iff_not, beq_iff_eq, beq_eq_false_iff_ne, ne_eq, bne_iff_ne, bne_eq_false_iff_eq] at hg89
      refine WL_take rfl ?_
      refine s_move rfl rfl ?_
      refine WL_take rfl ?_
      refine s_lss rfl rfl rfl ?_
      refine s_pick_t rfl rfl rfl ?_
      refine WL_nil ?_
      refine n_then ?_
      refine W_cond rfl (fun hc92 => ?_) (fun hc92 => ?_)
      · skip
        try simp only [decide_eq_true_eq, decide_eq_false_iff_not, beq_iff_eq, beq_eq_false_iff_ne, ne_eq, bne_iff_ne, bne_eq_false_iff_eq] at hc92
        have hix : i < xp.length := by omega
        obtain ⟨b1, o1, hA1, hc1⟩ := hp.at (k := i) (i64s_at' hix)
        have hB1 : b1 < w0.heap.size := World.block_lt_of_cell? w0 _ hc1
        have hzi : isI64 (xp.getD i 0) := hpi _ (by rw [List.getD_eq_getElem?_getD, List.getElem?_eq_getElem hix]; simp)
        have hmsl : ∀ m ∈ ms, m.bs.length ≤ 65536 := fun m hm => by
          obtain ⟨j, e, he, _, _, h3⟩ := hMs m hm
          have := msgB_len hmx (hes e (List.mem_of_getElem? he)) (j := j) (by have := (List.getElem?_eq_some_iff.1 he).1; omega)
          rw [h3]; omega
        refine W_skip ?_
        refine n_then ?_
        refine W_seq ?_
        refine W_block ?_
        refine W_seq ?_
        refine W_region ?_
        refine s_move rfl rfl ?_
        refine s_move rfl rfl ?_
        (refine s_indexAddrO El22 rfl rfl rfl hA1 ?hx ?_; case hx => (constructor <;> omega))
        refine s_load Tryd.isAgg3 rfl rfl (by rw [Int.toNat_natCast]; exact (hs.oldcell (a := ⟨b1, _, none⟩) hB1 (by simp)).trans hc1) ?_
        refine s_call Tryd.call11 rfl rfl (around_ok _ 7 w (by decide) hzi) ?_
        rintro r w1 ⟨hw1, rfl⟩
        rw [hw1]; clear hw1 w1
        generalize aroundV (xp.getD i 0) 7 = k7
        refine s_assign rfl rfl ?_
        refine WL_nil ?_
        refine n_then ?_
        refine W_seq ?_
        refine W_seq ?_
        refine W_region ?_
        refine s_move rfl rfl ?_
        refine s_move rfl rfl ?_
        (refine s_indexAddrO El22 rfl rfl rfl hA1 ?hx ?_; case hx => (constructor <;> omega))
        refine s_load Tryd.isAgg3 rfl rfl (by rw [Int.toNat_natCast]; exact (hs.oldcell (a := ⟨b1, _, none⟩) hB1 (by simp)).trans hc1) ?_
        (refine s_rem rfl rfl rfl ?hx ?_; case hx => omega)
        refine s_eql rfl rfl rfl ?_
        refine WL_nil ?_
        refine n_then ?_
        refine W_cond rfl (fun hc105 => ?_) (fun hc105 => ?_)
        · skip
          try simp only [decide_eq_true_eq, decide_eq_false_iff_not, beq_iff_eq, beq_eq_false_iff_ne, ne_eq, bne_iff_ne, bne_eq_false_iff_eq] at hc105
          refine W_seq ?_
          refine W_region ?_
          refine s_move rfl rfl ?_
          refine s_move rfl rfl ?_
          refine s_callL (M := []) (L1 := Ln) (X := L9 ++ LX) Tryd.call12 rfl rfl hs (fun h => copyAny_ok p gs ms k7 Ln w hN h (by omega) hmsl) ?_
          clear hs hN; rintro r w Ln ⟨e9, ms', rfl, hN, hml', hms'⟩ - hs
          simp only [List.nil_append] at hs
          have hMs' : MsOk mx es ms' := fun m hm => by
            obtain ⟨m0, hm0, h1, h2, h3⟩ := hms' m hm
            obtain ⟨j, e, he, h4, h5, h6⟩ := hMs m0 hm0
            exact ⟨j, e, he, h1.trans h4, h2.trans h5, h3.trans h6⟩
          refine WL_nil ?_
          refine n_then ?_
          refine W_exit ?_
          refine x_then ?_
          refine exit_hit ?_
          refine n_then ?_
          refine W_region ?_
          refine s_move rfl rfl ?_
          first | (refine s_add' rfl rfl rfl ?hx ?_; case hx => (constructor <;> first | omega | (simp only; omega))) | refine s_add rfl rfl rfl ?_
          refine s_assign rfl rfl ?_
          refine WL_nil ?_
          refine n_loop ?_
          first
            | exact ⟨⟨i + 1, ms', Ln⟩, ⟨rfl, rfl, rfl, rfl, trivial⟩, ⟨hs, hN, by simp only; omega, by simp only; omega, hMs'⟩, by simp only; omega⟩
            | exact ⟨⟨i + 1, ms, L0⟩, ⟨rfl, rfl, rfl, rfl, trivial⟩, ⟨hs.tail, hN, by simp only; omega, by simp only; omega, hMs⟩, by simp only; omega⟩
            | exact ⟨⟨i + 1, _, Ln⟩, ⟨rfl, rfl, rfl, rfl, trivial⟩, ⟨St.right (M := Le) (St.right (M := LR) hs.tail.tail), hN, by simp only; omega, by simp only; omega, hMs'⟩, by simp only; omega⟩
        · skip
          try simp only [decide_eq_true_eq, decide_eq_false_iff_not, beq_iff_eq, beq_eq_false_iff_ne, ne_eq, bne_iff_ne, bne_eq_false_iff_eq] at hc105
          refine W_skip ?_
          refine n_then ?_
          refine W_seq ?_
          refine W_region ?_
          refine s_move rfl rfl ?_
          refine s_move rfl rfl ?_
          refine s_callL (M := []) (L1 := Ln) (X := L9 ++ LX) Tryd.call13 rfl rfl hs (fun h => takeAny_ok p gs ms k7 Ln w hN h (by omega) (fun m hm => by rw [hgl]; exact hMs.v m hm)) ?_
          clear hs hN; rintro r w L0 (⟨e9, he9, rfl, hN⟩ | ⟨m, Ln, hmm, rfl, rfl, hN⟩) - hs
          · skip
            simp only [List.nil_append] at hs
            refine s_move rfl rfl ?_
            refine s_extract rfl rfl rfl ?_
            refine s_extract rfl rfl rfl ?_
            refine s_alloc rfl AL43 hs ?_; clear hs; intro b18 w hs
            first
              | refine s_storeW Tryd.sizeOf43 rfl rfl rfl rfl hs (kk := 0) rfl rfl ?_
              | refine s_storeW Tryd.sizeOf43 rfl rfl rfl rfl hs (kk := 1) rfl rfl ?_
              | refine s_storeW Tryd.sizeOf43 rfl rfl rfl rfl hs (kk := 2) rfl rfl ?_
              | refine s_storeW Tryd.sizeOf43 rfl rfl rfl rfl hs (kk := 3) rfl rfl ?_
              | refine s_storeAB Tryd.sizeOf43 rfl rfl rfl rfl hs (kk := 0) rfl rfl ?_
              | refine s_storeAB Tryd.sizeOf43 rfl rfl rfl rfl hs (kk := 1) rfl rfl ?_
              | refine s_storeAB Tryd.sizeOf43 rfl rfl rfl rfl hs (kk := 2) rfl rfl ?_
              | refine s_storeAB Tryd.sizeOf43 rfl rfl rfl rfl hs (kk := 3) rfl rfl ?_
            clear hs; intro w hs; try simp only [List.set_cons_zero, List.set_cons_succ, splice, List.take_succ_cons, List.take_zero, List.drop_succ_cons, List.drop_zero, List.nil_append, List.cons_append, List.length_cons, List.length_nil, Nat.reduceAdd, List.append_assoc] at hs
            refine s_assign rfl rfl ?_
            refine WL_nil ?_
            refine n_then ?_
            refine W_seq ?_
            refine W_seq ?_
            refine W_region ?_
            refine s_move rfl rfl ?_
            refine s_neq rfl rfl rfl ?_
            refine WL_nil ?_
            refine n_then ?_
            refine W_cond_kt rfl ((by simpa using he9)) ?_
            refine W_exit ?_
            refine x_then ?_
            refine exit_hit ?_
            refine n_then ?_
            refine W_region ?_
            refine s_move rfl rfl ?_
            first | (refine s_add' rfl rfl rfl ?hx ?_; case hx => (constructor <;> first | omega | (simp only; omega))) | refine s_add rfl rfl rfl ?_
            refine s_assign rfl rfl ?_
            refine WL_nil ?_
            refine n_loop ?_
            first
              | exact ⟨⟨i + 1, ms', Ln⟩, ⟨rfl, rfl, rfl, rfl, trivial⟩, ⟨hs, hN, by simp only; omega, by simp only; omega, hMs'⟩, by simp only; omega⟩
              | exact ⟨⟨i + 1, ms, L0⟩, ⟨rfl, rfl, rfl, rfl, trivial⟩, ⟨hs.tail, hN, by simp only; omega, by simp only; omega, hMs⟩, by simp only; omega⟩
              | exact ⟨⟨i + 1, _, Ln⟩, ⟨rfl, rfl, rfl, rfl, trivial⟩, ⟨St.right (M := Le) (St.right (M := LR) hs.tail.tail), hN, by simp only; omega, by simp only; omega, hMs'⟩, by simp only; omega⟩
          · skip
            simp only [List.nil_append, List.cons_append] at hs
            obtain ⟨j, e, he, hf, ht, hbs⟩ := hMs m hmm
            have heok := hes e (List.mem_of_getElem? he)
            have hjl : j < es.length := (List.getElem?_eq_some_iff.1 he).1
            have hMs' : MsOk mx es (ms.eraseIdx k7.toNat) := fun m' hm' => hMs m' (List.mem_of_mem_eraseIdx hm')
            have hmsg := msgB_len hmx heok (j := j) (by omega)
            have hel := List.length_eraseIdx_le ms k7.toNat
            have hbb := blkB_len hmx heok.good heok.len
            have hrd1 : rdI ⟨msgB mx j e, 0⟩ = ((j : Int), ⟨uvar (blkB mx e.b e.cl).length ++ (blkB mx e.b e.cl ++ []), 0⟩) := by
              unfold msgB
              rw [List.append_assoc, List.append_nil]
              exact rdI_uvar (by omega)
            have hrd2 : rdRaw ⟨uvar (blkB mx e.b e.cl).length ++ (blkB mx e.b e.cl ++ []), 0⟩ = (blkB mx e.b e.cl, ⟨[], 0⟩) := rdRaw_uvar (by omega)
            have hblk : m.blk = (m.b, Blk 5 (u8s m.bs)) := rfl
            have hmc : m.cells = [.int .i64 m.f, .int .i64 m.t, .slice (some ⟨m.b, 0, none⟩) m.bs.length m.bs.length] := rfl
            obtain ⟨g9, k9, s9, h9v, h9c, h9L⟩ := hO.block (by omega)
            cases h9v
            refine s_move rfl rfl ?_
            refine s_extract rfl rfl rfl ?_
            refine s_extract rfl rfl rfl ?_
            refine s_alloc rfl AL43 hs ?_; clear hs; intro b18 w hs
            first
              | refine s_storeW Tryd.sizeOf43 rfl rfl rfl rfl hs (kk := 0) rfl rfl ?_
              | refine s_storeW Tryd.sizeOf43 rfl rfl rfl rfl hs (kk := 1) rfl rfl ?_
              | refine s_storeW Tryd.sizeOf43 rfl rfl rfl rfl hs (kk := 2) rfl rfl ?_
              | refine s_storeW Tryd.sizeOf43 rfl rfl rfl rfl hs (kk := 3) rfl rfl ?_
              | refine s_storeAB Tryd.sizeOf43 rfl rfl rfl rfl hs (kk := 0) rfl rfl ?_
              | refine s_storeAB Tryd.sizeOf43 rfl rfl rfl rfl hs (kk := 1) rfl rfl ?_
              | refine s_storeAB Tryd.sizeOf43 rfl rfl rfl rfl hs (kk := 2) rfl rfl ?_
              | refine s_storeAB Tryd.sizeOf43 rfl rfl rfl rfl hs (kk := 3) rfl rfl ?_
            clear hs; intro w hs; try simp only [List.set_cons_zero, List.set_cons_succ, splice, List.take_succ_cons, List.take_zero, List.drop_succ_cons, List.drop_zero, List.nil_append, List.cons_append, List.length_cons, List.length_nil, Nat.reduceAdd, List.append_assoc] at hs
            refine s_assign rfl rfl ?_
            refine WL_nil ?_
            refine n_then ?_
            refine W_seq ?_
            refine W_seq ?_
            refine W_region ?_
            refine s_move rfl rfl ?_
            refine s_neq rfl rfl rfl ?_
            refine WL_nil ?_
            refine n_then ?_
            refine W_cond_kf rfl (rfl) ?_
            refine W_skip ?_
            refine n_then ?_
            refine W_seq ?_
            refine W_region ?_
            refine s_fieldAddr rfl rfl (FA43_2 _ _) ?_
            first
              | refine s_load Tryd.isAgg33 rfl rfl (hs.cell (k := 0) rfl rfl) ?_
              | refine s_load Tryd.isAgg33 rfl rfl (hs.cell (k := 1) rfl rfl) ?_
              | refine s_load Tryd.isAgg33 rfl rfl (hs.cell (k := 2) rfl rfl) ?_
              | refine s_load Tryd.isAgg33 rfl rfl (hs.cell (k := 3) rfl rfl) ?_
            have hSm : Sl w (.slice (some ⟨m.b, 0, none⟩) m.bs.length m.bs.length) (msgB mx j e).length (u8s (msgB mx j e)) := by
              rw [← hbs]; exact hs.sl (k := 1) rfl (Nat.le_refl _) (by intro j u hj; rw [Nat.zero_add]; exact hj)
            refine s_call Tryd.call14 rfl rfl (read_ok _ (msgB mx j e) w hSm (by omega) (msgB_isB mx j e)) ?_
            rintro r w ⟨q, LR, rfl, hR, hst⟩
            replace hs : St [] w0 w ([(b18, Blk 43 m.cells)] ++ (LR ++ (Ln ++ (L9 ++ LX)))) := St.reord [LR, [_], [_], Ln, L9, LX] [1, 0, 3, 4, 5] [2] (St.back0 hs hst) rfl
            clear hst hSm
            refine s_assign rfl rfl ?_
            refine WL_nil ?_
            refine n_then ?_
            refine W_seq ?_
            refine W_seq ?_
            refine W_region ?_
            refine s_move rfl rfl ?_
            refine s_eql_ptr_nil Tryd.underlying48 rfl rfl rfl ?_
            refine WL_nil ?_
            refine n_then ?_
            refine W_cond_kf rfl (rfl) ?_
            refine W_skip ?_
            refine n_then ?_
            refine W_seq ?_
            refine W_region ?_
            refine s_move rfl rfl ?_
            refine s_callL (M := [_]) (L1 := LR) (X := Ln ++ (L9 ++ LX)) Tryd.call15 rfl rfl hs (fun h => rInt_ok q _ LR w hR h) ?_
            rw [hrd1]
            clear hs hR; rintro u w LR ⟨hR, rfl⟩ - hs
            simp only at hR
            refine s_assign rfl rfl ?_
            refine WL_nil ?_
            refine n_then ?_
            refine W_seq ?_
            refine W_region ?_
            refine s_move rfl rfl ?_
            refine s_callL (M := [_]) (L1 := LR) (X := Ln ++ (L9 ++ LX)) Tryd.call17 rfl rfl hs (fun h => rRaw_ok q _ LR w hR h) ?_
            rw [hrd2]
            clear hs hR; rintro u w L0 ⟨LR, Lq, rfl, hR, hOq⟩ - hs
            simp only [List.append_assoc] at hs
            simp only at hR hOq
            refine s_call Tryd.call16 rfl rfl (blDecode_ok hmx e.b heok.good _ e.cl w (hg.st hs (by simp)) (hpm.st hs (by simp)) (OwnS_slIn hOq fun q hq => hs.own q (by simp [hq])) heok.ok heok.len) ?_
            rintro r w ⟨uc, Le, rfl, hOe, hst⟩
            replace hs : St [] w0 w ([(b18, Blk 43 m.cells)] ++ (LR ++ (Le ++ (Ln ++ (L9 ++ LX))))) := St.reord [Le, [_], LR, Lq, Ln, L9, LX] [1, 2, 0, 4, 5, 6] [3] (St.back0 hs hst) rfl
            simp only [List.cons_append, List.nil_append] at hs
            clear hst hOq
            obtain ⟨_, kc, ac, rfl, hvc⟩ := hOe.form
            subst hvc
            refine s_move rfl rfl ?_
            refine s_extract rfl rfl rfl ?_
            refine s_extract rfl rfl rfl ?_
            refine s_alloc rfl AL32 hs ?_; clear hs; intro b22 w hs
            first
              | refine s_storeW Tryd.sizeOf32 rfl rfl rfl rfl hs (kk := 0) rfl rfl ?_
              | refine s_storeW Tryd.sizeOf32 rfl rfl rfl rfl hs (kk := 1) rfl rfl ?_
              | refine s_storeW Tryd.sizeOf32 rfl rfl rfl rfl hs (kk := 2) rfl rfl ?_
              | refine s_storeW Tryd.sizeOf32 rfl rfl rfl rfl hs (kk := 3) rfl rfl ?_
              | refine s_storeAB Tryd.sizeOf32 rfl rfl rfl rfl hs (kk := 0) rfl rfl ?_
              | refine s_storeAB Tryd.sizeOf32 rfl rfl rfl rfl hs (kk := 1) rfl rfl ?_
              | refine s_storeAB Tryd.sizeOf32 rfl rfl rfl rfl hs (kk := 2) rfl rfl ?_
              | refine s_storeAB Tryd.sizeOf32 rfl rfl rfl rfl hs (kk := 3) rfl rfl ?_
            clear hs; intro w hs; try simp only [List.set_cons_zero, List.set_cons_succ, splice, List.take_succ_cons, List.take_zero, List.drop_succ_cons, List.drop_zero, List.nil_append, List.cons_append, List.length_cons, List.length_nil, Nat.reduceAdd, List.append_assoc] at hs
            refine s_assign rfl rfl ?_
            refine WL_nil ?_
            refine n_then ?_
            refine W_seq ?_
            refine W_draw [(0, true, []), (1, false, []), (2, true, []), (3, true, []), (4, true, []), (5, true, []), (6, true, []), (7, true, []), (8, true, []), (9, true, []), (10, true, []), (11, true, []), (12, true, []), (13, true, []), (14, true, []), (15, true, []), (16, true, []), (17, true, []), (18, true, []), (19, true, []), (20, true, []), (21, true, []), (22, true, []), (23, false, []), (24, true, []), (25, true, []), (26, true, []), (27, true, []), (28, true, []), (29, true, []), (30, true, []), (31, true, []), (32, true, []), (33, true, []), (34, true, []), (35, true, []), (36, true, []), (37, true, []), (38, true, []), (39, true, []), (40, true, [])] [[], [0], [0, 1], [0, 1, 2], [0, 1, 2, 3], [0, 1, 2, 3, 4], [0, 1, 2, 3, 4, 5], [0, 1, 2, 3, 4, 5, 6], [0, 1, 2, 3, 4, 5, 6, 7], [0, 1, 2, 3, 4, 5, 6, 7, 8], [0, 1, 2, 3, 4, 5, 6, 7, 8, 9], [0, 1, 2, 3, 4, 5, 6, 7, 8, 9, 10], [0, 1, 2, 3, 4, 5, 6, 7, 8, 9, 10, 11], [0, 1, 2, 3, 4, 5, 6, 7, 8, 9, 10, 11], [0, 1, 2, 3, 4, 5, 6, 7, 8, 9, 10, 11, 13], [0, 1, 2, 3, 4, 5, 6, 7, 8, 9, 10, 11, 12, 13, 14], [0, 1, 2, 3, 4, 5, 6, 7, 8, 9, 10, 11, 12, 13, 14, 15], [0, 1, 2, 3, 4, 5, 6, 7, 8, 9, 10, 11, 12, 13, 14, 15, 16], [0, 1, 2, 3, 4, 5, 6, 7, 8, 9, 10, 11, 12, 13, 14, 15, 16, 17], [0, 1, 2, 3, 4, 5, 6, 7, 8, 9, 10, 11, 12, 13, 14, 15, 16, 17], [0, 1, 2, 3, 4, 5, 6, 7, 8, 9, 10, 11, 12, 13, 14, 15, 16, 17], [0, 1, 2, 3, 4, 5, 6, 7, 8, 9, 10, 11, 12, 13, 14, 15, 16, 17, 19, 20], [0, 1, 2, 3, 4, 5, 6, 7, 8, 9, 10, 11, 12, 13, 14, 15, 16, 17, 19, 20, 21], [0, 1, 2, 3, 4, 5, 6, 7, 8, 9, 10, 11, 12, 13, 14, 15, 16, 17, 18, 19, 20, 21, 22], [0, 1, 2, 3, 4, 5, 6, 7, 8, 9, 10, 11, 12, 13, 14, 15, 16, 17, 18, 19, 20, 21, 22, 23], [0, 1, 2, 3, 4, 5, 6, 7, 8, 9, 10, 11, 12, 13, 14, 15, 16, 17, 18, 19, 20, 21, 22, 23, 24], [0, 1, 2, 3, 4, 5, 6, 7, 8, 9, 10, 11, 12, 13, 14, 15, 16, 17, 18, 19, 20, 21, 22, 23, 24, 25], [0, 1, 2, 3, 4, 5, 6, 7, 8, 9, 10, 11, 12, 13, 14, 15, 16, 17, 18, 19, 20, 21, 22, 23, 24, 25, 26], [0, 1, 2, 3, 4, 5, 6, 7, 8, 9, 10, 11, 12, 13, 14, 15, 16, 17, 18, 19, 20, 21, 22, 23, 24, 25, 26, 27], [0, 1, 2, 3, 4, 5, 6, 7, 8, 9, 10, 11, 12, 13, 14, 15, 16, 17, 18, 19, 20, 21, 22, 23, 24, 25, 26], [0, 1, 2, 3, 4, 5, 6, 7, 8, 9, 10, 11, 12, 13, 14, 15, 16, 17, 18, 19, 20, 21, 22, 23, 24, 25, 26, 29], [0, 1, 2, 3, 4, 5, 6, 7, 8, 9, 10, 11, 12, 13, 14, 15, 16, 17, 18, 19, 20, 21, 22, 23, 24, 25, 26, 27, 28, 29, 30], [0, 1, 2, 3, 4, 5, 6, 7, 8, 9, 10, 11, 12, 13, 14, 15, 16, 17, 18, 19, 20, 21, 22, 23, 24, 25, 26, 27, 28, 29, 30, 31], [0, 1, 2, 3, 4, 5, 6, 7, 8, 9, 10, 11, 12, 13, 14, 15, 16, 17, 18, 19, 20, 21, 22, 23, 24, 25, 26, 27, 28, 29, 30, 31, 32], [0, 1, 2, 3, 4, 5, 6, 7, 8, 9, 10, 11, 12, 13, 14, 15, 16, 17, 18, 19, 20, 21, 22, 23, 24, 25, 26, 27, 28, 29, 30, 31, 32, 33], [0, 1, 2, 3, 4, 5, 6, 7, 8, 9, 10, 11, 12, 13, 14, 15, 16, 17, 18, 19, 20, 21, 22, 23, 24, 25, 26, 27, 28, 29, 30, 31, 32, 33, 34], [0, 1, 2, 3, 4, 5, 6, 7, 8, 9, 10, 11, 12, 13, 14, 15, 16, 17, 18, 19, 20, 21, 22, 23, 24, 25, 26, 27, 28, 29, 30, 31, 32, 33], [0, 1, 2, 3, 4, 5, 6, 7, 8, 9, 10, 11, 12, 13, 14, 15, 16, 17, 18, 19, 20, 21, 22, 23, 24, 25, 26, 27, 28, 29, 30, 31, 32, 33, 36], [0, 1, 2, 3, 4, 5, 6, 7, 8, 9, 10, 11, 12, 13, 14, 15, 16, 17, 18, 19, 20, 21, 22, 23, 24, 25, 26, 27, 28, 29, 30, 31, 32, 33, 36, 37], [0, 1, 2, 3, 4, 5, 6, 7, 8, 9, 10, 11, 12, 13, 14, 15, 16, 17, 18, 19, 20, 21, 22, 23, 24, 25, 26, 27, 28, 29, 30, 31, 32, 33, 34, 35, 36, 37, 38], [0, 1, 2, 3, 4, 5, 6, 7, 8, 9, 10, 11, 12, 13, 14, 15, 16, 17, 18, 19, 20, 21, 22, 23, 24, 25, 26, 27, 28, 29, 30, 31, 32, 33, 34, 35, 36, 37, 38, 39]] MX (by kernel_rfl) ?_
            intro w1 hw1 hw2 hw3 hw4; replace hs := hs.redrawn hw1 hw2 hw3 hw4; clear hw1 hw2 hw3 hw4
            obtain ⟨w, rfl⟩ : ∃ w : World, w = w1 := ⟨_, rfl⟩
            refine D_q rfl rfl ?_
            refine s_move rfl rfl ?_
            refine D_qn ?_
            refine D_e rfl ?_
            refine s_callL (M := [_, _]) (L1 := LR) (X := Le ++ (Ln ++ (L9 ++ LX))) Tryd.call18 rfl rfl hs (fun h => rEnd_ok q _ LR w hR h) ?_
            rw [show rdEnd ⟨[], 0⟩ = 0 from rfl]
            clear hs; rintro u w L0 ⟨hL0, rfl⟩ - hs
            rw [hL0] at hs; clear hL0 L0
            simp only [List.cons_append, List.nil_append] at hs
            refine D_en ?re ?_
            case re =>
              exact Reks_nil
            refine D_q rfl rfl ?_
            refine s_neq rfl rfl rfl ?_
            refine D_qn ?_
            refine D_q rfl rfl ?_
            refine s_move rfl rfl ?_
            refine WL_know (s := 133) (c := false) rfl (rfl) ?_
            refine D_qn ?_
            refine D_q rfl rfl ?_
            refine WL_take rfl ?_
            refine s_move rfl rfl ?_
            refine D_qn ?_
            refine D_q rfl rfl ?_
            refine WL_take rfl ?_
            refine s_neq rfl rfl rfl ?_
            refine D_qn ?_
            refine D_q rfl rfl ?_
            refine s_pick_f rfl rfl rfl ?_
            refine D_qn ?_
            refine D_q rfl rfl ?_
            refine s_move rfl rfl ?_
            refine WL_know (s := 137) (c := false) rfl (rfl) ?_
            refine D_qn ?_
            refine D_q rfl rfl ?_
            refine WL_take rfl ?_
            refine s_move rfl rfl ?_
            refine D_qn ?_
            refine D_q rfl rfl ?_
            refine WL_take rfl ?_
            refine s_lss rfl rfl rfl ?_
            refine D_qn ?_
            refine D_q rfl rfl ?_
            refine s_pick_f rfl rfl rfl ?_
            refine D_qn ?_
            refine D_q rfl rfl ?_
            refine s_move rfl rfl ?_
            refine WL_know (s := 141) (c := false) rfl ((by simp)) ?_
            refine D_qn ?_
            refine D_q rfl rfl ?_
            refine WL_take rfl ?_
            refine s_move rfl rfl ?_
            refine D_qn ?_
            refine D_q rfl rfl ?_
            refine WL_take rfl ?_
            refine s_move rfl rfl ?_
            refine D_qn ?_
            refine D_q rfl rfl ?_
            refine WL_take rfl ?_
            refine s_len rfl rfl (LN27 _ _ _ _) ?_
            refine D_qn ?_
            refine D_q rfl rfl ?_
            refine WL_take rfl ?_
            refine s_geq rfl rfl rfl ?_
            refine D_qn ?_
            refine D_q rfl rfl ?_
            refine s_pick_f rfl rfl rfl ?_
            refine D_qn ?_
            refine D_q rfl rfl ?_
            refine s_move rfl rfl ?_
            refine WL_know (s := 147) (c := false) rfl ((by simp; omega)) ?_
            refine D_qn ?_
            refine D_q rfl rfl ?_
            refine WL_take rfl ?_
            first
              | refine s_loadW Tryd.isAgg32 Tryd.sizeOf32 rfl rfl hs (kk := 0) rfl rfl ?_
              | refine s_loadW Tryd.isAgg32 Tryd.sizeOf32 rfl rfl hs (kk := 1) rfl rfl ?_
              | refine s_loadW Tryd.isAgg32 Tryd.sizeOf32 rfl rfl hs (kk := 2) rfl rfl ?_
              | refine s_loadW Tryd.isAgg32 Tryd.sizeOf32 rfl rfl hs (kk := 3) rfl rfl ?_
              | refine s_load_5 Tryd.isAgg32 Tryd.sizeOf32 rfl rfl (by first | exact hs.cell (k := 0) rfl rfl | exact hs.cell (k := 1) rfl rfl | exact hs.cell (k := 2) rfl rfl | exact hs.cell (k := 3) rfl rfl) (by first | exact hs.cell (k := 0) rfl rfl | exact hs.cell (k := 1) rfl rfl | exact hs.cell (k := 2) rfl rfl | exact hs.cell (k := 3) rfl rfl) (by first | exact hs.cell (k := 0) rfl rfl | exact hs.cell (k := 1) rfl rfl | exact hs.cell (k := 2) rfl rfl | exact hs.cell (k := 3) rfl rfl) (by first | exact hs.cell (k := 0) rfl rfl | exact hs.cell (k := 1) rfl rfl | exact hs.cell (k := 2) rfl rfl | exact hs.cell (k := 3) rfl rfl) (by first | exact hs.cell (k := 0) rfl rfl | exact hs.cell (k := 1) rfl rfl | exact hs.cell (k := 2) rfl rfl | exact hs.cell (k := 3) rfl rfl) ?_
            refine D_qn ?_
            refine D_q rfl rfl ?_
            refine WL_take rfl ?_
            refine s_move rfl rfl ?_
            refine D_qn ?_
            refine D_q rfl rfl ?_
            refine WL_take rfl ?_
            refine s_move rfl rfl ?_
            refine D_qn ?_
            refine D_q rfl rfl ?_
            refine WL_take rfl ?_
            (refine s_indexAddr El27 rfl rfl rfl ?hx ?_; case hx => (constructor <;> omega))
            refine D_qn ?_
            refine D_q rfl rfl ?_
            refine WL_take rfl ?_
            have hpos : (g9, Blk 32 (becells es ++ s9)) ∈ (LR ++ (Le ++ (Ln ++ (L9 ++ LX)))) := by rw [h9L]; simp
            obtain ⟨k9', hk9⟩ := List.getElem?_of_mem (List.mem_cons_of_mem (b22, Blk 32 (e.b.cells (.slice ac e.cl.length kc))) (List.mem_cons_of_mem (b18, Blk 43 m.cells) hpos))
            have cc : ∀ o u, o < 5 → e.cells[o]? = some u → w.cell? ⟨g9, 0 + ((j : Nat) : Int).toNat * 5 + o, none⟩ = some u := fun o u ho hu => hs.cell (k := k9') hk9 (flat_at' BE.cells_length ho he hu)
            refine s_load_5 Tryd.isAgg32 Tryd.sizeOf32 rfl rfl (cc 0 _ (by omega) rfl) (cc 1 _ (by omega) rfl) (cc 2 _ (by omega) rfl) (cc 3 _ (by omega) rfl) (cc 4 _ (by omega) rfl) ?_
            refine D_qn ?_
            refine D_e rfl ?_
            refine WL_take rfl ?_
            refine s_call Tryd.call19 rfl rfl (blEqual_ok e.b _ e.u e.cl w (OwnS_slIn hOe fun q hq => hs.own q (by simp [hq])) (heok.rd w fun q hq => hs.own q (by simp [hq])) (by have := heok.len; omega)) ?_
            rintro r w ⟨hst, rfl⟩
            replace hs := hs.fwd1 hst
            clear hst
            refine D_en ?re ?_
            case re =>
              exact Reks_nil
            refine D_q rfl rfl ?_
            refine WL_take rfl ?_
            refine s_not rfl rfl ?_
            refine D_qn ?_
            refine D_q rfl rfl ?_
            refine s_pick_f rfl rfl rfl ?_
            refine D_qn ?_
            refine D_q rfl rfl ?_
            refine s_move rfl rfl ?_
            refine WL_know (s := 156) (c := false) rfl (rfl) ?_
            refine D_qn ?_
            refine D_q rfl rfl ?_
            refine WL_take rfl ?_
            refine s_fieldAddr rfl rfl (FA43_0 _ _) ?_
            refine D_qn ?_
            refine D_q rfl rfl ?_
            refine WL_take rfl ?_
            first
              | refine s_load Tryd.isAgg3 rfl rfl (hs.cell (k := 0) rfl rfl) ?_
              | refine s_load Tryd.isAgg3 rfl rfl (hs.cell (k := 1) rfl rfl) ?_
              | refine s_load Tryd.isAgg3 rfl rfl (hs.cell (k := 2) rfl rfl) ?_
              | refine s_load Tryd.isAgg3 rfl rfl (hs.cell (k := 3) rfl rfl) ?_
            refine D_qn ?_
            refine D_q rfl rfl ?_
            refine WL_take rfl ?_
            refine s_move rfl rfl ?_
            refine D_qn ?_
            refine D_q rfl rfl ?_
            refine WL_take rfl ?_
            first | (refine s_rem' rfl rfl rfl ?hx ?_; case hx => (refine ⟨?_, ?_⟩ <;> omega)) | (refine s_rem rfl rfl rfl ?hx ?_; case hx => omega)
            refine D_qn ?_
            refine D_q rfl rfl ?_
            refine WL_take rfl ?_
            refine s_neq rfl rfl rfl ?_
            refine D_qn ?_
            refine D_q rfl rfl ?_
            refine s_pick_f rfl rfl rfl ?_
            refine D_qn ?_
            refine D_q rfl rfl ?_
            refine s_move rfl rfl ?_
            refine WL_know (s := 163) (c := false) rfl ((by simp [hf])) ?_
            refine D_qn ?_
            refine D_q rfl rfl ?_
            refine WL_take rfl ?_
            refine s_fieldAddr rfl rfl (FA43_1 _ _) ?_
            refine D_qn ?_
            refine D_q rfl rfl ?_
            refine WL_take rfl ?_
            first
              | refine s_load Tryd.isAgg3 rfl rfl (hs.cell (k := 0) rfl rfl) ?_
              | refine s_load Tryd.isAgg3 rfl rfl (hs.cell (k := 1) rfl rfl) ?_
              | refine s_load Tryd.isAgg3 rfl rfl (hs.cell (k := 2) rfl rfl) ?_
              | refine s_load Tryd.isAgg3 rfl rfl (hs.cell (k := 3) rfl rfl) ?_
            refine D_qn ?_
            refine D_q rfl rfl ?_
            refine WL_take rfl ?_
            refine s_move rfl rfl ?_
            refine D_qn ?_
            refine D_q rfl rfl ?_
            refine WL_take rfl ?_
            first | (refine s_add' rfl rfl rfl ?hx ?_; case hx => (constructor <;> first | omega | (simp only; omega))) | refine s_add rfl rfl rfl ?_
            refine D_qn ?_
            refine D_q rfl rfl ?_
            refine WL_take rfl ?_
            first | (refine s_rem' rfl rfl rfl ?hx ?_; case hx => (refine ⟨?_, ?_⟩ <;> omega)) | (refine s_rem rfl rfl rfl ?hx ?_; case hx => omega)
            refine D_qn ?_
            refine D_q rfl rfl ?_
            refine WL_take rfl ?_
            refine s_neq rfl rfl rfl ?_
            refine D_qn ?_
            refine D_q rfl rfl ?_
            refine s_pick_f rfl rfl rfl ?_
            refine D_qn ?_
            refine D_nil ?_
            refine n_then ?_
            refine W_cond_kf rfl ((by simp [ht])) ?_
            refine W_skip ?_
            refine n_blk ?_
            refine n_then ?_
            refine W_region ?_
            refine s_move rfl rfl ?_
            first | (refine s_add' rfl rfl rfl ?hx ?_; case hx => (constructor <;> first | omega | (simp only; omega))) | refine s_add rfl rfl rfl ?_
            refine s_assign rfl rfl ?_
            refine WL_nil ?_
            refine n_loop ?_
            first
              | exact ⟨⟨i + 1, ms', Ln⟩, ⟨rfl, rfl, rfl, rfl, trivial⟩, ⟨hs, hN, by simp only; omega, by simp only; omega, hMs'⟩, by simp only; omega⟩
              | exact ⟨⟨i + 1, ms, L0⟩, ⟨rfl, rfl, rfl, rfl, trivial⟩, ⟨hs.tail, hN, by simp only; omega, by simp only; omega, hMs⟩, by simp only; omega⟩
              | exact ⟨⟨i + 1, _, Ln⟩, ⟨rfl, rfl, rfl, rfl, trivial⟩, ⟨St.right (M := Le) (St.right (M := LR) hs.tail.tail), hN, by simp only; omega, by simp only; omega, hMs'⟩, by simp only; omega⟩
      · skip
        try simp only [decide_eq_true_eq, decide_eq_false_iff_not, beq_iff_eq, beq_eq_false_iff_ne, ne_eq, bne_iff_ne, bne_eq_false_iff_eq] at hc92
        refine W_exit ?_
        refine x_then ?_
        refine x_then ?_
        refine exit_hit ?_
        refine n_then ?_
        refine W_seq ?_
        refine W_region ?_
        refine s_call Tryd.call20 rfl rfl (lives_ok w) ?_
        rintro r w ⟨hst, rfl⟩
        replace hs := hs.fwd1 hst
        clear hst
        refine s_assign rfl rfl ?_
        refine WL_nil ?_
        refine n_then ?_
        refine W_ret ?_
        exact end1 rfl rfl ⟨hs.fwd, rfl⟩
    · skip
      try simp only [decide_eq_true_eq, decide_eq_false_iff_not, beq_iff_eq, beq_eq_false_iff_ne, ne_eq, bne_iff_ne, bne_eq_false_iff_eq] at hg89
      refine WL_skip rfl rfl rfl ?_
      refine WL_skip rfl rfl rfl ?_
      refine s_pick_f rfl rfl rfl ?_
      refine WL_nil ?_
      refine n_then ?_
      refine W_cond_f rfl ?_
      refine W_exit ?_
      refine x_then ?_
      refine x_then ?_
      refine exit_hit ?_
      refine n_then ?_
      refine W_seq ?_
      refine W_region ?_
      refine s_call Tryd.call20 rfl rfl (lives_ok w) ?_
      rintro r w ⟨hst, rfl⟩
      replace hs := hs.fwd1 hst
      clear hst
      refine s_assign rfl rfl ?_
      refine WL_nil ?_
      refine n_then ?_
      refine W_ret ?_
      exact end1 rfl rfl ⟨hs.fwd, rfl⟩
end Go.Proofs.YtgjjdlgbbgijgaaDoor
