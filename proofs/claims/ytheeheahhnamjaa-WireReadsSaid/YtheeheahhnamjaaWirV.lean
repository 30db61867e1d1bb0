/- Values of all kinds: the generator, writing, reading, comparing. -/
import Derived.Test.YtheeheahhnamjaaWirL
set_option linter.unusedVariables false
set_option linter.unusedSimpArgs false
namespace Go.Proofs.Ytheeheahhnamjaa
open Go.SL
/-- what a value says -/
structure PV where
  kind : Int
  u : Nat
  n : Int
  bs : List Int
  ls : List Int
deriving DecidableEq
/-- a value in memory -/
structure VV where
  p : PV
  bv : Value
  bL : Hp
  lv : Value
  lL : Hp
def VV.cells (x : VV) : List Value := [.int .i64 x.p.kind, .int .u64 (x.p.u : Int), .int .i64 x.p.n, x.bv, x.lv]
def VV.L (x : VV) : Hp := x.bL ++ x.lL
structure PV.ok (p : PV) : Prop where
  hu : p.u < 18446744073709551616
  hn : isI64 p.n
  hb : ∀ b ∈ p.bs, isB b
  hl : ∀ z ∈ p.ls, isI64 z
  hbl : p.bs.length ≤ 4294967296
  hll : p.ls.length ≤ 4294967296
structure VV.ok (x : VV) : Prop where
  p : x.p.ok
  b : RdS x.bv x.p.bs.length (u8s x.p.bs) x.bL
  l : RdS x.lv x.p.ls.length (i64s x.p.ls) x.lL
/-- only the field of its kind is set -/
def PV.norm (p : PV) : Prop := (p.kind = 0 ∧ p.n = 0 ∧ p.bs = [] ∧ p.ls = []) ∨ (p.kind = 1 ∧ p.u = 0 ∧ p.bs = [] ∧ p.ls = []) ∨ (p.kind = 2 ∧ p.u = 0 ∧ (p.n = 0 ∨ p.n = 1) ∧ p.bs = [] ∧ p.ls = []) ∨
  ((p.kind = 3 ∨ p.kind = 4) ∧ p.u = 0 ∧ p.n = 0 ∧ p.ls = []) ∨ (p.kind = 5 ∧ p.u = 0 ∧ p.n = 0 ∧ p.bs = [])
def encV (p : PV) : List Int := if p.kind = 0 then uvar p.u else if p.kind = 1 then uvar (zz p.n) else if p.kind = 2 then [if p.n = 1 then 1 else 0] else if p.kind = 3 ∨ p.kind = 4 then uvar p.bs.length ++ p.bs else uvar p.ls.length ++ encInts p.ls
def rdV (k : Int) (s : RS) : PV × RS := if k = 0 then (⟨k, (rdU s).1, 0, [], []⟩, (rdU s).2) else if k = 1 then (⟨k, 0, (rdI s).1, [], []⟩, (rdI s).2) else if k = 2 then (⟨k, 0, if (rdB s).1 then 1 else 0, [], []⟩, (rdB s).2)
  else if k = 3 ∨ k = 4 then (⟨k, 0, 0, (rdRaw s).1, []⟩, (rdRaw s).2) else (⟨k, 0, 0, [], (rdInts s).1⟩, (rdInts s).2)
theorem bytesOf_strOf {bs : List Int} (h : ∀ b ∈ bs, isB b) : bytesOf (strOf bs) = bs := by
  have key : ∀ (l : List Int) (r : ByteArray), (∀ b ∈ l, isB b) → bytesOf (l.foldl (fun r m => r.push (UInt8.ofNat m.toNat)) r) = bytesOf r ++ l := by
    intro l
    induction l with
    | nil => intro r _; simp
    | cons b l ih =>
      intro r hb
      have h1 := hb b (by simp)
      unfold isB at h1
      rw [List.foldl_cons, ih _ (fun c hc => hb c (List.mem_cons_of_mem _ hc))]
      have : bytesOf (r.push (UInt8.ofNat b.toNat)) = bytesOf r ++ [b] := by
        simp only [bytesOf, ByteArray.push, Array.toList_push, List.map_append, List.map_cons, List.map_nil, List.append_cancel_left_eq, List.cons.injEq, and_true]
        simp only [UInt8.toNat_ofNat']
        omega
      rw [this]; simp
  have := key bs ByteArray.empty h
  rw [strOf, this]; rfl
theorem strOf_size {bs : List Int} (h : ∀ b ∈ bs, isB b) : (strOf bs).size = bs.length := by rw [← bytesOf_length, bytesOf_strOf h]
theorem hp_of {F : List Nat} {w0 w : World} {A B C : Hp} (hs : St F w0 w (A ++ (B ++ C))) : ∀ p ∈ B, w.heap[p.1]? = some p.2 := fun p hp => hs.own p (by simp [hp])
set_option maxHeartbeats 1000000 in
theorem write_ok (p : Nat) (bs : List Int) (x : VV) (L0 : Hp) (w0 : World) (hW : WrAt p bs L0) (hs : St (ids L0) w0 w0 L0) (hx : x.ok) (hown : ∀ q ∈ x.L, w0.heap[q.1]? = some q.2) (hdis : ∀ b ∈ ids x.L, b ∉ ids L0) (hl : bs.length ≤ 4294967296) :
    Ret Try.prog 34 [.pointer (some ⟨p, 0, none⟩), .agg x.cells.toArray].toArray w0 fun r w' => ∃ L', St (ids L0) w0 w' L' ∧ WrAt p (bs ++ encV x.p) L' ∧ r = .tuple #[] := by
  obtain ⟨⟨kind, u, n, xb, xl⟩, bv, bL, lv, lL⟩ := x
  obtain ⟨⟨hu, hn, hbB, hlI, hbl, hll⟩, hb, hlr⟩ := hx
  simp only [VV.L] at hown hdis hu hn hbB hlI hbl hll hb hlr
  have hown1 : ∀ q ∈ bL, w0.heap[q.1]? = some q.2 := fun q hq => hown q (List.mem_append_left _ hq)
  have hown2 : ∀ q ∈ lL, w0.heap[q.1]? = some q.2 := fun q hq => hown q (List.mem_append_right _ hq)
  have hd1 : ∀ b ∈ ids bL, b ∉ ids L0 := fun b h => hdis b (by rw [ids_append]; exact List.mem_append_left _ h)
  have hd2 : ∀ b ∈ ids lL, b ∉ ids L0 := fun b h => hdis b (by rw [ids_append]; exact List.mem_append_right _ h)
  obtain ⟨_, bc, ba, rfl, rfl⟩ := hb.form w0 hown1
  obtain ⟨_, lc, la, rfl, rfl⟩ := hlr.form w0 hown2
  have hsb := hb.sl w0 hown1
  have hsl := hlr.sl w0 hown2
  simp only [VV.cells, encV]
  refine Ret_startL hs fun w hs => ?_
  refine Ret_of Try.func34 rfl Try.ntmps34 rfl ?_
  refine W_seq ?_
  refine W_region ?_
  first | refine s_box rfl rfl hs ?_ | refine s_box1 rfl rfl rfl hs ?_
  clear hs; intro b3 w hs
  refine WL_nil ?_
  refine n_then ?_
  refine W_seq ?_
  refine W_region ?_
  refine s_fieldAddr rfl rfl (FA47_0 _ _) ?_
  first
    | refine s_load Try.isAgg3 rfl rfl (hs.cell (k := 0) rfl rfl) ?_
    | refine s_load Try.isAgg3 rfl rfl (hs.cell (k := 1) rfl rfl) ?_
  refine WL_nil ?_
  refine n_then ?_
  refine W_block ?_
  refine W_seq ?_
  refine W_region ?_
  refine s_eql rfl rfl rfl ?_
  refine s_assign rfl rfl ?_
  refine WL_nil ?_
  refine n_then ?_
  refine W_cond rfl (fun hc10 => ?_) (fun hc10 => ?_)
  · skip
    simp only [beq_iff_eq, beq_eq_false_iff_ne, ne_eq] at hc10
    refine W_region ?_
    refine s_move rfl rfl ?_
    refine s_fieldAddr rfl rfl (FA47_1 _ _) ?_
    first
      | refine s_load Try.isAgg22 rfl rfl (hs.cell (k := 0) rfl rfl) ?_
      | refine s_load Try.isAgg22 rfl rfl (hs.cell (k := 1) rfl rfl) ?_
    refine s_callL (M := [_]) (L1 := L0) (X := []) Try.call12 rfl rfl (by simpa using hs) (fun h => wUint_ok p bs u _ w hW h hu (by omega)) ?_
    clear hs; rintro v w L2 ⟨hW2, rfl⟩ - hs
    simp only [List.append_nil] at hs
    refine WL_nil ?_
    refine n_blk ?_
    refine end0' rfl ⟨_, hs.tail, ?_, rfl⟩
    simp_all
  · skip
    simp only [beq_iff_eq, beq_eq_false_iff_ne, ne_eq] at hc10
    refine W_seq ?_
    refine W_region ?_
    refine s_eql rfl rfl rfl ?_
    refine s_assign rfl rfl ?_
    refine WL_nil ?_
    refine n_then ?_
    refine W_cond rfl (fun hc16 => ?_) (fun hc16 => ?_)
    · skip
      simp only [beq_iff_eq, beq_eq_false_iff_ne, ne_eq] at hc16
      refine W_region ?_
      refine s_move rfl rfl ?_
      refine s_fieldAddr rfl rfl (FA47_2 _ _) ?_
      first
        | refine s_load Try.isAgg3 rfl rfl (hs.cell (k := 0) rfl rfl) ?_
        | refine s_load Try.isAgg3 rfl rfl (hs.cell (k := 1) rfl rfl) ?_
      refine s_callL (M := [_]) (L1 := L0) (X := []) Try.call14 rfl rfl (by simpa using hs) (fun h => wInt_ok p bs n _ w hW h hn (by omega)) ?_
      clear hs; rintro v w L2 ⟨hW2, rfl⟩ - hs
      simp only [List.append_nil] at hs
      refine WL_nil ?_
      refine n_blk ?_
      refine end0' rfl ⟨_, hs.tail, ?_, rfl⟩
      simp_all
    · skip
      simp only [beq_iff_eq, beq_eq_false_iff_ne, ne_eq] at hc16
      refine W_seq ?_
      refine W_region ?_
      refine s_eql rfl rfl rfl ?_
      refine s_assign rfl rfl ?_
      refine WL_nil ?_
      refine n_then ?_
      refine W_cond rfl (fun hc22 => ?_) (fun hc22 => ?_)
      · skip
        simp only [beq_iff_eq, beq_eq_false_iff_ne, ne_eq] at hc22
        refine W_region ?_
        refine s_move rfl rfl ?_
        refine s_fieldAddr rfl rfl (FA47_2 _ _) ?_
        first
          | refine s_load Try.isAgg3 rfl rfl (hs.cell (k := 0) rfl rfl) ?_
          | refine s_load Try.isAgg3 rfl rfl (hs.cell (k := 1) rfl rfl) ?_
        refine s_eql rfl rfl rfl ?_
        refine s_callL (M := [_]) (L1 := L0) (X := []) Try.call15 rfl rfl (by simpa using hs) (fun h => wBool_ok p bs _ _ w hW h (by omega)) ?_
        clear hs; rintro v w L2 ⟨hW2, rfl⟩ - hs
        simp only [List.append_nil, beq_iff_eq] at hs hW2
        refine WL_nil ?_
        refine n_blk ?_
        refine end0' rfl ⟨_, hs.tail, ?_, rfl⟩
        simp_all
      · skip
        simp only [beq_iff_eq, beq_eq_false_iff_ne, ne_eq] at hc22
        refine W_seq ?_
        refine W_region ?_
        refine s_eql rfl rfl rfl ?_
        refine s_assign rfl rfl ?_
        refine WL_nil ?_
        refine n_then ?_
        refine W_cond rfl (fun hc29 => ?_) (fun hc29 => ?_)
        · skip
          simp only [beq_iff_eq, beq_eq_false_iff_ne, ne_eq] at hc29
          refine W_region ?_
          refine s_move rfl rfl ?_
          refine s_fieldAddr rfl rfl (FA47_3 _ _) ?_
          first
            | refine s_load Try.isAgg24 rfl rfl (hs.cell (k := 0) rfl rfl) ?_
            | refine s_load Try.isAgg24 rfl rfl (hs.cell (k := 1) rfl rfl) ?_
          refine s_bytes_str Try.underlying24 Try.underlying5 Try.underlying9 rfl rfl (hsb.fwd hs.fwd (fun a m c h hne => hd1 _ (hb.inL a m c h hne))) rfl ?_
          refine s_callL (M := [_]) (L1 := L0) (X := []) Try.call39 rfl rfl (by simpa using hs) (fun h => wText_ok p bs (strOf xb) _ w hW h (by omega) (by rw [strOf_size hbB]; omega)) ?_
          clear hs; rintro v w L2 ⟨hW2, rfl⟩ - hs
          rw [strOf_size hbB, bytesOf_strOf hbB, List.append_assoc] at hW2
          simp only [List.append_nil] at hs
          refine WL_nil ?_
          refine n_blk ?_
          refine end0' rfl ⟨_, hs.tail, ?_, rfl⟩
          simp_all
        · skip
          simp only [beq_iff_eq, beq_eq_false_iff_ne, ne_eq] at hc29
          refine W_seq ?_
          refine W_region ?_
          refine s_eql rfl rfl rfl ?_
          refine s_assign rfl rfl ?_
          refine WL_nil ?_
          refine n_then ?_
          refine W_cond rfl (fun hc36 => ?_) (fun hc36 => ?_)
          · skip
            simp only [beq_iff_eq, beq_eq_false_iff_ne, ne_eq] at hc36
            refine W_region ?_
            refine s_move rfl rfl ?_
            refine s_fieldAddr rfl rfl (FA47_3 _ _) ?_
            first
              | refine s_load Try.isAgg24 rfl rfl (hs.cell (k := 0) rfl rfl) ?_
              | refine s_load Try.isAgg24 rfl rfl (hs.cell (k := 1) rfl rfl) ?_
            refine s_callL (M := [_]) (L1 := L0) (X := []) Try.call28 rfl rfl (by simpa using hs) (fun h => wRaw_ok p bs xb _ _ w hW h (hsb.fwd hs.fwd (fun a m c h hne => hd1 _ (hb.inL a m c h hne))) (fun a m c h hne => hd1 _ (hb.inL a m c h hne)) (by omega) (by omega)) ?_
            clear hs; rintro v w L2 ⟨hW2, rfl⟩ - hs
            rw [List.append_assoc] at hW2
            simp only [List.append_nil] at hs
            refine WL_nil ?_
            refine n_blk ?_
            refine end0' rfl ⟨_, hs.tail, ?_, rfl⟩
            simp_all
          · skip
            simp only [beq_iff_eq, beq_eq_false_iff_ne, ne_eq] at hc36
            refine W_region ?_
            refine s_move rfl rfl ?_
            refine s_fieldAddr rfl rfl (FA47_4 _ _) ?_
            first
              | refine s_load Try.isAgg33 rfl rfl (hs.cell (k := 0) rfl rfl) ?_
              | refine s_load Try.isAgg33 rfl rfl (hs.cell (k := 1) rfl rfl) ?_
            refine s_callL (M := [_]) (L1 := L0) (X := []) Try.call29 rfl rfl (by simpa using hs) (fun h => wInts_ok p bs xl _ _ w hW h (hsl.fwd hs.fwd (fun a m c h hne => hd2 _ (hlr.inL a m c h hne))) hlI (fun a m c h hne => hd2 _ (hlr.inL a m c h hne)) (by omega) (by omega)) ?_
            clear hs; rintro v w L2 ⟨hW2, rfl⟩ - hs
            rw [List.append_assoc] at hW2
            simp only [List.append_nil] at hs
            refine WL_nil ?_
            refine n_blk ?_
            refine end0' rfl ⟨_, hs.tail, ?_, rfl⟩
            simp_all
set_option maxHeartbeats 1000000 in
theorem rread_ok (p : Nat) (s : RS) (k : Int) (L0 : Hp) (w0 : World) (hR : RdAt p s L0) (hs : St (ids L0) w0 w0 L0) :
    Ret Try.prog 23 [.pointer (some ⟨p, 0, none⟩), .int .i64 k].toArray w0 fun r w' => ∃ L', St (ids L0) w0 w' L' ∧ ∃ (LR : Hp) (x : VV), L' = LR ++ x.L ∧ r = .agg x.cells.toArray ∧ RdAt p (rdV k s).2 LR ∧ x.p = (rdV k s).1 ∧ x.ok := by
  refine Ret_startL hs fun w hs => ?_
  refine Ret_of Try.func23 rfl Try.ntmps23 rfl ?_
  refine W_seq ?_
  refine W_region ?_
  refine s_alloc rfl AL47 hs ?_; clear hs; intro b4 w hs
  refine WL_nil ?_
  refine n_then ?_
  refine W_seq ?_
  refine W_region ?_
  refine s_move rfl rfl ?_
  refine s_build rfl rfl (BD47_0 _) ?_
  refine s_alloc rfl AL47 hs ?_; clear hs; intro b5 w hs
  first
    | refine s_storeW Try.sizeOf47 rfl rfl rfl rfl hs (kk := 0) rfl rfl ?_
    | refine s_storeW Try.sizeOf47 rfl rfl rfl rfl hs (kk := 1) rfl rfl ?_
    | refine s_storeW Try.sizeOf47 rfl rfl rfl rfl hs (kk := 2) rfl rfl ?_
    | refine s_storeAB Try.sizeOf47 rfl rfl rfl rfl hs (kk := 0) rfl rfl ?_
    | refine s_storeAB Try.sizeOf47 rfl rfl rfl rfl hs (kk := 1) rfl rfl ?_
    | refine s_storeAB Try.sizeOf47 rfl rfl rfl rfl hs (kk := 2) rfl rfl ?_
  clear hs; intro w hs; try simp only [List.set_cons_zero, List.set_cons_succ, splice, List.take_succ_cons, List.take_zero, List.drop_succ_cons, List.drop_zero, List.nil_append, List.cons_append, List.length_cons, List.length_nil, Nat.reduceAdd, List.append_assoc] at hs
  refine WL_nil ?_
  refine n_then ?_
  refine W_seq ?_
  refine W_seq ?_
  refine W_region ?_
  refine s_move rfl rfl ?_
  refine WL_nil ?_
  refine n_then ?_
  refine W_block ?_
  refine W_seq ?_
  refine W_region ?_
  refine s_eql rfl rfl rfl ?_
  refine s_assign rfl rfl ?_
  refine WL_nil ?_
  refine n_then ?_
  refine W_cond rfl (fun hc12 => ?_) (fun hc12 => ?_)
  · skip
    try simp only [beq_iff_eq, beq_eq_false_iff_ne, ne_eq] at hc12
    refine W_region ?_
    refine s_move rfl rfl ?_
    have hm := rdU_lt (s := s) (fun h => (hR.isB h).1)
    refine s_callL (M := [_, _]) (L1 := L0) (X := []) Try.call40 rfl rfl (by simpa using hs) (fun h => rUint_ok p s _ w hR h) ?_
    clear hs; rintro v w L2 ⟨hR2, rfl⟩ - hs
    simp only [List.append_nil, List.cons_append, List.nil_append] at hs
    refine s_fieldAddr rfl rfl (FA47_1 _ _) ?_
    first
      | refine s_storeB Try.sizeOf22 rfl rfl rfl hs (kk := 0) rfl rfl ?_
      | refine s_storeB Try.sizeOf22 rfl rfl rfl hs (kk := 1) rfl rfl ?_
      | refine s_storeB Try.sizeOf22 rfl rfl rfl hs (kk := 2) rfl rfl ?_
    clear hs; intro w hs; try simp only [List.set_cons_zero, List.set_cons_succ, splice, List.take_succ_cons, List.take_zero, List.drop_succ_cons, List.drop_zero, List.nil_append, List.cons_append, List.length_cons, List.length_nil, Nat.reduceAdd, List.append_assoc] at hs
    refine WL_nil ?_
    refine n_blk ?_
    refine n_then ?_
    refine W_seq ?_
    refine W_region ?_
    first
      | refine s_loadW Try.isAgg47 Try.sizeOf47 rfl rfl hs (kk := 0) rfl rfl ?_
      | refine s_loadW Try.isAgg47 Try.sizeOf47 rfl rfl hs (kk := 1) rfl rfl ?_
      | refine s_loadW Try.isAgg47 Try.sizeOf47 rfl rfl hs (kk := 2) rfl rfl ?_
      | refine s_load_5 Try.isAgg47 Try.sizeOf47 rfl rfl (by first | exact hs.cell (k := 0) rfl rfl | exact hs.cell (k := 1) rfl rfl | exact hs.cell (k := 2) rfl rfl) (by first | exact hs.cell (k := 0) rfl rfl | exact hs.cell (k := 1) rfl rfl | exact hs.cell (k := 2) rfl rfl) (by first | exact hs.cell (k := 0) rfl rfl | exact hs.cell (k := 1) rfl rfl | exact hs.cell (k := 2) rfl rfl) (by first | exact hs.cell (k := 0) rfl rfl | exact hs.cell (k := 1) rfl rfl | exact hs.cell (k := 2) rfl rfl) (by first | exact hs.cell (k := 0) rfl rfl | exact hs.cell (k := 1) rfl rfl | exact hs.cell (k := 2) rfl rfl) ?_
    first
      | refine s_storeW Try.sizeOf47 rfl rfl rfl rfl hs (kk := 0) rfl rfl ?_
      | refine s_storeW Try.sizeOf47 rfl rfl rfl rfl hs (kk := 1) rfl rfl ?_
      | refine s_storeW Try.sizeOf47 rfl rfl rfl rfl hs (kk := 2) rfl rfl ?_
      | refine s_storeAB Try.sizeOf47 rfl rfl rfl rfl hs (kk := 0) rfl rfl ?_
      | refine s_storeAB Try.sizeOf47 rfl rfl rfl rfl hs (kk := 1) rfl rfl ?_
      | refine s_storeAB Try.sizeOf47 rfl rfl rfl rfl hs (kk := 2) rfl rfl ?_
    clear hs; intro w hs; try simp only [List.set_cons_zero, List.set_cons_succ, splice, List.take_succ_cons, List.take_zero, List.drop_succ_cons, List.drop_zero, List.nil_append, List.cons_append, List.length_cons, List.length_nil, Nat.reduceAdd, List.append_assoc] at hs
    refine WL_nil ?_
    refine n_then ?_
    refine W_ret ?_
    first
      | (refine end1 rfl (resOk_block Try.isAgg47 Try.sizeOf47 hs rfl (kk := 2) rfl rfl) ?_
         have hk3 : k = 3 := ‹_›
         have hV : rdV k s = (⟨k, 0, 0, (rdRaw s).1, []⟩, (rdRaw s).2) := by rw [rdV, if_neg (by omega), if_neg (by omega), if_neg (by omega), if_pos (by omega)]
         have hmem := rdRaw_mem (s := s) (N := 4294967296) (fun h => hR.isB h)
         rw [hV]
         refine ⟨_, St.swap (A := [_]) (B := L2) (by have := St.reord [[(b31, o31)], [_], [_], L2] [0, 3] [1, 2] hs rfl; simpa [cat] using this), L2, ⟨⟨k, 0, 0, (rdRaw s).1, []⟩, .slice (some ⟨b31, 0, none⟩) (strOf (rdRaw s).1).size c31, [(b31, o31)], .slice none 0 0, []⟩, rfl, rfl, hR2, rfl, ⟨⟨by simp, by unfold isI64; simp, hmem.1, by simp, hmem.2, by simp⟩, ?_, RdS.nil⟩⟩
         rw [strOf_size hmem.1, ← u8s_bytesOf, bytesOf_strOf hmem.1] at hrd
         simp only
         rw [strOf_size hmem.1]; exact hrd)
      | (refine end1 rfl (resOk_block Try.isAgg47 Try.sizeOf47 hs rfl (kk := 1) rfl rfl) ?_
         first
           | (have hV : rdV k s = (⟨k, (rdU s).1, 0, [], []⟩, (rdU s).2) := by rw [rdV, if_pos ‹_›]
              rw [hV]
              exact ⟨_, hs.tail.tail, L2, ⟨⟨k, (rdU s).1, 0, [], []⟩, .slice none 0 0, [], .slice none 0 0, []⟩, by simp [VV.L], rfl, hR2, rfl, ⟨⟨hm, by unfold isI64; simp, by simp, by simp, by simp, by simp⟩, RdS.nil, RdS.nil⟩⟩)
           | (have hV : rdV k s = (⟨k, 0, (rdI s).1, [], []⟩, (rdI s).2) := by rw [rdV, if_neg (by omega), if_pos ‹_›]
              rw [hV]
              exact ⟨_, hs.tail.tail, L2, ⟨⟨k, 0, (rdI s).1, [], []⟩, .slice none 0 0, [], .slice none 0 0, []⟩, by simp [VV.L], rfl, hR2, rfl, ⟨⟨by simp, unzz_in hm, by simp, by simp, by simp, by simp⟩, RdS.nil, RdS.nil⟩⟩)
           | (have hV : rdV k s = (⟨k, 0, if (rdB s).1 then 1 else 0, [], []⟩, (rdB s).2) := by rw [rdV, if_neg (by omega), if_neg (by omega), if_pos ‹_›]
              rw [hV]
              refine ⟨_, hs.tail.tail, L2, ⟨⟨k, 0, if (rdB s).1 then 1 else 0, [], []⟩, .slice none 0 0, [], .slice none 0 0, []⟩, by simp [VV.L], ?_, hR2, rfl, ⟨⟨by simp, by unfold isI64; split <;> simp, by simp, by simp, by simp, by simp⟩, RdS.nil, RdS.nil⟩⟩
              simp only [VV.cells, hc25]; rfl)
           | (have hk4 : k = 4 := ‹_›
              have hV : rdV k s = (⟨k, 0, 0, (rdRaw s).1, []⟩, (rdRaw s).2) := by rw [rdV, if_neg (by omega), if_neg (by omega), if_neg (by omega), if_pos (by omega)]
              have hmem := rdRaw_mem (s := s) (N := 4294967296) (fun h => hR.isB h)
              rw [hV]
              exact ⟨_, hs.tail.tail, LR, ⟨⟨k, 0, 0, (rdRaw s).1, []⟩, .slice va (rdRaw s).1.length vc, Lr, .slice none 0 0, []⟩, by simp [VV.L], rfl, hR2, rfl, ⟨⟨by simp, by unfold isI64; simp, hmem.1, by simp, hmem.2, by simp⟩, hOr.rdS, RdS.nil⟩⟩)
           | (have hV : rdV k s = (⟨k, 0, 0, [], (rdInts s).1⟩, (rdInts s).2) := by rw [rdV, if_neg (by omega), if_neg (by omega), if_neg (by omega), if_neg (by omega)]
              have hmem := rdInts_mem (s := s) (N := 4294967296) (fun h => hR.isB h)
              rw [hV]
              exact ⟨_, hs.tail.tail, LR, ⟨⟨k, 0, 0, [], (rdInts s).1⟩, .slice none 0 0, [], .slice va (rdInts s).1.length vc, Lr⟩, by simp [VV.L], rfl, hR2, rfl, ⟨⟨by simp, by unfold isI64; simp, by simp, hmem.1, by simp, hmem.2⟩, RdS.nil, hOr.rdS⟩⟩))
  · skip
    try simp only [beq_iff_eq, beq_eq_false_iff_ne, ne_eq] at hc12
    refine W_seq ?_
    refine W_region ?_
    refine s_eql rfl rfl rfl ?_
    refine s_assign rfl rfl ?_
    refine WL_nil ?_
    refine n_then ?_
    refine W_cond rfl (fun hc17 => ?_) (fun hc17 => ?_)
    · skip
      try simp only [beq_iff_eq, beq_eq_false_iff_ne, ne_eq] at hc17
      refine W_region ?_
      refine s_move rfl rfl ?_
      have hm := rdU_lt (s := s) (fun h => (hR.isB h).1)
      refine s_callL (M := [_, _]) (L1 := L0) (X := []) Try.call41 rfl rfl (by simpa using hs) (fun h => rInt_ok p s _ w hR h) ?_
      clear hs; rintro v w L2 ⟨hR2, rfl⟩ - hs
      simp only [List.append_nil, List.cons_append, List.nil_append] at hs
      refine s_fieldAddr rfl rfl (FA47_2 _ _) ?_
      first
        | refine s_storeB Try.sizeOf3 rfl rfl rfl hs (kk := 0) rfl rfl ?_
        | refine s_storeB Try.sizeOf3 rfl rfl rfl hs (kk := 1) rfl rfl ?_
        | refine s_storeB Try.sizeOf3 rfl rfl rfl hs (kk := 2) rfl rfl ?_
      clear hs; intro w hs; try simp only [List.set_cons_zero, List.set_cons_succ, splice, List.take_succ_cons, List.take_zero, List.drop_succ_cons, List.drop_zero, List.nil_append, List.cons_append, List.length_cons, List.length_nil, Nat.reduceAdd, List.append_assoc] at hs
      refine WL_nil ?_
      refine n_blk ?_
      refine n_then ?_
      refine W_seq ?_
      refine W_region ?_
      first
        | refine s_loadW Try.isAgg47 Try.sizeOf47 rfl rfl hs (kk := 0) rfl rfl ?_
        | refine s_loadW Try.isAgg47 Try.sizeOf47 rfl rfl hs (kk := 1) rfl rfl ?_
        | refine s_loadW Try.isAgg47 Try.sizeOf47 rfl rfl hs (kk := 2) rfl rfl ?_
        | refine s_load_5 Try.isAgg47 Try.sizeOf47 rfl rfl (by first | exact hs.cell (k := 0) rfl rfl | exact hs.cell (k := 1) rfl rfl | exact hs.cell (k := 2) rfl rfl) (by first | exact hs.cell (k := 0) rfl rfl | exact hs.cell (k := 1) rfl rfl | exact hs.cell (k := 2) rfl rfl) (by first | exact hs.cell (k := 0) rfl rfl | exact hs.cell (k := 1) rfl rfl | exact hs.cell (k := 2) rfl rfl) (by first | exact hs.cell (k := 0) rfl rfl | exact hs.cell (k := 1) rfl rfl | exact hs.cell (k := 2) rfl rfl) (by first | exact hs.cell (k := 0) rfl rfl | exact hs.cell (k := 1) rfl rfl | exact hs.cell (k := 2) rfl rfl) ?_
      first
        | refine s_storeW Try.sizeOf47 rfl rfl rfl rfl hs (kk := 0) rfl rfl ?_
        | refine s_storeW Try.sizeOf47 rfl rfl rfl rfl hs (kk := 1) rfl rfl ?_
        | refine s_storeW Try.sizeOf47 rfl rfl rfl rfl hs (kk := 2) rfl rfl ?_
        | refine s_storeAB Try.sizeOf47 rfl rfl rfl rfl hs (kk := 0) rfl rfl ?_
        | refine s_storeAB Try.sizeOf47 rfl rfl rfl rfl hs (kk := 1) rfl rfl ?_
        | refine s_storeAB Try.sizeOf47 rfl rfl rfl rfl hs (kk := 2) rfl rfl ?_
      clear hs; intro w hs; try simp only [List.set_cons_zero, List.set_cons_succ, splice, List.take_succ_cons, List.take_zero, List.drop_succ_cons, List.drop_zero, List.nil_append, List.cons_append, List.length_cons, List.length_nil, Nat.reduceAdd, List.append_assoc] at hs
      refine WL_nil ?_
      refine n_then ?_
      refine W_ret ?_
      first
        | (refine end1 rfl (resOk_block Try.isAgg47 Try.sizeOf47 hs rfl (kk := 2) rfl rfl) ?_
           have hk3 : k = 3 := ‹_›
           have hV : rdV k s = (⟨k, 0, 0, (rdRaw s).1, []⟩, (rdRaw s).2) := by rw [rdV, if_neg (by omega), if_neg (by omega), if_neg (by omega), if_pos (by omega)]
           have hmem := rdRaw_mem (s := s) (N := 4294967296) (fun h => hR.isB h)
           rw [hV]
           refine ⟨_, St.swap (A := [_]) (B := L2) (by have := St.reord [[(b31, o31)], [_], [_], L2] [0, 3] [1, 2] hs rfl; simpa [cat] using this), L2, ⟨⟨k, 0, 0, (rdRaw s).1, []⟩, .slice (some ⟨b31, 0, none⟩) (strOf (rdRaw s).1).size c31, [(b31, o31)], .slice none 0 0, []⟩, rfl, rfl, hR2, rfl, ⟨⟨by simp, by unfold isI64; simp, hmem.1, by simp, hmem.2, by simp⟩, ?_, RdS.nil⟩⟩
           rw [strOf_size hmem.1, ← u8s_bytesOf, bytesOf_strOf hmem.1] at hrd
           simp only
           rw [strOf_size hmem.1]; exact hrd)
        | (refine end1 rfl (resOk_block Try.isAgg47 Try.sizeOf47 hs rfl (kk := 1) rfl rfl) ?_
           first
             | (have hV : rdV k s = (⟨k, (rdU s).1, 0, [], []⟩, (rdU s).2) := by rw [rdV, if_pos ‹_›]
                rw [hV]
                exact ⟨_, hs.tail.tail, L2, ⟨⟨k, (rdU s).1, 0, [], []⟩, .slice none 0 0, [], .slice none 0 0, []⟩, by simp [VV.L], rfl, hR2, rfl, ⟨⟨hm, by unfold isI64; simp, by simp, by simp, by simp, by simp⟩, RdS.nil, RdS.nil⟩⟩)
             | (have hV : rdV k s = (⟨k, 0, (rdI s).1, [], []⟩, (rdI s).2) := by rw [rdV, if_neg (by omega), if_pos ‹_›]
                rw [hV]
                exact ⟨_, hs.tail.tail, L2, ⟨⟨k, 0, (rdI s).1, [], []⟩, .slice none 0 0, [], .slice none 0 0, []⟩, by simp [VV.L], rfl, hR2, rfl, ⟨⟨by simp, unzz_in hm, by simp, by simp, by simp, by simp⟩, RdS.nil, RdS.nil⟩⟩)
             | (have hV : rdV k s = (⟨k, 0, if (rdB s).1 then 1 else 0, [], []⟩, (rdB s).2) := by rw [rdV, if_neg (by omega), if_neg (by omega), if_pos ‹_›]
                rw [hV]
                refine ⟨_, hs.tail.tail, L2, ⟨⟨k, 0, if (rdB s).1 then 1 else 0, [], []⟩, .slice none 0 0, [], .slice none 0 0, []⟩, by simp [VV.L], ?_, hR2, rfl, ⟨⟨by simp, by unfold isI64; split <;> simp, by simp, by simp, by simp, by simp⟩, RdS.nil, RdS.nil⟩⟩
                simp only [VV.cells, hc25]; rfl)
             | (have hk4 : k = 4 := ‹_›
                have hV : rdV k s = (⟨k, 0, 0, (rdRaw s).1, []⟩, (rdRaw s).2) := by rw [rdV, if_neg (by omega), if_neg (by omega), if_neg (by omega), if_pos (by omega)]
                have hmem := rdRaw_mem (s := s) (N := 4294967296) (fun h => hR.isB h)
                rw [hV]
                exact ⟨_, hs.tail.tail, LR, ⟨⟨k, 0, 0, (rdRaw s).1, []⟩, .slice va (rdRaw s).1.length vc, Lr, .slice none 0 0, []⟩, by simp [VV.L], rfl, hR2, rfl, ⟨⟨by simp, by unfold isI64; simp, hmem.1, by simp, hmem.2, by simp⟩, hOr.rdS, RdS.nil⟩⟩)
             | (have hV : rdV k s = (⟨k, 0, 0, [], (rdInts s).1⟩, (rdInts s).2) := by rw [rdV, if_neg (by omega), if_neg (by omega), if_neg (by omega), if_neg (by omega)]
                have hmem := rdInts_mem (s := s) (N := 4294967296) (fun h => hR.isB h)
                rw [hV]
                exact ⟨_, hs.tail.tail, LR, ⟨⟨k, 0, 0, [], (rdInts s).1⟩, .slice none 0 0, [], .slice va (rdInts s).1.length vc, Lr⟩, by simp [VV.L], rfl, hR2, rfl, ⟨⟨by simp, by unfold isI64; simp, by simp, hmem.1, by simp, hmem.2⟩, RdS.nil, hOr.rdS⟩⟩))
    · skip
      try simp only [beq_iff_eq, beq_eq_false_iff_ne, ne_eq] at hc17
      refine W_seq ?_
      refine W_region ?_
      refine s_eql rfl rfl rfl ?_
      refine s_assign rfl rfl ?_
      refine WL_nil ?_
      refine n_then ?_
      refine W_cond rfl (fun hc22 => ?_) (fun hc22 => ?_)
      · skip
        try simp only [beq_iff_eq, beq_eq_false_iff_ne, ne_eq] at hc22
        refine W_seq ?_
        refine W_region ?_
        refine s_move rfl rfl ?_
        refine s_callL (M := [_, _]) (L1 := L0) (X := []) Try.call48 rfl rfl (by simpa using hs) (fun h => rBool_ok p s _ w hR h) ?_
        clear hs; rintro v w L2 ⟨hR2, rfl⟩ - hs
        simp only [List.append_nil, List.cons_append, List.nil_append] at hs
        refine WL_nil ?_
        refine n_then ?_
        refine W_cond rfl (fun hc25 => ?_) (fun hc25 => ?_)
        · skip
          try simp only [beq_iff_eq, beq_eq_false_iff_ne, ne_eq] at hc25
          refine W_region ?_
          refine s_fieldAddr rfl rfl (FA47_2 _ _) ?_
          first
            | refine s_storeB Try.sizeOf3 rfl rfl rfl hs (kk := 0) rfl rfl ?_
            | refine s_storeB Try.sizeOf3 rfl rfl rfl hs (kk := 1) rfl rfl ?_
            | refine s_storeB Try.sizeOf3 rfl rfl rfl hs (kk := 2) rfl rfl ?_
          clear hs; intro w hs; try simp only [List.set_cons_zero, List.set_cons_succ, splice, List.take_succ_cons, List.take_zero, List.drop_succ_cons, List.drop_zero, List.nil_append, List.cons_append, List.length_cons, List.length_nil, Nat.reduceAdd, List.append_assoc] at hs
          refine WL_nil ?_
          refine n_blk ?_
          refine n_then ?_
          refine W_seq ?_
          refine W_region ?_
          first
            | refine s_loadW Try.isAgg47 Try.sizeOf47 rfl rfl hs (kk := 0) rfl rfl ?_
            | refine s_loadW Try.isAgg47 Try.sizeOf47 rfl rfl hs (kk := 1) rfl rfl ?_
            | refine s_loadW Try.isAgg47 Try.sizeOf47 rfl rfl hs (kk := 2) rfl rfl ?_
            | refine s_load_5 Try.isAgg47 Try.sizeOf47 rfl rfl (by first | exact hs.cell (k := 0) rfl rfl | exact hs.cell (k := 1) rfl rfl | exact hs.cell (k := 2) rfl rfl) (by first | exact hs.cell (k := 0) rfl rfl | exact hs.cell (k := 1) rfl rfl | exact hs.cell (k := 2) rfl rfl) (by first | exact hs.cell (k := 0) rfl rfl | exact hs.cell (k := 1) rfl rfl | exact hs.cell (k := 2) rfl rfl) (by first | exact hs.cell (k := 0) rfl rfl | exact hs.cell (k := 1) rfl rfl | exact hs.cell (k := 2) rfl rfl) (by first | exact hs.cell (k := 0) rfl rfl | exact hs.cell (k := 1) rfl rfl | exact hs.cell (k := 2) rfl rfl) ?_
          first
            | refine s_storeW Try.sizeOf47 rfl rfl rfl rfl hs (kk := 0) rfl rfl ?_
            | refine s_storeW Try.sizeOf47 rfl rfl rfl rfl hs (kk := 1) rfl rfl ?_
            | refine s_storeW Try.sizeOf47 rfl rfl rfl rfl hs (kk := 2) rfl rfl ?_
            | refine s_storeAB Try.sizeOf47 rfl rfl rfl rfl hs (kk := 0) rfl rfl ?_
            | refine s_storeAB Try.sizeOf47 rfl rfl rfl rfl hs (kk := 1) rfl rfl ?_
            | refine s_storeAB Try.sizeOf47 rfl rfl rfl rfl hs (kk := 2) rfl rfl ?_
          clear hs; intro w hs; try simp only [List.set_cons_zero, List.set_cons_succ, splice, List.take_succ_cons, List.take_zero, List.drop_succ_cons, List.drop_zero, List.nil_append, List.cons_append, List.length_cons, List.length_nil, Nat.reduceAdd, List.append_assoc] at hs
          refine WL_nil ?_
          refine n_then ?_
          refine W_ret ?_
          first
            | (refine end1 rfl (resOk_block Try.isAgg47 Try.sizeOf47 hs rfl (kk := 2) rfl rfl) ?_
               have hk3 : k = 3 := ‹_›
               have hV : rdV k s = (⟨k, 0, 0, (rdRaw s).1, []⟩, (rdRaw s).2) := by rw [rdV, if_neg (by omega), if_neg (by omega), if_neg (by omega), if_pos (by omega)]
               have hmem := rdRaw_mem (s := s) (N := 4294967296) (fun h => hR.isB h)
               rw [hV]
               refine ⟨_, St.swap (A := [_]) (B := L2) (by have := St.reord [[(b31, o31)], [_], [_], L2] [0, 3] [1, 2] hs rfl; simpa [cat] using this), L2, ⟨⟨k, 0, 0, (rdRaw s).1, []⟩, .slice (some ⟨b31, 0, none⟩) (strOf (rdRaw s).1).size c31, [(b31, o31)], .slice none 0 0, []⟩, rfl, rfl, hR2, rfl, ⟨⟨by simp, by unfold isI64; simp, hmem.1, by simp, hmem.2, by simp⟩, ?_, RdS.nil⟩⟩
               rw [strOf_size hmem.1, ← u8s_bytesOf, bytesOf_strOf hmem.1] at hrd
               simp only
               rw [strOf_size hmem.1]; exact hrd)
            | (refine end1 rfl (resOk_block Try.isAgg47 Try.sizeOf47 hs rfl (kk := 1) rfl rfl) ?_
               first
                 | (have hV : rdV k s = (⟨k, (rdU s).1, 0, [], []⟩, (rdU s).2) := by rw [rdV, if_pos ‹_›]
                    rw [hV]
                    exact ⟨_, hs.tail.tail, L2, ⟨⟨k, (rdU s).1, 0, [], []⟩, .slice none 0 0, [], .slice none 0 0, []⟩, by simp [VV.L], rfl, hR2, rfl, ⟨⟨hm, by unfold isI64; simp, by simp, by simp, by simp, by simp⟩, RdS.nil, RdS.nil⟩⟩)
                 | (have hV : rdV k s = (⟨k, 0, (rdI s).1, [], []⟩, (rdI s).2) := by rw [rdV, if_neg (by omega), if_pos ‹_›]
                    rw [hV]
                    exact ⟨_, hs.tail.tail, L2, ⟨⟨k, 0, (rdI s).1, [], []⟩, .slice none 0 0, [], .slice none 0 0, []⟩, by simp [VV.L], rfl, hR2, rfl, ⟨⟨by simp, unzz_in hm, by simp, by simp, by simp, by simp⟩, RdS.nil, RdS.nil⟩⟩)
                 | (have hV : rdV k s = (⟨k, 0, if (rdB s).1 then 1 else 0, [], []⟩, (rdB s).2) := by rw [rdV, if_neg (by omega), if_neg (by omega), if_pos ‹_›]
                    rw [hV]
                    refine ⟨_, hs.tail.tail, L2, ⟨⟨k, 0, if (rdB s).1 then 1 else 0, [], []⟩, .slice none 0 0, [], .slice none 0 0, []⟩, by simp [VV.L], ?_, hR2, rfl, ⟨⟨by simp, by unfold isI64; split <;> simp, by simp, by simp, by simp, by simp⟩, RdS.nil, RdS.nil⟩⟩
                    simp only [VV.cells, hc25]; rfl)
                 | (have hk4 : k = 4 := ‹_›
                    have hV : rdV k s = (⟨k, 0, 0, (rdRaw s).1, []⟩, (rdRaw s).2) := by rw [rdV, if_neg (by omega), if_neg (by omega), if_neg (by omega), if_pos (by omega)]
                    have hmem := rdRaw_mem (s := s) (N := 4294967296) (fun h => hR.isB h)
                    rw [hV]
                    exact ⟨_, hs.tail.tail, LR, ⟨⟨k, 0, 0, (rdRaw s).1, []⟩, .slice va (rdRaw s).1.length vc, Lr, .slice none 0 0, []⟩, by simp [VV.L], rfl, hR2, rfl, ⟨⟨by simp, by unfold isI64; simp, hmem.1, by simp, hmem.2, by simp⟩, hOr.rdS, RdS.nil⟩⟩)
                 | (have hV : rdV k s = (⟨k, 0, 0, [], (rdInts s).1⟩, (rdInts s).2) := by rw [rdV, if_neg (by omega), if_neg (by omega), if_neg (by omega), if_neg (by omega)]
                    have hmem := rdInts_mem (s := s) (N := 4294967296) (fun h => hR.isB h)
                    rw [hV]
                    exact ⟨_, hs.tail.tail, LR, ⟨⟨k, 0, 0, [], (rdInts s).1⟩, .slice none 0 0, [], .slice va (rdInts s).1.length vc, Lr⟩, by simp [VV.L], rfl, hR2, rfl, ⟨⟨by simp, by unfold isI64; simp, by simp, hmem.1, by simp, hmem.2⟩, RdS.nil, hOr.rdS⟩⟩))
        · skip
          try simp only [beq_iff_eq, beq_eq_false_iff_ne, ne_eq] at hc25
          refine W_skip ?_
          refine n_blk ?_
          refine n_then ?_
          refine W_seq ?_
          refine W_region ?_
          first
            | refine s_loadW Try.isAgg47 Try.sizeOf47 rfl rfl hs (kk := 0) rfl rfl ?_
            | refine s_loadW Try.isAgg47 Try.sizeOf47 rfl rfl hs (kk := 1) rfl rfl ?_
            | refine s_loadW Try.isAgg47 Try.sizeOf47 rfl rfl hs (kk := 2) rfl rfl ?_
            | refine s_load_5 Try.isAgg47 Try.sizeOf47 rfl rfl (by first | exact hs.cell (k := 0) rfl rfl | exact hs.cell (k := 1) rfl rfl | exact hs.cell (k := 2) rfl rfl) (by first | exact hs.cell (k := 0) rfl rfl | exact hs.cell (k := 1) rfl rfl | exact hs.cell (k := 2) rfl rfl) (by first | exact hs.cell (k := 0) rfl rfl | exact hs.cell (k := 1) rfl rfl | exact hs.cell (k := 2) rfl rfl) (by first | exact hs.cell (k := 0) rfl rfl | exact hs.cell (k := 1) rfl rfl | exact hs.cell (k := 2) rfl rfl) (by first | exact hs.cell (k := 0) rfl rfl | exact hs.cell (k := 1) rfl rfl | exact hs.cell (k := 2) rfl rfl) ?_
          first
            | refine s_storeW Try.sizeOf47 rfl rfl rfl rfl hs (kk := 0) rfl rfl ?_
            | refine s_storeW Try.sizeOf47 rfl rfl rfl rfl hs (kk := 1) rfl rfl ?_
            | refine s_storeW Try.sizeOf47 rfl rfl rfl rfl hs (kk := 2) rfl rfl ?_
            | refine s_storeAB Try.sizeOf47 rfl rfl rfl rfl hs (kk := 0) rfl rfl ?_
            | refine s_storeAB Try.sizeOf47 rfl rfl rfl rfl hs (kk := 1) rfl rfl ?_
            | refine s_storeAB Try.sizeOf47 rfl rfl rfl rfl hs (kk := 2) rfl rfl ?_
          clear hs; intro w hs; try simp only [List.set_cons_zero, List.set_cons_succ, splice, List.take_succ_cons, List.take_zero, List.drop_succ_cons, List.drop_zero, List.nil_append, List.cons_append, List.length_cons, List.length_nil, Nat.reduceAdd, List.append_assoc] at hs
          refine WL_nil ?_
          refine n_then ?_
          refine W_ret ?_
          first
            | (refine end1 rfl (resOk_block Try.isAgg47 Try.sizeOf47 hs rfl (kk := 2) rfl rfl) ?_
               have hk3 : k = 3 := ‹_›
               have hV : rdV k s = (⟨k, 0, 0, (rdRaw s).1, []⟩, (rdRaw s).2) := by rw [rdV, if_neg (by omega), if_neg (by omega), if_neg (by omega), if_pos (by omega)]
               have hmem := rdRaw_mem (s := s) (N := 4294967296) (fun h => hR.isB h)
               rw [hV]
               refine ⟨_, St.swap (A := [_]) (B := L2) (by have := St.reord [[(b31, o31)], [_], [_], L2] [0, 3] [1, 2] hs rfl; simpa [cat] using this), L2, ⟨⟨k, 0, 0, (rdRaw s).1, []⟩, .slice (some ⟨b31, 0, none⟩) (strOf (rdRaw s).1).size c31, [(b31, o31)], .slice none 0 0, []⟩, rfl, rfl, hR2, rfl, ⟨⟨by simp, by unfold isI64; simp, hmem.1, by simp, hmem.2, by simp⟩, ?_, RdS.nil⟩⟩
               rw [strOf_size hmem.1, ← u8s_bytesOf, bytesOf_strOf hmem.1] at hrd
               simp only
               rw [strOf_size hmem.1]; exact hrd)
            | (refine end1 rfl (resOk_block Try.isAgg47 Try.sizeOf47 hs rfl (kk := 1) rfl rfl) ?_
               first
                 | (have hV : rdV k s = (⟨k, (rdU s).1, 0, [], []⟩, (rdU s).2) := by rw [rdV, if_pos ‹_›]
                    rw [hV]
                    exact ⟨_, hs.tail.tail, L2, ⟨⟨k, (rdU s).1, 0, [], []⟩, .slice none 0 0, [], .slice none 0 0, []⟩, by simp [VV.L], rfl, hR2, rfl, ⟨⟨hm, by unfold isI64; simp, by simp, by simp, by simp, by simp⟩, RdS.nil, RdS.nil⟩⟩)
                 | (have hV : rdV k s = (⟨k, 0, (rdI s).1, [], []⟩, (rdI s).2) := by rw [rdV, if_neg (by omega), if_pos ‹_›]
                    rw [hV]
                    exact ⟨_, hs.tail.tail, L2, ⟨⟨k, 0, (rdI s).1, [], []⟩, .slice none 0 0, [], .slice none 0 0, []⟩, by simp [VV.L], rfl, hR2, rfl, ⟨⟨by simp, unzz_in hm, by simp, by simp, by simp, by simp⟩, RdS.nil, RdS.nil⟩⟩)
                 | (have hV : rdV k s = (⟨k, 0, if (rdB s).1 then 1 else 0, [], []⟩, (rdB s).2) := by rw [rdV, if_neg (by omega), if_neg (by omega), if_pos ‹_›]
                    rw [hV]
                    refine ⟨_, hs.tail.tail, L2, ⟨⟨k, 0, if (rdB s).1 then 1 else 0, [], []⟩, .slice none 0 0, [], .slice none 0 0, []⟩, by simp [VV.L], ?_, hR2, rfl, ⟨⟨by simp, by unfold isI64; split <;> simp, by simp, by simp, by simp, by simp⟩, RdS.nil, RdS.nil⟩⟩
                    simp only [VV.cells, hc25]; rfl)
                 | (have hk4 : k = 4 := ‹_›
                    have hV : rdV k s = (⟨k, 0, 0, (rdRaw s).1, []⟩, (rdRaw s).2) := by rw [rdV, if_neg (by omega), if_neg (by omega), if_neg (by omega), if_pos (by omega)]
                    have hmem := rdRaw_mem (s := s) (N := 4294967296) (fun h => hR.isB h)
                    rw [hV]
                    exact ⟨_, hs.tail.tail, LR, ⟨⟨k, 0, 0, (rdRaw s).1, []⟩, .slice va (rdRaw s).1.length vc, Lr, .slice none 0 0, []⟩, by simp [VV.L], rfl, hR2, rfl, ⟨⟨by simp, by unfold isI64; simp, hmem.1, by simp, hmem.2, by simp⟩, hOr.rdS, RdS.nil⟩⟩)
                 | (have hV : rdV k s = (⟨k, 0, 0, [], (rdInts s).1⟩, (rdInts s).2) := by rw [rdV, if_neg (by omega), if_neg (by omega), if_neg (by omega), if_neg (by omega)]
                    have hmem := rdInts_mem (s := s) (N := 4294967296) (fun h => hR.isB h)
                    rw [hV]
                    exact ⟨_, hs.tail.tail, LR, ⟨⟨k, 0, 0, [], (rdInts s).1⟩, .slice none 0 0, [], .slice va (rdInts s).1.length vc, Lr⟩, by simp [VV.L], rfl, hR2, rfl, ⟨⟨by simp, by unfold isI64; simp, by simp, hmem.1, by simp, hmem.2⟩, RdS.nil, hOr.rdS⟩⟩))
      · skip
        try simp only [beq_iff_eq, beq_eq_false_iff_ne, ne_eq] at hc22
        refine W_seq ?_
        refine W_region ?_
        refine s_eql rfl rfl rfl ?_
        refine s_assign rfl rfl ?_
        refine WL_nil ?_
        refine n_then ?_
        refine W_cond rfl (fun hc27 => ?_) (fun hc27 => ?_)
        · skip
          try simp only [beq_iff_eq, beq_eq_false_iff_ne, ne_eq] at hc27
          refine W_region ?_
          refine s_move rfl rfl ?_
          refine s_callL (M := [_, _]) (L1 := L0) (X := []) Try.call42 rfl rfl (by simpa using hs) (fun h => rText_ok p s _ w hR h) ?_
          clear hs; rintro v w L2 ⟨hR2, rfl⟩ - hs
          simp only [List.append_nil, List.cons_append, List.nil_append] at hs
          refine s_str_bytes Try.underlying9 Try.underlying24 Try.underlying5 rfl rfl hs ?_
          clear hs; intro b31 c31 o31 w hrd hs
          refine s_fieldAddr rfl rfl (FA47_3 _ _) ?_
          first
            | refine s_storeB Try.sizeOf24 rfl rfl rfl hs (kk := 0) rfl rfl ?_
            | refine s_storeB Try.sizeOf24 rfl rfl rfl hs (kk := 1) rfl rfl ?_
            | refine s_storeB Try.sizeOf24 rfl rfl rfl hs (kk := 2) rfl rfl ?_
          clear hs; intro w hs; try simp only [List.set_cons_zero, List.set_cons_succ, splice, List.take_succ_cons, List.take_zero, List.drop_succ_cons, List.drop_zero, List.nil_append, List.cons_append, List.length_cons, List.length_nil, Nat.reduceAdd, List.append_assoc] at hs
          refine WL_nil ?_
          refine n_blk ?_
          refine n_then ?_
          refine W_seq ?_
          refine W_region ?_
          first
            | refine s_loadW Try.isAgg47 Try.sizeOf47 rfl rfl hs (kk := 0) rfl rfl ?_
            | refine s_loadW Try.isAgg47 Try.sizeOf47 rfl rfl hs (kk := 1) rfl rfl ?_
            | refine s_loadW Try.isAgg47 Try.sizeOf47 rfl rfl hs (kk := 2) rfl rfl ?_
            | refine s_load_5 Try.isAgg47 Try.sizeOf47 rfl rfl (by first | exact hs.cell (k := 0) rfl rfl | exact hs.cell (k := 1) rfl rfl | exact hs.cell (k := 2) rfl rfl) (by first | exact hs.cell (k := 0) rfl rfl | exact hs.cell (k := 1) rfl rfl | exact hs.cell (k := 2) rfl rfl) (by first | exact hs.cell (k := 0) rfl rfl | exact hs.cell (k := 1) rfl rfl | exact hs.cell (k := 2) rfl rfl) (by first | exact hs.cell (k := 0) rfl rfl | exact hs.cell (k := 1) rfl rfl | exact hs.cell (k := 2) rfl rfl) (by first | exact hs.cell (k := 0) rfl rfl | exact hs.cell (k := 1) rfl rfl | exact hs.cell (k := 2) rfl rfl) ?_
          first
            | refine s_storeW Try.sizeOf47 rfl rfl rfl rfl hs (kk := 0) rfl rfl ?_
            | refine s_storeW Try.sizeOf47 rfl rfl rfl rfl hs (kk := 1) rfl rfl ?_
            | refine s_storeW Try.sizeOf47 rfl rfl rfl rfl hs (kk := 2) rfl rfl ?_
            | refine s_storeAB Try.sizeOf47 rfl rfl rfl rfl hs (kk := 0) rfl rfl ?_
            | refine s_storeAB Try.sizeOf47 rfl rfl rfl rfl hs (kk := 1) rfl rfl ?_
            | refine s_storeAB Try.sizeOf47 rfl rfl rfl rfl hs (kk := 2) rfl rfl ?_
          clear hs; intro w hs; try simp only [List.set_cons_zero, List.set_cons_succ, splice, List.take_succ_cons, List.take_zero, List.drop_succ_cons, List.drop_zero, List.nil_append, List.cons_append, List.length_cons, List.length_nil, Nat.reduceAdd, List.append_assoc] at hs
          refine WL_nil ?_
          refine n_then ?_
          refine W_ret ?_
          first
            | (refine end1 rfl (resOk_block Try.isAgg47 Try.sizeOf47 hs rfl (kk := 2) rfl rfl) ?_
               have hk3 : k = 3 := ‹_›
               have hV : rdV k s = (⟨k, 0, 0, (rdRaw s).1, []⟩, (rdRaw s).2) := by rw [rdV, if_neg (by omega), if_neg (by omega), if_neg (by omega), if_pos (by omega)]
               have hmem := rdRaw_mem (s := s) (N := 4294967296) (fun h => hR.isB h)
               rw [hV]
               refine ⟨_, St.swap (A := [_]) (B := L2) (by have := St.reord [[(b31, o31)], [_], [_], L2] [0, 3] [1, 2] hs rfl; simpa [cat] using this), L2, ⟨⟨k, 0, 0, (rdRaw s).1, []⟩, .slice (some ⟨b31, 0, none⟩) (strOf (rdRaw s).1).size c31, [(b31, o31)], .slice none 0 0, []⟩, rfl, rfl, hR2, rfl, ⟨⟨by simp, by unfold isI64; simp, hmem.1, by simp, hmem.2, by simp⟩, ?_, RdS.nil⟩⟩
               rw [strOf_size hmem.1, ← u8s_bytesOf, bytesOf_strOf hmem.1] at hrd
               simp only
               rw [strOf_size hmem.1]; exact hrd)
            | (refine end1 rfl (resOk_block Try.isAgg47 Try.sizeOf47 hs rfl (kk := 1) rfl rfl) ?_
               first
                 | (have hV : rdV k s = (⟨k, (rdU s).1, 0, [], []⟩, (rdU s).2) := by rw [rdV, if_pos ‹_›]
                    rw [hV]
                    exact ⟨_, hs.tail.tail, L2, ⟨⟨k, (rdU s).1, 0, [], []⟩, .slice none 0 0, [], .slice none 0 0, []⟩, by simp [VV.L], rfl, hR2, rfl, ⟨⟨hm, by unfold isI64; simp, by simp, by simp, by simp, by simp⟩, RdS.nil, RdS.nil⟩⟩)
                 | (have hV : rdV k s = (⟨k, 0, (rdI s).1, [], []⟩, (rdI s).2) := by rw [rdV, if_neg (by omega), if_pos ‹_›]
                    rw [hV]
                    exact ⟨_, hs.tail.tail, L2, ⟨⟨k, 0, (rdI s).1, [], []⟩, .slice none 0 0, [], .slice none 0 0, []⟩, by simp [VV.L], rfl, hR2, rfl, ⟨⟨by simp, unzz_in hm, by simp, by simp, by simp, by simp⟩, RdS.nil, RdS.nil⟩⟩)
                 | (have hV : rdV k s = (⟨k, 0, if (rdB s).1 then 1 else 0, [], []⟩, (rdB s).2) := by rw [rdV, if_neg (by omega), if_neg (by omega), if_pos ‹_›]
                    rw [hV]
                    refine ⟨_, hs.tail.tail, L2, ⟨⟨k, 0, if (rdB s).1 then 1 else 0, [], []⟩, .slice none 0 0, [], .slice none 0 0, []⟩, by simp [VV.L], ?_, hR2, rfl, ⟨⟨by simp, by unfold isI64; split <;> simp, by simp, by simp, by simp, by simp⟩, RdS.nil, RdS.nil⟩⟩
                    simp only [VV.cells, hc25]; rfl)
                 | (have hk4 : k = 4 := ‹_›
                    have hV : rdV k s = (⟨k, 0, 0, (rdRaw s).1, []⟩, (rdRaw s).2) := by rw [rdV, if_neg (by omega), if_neg (by omega), if_neg (by omega), if_pos (by omega)]
                    have hmem := rdRaw_mem (s := s) (N := 4294967296) (fun h => hR.isB h)
                    rw [hV]
                    exact ⟨_, hs.tail.tail, LR, ⟨⟨k, 0, 0, (rdRaw s).1, []⟩, .slice va (rdRaw s).1.length vc, Lr, .slice none 0 0, []⟩, by simp [VV.L], rfl, hR2, rfl, ⟨⟨by simp, by unfold isI64; simp, hmem.1, by simp, hmem.2, by simp⟩, hOr.rdS, RdS.nil⟩⟩)
                 | (have hV : rdV k s = (⟨k, 0, 0, [], (rdInts s).1⟩, (rdInts s).2) := by rw [rdV, if_neg (by omega), if_neg (by omega), if_neg (by omega), if_neg (by omega)]
                    have hmem := rdInts_mem (s := s) (N := 4294967296) (fun h => hR.isB h)
                    rw [hV]
                    exact ⟨_, hs.tail.tail, LR, ⟨⟨k, 0, 0, [], (rdInts s).1⟩, .slice none 0 0, [], .slice va (rdInts s).1.length vc, Lr⟩, by simp [VV.L], rfl, hR2, rfl, ⟨⟨by simp, by unfold isI64; simp, by simp, hmem.1, by simp, hmem.2⟩, RdS.nil, hOr.rdS⟩⟩))
        · skip
          try simp only [beq_iff_eq, beq_eq_false_iff_ne, ne_eq] at hc27
          refine W_seq ?_
          refine W_region ?_
          refine s_eql rfl rfl rfl ?_
          refine s_assign rfl rfl ?_
          refine WL_nil ?_
          refine n_then ?_
          refine W_cond rfl (fun hc33 => ?_) (fun hc33 => ?_)
          · skip
            try simp only [beq_iff_eq, beq_eq_false_iff_ne, ne_eq] at hc33
            refine W_region ?_
            refine s_move rfl rfl ?_
            refine s_callL (M := [_, _]) (L1 := L0) (X := []) Try.call31 rfl rfl (by simpa using hs) (fun h => rRaw_ok p s _ w hR h) ?_
            clear hs; rintro v w L2 ⟨LR, Lr, rfl, hR2, hOr⟩ - hs
            simp only [List.append_nil, List.cons_append, List.nil_append] at hs
            obtain ⟨_, vc, va, rfl, rfl⟩ := hOr.form
            refine s_fieldAddr rfl rfl (FA47_3 _ _) ?_
            first
              | refine s_storeB Try.sizeOf24 rfl rfl rfl hs (kk := 0) rfl rfl ?_
              | refine s_storeB Try.sizeOf24 rfl rfl rfl hs (kk := 1) rfl rfl ?_
              | refine s_storeB Try.sizeOf24 rfl rfl rfl hs (kk := 2) rfl rfl ?_
            clear hs; intro w hs; try simp only [List.set_cons_zero, List.set_cons_succ, splice, List.take_succ_cons, List.take_zero, List.drop_succ_cons, List.drop_zero, List.nil_append, List.cons_append, List.length_cons, List.length_nil, Nat.reduceAdd, List.append_assoc] at hs
            refine WL_nil ?_
            refine n_blk ?_
            refine n_then ?_
            refine W_seq ?_
            refine W_region ?_
            first
              | refine s_loadW Try.isAgg47 Try.sizeOf47 rfl rfl hs (kk := 0) rfl rfl ?_
              | refine s_loadW Try.isAgg47 Try.sizeOf47 rfl rfl hs (kk := 1) rfl rfl ?_
              | refine s_loadW Try.isAgg47 Try.sizeOf47 rfl rfl hs (kk := 2) rfl rfl ?_
              | refine s_load_5 Try.isAgg47 Try.sizeOf47 rfl rfl (by first | exact hs.cell (k := 0) rfl rfl | exact hs.cell (k := 1) rfl rfl | exact hs.cell (k := 2) rfl rfl) (by first | exact hs.cell (k := 0) rfl rfl | exact hs.cell (k := 1) rfl rfl | exact hs.cell (k := 2) rfl rfl) (by first | exact hs.cell (k := 0) rfl rfl | exact hs.cell (k := 1) rfl rfl | exact hs.cell (k := 2) rfl rfl) (by first | exact hs.cell (k := 0) rfl rfl | exact hs.cell (k := 1) rfl rfl | exact hs.cell (k := 2) rfl rfl) (by first | exact hs.cell (k := 0) rfl rfl | exact hs.cell (k := 1) rfl rfl | exact hs.cell (k := 2) rfl rfl) ?_
            first
              | refine s_storeW Try.sizeOf47 rfl rfl rfl rfl hs (kk := 0) rfl rfl ?_
              | refine s_storeW Try.sizeOf47 rfl rfl rfl rfl hs (kk := 1) rfl rfl ?_
              | refine s_storeW Try.sizeOf47 rfl rfl rfl rfl hs (kk := 2) rfl rfl ?_
              | refine s_storeAB Try.sizeOf47 rfl rfl rfl rfl hs (kk := 0) rfl rfl ?_
              | refine s_storeAB Try.sizeOf47 rfl rfl rfl rfl hs (kk := 1) rfl rfl ?_
              | refine s_storeAB Try.sizeOf47 rfl rfl rfl rfl hs (kk := 2) rfl rfl ?_
            clear hs; intro w hs; try simp only [List.set_cons_zero, List.set_cons_succ, splice, List.take_succ_cons, List.take_zero, List.drop_succ_cons, List.drop_zero, List.nil_append, List.cons_append, List.length_cons, List.length_nil, Nat.reduceAdd, List.append_assoc] at hs
            refine WL_nil ?_
            refine n_then ?_
            refine W_ret ?_
            first
              | (refine end1 rfl (resOk_block Try.isAgg47 Try.sizeOf47 hs rfl (kk := 2) rfl rfl) ?_
                 have hk3 : k = 3 := ‹_›
                 have hV : rdV k s = (⟨k, 0, 0, (rdRaw s).1, []⟩, (rdRaw s).2) := by rw [rdV, if_neg (by omega), if_neg (by omega), if_neg (by omega), if_pos (by omega)]
                 have hmem := rdRaw_mem (s := s) (N := 4294967296) (fun h => hR.isB h)
                 rw [hV]
                 refine ⟨_, St.swap (A := [_]) (B := L2) (by have := St.reord [[(b31, o31)], [_], [_], L2] [0, 3] [1, 2] hs rfl; simpa [cat] using this), L2, ⟨⟨k, 0, 0, (rdRaw s).1, []⟩, .slice (some ⟨b31, 0, none⟩) (strOf (rdRaw s).1).size c31, [(b31, o31)], .slice none 0 0, []⟩, rfl, rfl, hR2, rfl, ⟨⟨by simp, by unfold isI64; simp, hmem.1, by simp, hmem.2, by simp⟩, ?_, RdS.nil⟩⟩
                 rw [strOf_size hmem.1, ← u8s_bytesOf, bytesOf_strOf hmem.1] at hrd
                 simp only
                 rw [strOf_size hmem.1]; exact hrd)
              | (refine end1 rfl (resOk_block Try.isAgg47 Try.sizeOf47 hs rfl (kk := 1) rfl rfl) ?_
                 first
                   | (have hV : rdV k s = (⟨k, (rdU s).1, 0, [], []⟩, (rdU s).2) := by rw [rdV, if_pos ‹_›]
                      rw [hV]
                      exact ⟨_, hs.tail.tail, L2, ⟨⟨k, (rdU s).1, 0, [], []⟩, .slice none 0 0, [], .slice none 0 0, []⟩, by simp [VV.L], rfl, hR2, rfl, ⟨⟨hm, by unfold isI64; simp, by simp, by simp, by simp, by simp⟩, RdS.nil, RdS.nil⟩⟩)
                   | (have hV : rdV k s = (⟨k, 0, (rdI s).1, [], []⟩, (rdI s).2) := by rw [rdV, if_neg (by omega), if_pos ‹_›]
                      rw [hV]
                      exact ⟨_, hs.tail.tail, L2, ⟨⟨k, 0, (rdI s).1, [], []⟩, .slice none 0 0, [], .slice none 0 0, []⟩, by simp [VV.L], rfl, hR2, rfl, ⟨⟨by simp, unzz_in hm, by simp, by simp, by simp, by simp⟩, RdS.nil, RdS.nil⟩⟩)
                   | (have hV : rdV k s = (⟨k, 0, if (rdB s).1 then 1 else 0, [], []⟩, (rdB s).2) := by rw [rdV, if_neg (by omega), if_neg (by omega), if_pos ‹_›]
                      rw [hV]
                      refine ⟨_, hs.tail.tail, L2, ⟨⟨k, 0, if (rdB s).1 then 1 else 0, [], []⟩, .slice none 0 0, [], .slice none 0 0, []⟩, by simp [VV.L], ?_, hR2, rfl, ⟨⟨by simp, by unfold isI64; split <;> simp, by simp, by simp, by simp, by simp⟩, RdS.nil, RdS.nil⟩⟩
                      simp only [VV.cells, hc25]; rfl)
                   | (have hk4 : k = 4 := ‹_›
                      have hV : rdV k s = (⟨k, 0, 0, (rdRaw s).1, []⟩, (rdRaw s).2) := by rw [rdV, if_neg (by omega), if_neg (by omega), if_neg (by omega), if_pos (by omega)]
                      have hmem := rdRaw_mem (s := s) (N := 4294967296) (fun h => hR.isB h)
                      rw [hV]
                      exact ⟨_, hs.tail.tail, LR, ⟨⟨k, 0, 0, (rdRaw s).1, []⟩, .slice va (rdRaw s).1.length vc, Lr, .slice none 0 0, []⟩, by simp [VV.L], rfl, hR2, rfl, ⟨⟨by simp, by unfold isI64; simp, hmem.1, by simp, hmem.2, by simp⟩, hOr.rdS, RdS.nil⟩⟩)
                   | (have hV : rdV k s = (⟨k, 0, 0, [], (rdInts s).1⟩, (rdInts s).2) := by rw [rdV, if_neg (by omega), if_neg (by omega), if_neg (by omega), if_neg (by omega)]
                      have hmem := rdInts_mem (s := s) (N := 4294967296) (fun h => hR.isB h)
                      rw [hV]
                      exact ⟨_, hs.tail.tail, LR, ⟨⟨k, 0, 0, [], (rdInts s).1⟩, .slice none 0 0, [], .slice va (rdInts s).1.length vc, Lr⟩, by simp [VV.L], rfl, hR2, rfl, ⟨⟨by simp, by unfold isI64; simp, by simp, hmem.1, by simp, hmem.2⟩, RdS.nil, hOr.rdS⟩⟩))
          · skip
            try simp only [beq_iff_eq, beq_eq_false_iff_ne, ne_eq] at hc33
            refine W_region ?_
            refine s_move rfl rfl ?_
            refine s_callL (M := [_, _]) (L1 := L0) (X := []) Try.call33 rfl rfl (by simpa using hs) (fun h => rInts_ok p s _ w hR h) ?_
            clear hs; rintro v w L2 ⟨LR, Lr, rfl, hR2, hOr⟩ - hs
            simp only [List.append_nil, List.cons_append, List.nil_append] at hs
            obtain ⟨_, vc, va, rfl, rfl⟩ := hOr.form
            refine s_fieldAddr rfl rfl (FA47_4 _ _) ?_
            first
              | refine s_storeB Try.sizeOf33 rfl rfl rfl hs (kk := 0) rfl rfl ?_
              | refine s_storeB Try.sizeOf33 rfl rfl rfl hs (kk := 1) rfl rfl ?_
              | refine s_storeB Try.sizeOf33 rfl rfl rfl hs (kk := 2) rfl rfl ?_
            clear hs; intro w hs; try simp only [List.set_cons_zero, List.set_cons_succ, splice, List.take_succ_cons, List.take_zero, List.drop_succ_cons, List.drop_zero, List.nil_append, List.cons_append, List.length_cons, List.length_nil, Nat.reduceAdd, List.append_assoc] at hs
            refine WL_nil ?_
            refine n_blk ?_
            refine n_then ?_
            refine W_seq ?_
            refine W_region ?_
            first
              | refine s_loadW Try.isAgg47 Try.sizeOf47 rfl rfl hs (kk := 0) rfl rfl ?_
              | refine s_loadW Try.isAgg47 Try.sizeOf47 rfl rfl hs (kk := 1) rfl rfl ?_
              | refine s_loadW Try.isAgg47 Try.sizeOf47 rfl rfl hs (kk := 2) rfl rfl ?_
              | refine s_load_5 Try.isAgg47 Try.sizeOf47 rfl rfl (by first | exact hs.cell (k := 0) rfl rfl | exact hs.cell (k := 1) rfl rfl | exact hs.cell (k := 2) rfl rfl) (by first | exact hs.cell (k := 0) rfl rfl | exact hs.cell (k := 1) rfl rfl | exact hs.cell (k := 2) rfl rfl) (by first | exact hs.cell (k := 0) rfl rfl | exact hs.cell (k := 1) rfl rfl | exact hs.cell (k := 2) rfl rfl) (by first | exact hs.cell (k := 0) rfl rfl | exact hs.cell (k := 1) rfl rfl | exact hs.cell (k := 2) rfl rfl) (by first | exact hs.cell (k := 0) rfl rfl | exact hs.cell (k := 1) rfl rfl | exact hs.cell (k := 2) rfl rfl) ?_
            first
              | refine s_storeW Try.sizeOf47 rfl rfl rfl rfl hs (kk := 0) rfl rfl ?_
              | refine s_storeW Try.sizeOf47 rfl rfl rfl rfl hs (kk := 1) rfl rfl ?_
              | refine s_storeW Try.sizeOf47 rfl rfl rfl rfl hs (kk := 2) rfl rfl ?_
              | refine s_storeAB Try.sizeOf47 rfl rfl rfl rfl hs (kk := 0) rfl rfl ?_
              | refine s_storeAB Try.sizeOf47 rfl rfl rfl rfl hs (kk := 1) rfl rfl ?_
              | refine s_storeAB Try.sizeOf47 rfl rfl rfl rfl hs (kk := 2) rfl rfl ?_
            clear hs; intro w hs; try simp only [List.set_cons_zero, List.set_cons_succ, splice, List.take_succ_cons, List.take_zero, List.drop_succ_cons, List.drop_zero, List.nil_append, List.cons_append, List.length_cons, List.length_nil, Nat.reduceAdd, List.append_assoc] at hs
            refine WL_nil ?_
            refine n_then ?_
            refine W_ret ?_
            first
              | (refine end1 rfl (resOk_block Try.isAgg47 Try.sizeOf47 hs rfl (kk := 2) rfl rfl) ?_
                 have hk3 : k = 3 := ‹_›
                 have hV : rdV k s = (⟨k, 0, 0, (rdRaw s).1, []⟩, (rdRaw s).2) := by rw [rdV, if_neg (by omega), if_neg (by omega), if_neg (by omega), if_pos (by omega)]
                 have hmem := rdRaw_mem (s := s) (N := 4294967296) (fun h => hR.isB h)
                 rw [hV]
                 refine ⟨_, St.swap (A := [_]) (B := L2) (by have := St.reord [[(b31, o31)], [_], [_], L2] [0, 3] [1, 2] hs rfl; simpa [cat] using this), L2, ⟨⟨k, 0, 0, (rdRaw s).1, []⟩, .slice (some ⟨b31, 0, none⟩) (strOf (rdRaw s).1).size c31, [(b31, o31)], .slice none 0 0, []⟩, rfl, rfl, hR2, rfl, ⟨⟨by simp, by unfold isI64; simp, hmem.1, by simp, hmem.2, by simp⟩, ?_, RdS.nil⟩⟩
                 rw [strOf_size hmem.1, ← u8s_bytesOf, bytesOf_strOf hmem.1] at hrd
                 simp only
                 rw [strOf_size hmem.1]; exact hrd)
              | (refine end1 rfl (resOk_block Try.isAgg47 Try.sizeOf47 hs rfl (kk := 1) rfl rfl) ?_
                 first
                   | (have hV : rdV k s = (⟨k, (rdU s).1, 0, [], []⟩, (rdU s).2) := by rw [rdV, if_pos ‹_›]
                      rw [hV]
                      exact ⟨_, hs.tail.tail, L2, ⟨⟨k, (rdU s).1, 0, [], []⟩, .slice none 0 0, [], .slice none 0 0, []⟩, by simp [VV.L], rfl, hR2, rfl, ⟨⟨hm, by unfold isI64; simp, by simp, by simp, by simp, by simp⟩, RdS.nil, RdS.nil⟩⟩)
                   | (have hV : rdV k s = (⟨k, 0, (rdI s).1, [], []⟩, (rdI s).2) := by rw [rdV, if_neg (by omega), if_pos ‹_›]
                      rw [hV]
                      exact ⟨_, hs.tail.tail, L2, ⟨⟨k, 0, (rdI s).1, [], []⟩, .slice none 0 0, [], .slice none 0 0, []⟩, by simp [VV.L], rfl, hR2, rfl, ⟨⟨by simp, unzz_in hm, by simp, by simp, by simp, by simp⟩, RdS.nil, RdS.nil⟩⟩)
                   | (have hV : rdV k s = (⟨k, 0, if (rdB s).1 then 1 else 0, [], []⟩, (rdB s).2) := by rw [rdV, if_neg (by omega), if_neg (by omega), if_pos ‹_›]
                      rw [hV]
                      refine ⟨_, hs.tail.tail, L2, ⟨⟨k, 0, if (rdB s).1 then 1 else 0, [], []⟩, .slice none 0 0, [], .slice none 0 0, []⟩, by simp [VV.L], ?_, hR2, rfl, ⟨⟨by simp, by unfold isI64; split <;> simp, by simp, by simp, by simp, by simp⟩, RdS.nil, RdS.nil⟩⟩
                      simp only [VV.cells, hc25]; rfl)
                   | (have hk4 : k = 4 := ‹_›
                      have hV : rdV k s = (⟨k, 0, 0, (rdRaw s).1, []⟩, (rdRaw s).2) := by rw [rdV, if_neg (by omega), if_neg (by omega), if_neg (by omega), if_pos (by omega)]
                      have hmem := rdRaw_mem (s := s) (N := 4294967296) (fun h => hR.isB h)
                      rw [hV]
                      exact ⟨_, hs.tail.tail, LR, ⟨⟨k, 0, 0, (rdRaw s).1, []⟩, .slice va (rdRaw s).1.length vc, Lr, .slice none 0 0, []⟩, by simp [VV.L], rfl, hR2, rfl, ⟨⟨by simp, by unfold isI64; simp, hmem.1, by simp, hmem.2, by simp⟩, hOr.rdS, RdS.nil⟩⟩)
                   | (have hV : rdV k s = (⟨k, 0, 0, [], (rdInts s).1⟩, (rdInts s).2) := by rw [rdV, if_neg (by omega), if_neg (by omega), if_neg (by omega), if_neg (by omega)]
                      have hmem := rdInts_mem (s := s) (N := 4294967296) (fun h => hR.isB h)
                      rw [hV]
                      exact ⟨_, hs.tail.tail, LR, ⟨⟨k, 0, 0, [], (rdInts s).1⟩, .slice none 0 0, [], .slice va (rdInts s).1.length vc, Lr⟩, by simp [VV.L], rfl, hR2, rfl, ⟨⟨by simp, by unfold isI64; simp, by simp, hmem.1, by simp, hmem.2⟩, RdS.nil, hOr.rdS⟩⟩))
end Go.Proofs.Ytheeheahhnamjaa
