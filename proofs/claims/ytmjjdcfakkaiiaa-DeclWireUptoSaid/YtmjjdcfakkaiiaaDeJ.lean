/- decl.each, decl.numbers, decl.Encode. -/
import Derived.Test.YtmjjdcfakkaiiaaDeI
import Derived.Test.YtmjjdcfakkaiiaaWirR
import Derived.Test.YtmjjdcfakkaiiaaWirW
set_option linter.unusedVariables false
set_option linter.unusedSimpArgs false
namespace Go.Proofs.Ytmjjdcfakkaiiaa
open Go.SL
theorem St.apart2 {F : List Nat} {w0 w : World} {M L X : Hp} (h : St F w0 w (M ++ (L ++ X))) {b : Nat} (hb : b ∈ ids X) : b ∉ ids L := by
  have := (h.right (M := M) (L := L ++ X)).nodup
  rw [ids_append, List.nodup_append] at this
  exact fun hL => this.2.2 b hL b hb rfl
/-- the state between two rounds of each -/
theorem eachS_ok (f : Nat) (ca : List Value) (hcall : ∀ args w, (callFunc f args).run Try.prog w = .ok (.enter f args) w) (v : Value) (ps : List Value) (L0 : Hp) (w0 : World) (I : Nat → Hp → Prop) (hv : Sl w0 v ps.length ps) (hd : ∀ a m c, v = .slice (some a) m c → ps ≠ [] → a.block ∉ ids L0) (hl : ps.length ≤ 100) (h0 : I 0 L0) (hs : St (ids L0) w0 w0 L0)
    (step : ∀ i p L w, ps[i]? = some p → I i L → Fwd (ids L0) w0 w → St (ids L) w w L → Ret Try.prog f ([] ++ [p] ++ ca).toArray w fun _ w' => ∃ L', St (ids L) w w' L' ∧ I (i + 1) L') :
    Ret Try.prog 43 [.func (.func f) ([] : List Value).toArray ca.toArray, v].toArray w0 fun r w' => ∃ L', St (ids L0) w0 w' L' ∧ I ps.length L' ∧ r = .tuple #[] := by
  obtain ⟨a, c, rfl, _⟩ := hv.len_le
  refine Ret_startL hs fun w hs => ?_
  refine Ret_of Try.func43 rfl Try.ntmps43 rfl ?_
  refine W_seq ?_
  refine W_region ?_
  refine s_move rfl rfl ?_
  refine s_len rfl rfl (LN96 _ _ _ _) ?_
  refine s_move rfl rfl ?_
  refine WL_nil ?_
  refine n_then ?_
  refine W_block ?_
  refine W_loop (σ := Nat × Hp) (fun s => [(0, .func (.func f) ([] : List Value).toArray ca.toArray), (6, .slice a ps.length c), (7, .int .i64 (ps.length : Int)), (8, .int .i64 (s.1 : Int))]) (fun s w => St (ids L0) w0 w s.2 ∧ I s.1 s.2 ∧ s.1 ≤ ps.length) (fun s => ps.length - s.1) (0, L0) ⟨rfl, rfl, rfl, rfl, trivial⟩ ⟨hs, h0, Nat.zero_le _⟩ ?_
  clear hs h0
  rintro ⟨i, L⟩ w ⟨hs, hI, hi⟩
  simp only at hs hI hi ⊢
  refine W_seq ?_
  refine W_region ?_
  refine s_lss rfl rfl rfl ?_
  refine WL_nil ?_
  refine n_then ?_
  refine W_seq ?_
  refine W_cond rfl (fun hc9 => ?_) (fun hc9 => ?_)
  · skip
    try simp only [decide_eq_true_eq, decide_eq_false_iff_not] at hc9
    have hil : i < ps.length := by omega
    have hpi : ps[i]? = some ps[i] := List.getElem?_eq_getElem hil
    generalize ps[i] = p at hpi
    obtain ⟨b, o, hA, hcell⟩ := Sl.at (hv.fwd hs.fwd hd) hpi
    refine W_skip ?_
    refine n_then ?_
    refine W_seq ?_
    refine W_block ?_
    refine W_seq ?_
    refine W_region ?_
    (refine s_indexAddrO El96 rfl rfl rfl hA ?hx ?_; case hx => (constructor <;> omega))
    refine s_load Try.isAgg75 rfl rfl hcell ?_
    refine s_assign rfl rfl ?_
    refine WL_nil ?_
    refine n_then ?_
    refine W_region ?_
    refine s_move rfl rfl ?_
    refine s_move rfl rfl ?_
    refine s_callV (fi := []) (ca := ca) (vs := [p]) hcall rfl rfl rfl (step i p L w hpi hI hs.fwd (St.lend (M := []) (by simpa using hs))) ?_
    rintro v w ⟨L', hst, hI'⟩
    replace hs := St.back (L := L) (M := []) (by simpa using hs) hst
    simp only [List.append_nil] at hs
    refine WL_nil ?_
    refine n_blk ?_
    refine n_then ?_
    refine W_region ?_
    first | (refine s_add' rfl rfl rfl ?hx ?_; case hx => (constructor <;> first | omega | (simp only; omega))) | refine s_add rfl rfl rfl ?_
    refine s_move rfl rfl ?_
    refine WL_nil ?_
    refine n_loop ?_
    exact ⟨(i + 1, L'), ⟨rfl, rfl, rfl, rfl, trivial⟩, ⟨hs, hI', by simp only; omega⟩, by simp only; omega⟩
  · skip
    try simp only [decide_eq_true_eq, decide_eq_false_iff_not] at hc9
    refine W_exit ?_
    refine x_then ?_
    refine x_then ?_
    refine exit_hit ?_
    exact end0' rfl ⟨L, hs, by rw [show ps.length = i by omega]; exact hI, rfl⟩
theorem eachI_ok (f : Nat) (ca : List Value) (hcall : ∀ args w, (callFunc f args).run Try.prog w = .ok (.enter f args) w) (v : Value) (ps : List Value) (L0 : Hp) (w0 : World) (I : Nat → Hp → Prop) (hv : Sl w0 v ps.length ps) (hd : ∀ a m c, v = .slice (some a) m c → ps ≠ [] → a.block ∉ ids L0) (hl : ps.length ≤ 100) (h0 : I 0 L0) (hs : St (ids L0) w0 w0 L0)
    (step : ∀ i p L w, ps[i]? = some p → I i L → Fwd (ids L0) w0 w → St (ids L) w w L → Ret Try.prog f ([] ++ [p] ++ ca).toArray w fun _ w' => ∃ L', St (ids L) w w' L' ∧ I (i + 1) L') :
    Ret Try.prog 60 [.func (.func f) ([] : List Value).toArray ca.toArray, v].toArray w0 fun r w' => ∃ L', St (ids L0) w0 w' L' ∧ I ps.length L' ∧ r = .tuple #[] := by
  obtain ⟨a, c, rfl, _⟩ := hv.len_le
  refine Ret_startL hs fun w hs => ?_
  refine Ret_of Try.func60 rfl Try.ntmps60 rfl ?_
  refine W_seq ?_
  refine W_region ?_
  refine s_move rfl rfl ?_
  refine s_len rfl rfl (LN108 _ _ _ _) ?_
  refine s_move rfl rfl ?_
  refine WL_nil ?_
  refine n_then ?_
  refine W_block ?_
  refine W_loop (σ := Nat × Hp) (fun s => [(0, .func (.func f) ([] : List Value).toArray ca.toArray), (6, .slice a ps.length c), (7, .int .i64 (ps.length : Int)), (8, .int .i64 (s.1 : Int))]) (fun s w => St (ids L0) w0 w s.2 ∧ I s.1 s.2 ∧ s.1 ≤ ps.length) (fun s => ps.length - s.1) (0, L0) ⟨rfl, rfl, rfl, rfl, trivial⟩ ⟨hs, h0, Nat.zero_le _⟩ ?_
  clear hs h0
  rintro ⟨i, L⟩ w ⟨hs, hI, hi⟩
  simp only at hs hI hi ⊢
  refine W_seq ?_
  refine W_region ?_
  refine s_lss rfl rfl rfl ?_
  refine WL_nil ?_
  refine n_then ?_
  refine W_seq ?_
  refine W_cond rfl (fun hc9 => ?_) (fun hc9 => ?_)
  · skip
    try simp only [decide_eq_true_eq, decide_eq_false_iff_not] at hc9
    have hil : i < ps.length := by omega
    have hpi : ps[i]? = some ps[i] := List.getElem?_eq_getElem hil
    generalize ps[i] = p at hpi
    obtain ⟨b, o, hA, hcell⟩ := Sl.at (hv.fwd hs.fwd hd) hpi
    refine W_skip ?_
    refine n_then ?_
    refine W_seq ?_
    refine W_block ?_
    refine W_seq ?_
    refine W_region ?_
    (refine s_indexAddrO El108 rfl rfl rfl hA ?hx ?_; case hx => (constructor <;> omega))
    refine s_load Try.isAgg82 rfl rfl hcell ?_
    refine s_assign rfl rfl ?_
    refine WL_nil ?_
    refine n_then ?_
    refine W_region ?_
    refine s_move rfl rfl ?_
    refine s_move rfl rfl ?_
    refine s_callV (fi := []) (ca := ca) (vs := [p]) hcall rfl rfl rfl (step i p L w hpi hI hs.fwd (St.lend (M := []) (by simpa using hs))) ?_
    rintro v w ⟨L', hst, hI'⟩
    replace hs := St.back (L := L) (M := []) (by simpa using hs) hst
    simp only [List.append_nil] at hs
    refine WL_nil ?_
    refine n_blk ?_
    refine n_then ?_
    refine W_region ?_
    first | (refine s_add' rfl rfl rfl ?hx ?_; case hx => (constructor <;> first | omega | (simp only; omega))) | refine s_add rfl rfl rfl ?_
    refine s_move rfl rfl ?_
    refine WL_nil ?_
    refine n_loop ?_
    exact ⟨(i + 1, L'), ⟨rfl, rfl, rfl, rfl, trivial⟩, ⟨hs, hI', by simp only; omega⟩, by simp only; omega⟩
  · skip
    try simp only [decide_eq_true_eq, decide_eq_false_iff_not] at hc9
    refine W_exit ?_
    refine x_then ?_
    refine x_then ?_
    refine exit_hit ?_
    exact end0' rfl ⟨L, hs, by rw [show ps.length = i by omega]; exact hI, rfl⟩

/-! the writer's closures -/
def txt (s : ByteArray) : List Int := uvar s.size ++ bytesOf s
theorem txt_len {s : ByteArray} (h : s.size < 18446744073709551616) : (txt s).length ≤ s.size + 10 := by
  have := uvar_len10 h
  rw [txt, List.length_append, bytesOf_length]; omega
theorem enc1_ok (b o : Nat) (s : ByteArray) (p : Nat) (bs : List Int) (L0 : Hp) (w0 : World) (hW : WrAt p bs L0) (hs : St (ids L0) w0 w0 L0) (hc : w0.cell? ⟨b, o, none⟩ = some (.string s)) (hl : bs.length ≤ 1099511627776) (hz : s.size ≤ 1099511627776) :
    Ret Try.prog 41 [.pointer (some ⟨b, o, none⟩), .pointer (some ⟨p, 0, none⟩)].toArray w0 fun _ w' => ∃ L', St (ids L0) w0 w' L' ∧ WrAt p (bs ++ txt s) L' := by
  refine Ret_of Try.func41 rfl Try.ntmps41 rfl ?_
  refine W_region ?_
  refine s_move rfl rfl ?_
  refine s_nilCheck rfl rfl ?_
  refine s_load Try.isAgg9 rfl rfl hc ?_
  refine s_callL (M := []) (L1 := L0) (X := []) Try.call42 rfl rfl (by simpa using hs) (fun h => wText_ok p bs s L0 _ hW h hl hz) ?_
  clear hs; rintro v w L2 ⟨hW2, rfl⟩ - hs
  simp only [List.nil_append, List.append_nil] at hs
  refine WL_nil ?_
  exact end0' rfl ⟨_, hs, by rw [txt, ← List.append_assoc]; exact hW2⟩
theorem enc2_ok (b o : Nat) (n : Int) (p : Nat) (bs : List Int) (L0 : Hp) (w0 : World) (hW : WrAt p bs L0) (hs : St (ids L0) w0 w0 L0) (hc : w0.cell? ⟨b, o, none⟩ = some (.int .i64 n)) (hl : bs.length ≤ 1099511627776) (hn : isI64 n) :
    Ret Try.prog 46 [.pointer (some ⟨b, o, none⟩), .pointer (some ⟨p, 0, none⟩)].toArray w0 fun _ w' => ∃ L', St (ids L0) w0 w' L' ∧ WrAt p (bs ++ uvar (zz n)) L' := by
  refine Ret_of Try.func46 rfl Try.ntmps46 rfl ?_
  refine W_region ?_
  refine s_move rfl rfl ?_
  refine s_nilCheck rfl rfl ?_
  refine s_load Try.isAgg3 rfl rfl hc ?_
  refine s_callL (M := []) (L1 := L0) (X := []) Try.call44 rfl rfl (by simpa using hs) (fun h => wInt_ok p bs n L0 _ hW h hn hl) ?_
  clear hs; rintro v w L2 ⟨hW2, rfl⟩ - hs
  simp only [List.nil_append, List.append_nil] at hs
  refine WL_nil ?_
  exact end0' rfl ⟨_, hs, hW2⟩
/-! numbers -/
def nps (b : Nat) : List Value := [.pointer (some ⟨b, 2, none⟩), .pointer (some ⟨b, 3, none⟩), .pointer (some ⟨b, 4, none⟩), .pointer (some ⟨b, 5, none⟩), .pointer (some ⟨b, 6, none⟩), .pointer (some ⟨b, 7, none⟩), .pointer (some ⟨b, 8, none⟩), .pointer (some ⟨b, 9, none⟩), .pointer (some ⟨b, 10, none⟩), .pointer (some ⟨b, 11, none⟩)]
theorem nps_at {b i : Nat} {p : Value} (h : (nps b)[i]? = some p) : i < 10 ∧ p = .pointer (some ⟨b, 2 + i, none⟩) := by
  have hl : (nps b).length = 10 := rfl
  have hi : i < 10 := by rw [← hl]; exact (List.getElem?_eq_some_iff.1 h).1
  refine ⟨hi, ?_⟩
  match i, hi with
  | 0, _ | 1, _ | 2, _ | 3, _ | 4, _ | 5, _ | 6, _ | 7, _ | 8, _ | 9, _ => simpa [nps] using h.symm
set_option maxHeartbeats 2000000 in
theorem numbers_ok (f : Nat) (ca : List Value) (hcall : ∀ args w, (callFunc f args).run Try.prog w = .ok (.enter f args) w) (b : Nat) (L0 : Hp) (w0 : World) (I : Nat → Hp → Prop) (h0 : I 0 L0) (hs : St (ids L0) w0 w0 L0)
    (step : ∀ i L w, i < 10 → I i L → Fwd (ids L0) w0 w → St (ids L) w w L → Ret Try.prog f ([] ++ [Value.pointer (some ⟨b, 2 + i, none⟩)] ++ ca).toArray w fun _ w' => ∃ L', St (ids L) w w' L' ∧ I (i + 1) L') :
    Ret Try.prog 45 [.pointer (some ⟨b, 0, none⟩), .func (.func f) ([] : List Value).toArray ca.toArray].toArray w0 fun r w' => ∃ L', St (ids L0) w0 w' L' ∧ I 10 L' ∧ r = .tuple #[] := by
  refine Ret_startL hs fun w hs => ?_
  refine Ret_of Try.func45 rfl Try.ntmps45 rfl ?_
  refine W_draw [(0, true, []), (1, true, []), (2, true, []), (3, true, []), (4, true, []), (5, true, []), (6, true, []), (7, true, []), (8, true, []), (9, true, []), (10, true, []), (11, true, []), (12, true, []), (13, true, []), (14, true, []), (15, true, []), (16, true, []), (17, true, []), (18, true, []), (19, true, []), (20, true, []), (21, true, []), (22, true, []), (23, true, []), (24, true, []), (25, true, []), (26, true, []), (27, true, []), (28, true, []), (29, true, []), (30, true, []), (31, true, []), (32, true, []), (33, true, []), (34, false, [0]), (35, false, [])] [[], [], [1], [1, 2], [1, 2, 3], [], [5], [5, 6], [5, 6, 7], [], [9], [9, 10], [9, 10, 11], [], [13], [13, 14], [], [16], [16, 17], [], [19], [19, 20], [], [22], [22, 23], [], [25], [25, 26], [], [28], [28, 29], [], [31], [31, 32], [1, 2, 3, 4, 5, 6, 7, 8, 9, 10, 11, 12, 13, 14, 15, 16, 17, 18, 19, 20, 21, 22, 23, 24, 25, 26, 27, 28, 29, 30, 31, 32, 33], [0, 1, 2, 3, 4, 5, 6, 7, 8, 9, 10, 11, 12, 13, 14, 15, 16, 17, 18, 19, 20, 21, 22, 23, 24, 25, 26, 27, 28, 29, 30, 31, 32, 33, 34]] MX (by kernel_rfl) ?_
  intro w1 hw1 hw2 hw3 hw4; replace hs := hs.redrawn hw1 hw2 hw3 hw4; clear hw1 hw2 hw3 hw4
  obtain ⟨w, rfl⟩ : ∃ w : World, w = w1 := ⟨_, rfl⟩
  refine D_q rfl rfl ?_
  refine s_move rfl rfl ?_
  refine D_qn ?_
  refine D_q rfl rfl ?_
  refine s_move rfl rfl ?_
  refine D_qn ?_
  refine D_q rfl rfl ?_
  refine s_nilCheck rfl rfl ?_
  refine D_qn ?_
  refine D_q rfl rfl ?_
  refine s_fieldAddr rfl rfl (FA27_2 _ _) ?_
  refine D_qn ?_
  refine D_q rfl rfl ?_
  (refine s_indexAddrA Try.underlying25 Try.sizeOf3 rfl rfl rfl ?hx ?_; case hx => (constructor <;> omega))
  refine D_qn ?_
  refine D_q rfl rfl ?_
  refine s_move rfl rfl ?_
  refine D_qn ?_
  refine D_q rfl rfl ?_
  refine s_nilCheck rfl rfl ?_
  refine D_qn ?_
  refine D_q rfl rfl ?_
  refine s_fieldAddr rfl rfl (FA27_2 _ _) ?_
  refine D_qn ?_
  refine D_q rfl rfl ?_
  (refine s_indexAddrA Try.underlying25 Try.sizeOf3 rfl rfl rfl ?hx ?_; case hx => (constructor <;> omega))
  refine D_qn ?_
  refine D_q rfl rfl ?_
  refine s_move rfl rfl ?_
  refine D_qn ?_
  refine D_q rfl rfl ?_
  refine s_nilCheck rfl rfl ?_
  refine D_qn ?_
  refine D_q rfl rfl ?_
  refine s_fieldAddr rfl rfl (FA27_2 _ _) ?_
  refine D_qn ?_
  refine D_q rfl rfl ?_
  (refine s_indexAddrA Try.underlying25 Try.sizeOf3 rfl rfl rfl ?hx ?_; case hx => (constructor <;> omega))
  refine D_qn ?_
  refine D_q rfl rfl ?_
  refine s_move rfl rfl ?_
  refine D_qn ?_
  refine D_q rfl rfl ?_
  refine s_nilCheck rfl rfl ?_
  refine D_qn ?_
  refine D_q rfl rfl ?_
  refine s_fieldAddr rfl rfl (FA27_3 _ _) ?_
  refine D_qn ?_
  refine D_q rfl rfl ?_
  refine s_move rfl rfl ?_
  refine D_qn ?_
  refine D_q rfl rfl ?_
  refine s_nilCheck rfl rfl ?_
  refine D_qn ?_
  refine D_q rfl rfl ?_
  refine s_fieldAddr rfl rfl (FA27_4 _ _) ?_
  refine D_qn ?_
  refine D_q rfl rfl ?_
  refine s_move rfl rfl ?_
  refine D_qn ?_
  refine D_q rfl rfl ?_
  refine s_nilCheck rfl rfl ?_
  refine D_qn ?_
  refine D_q rfl rfl ?_
  refine s_fieldAddr rfl rfl (FA27_5 _ _) ?_
  refine D_qn ?_
  refine D_q rfl rfl ?_
  refine s_move rfl rfl ?_
  refine D_qn ?_
  refine D_q rfl rfl ?_
  refine s_nilCheck rfl rfl ?_
  refine D_qn ?_
  refine D_q rfl rfl ?_
  refine s_fieldAddr rfl rfl (FA27_6 _ _) ?_
  refine D_qn ?_
  refine D_q rfl rfl ?_
  refine s_move rfl rfl ?_
  refine D_qn ?_
  refine D_q rfl rfl ?_
  refine s_nilCheck rfl rfl ?_
  refine D_qn ?_
  refine D_q rfl rfl ?_
  refine s_fieldAddr rfl rfl (FA27_7 _ _) ?_
  refine D_qn ?_
  refine D_q rfl rfl ?_
  refine s_move rfl rfl ?_
  refine D_qn ?_
  refine D_q rfl rfl ?_
  refine s_nilCheck rfl rfl ?_
  refine D_qn ?_
  refine D_q rfl rfl ?_
  refine s_fieldAddr rfl rfl (FA27_8 _ _) ?_
  refine D_qn ?_
  refine D_q rfl rfl ?_
  refine s_move rfl rfl ?_
  refine D_qn ?_
  refine D_q rfl rfl ?_
  refine s_nilCheck rfl rfl ?_
  refine D_qn ?_
  refine D_q rfl rfl ?_
  refine s_fieldAddr rfl rfl (FA27_9 _ _) ?_
  refine D_qn ?_
  refine D_e rfl ?_
  refine s_buildSlice rfl rfl (BS108_10 _ _ _ _ _ _ _ _ _ _) hs ?_; clear hs; intro b38 w hs
  refine D_en ?re ?_
  case re =>
    refine Reks_cons rfl rfl rfl rfl ?_ ?_
    · skip
      refine s_move rfl rfl ?_
      exact Rek_end rfl
    exact Reks_nil
  refine D_e rfl ?_
  replace hs : St (ids L0) w0 w ((b38, Blk 82 (nps b)) :: L0) := hs
  have hsl : Sl w (.slice (some ⟨b38, 0, none⟩) 10 10) (nps b).length (nps b) := hs.sl (k := 0) (ds := nps b) rfl (Nat.le_refl _) (by intro j u hj; rw [Nat.zero_add]; exact hj)
  have hf0 := hs.fwd
  refine s_callL (M := [_]) (L1 := L0) (X := []) Try.call60 rfl rfl (by simpa using hs) (fun h => eachI_ok f ca hcall _ (nps b) L0 w I hsl (fun a m c ha _ => by cases ha; exact St.notin (M := [_]) (L := L0) (X := []) (by simpa using hs) (by simp [ids])) (show 10 ≤ 100 by decide) h0 h (fun i p L w1 hp hI h1 h2 => by
    obtain ⟨hi, rfl⟩ := nps_at hp
    exact step i L w1 hi hI (hf0.trans h1) h2)) ?_
  clear hs; rintro v w L2 ⟨hI2, rfl⟩ - hs
  simp only [List.nil_append, List.append_nil] at hs
  refine D_en ?re ?_
  case re =>
    exact Reks_nil
  refine D_nil ?_
  exact end0' rfl ⟨_, hs.tail, hI2, rfl⟩
/-! Encode -/
def lbTxt (x : Lb) : List Int := txt x.1 ++ txt x.2
def De.nums (d : De) : List Int := [d.u0, d.u1, d.u2, d.lo, d.hi, d.dn, d.up, d.fi, d.la, d.bu]
def encD (d : De) (ls : List Lb) : List Int := txt d.name ++ uvar (zz (ls.length : Int)) ++ ls.flatMap lbTxt ++ d.nums.flatMap (fun n => uvar (zz n))
theorem De.nums_at {d : De} {i : Nat} (h : i < 10) (hI : d.Ints) : ∃ n, d.nums[i]? = some n ∧ d.vals[2 + i]? = some (.int .i64 n) ∧ isI64 n := by
  match i, h with
  | 0, _ => exact ⟨_, rfl, rfl, hI.u0⟩
  | 1, _ => exact ⟨_, rfl, rfl, hI.u1⟩
  | 2, _ => exact ⟨_, rfl, rfl, hI.u2⟩
  | 3, _ => exact ⟨_, rfl, rfl, hI.lo⟩
  | 4, _ => exact ⟨_, rfl, rfl, hI.hi⟩
  | 5, _ => exact ⟨_, rfl, rfl, hI.dn⟩
  | 6, _ => exact ⟨_, rfl, rfl, hI.up⟩
  | 7, _ => exact ⟨_, rfl, rfl, hI.fi⟩
  | 8, _ => exact ⟨_, rfl, rfl, hI.la⟩
  | 9, _ => exact ⟨_, rfl, rfl, hI.bu⟩
structure EncOk (d : De) (ls : List Lb) : Prop where
  ints : d.Ints
  name : d.name.size ≤ 1048576
  len : ls.length ≤ 100
  lab : ∀ x ∈ ls, x.1.size ≤ 1048576 ∧ x.2.size ≤ 1048576
theorem nums_len (d : De) : ∀ (ns : List Int), (∀ n ∈ ns, isI64 n) → (ns.flatMap (fun n => uvar (zz n))).length ≤ 10 * ns.length
  | [], _ => by simp
  | n :: ns, h => by
    have h1 := nums_len d ns (fun z hz => h z (by simp [hz]))
    have h2 := uvar_len10 (zz_lt (h n (by simp)))
    simp only [List.flatMap_cons, List.length_append, List.length_cons]; omega
theorem flatMap_le {α : Type} (g : α → List Int) (K : Nat) : ∀ (xs : List α), (∀ x ∈ xs, (g x).length ≤ K) → (xs.flatMap g).length ≤ xs.length * K
  | [], _ => by simp
  | x :: xs, h => by
    have h1 := flatMap_le g K xs (fun z hz => h z (by simp [hz]))
    have h2 := h x (by simp)
    simp only [List.flatMap_cons, List.length_append, List.length_cons, Nat.add_mul, Nat.one_mul]; omega
structure Q where
  b : Nat
  o : Nat
  s : ByteArray
def Q.ptr (q : Q) : Value := .pointer (some ⟨q.b, q.o, none⟩)
theorem encEach_ok (v : Value) (qs : List Q) (p : Nat) (bs : List Int) (L0 : Hp) (w0 : World) (hW : WrAt p bs L0) (hs : St (ids L0) w0 w0 L0) (hv : Sl w0 v qs.length (qs.map Q.ptr)) (hd : ∀ a m c, v = .slice (some a) m c → a.block ∉ ids L0)
    (hq : ∀ q ∈ qs, w0.cell? ⟨q.b, q.o, none⟩ = some (.string q.s) ∧ q.b < w0.heap.size ∧ q.b ∉ ids L0 ∧ q.s.size ≤ 1048576) (hl : bs.length ≤ 549755813888) (hn : qs.length ≤ 100) :
    Ret Try.prog 43 [.func (.func 41) #[] #[.pointer (some ⟨p, 0, none⟩)], v].toArray w0 fun r w' => ∃ L', St (ids L0) w0 w' L' ∧ WrAt p (bs ++ qs.flatMap (fun q => txt q.s)) L' ∧ r = .tuple #[] := by
  have h := eachS_ok 41 [.pointer (some ⟨p, 0, none⟩)] Try.call41 v (qs.map Q.ptr) L0 w0 (fun i L => WrAt p (bs ++ (qs.take i).flatMap (fun q => txt q.s)) L) (by rw [List.length_map]; exact hv) (fun a m c ha _ => hd a m c ha) (by rw [List.length_map]; exact hn) (by simpa using hW) hs (fun i pp L w hp hI hf hst => by
    rw [List.getElem?_map] at hp
    obtain ⟨q, hqi, rfl⟩ : ∃ q, qs[i]? = some q ∧ q.ptr = pp := by
      cases h : qs[i]? with
      | none => rw [h] at hp; cases hp
      | some q => rw [h] at hp; exact ⟨q, rfl, by simpa using hp⟩
    obtain ⟨h1, h2, h3, h4⟩ := hq q (List.mem_of_getElem? hqi)
    have hbl : ((qs.take i).flatMap (fun q => txt q.s)).length ≤ 100 * 1048586 := by
      refine Nat.le_trans (flatMap_le _ 1048586 (qs.take i) (fun x hx => ?_)) (Nat.mul_le_mul_right _ (by rw [List.length_take]; omega))
      have := (hq x (List.mem_of_mem_take hx)).2.2.2
      have := txt_len (s := x.s) (by omega)
      omega
    refine Ret.mono (enc1_ok q.b q.o q.s p _ L w hI hst ?_ (by rw [List.length_append]; omega) (by omega)) ?_
    · rw [← h1]; exact World.cell?_of_block (hf.block q.b h2 h3)
    · rintro _ w' ⟨L', hst', hW'⟩
      refine ⟨L', hst', ?_⟩
      rw [List.take_add_one, hqi, List.flatMap_append, ← List.append_assoc]
      simpa using hW')
  refine Ret.mono h ?_
  rintro r w' ⟨L', hst, hI, hr⟩
  refine ⟨L', hst, ?_, hr⟩
  rw [List.length_map, List.take_length] at hI
  exact hI
set_option maxHeartbeats 2000000 in
theorem encode_ok (d : De) (ls : List Lb) (w0 : World) (hv : Sl w0 d.lv ls.length (lbcells ls)) (hE : EncOk d ls) :
    Ret Try.prog 23 [.agg d.vals.toArray].toArray w0 fun r w' => ∃ Lr, OwnS 5 1 r (encD d ls).length (u8s (encD d ls)) Lr ∧ St [] w0 w' Lr := by
  obtain ⟨va, vc, hlv, hvc⟩ := hv.len_le
  rw [hlv] at hv
  have hlen := hE.len
  have hnm := hE.name
  have htn := txt_len (s := d.name) (by omega)
  have hone := De.vals_one ⟨_, _, _, hlv⟩
  have hv1 : d.vals[1]? = some (.slice va ls.length vc) := by rw [← hlv]; rfl
  refine Ret_start fun w hs => ?_
  refine Ret_of Try.func23 rfl Try.ntmps23 rfl ?_
  refine W_seq ?_
  refine W_region ?_
  first | refine s_box rfl rfl hs ?_ | refine s_box1 rfl rfl rfl hs ?_
  clear hs; intro b1 w hs
  refine s_assign rfl rfl ?_
  refine WL_nil ?_
  refine n_then ?_
  refine W_seq ?_
  refine W_region ?_
  refine s_alloc rfl AL74 hs ?_; clear hs; intro b3 w hs
  refine WL_nil ?_
  refine n_then ?_
  refine W_seq ?_
  refine W_region ?_
  refine s_makeFunc rfl rfl rfl ?_
  refine s_assign rfl rfl ?_
  refine WL_nil ?_
  refine n_then ?_
  refine W_seq ?_
  refine W_region ?_
  refine s_move rfl rfl ?_
  refine s_fieldAddr rfl rfl (FA27_0 _ _) ?_
  refine s_buildSlice rfl rfl (BS96_1 _) hs ?_; clear hs; intro b10 w hs
  refine s_callL (M := [_]) (L1 := [_]) (X := [_]) Try.call43 rfl rfl hs (fun h => encEach_ok _ [⟨b1, 0, d.name⟩] b3 [] _ w (wr_new b3) h (hs.sl (k := 0) (ds := [_]) rfl (Nat.le_refl _) (by intro j u hj; rw [Nat.zero_add]; exact hj)) (fun a m c ha => by cases ha; exact St.notin (M := [_]) (L := [_]) (X := [_]) hs (by simp [ids])) (fun q hq => by
    simp only [List.mem_singleton] at hq; subst hq
    exact ⟨hs.cell (k := 2) rfl rfl, hs.lt (by simp [ids]), St.apart2 (M := [_]) (L := [_]) (X := [_]) hs (by simp [ids]), hnm⟩) (by simp) (by simp)) ?_
  clear hs; rintro v w LW ⟨hW, rfl⟩ - hs
  replace hs := hs.tail
  replace hW : WrAt b3 (txt d.name) LW := by simpa using hW
  refine WL_nil ?_
  refine n_then ?_
  refine W_seq ?_
  refine W_region ?_
  refine s_fieldAddr rfl rfl (FA27_1 _ _) ?_
  refine s_load Try.isAgg23 rfl rfl ((St.swap (A := LW) (B := [_]) hs).cell (k := 0) rfl hv1) ?_
  refine s_len rfl rfl (LN23 _ _ _ _) ?_
  refine s_callL (M := []) (L1 := LW) (X := [_]) Try.call44 rfl rfl (by simpa using hs) (fun h => wInt_ok b3 (txt d.name) (ls.length : Int) LW w hW h (by unfold isI64; omega) (by omega)) ?_
  clear hs hW; rintro v w LW ⟨hW, rfl⟩ - hs
  simp only [List.nil_append] at hs
  refine WL_nil ?_
  refine n_then ?_
  refine W_seq ?_
  refine W_seq ?_
  refine W_region ?_
  refine s_fieldAddr rfl rfl (FA27_1 _ _) ?_
  refine s_load Try.isAgg23 rfl rfl ((St.swap (A := LW) (B := [_]) hs).cell (k := 0) rfl hv1) ?_
  refine s_len rfl rfl (LN23 _ _ _ _) ?_
  refine s_move rfl rfl ?_
  refine WL_nil ?_
  refine n_then ?_
  refine W_block ?_
  refine W_loop (σ := Nat × Hp) (fun s => [(1, .pointer (some ⟨b1, 0, none⟩)), (3, .pointer (some ⟨b3, 0, none⟩)), (4, .func (.func 41) #[] #[.pointer (some ⟨b3, 0, none⟩)]), (17, .slice va ls.length vc), (18, .int .i64 (ls.length : Int)), (19, .int .i64 (s.1 : Int))]) (fun s w => St [] w0 w (s.2 ++ [(b1, Blk 27 d.vals)]) ∧ WrAt b3 (txt d.name ++ uvar (zz (ls.length : Int)) ++ (ls.take s.1).flatMap lbTxt) s.2 ∧ s.1 ≤ ls.length) (fun s => ls.length - s.1) (0, LW) ⟨rfl, rfl, rfl, rfl, rfl, rfl, trivial⟩ ⟨hs, by simpa using hW, Nat.zero_le _⟩ ?_
  clear hs hW
  rintro ⟨i, LW⟩ w ⟨hs, hW, hi⟩
  simp only at hs hW hi ⊢
  have hbl : (txt d.name ++ uvar (zz (ls.length : Int)) ++ (ls.take i).flatMap lbTxt).length ≤ 209717200 + 1048600 := by
    have h1 := uvar_len10 (zz_lt (n := (ls.length : Int)) (by omega))
    have h2 : ((ls.take i).flatMap lbTxt).length ≤ 100 * 2097172 := by
      refine Nat.le_trans (flatMap_le _ 2097172 (ls.take i) (fun x hx => ?_)) (Nat.mul_le_mul_right _ (by rw [List.length_take]; omega))
      have h3 := hE.lab x (List.mem_of_mem_take hx)
      have h4 := txt_len (s := x.1) (by omega)
      have h5 := txt_len (s := x.2) (by omega)
      rw [lbTxt, List.length_append]; omega
    simp only [List.length_append]; omega
  refine W_seq ?_
  refine W_region ?_
  refine s_lss rfl rfl rfl ?_
  refine WL_nil ?_
  refine n_then ?_
  refine W_seq ?_
  refine W_cond rfl (fun hc20 => ?_) (fun hc20 => ?_)
  · skip
    try simp only [decide_eq_true_eq, decide_eq_false_iff_not] at hc20
    have hil : i < ls.length := by omega
    have hli : ls[i]? = some ls[i] := List.getElem?_eq_getElem hil
    generalize ls[i] = x at hli
    have hxl := hE.lab x (List.mem_of_getElem? hli)
    obtain ⟨b2, o2, hA2, hB2, hc1, hc2⟩ := sl2 hv hli
    refine W_skip ?_
    refine n_then ?_
    refine W_seq ?_
    refine W_block ?_
    refine W_seq ?_
    refine W_region ?_
    (refine s_indexAddrP El23 rfl rfl rfl hA2 ?hx ?_; case hx => (constructor <;> omega))
    refine s_load_2 Try.isAgg51 Try.sizeOf51 rfl rfl ((hs.oldcell (a := ⟨b2, _, none⟩) hB2 (by simp)).trans hc1) ((hs.oldcell (a := ⟨b2, _, none⟩) hB2 (by simp)).trans hc2) ?_
    refine s_alloc rfl AL51 hs ?_; clear hs; intro b6 w hs
    first
      | refine s_storeW Try.sizeOf51 rfl rfl rfl rfl hs (kk := 0) rfl rfl ?_
      | refine s_storeW Try.sizeOf51 rfl rfl rfl rfl hs (kk := 1) rfl rfl ?_
      | refine s_storeAB Try.sizeOf51 rfl rfl rfl rfl hs (kk := 0) rfl rfl ?_
      | refine s_storeAB Try.sizeOf51 rfl rfl rfl rfl hs (kk := 1) rfl rfl ?_
    clear hs; intro w hs; try simp only [List.set_cons_zero, List.set_cons_succ, splice, List.take_succ_cons, List.take_zero, List.drop_succ_cons, List.drop_zero, List.nil_append, List.cons_append, List.length_cons, List.length_nil, Nat.reduceAdd, List.append_assoc] at hs
    refine WL_nil ?_
    refine n_then ?_
    refine W_region ?_
    refine s_move rfl rfl ?_
    refine s_fieldAddr rfl rfl (FA51_0 _ _) ?_
    refine s_fieldAddr rfl rfl (FA51_1 _ _) ?_
    refine s_buildSlice rfl rfl (BS96_2 _ _) hs ?_; clear hs; intro b26 w hs
    refine s_callL (M := [_, _]) (L1 := LW) (X := [_]) Try.call43 rfl rfl hs (fun h => encEach_ok _ [⟨b6, 0, x.1⟩, ⟨b6, 1, x.2⟩] b3 _ LW w hW h (hs.sl (k := 0) (ds := [_, _]) rfl (Nat.le_refl _) (by intro j u hj; rw [Nat.zero_add j]; exact hj)) (fun a m c ha => by cases ha; exact St.notin (M := [_, _]) (L := LW) (X := [_]) hs (by simp [ids])) (fun q hq => by
      have hnb : b6 ∉ ids LW := St.notin (M := [_, _]) (L := LW) (X := [_]) hs (by simp [ids])
      simp only [List.mem_cons, List.not_mem_nil, or_false] at hq
      rcases hq with rfl | rfl
      · exact ⟨hs.cell (k := 1) rfl rfl, hs.lt (by simp [ids]), hnb, hxl.1⟩
      · exact ⟨hs.cell (k := 1) rfl rfl, hs.lt (by simp [ids]), hnb, hxl.2⟩) (by omega) (by simp)) ?_
    clear hs hW; rintro v w LW ⟨hW, rfl⟩ - hs
    replace hs := hs.tail.tail
    refine WL_nil ?_
    refine n_blk ?_
    refine n_then ?_
    refine W_region ?_
    first | (refine s_add' rfl rfl rfl ?hx ?_; case hx => (constructor <;> first | omega | (simp only; omega))) | refine s_add rfl rfl rfl ?_
    refine s_move rfl rfl ?_
    refine WL_nil ?_
    refine n_loop ?_
    refine ⟨(i + 1, LW), ⟨rfl, rfl, rfl, rfl, rfl, rfl, trivial⟩, ⟨hs, ?_, by simp only; omega⟩, by simp only; omega⟩
    simp only
    rw [List.take_add_one, hli, List.flatMap_append, ← List.append_assoc]
    simpa [lbTxt] using hW
  · skip
    try simp only [decide_eq_true_eq, decide_eq_false_iff_not] at hc20
    refine W_exit ?_
    refine x_then ?_
    refine x_then ?_
    refine exit_hit ?_
    refine n_then ?_
    refine W_seq ?_
    refine W_region ?_
    refine s_makeFunc rfl rfl rfl ?_
    have hie : i = ls.length := by omega
    rw [hie, List.take_length] at hW hbl
    have hbd : b1 < w.heap.size := hs.lt (by rw [ids_append]; exact List.mem_append_right _ (by simp [ids]))
    have hbn : b1 ∉ ids LW := St.apart2 (M := []) (L := LW) (X := [_]) (by simpa using hs) (by simp [ids])
    have hcl : ∀ o u, d.vals[o]? = some u → w.cell? ⟨b1, o, none⟩ = some u := fun o u hu => (St.swap (A := LW) (B := [_]) hs).cell (k := 0) rfl hu
    refine s_callL (M := []) (L1 := LW) (X := [_]) Try.call45 rfl rfl (by simpa using hs) (fun h => numbers_ok 46 [.pointer (some ⟨b3, 0, none⟩)] Try.call46 b1 LW w (fun i L => WrAt b3 (txt d.name ++ uvar (zz (ls.length : Int)) ++ ls.flatMap lbTxt ++ (d.nums.take i).flatMap (fun n => uvar (zz n))) L) (by simpa using hW) h (fun i L w1 hi hI hf hst => by
      obtain ⟨z, hz1, hz2, hz3⟩ := De.nums_at hi hE.ints
      have hb2 : ((d.nums.take i).flatMap (fun n => uvar (zz n))).length ≤ 100 := by
        refine Nat.le_trans (nums_len d (d.nums.take i) (fun n hn => ?_)) (by rw [List.length_take]; omega)
        obtain ⟨j, hj⟩ := List.getElem?_of_mem (List.mem_of_mem_take hn)
        obtain ⟨z', h1, _, h3⟩ := De.nums_at (d := d) (i := j) (List.getElem?_eq_some_iff.1 hj).1 hE.ints
        rw [hj] at h1; cases h1; exact h3
      refine Ret.mono (enc2_ok b1 (2 + i) z b3 _ L w1 hI hst ((World.cell?_of_block (hf.block b1 hbd hbn)).trans (hcl _ _ hz2)) (by rw [List.length_append]; omega) hz3) ?_
      rintro _ w2 ⟨L', h1, h2⟩
      refine ⟨L', h1, ?_⟩
      rw [List.take_add_one, hz1, List.flatMap_append, ← List.append_assoc]
      simpa using h2)) ?_
    clear hs hW; rintro v w LW ⟨hW, rfl⟩ - hs
    simp only [List.nil_append] at hs
    replace hW : WrAt b3 (encD d ls) LW := hW
    have hbe : (encD d ls).length ≤ 4294967296 := by
      have hb2 : (d.nums.flatMap (fun n => uvar (zz n))).length ≤ 100 := by
        refine nums_len d d.nums (fun n hn => ?_)
        obtain ⟨j, hj⟩ := List.getElem?_of_mem hn
        obtain ⟨z', h1, _, h3⟩ := De.nums_at (d := d) (i := j) (List.getElem?_eq_some_iff.1 hj).1 hE.ints
        rw [hj] at h1; cases h1; exact h3
      rw [encD, List.length_append]; omega
    refine WL_nil ?_
    refine n_then ?_
    refine W_seq ?_
    refine W_region ?_
    refine s_callL (M := []) (L1 := LW) (X := [_]) Try.call47 rfl rfl (by simpa using hs) (fun h => wDone_ok b3 (encD d ls) LW w hW h hbe) ?_
    clear hs; rintro v w L9 ⟨Lr, rfl, hO⟩ - hs
    simp only [List.nil_append, List.append_assoc] at hs
    refine s_assign rfl rfl ?_
    refine WL_nil ?_
    refine n_then ?_
    refine W_ret ?_
    exact end1 rfl rfl ⟨Lr, hO, St.left (L := Lr) (M := [_]) (hs.right (M := LW) (L := Lr ++ [_]))⟩
end Go.Proofs.Ytmjjdcfakkaiiaa
