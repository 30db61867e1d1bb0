/- A disk's crash: what it does; invert, Crash. -/
import Derived.Test.YtgppcfgnhahnaaaDoorDkE
set_option linter.unusedVariables false
set_option linter.unusedSimpArgs false
namespace Go.SL
section
variable {P : Program} {n : Nat} {ops : Array Oper} {Q : Post} {l : Fr} {w : World} {rest : List Oper} {d ty : Nat} {pos : String} {aft : Array Edge}
/-- the elements from some place on, of any slice -/
theorem s_slice_loA' {x y : Operand} {t e size bytes len cap : Nat} {zs : List Value} {a : Option Addr} {kd : IntKind} {lo : Int} (el : El P t e zs size bytes) (hd : Nat.blt d n = true) (hx : ev l x = some (.slice a len cap)) (hy : ev l y = some (.int kd lo))
    (hb : 0 ≤ lo ∧ lo ≤ len) (hz : a = none → len = 0 ∧ cap = 0) (ha : ∀ b, a = some b → b.spot = none ∨ len = 0 ∧ cap = 0) (k : ∀ a', (∀ b o, a = some ⟨b, o, none⟩ → a' = some ⟨b, (if cap = lo.toNat then o else o + lo.toNat * size), none⟩) → WL P n ops Q rest ((d, .slice a' (len - lo.toNat) (cap - lo.toNat)) :: l) w) : WL P n ops Q (⟨some d, .slice t x (some y) none none, ty, pos, aft, none⟩ :: rest) l w := by
  cases a with
  | some ad =>
    obtain ⟨b, o, s⟩ := ad
    rcases ha _ rfl with h | ⟨rfl, rfl⟩
    · simp only at h
      subst h
      exact s_slice_lo el hd hx hy hb (k _ fun b' o' h => by cases h; rfl)
    · have h0 : lo = 0 := by simp at hb; omega
      subst h0
      obtain ⟨ii, hi, ⟨z, hz, hzc⟩, hsi, hby⟩ := el.hi
      refine WL_val hd (fun ac ha => ?_) (k (some ⟨b, o, s⟩) fun b' o' h => by cases h; simp)
      simp [execOp, ha.eval hx, ha.eval hy, Instr.sliceAt, Instr.slice, run_underlying el.ht, Instr.sliceBounds, Instr.sliceBound, asIntOf, sizeOf, typeInfo, hi, hsi]
  | none =>
    obtain ⟨rfl, rfl⟩ := hz rfl
    have h0 : lo = 0 := by simp at hb; omega
    subst h0
    obtain ⟨ii, hi, ⟨z, hz, hzc⟩, hsi, hby⟩ := el.hi
    refine WL_val hd (fun ac ha => ?_) (k none fun b o h => by cases h)
    simp [execOp, ha.eval hx, ha.eval hy, Instr.sliceAt, Instr.slice, run_underlying el.ht, Instr.sliceBounds, Instr.sliceBound, asIntOf, sizeOf, typeInfo, hi, hsi]
end
end Go.SL
namespace Go.Proofs.YtgppcfgnhahnaaaDoor
open Go.SL
/-- a byte with one bit inverted, counted from the top -/
def xbit (b : Int) (k : Nat) : Int := ((b.toNat ^^^ (128 >>> k) : Nat) : Int)
theorem xbit_fin : ∀ x : Fin 256, ∀ k : Fin 8, IntKind.u8.wrap (((BitVec.ofInt IntKind.u8.bits ((x.val : Nat) : Int) ^^^ BitVec.ofInt IntKind.u8.bits ((128 : Int).fdiv (2 ^ (min k.val 8)))).toNat : Nat) : Int) = xbit ((x.val : Nat) : Int) k.val
    ∧ IntKind.u8.wrap (((BitVec.ofInt IntKind.u8.bits ((x.val : Nat) : Int) ^^^ BitVec.ofInt IntKind.u8.bits (IntKind.u8.wrap (1 * 2 ^ (min (7 - k.val) 8)))).toNat : Nat) : Int) = xbit ((x.val : Nat) : Int) k.val
    ∧ isB (xbit ((x.val : Nat) : Int) k.val) ∧ xbit ((x.val : Nat) : Int) k.val ≠ ((x.val : Nat) : Int) := by
  unfold isB; decide +kernel
theorem xbit_facts {b : Int} {k : Nat} (hb : isB b) (hk : k < 8) : IntKind.u8.wrap (((BitVec.ofInt IntKind.u8.bits b ^^^ BitVec.ofInt IntKind.u8.bits ((128 : Int).fdiv (2 ^ (min k 8)))).toNat : Nat) : Int) = xbit b k
    ∧ IntKind.u8.wrap (((BitVec.ofInt IntKind.u8.bits b ^^^ BitVec.ofInt IntKind.u8.bits (IntKind.u8.wrap (1 * 2 ^ (min (7 - k) 8)))).toNat : Nat) : Int) = xbit b k ∧ isB (xbit b k) ∧ xbit b k ≠ b := by
  unfold isB at hb
  have h := xbit_fin ⟨b.toNat, by omega⟩ ⟨k, hk⟩
  simp only at h
  rw [show ((b.toNat : Nat) : Int) = b by omega] at h
  exact h
/-- how many loose bytes of a file are kept -/
def keptV (keep : List Int) (i room : Nat) : Nat := if i < keep.length then (if (room : Int) < (if keep.getD i 0 < 0 then 0 else keep.getD i 0) then (room : Int) else (if keep.getD i 0 < 0 then 0 else keep.getD i 0)).toNat else 0
theorem keptV_le (keep : List Int) (i room : Nat) : keptV keep i room ≤ room := by
  unfold keptV; split
  · split
    · omega
    · split <;> omega
  · omega
def cutL (keep : List Int) : List Int → Nat → Dk → Nat → Dk × Nat
  | [], _, D, n => (D, n)
  | f :: r, i, D, n => cutL keep r (i + 1) (D.set f ((D.c f).take (D.d f + keptV keep i ((D.c f).length - D.d f))) (D.d f)) (n + keptV keep i ((D.c f).length - D.d f))
def invF (bs : List Int) (d : Nat) (at_ : Int) : List Int :=
  if 0 ≤ at_ ∧ at_ < 8 * ((bs.length : Int) - d) then bs.set (d + (at_ / 8).toNat) (xbit (bs.getD (d + (at_ / 8).toNat) 0) (at_ % 8).toNat) else bs
theorem invF_length (bs : List Int) (d : Nat) (at_ : Int) : (invF bs d at_).length = bs.length := by unfold invF; split <;> simp
theorem invF_isB {bs : List Int} {d : Nat} {at_ : Int} (h : ∀ b ∈ bs, isB b) : ∀ b ∈ invF bs d at_, isB b := by
  unfold invF; split
  · intro b hb
    rcases List.mem_or_eq_of_mem_set hb with hb | rfl
    · exact h b hb
    · refine (xbit_facts ?_ (by omega)).2.2.1
      rw [List.getD_eq_getElem?_getD]
      cases hq : bs[d + (at_ / 8).toNat]? with
      | none => exact ⟨by simp, by simp⟩
      | some q => exact h q (List.mem_of_getElem? hq)
  · exact h
def invL : List Int → Int → Dk → Dk
  | [], _, D => D
  | f :: r, at_, D => invL r (at_ - 8 * (((D.c f).length : Int) - D.d f)) (D.set f (invF (D.c f) (D.d f) at_) (D.d f))
theorem set_self (D : Dk) (f : Int) : D.set f (D.c f) (D.d f) = D := by
  obtain ⟨room, off, armed, left, c, d⟩ := D
  simp only [Dk.set]
  congr 1
  · funext q; split
    · rename_i h; rw [h]
    · rfl
  · funext q; split
    · rename_i h; rw [h]
    · rfl
theorem invF_off {bs : List Int} {d : Nat} {at_ : Int} (h : ¬ (0 ≤ at_ ∧ at_ < 8 * ((bs.length : Int) - d))) : invF bs d at_ = bs := by rw [invF, if_neg h]
/-- every file has at most all its bytes durable -/
def firmOk (D : Dk) : Prop := ∀ f, D.d f ≤ (D.c f).length
theorem firmOk.set {D : Dk} (h : firmOk D) {f : Int} {bs : List Int} {d : Nat} (hd : d ≤ bs.length) : firmOk (D.set f bs d) := by
  intro q; simp only [Dk.set]; split
  · exact hd
  · exact h q
theorem DiskAt.firmOk {p : Nat} {D : Dk} {L : Hp} (h : DiskAt p D L) : firmOk D := fun f => by obtain ⟨m, o, v0, Lf, R, es, hP⟩ := disk_open h f; exact hP.dur
theorem invL_neg : ∀ (fs : List Int) (at_ : Int) (D : Dk), firmOk D → at_ < 0 → invL fs at_ D = D
  | [], _, _, _, _ => rfl
  | f :: r, at_, D, hD, h => by
    have := hD f
    rw [invL, invF_off (by omega), set_self]
    exact invL_neg r _ D hD (by omega)
def Dk.crash (D : Dk) (keep : List Int) (flip : Int) : Dk :=
  let X := cutL keep (filesV D) 0 D 0
  let Y := if 0 ≤ flip ∧ 0 < X.2 then invL (filesV D) (flip % (8 * (X.2 : Int))) X.1 else X.1
  { Y.solid with off := false, armed := false }
theorem updI_same {k : Int} {v : Value} : ∀ {es : KVs}, lookI k es = some v → updI k v es = es
  | e :: r, h => by
    rw [lookI] at h
    rw [updI]
    split at h
    · rename_i hk; cases h; rw [if_pos hk, hk]
    · rename_i hk; rw [if_neg hk, updI_same h]
theorem OwnS.spot {e size n c m : Nat} {a : Option Addr} {cs : List Value} {Lv : Hp} (h : OwnS e size (.slice a m c) n cs Lv) (hn : 0 < n) : ∃ g, a = some ⟨g, 0, none⟩ ∧ n ≤ c ∧ m = n ∧ ∃ sp, Lv = [(g, Blk e (cs ++ sp))] := by
  obtain ⟨h1, ⟨⟨a', h2⟩, h3, h4⟩ | ⟨b, cap', sp, h2, h3, h4, h5, h6⟩⟩ := h
  · omega
  · cases h2; exact ⟨b, rfl, h3, rfl, sp, h6⟩
theorem OwnS.edge {e size n c : Nat} {a : Option Addr} {cs : List Value} {Lv : Hp} (h : OwnS e size (.slice a n c) n cs Lv) : (a = none → n = 0 ∧ c = 0) ∧ ∀ b : Addr, a = some b → b.spot = none ∨ n = 0 ∧ c = 0 := by
  obtain ⟨h1, ⟨⟨a', h2⟩, h3, h4⟩ | ⟨b, cap', sp, h2, h3, h4, h5, h6⟩⟩ := h
  · simp only [Value.slice.injEq] at h2
    obtain ⟨rfl, -, rfl⟩ := h2
    exact ⟨fun _ => ⟨h3, rfl⟩, fun b _ => .inr ⟨h3, rfl⟩⟩
  · cases h2; exact ⟨fun h => (by cases h), fun b h => (by cases h; exact .inl rfl)⟩
structure InS where
  i : Nat
  bit : Int
set_option maxHeartbeats 1000000 in
theorem invert_ok (p : Nat) (D : Dk) (fs : List Int) (v : Value) (bit : Int) (L0 : Hp) (w0 : World) (hD : DiskAt p D L0) (hv : Sl w0 v fs.length (i64s fs)) (hap : ∀ a m c, v = .slice (some a) m c → i64s fs ≠ [] → a.block ∉ ids L0) (hf : ∀ f ∈ fs, 0 ≤ f ∧ f ≤ 63) (hl : fs.length ≤ 64) (hb : 0 ≤ bit ∧ bit ≤ 1099511627776) (hs : St (ids L0) w0 w0 L0) :
    Ret Tryd.prog 30 [.pointer (some ⟨p, 0, none⟩), v, .int .i64 bit].toArray w0 fun r w' => ∃ L', St (ids L0) w0 w' L' ∧ DiskAt p (invL fs bit D) L' := by
  obtain ⟨va, vc, rfl, hvc⟩ := hv.len_le
  have hfo := hD.firmOk
  refine Ret_startL hs fun w hs => ?_
  refine Ret_of Tryd.func30 rfl Tryd.ntmps30 rfl ?_
  refine W_seq ?_
  refine W_region ?_
  refine s_move rfl rfl ?_
  refine s_len rfl rfl (LN22 _ _ _ _) ?_
  refine s_move rfl rfl ?_
  refine WL_nil ?_
  refine n_then ?_
  refine W_block ?_
  refine W_loop (σ := InS) (fun s => [(0, .pointer (some ⟨p, 0, none⟩)), (2, .int .i64 s.bit), (10, .slice va fs.length vc), (11, .int .i64 (fs.length : Int)), (12, .int .i64 (s.i : Int))]) (fun s w => St (ids L0) w0 w L0 ∧ s.i ≤ fs.length ∧ (0 ≤ s.bit ∧ s.bit ≤ 1099511627776) ∧ invL (fs.drop s.i) s.bit D = invL fs bit D) (fun s => fs.length - s.i) ⟨0, bit⟩ ⟨rfl, rfl, rfl, rfl, rfl, trivial⟩ ⟨hs, Nat.zero_le _, hb, rfl⟩ ?_
  clear hs hb
  rintro ⟨i, bi⟩ w ⟨hs, hi, hb, hinv⟩
  simp only at hs hi hb hinv ⊢
  refine W_seq ?_
  refine W_region ?_
  refine s_lss rfl rfl rfl ?_
  refine WL_nil ?_
  refine n_then ?_
  refine W_seq ?_
  refine W_cond rfl (fun hc13 => ?_) (fun hc13 => ?_)
  · skip
    try simp only [decide_eq_true_eq, decide_eq_false_iff_not, gt_iff_lt] at hc13
    have hil : i < fs.length := by omega
    obtain ⟨f, hfi⟩ : ∃ f, fs[i]? = some f := ⟨_, List.getElem?_eq_getElem hil⟩
    have hfm := hf f (List.mem_of_getElem? hfi)
    have hdrop : fs.drop i = f :: fs.drop (i + 1) := by
      rw [List.drop_eq_getElem_cons hil]; congr 1; rw [List.getElem?_eq_getElem hil] at hfi; exact Option.some.inj hfi
    rw [hdrop, invL] at hinv
    obtain ⟨b1, o1, hA1, hc1⟩ := (hv.fwd hs.fwd hap).at (k := i) (u := .int .i64 f) (by rw [List.getElem?_map, hfi]; rfl)
    obtain ⟨m1, q1, v1, Lf1, R1, es1, hP1⟩ := disk_open hD f
    have hM1 := hP1.map
    have hlk1 := hP1.look
    have hO1 := hP1.own
    have hdur := hP1.dur
    have hlt := len_le_total D hfm
    have hgd := hP1.good.1
    obtain ⟨_, c1, a1, rfl, h1l⟩ := hO1.form
    subst h1l
    replace hs := hs.perm hP1.perm
    unfold dkCells at hs
    refine W_skip ?_
    refine n_then ?_
    refine W_seq ?_
    refine W_block ?_
    refine W_seq ?_
    refine W_region ?_
    (refine s_indexAddrO El22 rfl rfl rfl hA1 ?hx ?_; case hx => (constructor <;> omega))
    refine s_load Tryd.isAgg3 rfl rfl (by rw [Int.toNat_natCast]; exact hc1) ?_
    refine s_assign rfl rfl ?_
    refine WL_nil ?_
    refine n_then ?_
    refine W_seq ?_
    refine W_region ?_
    refine s_move rfl rfl ?_
    refine s_nilCheck rfl rfl ?_
    refine s_fieldAddr rfl rfl (FA60_2 _ _) ?_
    first
      | refine s_load Tryd.isAgg58 rfl rfl (hs.cell (k := 0) rfl rfl) ?_
      | refine s_load Tryd.isAgg58 rfl rfl (hs.cell (k := 1) rfl rfl) ?_
      | refine s_load Tryd.isAgg58 rfl rfl (hs.cell (k := 2) rfl rfl) ?_
    refine s_move rfl rfl ?_
    refine s_lookupI Tryd.underlying58 Tryd.underlying3 ZV70 rfl rfl rfl hs (kk := 1) rfl hM1 ?_
    rw [hlk1]
    refine s_alloc rfl AL70 hs ?_; clear hs; intro b8 w hs
    first
      | refine s_storeW Tryd.sizeOf70 rfl rfl rfl rfl hs (kk := 0) rfl rfl ?_
      | refine s_storeW Tryd.sizeOf70 rfl rfl rfl rfl hs (kk := 1) rfl rfl ?_
      | refine s_storeW Tryd.sizeOf70 rfl rfl rfl rfl hs (kk := 2) rfl rfl ?_
      | refine s_storeAB Tryd.sizeOf70 rfl rfl rfl rfl hs (kk := 0) rfl rfl ?_
      | refine s_storeAB Tryd.sizeOf70 rfl rfl rfl rfl hs (kk := 1) rfl rfl ?_
      | refine s_storeAB Tryd.sizeOf70 rfl rfl rfl rfl hs (kk := 2) rfl rfl ?_
    clear hs; intro w hs; try simp only [List.set_cons_zero, List.set_cons_succ, splice, List.take_succ_cons, List.take_zero, List.drop_succ_cons, List.drop_zero, List.nil_append, List.cons_append, List.length_cons, List.length_nil, Nat.reduceAdd, List.append_assoc] at hs
    refine WL_nil ?_
    refine n_then ?_
    refine W_seq ?_
    refine W_region ?_
    refine s_fieldAddr rfl rfl (FA70_0 _ _) ?_
    first
      | refine s_load Tryd.isAgg35 rfl rfl (hs.cell (k := 0) rfl rfl) ?_
      | refine s_load Tryd.isAgg35 rfl rfl (hs.cell (k := 1) rfl rfl) ?_
      | refine s_load Tryd.isAgg35 rfl rfl (hs.cell (k := 2) rfl rfl) ?_
    refine s_fieldAddr rfl rfl (FA70_1 _ _) ?_
    first
      | refine s_load Tryd.isAgg3 rfl rfl (hs.cell (k := 0) rfl rfl) ?_
      | refine s_load Tryd.isAgg3 rfl rfl (hs.cell (k := 1) rfl rfl) ?_
      | refine s_load Tryd.isAgg3 rfl rfl (hs.cell (k := 2) rfl rfl) ?_
    have hcn : 0 < (D.c f).length → ∃ g, a1 = some ⟨g, 0, none⟩ ∧ (D.c f).length ≤ c1 ∧ (D.c f).length = (D.c f).length ∧ ∃ sp, Lf1 = [(g, Blk 5 (u8s (D.c f) ++ sp))] := fun h => OwnS.spot hO1 h
    have ha1 := OwnS.edge hO1
    refine s_slice_loA' El35 rfl rfl rfl ⟨by omega, by omega⟩ ha1.1 ha1.2 ?_
    intro a2 ha2
    rw [Int.toNat_natCast] at ha2 ⊢
    refine s_assign rfl rfl ?_
    refine WL_nil ?_
    refine n_then ?_
    refine W_seq ?_
    refine W_seq ?_
    refine W_region ?_
    refine s_move rfl rfl ?_
    refine s_move rfl rfl ?_
    refine s_len rfl rfl (LN35 _ _ _ _) ?_
    first | (refine s_mul' rfl rfl rfl ?hx ?_; case hx => (constructor <;> first | omega | (simp only; omega))) | refine s_mul rfl rfl rfl ?_
    refine s_lss rfl rfl rfl ?_
    refine WL_nil ?_
    refine n_then ?_
    refine W_cond rfl (fun hc31 => ?_) (fun hc31 => ?_)
    · skip
      try simp only [decide_eq_true_eq, decide_eq_false_iff_not, gt_iff_lt] at hc31
      have hlen : 0 < (D.c f).length := by omega
      obtain ⟨g, rfl, hcap, -, sp, rfl⟩ := hcn hlen
      have h2 := ha2 g 0 rfl
      rw [if_neg (by omega), Nat.zero_add, Nat.mul_one] at h2
      subst h2
      obtain ⟨ix, hix⟩ : ∃ ix : Nat, (ix : Int) = bi / 8 := ⟨(bi / 8).toNat, by omega⟩
      have hixl : D.d f + ix < (D.c f).length := by omega
      obtain ⟨z, hz⟩ : ∃ z, (D.c f)[D.d f + ix]? = some z := ⟨_, List.getElem?_eq_getElem hixl⟩
      have hzB := hP1.byt z (List.mem_of_getElem? hz)
      have hx8 := xbit_facts (k := (bi % 8).toNat) hzB (by omega)
      simp only [List.cons_append, List.nil_append] at hs
      refine W_seq ?_
      refine W_draw [(0, true, []), (1, true, []), (2, true, []), (3, true, []), (4, true, []), (5, true, []), (6, true, []), (7, true, []), (8, true, []), (9, true, []), (10, false, [])] [[], [], [1], [0, 1, 2], [0, 1, 2, 3], [], [5], [5, 6], [0, 1, 2, 3, 4, 5, 6, 7], [0, 1, 2, 3, 4, 5, 6, 7, 8], [0, 1, 2, 3, 4, 5, 6, 7, 8, 9]] MX (by kernel_rfl) ?_
      intro w1 hw1 hw2 hw3 hw4; replace hs := hs.redrawn hw1 hw2 hw3 hw4; clear hw1 hw2 hw3 hw4
      obtain ⟨w, rfl⟩ : ∃ w : World, w = w1 := ⟨_, rfl⟩
      refine D_q rfl rfl ?_
      refine s_move rfl rfl ?_
      refine D_qn ?_
      refine D_q rfl rfl ?_
      refine s_move rfl rfl ?_
      refine D_qn ?_
      refine D_q rfl rfl ?_
      (refine s_quo' rfl rfl rfl ?hx ?_; case hx => (refine ⟨?_, ?_, ?_⟩ <;> omega))
      rw [← hix]
      refine D_qn ?_
      refine D_q rfl rfl ?_
      (refine s_indexAddr1 El35 rfl rfl rfl ?hx ?_; case hx => (constructor <;> first | omega | (simp; omega)))
      refine D_qn ?_
      refine D_q rfl rfl ?_
      refine s_load Tryd.isAgg5 rfl rfl (hs.cell (k := 3) (v := .int .u8 z) rfl (by rw [Int.toNat_natCast, List.getElem?_append_left (by simpa using hixl), List.getElem?_map, hz]; rfl)) ?_
      refine D_qn ?_
      refine D_q rfl rfl ?_
      refine s_move rfl rfl ?_
      refine D_qn ?_
      refine D_q rfl rfl ?_
      first | (refine s_rem' rfl rfl rfl ?hx ?_; case hx => (refine ⟨?_, ?_⟩ <;> omega)) | (refine s_rem rfl rfl rfl ?hx ?_; case hx => omega)
      refine D_qn ?_
      refine D_q rfl rfl ?_
      (refine s_shr rfl rfl rfl ?hx ?_; case hx => omega)
      refine D_qn ?_
      refine D_q rfl rfl ?_
      refine s_xor rfl rfl rfl ?_
      rw [show min (bi % 8).toNat IntKind.u8.bits = min (bi % 8).toNat 8 from rfl, hx8.1]
      refine D_qn ?_
      refine D_q rfl rfl ?_
      (refine s_indexAddr1 El35 rfl rfl rfl ?hx ?_; case hx => (constructor <;> first | omega | (simp; omega)))
      refine D_qn ?_
      refine D_e rfl ?_
      refine s_store Tryd.sizeOf5 rfl rfl rfl hs (kk := 3) rfl (by simp; omega) ?_
      clear hs; intro w hs
      simp only [List.set_cons_zero, List.set_cons_succ, Int.toNat_natCast] at hs
      rw [List.set_append_left _ _ (by simp; omega), ← List.map_set] at hs
      have hF : invF (D.c f) (D.d f) bi = (D.c f).set (D.d f + ix) (xbit z (bi % 8).toNat) := by
        rw [invF, if_pos (by omega), show (bi / 8).toNat = ix by omega, List.getD_eq_getElem?_getD, hz]; rfl
      have hlk : lookI f es1 = some (cont (.slice (some ⟨g, 0, none⟩) (D.c f).length c1) (D.d f)) := by
        cases hq : lookI f es1 with
        | some u => rw [hq] at hlk1; rw [← hlk1]; rfl
        | none => rw [hq] at hlk1; simp at hlk1
      obtain ⟨L2, hfin, hDf⟩ := hP1.back (D.set f (invF (D.c f) (D.d f) bi) (D.d f)) (.slice (some ⟨g, 0, none⟩) (D.c f).length c1) (invF (D.c f) (D.d f) bi) (D.d f) [(g, Blk 5 (u8s ((D.c f).set (D.d f + ix) (xbit z (bi % 8).toNat)) ++ sp))] q1 (by
        rw [invF_length, hF]
        obtain ⟨h1, ⟨⟨a', h2⟩, h3, h4⟩ | ⟨b, cap', sp', h2, h3, h4, h5, h6⟩⟩ := hO1
        · omega
        · cases h2
          have h8 : sp = sp' := by simpa using h6
          subst h8
          exact ⟨by simp, .inr ⟨g, _, sp, rfl, h3, h4, by simpa using h5, rfl⟩⟩) hfm (by rw [invF_length]; exact hdur) (invF_isB hP1.byt) rfl rfl (by
        refine ⟨⟨?_, hgd.2.1, hgd.2.2⟩, hP1.good.2⟩
        have := total_set (D := D) (bs := invF (D.c f) (D.d f) bi) (d := D.d f) hfm
        rw [invF_length] at this
        show _ ≤ D.room; omega) (by rw [invF_length, if_neg (by omega), updI_same hlk]; exact hM1) _ _ w [] (by
        have h1 := hs.tail
        have : total (D.set f (invF (D.c f) (D.d f) bi) (D.d f)).c = total D.c := by
          have := total_set (D := D) (bs := invF (D.c f) (D.d f) bi) (d := D.d f) hfm
          rw [invF_length] at this; omega
        simp only [dkCells, this, List.nil_append, List.cons_append]; exact h1)
      rw [List.nil_append] at hfin
      rw [invL_neg _ _ _ (hfo.set (by rw [invF_length]; exact hdur)) (by omega)] at hinv
      refine D_en ?re ?_
      case re =>
        exact Reks_nil
      refine D_nil ?_
      refine n_then ?_
      refine W_ret ?_
      refine r_then ?_
      refine r_blk ?_
      refine r_then ?_
      refine r_then ?_
      refine r_blk ?_
      rw [← hinv]
      exact end0 rfl ⟨_, hfin, hDf⟩
    · skip
      try simp only [decide_eq_true_eq, decide_eq_false_iff_not, gt_iff_lt] at hc31
      refine W_skip ?_
      refine n_then ?_
      refine W_region ?_
      refine s_move rfl rfl ?_
      refine s_move rfl rfl ?_
      refine s_len rfl rfl (LN35 _ _ _ _) ?_
      first | (refine s_mul' rfl rfl rfl ?hx ?_; case hx => (constructor <;> first | omega | (simp only; omega))) | refine s_mul rfl rfl rfl ?_
      first | (refine s_sub' rfl rfl rfl ?hx ?_; case hx => (constructor <;> first | omega | (simp only; omega))) | refine s_sub rfl rfl rfl ?_
      refine s_assign rfl rfl ?_
      refine WL_nil ?_
      refine n_blk ?_
      refine n_then ?_
      refine W_region ?_
      first | (refine s_add' rfl rfl rfl ?hx ?_; case hx => (constructor <;> first | omega | (simp only; omega))) | refine s_add rfl rfl rfl ?_
      refine s_move rfl rfl ?_
      refine WL_nil ?_
      refine n_loop ?_
      rw [invF_off (by omega), set_self] at hinv
      refine ⟨⟨i + 1, bi - (((D.c f).length - D.d f : Nat) : Int) * 8⟩, ⟨rfl, rfl, rfl, rfl, rfl, trivial⟩, ⟨hs.tail.perm hP1.perm.symm, hil, ⟨by simp only; omega, by simp only; omega⟩, ?_⟩, by simp only; omega⟩
      rw [← hinv]
      simp only
      congr 1
      omega
  · skip
    try simp only [decide_eq_true_eq, decide_eq_false_iff_not, gt_iff_lt] at hc13
    refine W_exit ?_
    refine x_then ?_
    refine x_then ?_
    refine exit_hit ?_
    rw [List.drop_eq_nil_of_le (by omega), invL] at hinv
    rw [← hinv]
    exact end0' rfl ⟨_, hs, hD⟩
end Go.Proofs.YtgppcfgnhahnaaaDoor
