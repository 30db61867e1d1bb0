/- Package block: Encode, Decode of what Encode wrote, Equal; the reference's generator of blocks. -/
import Derived.Test.YtgjjdlgbbgijgaaDoorCoG
import Derived.Test.YtgjjdlgbbgijgaaDoorHash
import Derived.Test.YtgjjdlgbbgijgaaDoorWirW
import Derived.Test.YtgjjdlgbbgijgaaDoorWirR
set_option linter.unusedVariables false
set_option linter.unusedSimpArgs false
namespace Go.SL
section
variable {P : Program} {n : Nat} {ops : Array Oper} {Q : Post} {l : Fr} {w : World} {rest : List Oper} {d ty : Nat} {pos : String} {aft : Array Edge}
theorem s_indexAddrN {x y : Operand} {t e len b o m : Nat} {kd : IntKind} {i : Int} (hu : P.underlying t = some (.array len e)) (hsz : ∀ w, (sizeOf e).run P w = .ok m w) (hd : Nat.blt d n = true) (hx : ev l x = some (.pointer (some ⟨b, o, none⟩))) (hy : ev l y = some (.int kd i)) (h : 0 ≤ i ∧ i < len)
    (k : WL P n ops Q rest ((d, .pointer (some ⟨b, o + i.toNat * m, none⟩)) :: l) w) : WL P n ops Q (⟨some d, .indexAddr t x y, ty, pos, aft, none⟩ :: rest) l w := WL_val hd (fun a ha => by
      simp [execOp, ha.eval hx, ha.eval hy, Instr.indexAt, asIntOf, run_underlying hu, Instr.sureAddr, h.1, h.2, hsz, Addr.add_lit]) k
end
theorem St.apartY {F : List Nat} {w0 w : World} {M L X : Hp} (h : St F w0 w (M ++ (L ++ X))) {b : Nat} (hb : b ∈ ids X) : b ∉ ids L := by
  have := h.right.nodup
  rw [ids_append] at this
  exact fun h2 => (List.nodup_append.1 this).2.2 b h2 b hb rfl
end Go.SL
namespace Go.Proofs.YtgjjdlgbbgijgaaDoor
open Go.SL
def pms : List Int := [0, 0, 1, 1073741824, 0, 1073741824, 1, 4096, 0, 1048576]
/-- the table of parameters, as the program's text lays it -/
def Pm (w : World) : Prop := ∀ j, j < 10 → w.cell? ⟨0, j, none⟩ = some (.int .i64 (pms.getD j 0))
theorem Pm.lt {w : World} (h : Pm w) : 0 < w.heap.size := World.block_lt_of_cell? w _ (h 0 (by decide))
theorem Pm.fwd {F : List Nat} {w0 w : World} (h : Pm w0) (hf : Fwd F w0 w) (hn : 0 ∉ F) : Pm w := fun j hj => by
  rw [World.cell?_of_block (hf.block _ h.lt hn)]; exact h j hj
theorem Pm.st {F : List Nat} {w0 w : World} {L : Hp} (h : Pm w0) (hs : St F w0 w L) (hn : 0 ∉ F) : Pm w := h.fwd hs.fwd hn
theorem Pm.at0 {w : World} (h : Pm w) {k : Nat} (hk : k < 5) : w.cell? ⟨0, 0 + ((k : Nat) : Int).toNat * 2 + (0 : Int).toNat, none⟩ = some (.int .i64 (pms.getD (2 * k) 0)) := by
  have := h (2 * k) (by omega)
  rw [show 0 + ((k : Nat) : Int).toNat * 2 + (0 : Int).toNat = 2 * k by simp; omega]; exact this
theorem Pm.at1 {w : World} (h : Pm w) {k : Nat} (hk : k < 5) : w.cell? ⟨0, 0 + ((k : Nat) : Int).toNat * 2 + (1 : Int).toNat, none⟩ = some (.int .i64 (pms.getD (2 * k + 1) 0)) := by
  have := h (2 * k + 1) (by omega)
  rw [show 0 + ((k : Nat) : Int).toNat * 2 + (1 : Int).toNat = 2 * k + 1 by simp; omega]; exact this
/-- a block but for its claims -/
structure Bk where
  s : Int
  k : Nat
  p : Int
  c : Int
def Bk.good (b : Bk) : Prop := 0 ≤ b.s ∧ b.s < 5 ∧ b.k < 5 ∧ ((b.k = 0 ∧ b.p = 0 ∧ b.c = 0) ∨ (1 ≤ b.k ∧ 1 ≤ b.p ∧ b.p ≤ 4000 ∧ 0 ≤ b.c ∧ b.c < 1073741824))
theorem Bk.good.pm {b : Bk} (h : b.good) : pms.getD (2 * b.k) 0 ≤ b.p ∧ b.p ≤ pms.getD (2 * b.k + 1) 0 := by
  obtain ⟨_, _, h3, h4⟩ := h
  obtain ⟨s, k, p, c⟩ := b
  simp only at h3 h4 ⊢
  match k, h3 with
  | 0, _ => rcases h4 with ⟨_, h, _⟩ | ⟨h, _⟩ <;> simp [pms] <;> omega
  | 1, _ => rcases h4 with ⟨h, _⟩ | ⟨_, h1, h2, _⟩ <;> simp [pms] <;> omega
  | 2, _ => rcases h4 with ⟨h, _⟩ | ⟨_, h1, h2, _⟩ <;> simp [pms] <;> omega
  | 3, _ => rcases h4 with ⟨h, _⟩ | ⟨_, h1, h2, _⟩ <;> simp [pms] <;> omega
  | 4, _ => rcases h4 with ⟨h, _⟩ | ⟨_, h1, h2, _⟩ <;> simp [pms] <;> omega
def Bk.cells (b : Bk) (v : Value) : List Value := [.int .i64 b.s, .int .i64 (b.k : Int), .int .i64 b.p, .int .i64 b.c, v]
theorem valid_ok (b : Bk) (hb : b.good) (a : Option Addr) (m c : Nat) (w0 : World) (hp : Pm w0) :
    Ret Tryd.prog 22 [.agg (b.cells (.slice a m c)).toArray].toArray w0 fun r w' => Fwd [] w0 w' ∧ r = .bool true := by
  obtain ⟨hq1, hq2⟩ := hb.pm
  obtain ⟨h1, h2, h3, h4⟩ := hb
  refine Ret_start fun w hs => ?_
  refine Ret_of Tryd.func22 rfl Tryd.ntmps22 rfl ?_
  refine W_seq ?_
  refine W_region ?_
  first | refine s_box rfl rfl hs ?_ | refine s_box1 rfl rfl rfl hs ?_
  clear hs; intro b1 w hs
  refine s_assign rfl rfl ?_
  refine WL_nil ?_
  refine n_then ?_
  refine W_seq ?_
  refine W_seq ?_
  refine W_region ?_
  refine s_fieldAddr rfl rfl (FA32_0 _ _) ?_
  first
    | refine s_load Tryd.isAgg3 rfl rfl (hs.cell (k := 0) rfl rfl) ?_
    | refine s_load Tryd.isAgg3 rfl rfl ((hp.st hs (by simp)).at0 h3) ?_
    | refine s_load Tryd.isAgg3 rfl rfl ((hp.st hs (by simp)).at1 h3) ?_
  refine s_lss rfl rfl rfl ?_
  refine s_move rfl rfl ?_
  refine WL_know (s := 6) (c := false) rfl ((by simp; omega)) ?_
  refine WL_take rfl ?_
  refine s_fieldAddr rfl rfl (FA32_0 _ _) ?_
  refine WL_take rfl ?_
  first
    | refine s_load Tryd.isAgg3 rfl rfl (hs.cell (k := 0) rfl rfl) ?_
    | refine s_load Tryd.isAgg3 rfl rfl ((hp.st hs (by simp)).at0 h3) ?_
    | refine s_load Tryd.isAgg3 rfl rfl ((hp.st hs (by simp)).at1 h3) ?_
  refine WL_take rfl ?_
  refine s_geq rfl rfl rfl ?_
  refine s_pick_f rfl rfl rfl ?_
  refine s_move rfl rfl ?_
  refine WL_know (s := 11) (c := false) rfl ((by simp; omega)) ?_
  refine WL_take rfl ?_
  refine s_fieldAddr rfl rfl (FA32_1 _ _) ?_
  refine WL_take rfl ?_
  first
    | refine s_load Tryd.isAgg3 rfl rfl (hs.cell (k := 0) rfl rfl) ?_
    | refine s_load Tryd.isAgg3 rfl rfl ((hp.st hs (by simp)).at0 h3) ?_
    | refine s_load Tryd.isAgg3 rfl rfl ((hp.st hs (by simp)).at1 h3) ?_
  refine WL_take rfl ?_
  refine s_lss rfl rfl rfl ?_
  refine s_pick_f rfl rfl rfl ?_
  refine s_move rfl rfl ?_
  refine WL_know (s := 16) (c := false) rfl ((by simp)) ?_
  refine WL_take rfl ?_
  refine s_fieldAddr rfl rfl (FA32_1 _ _) ?_
  refine WL_take rfl ?_
  first
    | refine s_load Tryd.isAgg3 rfl rfl (hs.cell (k := 0) rfl rfl) ?_
    | refine s_load Tryd.isAgg3 rfl rfl ((hp.st hs (by simp)).at0 h3) ?_
    | refine s_load Tryd.isAgg3 rfl rfl ((hp.st hs (by simp)).at1 h3) ?_
  refine WL_take rfl ?_
  refine s_gtr rfl rfl rfl ?_
  refine s_pick_f rfl rfl rfl ?_
  refine WL_nil ?_
  refine n_then ?_
  refine W_cond_kf rfl ((by simp; omega)) ?_
  refine W_skip ?_
  refine n_then ?_
  refine W_seq ?_
  refine W_seq ?_
  refine W_draw [(0, true, []), (1, true, []), (2, true, []), (3, true, []), (4, true, []), (5, true, []), (6, true, []), (7, true, []), (8, true, []), (9, true, []), (10, true, []), (11, true, []), (12, true, []), (13, true, []), (14, true, []), (15, true, []), (16, true, []), (17, true, [])] [[], [0], [], [2], [2, 3], [2, 3, 4], [2, 3, 4, 5], [0, 1, 2, 3, 4, 5, 6], [0, 1, 2, 3, 4, 5, 6, 7], [0, 1, 2, 3, 4, 5, 6, 7, 8], [0, 1, 2, 3, 4, 5, 6, 7, 8, 9], [0, 1, 2, 3, 4, 5, 6, 7, 8], [0, 1, 2, 3, 4, 5, 6, 7, 8, 11], [0, 1, 2, 3, 4, 5, 6, 7, 8, 11, 12], [0, 1, 2, 3, 4, 5, 6, 7, 8, 11, 12, 13], [0, 1, 2, 3, 4, 5, 6, 7, 8, 11, 12, 13, 14], [0, 1, 2, 3, 4, 5, 6, 7, 8, 9, 10, 11, 12, 13, 14, 15], [0, 1, 2, 3, 4, 5, 6, 7, 8, 9, 10, 11, 12, 13, 14, 15, 16]] MX (by kernel_rfl) ?_
  intro w1 hw1 hw2 hw3 hw4; replace hs := hs.redrawn hw1 hw2 hw3 hw4; clear hw1 hw2 hw3 hw4
  obtain ⟨w, rfl⟩ : ∃ w : World, w = w1 := ⟨_, rfl⟩
  refine D_q rfl rfl ?_
  refine s_fieldAddr rfl rfl (FA32_2 _ _) ?_
  refine D_qn ?_
  refine D_q rfl rfl ?_
  first
    | refine s_load Tryd.isAgg3 rfl rfl (hs.cell (k := 0) rfl rfl) ?_
    | refine s_load Tryd.isAgg3 rfl rfl ((hp.st hs (by simp)).at0 h3) ?_
    | refine s_load Tryd.isAgg3 rfl rfl ((hp.st hs (by simp)).at1 h3) ?_
  refine D_qn ?_
  refine D_q rfl rfl ?_
  refine s_fieldAddr rfl rfl (FA32_1 _ _) ?_
  refine D_qn ?_
  refine D_q rfl rfl ?_
  first
    | refine s_load Tryd.isAgg3 rfl rfl (hs.cell (k := 0) rfl rfl) ?_
    | refine s_load Tryd.isAgg3 rfl rfl ((hp.st hs (by simp)).at0 h3) ?_
    | refine s_load Tryd.isAgg3 rfl rfl ((hp.st hs (by simp)).at1 h3) ?_
  refine D_qn ?_
  refine D_q rfl rfl ?_
  (refine s_indexAddrN Tryd.underlying86 Tryd.sizeOf85 rfl rfl rfl ?hx ?_; case hx => (constructor <;> omega))
  refine D_qn ?_
  refine D_q rfl rfl ?_
  (refine s_indexAddrA Tryd.underlying85 Tryd.sizeOf3 rfl rfl rfl ?hx ?_; case hx => (constructor <;> omega))
  refine D_qn ?_
  refine D_q rfl rfl ?_
  first
    | refine s_load Tryd.isAgg3 rfl rfl (hs.cell (k := 0) rfl rfl) ?_
    | refine s_load Tryd.isAgg3 rfl rfl ((hp.st hs (by simp)).at0 h3) ?_
    | refine s_load Tryd.isAgg3 rfl rfl ((hp.st hs (by simp)).at1 h3) ?_
  refine D_qn ?_
  refine D_q rfl rfl ?_
  refine s_lss rfl rfl rfl ?_
  refine D_qn ?_
  refine D_q rfl rfl ?_
  refine s_move rfl rfl ?_
  refine WL_know (s := 29) (c := false) rfl ((by simp only [decide_eq_false_iff_not]; omega)) ?_
  refine D_qn ?_
  refine D_q rfl rfl ?_
  refine WL_take rfl ?_
  refine s_fieldAddr rfl rfl (FA32_2 _ _) ?_
  refine D_qn ?_
  refine D_q rfl rfl ?_
  refine WL_take rfl ?_
  first
    | refine s_load Tryd.isAgg3 rfl rfl (hs.cell (k := 0) rfl rfl) ?_
    | refine s_load Tryd.isAgg3 rfl rfl ((hp.st hs (by simp)).at0 h3) ?_
    | refine s_load Tryd.isAgg3 rfl rfl ((hp.st hs (by simp)).at1 h3) ?_
  refine D_qn ?_
  refine D_q rfl rfl ?_
  refine WL_take rfl ?_
  refine s_fieldAddr rfl rfl (FA32_1 _ _) ?_
  refine D_qn ?_
  refine D_q rfl rfl ?_
  refine WL_take rfl ?_
  first
    | refine s_load Tryd.isAgg3 rfl rfl (hs.cell (k := 0) rfl rfl) ?_
    | refine s_load Tryd.isAgg3 rfl rfl ((hp.st hs (by simp)).at0 h3) ?_
    | refine s_load Tryd.isAgg3 rfl rfl ((hp.st hs (by simp)).at1 h3) ?_
  refine D_qn ?_
  refine D_q rfl rfl ?_
  refine WL_take rfl ?_
  (refine s_indexAddrN Tryd.underlying86 Tryd.sizeOf85 rfl rfl rfl ?hx ?_; case hx => (constructor <;> omega))
  refine D_qn ?_
  refine D_q rfl rfl ?_
  refine WL_take rfl ?_
  (refine s_indexAddrA Tryd.underlying85 Tryd.sizeOf3 rfl rfl rfl ?hx ?_; case hx => (constructor <;> omega))
  refine D_qn ?_
  refine D_q rfl rfl ?_
  refine WL_take rfl ?_
  first
    | refine s_load Tryd.isAgg3 rfl rfl (hs.cell (k := 0) rfl rfl) ?_
    | refine s_load Tryd.isAgg3 rfl rfl ((hp.st hs (by simp)).at0 h3) ?_
    | refine s_load Tryd.isAgg3 rfl rfl ((hp.st hs (by simp)).at1 h3) ?_
  refine D_qn ?_
  refine D_q rfl rfl ?_
  refine WL_take rfl ?_
  refine s_gtr rfl rfl rfl ?_
  refine D_qn ?_
  refine D_q rfl rfl ?_
  refine s_pick_f rfl rfl rfl ?_
  refine D_qn ?_
  refine D_nil ?_
  refine n_then ?_
  refine W_cond_kf rfl ((by simp only [decide_eq_false_iff_not]; omega)) ?_
  refine W_skip ?_
  refine n_then ?_
  refine W_seq ?_
  refine W_region ?_
  refine s_fieldAddr rfl rfl (FA32_3 _ _) ?_
  first
    | refine s_load Tryd.isAgg3 rfl rfl (hs.cell (k := 0) rfl rfl) ?_
    | refine s_load Tryd.isAgg3 rfl rfl ((hp.st hs (by simp)).at0 h3) ?_
    | refine s_load Tryd.isAgg3 rfl rfl ((hp.st hs (by simp)).at1 h3) ?_
  refine s_geq rfl rfl rfl ?_
  refine s_move rfl rfl ?_
  refine WL_know (s := 42) (c := true) rfl ((by simp; omega)) ?_
  refine WL_take rfl ?_
  refine s_fieldAddr rfl rfl (FA32_3 _ _) ?_
  refine WL_take rfl ?_
  first
    | refine s_load Tryd.isAgg3 rfl rfl (hs.cell (k := 0) rfl rfl) ?_
    | refine s_load Tryd.isAgg3 rfl rfl ((hp.st hs (by simp)).at0 h3) ?_
    | refine s_load Tryd.isAgg3 rfl rfl ((hp.st hs (by simp)).at1 h3) ?_
  refine WL_take rfl ?_
  refine s_leq rfl rfl rfl ?_
  refine s_pick_t rfl rfl rfl ?_
  refine s_move rfl rfl ?_
  refine WL_know (s := 47) (c := true) rfl ((by simp; omega)) ?_
  refine WL_take rfl ?_
  refine s_fieldAddr rfl rfl (FA32_1 _ _) ?_
  refine WL_take rfl ?_
  first
    | refine s_load Tryd.isAgg3 rfl rfl (hs.cell (k := 0) rfl rfl) ?_
    | refine s_load Tryd.isAgg3 rfl rfl ((hp.st hs (by simp)).at0 h3) ?_
    | refine s_load Tryd.isAgg3 rfl rfl ((hp.st hs (by simp)).at1 h3) ?_
  refine WL_take rfl ?_
  refine s_neq rfl rfl rfl ?_
  refine WL_take rfl ?_
  refine s_move rfl rfl ?_
  refine WL_case (s := 51) rfl (fun hg51 => ?_) (fun hg51 => ?_)
  · skip
    simp only [decide_eq_true_eq, decide_eq_false_iff_not, bne_iff_ne, ne_eq, bne_eq_false_iff_eq] at hg51
    refine WL_skip rfl rfl rfl ?_
    refine WL_skip rfl rfl rfl ?_
    refine WL_skip rfl rfl rfl ?_
    refine WL_take rfl ?_
    refine s_pick_t rfl rfl rfl ?_
    refine s_pick_t rfl rfl rfl ?_
    refine s_assign rfl rfl ?_
    refine WL_nil ?_
    refine n_then ?_
    refine W_ret ?_
    first
      | (refine end1 rfl rfl ⟨hs.tail.fwd, ?_⟩
         first
           | rfl
           | (congr 1; simp; omega))
  · skip
    simp only [decide_eq_true_eq, decide_eq_false_iff_not, bne_iff_ne, ne_eq, bne_eq_false_iff_eq] at hg51
    refine WL_take rfl ?_
    refine s_fieldAddr rfl rfl (FA32_3 _ _) ?_
    refine WL_take rfl ?_
    first
      | refine s_load Tryd.isAgg3 rfl rfl (hs.cell (k := 0) rfl rfl) ?_
      | refine s_load Tryd.isAgg3 rfl rfl ((hp.st hs (by simp)).at0 h3) ?_
      | refine s_load Tryd.isAgg3 rfl rfl ((hp.st hs (by simp)).at1 h3) ?_
    refine WL_take rfl ?_
    refine s_eql rfl rfl rfl ?_
    refine WL_take rfl ?_
    refine s_pick_f rfl rfl rfl ?_
    refine s_pick_t rfl rfl rfl ?_
    refine s_assign rfl rfl ?_
    refine WL_nil ?_
    refine n_then ?_
    refine W_ret ?_
    first
      | (refine end1 rfl rfl ⟨hs.tail.fwd, ?_⟩
         first
           | rfl
           | (congr 1; simp; omega))
/-! bytes -/
def lab : List Int := bytesOf ⟨#[98, 108, 111, 99, 107]⟩
def coreB (b : Bk) (cl : List Cl) : List Int := uvar (zz b.s) ++ uvar (zz (b.k : Int)) ++ uvar (zz b.p) ++ uvar (zz b.c) ++ uvar (pk (encB cl)).length ++ pk (encB cl)
def blkB (mx : Nat → Nat → Nat) (b : Bk) (cl : List Cl) : List Int := uvar (coreB b cl).length ++ coreB b cl ++ uvar (hashV mx lab (coreB b cl))
theorem hashV_lt {mx : Nat → Nat → Nat} (hmx : IsMix mx) (l bs : List Int) : hashV mx l bs < 18446744073709551616 := by unfold hashV sumV sumG; exact hmx.lt _ _
theorem pk_isB' (bs : List Bool) : ∀ b ∈ pk bs, isB b := by
  intro b hb
  obtain ⟨j, _, rfl⟩ := List.mem_map.1 hb
  have := byteAt_lt bs j
  unfold isB; omega
theorem Bk.good.i64 {b : Bk} (h : b.good) : isI64 b.s ∧ isI64 (b.k : Int) ∧ isI64 b.p ∧ isI64 b.c := by
  obtain ⟨h1, h2, h3, h4⟩ := h
  unfold isI64; omega
theorem coreB_len {b : Bk} {cl : List Cl} (hb : b.good) (hl : cl.length ≤ 9) : (coreB b cl).length ≤ 400 := by
  obtain ⟨h1, h2, h3, h4⟩ := hb.i64
  have e1 := uvar_len10 (zz_lt h1); have e2 := uvar_len10 (zz_lt h2); have e3 := uvar_len10 (zz_lt h3); have e4 := uvar_len10 (zz_lt h4)
  have h5 := encB_length cl; have h6 := pk_length (encB cl)
  have e5 := uvar_len10 (n := (pk (encB cl)).length) (by omega)
  simp only [coreB, List.length_append]; omega
theorem coreB_isB (b : Bk) (cl : List Cl) : ∀ z ∈ coreB b cl, isB z := by
  intro z hz
  simp only [coreB, List.mem_append] at hz
  rcases hz with ((((hz | hz) | hz) | hz) | hz) | hz
  · exact uvar_isB _ z hz
  · exact uvar_isB _ z hz
  · exact uvar_isB _ z hz
  · exact uvar_isB _ z hz
  · exact uvar_isB _ z hz
  · exact pk_isB' _ z hz
theorem blkB_len {mx : Nat → Nat → Nat} (hmx : IsMix mx) {b : Bk} {cl : List Cl} (hb : b.good) (hl : cl.length ≤ 9) : (blkB mx b cl).length ≤ 420 := by
  have h1 := coreB_len hb hl
  have e1 := uvar_len10 (n := (coreB b cl).length) (by omega)
  have e2 := uvar_len10 (hashV_lt hmx lab (coreB b cl))
  simp only [blkB, List.length_append]; omega
theorem blkB_isB (mx : Nat → Nat → Nat) (b : Bk) (cl : List Cl) : ∀ z ∈ blkB mx b cl, isB z := by
  intro z hz
  simp only [blkB, List.mem_append] at hz
  rcases hz with (hz | hz) | hz
  · exact uvar_isB _ z hz
  · exact coreB_isB b cl z hz
  · exact uvar_isB _ z hz
theorem blkSum_ok {mx : Nat → Nat → Nat} (hmx : IsMix mx) (v : Value) (bs : List Int) (w0 : World) (hv : Sl w0 v bs.length (u8s bs)) (hb : ∀ z ∈ bs, isB z) (hl : bs.length ≤ 4294967296) :
    Ret Tryd.prog 25 [v].toArray w0 fun r w' => Fwd [] w0 w' ∧ r = .int .u64 (hashV mx lab bs : Int) := by
  refine Ret_start fun w hs => ?_
  refine Ret_of Tryd.func25 rfl Tryd.ntmps25 rfl ?_
  refine W_seq ?_
  refine W_region ?_
  refine s_assign rfl rfl ?_
  refine WL_nil ?_
  refine n_then ?_
  refine W_seq ?_
  refine W_region ?_
  refine s_move rfl rfl ?_
  refine s_call Tryd.call43 rfl rfl (hBytes_ok hmx ⟨#[98, 108, 111, 99, 107]⟩ v bs w (hv.fwd0 hs.fwd) hb (by decide) hl) ?_
  rintro r w ⟨hst, rfl⟩
  replace hs := hs.fwd1 hst
  clear hst
  refine s_assign rfl rfl ?_
  refine WL_nil ?_
  refine n_then ?_
  refine W_ret ?_
  exact end1 rfl rfl ⟨hs.fwd, rfl⟩
set_option maxHeartbeats 2000000 in
theorem blEncode_ok {mx : Nat → Nat → Nat} (hmx : IsMix mx) (b : Bk) (hb : b.good) (v : Value) (cl : List Cl) (w0 : World) (hg : Wd w0) (hp : Pm w0) (hv : Sl w0 v cl.length (cls cl)) (hok : ∀ x ∈ cl, x.ok) (hl : cl.length ≤ 9) :
    Ret Tryd.prog 6 [.agg (b.cells v).toArray].toArray w0 fun r w' => ∃ u Lr, r = .tuple #[u, .int .i64 0] ∧ OwnS 5 1 u (blkB mx b cl).length (u8s (blkB mx b cl)) Lr ∧ St [] w0 w' Lr := by
  obtain ⟨a, c, rfl, hc⟩ := hv.len_le
  obtain ⟨i1, i2, i3, i4⟩ := hb.i64
  have e1 := uvar_len10 (zz_lt i1); have e2 := uvar_len10 (zz_lt i2); have e3 := uvar_len10 (zz_lt i3); have e4 := uvar_len10 (zz_lt i4)
  have h5 := encB_length cl; have h6 := pk_length (encB cl)
  have hcl := coreB_len hb hl
  have hbl := blkB_len hmx hb hl
  refine Ret_start fun w hs => ?_
  refine Ret_of Tryd.func6 rfl Tryd.ntmps6 rfl ?_
  refine W_seq ?_
  refine W_region ?_
  first | refine s_box rfl rfl hs ?_ | refine s_box1 rfl rfl rfl hs ?_
  clear hs; intro b1 w hs
  refine s_assign rfl rfl ?_
  refine s_assign rfl rfl ?_
  refine WL_nil ?_
  refine n_then ?_
  refine W_seq ?_
  refine W_seq ?_
  refine W_region ?_
  first
    | refine s_loadW Tryd.isAgg32 Tryd.sizeOf32 rfl rfl hs (kk := 0) rfl rfl ?_
    | refine s_loadW Tryd.isAgg32 Tryd.sizeOf32 rfl rfl hs (kk := 1) rfl rfl ?_
    | refine s_loadW Tryd.isAgg32 Tryd.sizeOf32 rfl rfl hs (kk := 2) rfl rfl ?_
    | refine s_loadW Tryd.isAgg32 Tryd.sizeOf32 rfl rfl hs (kk := 3) rfl rfl ?_
    | refine s_load_5 Tryd.isAgg32 Tryd.sizeOf32 rfl rfl (by first | exact hs.cell (k := 0) rfl rfl | exact hs.cell (k := 1) rfl rfl | exact hs.cell (k := 2) rfl rfl | exact hs.cell (k := 3) rfl rfl) (by first | exact hs.cell (k := 0) rfl rfl | exact hs.cell (k := 1) rfl rfl | exact hs.cell (k := 2) rfl rfl | exact hs.cell (k := 3) rfl rfl) (by first | exact hs.cell (k := 0) rfl rfl | exact hs.cell (k := 1) rfl rfl | exact hs.cell (k := 2) rfl rfl | exact hs.cell (k := 3) rfl rfl) (by first | exact hs.cell (k := 0) rfl rfl | exact hs.cell (k := 1) rfl rfl | exact hs.cell (k := 2) rfl rfl | exact hs.cell (k := 3) rfl rfl) (by first | exact hs.cell (k := 0) rfl rfl | exact hs.cell (k := 1) rfl rfl | exact hs.cell (k := 2) rfl rfl | exact hs.cell (k := 3) rfl rfl) ?_
  refine s_call Tryd.call22 rfl rfl (valid_ok b hb a _ c w (hp.st hs (by simp))) ?_
  rintro r w ⟨hst, rfl⟩
  replace hs := hs.fwd1 hst
  clear hst
  refine s_not rfl rfl ?_
  refine WL_nil ?_
  refine n_then ?_
  refine W_cond_kf rfl (rfl) ?_
  refine W_skip ?_
  refine n_then ?_
  refine W_seq ?_
  refine W_region ?_
  refine s_fieldAddr rfl rfl (FA32_4 _ _) ?_
  first
    | refine s_load Tryd.isAgg28 rfl rfl (hs.cell (k := 0) rfl rfl) ?_
    | refine s_load Tryd.isAgg28 rfl rfl (hs.cell (k := 1) rfl rfl) ?_
    | refine s_load Tryd.isAgg28 rfl rfl (hs.cell (k := 2) rfl rfl) ?_
    | refine s_load Tryd.isAgg28 rfl rfl (hs.cell (k := 3) rfl rfl) ?_
  refine s_call Tryd.call23 rfl rfl (coEncode_ok _ cl w (hg.st hs (by simp)) (hv.fwd0 hs.fwd) hok (by omega)) ?_
  rintro r w ⟨ub, Lb, rfl, hOb, hst⟩
  replace hs := (St.back0 hs hst).swap
  clear hst
  simp only [List.cons_append, List.nil_append] at hs
  obtain ⟨_, kb, ab, rfl, hvb⟩ := hOb.form
  subst hvb
  refine s_move rfl rfl ?_
  refine s_extract rfl rfl rfl ?_
  refine s_extract rfl rfl rfl ?_
  refine s_assign rfl rfl ?_
  refine s_assign rfl rfl ?_
  refine WL_nil ?_
  refine n_then ?_
  refine W_seq ?_
  refine W_seq ?_
  refine W_region ?_
  refine s_move rfl rfl ?_
  refine s_neq rfl rfl rfl ?_
  refine WL_nil ?_
  refine n_then ?_
  refine W_cond_kf rfl (rfl) ?_
  refine W_skip ?_
  refine n_then ?_
  refine W_seq ?_
  refine W_region ?_
  refine s_alloc rfl AL37 hs ?_; clear hs; intro b6 w hs
  refine s_alloc rfl AL37 hs ?_; clear hs; intro b7 w hs
  refine WL_nil ?_
  refine n_then ?_
  refine W_seq ?_
  refine W_region ?_
  refine s_fieldAddr rfl rfl (FA32_0 _ _) ?_
  first
    | refine s_load Tryd.isAgg3 rfl rfl (hs.cell (k := 0) rfl rfl) ?_
    | refine s_load Tryd.isAgg3 rfl rfl (hs.cell (k := 1) rfl rfl) ?_
    | refine s_load Tryd.isAgg3 rfl rfl (hs.cell (k := 2) rfl rfl) ?_
    | refine s_load Tryd.isAgg3 rfl rfl (hs.cell (k := 3) rfl rfl) ?_
  replace hs : St [] w0 w ([_, _] ++ ([_] ++ Lb)) := St.reord [[_], [_], [_], Lb] [0, 2, 1, 3] [] hs rfl
  refine s_callL (M := [_, _]) (L1 := [_]) (X := Lb) Tryd.call7 rfl rfl hs (fun h => wInt_ok b6 [] b.s _ w (wr_new b6) h i1 (by simp)) ?_
  clear hs; rintro u w LW ⟨hW, rfl⟩ - hs
  simp only [List.nil_append] at hW
  refine WL_nil ?_
  refine n_then ?_
  refine W_seq ?_
  refine W_region ?_
  refine s_fieldAddr rfl rfl (FA32_1 _ _) ?_
  first
    | refine s_load Tryd.isAgg3 rfl rfl (hs.cell (k := 0) rfl rfl) ?_
    | refine s_load Tryd.isAgg3 rfl rfl (hs.cell (k := 1) rfl rfl) ?_
    | refine s_load Tryd.isAgg3 rfl rfl (hs.cell (k := 2) rfl rfl) ?_
    | refine s_load Tryd.isAgg3 rfl rfl (hs.cell (k := 3) rfl rfl) ?_
  refine s_callL (M := [_, _]) (L1 := LW) (X := Lb) Tryd.call7 rfl rfl hs (fun h => wInt_ok b6 _ (b.k : Int) _ w hW h i2 (by omega)) ?_
  clear hs hW; rintro u w LW ⟨hW, rfl⟩ - hs
  refine WL_nil ?_
  refine n_then ?_
  refine W_seq ?_
  refine W_region ?_
  refine s_fieldAddr rfl rfl (FA32_2 _ _) ?_
  first
    | refine s_load Tryd.isAgg3 rfl rfl (hs.cell (k := 0) rfl rfl) ?_
    | refine s_load Tryd.isAgg3 rfl rfl (hs.cell (k := 1) rfl rfl) ?_
    | refine s_load Tryd.isAgg3 rfl rfl (hs.cell (k := 2) rfl rfl) ?_
    | refine s_load Tryd.isAgg3 rfl rfl (hs.cell (k := 3) rfl rfl) ?_
  refine s_callL (M := [_, _]) (L1 := LW) (X := Lb) Tryd.call7 rfl rfl hs (fun h => wInt_ok b6 _ b.p _ w hW h i3 (by simp only [List.length_append]; omega)) ?_
  clear hs hW; rintro u w LW ⟨hW, rfl⟩ - hs
  refine WL_nil ?_
  refine n_then ?_
  refine W_seq ?_
  refine W_region ?_
  refine s_fieldAddr rfl rfl (FA32_3 _ _) ?_
  first
    | refine s_load Tryd.isAgg3 rfl rfl (hs.cell (k := 0) rfl rfl) ?_
    | refine s_load Tryd.isAgg3 rfl rfl (hs.cell (k := 1) rfl rfl) ?_
    | refine s_load Tryd.isAgg3 rfl rfl (hs.cell (k := 2) rfl rfl) ?_
    | refine s_load Tryd.isAgg3 rfl rfl (hs.cell (k := 3) rfl rfl) ?_
  refine s_callL (M := [_, _]) (L1 := LW) (X := Lb) Tryd.call7 rfl rfl hs (fun h => wInt_ok b6 _ b.c _ w hW h i4 (by simp only [List.length_append]; omega)) ?_
  clear hs hW; rintro u w LW ⟨hW, rfl⟩ - hs
  refine WL_nil ?_
  refine n_then ?_
  refine W_seq ?_
  refine W_region ?_
  refine s_move rfl rfl ?_
  refine s_callL (M := [_, _]) (L1 := LW) (X := Lb) Tryd.call8 rfl rfl hs (fun h => wRaw_ok b6 _ (pk (encB cl)) _ _ w hW h (OwnS_slIn hOb fun q hq => hs.own q (by simp [hq])) (fun a m c he hne => by cases he; exact St.apartY (M := [_, _]) (L := LW) (X := Lb) hs (OwnS_in hOb hne)) (by simp only [List.length_append]; omega) (by omega)) ?_
  clear hs hW; rintro u w LW ⟨hW, rfl⟩ - hs
  replace hW : WrAt b6 (coreB b cl) LW := hW
  refine WL_nil ?_
  refine n_then ?_
  refine W_seq ?_
  refine W_region ?_
  refine s_callL (M := [_, _]) (L1 := LW) (X := Lb) Tryd.call10 rfl rfl hs (fun h => wDone_ok b6 _ LW w hW h (by omega)) ?_
  clear hs; rintro u w L9 ⟨La, rfl, hOa⟩ - hs
  replace hs : St [] w0 w ([] ++ ([(b7, Blk 37 [.slice none 0 0])] ++ La)) := St.reord [[_], [_], LW, La, Lb] [0, 3] [1, 2, 4] (by simpa [cat] using hs) rfl
  obtain ⟨_, ka, aa, rfl, hva⟩ := hOa.form
  subst hva
  clear hW hOb
  refine s_assign rfl rfl ?_
  refine WL_nil ?_
  refine n_then ?_
  refine W_seq ?_
  refine W_region ?_
  refine s_move rfl rfl ?_
  refine s_callL (M := []) (L1 := [_]) (X := La) Tryd.call8 rfl rfl hs (fun h => wRaw_ok b7 [] (coreB b cl) _ _ w (wr_new b7) h (OwnS_slIn hOa fun q hq => hs.own q (by simp [hq])) (fun a m c he hne => by cases he; exact St.apartY (M := []) (L := [_]) (X := La) hs (OwnS_in hOa hne)) (by simp) (by omega)) ?_
  clear hs; rintro u w LW ⟨hW, rfl⟩ - hs
  simp only [List.nil_append] at hs hW
  refine WL_nil ?_
  refine n_then ?_
  refine W_seq ?_
  refine W_region ?_
  refine s_move rfl rfl ?_
  refine s_call Tryd.call25 rfl rfl (blkSum_ok hmx _ (coreB b cl) w (OwnS_slIn hOa fun q hq => hs.own q (by simp [hq])) (coreB_isB b cl) (by omega)) ?_
  rintro r w ⟨hst, rfl⟩
  replace hs := hs.fwd1 hst
  clear hst
  refine s_callL (M := []) (L1 := LW) (X := La) Tryd.call24 rfl rfl hs (fun h => wUint_ok b7 _ _ _ w hW h (hashV_lt hmx _ _) (by have := uvar_len10 (n := (coreB b cl).length) (by omega); simp only [List.length_append]; omega)) ?_
  clear hs hW; rintro u w LW ⟨hW, rfl⟩ - hs
  replace hW : WrAt b7 (blkB mx b cl) LW := hW
  refine WL_nil ?_
  refine n_then ?_
  refine W_seq ?_
  refine W_region ?_
  refine s_callL (M := []) (L1 := LW) (X := La) Tryd.call10 rfl rfl hs (fun h => wDone_ok b7 _ LW w hW h (by omega)) ?_
  clear hs; rintro u w L9 ⟨Lr, rfl, hOr⟩ - hs
  replace hs : St [] w0 w Lr := by simpa [cat] using St.reord [LW, Lr, La] [1] [0, 2] (by simpa [cat] using hs) rfl
  refine s_assign rfl rfl ?_
  refine s_assign rfl rfl ?_
  refine WL_nil ?_
  refine n_then ?_
  refine W_ret ?_
  exact end2 rfl rfl rfl ⟨u, Lr, rfl, hOr, hs⟩
/-! Decode -/
theorem raw_blk {mx : Nat → Nat → Nat} {b : Bk} {cl : List Cl} (hb : b.good) (hl : cl.length ≤ 9) : rdRaw ⟨blkB mx b cl, 0⟩ = (coreB b cl, ⟨uvar (hashV mx lab (coreB b cl)), 0⟩) := by
  have h1 := coreB_len hb hl
  unfold blkB
  rw [List.append_assoc]
  exact rdRaw_uvar (by omega)
theorem sum_blk {mx : Nat → Nat → Nat} (hmx : IsMix mx) {b : Bk} {cl : List Cl} : rdU ⟨uvar (hashV mx lab (coreB b cl)), 0⟩ = (hashV mx lab (coreB b cl), ⟨[], 0⟩) := by
  have := rdU_uvar (r := []) (hashV_lt hmx lab (coreB b cl))
  rw [List.append_nil] at this; exact this
def coreR (b : Bk) (cl : List Cl) : Nat → List Int
  | 0 => coreB b cl
  | 1 => uvar (zz (b.k : Int)) ++ (uvar (zz b.p) ++ (uvar (zz b.c) ++ (uvar (pk (encB cl)).length ++ (pk (encB cl) ++ []))))
  | 2 => uvar (zz b.p) ++ (uvar (zz b.c) ++ (uvar (pk (encB cl)).length ++ (pk (encB cl) ++ [])))
  | 3 => uvar (zz b.c) ++ (uvar (pk (encB cl)).length ++ (pk (encB cl) ++ []))
  | _ => uvar (pk (encB cl)).length ++ (pk (encB cl) ++ [])
theorem core_rd {b : Bk} {cl : List Cl} (hb : b.good) (hl : cl.length ≤ 9) : rdI ⟨coreR b cl 0, 0⟩ = (b.s, ⟨coreR b cl 1, 0⟩) ∧ rdI ⟨coreR b cl 1, 0⟩ = ((b.k : Int), ⟨coreR b cl 2, 0⟩) ∧ rdI ⟨coreR b cl 2, 0⟩ = (b.p, ⟨coreR b cl 3, 0⟩) ∧ rdI ⟨coreR b cl 3, 0⟩ = (b.c, ⟨coreR b cl 4, 0⟩) ∧ rdRaw ⟨coreR b cl 4, 0⟩ = (pk (encB cl), ⟨[], 0⟩) := by
  obtain ⟨h1, h2, h3, h4⟩ := hb.i64
  have h5 := encB_length cl; have h6 := pk_length (encB cl)
  refine ⟨?_, rdI_uvar h2, rdI_uvar h3, rdI_uvar h4, rdRaw_uvar (by omega)⟩
  have : coreR b cl 0 = uvar (zz b.s) ++ coreR b cl 1 := by simp [coreR, coreB]
  rw [this]; exact rdI_uvar h1
set_option maxHeartbeats 4000000 in
theorem blDecode_ok {mx : Nat → Nat → Nat} (hmx : IsMix mx) (b : Bk) (hb : b.good) (v : Value) (cl : List Cl) (w0 : World) (hg : Wd w0) (hp : Pm w0) (hv : Sl w0 v (blkB mx b cl).length (u8s (blkB mx b cl))) (hok : ∀ x ∈ cl, x.ok) (hl : cl.length ≤ 9) :
    Ret Tryd.prog 16 [v].toArray w0 fun r w' => ∃ u Lr, r = .tuple #[.agg (b.cells u).toArray, .int .i64 0] ∧ OwnS 82 4 u cl.length (cls cl) Lr ∧ St [] w0 w' Lr := by
  have hbl := blkB_len hmx hb hl
  have hcl := coreB_len hb hl
  have hrw := raw_blk (mx := mx) hb hl
  have hsm := sum_blk hmx (b := b) (cl := cl)
  obtain ⟨hr0, hr1, hr2, hr3, hr4⟩ := core_rd hb hl
  refine Ret_start fun w hs => ?_
  refine Ret_of Tryd.func16 rfl Tryd.ntmps16 rfl ?_
  refine W_seq ?_
  refine W_region ?_
  refine s_alloc rfl AL32 hs ?_; clear hs; intro b2 w hs
  refine s_assign rfl rfl ?_
  refine WL_nil ?_
  refine n_then ?_
  refine W_seq ?_
  refine W_region ?_
  refine s_move rfl rfl ?_
  refine s_call Tryd.call14 rfl rfl (read_ok v (blkB mx b cl) w (hv.fwd0 hs.fwd) (by omega) (blkB_isB mx b cl)) ?_
  rintro r w ⟨q, LR, rfl, hR, hst⟩
  replace hs := (St.back0 hs hst).swap
  clear hst
  simp only [List.cons_append, List.nil_append] at hs
  refine s_assign rfl rfl ?_
  refine WL_nil ?_
  refine n_then ?_
  refine W_seq ?_
  refine W_region ?_
  refine s_move rfl rfl ?_
  refine s_callL (M := [_]) (L1 := LR) (X := []) Tryd.call17 rfl rfl (by simpa using hs) (fun h => rRaw_ok q _ LR w hR h) ?_
  rw [hrw]
  clear hs hR; rintro u w L9 ⟨LR, Lc, rfl, hR, hOc⟩ - hs
  simp only [List.append_nil, List.cons_append, List.nil_append] at hs
  simp only at hR hOc
  obtain ⟨_, kc, ac, rfl, hvc⟩ := hOc.form
  subst hvc
  refine s_assign rfl rfl ?_
  refine WL_nil ?_
  refine n_then ?_
  refine W_seq ?_
  refine W_region ?_
  refine s_move rfl rfl ?_
  refine s_callL (M := [_]) (L1 := LR) (X := Lc) Tryd.call30 rfl rfl (by simpa using hs) (fun h => rUint_ok q _ LR w hR h) ?_
  rw [hsm]
  clear hs hR; rintro u w LR ⟨hR, rfl⟩ - hs
  simp only [List.cons_append, List.nil_append] at hs
  simp only at hR
  refine s_assign rfl rfl ?_
  refine WL_nil ?_
  refine n_then ?_
  refine W_seq ?_
  refine W_seq ?_
  refine W_region ?_
  refine s_move rfl rfl ?_
  refine s_callL (M := [_]) (L1 := LR) (X := Lc) Tryd.call18 rfl rfl (by simpa using hs) (fun h => rEnd_ok q _ LR w hR h) ?_
  rw [show rdEnd ⟨[], 0⟩ = 0 from rfl]
  clear hs; rintro u w L9 ⟨hL9, rfl⟩ - hs
  rw [hL9] at hs; clear hL9 L9
  simp only [List.cons_append, List.nil_append] at hs
  refine s_neq rfl rfl rfl ?_
  refine WL_nil ?_
  refine n_then ?_
  refine W_cond_kf rfl (rfl) ?_
  refine W_skip ?_
  refine n_then ?_
  refine W_seq ?_
  refine W_seq ?_
  refine W_region ?_
  refine s_move rfl rfl ?_
  refine s_move rfl rfl ?_
  refine s_call Tryd.call25 rfl rfl (blkSum_ok hmx _ (coreB b cl) w (OwnS_slIn hOc fun q hq => hs.own q (by simp [hq])) (coreB_isB b cl) (by omega)) ?_
  rintro r w ⟨hst, rfl⟩
  replace hs := hs.fwd1 hst
  clear hst
  refine s_neq rfl rfl rfl ?_
  refine WL_nil ?_
  refine n_then ?_
  refine W_cond_kf rfl ((by simp)) ?_
  refine W_skip ?_
  refine n_then ?_
  refine W_seq ?_
  refine W_region ?_
  refine s_move rfl rfl ?_
  refine s_call Tryd.call14 rfl rfl (read_ok _ (coreB b cl) w (OwnS_slIn hOc fun q hq => hs.own q (by simp [hq])) (by omega) (coreB_isB b cl)) ?_
  rintro r w ⟨q2, LQ, rfl, hQ, hst⟩
  replace hs : St [] w0 w ([_] ++ LQ) := St.reord [LQ, [_], LR, Lc] [1, 0] [2, 3] (by simpa [cat] using St.back0 hs hst) rfl
  clear hst hR hOc
  simp only [List.cons_append, List.nil_append] at hs
  replace hQ : RdAt q2 ⟨coreR b cl 0, 0⟩ LQ := hQ
  refine s_assign rfl rfl ?_
  refine WL_nil ?_
  refine n_then ?_
  refine W_seq ?_
  refine W_region ?_
  refine s_move rfl rfl ?_
  refine s_callL (M := [_]) (L1 := LQ) (X := []) Tryd.call15 rfl rfl (by simpa using hs) (fun h => rInt_ok q2 _ LQ w hQ h) ?_
  rw [hr0]
  clear hs hQ; rintro u w LQ ⟨hQ, rfl⟩ - hs
  simp only [List.append_nil, List.cons_append, List.nil_append] at hs
  simp only at hQ
  refine s_move rfl rfl ?_
  refine s_callL (M := [_]) (L1 := LQ) (X := []) Tryd.call15 rfl rfl (by simpa using hs) (fun h => rInt_ok q2 _ LQ w hQ h) ?_
  rw [hr1]
  clear hs hQ; rintro u w LQ ⟨hQ, rfl⟩ - hs
  simp only [List.append_nil, List.cons_append, List.nil_append] at hs
  simp only at hQ
  refine s_move rfl rfl ?_
  refine s_callL (M := [_]) (L1 := LQ) (X := []) Tryd.call15 rfl rfl (by simpa using hs) (fun h => rInt_ok q2 _ LQ w hQ h) ?_
  rw [hr2]
  clear hs hQ; rintro u w LQ ⟨hQ, rfl⟩ - hs
  simp only [List.append_nil, List.cons_append, List.nil_append] at hs
  simp only at hQ
  refine s_move rfl rfl ?_
  refine s_callL (M := [_]) (L1 := LQ) (X := []) Tryd.call15 rfl rfl (by simpa using hs) (fun h => rInt_ok q2 _ LQ w hQ h) ?_
  rw [hr3]
  clear hs hQ; rintro u w LQ ⟨hQ, rfl⟩ - hs
  simp only [List.append_nil, List.cons_append, List.nil_append] at hs
  simp only at hQ
  refine s_build rfl rfl (BD32_0_1_2_3 _ _ _ _) ?_
  refine s_alloc rfl AL32 hs ?_; clear hs; intro b8 w hs
  first
    | refine s_storeW Tryd.sizeOf32 rfl rfl rfl rfl hs (kk := 0) rfl rfl ?_
    | refine s_storeW Tryd.sizeOf32 rfl rfl rfl rfl hs (kk := 1) rfl rfl ?_
    | refine s_storeW Tryd.sizeOf32 rfl rfl rfl rfl hs (kk := 2) rfl rfl ?_
    | refine s_storeW Tryd.sizeOf32 rfl rfl rfl rfl hs (kk := 3) rfl rfl ?_
    | refine s_storeAB Tryd.sizeOf32 rfl rfl rfl rfl hs (kk := 0) rfl rfl ?_
    | refine s_storeAB Tryd.sizeOf32 rfl rfl rfl rfl hs (kk := 1) rfl rfl ?_
    | refine s_storeAB Tryd.sizeOf32 rfl rfl rfl rfl hs (kk := 2) rfl rfl ?_
    | refine s_storeAB Tryd.sizeOf32 rfl rfl rfl rfl hs (kk := 3) rfl rfl ?_
  clear hs; intro w hs; try simp only [List.set_cons_zero, List.set_cons_succ, splice, List.take_succ_cons, List.take_zero, List.drop_succ_cons, List.drop_zero, List.nil_append, List.cons_append, List.length_cons, List.length_nil, Nat.reduceAdd, List.append_assoc] at hs
  refine WL_nil ?_
  refine n_then ?_
  refine W_seq ?_
  refine W_region ?_
  refine s_move rfl rfl ?_
  refine s_callL (M := [_, _]) (L1 := LQ) (X := []) Tryd.call17 rfl rfl (by simpa using hs) (fun h => rRaw_ok q2 _ LQ w hQ h) ?_
  rw [hr4]
  clear hs hQ; rintro u w L9 ⟨LQ, Lx, rfl, hQ, hOx⟩ - hs
  simp only [List.append_nil, List.cons_append, List.nil_append] at hs
  simp only at hQ hOx
  refine s_assign rfl rfl ?_
  refine WL_nil ?_
  refine n_then ?_
  refine W_seq ?_
  refine W_seq ?_
  refine W_region ?_
  refine s_move rfl rfl ?_
  refine s_callL (M := [_, _]) (L1 := LQ) (X := Lx) Tryd.call18 rfl rfl (by simpa using hs) (fun h => rEnd_ok q2 _ LQ w hQ h) ?_
  rw [show rdEnd ⟨[], 0⟩ = 0 from rfl]
  clear hs; rintro u w L9 ⟨hL9, rfl⟩ - hs
  rw [hL9] at hs; clear hL9 L9
  simp only [List.cons_append, List.nil_append] at hs
  refine s_neq rfl rfl rfl ?_
  refine WL_nil ?_
  refine n_then ?_
  refine W_cond_kf rfl (rfl) ?_
  refine W_skip ?_
  refine n_then ?_
  refine W_seq ?_
  refine W_region ?_
  refine s_move rfl rfl ?_
  refine s_call Tryd.call31 rfl rfl (coDecode_ok _ cl w (hg.st hs (by simp)) (OwnS_slIn hOx fun q hq => hs.own q (by simp [hq])) hok (by omega)) ?_
  rintro r w ⟨uc, Le, rfl, hOe, hst⟩
  replace hs : St [] w0 w ([_, _] ++ Le) := St.reord [Le, [_, _], LQ, Lx] [1, 0] [2, 3] (by simpa [cat] using St.back0 hs hst) rfl
  simp only [List.cons_append, List.nil_append] at hs
  clear hst hQ hOx
  obtain ⟨_, ke, ae, rfl, hve⟩ := hOe.form
  subst hve
  refine s_move rfl rfl ?_
  refine s_extract rfl rfl rfl ?_
  refine s_extract rfl rfl rfl ?_
  refine s_assign rfl rfl ?_
  refine s_assign rfl rfl ?_
  refine WL_nil ?_
  refine n_then ?_
  refine W_seq ?_
  refine W_seq ?_
  refine W_region ?_
  refine s_move rfl rfl ?_
  refine s_neq rfl rfl rfl ?_
  refine WL_nil ?_
  refine n_then ?_
  refine W_cond_kf rfl (rfl) ?_
  refine W_skip ?_
  refine n_then ?_
  refine W_seq ?_
  refine W_region ?_
  refine s_move rfl rfl ?_
  refine s_fieldAddr rfl rfl (FA32_4 _ _) ?_
  first
    | refine s_storeB Tryd.sizeOf28 rfl rfl rfl hs (kk := 0) rfl rfl ?_
    | refine s_storeB Tryd.sizeOf28 rfl rfl rfl hs (kk := 1) rfl rfl ?_
    | refine s_storeB Tryd.sizeOf28 rfl rfl rfl hs (kk := 2) rfl rfl ?_
    | refine s_storeB Tryd.sizeOf28 rfl rfl rfl hs (kk := 3) rfl rfl ?_
  clear hs; intro w hs; try simp only [List.set_cons_zero, List.set_cons_succ, splice, List.take_succ_cons, List.take_zero, List.drop_succ_cons, List.drop_zero, List.nil_append, List.cons_append, List.length_cons, List.length_nil, Nat.reduceAdd, List.append_assoc] at hs
  refine WL_nil ?_
  refine n_then ?_
  refine W_seq ?_
  refine W_seq ?_
  refine W_region ?_
  first
    | refine s_loadW Tryd.isAgg32 Tryd.sizeOf32 rfl rfl hs (kk := 0) rfl rfl ?_
    | refine s_loadW Tryd.isAgg32 Tryd.sizeOf32 rfl rfl hs (kk := 1) rfl rfl ?_
    | refine s_loadW Tryd.isAgg32 Tryd.sizeOf32 rfl rfl hs (kk := 2) rfl rfl ?_
    | refine s_loadW Tryd.isAgg32 Tryd.sizeOf32 rfl rfl hs (kk := 3) rfl rfl ?_
    | refine s_load_5 Tryd.isAgg32 Tryd.sizeOf32 rfl rfl (by first | exact hs.cell (k := 0) rfl rfl | exact hs.cell (k := 1) rfl rfl | exact hs.cell (k := 2) rfl rfl | exact hs.cell (k := 3) rfl rfl) (by first | exact hs.cell (k := 0) rfl rfl | exact hs.cell (k := 1) rfl rfl | exact hs.cell (k := 2) rfl rfl | exact hs.cell (k := 3) rfl rfl) (by first | exact hs.cell (k := 0) rfl rfl | exact hs.cell (k := 1) rfl rfl | exact hs.cell (k := 2) rfl rfl | exact hs.cell (k := 3) rfl rfl) (by first | exact hs.cell (k := 0) rfl rfl | exact hs.cell (k := 1) rfl rfl | exact hs.cell (k := 2) rfl rfl | exact hs.cell (k := 3) rfl rfl) (by first | exact hs.cell (k := 0) rfl rfl | exact hs.cell (k := 1) rfl rfl | exact hs.cell (k := 2) rfl rfl | exact hs.cell (k := 3) rfl rfl) ?_
  refine s_call Tryd.call22 rfl rfl (valid_ok b hb ae _ ke w (hp.st hs (by simp))) ?_
  rintro r w ⟨hst, rfl⟩
  replace hs := hs.fwd1 hst
  clear hst
  refine s_not rfl rfl ?_
  refine WL_nil ?_
  refine n_then ?_
  refine W_cond_kf rfl (rfl) ?_
  refine W_skip ?_
  refine n_then ?_
  refine W_seq ?_
  refine W_region ?_
  first
    | refine s_loadW Tryd.isAgg32 Tryd.sizeOf32 rfl rfl hs (kk := 0) rfl rfl ?_
    | refine s_loadW Tryd.isAgg32 Tryd.sizeOf32 rfl rfl hs (kk := 1) rfl rfl ?_
    | refine s_loadW Tryd.isAgg32 Tryd.sizeOf32 rfl rfl hs (kk := 2) rfl rfl ?_
    | refine s_loadW Tryd.isAgg32 Tryd.sizeOf32 rfl rfl hs (kk := 3) rfl rfl ?_
    | refine s_load_5 Tryd.isAgg32 Tryd.sizeOf32 rfl rfl (by first | exact hs.cell (k := 0) rfl rfl | exact hs.cell (k := 1) rfl rfl | exact hs.cell (k := 2) rfl rfl | exact hs.cell (k := 3) rfl rfl) (by first | exact hs.cell (k := 0) rfl rfl | exact hs.cell (k := 1) rfl rfl | exact hs.cell (k := 2) rfl rfl | exact hs.cell (k := 3) rfl rfl) (by first | exact hs.cell (k := 0) rfl rfl | exact hs.cell (k := 1) rfl rfl | exact hs.cell (k := 2) rfl rfl | exact hs.cell (k := 3) rfl rfl) (by first | exact hs.cell (k := 0) rfl rfl | exact hs.cell (k := 1) rfl rfl | exact hs.cell (k := 2) rfl rfl | exact hs.cell (k := 3) rfl rfl) (by first | exact hs.cell (k := 0) rfl rfl | exact hs.cell (k := 1) rfl rfl | exact hs.cell (k := 2) rfl rfl | exact hs.cell (k := 3) rfl rfl) ?_
  first
    | refine s_storeW Tryd.sizeOf32 rfl rfl rfl rfl hs (kk := 0) rfl rfl ?_
    | refine s_storeW Tryd.sizeOf32 rfl rfl rfl rfl hs (kk := 1) rfl rfl ?_
    | refine s_storeW Tryd.sizeOf32 rfl rfl rfl rfl hs (kk := 2) rfl rfl ?_
    | refine s_storeW Tryd.sizeOf32 rfl rfl rfl rfl hs (kk := 3) rfl rfl ?_
    | refine s_storeAB Tryd.sizeOf32 rfl rfl rfl rfl hs (kk := 0) rfl rfl ?_
    | refine s_storeAB Tryd.sizeOf32 rfl rfl rfl rfl hs (kk := 1) rfl rfl ?_
    | refine s_storeAB Tryd.sizeOf32 rfl rfl rfl rfl hs (kk := 2) rfl rfl ?_
    | refine s_storeAB Tryd.sizeOf32 rfl rfl rfl rfl hs (kk := 3) rfl rfl ?_
  clear hs; intro w hs; try simp only [List.set_cons_zero, List.set_cons_succ, splice, List.take_succ_cons, List.take_zero, List.drop_succ_cons, List.drop_zero, List.nil_append, List.cons_append, List.length_cons, List.length_nil, Nat.reduceAdd, List.append_assoc] at hs
  refine s_assign rfl rfl ?_
  refine WL_nil ?_
  refine n_then ?_
  refine W_ret ?_
  refine end2 rfl (resOk_block Tryd.isAgg32 Tryd.sizeOf32 hs rfl (kk := 1) rfl rfl) rfl ⟨_, Le, rfl, hOe, hs.tail.tail⟩
/-! Equal -/
theorem clEq_ok (va vb : Value) (cl : List Cl) (w0 : World) (ha : Sl w0 va cl.length (cls cl)) (hb : Sl w0 vb cl.length (cls cl)) (hl : cl.length ≤ 4096) :
    Ret Tryd.prog 34 [va, vb].toArray w0 fun r w' => Fwd [] w0 w' ∧ r = .bool true := by
  obtain ⟨a, ca, rfl, _⟩ := ha.len_le
  obtain ⟨b, cb, rfl, _⟩ := hb.len_le
  refine Ret_start fun w hs => ?_
  refine Ret_of Tryd.func34 rfl Tryd.ntmps34 rfl ?_
  refine W_seq ?_
  refine W_region ?_
  refine s_assign rfl rfl ?_
  refine WL_nil ?_
  refine n_then ?_
  refine W_seq ?_
  refine W_seq ?_
  refine W_region ?_
  refine s_move rfl rfl ?_
  refine s_len rfl rfl (LN28 _ _ _ _) ?_
  refine s_move rfl rfl ?_
  refine s_len rfl rfl (LN28 _ _ _ _) ?_
  refine s_neq rfl rfl rfl ?_
  refine WL_nil ?_
  refine n_then ?_
  refine W_cond_kf rfl ((by simp)) ?_
  refine W_skip ?_
  refine n_then ?_
  refine W_seq ?_
  refine W_seq ?_
  refine W_region ?_
  refine s_move rfl rfl ?_
  refine s_len rfl rfl (LN28 _ _ _ _) ?_
  refine s_move rfl rfl ?_
  refine WL_nil ?_
  refine n_then ?_
  refine W_block ?_
  refine W_loop (σ := Nat) (fun s => [(0, .slice a cl.length ca), (1, .slice b cl.length cb), (12, .int .i64 (cl.length : Int)), (13, .int .i64 (s : Int))]) (fun s w => St [] w0 w [] ∧ s ≤ cl.length) (fun s => cl.length - s) 0 ⟨rfl, rfl, rfl, rfl, trivial⟩ ⟨hs, Nat.zero_le _⟩ ?_
  clear hs
  rintro i w ⟨hs, hi⟩
  refine W_seq ?_
  refine W_region ?_
  refine s_lss rfl rfl rfl ?_
  refine WL_nil ?_
  refine n_then ?_
  refine W_seq ?_
  refine W_cond rfl (fun hc14 => ?_) (fun hc14 => ?_)
  · skip
    simp only [decide_eq_true_eq, decide_eq_false_iff_not] at hc14
    have hil : i < cl.length := by omega
    have hxi : cl[i]? = some cl[i] := List.getElem?_eq_getElem hil
    obtain ⟨b1, o1, hA1, hB1, hc1⟩ := cl_at ha hxi
    obtain ⟨b2, o2, hA2, hB2, hc2⟩ := cl_at hb hxi
    generalize cl[i] = x at *
    refine W_skip ?_
    refine n_then ?_
    refine W_seq ?_
    refine W_block ?_
    refine W_seq ?_
    refine W_region ?_
    refine s_move rfl rfl ?_
    refine s_assign rfl rfl ?_
    refine WL_nil ?_
    refine n_then ?_
    refine W_seq ?_
    refine W_draw [(0, true, []), (1, true, []), (2, true, []), (3, true, []), (4, true, []), (5, true, []), (6, true, []), (7, true, []), (8, true, [])] [[], [], [0, 1], [0, 1, 2], [], [], [4, 5], [4, 5, 6], [0, 1, 2, 3, 4, 5, 6, 7]] MX (by kernel_rfl) ?_
    intro w1 hw1 hw2 hw3 hw4; replace hs := hs.redrawn hw1 hw2 hw3 hw4; clear hw1 hw2 hw3 hw4
    obtain ⟨w, rfl⟩ : ∃ w : World, w = w1 := ⟨_, rfl⟩
    refine D_q rfl rfl ?_
    refine s_move rfl rfl ?_
    refine D_qn ?_
    refine D_q rfl rfl ?_
    refine s_move rfl rfl ?_
    refine D_qn ?_
    refine D_q rfl rfl ?_
    (refine s_indexAddrP El28 rfl rfl rfl hA1 ?hx ?_; case hx => (constructor <;> omega))
    refine D_qn ?_
    refine D_q rfl rfl ?_
    refine s_load_4 Tryd.isAgg82 Tryd.sizeOf82 rfl rfl ((hs.oldcell (a := ⟨b1, _, none⟩) hB1 (by simp)).trans (hc1 0 _ (by omega) rfl)) ((hs.oldcell (a := ⟨b1, _, none⟩) hB1 (by simp)).trans (hc1 1 _ (by omega) rfl)) ((hs.oldcell (a := ⟨b1, _, none⟩) hB1 (by simp)).trans (hc1 2 _ (by omega) rfl)) ((hs.oldcell (a := ⟨b1, _, none⟩) hB1 (by simp)).trans (hc1 3 _ (by omega) rfl)) ?_
    refine D_qn ?_
    refine D_q rfl rfl ?_
    refine s_move rfl rfl ?_
    refine D_qn ?_
    refine D_q rfl rfl ?_
    refine s_move rfl rfl ?_
    refine D_qn ?_
    refine D_q rfl rfl ?_
    (refine s_indexAddrP El28 rfl rfl rfl hA2 ?hx ?_; case hx => (constructor <;> omega))
    refine D_qn ?_
    refine D_q rfl rfl ?_
    refine s_load_4 Tryd.isAgg82 Tryd.sizeOf82 rfl rfl ((hs.oldcell (a := ⟨b2, _, none⟩) hB2 (by simp)).trans (hc2 0 _ (by omega) rfl)) ((hs.oldcell (a := ⟨b2, _, none⟩) hB2 (by simp)).trans (hc2 1 _ (by omega) rfl)) ((hs.oldcell (a := ⟨b2, _, none⟩) hB2 (by simp)).trans (hc2 2 _ (by omega) rfl)) ((hs.oldcell (a := ⟨b2, _, none⟩) hB2 (by simp)).trans (hc2 3 _ (by omega) rfl)) ?_
    refine D_qn ?_
    refine D_q rfl rfl ?_
    refine s_neq_agg EG82 rfl rfl rfl (SE82 _ _ _ _ _ _ _ _) ?_
    refine D_qn ?_
    refine D_nil ?_
    refine n_then ?_
    refine W_cond_kf rfl ((by simp)) ?_
    refine W_skip ?_
    refine n_blk ?_
    refine n_then ?_
    refine W_region ?_
    first | (refine s_add' rfl rfl rfl ?hx ?_; case hx => (constructor <;> first | omega | (simp only; omega))) | refine s_add rfl rfl rfl ?_
    refine s_move rfl rfl ?_
    refine WL_nil ?_
    refine n_loop ?_
    exact ⟨i + 1, ⟨rfl, rfl, rfl, rfl, trivial⟩, ⟨hs, by omega⟩, by omega⟩
  · skip
    simp only [decide_eq_true_eq, decide_eq_false_iff_not] at hc14
    refine W_exit ?_
    refine x_then ?_
    refine x_then ?_
    refine exit_hit ?_
    refine n_then ?_
    refine W_seq ?_
    refine W_region ?_
    refine s_assign rfl rfl ?_
    refine WL_nil ?_
    refine n_then ?_
    refine W_ret ?_
    exact end1 rfl rfl ⟨hs.fwd, rfl⟩
theorem blEqual_ok (b : Bk) (va vb : Value) (cl : List Cl) (w0 : World) (ha : Sl w0 va cl.length (cls cl)) (hb : Sl w0 vb cl.length (cls cl)) (hl : cl.length ≤ 4096) :
    Ret Tryd.prog 19 [.agg (b.cells va).toArray, .agg (b.cells vb).toArray].toArray w0 fun r w' => Fwd [] w0 w' ∧ r = .bool true := by
  obtain ⟨a, ca, rfl, _⟩ := ha.len_le
  obtain ⟨a2, cb, rfl, _⟩ := hb.len_le
  refine Ret_start fun w hs => ?_
  refine Ret_of Tryd.func19 rfl Tryd.ntmps19 rfl ?_
  refine W_seq ?_
  refine W_region ?_
  first | refine s_box rfl rfl hs ?_ | refine s_box1 rfl rfl rfl hs ?_
  clear hs; intro b2 w hs
  first | refine s_box rfl rfl hs ?_ | refine s_box1 rfl rfl rfl hs ?_
  clear hs; intro b3 w hs
  refine s_assign rfl rfl ?_
  refine WL_nil ?_
  refine n_then ?_
  refine W_seq ?_
  refine W_region ?_
  refine s_fieldAddr rfl rfl (FA32_0 _ _) ?_
  first
    | refine s_load Tryd.isAgg3 rfl rfl (hs.cell (k := 0) rfl rfl) ?_
    | refine s_load Tryd.isAgg3 rfl rfl (hs.cell (k := 1) rfl rfl) ?_
  refine s_fieldAddr rfl rfl (FA32_0 _ _) ?_
  first
    | refine s_load Tryd.isAgg3 rfl rfl (hs.cell (k := 0) rfl rfl) ?_
    | refine s_load Tryd.isAgg3 rfl rfl (hs.cell (k := 1) rfl rfl) ?_
  refine s_eql rfl rfl rfl ?_
  refine s_move rfl rfl ?_
  refine WL_know (s := 10) (c := true) rfl ((by simp)) ?_
  refine WL_take rfl ?_
  refine s_fieldAddr rfl rfl (FA32_1 _ _) ?_
  refine WL_take rfl ?_
  first
    | refine s_load Tryd.isAgg3 rfl rfl (hs.cell (k := 0) rfl rfl) ?_
    | refine s_load Tryd.isAgg3 rfl rfl (hs.cell (k := 1) rfl rfl) ?_
  refine WL_take rfl ?_
  refine s_fieldAddr rfl rfl (FA32_1 _ _) ?_
  refine WL_take rfl ?_
  first
    | refine s_load Tryd.isAgg3 rfl rfl (hs.cell (k := 0) rfl rfl) ?_
    | refine s_load Tryd.isAgg3 rfl rfl (hs.cell (k := 1) rfl rfl) ?_
  refine WL_take rfl ?_
  refine s_eql rfl rfl rfl ?_
  refine s_pick_t rfl rfl rfl ?_
  refine s_move rfl rfl ?_
  refine WL_know (s := 17) (c := true) rfl ((by simp)) ?_
  refine WL_take rfl ?_
  refine s_fieldAddr rfl rfl (FA32_2 _ _) ?_
  refine WL_take rfl ?_
  first
    | refine s_load Tryd.isAgg3 rfl rfl (hs.cell (k := 0) rfl rfl) ?_
    | refine s_load Tryd.isAgg3 rfl rfl (hs.cell (k := 1) rfl rfl) ?_
  refine WL_take rfl ?_
  refine s_fieldAddr rfl rfl (FA32_2 _ _) ?_
  refine WL_take rfl ?_
  first
    | refine s_load Tryd.isAgg3 rfl rfl (hs.cell (k := 0) rfl rfl) ?_
    | refine s_load Tryd.isAgg3 rfl rfl (hs.cell (k := 1) rfl rfl) ?_
  refine WL_take rfl ?_
  refine s_eql rfl rfl rfl ?_
  refine s_pick_t rfl rfl rfl ?_
  refine s_move rfl rfl ?_
  refine WL_know (s := 24) (c := true) rfl ((by simp)) ?_
  refine WL_take rfl ?_
  refine s_fieldAddr rfl rfl (FA32_3 _ _) ?_
  refine WL_take rfl ?_
  first
    | refine s_load Tryd.isAgg3 rfl rfl (hs.cell (k := 0) rfl rfl) ?_
    | refine s_load Tryd.isAgg3 rfl rfl (hs.cell (k := 1) rfl rfl) ?_
  refine WL_take rfl ?_
  refine s_fieldAddr rfl rfl (FA32_3 _ _) ?_
  refine WL_take rfl ?_
  first
    | refine s_load Tryd.isAgg3 rfl rfl (hs.cell (k := 0) rfl rfl) ?_
    | refine s_load Tryd.isAgg3 rfl rfl (hs.cell (k := 1) rfl rfl) ?_
  refine WL_take rfl ?_
  refine s_eql rfl rfl rfl ?_
  refine s_pick_t rfl rfl rfl ?_
  refine s_move rfl rfl ?_
  refine WL_know (s := 31) (c := true) rfl ((by simp)) ?_
  refine WL_take rfl ?_
  refine s_fieldAddr rfl rfl (FA32_4 _ _) ?_
  refine WL_take rfl ?_
  first
    | refine s_load Tryd.isAgg28 rfl rfl (hs.cell (k := 0) rfl rfl) ?_
    | refine s_load Tryd.isAgg28 rfl rfl (hs.cell (k := 1) rfl rfl) ?_
  refine WL_take rfl ?_
  refine s_fieldAddr rfl rfl (FA32_4 _ _) ?_
  refine WL_take rfl ?_
  first
    | refine s_load Tryd.isAgg28 rfl rfl (hs.cell (k := 0) rfl rfl) ?_
    | refine s_load Tryd.isAgg28 rfl rfl (hs.cell (k := 1) rfl rfl) ?_
  refine WL_take rfl ?_
  refine s_call Tryd.call34 rfl rfl (clEq_ok _ _ cl w (ha.fwd0 hs.fwd) (hb.fwd0 hs.fwd) hl) ?_
  rintro r w ⟨hst, rfl⟩
  replace hs := hs.fwd1 hst
  clear hst
  refine s_pick_t rfl rfl rfl ?_
  refine s_assign rfl rfl ?_
  refine WL_nil ?_
  refine n_then ?_
  refine W_ret ?_
  exact end1 rfl rfl ⟨hs.tail.tail.fwd, rfl⟩
/-! Made -/
theorem blMade_ok (n : Int) (v : Value) (xs : List Int) (w0 : World) (hn : isI64 n) (hv : Sl w0 v xs.length (i64s xs)) (hx : ∀ z ∈ xs, isI64 z) (hl : xs.length ≤ 4611686018427387904) :
    Ret Tryd.prog 5 [.int .i64 n, v].toArray w0 fun r w' => ∃ (b : Bk) (u : Value) (cl : List Cl) (Lr : Hp), r = .agg (b.cells u).toArray ∧ b.good ∧ OwnS 82 4 u cl.length (cls cl) Lr ∧ St [] w0 w' Lr ∧ (∀ x ∈ cl, x.ok) ∧ cl.length ≤ 9 := by
  have ha := aroundV_range (m := n) (q := 5) (by decide)
  have hw5 := wrap64 (n.tdiv 5)
  have hb := aroundV_range (m := IntKind.i64.wrap (n.tdiv 5)) (q := 5) (by decide)
  have hc := aroundV_range (m := IntKind.i64.wrap (n.tdiv 25)) (q := 4000) (by decide)
  have hd := aroundV_range (m := IntKind.i64.wrap (n.tdiv 7)) (q := 1073741824) (by decide)
  generalize hA : aroundV n 5 = A at ha
  generalize hB : aroundV (IntKind.i64.wrap (n.tdiv 5)) 5 = B at hb
  generalize hC : aroundV (IntKind.i64.wrap (n.tdiv 25)) 4000 = C at hc
  generalize hD : aroundV (IntKind.i64.wrap (n.tdiv 7)) 1073741824 = D at hd
  obtain ⟨k, hk⟩ : ∃ k : Nat, B = (k : Int) := ⟨B.toNat, by omega⟩
  refine Ret_start fun w hs => ?_
  refine Ret_of Tryd.func5 rfl Tryd.ntmps5 rfl ?_
  refine W_seq ?_
  refine W_region ?_
  refine s_alloc rfl AL30 hs ?_; clear hs; intro b4 w hs
  refine WL_nil ?_
  refine n_then ?_
  refine W_seq ?_
  refine W_region ?_
  refine s_move rfl rfl ?_
  refine s_call Tryd.call11 rfl rfl (around_ok n 5 w (by decide) hn) ?_
  rintro r w1 ⟨hw1, rfl⟩
  rw [hw1, hA]; clear hw1 w1
  refine s_move rfl rfl ?_
  (refine s_quo rfl rfl rfl ?hx ?_; case hx => omega)
  refine s_call Tryd.call11 rfl rfl (around_ok _ 5 w (by decide) hw5) ?_
  rintro r w1 ⟨hw1, rfl⟩
  rw [hw1, hB]; clear hw1 w1
  refine s_move rfl rfl ?_
  refine s_call Tryd.call21 rfl rfl (genClaims_ok v xs w (hv.fwd0 hs.fwd) hx hl) ?_
  rintro u w ⟨cl, Lc, hOc, hst, hok, hcl⟩
  replace hs := (St.back0 hs hst).swap
  clear hst
  simp only [List.cons_append, List.nil_append] at hs
  obtain ⟨_, kc, ac, rfl, hvc⟩ := hOc.form
  subst hvc
  refine s_build rfl rfl (BD30_0_1_4 _ _ _ _ _) ?_
  refine s_alloc rfl AL30 hs ?_; clear hs; intro b5 w hs
  first
    | refine s_storeW Tryd.sizeOf30 rfl rfl rfl rfl hs (kk := 0) rfl rfl ?_
    | refine s_storeW Tryd.sizeOf30 rfl rfl rfl rfl hs (kk := 1) rfl rfl ?_
    | refine s_storeAB Tryd.sizeOf30 rfl rfl rfl rfl hs (kk := 0) rfl rfl ?_
    | refine s_storeAB Tryd.sizeOf30 rfl rfl rfl rfl hs (kk := 1) rfl rfl ?_
  clear hs; intro w hs; try simp only [List.set_cons_zero, List.set_cons_succ, splice, List.take_succ_cons, List.take_zero, List.drop_succ_cons, List.drop_zero, List.nil_append, List.cons_append, List.length_cons, List.length_nil, Nat.reduceAdd, List.append_assoc] at hs
  refine WL_nil ?_
  refine n_then ?_
  refine W_seq ?_
  refine W_seq ?_
  refine W_region ?_
  refine s_fieldAddr rfl rfl (FA30_1 _ _) ?_
  first
    | refine s_load Tryd.isAgg3 rfl rfl (hs.cell (k := 0) rfl rfl) ?_
    | refine s_load Tryd.isAgg3 rfl rfl (hs.cell (k := 1) rfl rfl) ?_
  refine s_gtr rfl rfl rfl ?_
  refine WL_nil ?_
  refine n_then ?_
  refine W_cond rfl (fun hc16 => ?_) (fun hc16 => ?_)
  · skip
    simp only [decide_eq_true_eq, decide_eq_false_iff_not] at hc16
    refine W_seq ?_
    refine W_region ?_
    refine s_move rfl rfl ?_
    (refine s_quo rfl rfl rfl ?hx ?_; case hx => omega)
    refine s_call Tryd.call11 rfl rfl (around_ok _ 4000 w (by decide) (wrap64 _)) ?_
    rintro r w1 ⟨hw1, rfl⟩
    rw [hw1, hC]; clear hw1 w1
    first | (refine s_add' rfl rfl rfl ?hx ?_; case hx => (constructor <;> first | omega | (simp only; omega))) | refine s_add rfl rfl rfl ?_
    refine s_fieldAddr rfl rfl (FA30_2 _ _) ?_
    first
      | refine s_storeB Tryd.sizeOf3 rfl rfl rfl hs (kk := 0) rfl rfl ?_
      | refine s_storeB Tryd.sizeOf3 rfl rfl rfl hs (kk := 1) rfl rfl ?_
    clear hs; intro w hs; try simp only [List.set_cons_zero, List.set_cons_succ, splice, List.take_succ_cons, List.take_zero, List.drop_succ_cons, List.drop_zero, List.nil_append, List.cons_append, List.length_cons, List.length_nil, Nat.reduceAdd, List.append_assoc] at hs
    refine WL_nil ?_
    refine n_then ?_
    refine W_region ?_
    refine s_move rfl rfl ?_
    (refine s_quo rfl rfl rfl ?hx ?_; case hx => omega)
    refine s_call Tryd.call11 rfl rfl (around_ok _ 1073741824 w (by decide) (wrap64 _)) ?_
    rintro r w1 ⟨hw1, rfl⟩
    rw [hw1, hD]; clear hw1 w1
    refine s_fieldAddr rfl rfl (FA30_3 _ _) ?_
    first
      | refine s_storeB Tryd.sizeOf3 rfl rfl rfl hs (kk := 0) rfl rfl ?_
      | refine s_storeB Tryd.sizeOf3 rfl rfl rfl hs (kk := 1) rfl rfl ?_
    clear hs; intro w hs; try simp only [List.set_cons_zero, List.set_cons_succ, splice, List.take_succ_cons, List.take_zero, List.drop_succ_cons, List.drop_zero, List.nil_append, List.cons_append, List.length_cons, List.length_nil, Nat.reduceAdd, List.append_assoc] at hs
    refine WL_nil ?_
    refine n_then ?_
    refine W_seq ?_
    refine W_region ?_
    first
      | refine s_loadW Tryd.isAgg30 Tryd.sizeOf30 rfl rfl hs (kk := 0) rfl rfl ?_
      | refine s_loadW Tryd.isAgg30 Tryd.sizeOf30 rfl rfl hs (kk := 1) rfl rfl ?_
      | refine s_load_5 Tryd.isAgg30 Tryd.sizeOf30 rfl rfl (by first | exact hs.cell (k := 0) rfl rfl | exact hs.cell (k := 1) rfl rfl) (by first | exact hs.cell (k := 0) rfl rfl | exact hs.cell (k := 1) rfl rfl) (by first | exact hs.cell (k := 0) rfl rfl | exact hs.cell (k := 1) rfl rfl) (by first | exact hs.cell (k := 0) rfl rfl | exact hs.cell (k := 1) rfl rfl) (by first | exact hs.cell (k := 0) rfl rfl | exact hs.cell (k := 1) rfl rfl) ?_
    first
      | refine s_storeW Tryd.sizeOf30 rfl rfl rfl rfl hs (kk := 0) rfl rfl ?_
      | refine s_storeW Tryd.sizeOf30 rfl rfl rfl rfl hs (kk := 1) rfl rfl ?_
      | refine s_storeAB Tryd.sizeOf30 rfl rfl rfl rfl hs (kk := 0) rfl rfl ?_
      | refine s_storeAB Tryd.sizeOf30 rfl rfl rfl rfl hs (kk := 1) rfl rfl ?_
    clear hs; intro w hs; try simp only [List.set_cons_zero, List.set_cons_succ, splice, List.take_succ_cons, List.take_zero, List.drop_succ_cons, List.drop_zero, List.nil_append, List.cons_append, List.length_cons, List.length_nil, Nat.reduceAdd, List.append_assoc] at hs
    refine WL_nil ?_
    refine n_then ?_
    refine W_ret ?_
    first
      | (subst hk
         refine end1 rfl (resOk_block Tryd.isAgg30 Tryd.sizeOf30 hs rfl (kk := 1) rfl rfl) ⟨⟨A, k, 1 + C, D⟩, _, cl, Lc, rfl, ?_, hOc, hs.tail.tail, hok, hcl⟩
         show 0 ≤ A ∧ A < 5 ∧ k < 5 ∧ ((k = 0 ∧ (1 + C) = 0 ∧ D = 0) ∨ (1 ≤ k ∧ 1 ≤ 1 + C ∧ 1 + C ≤ 4000 ∧ 0 ≤ D ∧ D < 1073741824))
         omega)
      | (subst hk
         refine end1 rfl (resOk_block Tryd.isAgg30 Tryd.sizeOf30 hs rfl (kk := 1) rfl rfl) ⟨⟨A, k, 0, 0⟩, _, cl, Lc, rfl, ?_, hOc, hs.tail.tail, hok, hcl⟩
         show 0 ≤ A ∧ A < 5 ∧ k < 5 ∧ ((k = 0 ∧ (0 : Int) = 0 ∧ (0 : Int) = 0) ∨ (1 ≤ k ∧ (1 : Int) ≤ 0 ∧ (0 : Int) ≤ 4000 ∧ (0 : Int) ≤ 0 ∧ (0 : Int) < 1073741824))
         omega)
  · skip
    simp only [decide_eq_true_eq, decide_eq_false_iff_not] at hc16
    refine W_skip ?_
    refine n_then ?_
    refine W_seq ?_
    refine W_region ?_
    first
      | refine s_loadW Tryd.isAgg30 Tryd.sizeOf30 rfl rfl hs (kk := 0) rfl rfl ?_
      | refine s_loadW Tryd.isAgg30 Tryd.sizeOf30 rfl rfl hs (kk := 1) rfl rfl ?_
      | refine s_load_5 Tryd.isAgg30 Tryd.sizeOf30 rfl rfl (by first | exact hs.cell (k := 0) rfl rfl | exact hs.cell (k := 1) rfl rfl) (by first | exact hs.cell (k := 0) rfl rfl | exact hs.cell (k := 1) rfl rfl) (by first | exact hs.cell (k := 0) rfl rfl | exact hs.cell (k := 1) rfl rfl) (by first | exact hs.cell (k := 0) rfl rfl | exact hs.cell (k := 1) rfl rfl) (by first | exact hs.cell (k := 0) rfl rfl | exact hs.cell (k := 1) rfl rfl) ?_
    first
      | refine s_storeW Tryd.sizeOf30 rfl rfl rfl rfl hs (kk := 0) rfl rfl ?_
      | refine s_storeW Tryd.sizeOf30 rfl rfl rfl rfl hs (kk := 1) rfl rfl ?_
      | refine s_storeAB Tryd.sizeOf30 rfl rfl rfl rfl hs (kk := 0) rfl rfl ?_
      | refine s_storeAB Tryd.sizeOf30 rfl rfl rfl rfl hs (kk := 1) rfl rfl ?_
    clear hs; intro w hs; try simp only [List.set_cons_zero, List.set_cons_succ, splice, List.take_succ_cons, List.take_zero, List.drop_succ_cons, List.drop_zero, List.nil_append, List.cons_append, List.length_cons, List.length_nil, Nat.reduceAdd, List.append_assoc] at hs
    refine WL_nil ?_
    refine n_then ?_
    refine W_ret ?_
    first
      | (subst hk
         refine end1 rfl (resOk_block Tryd.isAgg30 Tryd.sizeOf30 hs rfl (kk := 1) rfl rfl) ⟨⟨A, k, 1 + C, D⟩, _, cl, Lc, rfl, ?_, hOc, hs.tail.tail, hok, hcl⟩
         show 0 ≤ A ∧ A < 5 ∧ k < 5 ∧ ((k = 0 ∧ (1 + C) = 0 ∧ D = 0) ∨ (1 ≤ k ∧ 1 ≤ 1 + C ∧ 1 + C ≤ 4000 ∧ 0 ≤ D ∧ D < 1073741824))
         omega)
      | (subst hk
         refine end1 rfl (resOk_block Tryd.isAgg30 Tryd.sizeOf30 hs rfl (kk := 1) rfl rfl) ⟨⟨A, k, 0, 0⟩, _, cl, Lc, rfl, ?_, hOc, hs.tail.tail, hok, hcl⟩
         show 0 ≤ A ∧ A < 5 ∧ k < 5 ∧ ((k = 0 ∧ (0 : Int) = 0 ∧ (0 : Int) = 0) ∨ (1 ≤ k ∧ (1 : Int) ≤ 0 ∧ (0 : Int) ≤ 4000 ∧ (0 : Int) ≤ 0 ∧ (0 : Int) < 1073741824))
         omega)
end Go.Proofs.YtgjjdlgbbgijgaaDoor
