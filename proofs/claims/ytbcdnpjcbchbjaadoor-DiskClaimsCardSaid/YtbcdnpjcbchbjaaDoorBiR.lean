/- Contracts of package bits: the reader (names apart from those of package wire). -/
import Derived.Test.YtbcdnpjcbchbjaaDoorBiW
import Derived.Test.YtbcdnpjcbchbjaaDoorWirP
set_option linter.unusedVariables false
set_option linter.unusedSimpArgs false
namespace Go.Proofs.YtbcdnpjcbchbjaaDoor
open Go.SL
/-- bit i of the bytes -/
def bitAt (ys : List Int) (i : Nat) : Bool := (ys.getD (i / 8) 0).toNat &&& (128 / 2 ^ (i % 8)) != 0
theorem bitAt_pk (bs : List Bool) (i : Nat) (hi : i < 8 * (pk bs).length) : bitAt (pk bs) i = gb bs i := by
  rw [pk_length] at hi
  have h1 : (pk bs).getD (i / 8) 0 = (byteAt bs (i / 8) : Int) := by simp [pk, show i / 8 < (bs.length + 7) / 8 by omega]
  unfold bitAt
  rw [h1, Int.toNat_natCast]
  have h2 := b8_and (fun j => gb bs (8 * (i / 8) + j)) (i % 8) (by omega)
  rw [show 8 * (i / 8) + i % 8 = i by omega] at h2
  exact h2
/-- the number of some bits, the highest first -/
def va : List Bool → Nat := List.foldl (fun a b => 2 * a + b.toNat) 0
theorem va_snoc (l : List Bool) (b : Bool) : va (l ++ [b]) = 2 * va l + b.toNat := by simp [va]
theorem va_lt' (l : List Bool) : ∀ a, List.foldl (fun a (b : Bool) => 2 * a + b.toNat) a l < (a + 1) * 2 ^ l.length := by
  induction l with
  | nil => intro a; simp
  | cons b l ih =>
    intro a
    rw [List.foldl_cons, List.length_cons, Nat.pow_succ]
    refine Nat.lt_of_lt_of_le (ih _) ?_
    have h : 2 * a + b.toNat + 1 ≤ 2 * (a + 1) := by cases b <;> simp <;> omega
    calc (2 * a + b.toNat + 1) * 2 ^ l.length ≤ (2 * (a + 1)) * 2 ^ l.length := Nat.mul_le_mul_right _ h
      _ = (a + 1) * (2 ^ l.length * 2) := by rw [Nat.mul_comm 2, Nat.mul_assoc, Nat.mul_comm 2]
theorem va_lt (l : List Bool) : va l < 2 ^ l.length := by have := va_lt' l 0; simpa [va] using this
/-- c bits from k on -/
def bitsAt (ys : List Int) (k : Nat) : Nat → List Bool
  | 0 => []
  | c + 1 => bitsAt ys k c ++ [bitAt ys (k + c)]
theorem bitsAt_length (ys : List Int) (k c : Nat) : (bitsAt ys k c).length = c := by induction c <;> simp_all [bitsAt]
/-- the reader at p: its bytes, position and error -/
def RbAt (p : Nat) (ys : List Int) (k : Nat) (e : Int) (L : Hp) : Prop := ∃ v Lb, L = (p, Blk 90 [v, .int .i64 (k : Int), .int .i64 e]) :: Lb ∧ OwnS 5 1 v ys.length (u8s ys) Lb ∧ k ≤ 8 * ys.length ∧ (∀ b ∈ ys, isB b) ∧ ys.length ≤ 4294967296
theorem bRead_ok (v : Value) (ys : List Int) (w0 : World) (hv : Sl w0 v ys.length (u8s ys)) (hl : ys.length ≤ 4294967296) (hb : ∀ b ∈ ys, isB b) :
    Ret Tryd.prog 34 [v].toArray w0 fun r w' => ∃ p L, r = .pointer (some ⟨p, 0, none⟩) ∧ RbAt p ys 0 0 L ∧ St [] w0 w' L := by
  obtain ⟨a, c, rfl, hac⟩ := hv.len_le
  refine Ret_start fun w hs => ?_
  refine Ret_of Tryd.func34 rfl Tryd.ntmps34 rfl ?_
  refine W_seq ?_
  refine W_region ?_
  refine s_assign rfl rfl ?_
  refine WL_nil ?_
  refine n_then ?_
  refine W_seq ?_
  refine W_region ?_
  refine s_move rfl rfl ?_
  refine s_call Tryd.call29 rfl rfl (clone_ok _ ys w (hv.fwd0 hs.fwd) hl) ?_
  rintro r w ⟨Lr, hr, hst⟩
  replace hs := St.back0 hs hst
  simp only [List.append_nil] at hs
  clear hst
  obtain ⟨_, vc, va, rfl, rfl⟩ := hr.form
  refine s_build rfl rfl (BD90_0 _ _ _) ?_
  first | refine s_box rfl rfl hs ?_ | refine s_box1 rfl rfl rfl hs ?_
  clear hs; intro b6 w hs
  refine s_assign rfl rfl ?_
  refine WL_nil ?_
  refine n_then ?_
  refine W_ret ?_
  exact end1 rfl rfl ⟨b6, _, rfl, ⟨_, Lr, rfl, hr, Nat.zero_le _, hb, hl⟩, hs⟩
theorem bleft_ok (p : Nat) (ys : List Int) (k : Nat) (e : Int) (L0 : Hp) (w0 : World) (hR : RbAt p ys k e L0) (hs : St (ids L0) w0 w0 L0) :
    Ret Tryd.prog 52 [.pointer (some ⟨p, 0, none⟩)].toArray w0 fun r w' => ∃ L', St (ids L0) w0 w' L' ∧ L' = L0 ∧ r = .int .i64 ((8 * ys.length - k : Nat) : Int) := by
  obtain ⟨v, Lb, hL, hO, hk, hb, hl⟩ := hR
  obtain ⟨_, vc, va, rfl, rfl⟩ := hO.form
  replace hs : St (ids L0) w0 w0 ((p, Blk 90 [.slice va ys.length vc, .int .i64 (k : Int), .int .i64 e]) :: Lb) := by rw [hL] at hs ⊢; exact hs
  refine Ret_startL hs fun w hs => ?_
  refine Ret_of Tryd.func52 rfl Tryd.ntmps52 rfl ?_
  refine W_seq ?_
  refine W_region ?_
  refine s_assign rfl rfl ?_
  refine WL_nil ?_
  refine n_then ?_
  refine W_seq ?_
  refine W_draw [(0, true, []), (1, true, []), (2, true, []), (3, true, []), (4, true, []), (5, true, []), (6, true, []), (7, true, []), (8, true, []), (9, true, []), (10, true, []), (11, true, [])] [[], [0], [0, 1], [0, 1, 2], [0, 1, 2, 3], [0, 1, 2, 3, 4], [], [6], [6, 7], [6, 7, 8], [0, 1, 2, 3, 4, 5, 6, 7, 8, 9], [0, 1, 2, 3, 4, 5, 6, 7, 8, 9, 10]] MX (by kernel_rfl) ?_
  intro w1 hw1 hw2 hw3 hw4; replace hs := hs.redrawn hw1 hw2 hw3 hw4; clear hw1 hw2 hw3 hw4
  obtain ⟨w, rfl⟩ : ∃ w : World, w = w1 := ⟨_, rfl⟩
  refine D_q rfl rfl ?_
  refine s_move rfl rfl ?_
  refine D_qn ?_
  refine D_q rfl rfl ?_
  refine s_nilCheck rfl rfl ?_
  refine D_qn ?_
  refine D_q rfl rfl ?_
  refine s_fieldAddr rfl rfl (FA90_0 _ _) ?_
  refine D_qn ?_
  refine D_q rfl rfl ?_
  first
    | refine s_load Tryd.isAgg29 rfl rfl (hs.cell (k := 0) rfl rfl) ?_
    | refine s_load Tryd.isAgg29 rfl rfl (hs.cell (k := 1) rfl rfl) ?_
    | refine s_load Tryd.isAgg29 rfl rfl (hs.cell (k := 2) rfl rfl) ?_
    | refine s_load Tryd.isAgg29 rfl rfl (hs.cell (k := 3) rfl rfl) ?_
    | refine s_load Tryd.isAgg29 rfl rfl (hs.cell (k := 4) rfl rfl) ?_
    | refine s_load Tryd.isAgg29 rfl rfl (hs.cell (k := 5) rfl rfl) ?_
    | refine s_load Tryd.isAgg29 rfl rfl (hs.cell (k := 6) rfl rfl) ?_
    | refine s_load Tryd.isAgg29 rfl rfl (hs.cell (k := 7) rfl rfl) ?_
    | refine s_load Tryd.isAgg29 rfl rfl (hs.cell (k := 8) rfl rfl) ?_
    | refine s_load Tryd.isAgg29 rfl rfl (hs.cell (k := 9) rfl rfl) ?_
  refine D_qn ?_
  refine D_q rfl rfl ?_
  refine s_len rfl rfl (LN29 _ _ _ _) ?_
  refine D_qn ?_
  refine D_q rfl rfl ?_
  first | (refine s_mul' rfl rfl rfl ?hx ?_; case hx => (constructor <;> first | omega | (simp only; omega))) | refine s_mul rfl rfl rfl ?_
  refine D_qn ?_
  refine D_q rfl rfl ?_
  refine s_move rfl rfl ?_
  refine D_qn ?_
  refine D_q rfl rfl ?_
  refine s_nilCheck rfl rfl ?_
  refine D_qn ?_
  refine D_q rfl rfl ?_
  refine s_fieldAddr rfl rfl (FA90_1 _ _) ?_
  refine D_qn ?_
  refine D_q rfl rfl ?_
  first
    | refine s_load Tryd.isAgg3 rfl rfl (hs.cell (k := 0) rfl rfl) ?_
    | refine s_load Tryd.isAgg3 rfl rfl (hs.cell (k := 1) rfl rfl) ?_
    | refine s_load Tryd.isAgg3 rfl rfl (hs.cell (k := 2) rfl rfl) ?_
    | refine s_load Tryd.isAgg3 rfl rfl (hs.cell (k := 3) rfl rfl) ?_
    | refine s_load Tryd.isAgg3 rfl rfl (hs.cell (k := 4) rfl rfl) ?_
    | refine s_load Tryd.isAgg3 rfl rfl (hs.cell (k := 5) rfl rfl) ?_
    | refine s_load Tryd.isAgg3 rfl rfl (hs.cell (k := 6) rfl rfl) ?_
    | refine s_load Tryd.isAgg3 rfl rfl (hs.cell (k := 7) rfl rfl) ?_
    | refine s_load Tryd.isAgg3 rfl rfl (hs.cell (k := 8) rfl rfl) ?_
    | refine s_load Tryd.isAgg3 rfl rfl (hs.cell (k := 9) rfl rfl) ?_
  refine D_qn ?_
  refine D_q rfl rfl ?_
  (refine s_sub' rfl rfl rfl ?hx ?_; case hx => (constructor <;> omega))
  rw [show (ys.length : Int) * 8 - k = ((8 * ys.length - k : Nat) : Int) from by omega]
  refine D_qn ?_
  refine D_q rfl rfl ?_
  refine s_assign rfl rfl ?_
  refine D_qn ?_
  refine D_nil ?_
  refine n_then ?_
  refine W_ret ?_
  exact end1 rfl rfl ⟨_, hs, hL.symm, rfl⟩
theorem bset_ok (p : Nat) (ys : List Int) (k i : Nat) (e : Int) (L0 : Hp) (w0 : World) (hR : RbAt p ys k e L0) (hs : St (ids L0) w0 w0 L0) (hi : i < 8 * ys.length) :
    Ret Tryd.prog 53 [.pointer (some ⟨p, 0, none⟩), .int .i64 (i : Int)].toArray w0 fun r w' => ∃ L', St (ids L0) w0 w' L' ∧ L' = L0 ∧ r = .bool (bitAt ys i) := by
  obtain ⟨v, Lb, hL, hO, hk, hb, hl⟩ := hR
  obtain ⟨g, vc, sp, rfl, hgc, rfl⟩ := hO.block (by omega)
  replace hs : St (ids L0) w0 w0 ((p, Blk 90 [.slice (some ⟨g, 0, none⟩) ys.length vc, .int .i64 (k : Int), .int .i64 e]) :: [(g, Blk 5 (u8s ys ++ sp))]) := by rw [hL] at hs ⊢; exact hs
  have hlt : i / 8 < ys.length := by omega
  obtain ⟨B, hB, hB2⟩ : ∃ B : Nat, ys[i / 8]? = some (B : Int) ∧ B < 256 := by
    have h1 := hb _ (List.getElem_mem hlt)
    refine ⟨ys[i / 8].toNat, by rw [List.getElem?_eq_getElem hlt]; unfold isB at h1; congr 1; omega, by unfold isB at h1; omega⟩
  have hat : (u8s ys ++ sp)[i / 8]? = some (.int .u8 (B : Int)) := by
    rw [List.getElem?_append_left (by simpa using hlt)]; simp [u8s, hB]
  refine Ret_startL hs fun w hs => ?_
  refine Ret_of Tryd.func53 rfl Tryd.ntmps53 rfl ?_
  refine W_seq ?_
  refine W_region ?_
  refine s_assign rfl rfl ?_
  refine WL_nil ?_
  refine n_then ?_
  refine W_seq ?_
  refine W_draw [(0, true, []), (1, true, []), (2, true, []), (3, true, []), (4, true, []), (5, true, []), (6, true, []), (7, true, []), (8, true, []), (9, true, []), (10, true, []), (11, true, []), (12, true, []), (13, true, [])] [[], [0], [0, 1], [0, 1, 2], [], [4], [0, 1, 2, 3, 4, 5], [0, 1, 2, 3, 4, 5, 6], [], [8], [8, 9], [0, 1, 2, 3, 4, 5, 6, 7, 8, 9, 10], [0, 1, 2, 3, 4, 5, 6, 7, 8, 9, 10, 11], [0, 1, 2, 3, 4, 5, 6, 7, 8, 9, 10, 11, 12]] MX (by kernel_rfl) ?_
  intro w1 hw1 hw2 hw3 hw4; replace hs := hs.redrawn hw1 hw2 hw3 hw4; clear hw1 hw2 hw3 hw4
  obtain ⟨w, rfl⟩ : ∃ w : World, w = w1 := ⟨_, rfl⟩
  refine D_q rfl rfl ?_
  refine s_move rfl rfl ?_
  refine D_qn ?_
  refine D_q rfl rfl ?_
  refine s_nilCheck rfl rfl ?_
  refine D_qn ?_
  refine D_q rfl rfl ?_
  refine s_fieldAddr rfl rfl (FA90_0 _ _) ?_
  refine D_qn ?_
  refine D_q rfl rfl ?_
  first
    | refine s_load Tryd.isAgg29 rfl rfl (hs.cell (k := 0) rfl rfl) ?_
    | refine s_load Tryd.isAgg29 rfl rfl (hs.cell (k := 1) rfl rfl) ?_
    | refine s_load Tryd.isAgg29 rfl rfl (hs.cell (k := 2) rfl rfl) ?_
    | refine s_load Tryd.isAgg29 rfl rfl (hs.cell (k := 3) rfl rfl) ?_
    | refine s_load Tryd.isAgg29 rfl rfl (hs.cell (k := 4) rfl rfl) ?_
    | refine s_load Tryd.isAgg29 rfl rfl (hs.cell (k := 5) rfl rfl) ?_
    | refine s_load Tryd.isAgg29 rfl rfl (hs.cell (k := 6) rfl rfl) ?_
    | refine s_load Tryd.isAgg29 rfl rfl (hs.cell (k := 7) rfl rfl) ?_
    | refine s_load Tryd.isAgg29 rfl rfl (hs.cell (k := 8) rfl rfl) ?_
    | refine s_load Tryd.isAgg29 rfl rfl (hs.cell (k := 9) rfl rfl) ?_
  refine D_qn ?_
  refine D_q rfl rfl ?_
  refine s_move rfl rfl ?_
  refine D_qn ?_
  refine D_q rfl rfl ?_
  (refine s_quo' rfl rfl rfl ?hx ?_; case hx => (refine ⟨?_, ?_, ?_⟩ <;> omega))
  rw [show (i : Int) / 8 = ((i / 8 : Nat) : Int) from by omega]
  refine D_qn ?_
  refine D_q rfl rfl ?_
  (refine s_indexAddr1 El29 rfl rfl rfl ?hx ?_; case hx => (constructor <;> omega))
  rw [show 0 + ((i / 8 : Nat) : Int).toNat = i / 8 from by omega]
  refine D_qn ?_
  refine D_q rfl rfl ?_
  refine s_load Tryd.isAgg5 rfl rfl (hs.cell (k := 1) rfl hat) ?_
  refine D_qn ?_
  refine D_q rfl rfl ?_
  refine s_move rfl rfl ?_
  refine D_qn ?_
  refine D_q rfl rfl ?_
  (refine s_rem' rfl rfl rfl ?hx ?_; case hx => (refine ⟨?_, ?_⟩ <;> omega))
  rw [show (i : Int) % 8 = ((i % 8 : Nat) : Int) from by omega]
  refine D_qn ?_
  refine D_q rfl rfl ?_
  (refine s_shr rfl rfl rfl ?hx ?_; case hx => omega)
  rw [shr128 _ (by omega)]
  refine D_qn ?_
  refine D_q rfl rfl ?_
  refine s_and rfl rfl rfl ?_
  rw [and8 _ _ hB2 (p2_le _)]
  refine D_qn ?_
  refine D_q rfl rfl ?_
  refine s_neq rfl rfl rfl ?_
  refine D_qn ?_
  refine D_q rfl rfl ?_
  refine s_assign rfl rfl ?_
  refine D_qn ?_
  refine D_nil ?_
  refine n_then ?_
  refine W_ret ?_
  refine end1 rfl rfl ⟨_, hs, hL.symm, ?_⟩
  unfold bitAt
  rw [List.getD_eq_getElem?_getD, hB, Option.getD_some, Int.toNat_natCast]
  congr 1
  rw [Bool.eq_iff_iff]; simp only [bne_iff_ne, ne_eq]; omega
/-! Bits -/
theorem shl1 (i : Nat) (hi : i < 64) : IntKind.u64.wrap (1 * 2 ^ (min ((i : Nat) : Int).toNat IntKind.u64.bits)) = ((2 ^ i : Nat) : Int) := by
  have h : 2 ^ i < 2 ^ 64 := Nat.pow_lt_pow_right (by decide) hi
  rw [bits64, show min ((i : Nat) : Int).toNat 64 = i by omega, Int.one_mul, show (2 : Int) ^ i = ((2 ^ i : Nat) : Int) by simp, u64w (by omega)]
theorem or_hi (x i : Nat) (hx : (2 * x + 1) * 2 ^ i < 18446744073709551616) : IntKind.u64.wrap (((BitVec.ofInt IntKind.u64.bits ((x * 2 ^ (i + 1) : Nat) : Int) ||| BitVec.ofInt IntKind.u64.bits ((2 ^ i : Nat) : Int)).toNat : Nat) : Int) = (((2 * x + 1) * 2 ^ i : Nat) : Int) := by
  have he : x * 2 ^ (i + 1) + 2 ^ i = (2 * x + 1) * 2 ^ i := by rw [Nat.pow_succ, Nat.add_mul, Nat.one_mul, Nat.mul_comm 2 x, Nat.mul_assoc, Nat.mul_comm (2 ^ i) 2]
  rw [BitVec.or_comm, or_shl (2 ^ i) x (i + 1) (Nat.pow_lt_pow_right (by decide) (by omega)) (by omega), he]
def rbV (ys : List Int) (k : Nat) (e : Int) (cnt : Int) : Nat × Nat × Int :=
  if e ≠ 0 then (0, k, e) else if 8 * ys.length - k < (clampV cnt).toNat then (0, k, 3) else (va (bitsAt ys k (clampV cnt).toNat), k + (clampV cnt).toNat, 0)
theorem rBits_ok (p : Nat) (ys : List Int) (k : Nat) (e cnt : Int) (L0 : Hp) (w0 : World) (hR : RbAt p ys k e L0) (hs : St (ids L0) w0 w0 L0) :
    Ret Tryd.prog 51 [.pointer (some ⟨p, 0, none⟩), .int .i64 cnt].toArray w0 fun r w' => ∃ L', St (ids L0) w0 w' L' ∧ RbAt p ys (rbV ys k e cnt).2.1 (rbV ys k e cnt).2.2 L' ∧ r = .int .u64 ((rbV ys k e cnt).1 : Int) := by
  obtain ⟨hcv, hc⟩ := clampV_nat cnt
  unfold rbV
  generalize (clampV cnt).toNat = c at *
  have hR0 := hR
  obtain ⟨v, Lb, hL, hO, hk, hb, hl⟩ := hR
  obtain ⟨_, vc, va', rfl, rfl⟩ := hO.form
  replace hs : St (ids L0) w0 w0 ((p, Blk 90 [.slice va' ys.length vc, .int .i64 (k : Int), .int .i64 e]) :: Lb) := by rw [hL] at hs ⊢; exact hs
  refine Ret_startL hs fun w hs => ?_
  refine Ret_ofM Tryd.func51 rfl Tryd.ntmps51 rfl ?_
  refine M_seq ?_
  refine M_W ?_
  refine W_region ?_
  first | refine s_box rfl rfl hs ?_ | refine s_box1 rfl rfl rfl hs ?_
  clear hs; intro b2 w hs
  refine s_assign rfl rfl ?_
  refine WL_nil ?_
  refine n_loop ?_
  refine M_seq ?_
  refine M_W ?_
  refine W_seq ?_
  refine W_region ?_
  first
    | refine s_load Tryd.isAgg72 rfl rfl (hs.cell (k := 0) rfl rfl) ?_
    | refine s_load Tryd.isAgg72 rfl rfl (hs.cell (k := 1) rfl rfl) ?_
    | refine s_load Tryd.isAgg72 rfl rfl (hs.cell (k := 2) rfl rfl) ?_
    | refine s_load Tryd.isAgg72 rfl rfl (hs.cell (k := 3) rfl rfl) ?_
    | refine s_load Tryd.isAgg72 rfl rfl (hs.cell (k := 4) rfl rfl) ?_
    | refine s_load Tryd.isAgg72 rfl rfl (hs.cell (k := 5) rfl rfl) ?_
    | refine s_load Tryd.isAgg72 rfl rfl (hs.cell (k := 6) rfl rfl) ?_
    | refine s_load Tryd.isAgg72 rfl rfl (hs.cell (k := 7) rfl rfl) ?_
    | refine s_load Tryd.isAgg72 rfl rfl (hs.cell (k := 8) rfl rfl) ?_
    | refine s_load Tryd.isAgg72 rfl rfl (hs.cell (k := 9) rfl rfl) ?_
  refine s_nilCheck rfl rfl ?_
  refine s_fieldAddr rfl rfl (FA90_2 _ _) ?_
  first
    | refine s_load Tryd.isAgg24 rfl rfl (hs.cell (k := 0) rfl rfl) ?_
    | refine s_load Tryd.isAgg24 rfl rfl (hs.cell (k := 1) rfl rfl) ?_
    | refine s_load Tryd.isAgg24 rfl rfl (hs.cell (k := 2) rfl rfl) ?_
    | refine s_load Tryd.isAgg24 rfl rfl (hs.cell (k := 3) rfl rfl) ?_
    | refine s_load Tryd.isAgg24 rfl rfl (hs.cell (k := 4) rfl rfl) ?_
    | refine s_load Tryd.isAgg24 rfl rfl (hs.cell (k := 5) rfl rfl) ?_
    | refine s_load Tryd.isAgg24 rfl rfl (hs.cell (k := 6) rfl rfl) ?_
    | refine s_load Tryd.isAgg24 rfl rfl (hs.cell (k := 7) rfl rfl) ?_
    | refine s_load Tryd.isAgg24 rfl rfl (hs.cell (k := 8) rfl rfl) ?_
    | refine s_load Tryd.isAgg24 rfl rfl (hs.cell (k := 9) rfl rfl) ?_
  refine s_neq rfl rfl rfl ?_
  refine WL_nil ?_
  refine n_then ?_
  refine W_cond rfl (fun hc11 => ?_) (fun hc11 => ?_)
  · skip
    try simp only [decide_eq_true_eq, decide_eq_false_iff_not, bne_iff_ne, ne_eq, bne_eq_false_iff_eq] at hc11
    refine W_seq ?_
    refine W_region ?_
    refine s_assign rfl rfl ?_
    refine WL_nil ?_
    refine n_then ?_
    refine W_ret ?_
    refine r_then ?_
    refine M_end0 ?_
    first
      | (refine end1 rfl rfl ⟨_, hs.tail, ?_⟩
         rw [if_pos (show e ≠ 0 from hc11)]
         exact ⟨⟨_, Lb, rfl, hO, hk, hb, hl⟩, rfl⟩)
      | (refine end1 rfl rfl ⟨_, hs.tail, ?_⟩
         rw [if_neg (show ¬ e ≠ 0 by omega), if_pos (by omega)]
         exact ⟨⟨_, Lb, rfl, hO, hk, hb, hl⟩, rfl⟩)
  · skip
    try simp only [decide_eq_true_eq, decide_eq_false_iff_not, bne_iff_ne, ne_eq, bne_eq_false_iff_eq] at hc11
    refine W_skip ?_
    refine n_loop ?_
    refine M_seq ?_
    refine M_W ?_
    refine W_region ?_
    refine s_move rfl rfl ?_
    refine s_call Tryd.call56 rfl rfl (clamp_ok cnt w) ?_
    rintro v w1 ⟨hw1, rfl⟩
    rw [hw1, hcv]; clear hw1 w1
    refine s_assign rfl rfl ?_
    refine WL_nil ?_
    refine n_loop ?_
    refine M_seq ?_
    refine M_W ?_
    refine W_seq ?_
    refine W_region ?_
    refine s_move rfl rfl ?_
    first
      | refine s_load Tryd.isAgg72 rfl rfl (hs.cell (k := 0) rfl rfl) ?_
      | refine s_load Tryd.isAgg72 rfl rfl (hs.cell (k := 1) rfl rfl) ?_
      | refine s_load Tryd.isAgg72 rfl rfl (hs.cell (k := 2) rfl rfl) ?_
      | refine s_load Tryd.isAgg72 rfl rfl (hs.cell (k := 3) rfl rfl) ?_
      | refine s_load Tryd.isAgg72 rfl rfl (hs.cell (k := 4) rfl rfl) ?_
      | refine s_load Tryd.isAgg72 rfl rfl (hs.cell (k := 5) rfl rfl) ?_
      | refine s_load Tryd.isAgg72 rfl rfl (hs.cell (k := 6) rfl rfl) ?_
      | refine s_load Tryd.isAgg72 rfl rfl (hs.cell (k := 7) rfl rfl) ?_
      | refine s_load Tryd.isAgg72 rfl rfl (hs.cell (k := 8) rfl rfl) ?_
      | refine s_load Tryd.isAgg72 rfl rfl (hs.cell (k := 9) rfl rfl) ?_
    refine s_callL (M := [_]) (L1 := L0) (X := []) Tryd.call52 rfl rfl (by rw [hL] at hs ⊢; simpa using hs) (fun h => bleft_ok p ys k e L0 w hR0 h) ?_
    clear hs; rintro v w L9 ⟨hL9, rfl⟩ - hs
    rw [hL9] at hs; clear hL9 L9
    replace hs : St (ids L0) w0 w ((b2, Blk 72 [.pointer (some ⟨p, 0, none⟩)]) :: (p, Blk 90 [.slice va' ys.length vc, .int .i64 (k : Int), .int .i64 e]) :: Lb) := by rw [hL] at hs ⊢; simpa using hs
    refine s_gtr rfl rfl rfl ?_
    refine WL_nil ?_
    refine n_then ?_
    refine W_cond rfl (fun hc17 => ?_) (fun hc17 => ?_)
    · skip
      try simp only [decide_eq_true_eq, decide_eq_false_iff_not, bne_iff_ne, ne_eq, bne_eq_false_iff_eq] at hc17
      refine W_seq ?_
      refine W_region ?_
      first
        | refine s_load Tryd.isAgg72 rfl rfl (hs.cell (k := 0) rfl rfl) ?_
        | refine s_load Tryd.isAgg72 rfl rfl (hs.cell (k := 1) rfl rfl) ?_
        | refine s_load Tryd.isAgg72 rfl rfl (hs.cell (k := 2) rfl rfl) ?_
        | refine s_load Tryd.isAgg72 rfl rfl (hs.cell (k := 3) rfl rfl) ?_
        | refine s_load Tryd.isAgg72 rfl rfl (hs.cell (k := 4) rfl rfl) ?_
        | refine s_load Tryd.isAgg72 rfl rfl (hs.cell (k := 5) rfl rfl) ?_
        | refine s_load Tryd.isAgg72 rfl rfl (hs.cell (k := 6) rfl rfl) ?_
        | refine s_load Tryd.isAgg72 rfl rfl (hs.cell (k := 7) rfl rfl) ?_
        | refine s_load Tryd.isAgg72 rfl rfl (hs.cell (k := 8) rfl rfl) ?_
        | refine s_load Tryd.isAgg72 rfl rfl (hs.cell (k := 9) rfl rfl) ?_
      refine s_nilCheck rfl rfl ?_
      refine s_fieldAddr rfl rfl (FA90_2 _ _) ?_
      first
        | refine s_storeB Tryd.sizeOf24 rfl rfl rfl hs (kk := 0) rfl rfl ?_
        | refine s_storeB Tryd.sizeOf24 rfl rfl rfl hs (kk := 1) rfl rfl ?_
        | refine s_storeB Tryd.sizeOf24 rfl rfl rfl hs (kk := 2) rfl rfl ?_
        | refine s_storeB Tryd.sizeOf24 rfl rfl rfl hs (kk := 3) rfl rfl ?_
        | refine s_storeB Tryd.sizeOf24 rfl rfl rfl hs (kk := 4) rfl rfl ?_
        | refine s_storeB Tryd.sizeOf24 rfl rfl rfl hs (kk := 5) rfl rfl ?_
        | refine s_storeB Tryd.sizeOf24 rfl rfl rfl hs (kk := 6) rfl rfl ?_
        | refine s_storeB Tryd.sizeOf24 rfl rfl rfl hs (kk := 7) rfl rfl ?_
        | refine s_storeB Tryd.sizeOf24 rfl rfl rfl hs (kk := 8) rfl rfl ?_
        | refine s_storeB Tryd.sizeOf24 rfl rfl rfl hs (kk := 9) rfl rfl ?_
      clear hs; intro w hs; try simp only [List.set_cons_zero, List.set_cons_succ, splice, List.take_succ_cons, List.take_zero, List.drop_succ_cons, List.drop_zero, List.nil_append, List.cons_append, List.length_cons, List.length_nil, Nat.reduceAdd, List.append_assoc] at hs
      refine WL_nil ?_
      refine n_then ?_
      refine W_seq ?_
      refine W_region ?_
      refine s_assign rfl rfl ?_
      refine WL_nil ?_
      refine n_then ?_
      refine W_ret ?_
      refine r_then ?_
      refine M_end0 ?_
      first
        | (refine end1 rfl rfl ⟨_, hs.tail, ?_⟩
           rw [if_pos (show e ≠ 0 from hc11)]
           exact ⟨⟨_, Lb, rfl, hO, hk, hb, hl⟩, rfl⟩)
        | (refine end1 rfl rfl ⟨_, hs.tail, ?_⟩
           rw [if_neg (show ¬ e ≠ 0 by omega), if_pos (by omega)]
           exact ⟨⟨_, Lb, rfl, hO, hk, hb, hl⟩, rfl⟩)
    · skip
      try simp only [decide_eq_true_eq, decide_eq_false_iff_not, bne_iff_ne, ne_eq, bne_eq_false_iff_eq] at hc17
      refine W_skip ?_
      refine n_loop ?_
      refine M_seq ?_
      refine M_W ?_
      refine W_region ?_
      refine s_alloc rfl AL56 hs ?_; clear hs; intro b5 w hs
      refine WL_nil ?_
      refine n_loop ?_
      refine M_seq ?_
      refine M_seq ?_
      refine M_W ?_
      refine W_region ?_
      refine s_move rfl rfl ?_
      refine s_call Tryd.call55 rfl rfl (positions_ok (c : Int) w) ?_
      rintro v w ⟨bq, rfl, hst⟩
      replace hs := St.back0 hs hst
      clear hst
      simp only [List.cons_append, List.nil_append] at hs
      refine WL_nil ?_
      refine n_loop ?_
      refine M_block ?_
      have he0 : e = 0 := by omega
      subst he0
      refine M_range Tryd.call60 rfl hs ?_
      clear hs; intro fn tm D w asg bo has hbo hA hs
      refine Ret.mono (posIter_ok (D + 1) bq c hc (fun i w => ∃ L, St (ids L0) w0 w ((D + 1, .loop (lrec .ready fn tm #[23] asg bo D)) :: (D, .deferred (some [])) :: (bq, Blk 3 [.int .i64 (c : Int)]) :: (b5, Blk 56 [.int .u64 ((va (bitsAt ys k (c - i)) * 2 ^ i : Nat) : Int)]) :: (b2, Blk 72 [.pointer (some ⟨p, 0, none⟩)]) :: L) ∧ RbAt p ys (k + (c - i)) 0 L) ?hrd ?round w ?h0) ?next
      case hrd => rintro i w ⟨L, hs, -⟩; exact hs.cell (k := 2) rfl rfl
      case h0 => exact ⟨L0, by rw [hL] at hs ⊢; simpa [bitsAt, va] using hs, by simpa using hR0⟩
      case round =>
        clear hs; rintro i w hi ⟨L, hs, hR⟩
        have hci : c - i = c - (i + 1) + 1 := by omega
        have hm0 : c - (i + 1) + 1 + i = c := by omega
        rw [hci]
        clear hci
        generalize c - (i + 1) = m at *
        obtain ⟨v, Lc, rfl, hO2, hk2, -, -⟩ := hR
        obtain ⟨_, uc, ua, rfl, rfl⟩ := hO2.form
        have hvl := va_lt (bitsAt ys k m)
        rw [bitsAt_length] at hvl
        have hbd : (2 * va (bitsAt ys k m) + 1) * 2 ^ i < 18446744073709551616 := by
          have h1 : (2 * va (bitsAt ys k m) + 1) < 2 ^ (m + 1) := by rw [Nat.pow_succ]; omega
          have h2 : (2 * va (bitsAt ys k m) + 1) * 2 ^ i < 2 ^ (m + 1) * 2 ^ i := Nat.mul_lt_mul_of_pos_right h1 (Nat.pow_pos (by decide))
          rw [← Nat.pow_add] at h2
          exact Nat.lt_of_lt_of_le h2 (Nat.pow_le_pow_right (by decide) (show m + 1 + i ≤ 64 by omega))
        refine round_St hs rfl hA ?_
        refine R_eq has ?_
        refine R_region rfl ?_
        refine s_assign rfl rfl ?_
        refine WL_nil ?_
        refine q_n ?_
        refine ⟨hs, ?_⟩; clear hs; intro w hs
        refine R_eq hbo ?_
        refine R_block ?_
        refine R_seq ?_
        refine R_seq ?_
        refine R_draw [(0, true, []), (1, true, []), (2, true, []), (3, true, []), (4, true, []), (5, false, [])] [[], [], [1], [1, 2], [1, 2, 3], [0, 1, 2, 3, 4]] MX (by kernel_rfl) rfl ?_
        intro w1 hw1 hw2 hw3 hw4; replace hs := hs.redrawn hw1 hw2 hw3 hw4; clear hw1 hw2 hw3 hw4
        obtain ⟨w, rfl⟩ : ∃ w : World, w = w1 := ⟨_, rfl⟩
        refine D_q rfl rfl ?_
        first
          | refine s_load Tryd.isAgg72 rfl rfl (hs.cell (k := 0) rfl rfl) ?_
          | refine s_load Tryd.isAgg72 rfl rfl (hs.cell (k := 1) rfl rfl) ?_
          | refine s_load Tryd.isAgg72 rfl rfl (hs.cell (k := 2) rfl rfl) ?_
          | refine s_load Tryd.isAgg72 rfl rfl (hs.cell (k := 3) rfl rfl) ?_
          | refine s_load Tryd.isAgg72 rfl rfl (hs.cell (k := 4) rfl rfl) ?_
          | refine s_load Tryd.isAgg72 rfl rfl (hs.cell (k := 5) rfl rfl) ?_
          | refine s_load Tryd.isAgg72 rfl rfl (hs.cell (k := 6) rfl rfl) ?_
          | refine s_load Tryd.isAgg72 rfl rfl (hs.cell (k := 7) rfl rfl) ?_
          | refine s_load Tryd.isAgg72 rfl rfl (hs.cell (k := 8) rfl rfl) ?_
          | refine s_load Tryd.isAgg72 rfl rfl (hs.cell (k := 9) rfl rfl) ?_
        refine D_qn ?_
        refine D_q rfl rfl ?_
        first
          | refine s_load Tryd.isAgg72 rfl rfl (hs.cell (k := 0) rfl rfl) ?_
          | refine s_load Tryd.isAgg72 rfl rfl (hs.cell (k := 1) rfl rfl) ?_
          | refine s_load Tryd.isAgg72 rfl rfl (hs.cell (k := 2) rfl rfl) ?_
          | refine s_load Tryd.isAgg72 rfl rfl (hs.cell (k := 3) rfl rfl) ?_
          | refine s_load Tryd.isAgg72 rfl rfl (hs.cell (k := 4) rfl rfl) ?_
          | refine s_load Tryd.isAgg72 rfl rfl (hs.cell (k := 5) rfl rfl) ?_
          | refine s_load Tryd.isAgg72 rfl rfl (hs.cell (k := 6) rfl rfl) ?_
          | refine s_load Tryd.isAgg72 rfl rfl (hs.cell (k := 7) rfl rfl) ?_
          | refine s_load Tryd.isAgg72 rfl rfl (hs.cell (k := 8) rfl rfl) ?_
          | refine s_load Tryd.isAgg72 rfl rfl (hs.cell (k := 9) rfl rfl) ?_
        refine D_qn ?_
        refine D_q rfl rfl ?_
        refine s_nilCheck rfl rfl ?_
        refine D_qn ?_
        refine D_q rfl rfl ?_
        refine s_fieldAddr rfl rfl (FA90_1 _ _) ?_
        refine D_qn ?_
        refine D_q rfl rfl ?_
        first
          | refine s_load Tryd.isAgg3 rfl rfl (hs.cell (k := 0) rfl rfl) ?_
          | refine s_load Tryd.isAgg3 rfl rfl (hs.cell (k := 1) rfl rfl) ?_
          | refine s_load Tryd.isAgg3 rfl rfl (hs.cell (k := 2) rfl rfl) ?_
          | refine s_load Tryd.isAgg3 rfl rfl (hs.cell (k := 3) rfl rfl) ?_
          | refine s_load Tryd.isAgg3 rfl rfl (hs.cell (k := 4) rfl rfl) ?_
          | refine s_load Tryd.isAgg3 rfl rfl (hs.cell (k := 5) rfl rfl) ?_
          | refine s_load Tryd.isAgg3 rfl rfl (hs.cell (k := 6) rfl rfl) ?_
          | refine s_load Tryd.isAgg3 rfl rfl (hs.cell (k := 7) rfl rfl) ?_
          | refine s_load Tryd.isAgg3 rfl rfl (hs.cell (k := 8) rfl rfl) ?_
          | refine s_load Tryd.isAgg3 rfl rfl (hs.cell (k := 9) rfl rfl) ?_
        refine D_qn ?_
        refine D_e rfl ?_
        refine s_callL (M := [_, _, _, _, _]) (L1 := (p, Blk 90 [.slice ua ys.length uc, .int .i64 ((k + m : Nat) : Int), .int .i64 0]) :: Lc) (X := []) Tryd.call53 rfl rfl (by simp only [List.append_nil, List.cons_append, List.nil_append]; exact hs) (fun h => bset_ok p ys (k + m) (k + m) 0 _ w ⟨_, Lc, rfl, hO2, hk2, hb, hl⟩ h (by omega)) ?_
        clear hs; rintro v w _ ⟨rfl, rfl⟩ - hs
        simp only [List.cons_append, List.nil_append, List.append_nil] at hs
        refine D_en ?re ?_
        case re =>
          exact Reks_nil
        refine D_nil ?_
        refine q_n ?_
        refine R_cond rfl (fun hc29 => ?_) (fun hc29 => ?_)
        · skip
          try simp only [decide_eq_true_eq, decide_eq_false_iff_not, bne_iff_ne, ne_eq, bne_eq_false_iff_eq] at hc29
          refine R_draw [(0, true, []), (1, true, []), (2, true, []), (3, true, []), (4, false, [])] [[], [], [1], [0, 1, 2], [0, 1, 2, 3]] MX (by kernel_rfl) rfl ?_
          intro w1 hw1 hw2 hw3 hw4; replace hs := hs.redrawn hw1 hw2 hw3 hw4; clear hw1 hw2 hw3 hw4
          obtain ⟨w, rfl⟩ : ∃ w : World, w = w1 := ⟨_, rfl⟩
          refine D_q rfl rfl ?_
          first
            | refine s_load Tryd.isAgg56 rfl rfl (hs.cell (k := 0) rfl rfl) ?_
            | refine s_load Tryd.isAgg56 rfl rfl (hs.cell (k := 1) rfl rfl) ?_
            | refine s_load Tryd.isAgg56 rfl rfl (hs.cell (k := 2) rfl rfl) ?_
            | refine s_load Tryd.isAgg56 rfl rfl (hs.cell (k := 3) rfl rfl) ?_
            | refine s_load Tryd.isAgg56 rfl rfl (hs.cell (k := 4) rfl rfl) ?_
            | refine s_load Tryd.isAgg56 rfl rfl (hs.cell (k := 5) rfl rfl) ?_
            | refine s_load Tryd.isAgg56 rfl rfl (hs.cell (k := 6) rfl rfl) ?_
            | refine s_load Tryd.isAgg56 rfl rfl (hs.cell (k := 7) rfl rfl) ?_
            | refine s_load Tryd.isAgg56 rfl rfl (hs.cell (k := 8) rfl rfl) ?_
            | refine s_load Tryd.isAgg56 rfl rfl (hs.cell (k := 9) rfl rfl) ?_
          refine D_qn ?_
          refine D_q rfl rfl ?_
          refine s_move rfl rfl ?_
          refine D_qn ?_
          refine D_q rfl rfl ?_
          (refine s_shl rfl rfl rfl ?hx ?_; case hx => omega)
          rw [shl1 i (by omega)]
          refine D_qn ?_
          refine D_q rfl rfl ?_
          refine s_or rfl rfl rfl ?_
          rw [or_hi _ i hbd]
          refine D_qn ?_
          refine D_e rfl ?_
          first
            | refine s_storeB Tryd.sizeOf56 rfl rfl rfl hs (kk := 0) rfl rfl ?_
            | refine s_storeB Tryd.sizeOf56 rfl rfl rfl hs (kk := 1) rfl rfl ?_
            | refine s_storeB Tryd.sizeOf56 rfl rfl rfl hs (kk := 2) rfl rfl ?_
            | refine s_storeB Tryd.sizeOf56 rfl rfl rfl hs (kk := 3) rfl rfl ?_
            | refine s_storeB Tryd.sizeOf56 rfl rfl rfl hs (kk := 4) rfl rfl ?_
            | refine s_storeB Tryd.sizeOf56 rfl rfl rfl hs (kk := 5) rfl rfl ?_
            | refine s_storeB Tryd.sizeOf56 rfl rfl rfl hs (kk := 6) rfl rfl ?_
            | refine s_storeB Tryd.sizeOf56 rfl rfl rfl hs (kk := 7) rfl rfl ?_
            | refine s_storeB Tryd.sizeOf56 rfl rfl rfl hs (kk := 8) rfl rfl ?_
            | refine s_storeB Tryd.sizeOf56 rfl rfl rfl hs (kk := 9) rfl rfl ?_
          clear hs; intro w hs; try simp only [List.set_cons_zero, List.set_cons_succ, splice, List.take_succ_cons, List.take_zero, List.drop_succ_cons, List.drop_zero, List.nil_append, List.cons_append, List.length_cons, List.length_nil, Nat.reduceAdd, List.append_assoc] at hs
          refine D_en ?re ?_
          case re =>
            exact Reks_nil
          refine D_nil ?_
          refine q_n ?_
          refine R_region rfl ?_
          first
            | refine s_load Tryd.isAgg72 rfl rfl (hs.cell (k := 0) rfl rfl) ?_
            | refine s_load Tryd.isAgg72 rfl rfl (hs.cell (k := 1) rfl rfl) ?_
            | refine s_load Tryd.isAgg72 rfl rfl (hs.cell (k := 2) rfl rfl) ?_
            | refine s_load Tryd.isAgg72 rfl rfl (hs.cell (k := 3) rfl rfl) ?_
            | refine s_load Tryd.isAgg72 rfl rfl (hs.cell (k := 4) rfl rfl) ?_
            | refine s_load Tryd.isAgg72 rfl rfl (hs.cell (k := 5) rfl rfl) ?_
            | refine s_load Tryd.isAgg72 rfl rfl (hs.cell (k := 6) rfl rfl) ?_
            | refine s_load Tryd.isAgg72 rfl rfl (hs.cell (k := 7) rfl rfl) ?_
            | refine s_load Tryd.isAgg72 rfl rfl (hs.cell (k := 8) rfl rfl) ?_
            | refine s_load Tryd.isAgg72 rfl rfl (hs.cell (k := 9) rfl rfl) ?_
          refine s_nilCheck rfl rfl ?_
          refine s_fieldAddr rfl rfl (FA90_1 _ _) ?_
          first
            | refine s_load Tryd.isAgg3 rfl rfl (hs.cell (k := 0) rfl rfl) ?_
            | refine s_load Tryd.isAgg3 rfl rfl (hs.cell (k := 1) rfl rfl) ?_
            | refine s_load Tryd.isAgg3 rfl rfl (hs.cell (k := 2) rfl rfl) ?_
            | refine s_load Tryd.isAgg3 rfl rfl (hs.cell (k := 3) rfl rfl) ?_
            | refine s_load Tryd.isAgg3 rfl rfl (hs.cell (k := 4) rfl rfl) ?_
            | refine s_load Tryd.isAgg3 rfl rfl (hs.cell (k := 5) rfl rfl) ?_
            | refine s_load Tryd.isAgg3 rfl rfl (hs.cell (k := 6) rfl rfl) ?_
            | refine s_load Tryd.isAgg3 rfl rfl (hs.cell (k := 7) rfl rfl) ?_
            | refine s_load Tryd.isAgg3 rfl rfl (hs.cell (k := 8) rfl rfl) ?_
            | refine s_load Tryd.isAgg3 rfl rfl (hs.cell (k := 9) rfl rfl) ?_
          (refine s_add' rfl rfl rfl ?hx ?_; case hx => (constructor <;> omega))
          rw [show ((k + m : Nat) : Int) + 1 = ((k + (m + 1) : Nat) : Int) from by omega]
          refine s_nilCheck rfl rfl ?_
          refine s_fieldAddr rfl rfl (FA90_1 _ _) ?_
          first
            | refine s_storeB Tryd.sizeOf3 rfl rfl rfl hs (kk := 0) rfl rfl ?_
            | refine s_storeB Tryd.sizeOf3 rfl rfl rfl hs (kk := 1) rfl rfl ?_
            | refine s_storeB Tryd.sizeOf3 rfl rfl rfl hs (kk := 2) rfl rfl ?_
            | refine s_storeB Tryd.sizeOf3 rfl rfl rfl hs (kk := 3) rfl rfl ?_
            | refine s_storeB Tryd.sizeOf3 rfl rfl rfl hs (kk := 4) rfl rfl ?_
            | refine s_storeB Tryd.sizeOf3 rfl rfl rfl hs (kk := 5) rfl rfl ?_
            | refine s_storeB Tryd.sizeOf3 rfl rfl rfl hs (kk := 6) rfl rfl ?_
            | refine s_storeB Tryd.sizeOf3 rfl rfl rfl hs (kk := 7) rfl rfl ?_
            | refine s_storeB Tryd.sizeOf3 rfl rfl rfl hs (kk := 8) rfl rfl ?_
            | refine s_storeB Tryd.sizeOf3 rfl rfl rfl hs (kk := 9) rfl rfl ?_
          clear hs; intro w hs; try simp only [List.set_cons_zero, List.set_cons_succ, splice, List.take_succ_cons, List.take_zero, List.drop_succ_cons, List.drop_zero, List.nil_append, List.cons_append, List.length_cons, List.length_nil, Nat.reduceAdd, List.append_assoc] at hs
          refine WL_nil ?_
          refine q_n ?_
          first
            | (have hv9 : va (bitsAt ys k (m + 1)) * 2 ^ i = (2 * va (bitsAt ys k m) + 1) * 2 ^ i := by rw [bitsAt, va_snoc, hc29]; rfl
               exact ⟨_, hs, fun w hs => ⟨_, by rw [hv9]; exact hs, ⟨_, Lc, rfl, hO2, by omega, hb, hl⟩⟩⟩)
            | (have hv9 : va (bitsAt ys k (m + 1)) * 2 ^ i = va (bitsAt ys k m) * 2 ^ (i + 1) := by rw [bitsAt, va_snoc, hc29, Nat.pow_succ, Nat.mul_comm (2 ^ i) 2, ← Nat.mul_assoc, Nat.mul_comm (va _) 2]; rfl
               exact ⟨_, hs, fun w hs => ⟨_, by rw [hv9]; exact hs, ⟨_, Lc, rfl, hO2, by omega, hb, hl⟩⟩⟩)
        · skip
          try simp only [decide_eq_true_eq, decide_eq_false_iff_not, bne_iff_ne, ne_eq, bne_eq_false_iff_eq] at hc29
          refine R_skip ?_
          refine q_n ?_
          refine R_region rfl ?_
          first
            | refine s_load Tryd.isAgg72 rfl rfl (hs.cell (k := 0) rfl rfl) ?_
            | refine s_load Tryd.isAgg72 rfl rfl (hs.cell (k := 1) rfl rfl) ?_
            | refine s_load Tryd.isAgg72 rfl rfl (hs.cell (k := 2) rfl rfl) ?_
            | refine s_load Tryd.isAgg72 rfl rfl (hs.cell (k := 3) rfl rfl) ?_
            | refine s_load Tryd.isAgg72 rfl rfl (hs.cell (k := 4) rfl rfl) ?_
            | refine s_load Tryd.isAgg72 rfl rfl (hs.cell (k := 5) rfl rfl) ?_
            | refine s_load Tryd.isAgg72 rfl rfl (hs.cell (k := 6) rfl rfl) ?_
            | refine s_load Tryd.isAgg72 rfl rfl (hs.cell (k := 7) rfl rfl) ?_
            | refine s_load Tryd.isAgg72 rfl rfl (hs.cell (k := 8) rfl rfl) ?_
            | refine s_load Tryd.isAgg72 rfl rfl (hs.cell (k := 9) rfl rfl) ?_
          refine s_nilCheck rfl rfl ?_
          refine s_fieldAddr rfl rfl (FA90_1 _ _) ?_
          first
            | refine s_load Tryd.isAgg3 rfl rfl (hs.cell (k := 0) rfl rfl) ?_
            | refine s_load Tryd.isAgg3 rfl rfl (hs.cell (k := 1) rfl rfl) ?_
            | refine s_load Tryd.isAgg3 rfl rfl (hs.cell (k := 2) rfl rfl) ?_
            | refine s_load Tryd.isAgg3 rfl rfl (hs.cell (k := 3) rfl rfl) ?_
            | refine s_load Tryd.isAgg3 rfl rfl (hs.cell (k := 4) rfl rfl) ?_
            | refine s_load Tryd.isAgg3 rfl rfl (hs.cell (k := 5) rfl rfl) ?_
            | refine s_load Tryd.isAgg3 rfl rfl (hs.cell (k := 6) rfl rfl) ?_
            | refine s_load Tryd.isAgg3 rfl rfl (hs.cell (k := 7) rfl rfl) ?_
            | refine s_load Tryd.isAgg3 rfl rfl (hs.cell (k := 8) rfl rfl) ?_
            | refine s_load Tryd.isAgg3 rfl rfl (hs.cell (k := 9) rfl rfl) ?_
          (refine s_add' rfl rfl rfl ?hx ?_; case hx => (constructor <;> omega))
          rw [show ((k + m : Nat) : Int) + 1 = ((k + (m + 1) : Nat) : Int) from by omega]
          refine s_nilCheck rfl rfl ?_
          refine s_fieldAddr rfl rfl (FA90_1 _ _) ?_
          first
            | refine s_storeB Tryd.sizeOf3 rfl rfl rfl hs (kk := 0) rfl rfl ?_
            | refine s_storeB Tryd.sizeOf3 rfl rfl rfl hs (kk := 1) rfl rfl ?_
            | refine s_storeB Tryd.sizeOf3 rfl rfl rfl hs (kk := 2) rfl rfl ?_
            | refine s_storeB Tryd.sizeOf3 rfl rfl rfl hs (kk := 3) rfl rfl ?_
            | refine s_storeB Tryd.sizeOf3 rfl rfl rfl hs (kk := 4) rfl rfl ?_
            | refine s_storeB Tryd.sizeOf3 rfl rfl rfl hs (kk := 5) rfl rfl ?_
            | refine s_storeB Tryd.sizeOf3 rfl rfl rfl hs (kk := 6) rfl rfl ?_
            | refine s_storeB Tryd.sizeOf3 rfl rfl rfl hs (kk := 7) rfl rfl ?_
            | refine s_storeB Tryd.sizeOf3 rfl rfl rfl hs (kk := 8) rfl rfl ?_
            | refine s_storeB Tryd.sizeOf3 rfl rfl rfl hs (kk := 9) rfl rfl ?_
          clear hs; intro w hs; try simp only [List.set_cons_zero, List.set_cons_succ, splice, List.take_succ_cons, List.take_zero, List.drop_succ_cons, List.drop_zero, List.nil_append, List.cons_append, List.length_cons, List.length_nil, Nat.reduceAdd, List.append_assoc] at hs
          refine WL_nil ?_
          refine q_n ?_
          first
            | (have hv9 : va (bitsAt ys k (m + 1)) * 2 ^ i = (2 * va (bitsAt ys k m) + 1) * 2 ^ i := by rw [bitsAt, va_snoc, hc29]; rfl
               exact ⟨_, hs, fun w hs => ⟨_, by rw [hv9]; exact hs, ⟨_, Lc, rfl, hO2, by omega, hb, hl⟩⟩⟩)
            | (have hv9 : va (bitsAt ys k (m + 1)) * 2 ^ i = va (bitsAt ys k m) * 2 ^ (i + 1) := by rw [bitsAt, va_snoc, hc29, Nat.pow_succ, Nat.mul_comm (2 ^ i) 2, ← Nat.mul_assoc, Nat.mul_comm (va _) 2]; rfl
               exact ⟨_, hs, fun w hs => ⟨_, by rw [hv9]; exact hs, ⟨_, Lc, rfl, hO2, by omega, hb, hl⟩⟩⟩)
      case next =>
        rintro _ w ⟨L, hs, hR⟩
        refine ⟨_, hs, ?_⟩
        clear hs; intro w hs
        refine n_blk ?_
        refine n_loop ?_
        refine M_W ?_
        refine W_seq ?_
        refine W_region ?_
        first
          | refine s_load Tryd.isAgg56 rfl rfl (hs.cell (k := 0) rfl rfl) ?_
          | refine s_load Tryd.isAgg56 rfl rfl (hs.cell (k := 1) rfl rfl) ?_
          | refine s_load Tryd.isAgg56 rfl rfl (hs.cell (k := 2) rfl rfl) ?_
          | refine s_load Tryd.isAgg56 rfl rfl (hs.cell (k := 3) rfl rfl) ?_
          | refine s_load Tryd.isAgg56 rfl rfl (hs.cell (k := 4) rfl rfl) ?_
          | refine s_load Tryd.isAgg56 rfl rfl (hs.cell (k := 5) rfl rfl) ?_
          | refine s_load Tryd.isAgg56 rfl rfl (hs.cell (k := 6) rfl rfl) ?_
          | refine s_load Tryd.isAgg56 rfl rfl (hs.cell (k := 7) rfl rfl) ?_
          | refine s_load Tryd.isAgg56 rfl rfl (hs.cell (k := 8) rfl rfl) ?_
          | refine s_load Tryd.isAgg56 rfl rfl (hs.cell (k := 9) rfl rfl) ?_
        refine s_assign rfl rfl ?_
        refine WL_nil ?_
        refine n_then ?_
        refine W_ret ?_
        refine M_end hs ?_
        clear hs; intro w hs
        refine end1 rfl rfl ⟨L, hs.tail.tail.tail, ?_⟩
        rw [if_neg (by simp), if_neg (by omega)]
        exact ⟨hR, by simp⟩
/-! Unary -/
def ruGo (ys : List Int) (k m : Nat) : Nat → Nat → Nat × Nat × Int
  | 0, _ => (0, k, 3)
  | f + 1, n => if bitAt ys (k + n) = false then (n, k + n + 1, 0) else if n = m then (0, k, 4) else ruGo ys k m f (n + 1)
def ruV (ys : List Int) (k : Nat) (e : Int) (most : Int) : Nat × Nat × Int := if e ≠ 0 then (0, k, e) else ruGo ys k most.toNat (8 * ys.length - k) 0
theorem rUnary_ok (p : Nat) (ys : List Int) (k : Nat) (e most : Int) (L0 : Hp) (w0 : World) (hR : RbAt p ys k e L0) (hs : St (ids L0) w0 w0 L0) :
    Ret Tryd.prog 50 [.pointer (some ⟨p, 0, none⟩), .int .i64 most].toArray w0 fun r w' => ∃ L', St (ids L0) w0 w' L' ∧ RbAt p ys (ruV ys k e most).2.1 (ruV ys k e most).2.2 L' ∧ r = .int .i64 ((ruV ys k e most).1 : Int) := by
  unfold ruV
  have hmx : (if most < 0 then 0 else most) = (most.toNat : Int) := by split <;> omega
  generalize most.toNat = m at *
  have hR0 := hR
  obtain ⟨v, Lb, hL, hO, hk, hb, hl⟩ := hR
  obtain ⟨_, vc, va', rfl, rfl⟩ := hO.form
  replace hs : St (ids L0) w0 w0 ((p, Blk 90 [.slice va' ys.length vc, .int .i64 (k : Int), .int .i64 e]) :: Lb) := by rw [hL] at hs ⊢; exact hs
  refine Ret_startL hs fun w hs => ?_
  refine Ret_of Tryd.func50 rfl Tryd.ntmps50 rfl ?_
  refine W_seq ?_
  refine W_region ?_
  refine s_assign rfl rfl ?_
  refine WL_nil ?_
  refine n_then ?_
  refine W_seq ?_
  refine W_seq ?_
  refine W_region ?_
  refine s_move rfl rfl ?_
  refine s_nilCheck rfl rfl ?_
  refine s_fieldAddr rfl rfl (FA90_2 _ _) ?_
  first
    | refine s_load Tryd.isAgg24 rfl rfl (hs.cell (k := 0) rfl rfl) ?_
    | refine s_load Tryd.isAgg24 rfl rfl (hs.cell (k := 1) rfl rfl) ?_
    | refine s_load Tryd.isAgg24 rfl rfl (hs.cell (k := 2) rfl rfl) ?_
    | refine s_load Tryd.isAgg24 rfl rfl (hs.cell (k := 3) rfl rfl) ?_
    | refine s_load Tryd.isAgg24 rfl rfl (hs.cell (k := 4) rfl rfl) ?_
    | refine s_load Tryd.isAgg24 rfl rfl (hs.cell (k := 5) rfl rfl) ?_
    | refine s_load Tryd.isAgg24 rfl rfl (hs.cell (k := 6) rfl rfl) ?_
    | refine s_load Tryd.isAgg24 rfl rfl (hs.cell (k := 7) rfl rfl) ?_
    | refine s_load Tryd.isAgg24 rfl rfl (hs.cell (k := 8) rfl rfl) ?_
    | refine s_load Tryd.isAgg24 rfl rfl (hs.cell (k := 9) rfl rfl) ?_
  refine s_neq rfl rfl rfl ?_
  refine WL_nil ?_
  refine n_then ?_
  refine W_cond rfl (fun hc10 => ?_) (fun hc10 => ?_)
  · skip
    try simp only [decide_eq_true_eq, decide_eq_false_iff_not, bne_iff_ne, ne_eq, bne_eq_false_iff_eq, beq_iff_eq, beq_eq_false_iff_ne, Bool.not_eq_true', Bool.not_eq_false'] at hc10
    refine W_seq ?_
    refine W_region ?_
    refine s_assign rfl rfl ?_
    refine WL_nil ?_
    refine n_then ?_
    refine W_ret ?_
    refine r_then ?_
    first
      | (refine end1 rfl rfl ⟨_, hs, ?_⟩
         rw [if_pos (show e ≠ 0 from hc10)]
         exact ⟨⟨_, Lb, rfl, hO, hk, hb, hl⟩, rfl⟩)
      | (refine end1 rfl rfl ⟨_, hs, ?_⟩
         rw [if_neg (by simp), ← hgo]
         exact ⟨⟨_, Lb, rfl, hO, by simp only; omega, hb, hl⟩, rfl⟩)
  · skip
    try simp only [decide_eq_true_eq, decide_eq_false_iff_not, bne_iff_ne, ne_eq, bne_eq_false_iff_eq, beq_iff_eq, beq_eq_false_iff_ne, Bool.not_eq_true', Bool.not_eq_false'] at hc10
    refine W_skip ?_
    refine n_then ?_
    refine W_seq ?_
    refine W_region ?_
    refine s_move rfl rfl ?_
    refine s_max rfl rfl rfl ?_
    rw [hmx]
    refine s_assign rfl rfl ?_
    refine WL_nil ?_
    refine n_then ?_
    refine W_seq ?_
    refine W_region ?_
    refine s_assign rfl rfl ?_
    refine WL_nil ?_
    refine n_then ?_
    refine W_block ?_
    have he0 : e = 0 := by omega
    subst he0
    refine W_loop (σ := Nat) (fun s => [(0, .pointer (some ⟨p, 0, none⟩)), (1, .int .i64 (m : Int)), (5, .int .i64 (s : Int))]) (fun s w => St (ids L0) w0 w ((p, Blk 90 [.slice va' ys.length vc, .int .i64 (k : Int), .int .i64 0]) :: Lb) ∧ s ≤ 8 * ys.length - k ∧ ruGo ys k m (8 * ys.length - k - s) s = ruGo ys k m (8 * ys.length - k) 0) (fun s => 8 * ys.length - k - s) 0 ⟨rfl, rfl, rfl, trivial⟩ ⟨hs, Nat.zero_le _, rfl⟩ ?_
    clear hs
    rintro n w ⟨hs, hn, hgo⟩
    refine W_seq ?_
    refine W_block ?_
    refine W_block ?_
    refine W_seq ?_
    refine W_region ?_
    refine s_move rfl rfl ?_
    refine s_move rfl rfl ?_
    refine s_callL (M := []) (L1 := L0) (X := []) Tryd.call52 rfl rfl (by rw [hL] at hs ⊢; simpa using hs) (fun h => bleft_ok p ys k 0 L0 w hR0 h) ?_
    clear hs; rintro v w L9 ⟨hL9, rfl⟩ - hs
    rw [hL9] at hs; clear hL9 L9
    replace hs : St (ids L0) w0 w ((p, Blk 90 [.slice va' ys.length vc, .int .i64 (k : Int), .int .i64 0]) :: Lb) := by rw [hL] at hs ⊢; simpa using hs
    refine s_geq rfl rfl rfl ?_
    refine s_assign rfl rfl ?_
    refine WL_nil ?_
    refine n_then ?_
    refine W_cond rfl (fun hc15 => ?_) (fun hc15 => ?_)
    · skip
      try simp only [decide_eq_true_eq, decide_eq_false_iff_not, bne_iff_ne, ne_eq, bne_eq_false_iff_eq, beq_iff_eq, beq_eq_false_iff_ne, Bool.not_eq_true', Bool.not_eq_false'] at hc15
      rw [show 8 * ys.length - k - n = 0 by omega] at hgo
      simp only [ruGo] at hgo
      refine W_seq ?_
      refine W_region ?_
      refine s_move rfl rfl ?_
      refine s_nilCheck rfl rfl ?_
      refine s_fieldAddr rfl rfl (FA90_2 _ _) ?_
      first
        | refine s_storeB Tryd.sizeOf24 rfl rfl rfl hs (kk := 0) rfl rfl ?_
        | refine s_storeB Tryd.sizeOf24 rfl rfl rfl hs (kk := 1) rfl rfl ?_
        | refine s_storeB Tryd.sizeOf24 rfl rfl rfl hs (kk := 2) rfl rfl ?_
        | refine s_storeB Tryd.sizeOf24 rfl rfl rfl hs (kk := 3) rfl rfl ?_
        | refine s_storeB Tryd.sizeOf24 rfl rfl rfl hs (kk := 4) rfl rfl ?_
        | refine s_storeB Tryd.sizeOf24 rfl rfl rfl hs (kk := 5) rfl rfl ?_
        | refine s_storeB Tryd.sizeOf24 rfl rfl rfl hs (kk := 6) rfl rfl ?_
        | refine s_storeB Tryd.sizeOf24 rfl rfl rfl hs (kk := 7) rfl rfl ?_
        | refine s_storeB Tryd.sizeOf24 rfl rfl rfl hs (kk := 8) rfl rfl ?_
        | refine s_storeB Tryd.sizeOf24 rfl rfl rfl hs (kk := 9) rfl rfl ?_
      clear hs; intro w hs; try simp only [List.set_cons_zero, List.set_cons_succ, splice, List.take_succ_cons, List.take_zero, List.drop_succ_cons, List.drop_zero, List.nil_append, List.cons_append, List.length_cons, List.length_nil, Nat.reduceAdd, List.append_assoc] at hs
      refine WL_nil ?_
      refine n_then ?_
      refine W_seq ?_
      refine W_region ?_
      refine s_assign rfl rfl ?_
      refine WL_nil ?_
      refine n_then ?_
      refine W_ret ?_
      refine r_blk ?_
      refine r_blk ?_
      refine r_then ?_
      refine r_then ?_
      refine r_blk ?_
      first
        | (refine end1 rfl rfl ⟨_, hs, ?_⟩
           rw [if_pos (show e ≠ 0 from hc10)]
           exact ⟨⟨_, Lb, rfl, hO, hk, hb, hl⟩, rfl⟩)
        | (refine end1 rfl rfl ⟨_, hs, ?_⟩
           rw [if_neg (by simp), ← hgo]
           exact ⟨⟨_, Lb, rfl, hO, by simp only; omega, hb, hl⟩, rfl⟩)
    · skip
      try simp only [decide_eq_true_eq, decide_eq_false_iff_not, bne_iff_ne, ne_eq, bne_eq_false_iff_eq, beq_iff_eq, beq_eq_false_iff_ne, Bool.not_eq_true', Bool.not_eq_false'] at hc15
      rw [show 8 * ys.length - k - n = (8 * ys.length - k - n - 1) + 1 by omega] at hgo
      simp only [ruGo] at hgo
      refine W_seq ?_
      refine W_region ?_
      refine s_move rfl rfl ?_
      refine s_move rfl rfl ?_
      refine s_nilCheck rfl rfl ?_
      refine s_fieldAddr rfl rfl (FA90_1 _ _) ?_
      first
        | refine s_load Tryd.isAgg3 rfl rfl (hs.cell (k := 0) rfl rfl) ?_
        | refine s_load Tryd.isAgg3 rfl rfl (hs.cell (k := 1) rfl rfl) ?_
        | refine s_load Tryd.isAgg3 rfl rfl (hs.cell (k := 2) rfl rfl) ?_
        | refine s_load Tryd.isAgg3 rfl rfl (hs.cell (k := 3) rfl rfl) ?_
        | refine s_load Tryd.isAgg3 rfl rfl (hs.cell (k := 4) rfl rfl) ?_
        | refine s_load Tryd.isAgg3 rfl rfl (hs.cell (k := 5) rfl rfl) ?_
        | refine s_load Tryd.isAgg3 rfl rfl (hs.cell (k := 6) rfl rfl) ?_
        | refine s_load Tryd.isAgg3 rfl rfl (hs.cell (k := 7) rfl rfl) ?_
        | refine s_load Tryd.isAgg3 rfl rfl (hs.cell (k := 8) rfl rfl) ?_
        | refine s_load Tryd.isAgg3 rfl rfl (hs.cell (k := 9) rfl rfl) ?_
      refine s_move rfl rfl ?_
      (refine s_add' rfl rfl rfl ?hx ?_; case hx => (constructor <;> omega))
      rw [show (k : Int) + (n : Int) = ((k + n : Nat) : Int) from by omega]
      refine s_callL (M := []) (L1 := L0) (X := []) Tryd.call53 rfl rfl (by rw [hL] at hs ⊢; simpa using hs) (fun h => bset_ok p ys k (k + n) 0 L0 w hR0 h (by omega)) ?_
      clear hs; rintro v w L9 ⟨hL9, rfl⟩ - hs
      rw [hL9] at hs; clear hL9 L9
      replace hs : St (ids L0) w0 w ((p, Blk 90 [.slice va' ys.length vc, .int .i64 (k : Int), .int .i64 0]) :: Lb) := by rw [hL] at hs ⊢; simpa using hs
      refine s_not rfl rfl ?_
      refine s_assign rfl rfl ?_
      refine WL_nil ?_
      refine n_then ?_
      refine W_cond rfl (fun hc23 => ?_) (fun hc23 => ?_)
      · skip
        try simp only [decide_eq_true_eq, decide_eq_false_iff_not, bne_iff_ne, ne_eq, bne_eq_false_iff_eq, beq_iff_eq, beq_eq_false_iff_ne, Bool.not_eq_true', Bool.not_eq_false'] at hc23
        rw [if_pos hc23] at hgo
        refine W_seq ?_
        refine W_region ?_
        refine s_move rfl rfl ?_
        refine s_nilCheck rfl rfl ?_
        refine s_fieldAddr rfl rfl (FA90_1 _ _) ?_
        first
          | refine s_load Tryd.isAgg3 rfl rfl (hs.cell (k := 0) rfl rfl) ?_
          | refine s_load Tryd.isAgg3 rfl rfl (hs.cell (k := 1) rfl rfl) ?_
          | refine s_load Tryd.isAgg3 rfl rfl (hs.cell (k := 2) rfl rfl) ?_
          | refine s_load Tryd.isAgg3 rfl rfl (hs.cell (k := 3) rfl rfl) ?_
          | refine s_load Tryd.isAgg3 rfl rfl (hs.cell (k := 4) rfl rfl) ?_
          | refine s_load Tryd.isAgg3 rfl rfl (hs.cell (k := 5) rfl rfl) ?_
          | refine s_load Tryd.isAgg3 rfl rfl (hs.cell (k := 6) rfl rfl) ?_
          | refine s_load Tryd.isAgg3 rfl rfl (hs.cell (k := 7) rfl rfl) ?_
          | refine s_load Tryd.isAgg3 rfl rfl (hs.cell (k := 8) rfl rfl) ?_
          | refine s_load Tryd.isAgg3 rfl rfl (hs.cell (k := 9) rfl rfl) ?_
        refine s_move rfl rfl ?_
        first | (refine s_add' rfl rfl rfl ?hx ?_; case hx => (constructor <;> first | omega | (simp only; omega))) | refine s_add rfl rfl rfl ?_
        (refine s_add' rfl rfl rfl ?hx ?_; case hx => (constructor <;> omega))
        rw [show (k : Int) + ((n : Int) + 1) = ((k + n + 1 : Nat) : Int) from by omega]
        refine s_nilCheck rfl rfl ?_
        refine s_fieldAddr rfl rfl (FA90_1 _ _) ?_
        first
          | refine s_storeB Tryd.sizeOf3 rfl rfl rfl hs (kk := 0) rfl rfl ?_
          | refine s_storeB Tryd.sizeOf3 rfl rfl rfl hs (kk := 1) rfl rfl ?_
          | refine s_storeB Tryd.sizeOf3 rfl rfl rfl hs (kk := 2) rfl rfl ?_
          | refine s_storeB Tryd.sizeOf3 rfl rfl rfl hs (kk := 3) rfl rfl ?_
          | refine s_storeB Tryd.sizeOf3 rfl rfl rfl hs (kk := 4) rfl rfl ?_
          | refine s_storeB Tryd.sizeOf3 rfl rfl rfl hs (kk := 5) rfl rfl ?_
          | refine s_storeB Tryd.sizeOf3 rfl rfl rfl hs (kk := 6) rfl rfl ?_
          | refine s_storeB Tryd.sizeOf3 rfl rfl rfl hs (kk := 7) rfl rfl ?_
          | refine s_storeB Tryd.sizeOf3 rfl rfl rfl hs (kk := 8) rfl rfl ?_
          | refine s_storeB Tryd.sizeOf3 rfl rfl rfl hs (kk := 9) rfl rfl ?_
        clear hs; intro w hs; try simp only [List.set_cons_zero, List.set_cons_succ, splice, List.take_succ_cons, List.take_zero, List.drop_succ_cons, List.drop_zero, List.nil_append, List.cons_append, List.length_cons, List.length_nil, Nat.reduceAdd, List.append_assoc] at hs
        refine WL_nil ?_
        refine n_then ?_
        refine W_seq ?_
        refine W_region ?_
        refine s_move rfl rfl ?_
        refine s_assign rfl rfl ?_
        refine WL_nil ?_
        refine n_then ?_
        refine W_ret ?_
        refine r_blk ?_
        refine r_blk ?_
        refine r_then ?_
        refine r_then ?_
        refine r_blk ?_
        first
          | (refine end1 rfl rfl ⟨_, hs, ?_⟩
             rw [if_pos (show e ≠ 0 from hc10)]
             exact ⟨⟨_, Lb, rfl, hO, hk, hb, hl⟩, rfl⟩)
          | (refine end1 rfl rfl ⟨_, hs, ?_⟩
             rw [if_neg (by simp), ← hgo]
             exact ⟨⟨_, Lb, rfl, hO, by simp only; omega, hb, hl⟩, rfl⟩)
      · skip
        try simp only [decide_eq_true_eq, decide_eq_false_iff_not, bne_iff_ne, ne_eq, bne_eq_false_iff_eq, beq_iff_eq, beq_eq_false_iff_ne, Bool.not_eq_true', Bool.not_eq_false'] at hc23
        rw [if_neg (by rw [hc23]; simp)] at hgo
        refine W_seq ?_
        refine W_region ?_
        refine s_move rfl rfl ?_
        refine s_move rfl rfl ?_
        refine s_eql rfl rfl rfl ?_
        refine s_assign rfl rfl ?_
        refine WL_nil ?_
        refine n_then ?_
        refine W_cond rfl (fun hc43 => ?_) (fun hc43 => ?_)
        · skip
          try simp only [decide_eq_true_eq, decide_eq_false_iff_not, bne_iff_ne, ne_eq, bne_eq_false_iff_eq, beq_iff_eq, beq_eq_false_iff_ne, Bool.not_eq_true', Bool.not_eq_false'] at hc43
          rw [if_pos (by omega)] at hgo
          refine W_seq ?_
          refine W_region ?_
          refine s_move rfl rfl ?_
          refine s_nilCheck rfl rfl ?_
          refine s_fieldAddr rfl rfl (FA90_2 _ _) ?_
          first
            | refine s_storeB Tryd.sizeOf24 rfl rfl rfl hs (kk := 0) rfl rfl ?_
            | refine s_storeB Tryd.sizeOf24 rfl rfl rfl hs (kk := 1) rfl rfl ?_
            | refine s_storeB Tryd.sizeOf24 rfl rfl rfl hs (kk := 2) rfl rfl ?_
            | refine s_storeB Tryd.sizeOf24 rfl rfl rfl hs (kk := 3) rfl rfl ?_
            | refine s_storeB Tryd.sizeOf24 rfl rfl rfl hs (kk := 4) rfl rfl ?_
            | refine s_storeB Tryd.sizeOf24 rfl rfl rfl hs (kk := 5) rfl rfl ?_
            | refine s_storeB Tryd.sizeOf24 rfl rfl rfl hs (kk := 6) rfl rfl ?_
            | refine s_storeB Tryd.sizeOf24 rfl rfl rfl hs (kk := 7) rfl rfl ?_
            | refine s_storeB Tryd.sizeOf24 rfl rfl rfl hs (kk := 8) rfl rfl ?_
            | refine s_storeB Tryd.sizeOf24 rfl rfl rfl hs (kk := 9) rfl rfl ?_
          clear hs; intro w hs; try simp only [List.set_cons_zero, List.set_cons_succ, splice, List.take_succ_cons, List.take_zero, List.drop_succ_cons, List.drop_zero, List.nil_append, List.cons_append, List.length_cons, List.length_nil, Nat.reduceAdd, List.append_assoc] at hs
          refine WL_nil ?_
          refine n_then ?_
          refine W_seq ?_
          refine W_region ?_
          refine s_assign rfl rfl ?_
          refine WL_nil ?_
          refine n_then ?_
          refine W_ret ?_
          refine r_blk ?_
          refine r_blk ?_
          refine r_then ?_
          refine r_then ?_
          refine r_blk ?_
          first
            | (refine end1 rfl rfl ⟨_, hs, ?_⟩
               rw [if_pos (show e ≠ 0 from hc10)]
               exact ⟨⟨_, Lb, rfl, hO, hk, hb, hl⟩, rfl⟩)
            | (refine end1 rfl rfl ⟨_, hs, ?_⟩
               rw [if_neg (by simp), ← hgo]
               exact ⟨⟨_, Lb, rfl, hO, by simp only; omega, hb, hl⟩, rfl⟩)
        · skip
          try simp only [decide_eq_true_eq, decide_eq_false_iff_not, bne_iff_ne, ne_eq, bne_eq_false_iff_eq, beq_iff_eq, beq_eq_false_iff_ne, Bool.not_eq_true', Bool.not_eq_false'] at hc43
          rw [if_neg (by omega)] at hgo
          refine W_skip ?_
          refine n_blk ?_
          refine n_blk ?_
          refine n_then ?_
          refine W_region ?_
          refine s_move rfl rfl ?_
          first | (refine s_add' rfl rfl rfl ?hx ?_; case hx => (constructor <;> first | omega | (simp only; omega))) | refine s_add rfl rfl rfl ?_
          refine s_assign rfl rfl ?_
          refine WL_nil ?_
          refine n_loop ?_
          exact ⟨n + 1, ⟨rfl, rfl, rfl, trivial⟩, ⟨hs, by omega, by rw [← hgo]; congr 1⟩, by omega⟩
theorem rAt_ok (p : Nat) (ys : List Int) (k : Nat) (e : Int) (L0 : Hp) (w0 : World) (hR : RbAt p ys k e L0) (hs : St (ids L0) w0 w0 L0) :
    Ret Tryd.prog 49 [.pointer (some ⟨p, 0, none⟩)].toArray w0 fun r w' => ∃ L', St (ids L0) w0 w' L' ∧ L' = L0 ∧ r = .int .i64 (k : Int) := by
  obtain ⟨v, Lb, hL, hO, hk, hb, hl⟩ := hR
  replace hs : St (ids L0) w0 w0 ((p, Blk 90 [v, .int .i64 (k : Int), .int .i64 e]) :: Lb) := by rw [hL] at hs ⊢; exact hs
  refine Ret_startL hs fun w hs => ?_
  refine Ret_of Tryd.func49 rfl Tryd.ntmps49 rfl ?_
  refine W_seq ?_
  refine W_region ?_
  refine s_assign rfl rfl ?_
  refine WL_nil ?_
  refine n_then ?_
  refine W_seq ?_
  refine W_region ?_
  refine s_move rfl rfl ?_
  refine s_nilCheck rfl rfl ?_
  refine s_fieldAddr rfl rfl (FA90_1 _ _) ?_
  first
    | refine s_load Tryd.isAgg3 rfl rfl (hs.cell (k := 0) rfl rfl) ?_
    | refine s_load Tryd.isAgg3 rfl rfl (hs.cell (k := 1) rfl rfl) ?_
    | refine s_load Tryd.isAgg3 rfl rfl (hs.cell (k := 2) rfl rfl) ?_
    | refine s_load Tryd.isAgg3 rfl rfl (hs.cell (k := 3) rfl rfl) ?_
    | refine s_load Tryd.isAgg3 rfl rfl (hs.cell (k := 4) rfl rfl) ?_
    | refine s_load Tryd.isAgg3 rfl rfl (hs.cell (k := 5) rfl rfl) ?_
    | refine s_load Tryd.isAgg3 rfl rfl (hs.cell (k := 6) rfl rfl) ?_
    | refine s_load Tryd.isAgg3 rfl rfl (hs.cell (k := 7) rfl rfl) ?_
    | refine s_load Tryd.isAgg3 rfl rfl (hs.cell (k := 8) rfl rfl) ?_
    | refine s_load Tryd.isAgg3 rfl rfl (hs.cell (k := 9) rfl rfl) ?_
  refine s_assign rfl rfl ?_
  refine WL_nil ?_
  refine n_then ?_
  refine W_ret ?_
  exact end1 rfl rfl ⟨_, hs, hL.symm, rfl⟩
def reV (ys : List Int) (k : Nat) (e : Int) : Int := if e ≠ 0 then e else if 8 ≤ 8 * ys.length - k then 2 else if (List.range (8 * ys.length - k)).any (fun i => bitAt ys (k + i)) = true then 2 else 0
theorem bEnd_ok (p : Nat) (ys : List Int) (k : Nat) (e : Int) (L0 : Hp) (w0 : World) (hR : RbAt p ys k e L0) (hs : St (ids L0) w0 w0 L0) :
    Ret Tryd.prog 36 [.pointer (some ⟨p, 0, none⟩)].toArray w0 fun r w' => ∃ L', St (ids L0) w0 w' L' ∧ L' = L0 ∧ r = .int .i64 (reV ys k e) := by
  unfold reV
  have hR0 := hR
  obtain ⟨v, Lb, hL, hO, hk, hb, hl⟩ := hR
  obtain ⟨_, vc, va', rfl, rfl⟩ := hO.form
  replace hs : St (ids L0) w0 w0 ((p, Blk 90 [.slice va' ys.length vc, .int .i64 (k : Int), .int .i64 e]) :: Lb) := by rw [hL] at hs ⊢; exact hs
  refine Ret_startL hs fun w hs => ?_
  refine Ret_of Tryd.func36 rfl Tryd.ntmps36 rfl ?_
  refine W_seq ?_
  refine W_region ?_
  refine s_assign rfl rfl ?_
  refine WL_nil ?_
  refine n_then ?_
  refine W_seq ?_
  refine W_seq ?_
  refine W_region ?_
  refine s_move rfl rfl ?_
  refine s_nilCheck rfl rfl ?_
  refine s_fieldAddr rfl rfl (FA90_2 _ _) ?_
  first
    | refine s_load Tryd.isAgg24 rfl rfl (hs.cell (k := 0) rfl rfl) ?_
    | refine s_load Tryd.isAgg24 rfl rfl (hs.cell (k := 1) rfl rfl) ?_
    | refine s_load Tryd.isAgg24 rfl rfl (hs.cell (k := 2) rfl rfl) ?_
    | refine s_load Tryd.isAgg24 rfl rfl (hs.cell (k := 3) rfl rfl) ?_
    | refine s_load Tryd.isAgg24 rfl rfl (hs.cell (k := 4) rfl rfl) ?_
    | refine s_load Tryd.isAgg24 rfl rfl (hs.cell (k := 5) rfl rfl) ?_
    | refine s_load Tryd.isAgg24 rfl rfl (hs.cell (k := 6) rfl rfl) ?_
    | refine s_load Tryd.isAgg24 rfl rfl (hs.cell (k := 7) rfl rfl) ?_
    | refine s_load Tryd.isAgg24 rfl rfl (hs.cell (k := 8) rfl rfl) ?_
    | refine s_load Tryd.isAgg24 rfl rfl (hs.cell (k := 9) rfl rfl) ?_
  refine s_neq rfl rfl rfl ?_
  refine WL_nil ?_
  refine n_then ?_
  refine W_cond rfl (fun hc8 => ?_) (fun hc8 => ?_)
  · skip
    try simp only [decide_eq_true_eq, decide_eq_false_iff_not, bne_iff_ne, ne_eq, bne_eq_false_iff_eq] at hc8
    refine W_seq ?_
    refine W_region ?_
    refine s_move rfl rfl ?_
    refine s_nilCheck rfl rfl ?_
    refine s_fieldAddr rfl rfl (FA90_2 _ _) ?_
    first
      | refine s_load Tryd.isAgg24 rfl rfl (hs.cell (k := 0) rfl rfl) ?_
      | refine s_load Tryd.isAgg24 rfl rfl (hs.cell (k := 1) rfl rfl) ?_
      | refine s_load Tryd.isAgg24 rfl rfl (hs.cell (k := 2) rfl rfl) ?_
      | refine s_load Tryd.isAgg24 rfl rfl (hs.cell (k := 3) rfl rfl) ?_
      | refine s_load Tryd.isAgg24 rfl rfl (hs.cell (k := 4) rfl rfl) ?_
      | refine s_load Tryd.isAgg24 rfl rfl (hs.cell (k := 5) rfl rfl) ?_
      | refine s_load Tryd.isAgg24 rfl rfl (hs.cell (k := 6) rfl rfl) ?_
      | refine s_load Tryd.isAgg24 rfl rfl (hs.cell (k := 7) rfl rfl) ?_
      | refine s_load Tryd.isAgg24 rfl rfl (hs.cell (k := 8) rfl rfl) ?_
      | refine s_load Tryd.isAgg24 rfl rfl (hs.cell (k := 9) rfl rfl) ?_
    refine s_assign rfl rfl ?_
    refine WL_nil ?_
    refine n_then ?_
    refine W_ret ?_
    refine r_then ?_
    first
      | (refine end1 rfl rfl ⟨_, hs, hL.symm, ?_⟩
         rw [if_pos (show e ≠ 0 from hc8)]; done)
      | (refine end1 rfl rfl ⟨_, hs, hL.symm, ?_⟩
         rw [if_neg (show ¬ e ≠ 0 by omega), if_pos (by omega)]; done)
      | (refine end1 rfl rfl ⟨_, hs, hL.symm, ?_⟩
         rw [if_neg (show ¬ e ≠ 0 by omega), if_neg (by omega), if_pos (List.any_eq_true.2 ⟨n, List.mem_range.2 (by omega), hc28⟩)]; done)
      | (refine end1 rfl rfl ⟨_, hs, hL.symm, ?_⟩
         rw [if_neg (show ¬ e ≠ 0 by omega), if_neg (by omega), if_neg]
         intro h
         obtain ⟨j, hj, hj2⟩ := List.any_eq_true.1 h
         have := hz j (by have := List.mem_range.1 hj; omega)
         rw [this] at hj2; cases hj2)
  · skip
    try simp only [decide_eq_true_eq, decide_eq_false_iff_not, bne_iff_ne, ne_eq, bne_eq_false_iff_eq] at hc8
    refine W_skip ?_
    refine n_then ?_
    refine W_seq ?_
    refine W_seq ?_
    refine W_region ?_
    refine s_move rfl rfl ?_
    refine s_callL (M := []) (L1 := L0) (X := []) Tryd.call52 rfl rfl (by rw [hL] at hs ⊢; simpa using hs) (fun h => bleft_ok p ys k e L0 w hR0 h) ?_
    clear hs; rintro v w L9 ⟨hL9, rfl⟩ - hs
    rw [hL9] at hs; clear hL9 L9
    replace hs : St (ids L0) w0 w ((p, Blk 90 [.slice va' ys.length vc, .int .i64 (k : Int), .int .i64 e]) :: Lb) := by rw [hL] at hs ⊢; simpa using hs
    refine s_geq rfl rfl rfl ?_
    refine WL_nil ?_
    refine n_then ?_
    refine W_cond rfl (fun hc15 => ?_) (fun hc15 => ?_)
    · skip
      try simp only [decide_eq_true_eq, decide_eq_false_iff_not, bne_iff_ne, ne_eq, bne_eq_false_iff_eq] at hc15
      refine W_seq ?_
      refine W_region ?_
      refine s_assign rfl rfl ?_
      refine WL_nil ?_
      refine n_then ?_
      refine W_ret ?_
      refine r_then ?_
      first
        | (refine end1 rfl rfl ⟨_, hs, hL.symm, ?_⟩
           rw [if_pos (show e ≠ 0 from hc8)]; done)
        | (refine end1 rfl rfl ⟨_, hs, hL.symm, ?_⟩
           rw [if_neg (show ¬ e ≠ 0 by omega), if_pos (by omega)]; done)
        | (refine end1 rfl rfl ⟨_, hs, hL.symm, ?_⟩
           rw [if_neg (show ¬ e ≠ 0 by omega), if_neg (by omega), if_pos (List.any_eq_true.2 ⟨n, List.mem_range.2 (by omega), hc28⟩)]; done)
        | (refine end1 rfl rfl ⟨_, hs, hL.symm, ?_⟩
           rw [if_neg (show ¬ e ≠ 0 by omega), if_neg (by omega), if_neg]
           intro h
           obtain ⟨j, hj, hj2⟩ := List.any_eq_true.1 h
           have := hz j (by have := List.mem_range.1 hj; omega)
           rw [this] at hj2; cases hj2)
    · skip
      try simp only [decide_eq_true_eq, decide_eq_false_iff_not, bne_iff_ne, ne_eq, bne_eq_false_iff_eq] at hc15
      refine W_skip ?_
      refine n_then ?_
      refine W_seq ?_
      refine W_seq ?_
      refine W_region ?_
      refine s_move rfl rfl ?_
      refine s_callL (M := []) (L1 := L0) (X := []) Tryd.call52 rfl rfl (by rw [hL] at hs ⊢; simpa using hs) (fun h => bleft_ok p ys k e L0 w hR0 h) ?_
      clear hs; rintro v w L9 ⟨hL9, rfl⟩ - hs
      rw [hL9] at hs; clear hL9 L9
      replace hs : St (ids L0) w0 w ((p, Blk 90 [.slice va' ys.length vc, .int .i64 (k : Int), .int .i64 e]) :: Lb) := by rw [hL] at hs ⊢; simpa using hs
      refine s_move rfl rfl ?_
      refine WL_nil ?_
      refine n_then ?_
      refine W_block ?_
      refine W_loop (σ := Nat) (fun s => [(0, .pointer (some ⟨p, 0, none⟩)), (17, .int .i64 ((8 * ys.length - k : Nat) : Int)), (18, .int .i64 (s : Int))]) (fun s w => St (ids L0) w0 w ((p, Blk 90 [.slice va' ys.length vc, .int .i64 (k : Int), .int .i64 e]) :: Lb) ∧ s ≤ 8 * ys.length - k ∧ ∀ j, j < s → bitAt ys (k + j) = false) (fun s => 8 * ys.length - k - s) 0 ⟨rfl, rfl, rfl, trivial⟩ ⟨hs, Nat.zero_le _, fun j hj => absurd hj (Nat.not_lt_zero _)⟩ ?_
      clear hs
      rintro n w ⟨hs, hn, hz⟩
      refine W_seq ?_
      refine W_region ?_
      refine s_lss rfl rfl rfl ?_
      refine WL_nil ?_
      refine n_then ?_
      refine W_seq ?_
      refine W_cond rfl (fun hc19 => ?_) (fun hc19 => ?_)
      · skip
        try simp only [decide_eq_true_eq, decide_eq_false_iff_not, bne_iff_ne, ne_eq, bne_eq_false_iff_eq] at hc19
        refine W_skip ?_
        refine n_then ?_
        refine W_seq ?_
        refine W_block ?_
        refine W_seq ?_
        refine W_region ?_
        refine s_move rfl rfl ?_
        refine s_assign rfl rfl ?_
        refine WL_nil ?_
        refine n_then ?_
        refine W_seq ?_
        refine W_region ?_
        refine s_move rfl rfl ?_
        refine s_move rfl rfl ?_
        refine s_nilCheck rfl rfl ?_
        refine s_fieldAddr rfl rfl (FA90_1 _ _) ?_
        first
          | refine s_load Tryd.isAgg3 rfl rfl (hs.cell (k := 0) rfl rfl) ?_
          | refine s_load Tryd.isAgg3 rfl rfl (hs.cell (k := 1) rfl rfl) ?_
          | refine s_load Tryd.isAgg3 rfl rfl (hs.cell (k := 2) rfl rfl) ?_
          | refine s_load Tryd.isAgg3 rfl rfl (hs.cell (k := 3) rfl rfl) ?_
          | refine s_load Tryd.isAgg3 rfl rfl (hs.cell (k := 4) rfl rfl) ?_
          | refine s_load Tryd.isAgg3 rfl rfl (hs.cell (k := 5) rfl rfl) ?_
          | refine s_load Tryd.isAgg3 rfl rfl (hs.cell (k := 6) rfl rfl) ?_
          | refine s_load Tryd.isAgg3 rfl rfl (hs.cell (k := 7) rfl rfl) ?_
          | refine s_load Tryd.isAgg3 rfl rfl (hs.cell (k := 8) rfl rfl) ?_
          | refine s_load Tryd.isAgg3 rfl rfl (hs.cell (k := 9) rfl rfl) ?_
        refine s_move rfl rfl ?_
        (refine s_add' rfl rfl rfl ?hx ?_; case hx => (constructor <;> omega))
        rw [show (k : Int) + (n : Int) = ((k + n : Nat) : Int) from by omega]
        refine s_callL (M := []) (L1 := L0) (X := []) Tryd.call53 rfl rfl (by rw [hL] at hs ⊢; simpa using hs) (fun h => bset_ok p ys k (k + n) e L0 w hR0 h (by omega)) ?_
        clear hs; rintro v w L9 ⟨hL9, rfl⟩ - hs
        rw [hL9] at hs; clear hL9 L9
        replace hs : St (ids L0) w0 w ((p, Blk 90 [.slice va' ys.length vc, .int .i64 (k : Int), .int .i64 e]) :: Lb) := by rw [hL] at hs ⊢; simpa using hs
        refine WL_nil ?_
        refine n_then ?_
        refine W_cond rfl (fun hc28 => ?_) (fun hc28 => ?_)
        · skip
          try simp only [decide_eq_true_eq, decide_eq_false_iff_not, bne_iff_ne, ne_eq, bne_eq_false_iff_eq] at hc28
          refine W_seq ?_
          refine W_region ?_
          refine s_assign rfl rfl ?_
          refine WL_nil ?_
          refine n_then ?_
          refine W_ret ?_
          refine r_blk ?_
          refine r_then ?_
          refine r_then ?_
          refine r_blk ?_
          refine r_then ?_
          first
            | (refine end1 rfl rfl ⟨_, hs, hL.symm, ?_⟩
               rw [if_pos (show e ≠ 0 from hc8)]; done)
            | (refine end1 rfl rfl ⟨_, hs, hL.symm, ?_⟩
               rw [if_neg (show ¬ e ≠ 0 by omega), if_pos (by omega)]; done)
            | (refine end1 rfl rfl ⟨_, hs, hL.symm, ?_⟩
               rw [if_neg (show ¬ e ≠ 0 by omega), if_neg (by omega), if_pos (List.any_eq_true.2 ⟨n, List.mem_range.2 (by omega), hc28⟩)]; done)
            | (refine end1 rfl rfl ⟨_, hs, hL.symm, ?_⟩
               rw [if_neg (show ¬ e ≠ 0 by omega), if_neg (by omega), if_neg]
               intro h
               obtain ⟨j, hj, hj2⟩ := List.any_eq_true.1 h
               have := hz j (by have := List.mem_range.1 hj; omega)
               rw [this] at hj2; cases hj2)
        · skip
          try simp only [decide_eq_true_eq, decide_eq_false_iff_not, bne_iff_ne, ne_eq, bne_eq_false_iff_eq] at hc28
          refine W_skip ?_
          refine n_blk ?_
          refine n_then ?_
          refine W_region ?_
          first | (refine s_add' rfl rfl rfl ?hx ?_; case hx => (constructor <;> first | omega | (simp only; omega))) | refine s_add rfl rfl rfl ?_
          refine s_move rfl rfl ?_
          refine WL_nil ?_
          refine n_loop ?_
          exact ⟨n + 1, ⟨rfl, rfl, rfl, trivial⟩, ⟨hs, by omega, fun j hj => by
            rcases Nat.lt_or_ge j n with h | h
            · exact hz j h
            · rw [show j = n by omega]; exact hc28⟩, by omega⟩
      · skip
        try simp only [decide_eq_true_eq, decide_eq_false_iff_not, bne_iff_ne, ne_eq, bne_eq_false_iff_eq] at hc19
        refine W_exit ?_
        refine x_then ?_
        refine x_then ?_
        refine exit_hit ?_
        refine n_then ?_
        refine W_seq ?_
        refine W_region ?_
        refine s_assign rfl rfl ?_
        refine WL_nil ?_
        refine n_then ?_
        refine W_ret ?_
        first
          | (refine end1 rfl rfl ⟨_, hs, hL.symm, ?_⟩
             rw [if_pos (show e ≠ 0 from hc8)]; done)
          | (refine end1 rfl rfl ⟨_, hs, hL.symm, ?_⟩
             rw [if_neg (show ¬ e ≠ 0 by omega), if_pos (by omega)]; done)
          | (refine end1 rfl rfl ⟨_, hs, hL.symm, ?_⟩
             rw [if_neg (show ¬ e ≠ 0 by omega), if_neg (by omega), if_pos (List.any_eq_true.2 ⟨n, List.mem_range.2 (by omega), hc28⟩)]; done)
          | (refine end1 rfl rfl ⟨_, hs, hL.symm, ?_⟩
             rw [if_neg (show ¬ e ≠ 0 by omega), if_neg (by omega), if_neg]
             intro h
             obtain ⟨j, hj, hj2⟩ := List.any_eq_true.1 h
             have := hz j (by have := List.mem_range.1 hj; omega)
             rw [this] at hj2; cases hj2)
end Go.Proofs.YtbcdnpjcbchbjaaDoor
