/- Plain bit streams: bits packed into bytes. No program in sight. -/
import Derived.Test.YtgjjdlgbbgijgaaDoorLib
import Derived.Test.YtgjjdlgbbgijgaaDoorBit
import Derived.Test.YtgjjdlgbbgijgaaDoorRng
import Derived.Test.YtgjjdlgbbgijgaaDoorCut
import Derived.Test.YtgjjdlgbbgijgaaDoorWirP
set_option linter.unusedVariables false
set_option linter.unusedSimpArgs false
namespace Go.Proofs.YtgjjdlgbbgijgaaDoor
open Go.SL
def gb (bs : List Bool) (i : Nat) : Bool := (bs[i]?).getD false
def b8 (f : Nat → Bool) : Nat := (f 0).toNat * 128 + (f 1).toNat * 64 + (f 2).toNat * 32 + (f 3).toNat * 16 + (f 4).toNat * 8 + (f 5).toNat * 4 + (f 6).toNat * 2 + (f 7).toNat
def byteAt (bs : List Bool) (j : Nat) : Nat := b8 (fun i => gb bs (8 * j + i))
def pk (bs : List Bool) : List Int := (List.range ((bs.length + 7) / 8)).map fun j => (byteAt bs j : Int)
/-- with the byte that the next bit goes to -/
def pkx (bs : List Bool) : List Int := (List.range (bs.length / 8 + 1)).map fun j => (byteAt bs j : Int)
theorem b8_lt (f : Nat → Bool) : b8 f < 256 := by
  have h : ∀ b : Bool, b.toNat ≤ 1 := fun b => by cases b <;> decide
  have h0 := h (f 0); have h1 := h (f 1); have h2 := h (f 2); have h3 := h (f 3); have h4 := h (f 4); have h5 := h (f 5); have h6 := h (f 6); have h7 := h (f 7)
  unfold b8; omega
theorem byteAt_lt (bs : List Bool) (j : Nat) : byteAt bs j < 256 := b8_lt _
theorem pk_length (bs : List Bool) : (pk bs).length = (bs.length + 7) / 8 := by simp [pk]
theorem pkx_length (bs : List Bool) : (pkx bs).length = bs.length / 8 + 1 := by simp [pkx]
theorem pkx_at {bs : List Bool} {j : Nat} (h : j < bs.length / 8 + 1) : (pkx bs)[j]? = some (byteAt bs j : Int) := by simp [pkx, h]
theorem gb_ge {bs : List Bool} {i : Nat} (h : bs.length ≤ i) : gb bs i = false := by simp [gb, h]
theorem gb_snoc (bs : List Bool) (b : Bool) (i : Nat) : gb (bs ++ [b]) i = if i = bs.length then b else gb bs i := by
  unfold gb
  by_cases h : i = bs.length
  · simp [h]
  · rw [if_neg h]
    rcases Nat.lt_or_gt_of_ne h with h1 | h1
    · rw [List.getElem?_append_left h1]
    · rw [List.getElem?_append_right (by omega), List.getElem?_eq_none (by simp; omega), List.getElem?_eq_none (by omega)]
theorem byteAt_snoc (bs : List Bool) (b : Bool) (j : Nat) : byteAt (bs ++ [b]) j = byteAt bs j + if j = bs.length / 8 then b.toNat * (128 / 2 ^ (bs.length % 8)) else 0 := by
  unfold byteAt b8
  simp only [gb_snoc]
  have hd := Nat.div_add_mod bs.length 8
  have hk := Nat.mod_lt bs.length (show 8 > 0 by decide)
  generalize hq : bs.length / 8 = q at *
  generalize hkk : bs.length % 8 = k at *
  by_cases hj : j = q
  · subst hj
    have hf : gb bs (8 * j + k) = false := gb_ge (by omega)
    have hc : k = 0 ∨ k = 1 ∨ k = 2 ∨ k = 3 ∨ k = 4 ∨ k = 5 ∨ k = 6 ∨ k = 7 := by omega
    rw [← hd]
    rcases hc with h | h | h | h | h | h | h | h <;> subst h <;> simp [hf] at * <;> omega
  · rw [if_neg hj]
    have hi : ∀ i, i < 8 → ¬ 8 * j + i = bs.length := fun i hi => by omega
    rw [if_neg (hi 0 (by decide)), if_neg (hi 1 (by decide)), if_neg (hi 2 (by decide)), if_neg (hi 3 (by decide)), if_neg (hi 4 (by decide)), if_neg (hi 5 (by decide)), if_neg (hi 6 (by decide)), if_neg (hi 7 (by decide))]
    rfl
theorem byteAt_zero {bs : List Bool} (h : bs.length % 8 = 0) : byteAt bs (bs.length / 8) = 0 := by
  unfold byteAt b8
  have hi : ∀ i, gb bs (8 * (bs.length / 8) + i) = false := fun i => gb_ge (by omega)
  simp only [hi]; rfl
theorem pk_pkx_new {bs : List Bool} (h : bs.length % 8 = 0) : pk bs ++ [0] = pkx bs := by
  unfold pk pkx
  rw [show (bs.length + 7) / 8 = bs.length / 8 by omega, List.range_succ, List.map_append]
  simp [byteAt_zero h]
theorem pk_pkx_old {bs : List Bool} (h : bs.length % 8 ≠ 0) : pk bs = pkx bs := by
  unfold pk pkx
  rw [show (bs.length + 7) / 8 = bs.length / 8 + 1 by omega]
theorem pk_snoc (bs : List Bool) (b : Bool) : pk (bs ++ [b]) = (pkx bs).set (bs.length / 8) ((byteAt bs (bs.length / 8) + b.toNat * (128 / 2 ^ (bs.length % 8)) : Nat) : Int) := by
  apply List.ext_getElem?
  intro j
  have hl : ((bs ++ [b]).length + 7) / 8 = bs.length / 8 + 1 := by simp; omega
  rw [List.getElem?_set]
  unfold pk
  rw [hl]
  by_cases hj : j < bs.length / 8 + 1
  · simp only [List.getElem?_map, List.getElem?_range hj, Option.map_some, byteAt_snoc]
    by_cases he : bs.length / 8 = j
    · have hx : bs.length / 8 < (pkx bs).length := by rw [pkx_length]; omega
      rw [if_pos he, if_pos hx, if_pos he.symm, he]
    · rw [if_neg he, if_neg (fun h => he h.symm), pkx_at hj]; simp
  · rw [List.getElem?_eq_none (by simp; omega)]
    rw [if_neg (by omega), List.getElem?_eq_none (by rw [pkx_length]; omega)]
theorem pk_snoc_false (bs : List Bool) : pk (bs ++ [false]) = pkx bs := by
  rw [pk_snoc]
  apply List.ext_getElem?
  intro j
  rw [List.getElem?_set]
  by_cases he : bs.length / 8 = j
  · rw [if_pos he, if_pos (by rw [pkx_length]; omega), ← he, pkx_at (by omega)]; simp
  · rw [if_neg he]
theorem or_b8 : ∀ (f0 f1 f2 f3 f4 f5 f6 f7 : Bool) (k : Fin 8), [f0, f1, f2, f3, f4, f5, f6, f7][k] = false →
    (f0.toNat * 128 + f1.toNat * 64 + f2.toNat * 32 + f3.toNat * 16 + f4.toNat * 8 + f5.toNat * 4 + f6.toNat * 2 + f7.toNat) ||| (128 / 2 ^ k.val) = (f0.toNat * 128 + f1.toNat * 64 + f2.toNat * 32 + f3.toNat * 16 + f4.toNat * 8 + f5.toNat * 4 + f6.toNat * 2 + f7.toNat) + 128 / 2 ^ k.val := by decide +kernel
theorem and_b8 : ∀ (f0 f1 f2 f3 f4 f5 f6 f7 : Bool) (k : Fin 8), 
    ((f0.toNat * 128 + f1.toNat * 64 + f2.toNat * 32 + f3.toNat * 16 + f4.toNat * 8 + f5.toNat * 4 + f6.toNat * 2 + f7.toNat) &&& (128 / 2 ^ k.val) != 0) = [f0, f1, f2, f3, f4, f5, f6, f7][k] := by decide +kernel
theorem b8_list (f : Nat → Bool) (k : Fin 8) : [f 0, f 1, f 2, f 3, f 4, f 5, f 6, f 7][k] = f k := by
  obtain ⟨k, hk⟩ := k
  have hc : k = 0 ∨ k = 1 ∨ k = 2 ∨ k = 3 ∨ k = 4 ∨ k = 5 ∨ k = 6 ∨ k = 7 := by omega
  rcases hc with h | h | h | h | h | h | h | h <;> subst h <;> rfl
theorem b8_or (f : Nat → Bool) (k : Nat) (hk : k < 8) (hf : f k = false) : b8 f ||| (128 / 2 ^ k) = b8 f + 128 / 2 ^ k := or_b8 (f 0) (f 1) (f 2) (f 3) (f 4) (f 5) (f 6) (f 7) ⟨k, hk⟩ (by rw [b8_list]; exact hf)
theorem b8_and (f : Nat → Bool) (k : Nat) (hk : k < 8) : (b8 f &&& (128 / 2 ^ k) != 0) = f k := (and_b8 (f 0) (f 1) (f 2) (f 3) (f 4) (f 5) (f 6) (f 7) ⟨k, hk⟩).trans (b8_list f ⟨k, hk⟩)
theorem p2_le (k : Nat) : 128 / 2 ^ k < 256 := Nat.lt_of_le_of_lt (Nat.div_le_self _ _) (by decide)
theorem shr128 (k : Nat) (hk : k < 8) : (128 : Int).fdiv (2 ^ (min ((k : Nat) : Int).toNat IntKind.u8.bits)) = ((128 / 2 ^ k : Nat) : Int) := by
  have hc : k = 0 ∨ k = 1 ∨ k = 2 ∨ k = 3 ∨ k = 4 ∨ k = 5 ∨ k = 6 ∨ k = 7 := by omega
  rcases hc with h | h | h | h | h | h | h | h <;> subst h <;> rfl
theorem or8 (a b : Nat) (ha : a < 256) (hb : b < 256) : IntKind.u8.wrap (((BitVec.ofInt IntKind.u8.bits (a : Int) ||| BitVec.ofInt IntKind.u8.bits (b : Int)).toNat : Nat) : Int) = ((a ||| b : Nat) : Int) := by
  have h1 : a ||| b < 256 := Nat.or_lt_two_pow (n := 8) ha hb
  rw [bits8, ofInt_nat, ofInt_nat, BitVec.toNat_or, BitVec.toNat_ofNat, BitVec.toNat_ofNat, Nat.mod_eq_of_lt (show a < 2 ^ 8 by omega), Nat.mod_eq_of_lt (show b < 2 ^ 8 by omega), IntWalk.u8_in _ (by omega)]
theorem and8 (a b : Nat) (ha : a < 256) (hb : b < 256) : IntKind.u8.wrap (((BitVec.ofInt IntKind.u8.bits (a : Int) &&& BitVec.ofInt IntKind.u8.bits (b : Int)).toNat : Nat) : Int) = ((a &&& b : Nat) : Int) := by
  have h1 : a &&& b ≤ a := Nat.and_le_left
  rw [bits8, ofInt_nat, ofInt_nat, BitVec.toNat_and, BitVec.toNat_ofNat, BitVec.toNat_ofNat, Nat.mod_eq_of_lt (show a < 2 ^ 8 by omega), Nat.mod_eq_of_lt (show b < 2 ^ 8 by omega), IntWalk.u8_in _ (by omega)]
/-- the c lowest bits of n, the highest first -/
def nb (n : Nat) : Nat → List Bool
  | 0 => []
  | c + 1 => n.testBit c :: nb n c
theorem nb_length (n c : Nat) : (nb n c).length = c := by induction c <;> simp_all [nb]
end Go.Proofs.YtgjjdlgbbgijgaaDoor

/- Contracts of package bits: the writer (names apart from those of package wire). -/
namespace Go.Proofs.YtgjjdlgbbgijgaaDoor
open Go.SL
/-- the writer at p: the bits so far -/
def WbAt (p : Nat) (bs : List Bool) (L : Hp) : Prop := ∃ v Lb, L = (p, Blk 88 [v, .int .i64 (bs.length : Int)]) :: Lb ∧ OwnS 5 1 v (pk bs).length (u8s (pk bs)) Lb
def clampV (c : Int) : Int := if 64 < (if c < 0 then 0 else c) then 64 else (if c < 0 then 0 else c)
theorem clamp_ok (c : Int) (w0 : World) : Ret Tryd.prog 59 [.int .i64 c].toArray w0 fun r w' => w' = w0 ∧ r = .int .i64 (clampV c) := by
  refine Ret_of Tryd.func59 rfl Tryd.ntmps59 rfl ?_
  refine W_seq ?_
  refine W_region ?_
  refine s_assign rfl rfl ?_
  refine WL_nil ?_
  refine n_then ?_
  refine W_seq ?_
  refine W_region ?_
  refine s_move rfl rfl ?_
  refine s_max rfl rfl rfl ?_
  refine s_min rfl rfl rfl ?_
  refine s_assign rfl rfl ?_
  refine WL_nil ?_
  refine n_then ?_
  refine W_ret ?_
  exact end1 rfl rfl ⟨rfl, rfl⟩
theorem positions_ok (c : Int) (w0 : World) : Ret Tryd.prog 58 [.int .i64 c].toArray w0 fun r w' => ∃ b, r = .func (.func 63) [].toArray [.pointer (some ⟨b, 0, none⟩)].toArray ∧ St [] w0 w' [(b, Blk 3 [.int .i64 c])] := by
  refine Ret_start fun w hs => ?_
  refine Ret_of Tryd.func58 rfl Tryd.ntmps58 rfl ?_
  refine W_seq ?_
  refine W_region ?_
  first | refine s_box rfl rfl hs ?_ | refine s_box1 rfl rfl rfl hs ?_
  clear hs; intro b1 w hs
  refine s_assign rfl rfl ?_
  refine WL_nil ?_
  refine n_then ?_
  refine W_seq ?_
  refine W_region ?_
  refine s_makeFunc rfl rfl rfl ?_
  refine s_assign rfl rfl ?_
  refine WL_nil ?_
  refine n_then ?_
  refine W_ret ?_
  exact end1 rfl rfl ⟨b1, rfl, hs⟩
theorem posIter_ok (lp b c : Nat) (hc : c ≤ 64) (I : Nat → World → Prop) (hrd : ∀ i w, I i w → w.cell? ⟨b, 0, none⟩ = some (.int .i64 (c : Int)))
    (round : ∀ i w, i < c → I (i + 1) w → YieldAt Fence.wide 0 Tryd.prog lp #[.int .i64 (i : Int)] w (fun e w' => e = .returned (.bool true) ∧ I i w')) (w0 : World) (h0 : I c w0) :
    Ret Tryd.prog 63 [.func (.yield lp) #[] #[], .pointer (some ⟨b, 0, none⟩)].toArray w0 fun _ w' => I 0 w' := by
  refine Ret_of Tryd.func63 rfl Tryd.ntmps63 rfl ?_
  refine W_seq ?_
  refine W_region ?_
  first
    | refine s_load Tryd.isAgg3 rfl rfl (hrd _ _ h0) ?_
  first | (refine s_sub' rfl rfl rfl ?hx ?_; case hx => (constructor <;> first | omega | (simp only; omega))) | refine s_sub rfl rfl rfl ?_
  refine s_assign rfl rfl ?_
  refine WL_nil ?_
  refine n_then ?_
  refine W_block ?_
  refine W_loop (σ := Nat) (fun s => [(0, .func (.yield lp) #[] #[]), (1, .pointer (some ⟨b, 0, none⟩)), (3, .int .i64 ((s : Int) - 1))]) (fun s w => I s w ∧ s ≤ c) (fun s => s) c ⟨rfl, rfl, rfl, trivial⟩ ⟨h0, Nat.le_refl _⟩ ?_
  rintro i w ⟨hI, hi⟩
  refine W_seq ?_
  refine W_seq ?_
  refine W_region ?_
  refine s_move rfl rfl ?_
  refine s_geq rfl rfl rfl ?_
  refine WL_nil ?_
  refine n_then ?_
  refine W_cond rfl (fun hc7 => ?_) (fun hc7 => ?_)
  · skip
    simp only [decide_eq_true_eq, decide_eq_false_iff_not] at hc7
    obtain ⟨j, rfl⟩ : ∃ j, i = j + 1 := ⟨i - 1, by omega⟩
    have e9 : ((j + 1 : Nat) : Int) - 1 = (j : Int) := by omega
    rw [e9]
    refine W_skip ?_
    refine n_then ?_
    refine W_seq ?_
    refine W_block ?_
    refine W_seq ?_
    refine I_region ?_
    refine I_step rfl ?_
    refine s_move rfl rfl ?_
    refine I_next ?_
    refine I_step rfl ?_
    refine s_move rfl rfl ?_
    refine I_next ?_
    refine I_yield (R := fun w' => I j w') rfl rfl rfl (round j w (by omega) hI) ?_
    clear hI; intro w hI
    refine I_step rfl ?_
    refine s_not rfl rfl ?_
    refine I_next ?_
    refine I_nil ?_
    refine n_then ?_
    refine W_cond_f rfl ?_
    refine W_skip ?_
    refine n_blk ?_
    refine n_then ?_
    refine W_region ?_
    refine s_move rfl rfl ?_
    first | (refine s_sub' rfl rfl rfl ?hx ?_; case hx => (constructor <;> first | omega | (simp only; omega))) | refine s_sub rfl rfl rfl ?_
    refine s_assign rfl rfl ?_
    refine WL_nil ?_
    refine n_loop ?_
    exact ⟨j, ⟨rfl, rfl, rfl, trivial⟩, ⟨hI, by omega⟩, Nat.lt_succ_self _⟩
  · skip
    simp only [decide_eq_true_eq, decide_eq_false_iff_not] at hc7
    refine W_exit ?_
    refine x_then ?_
    refine x_then ?_
    refine exit_hit ?_
    obtain rfl : i = 0 := by omega
    exact end0' rfl hI
/-! bit -/
theorem own_set8 {e n c g i : Nat} {zs : List Int} {sp : List Value} (x : Int) (h : OwnS e 1 (.slice (some ⟨g, 0, none⟩) n c) n (u8s zs) [(g, Blk e (u8s zs ++ sp))]) (hi : i < n) :
    OwnS e 1 (.slice (some ⟨g, 0, none⟩) n c) n (u8s (zs.set i x)) [(g, Blk e ((u8s zs ++ sp).set i (.int .u8 x)))] := by
  obtain ⟨h1, h2⟩ := h
  have hl : zs.length = n := by simpa using h1
  rcases h2 with ⟨_, h2, _⟩ | ⟨g', cap, sp', h2, h3, h4, h5, h6⟩
  · omega
  · cases h2
    have e : (u8s zs ++ sp).set i (.int .u8 x) = u8s (zs.set i x) ++ sp := by rw [List.set_append_left _ _ (by simpa [hl] using hi)]; simp [u8s, List.map_set]
    simp only [List.cons.injEq, Prod.mk.injEq, and_true, true_and] at h6
    have h7 : sp = sp' := by injection h6 with h6; simpa using h6
    subst h7
    exact ⟨by simp [hl], .inr ⟨_, _, sp, rfl, h3, by simpa using h4, by simpa using h5, by rw [e]⟩⟩
theorem bit_ok (p : Nat) (bs : List Bool) (b : Bool) (L0 : Hp) (w0 : World) (hW : WbAt p bs L0) (hs : St (ids L0) w0 w0 L0) (hl : bs.length ≤ 1099511627776) :
    Ret Tryd.prog 57 [.pointer (some ⟨p, 0, none⟩), .bool b].toArray w0 fun r w' => ∃ L', St (ids L0) w0 w' L' ∧ WbAt p (bs ++ [b]) L' ∧ r = .tuple #[] := by
  obtain ⟨v, Lb, hL, hO⟩ := hW
  have hpl := pk_length bs
  obtain ⟨_, vc, va, rfl, rfl⟩ := hO.form
  replace hs : St (ids L0) w0 w0 ((p, Blk 88 [.slice va (pk bs).length vc, .int .i64 (bs.length : Int)]) :: Lb) := by rw [hL] at hs ⊢; exact hs
  refine Ret_startL hs fun w hs => ?_
  refine Ret_of Tryd.func57 rfl Tryd.ntmps57 rfl ?_
  refine W_cut (σ := Value × Hp) (fun s => [(0, .pointer (some ⟨p, 0, none⟩)), (1, .bool b)]) (fun s w => St (ids L0) w0 w ((p, Blk 88 [s.1, .int .i64 (bs.length : Int)]) :: s.2) ∧ OwnS 5 1 s.1 (pkx bs).length (u8s (pkx bs)) s.2) ?_ ?_
  · skip
    refine W_seq ?_
    refine W_region ?_
    refine s_move rfl rfl ?_
    refine s_nilCheck rfl rfl ?_
    refine s_fieldAddr rfl rfl (FA88_1 _ _) ?_
    first
      | refine s_load Tryd.isAgg3 rfl rfl (hs.cell (k := 0) rfl rfl) ?_
      | refine s_load Tryd.isAgg3 rfl rfl (hs.cell (k := 1) rfl rfl) ?_
      | refine s_load Tryd.isAgg3 rfl rfl (hs.cell (k := 2) rfl rfl) ?_
      | refine s_load Tryd.isAgg3 rfl rfl (hs.cell (k := 3) rfl rfl) ?_
      | refine s_load Tryd.isAgg3 rfl rfl (hs.cell (k := 4) rfl rfl) ?_
      | refine s_load Tryd.isAgg3 rfl rfl (hs.cell (k := 5) rfl rfl) ?_
      | refine s_load Tryd.isAgg3 rfl rfl (hs.cell (k := 6) rfl rfl) ?_
      | refine s_load Tryd.isAgg3 rfl rfl (hs.cell (k := 7) rfl rfl) ?_
      | refine s_load Tryd.isAgg3 rfl rfl (hs.cell (k := 8) rfl rfl) ?_
      | refine s_load Tryd.isAgg3 rfl rfl (hs.cell (k := 9) rfl rfl) ?_
    first | (refine s_rem' rfl rfl rfl ?hx ?_; case hx => (refine ⟨?_, ?_⟩ <;> omega)) | (refine s_rem rfl rfl rfl ?hx ?_; case hx => omega)
    refine s_eql rfl rfl rfl ?_
    refine WL_nil ?_
    refine n_then ?_
    refine W_cond rfl (fun hc9 => ?_) (fun hc9 => ?_)
    · skip
      try simp only [decide_eq_true_eq, decide_eq_false_iff_not, beq_iff_eq, beq_eq_false_iff_ne, ne_eq] at hc9
      refine W_region ?_
      refine s_move rfl rfl ?_
      refine s_move rfl rfl ?_
      refine s_nilCheck rfl rfl ?_
      refine s_fieldAddr rfl rfl (FA88_0 _ _) ?_
      first
        | refine s_load Tryd.isAgg33 rfl rfl (hs.cell (k := 0) rfl rfl) ?_
        | refine s_load Tryd.isAgg33 rfl rfl (hs.cell (k := 1) rfl rfl) ?_
        | refine s_load Tryd.isAgg33 rfl rfl (hs.cell (k := 2) rfl rfl) ?_
        | refine s_load Tryd.isAgg33 rfl rfl (hs.cell (k := 3) rfl rfl) ?_
        | refine s_load Tryd.isAgg33 rfl rfl (hs.cell (k := 4) rfl rfl) ?_
        | refine s_load Tryd.isAgg33 rfl rfl (hs.cell (k := 5) rfl rfl) ?_
        | refine s_load Tryd.isAgg33 rfl rfl (hs.cell (k := 6) rfl rfl) ?_
        | refine s_load Tryd.isAgg33 rfl rfl (hs.cell (k := 7) rfl rfl) ?_
        | refine s_load Tryd.isAgg33 rfl rfl (hs.cell (k := 8) rfl rfl) ?_
        | refine s_load Tryd.isAgg33 rfl rfl (hs.cell (k := 9) rfl rfl) ?_
      refine s_buildSlice rfl rfl (BS33_1 _) hs ?_; clear hs; intro b15 w hs
      refine s_appendM (M := [_, _]) (X := []) El33 rfl rfl rfl hO (by simpa using hs) (hs.sl (k := 0) (ds := [_]) rfl (Nat.le_refl _) (by intro j u hj; rw [Nat.zero_add]; exact hj)) rfl (by simp [Value.oneCell']) (by omega) ?_
      clear hs; intro v' w Lv' hO' hs
      obtain ⟨_, vc', va', rfl, rfl⟩ := hO'.form
      simp only [List.cons_append, List.nil_append, List.append_nil] at hs
      refine s_nilCheck rfl rfl ?_
      refine s_fieldAddr rfl rfl (FA88_0 _ _) ?_
      first
        | refine s_storeB Tryd.sizeOf33 rfl rfl rfl hs (kk := 0) rfl rfl ?_
        | refine s_storeB Tryd.sizeOf33 rfl rfl rfl hs (kk := 1) rfl rfl ?_
        | refine s_storeB Tryd.sizeOf33 rfl rfl rfl hs (kk := 2) rfl rfl ?_
        | refine s_storeB Tryd.sizeOf33 rfl rfl rfl hs (kk := 3) rfl rfl ?_
        | refine s_storeB Tryd.sizeOf33 rfl rfl rfl hs (kk := 4) rfl rfl ?_
        | refine s_storeB Tryd.sizeOf33 rfl rfl rfl hs (kk := 5) rfl rfl ?_
        | refine s_storeB Tryd.sizeOf33 rfl rfl rfl hs (kk := 6) rfl rfl ?_
        | refine s_storeB Tryd.sizeOf33 rfl rfl rfl hs (kk := 7) rfl rfl ?_
        | refine s_storeB Tryd.sizeOf33 rfl rfl rfl hs (kk := 8) rfl rfl ?_
        | refine s_storeB Tryd.sizeOf33 rfl rfl rfl hs (kk := 9) rfl rfl ?_
      clear hs; intro w hs; try simp only [List.set_cons_zero, List.set_cons_succ, splice, List.take_succ_cons, List.take_zero, List.drop_succ_cons, List.drop_zero, List.nil_append, List.cons_append, List.length_cons, List.length_nil, Nat.reduceAdd, List.append_assoc] at hs
      refine WL_nil ?_
      refine n_loop ?_
      first
        | exact ⟨(_, _), ⟨rfl, rfl, trivial⟩, hs.tail, by simp only; rw [← pk_pkx_new (by omega)]; simpa using hO'⟩
        | exact ⟨(_, _), ⟨rfl, rfl, trivial⟩, hs, by simp only; rw [← pk_pkx_old (by omega)]; exact hO⟩
    · skip
      try simp only [decide_eq_true_eq, decide_eq_false_iff_not, beq_iff_eq, beq_eq_false_iff_ne, ne_eq] at hc9
      refine W_skip ?_
      refine n_loop ?_
      first
        | exact ⟨(_, _), ⟨rfl, rfl, trivial⟩, hs.tail, by simp only; rw [← pk_pkx_new (by omega)]; simpa using hO'⟩
        | exact ⟨(_, _), ⟨rfl, rfl, trivial⟩, hs, by simp only; rw [← pk_pkx_old (by omega)]; exact hO⟩
  · skip
    clear hs hO hpl
    rintro ⟨v, Lb⟩ w ⟨hs, hO⟩
    simp only at hs hO
    have hxl := pkx_length bs
    obtain ⟨g, vc, sp, rfl, hgc, rfl⟩ := hO.block (by omega)
    rw [hxl] at hs hO
    have hat : (u8s (pkx bs) ++ sp)[bs.length / 8]? = some (.int .u8 (byteAt bs (bs.length / 8) : Int)) := by
      rw [List.getElem?_append_left (by simp [hxl])]; simp [u8s, pkx_at (show bs.length / 8 < bs.length / 8 + 1 by omega)]
    have hor : byteAt bs (bs.length / 8) ||| 128 / 2 ^ (bs.length % 8) = byteAt bs (bs.length / 8) + 128 / 2 ^ (bs.length % 8) := b8_or (fun i => gb bs (8 * (bs.length / 8) + i)) (bs.length % 8) (by omega) (gb_ge (by omega))
    refine W_seq ?_
    refine W_seq ?_
    refine W_region ?_
    refine s_move rfl rfl ?_
    refine WL_nil ?_
    refine n_then ?_
    refine W_cond rfl (fun hc19 => ?_) (fun hc19 => ?_)
    · skip
      try simp only [decide_eq_true_eq, decide_eq_false_iff_not, beq_iff_eq, beq_eq_false_iff_ne, ne_eq] at hc19
      refine W_draw [(0, true, []), (1, true, []), (2, true, []), (3, true, []), (4, true, []), (5, true, []), (6, true, []), (7, true, []), (8, true, []), (9, true, []), (10, true, []), (11, true, []), (12, true, []), (13, true, []), (14, true, []), (15, true, []), (16, true, []), (17, true, []), (18, true, []), (19, true, []), (20, false, [])] [[], [0], [0, 1], [0, 1, 2], [], [4], [4, 5], [4, 5, 6], [4, 5, 6, 7], [4, 5, 6, 7, 8], [0, 1, 2, 3, 4, 5, 6, 7, 8, 9], [0, 1, 2, 3, 4, 5, 6, 7, 8, 9, 10], [], [12], [12, 13], [12, 13, 14], [12, 13, 14, 15], [12, 13, 14, 15, 16], [0, 1, 2, 3, 4, 5, 6, 7, 8, 9, 10, 11, 12, 13, 14, 15, 16, 17], [0, 1, 2, 3, 4, 5, 6, 7, 8, 9, 10, 11, 12, 13, 14, 15, 16, 17, 18], [0, 1, 2, 3, 4, 5, 6, 7, 8, 9, 10, 11, 12, 13, 14, 15, 16, 17, 18, 19]] MX (by kernel_rfl) ?_
      intro w1 hw1 hw2 hw3 hw4; replace hs := hs.redrawn hw1 hw2 hw3 hw4; clear hw1 hw2 hw3 hw4
      obtain ⟨w, rfl⟩ : ∃ w : World, w = w1 := ⟨_, rfl⟩
      refine D_q rfl rfl ?_
      refine s_move rfl rfl ?_
      refine D_qn ?_
      refine D_q rfl rfl ?_
      refine s_nilCheck rfl rfl ?_
      refine D_qn ?_
      refine D_q rfl rfl ?_
      refine s_fieldAddr rfl rfl (FA88_0 _ _) ?_
      refine D_qn ?_
      refine D_q rfl rfl ?_
      first
        | refine s_load Tryd.isAgg33 rfl rfl (hs.cell (k := 0) rfl rfl) ?_
        | refine s_load Tryd.isAgg33 rfl rfl (hs.cell (k := 1) rfl rfl) ?_
        | refine s_load Tryd.isAgg33 rfl rfl (hs.cell (k := 2) rfl rfl) ?_
        | refine s_load Tryd.isAgg33 rfl rfl (hs.cell (k := 3) rfl rfl) ?_
        | refine s_load Tryd.isAgg33 rfl rfl (hs.cell (k := 4) rfl rfl) ?_
        | refine s_load Tryd.isAgg33 rfl rfl (hs.cell (k := 5) rfl rfl) ?_
        | refine s_load Tryd.isAgg33 rfl rfl (hs.cell (k := 6) rfl rfl) ?_
        | refine s_load Tryd.isAgg33 rfl rfl (hs.cell (k := 7) rfl rfl) ?_
        | refine s_load Tryd.isAgg33 rfl rfl (hs.cell (k := 8) rfl rfl) ?_
        | refine s_load Tryd.isAgg33 rfl rfl (hs.cell (k := 9) rfl rfl) ?_
      refine D_qn ?_
      refine D_q rfl rfl ?_
      refine s_move rfl rfl ?_
      refine D_qn ?_
      refine D_q rfl rfl ?_
      refine s_nilCheck rfl rfl ?_
      refine D_qn ?_
      refine D_q rfl rfl ?_
      refine s_fieldAddr rfl rfl (FA88_0 _ _) ?_
      refine D_qn ?_
      refine D_q rfl rfl ?_
      first
        | refine s_load Tryd.isAgg33 rfl rfl (hs.cell (k := 0) rfl rfl) ?_
        | refine s_load Tryd.isAgg33 rfl rfl (hs.cell (k := 1) rfl rfl) ?_
        | refine s_load Tryd.isAgg33 rfl rfl (hs.cell (k := 2) rfl rfl) ?_
        | refine s_load Tryd.isAgg33 rfl rfl (hs.cell (k := 3) rfl rfl) ?_
        | refine s_load Tryd.isAgg33 rfl rfl (hs.cell (k := 4) rfl rfl) ?_
        | refine s_load Tryd.isAgg33 rfl rfl (hs.cell (k := 5) rfl rfl) ?_
        | refine s_load Tryd.isAgg33 rfl rfl (hs.cell (k := 6) rfl rfl) ?_
        | refine s_load Tryd.isAgg33 rfl rfl (hs.cell (k := 7) rfl rfl) ?_
        | refine s_load Tryd.isAgg33 rfl rfl (hs.cell (k := 8) rfl rfl) ?_
        | refine s_load Tryd.isAgg33 rfl rfl (hs.cell (k := 9) rfl rfl) ?_
      refine D_qn ?_
      refine D_q rfl rfl ?_
      refine s_len rfl rfl (LN33 _ _ _ _) ?_
      refine D_qn ?_
      refine D_q rfl rfl ?_
      (refine s_sub' rfl rfl rfl ?hx ?_; case hx => (constructor <;> omega))
      rw [show ((bs.length / 8 + 1 : Nat) : Int) - 1 = ((bs.length / 8 : Nat) : Int) from by omega]
      refine D_qn ?_
      refine D_q rfl rfl ?_
      (refine s_indexAddr1 El33 rfl rfl rfl ?hx ?_; case hx => (constructor <;> omega))
      rw [show 0 + ((bs.length / 8 : Nat) : Int).toNat = bs.length / 8 from by omega]
      refine D_qn ?_
      refine D_q rfl rfl ?_
      refine s_load Tryd.isAgg5 rfl rfl (hs.cell (k := 1) rfl hat) ?_
      refine D_qn ?_
      refine D_q rfl rfl ?_
      refine s_move rfl rfl ?_
      refine D_qn ?_
      refine D_q rfl rfl ?_
      refine s_nilCheck rfl rfl ?_
      refine D_qn ?_
      refine D_q rfl rfl ?_
      refine s_fieldAddr rfl rfl (FA88_1 _ _) ?_
      refine D_qn ?_
      refine D_q rfl rfl ?_
      first
        | refine s_load Tryd.isAgg3 rfl rfl (hs.cell (k := 0) rfl rfl) ?_
        | refine s_load Tryd.isAgg3 rfl rfl (hs.cell (k := 1) rfl rfl) ?_
        | refine s_load Tryd.isAgg3 rfl rfl (hs.cell (k := 2) rfl rfl) ?_
        | refine s_load Tryd.isAgg3 rfl rfl (hs.cell (k := 3) rfl rfl) ?_
        | refine s_load Tryd.isAgg3 rfl rfl (hs.cell (k := 4) rfl rfl) ?_
        | refine s_load Tryd.isAgg3 rfl rfl (hs.cell (k := 5) rfl rfl) ?_
        | refine s_load Tryd.isAgg3 rfl rfl (hs.cell (k := 6) rfl rfl) ?_
        | refine s_load Tryd.isAgg3 rfl rfl (hs.cell (k := 7) rfl rfl) ?_
        | refine s_load Tryd.isAgg3 rfl rfl (hs.cell (k := 8) rfl rfl) ?_
        | refine s_load Tryd.isAgg3 rfl rfl (hs.cell (k := 9) rfl rfl) ?_
      refine D_qn ?_
      refine D_q rfl rfl ?_
      (refine s_rem' rfl rfl rfl ?hx ?_; case hx => (refine ⟨?_, ?_⟩ <;> omega))
      rw [show (bs.length : Int) % 8 = ((bs.length % 8 : Nat) : Int) from by omega]
      refine D_qn ?_
      refine D_q rfl rfl ?_
      (refine s_shr rfl rfl rfl ?hx ?_; case hx => omega)
      rw [shr128 _ (by omega)]
      refine D_qn ?_
      refine D_q rfl rfl ?_
      refine s_or rfl rfl rfl ?_
      rw [or8 _ _ (byteAt_lt _ _) (p2_le _), hor]
      refine D_qn ?_
      refine D_q rfl rfl ?_
      (refine s_indexAddr1 El33 rfl rfl rfl ?hx ?_; case hx => (constructor <;> omega))
      rw [show 0 + ((bs.length / 8 : Nat) : Int).toNat = bs.length / 8 from by omega]
      refine D_qn ?_
      refine D_e rfl ?_
      refine s_store Tryd.sizeOf5 rfl rfl rfl hs (kk := 1) rfl (by simp [hxl]; omega) ?_
      clear hs; intro w hs
      simp only [List.set_cons_zero, List.set_cons_succ] at hs
      refine D_en ?re ?_
      case re =>
        exact Reks_nil
      refine D_nil ?_
      refine n_then ?_
      refine W_region ?_
      refine s_move rfl rfl ?_
      refine s_nilCheck rfl rfl ?_
      refine s_fieldAddr rfl rfl (FA88_1 _ _) ?_
      first
        | refine s_load Tryd.isAgg3 rfl rfl (hs.cell (k := 0) rfl rfl) ?_
        | refine s_load Tryd.isAgg3 rfl rfl (hs.cell (k := 1) rfl rfl) ?_
        | refine s_load Tryd.isAgg3 rfl rfl (hs.cell (k := 2) rfl rfl) ?_
        | refine s_load Tryd.isAgg3 rfl rfl (hs.cell (k := 3) rfl rfl) ?_
        | refine s_load Tryd.isAgg3 rfl rfl (hs.cell (k := 4) rfl rfl) ?_
        | refine s_load Tryd.isAgg3 rfl rfl (hs.cell (k := 5) rfl rfl) ?_
        | refine s_load Tryd.isAgg3 rfl rfl (hs.cell (k := 6) rfl rfl) ?_
        | refine s_load Tryd.isAgg3 rfl rfl (hs.cell (k := 7) rfl rfl) ?_
        | refine s_load Tryd.isAgg3 rfl rfl (hs.cell (k := 8) rfl rfl) ?_
        | refine s_load Tryd.isAgg3 rfl rfl (hs.cell (k := 9) rfl rfl) ?_
      first | (refine s_add' rfl rfl rfl ?hx ?_; case hx => (constructor <;> first | omega | (simp only; omega))) | refine s_add rfl rfl rfl ?_
      refine s_nilCheck rfl rfl ?_
      refine s_fieldAddr rfl rfl (FA88_1 _ _) ?_
      first
        | refine s_storeB Tryd.sizeOf3 rfl rfl rfl hs (kk := 0) rfl rfl ?_
        | refine s_storeB Tryd.sizeOf3 rfl rfl rfl hs (kk := 1) rfl rfl ?_
        | refine s_storeB Tryd.sizeOf3 rfl rfl rfl hs (kk := 2) rfl rfl ?_
        | refine s_storeB Tryd.sizeOf3 rfl rfl rfl hs (kk := 3) rfl rfl ?_
        | refine s_storeB Tryd.sizeOf3 rfl rfl rfl hs (kk := 4) rfl rfl ?_
        | refine s_storeB Tryd.sizeOf3 rfl rfl rfl hs (kk := 5) rfl rfl ?_
        | refine s_storeB Tryd.sizeOf3 rfl rfl rfl hs (kk := 6) rfl rfl ?_
        | refine s_storeB Tryd.sizeOf3 rfl rfl rfl hs (kk := 7) rfl rfl ?_
        | refine s_storeB Tryd.sizeOf3 rfl rfl rfl hs (kk := 8) rfl rfl ?_
        | refine s_storeB Tryd.sizeOf3 rfl rfl rfl hs (kk := 9) rfl rfl ?_
      clear hs; intro w hs; try simp only [List.set_cons_zero, List.set_cons_succ, splice, List.take_succ_cons, List.take_zero, List.drop_succ_cons, List.drop_zero, List.nil_append, List.cons_append, List.length_cons, List.length_nil, Nat.reduceAdd, List.append_assoc] at hs
      refine WL_nil ?_
      first
        | (subst hc19
           refine end0' rfl ⟨_, hs, ⟨_, _, by simp only [List.length_append, List.length_cons, List.length_nil, Int.natCast_add, Int.natCast_one]; rfl, ?_⟩, rfl⟩
           rw [pk_snoc]
           simp only [Bool.toNat_true, Nat.one_mul, List.length_set, hxl]
           exact own_set8 _ hO (by omega))
        | (subst hc19
           refine end0' rfl ⟨_, hs, ⟨_, _, by simp only [List.length_append, List.length_cons, List.length_nil, Int.natCast_add, Int.natCast_one]; rfl, ?_⟩, rfl⟩
           rw [pk_snoc_false, hxl]; exact hO)
    · skip
      try simp only [decide_eq_true_eq, decide_eq_false_iff_not, beq_iff_eq, beq_eq_false_iff_ne, ne_eq] at hc19
      refine W_skip ?_
      refine n_then ?_
      refine W_region ?_
      refine s_move rfl rfl ?_
      refine s_nilCheck rfl rfl ?_
      refine s_fieldAddr rfl rfl (FA88_1 _ _) ?_
      first
        | refine s_load Tryd.isAgg3 rfl rfl (hs.cell (k := 0) rfl rfl) ?_
        | refine s_load Tryd.isAgg3 rfl rfl (hs.cell (k := 1) rfl rfl) ?_
        | refine s_load Tryd.isAgg3 rfl rfl (hs.cell (k := 2) rfl rfl) ?_
        | refine s_load Tryd.isAgg3 rfl rfl (hs.cell (k := 3) rfl rfl) ?_
        | refine s_load Tryd.isAgg3 rfl rfl (hs.cell (k := 4) rfl rfl) ?_
        | refine s_load Tryd.isAgg3 rfl rfl (hs.cell (k := 5) rfl rfl) ?_
        | refine s_load Tryd.isAgg3 rfl rfl (hs.cell (k := 6) rfl rfl) ?_
        | refine s_load Tryd.isAgg3 rfl rfl (hs.cell (k := 7) rfl rfl) ?_
        | refine s_load Tryd.isAgg3 rfl rfl (hs.cell (k := 8) rfl rfl) ?_
        | refine s_load Tryd.isAgg3 rfl rfl (hs.cell (k := 9) rfl rfl) ?_
      first | (refine s_add' rfl rfl rfl ?hx ?_; case hx => (constructor <;> first | omega | (simp only; omega))) | refine s_add rfl rfl rfl ?_
      refine s_nilCheck rfl rfl ?_
      refine s_fieldAddr rfl rfl (FA88_1 _ _) ?_
      first
        | refine s_storeB Tryd.sizeOf3 rfl rfl rfl hs (kk := 0) rfl rfl ?_
        | refine s_storeB Tryd.sizeOf3 rfl rfl rfl hs (kk := 1) rfl rfl ?_
        | refine s_storeB Tryd.sizeOf3 rfl rfl rfl hs (kk := 2) rfl rfl ?_
        | refine s_storeB Tryd.sizeOf3 rfl rfl rfl hs (kk := 3) rfl rfl ?_
        | refine s_storeB Tryd.sizeOf3 rfl rfl rfl hs (kk := 4) rfl rfl ?_
        | refine s_storeB Tryd.sizeOf3 rfl rfl rfl hs (kk := 5) rfl rfl ?_
        | refine s_storeB Tryd.sizeOf3 rfl rfl rfl hs (kk := 6) rfl rfl ?_
        | refine s_storeB Tryd.sizeOf3 rfl rfl rfl hs (kk := 7) rfl rfl ?_
        | refine s_storeB Tryd.sizeOf3 rfl rfl rfl hs (kk := 8) rfl rfl ?_
        | refine s_storeB Tryd.sizeOf3 rfl rfl rfl hs (kk := 9) rfl rfl ?_
      clear hs; intro w hs; try simp only [List.set_cons_zero, List.set_cons_succ, splice, List.take_succ_cons, List.take_zero, List.drop_succ_cons, List.drop_zero, List.nil_append, List.cons_append, List.length_cons, List.length_nil, Nat.reduceAdd, List.append_assoc] at hs
      refine WL_nil ?_
      first
        | (subst hc19
           refine end0' rfl ⟨_, hs, ⟨_, _, by simp only [List.length_append, List.length_cons, List.length_nil, Int.natCast_add, Int.natCast_one]; rfl, ?_⟩, rfl⟩
           rw [pk_snoc]
           simp only [Bool.toNat_true, Nat.one_mul, List.length_set, hxl]
           exact own_set8 _ hO (by omega))
        | (subst hc19
           refine end0' rfl ⟨_, hs, ⟨_, _, by simp only [List.length_append, List.length_cons, List.length_nil, Int.natCast_add, Int.natCast_one]; rfl, ?_⟩, rfl⟩
           rw [pk_snoc_false, hxl]; exact hO)
/-! Bits -/
theorem clampV_nat (c : Int) : clampV c = ((clampV c).toNat : Int) ∧ (clampV c).toNat ≤ 64 := by unfold clampV; split <;> split at * <;> omega
theorem shrN (n i : Nat) (hi : i < 64) : (n : Int).fdiv (2 ^ (min ((i : Nat) : Int).toNat IntKind.u64.bits)) = ((n / 2 ^ i : Nat) : Int) := by
  rw [bits64, show min ((i : Nat) : Int).toNat 64 = i by omega, Int.fdiv_eq_ediv_of_nonneg _ (Int.le_of_lt (Int.pow_pos (by decide)))]
  simp
theorem bitOf (n i : Nat) : ((((n / 2 ^ i) % 2 : Nat) : Int) == 1) = n.testBit i := by
  rw [Nat.testBit_eq_decide_div_mod_eq]
  rcases Nat.mod_two_eq_zero_or_one (n / 2 ^ i) with h | h <;> rw [h] <;> rfl
theorem wBits_ok (p : Nat) (bs : List Bool) (n : Nat) (cnt : Int) (L0 : Hp) (w0 : World) (hW : WbAt p bs L0) (hs : St (ids L0) w0 w0 L0) (hn : n < 18446744073709551616) (hl : bs.length ≤ 549755813888) :
    Ret Tryd.prog 49 [.pointer (some ⟨p, 0, none⟩), .int .u64 (n : Int), .int .i64 cnt].toArray w0 fun r w' => ∃ L', St (ids L0) w0 w' L' ∧ WbAt p (bs ++ nb n (clampV cnt).toNat) L' ∧ r = .tuple #[] := by
  obtain ⟨hcv, hc⟩ := clampV_nat cnt
  generalize (clampV cnt).toNat = c at *
  refine Ret_startL hs fun w hs => ?_
  refine Ret_ofM Tryd.func49 rfl Tryd.ntmps49 rfl ?_
  refine M_seq ?_
  refine M_W ?_
  refine W_region ?_
  first | refine s_box rfl rfl hs ?_ | refine s_box1 rfl rfl rfl hs ?_
  clear hs; intro b3 w hs
  first | refine s_box rfl rfl hs ?_ | refine s_box1 rfl rfl rfl hs ?_
  clear hs; intro b4 w hs
  refine WL_nil ?_
  refine n_loop ?_
  refine M_seq ?_
  refine M_W ?_
  refine W_region ?_
  refine s_move rfl rfl ?_
  refine s_call Tryd.call59 rfl rfl (clamp_ok cnt w) ?_
  rintro v w1 ⟨hw1, rfl⟩
  rw [hw1, hcv]; clear hw1 w1
  refine s_call Tryd.call58 rfl rfl (positions_ok (c : Int) w) ?_
  rintro v w ⟨bq, rfl, hst⟩
  replace hs := St.back0 hs hst
  clear hst
  simp only [List.cons_append, List.nil_append] at hs
  refine WL_nil ?_
  refine n_loop ?_
  refine M_block ?_
  refine M_range Tryd.call63 rfl hs ?_
  clear hs; intro fn tm D w asg bo has hbo hA hs
  refine Ret.mono (posIter_ok (D + 1) bq c hc (fun i w => ∃ cs L, cs ++ nb n i = bs ++ nb n c ∧ WbAt p cs L ∧ St (ids L0) w0 w ((D + 1, .loop (lrec .ready fn tm #[10] asg bo D)) :: (D, .deferred (some [])) :: (bq, Blk 3 [.int .i64 (c : Int)]) :: (b4, Blk 64 [.int .u64 (n : Int)]) :: (b3, Blk 90 [.pointer (some ⟨p, 0, none⟩)]) :: L)) ?hrd ?round w ?h0) ?next
  case hrd => rintro i w ⟨cs, L, -, -, hs⟩; exact hs.cell (k := 2) rfl rfl
  case h0 => exact ⟨bs, L0, rfl, hW, hs⟩
  case round =>
    clear hs hW; rintro i w hi ⟨cs, L, hcat, hW, hs⟩
    have hcl : cs.length ≤ bs.length + 64 := by
      have := congrArg List.length hcat
      simp only [List.length_append, nb_length] at this; omega
    refine round_St hs rfl hA ?_
    refine R_eq has ?_
    refine R_region rfl ?_
    refine s_assign rfl rfl ?_
    refine WL_nil ?_
    refine q_n ?_
    refine ⟨hs, ?_⟩; clear hs; intro w hs
    refine R_eq hbo ?_
    refine R_block ?_
    refine R_draw [(0, true, []), (1, true, []), (2, true, []), (3, true, []), (4, true, []), (5, true, []), (6, false, [])] [[], [], [], [1, 2], [1, 2, 3], [1, 2, 3, 4], [0, 1, 2, 3, 4, 5]] MX (by kernel_rfl) rfl ?_
    intro w1 hw1 hw2 hw3 hw4; replace hs := hs.redrawn hw1 hw2 hw3 hw4; clear hw1 hw2 hw3 hw4
    obtain ⟨w, rfl⟩ : ∃ w : World, w = w1 := ⟨_, rfl⟩
    refine D_q rfl rfl ?_
    first
      | refine s_load Tryd.isAgg90 rfl rfl (hs.cell (k := 0) rfl rfl) ?_
      | refine s_load Tryd.isAgg90 rfl rfl (hs.cell (k := 1) rfl rfl) ?_
      | refine s_load Tryd.isAgg90 rfl rfl (hs.cell (k := 2) rfl rfl) ?_
      | refine s_load Tryd.isAgg90 rfl rfl (hs.cell (k := 3) rfl rfl) ?_
      | refine s_load Tryd.isAgg90 rfl rfl (hs.cell (k := 4) rfl rfl) ?_
      | refine s_load Tryd.isAgg90 rfl rfl (hs.cell (k := 5) rfl rfl) ?_
      | refine s_load Tryd.isAgg90 rfl rfl (hs.cell (k := 6) rfl rfl) ?_
      | refine s_load Tryd.isAgg90 rfl rfl (hs.cell (k := 7) rfl rfl) ?_
      | refine s_load Tryd.isAgg90 rfl rfl (hs.cell (k := 8) rfl rfl) ?_
      | refine s_load Tryd.isAgg90 rfl rfl (hs.cell (k := 9) rfl rfl) ?_
    refine D_qn ?_
    refine D_q rfl rfl ?_
    first
      | refine s_load Tryd.isAgg64 rfl rfl (hs.cell (k := 0) rfl rfl) ?_
      | refine s_load Tryd.isAgg64 rfl rfl (hs.cell (k := 1) rfl rfl) ?_
      | refine s_load Tryd.isAgg64 rfl rfl (hs.cell (k := 2) rfl rfl) ?_
      | refine s_load Tryd.isAgg64 rfl rfl (hs.cell (k := 3) rfl rfl) ?_
      | refine s_load Tryd.isAgg64 rfl rfl (hs.cell (k := 4) rfl rfl) ?_
      | refine s_load Tryd.isAgg64 rfl rfl (hs.cell (k := 5) rfl rfl) ?_
      | refine s_load Tryd.isAgg64 rfl rfl (hs.cell (k := 6) rfl rfl) ?_
      | refine s_load Tryd.isAgg64 rfl rfl (hs.cell (k := 7) rfl rfl) ?_
      | refine s_load Tryd.isAgg64 rfl rfl (hs.cell (k := 8) rfl rfl) ?_
      | refine s_load Tryd.isAgg64 rfl rfl (hs.cell (k := 9) rfl rfl) ?_
    refine D_qn ?_
    refine D_q rfl rfl ?_
    refine s_move rfl rfl ?_
    refine D_qn ?_
    refine D_q rfl rfl ?_
    (refine s_shr rfl rfl rfl ?hx ?_; case hx => omega)
    rw [shrN n i (by omega)]
    refine D_qn ?_
    refine D_q rfl rfl ?_
    refine s_and rfl rfl rfl ?_
    rw [and1 _ (Nat.lt_of_le_of_lt (Nat.div_le_self _ _) hn)]
    refine D_qn ?_
    refine D_q rfl rfl ?_
    refine s_eql rfl rfl rfl ?_
    rw [bitOf]
    refine D_qn ?_
    refine D_e rfl ?_
    refine s_callL (M := [_, _, _, _, _]) (L1 := L) (X := []) Tryd.call57 rfl rfl (by simpa using hs) (fun h => bit_ok p cs (n.testBit i) L w hW h (by omega)) ?_
    clear hs; rintro v w L2 ⟨hW2, rfl⟩ - hs
    simp only [List.cons_append, List.nil_append, List.append_nil] at hs
    refine D_en ?re ?_
    case re =>
      exact Reks_nil
    refine D_nil ?_
    refine q_n ?_
    exact ⟨_, hs, fun w hs => ⟨cs ++ [n.testBit i], L2, by rw [← hcat]; simp [nb], hW2, hs⟩⟩
  case next =>
    rintro _ w ⟨cs, L, hcat, hW, hs⟩
    refine ⟨_, hs, ?_⟩
    clear hs; intro w hs
    refine n_blk ?_
    refine M_end hs ?_
    clear hs; intro w hs
    have hcs : cs = bs ++ nb n c := by simpa [nb] using hcat
    exact end0' rfl ⟨L, hs.tail.tail.tail, hcs ▸ hW, rfl⟩
/-! the rest of the writer -/
def capV (c : Int) : Int := if 65536 < (if c < 0 then 0 else c) then 65536 else (if c < 0 then 0 else c)
theorem capV_nat (c : Int) : capV c = ((capV c).toNat : Int) ∧ (capV c).toNat ≤ 65536 := by unfold capV; split <;> split at * <;> omega
theorem wUnary_ok (p : Nat) (bs : List Bool) (cnt : Int) (L0 : Hp) (w0 : World) (hW : WbAt p bs L0) (hs : St (ids L0) w0 w0 L0) (hl : bs.length ≤ 549755813888) :
    Ret Tryd.prog 48 [.pointer (some ⟨p, 0, none⟩), .int .i64 cnt].toArray w0 fun r w' => ∃ L', St (ids L0) w0 w' L' ∧ WbAt p (bs ++ (List.replicate (capV cnt).toNat true ++ [false])) L' ∧ r = .tuple #[] := by
  obtain ⟨hcv, hc⟩ := capV_nat cnt
  generalize (capV cnt).toNat = c at *
  refine Ret_of Tryd.func48 rfl Tryd.ntmps48 rfl ?_
  refine W_seq ?_
  refine W_seq ?_
  refine W_region ?_
  refine s_move rfl rfl ?_
  refine s_max rfl rfl rfl ?_
  refine s_min rfl rfl rfl ?_
  rw [show (if 65536 < (if cnt < 0 then 0 else cnt) then 65536 else (if cnt < 0 then 0 else cnt)) = (c : Int) from hcv]
  refine s_move rfl rfl ?_
  refine WL_nil ?_
  refine n_then ?_
  refine W_block ?_
  refine W_loop (σ := Nat × Hp) (fun s => [(0, .pointer (some ⟨p, 0, none⟩)), (6, .int .i64 (c : Int)), (7, .int .i64 (s.1 : Int))]) (fun s w => St (ids L0) w0 w s.2 ∧ WbAt p (bs ++ List.replicate s.1 true) s.2 ∧ s.1 ≤ c) (fun s => c - s.1) (0, L0) ⟨rfl, rfl, rfl, trivial⟩ ⟨hs, by simpa using hW, Nat.zero_le _⟩ ?_
  clear hs hW
  rintro ⟨i, L⟩ w ⟨hs, hW, hi⟩
  simp only at hs hW hi ⊢
  refine W_seq ?_
  refine W_region ?_
  refine s_lss rfl rfl rfl ?_
  refine WL_nil ?_
  refine n_then ?_
  refine W_seq ?_
  refine W_cond rfl (fun hc8 => ?_) (fun hc8 => ?_)
  · skip
    simp only [decide_eq_true_eq, decide_eq_false_iff_not] at hc8
    refine W_skip ?_
    refine n_then ?_
    refine W_seq ?_
    refine W_block ?_
    refine W_region ?_
    refine s_move rfl rfl ?_
    refine s_callL (M := []) (L1 := L) (X := []) Tryd.call57 rfl rfl (by simpa using hs) (fun h => bit_ok p _ true L w hW h (by simp; omega)) ?_
    clear hs; rintro v w L2 ⟨hW2, rfl⟩ - hs
    simp only [List.nil_append, List.append_nil] at hs
    refine WL_nil ?_
    refine n_blk ?_
    refine n_then ?_
    refine W_region ?_
    first | (refine s_add' rfl rfl rfl ?hx ?_; case hx => (constructor <;> first | omega | (simp only; omega))) | refine s_add rfl rfl rfl ?_
    refine s_move rfl rfl ?_
    refine WL_nil ?_
    refine n_loop ?_
    exact ⟨(i + 1, L2), ⟨rfl, rfl, rfl, trivial⟩, ⟨hs, by simpa [List.replicate_succ'] using hW2, by simp only; omega⟩, by simp only; omega⟩
  · skip
    simp only [decide_eq_true_eq, decide_eq_false_iff_not] at hc8
    refine W_exit ?_
    refine x_then ?_
    refine x_then ?_
    refine exit_hit ?_
    refine n_then ?_
    refine W_region ?_
    refine s_move rfl rfl ?_
    refine s_callL (M := []) (L1 := L) (X := []) Tryd.call57 rfl rfl (by simpa using hs) (fun h => bit_ok p _ false L w hW h (by simp; omega)) ?_
    clear hs; rintro v w L2 ⟨hW2, rfl⟩ - hs
    simp only [List.nil_append, List.append_nil] at hs
    refine WL_nil ?_
    obtain rfl : i = c := by omega
    exact end0' rfl ⟨_, hs, by simpa using hW2, rfl⟩
theorem bDone_ok (p : Nat) (bs : List Bool) (L0 : Hp) (w0 : World) (hW : WbAt p bs L0) (hs : St (ids L0) w0 w0 L0) (hl : bs.length ≤ 4294967296) :
    Ret Tryd.prog 42 [.pointer (some ⟨p, 0, none⟩)].toArray w0 fun r w' => ∃ L', St (ids L0) w0 w' L' ∧ ∃ Lr, L' = L0 ++ Lr ∧ OwnS 5 1 r (pk bs).length (u8s (pk bs)) Lr := by
  obtain ⟨v, Lb, hL, hO⟩ := hW
  have hpl := pk_length bs
  obtain ⟨_, vc, va, rfl, rfl⟩ := hO.form
  replace hs : St (ids L0) w0 w0 ((p, Blk 88 [.slice va (pk bs).length vc, .int .i64 (bs.length : Int)]) :: Lb) := by rw [hL] at hs ⊢; exact hs
  refine Ret_startL hs fun w hs => ?_
  refine Ret_of Tryd.func42 rfl Tryd.ntmps42 rfl ?_
  refine W_seq ?_
  refine W_region ?_
  refine s_assign rfl rfl ?_
  refine WL_nil ?_
  refine n_then ?_
  refine W_seq ?_
  refine W_region ?_
  refine s_move rfl rfl ?_
  refine s_nilCheck rfl rfl ?_
  refine s_fieldAddr rfl rfl (FA88_0 _ _) ?_
  first
    | refine s_load Tryd.isAgg33 rfl rfl (hs.cell (k := 0) rfl rfl) ?_
    | refine s_load Tryd.isAgg33 rfl rfl (hs.cell (k := 1) rfl rfl) ?_
    | refine s_load Tryd.isAgg33 rfl rfl (hs.cell (k := 2) rfl rfl) ?_
    | refine s_load Tryd.isAgg33 rfl rfl (hs.cell (k := 3) rfl rfl) ?_
    | refine s_load Tryd.isAgg33 rfl rfl (hs.cell (k := 4) rfl rfl) ?_
    | refine s_load Tryd.isAgg33 rfl rfl (hs.cell (k := 5) rfl rfl) ?_
    | refine s_load Tryd.isAgg33 rfl rfl (hs.cell (k := 6) rfl rfl) ?_
    | refine s_load Tryd.isAgg33 rfl rfl (hs.cell (k := 7) rfl rfl) ?_
    | refine s_load Tryd.isAgg33 rfl rfl (hs.cell (k := 8) rfl rfl) ?_
    | refine s_load Tryd.isAgg33 rfl rfl (hs.cell (k := 9) rfl rfl) ?_
  refine s_call Tryd.call27 rfl rfl (clone_ok _ (pk bs) w (hO.slM (M := [_]) (X := []) (by simpa using hs)) (by omega)) ?_
  rintro r w ⟨Lr, hr, hst⟩
  replace hs := (St.back0 hs hst).swap
  clear hst
  refine s_assign rfl rfl ?_
  refine WL_nil ?_
  refine n_then ?_
  refine W_ret ?_
  exact end1 rfl rfl ⟨_, hs, Lr, by rw [hL], hr⟩
end Go.Proofs.YtgjjdlgbbgijgaaDoor

/- Contracts of package bits: the reader (names apart from those of package wire). -/
namespace Go.Proofs.YtgjjdlgbbgijgaaDoor
open Go.SL
/-- bit i of the bytes -/
def bitAt (ys : List Int) (i : Nat) : Bool := (ys.getD (i / 8) 0).toNat &&& (128 / 2 ^ (i % 8)) != 0
theorem bitAt_pk (bs : List Bool) (i : Nat) (hi : i < 8 * (pk bs).length) : bitAt (pk bs) i = gb bs i := by
  rw [pk_length] at hi
  have h1 : (pk bs).getD (i / 8) 0 = (byteAt bs (i / 8) : Int) := by simp [pk, show i / 8 < (bs.length + 7) / 8 by omega]
  unfold bitAt
  rw [h1, Int.toNat_natCast]
  have h2 := b8_and (fun j => gb bs (8 * (i / 8) + j)) (i % 8) (by omega)
  rw [show 8 * (i / 8) + i % 8 = i by omega] at h2
  exact h2
/-- the number of some bits, the highest first -/
def va : List Bool → Nat := List.foldl (fun a b => 2 * a + b.toNat) 0
theorem va_snoc (l : List Bool) (b : Bool) : va (l ++ [b]) = 2 * va l + b.toNat := by simp [va]
theorem va_lt' (l : List Bool) : ∀ a, List.foldl (fun a (b : Bool) => 2 * a + b.toNat) a l < (a + 1) * 2 ^ l.length := by
  induction l with
  | nil => intro a; simp
  | cons b l ih =>
    intro a
    rw [List.foldl_cons, List.length_cons, Nat.pow_succ]
    refine Nat.lt_of_lt_of_le (ih _) ?_
    have h : 2 * a + b.toNat + 1 ≤ 2 * (a + 1) := by cases b <;> simp <;> omega
    calc (2 * a + b.toNat + 1) * 2 ^ l.length ≤ (2 * (a + 1)) * 2 ^ l.length := Nat.mul_le_mul_right _ h
      _ = (a + 1) * (2 ^ l.length * 2) := by rw [Nat.mul_comm 2, Nat.mul_assoc, Nat.mul_comm 2]
theorem va_lt (l : List Bool) : va l < 2 ^ l.length := by have := va_lt' l 0; simpa [va] using this
/-- c bits from k on -/
def bitsAt (ys : List Int) (k : Nat) : Nat → List Bool
  | 0 => []
  | c + 1 => bitsAt ys k c ++ [bitAt ys (k + c)]
theorem bitsAt_length (ys : List Int) (k c : Nat) : (bitsAt ys k c).length = c := by induction c <;> simp_all [bitsAt]
/-- the reader at p: its bytes, position and error -/
def RbAt (p : Nat) (ys : List Int) (k : Nat) (e : Int) (L : Hp) : Prop := ∃ v Lb, L = (p, Blk 105 [v, .int .i64 (k : Int), .int .i64 e]) :: Lb ∧ OwnS 5 1 v ys.length (u8s ys) Lb ∧ k ≤ 8 * ys.length ∧ (∀ b ∈ ys, isB b) ∧ ys.length ≤ 4294967296
theorem bRead_ok (v : Value) (ys : List Int) (w0 : World) (hv : Sl w0 v ys.length (u8s ys)) (hl : ys.length ≤ 4294967296) (hb : ∀ b ∈ ys, isB b) :
    Ret Tryd.prog 44 [v].toArray w0 fun r w' => ∃ p L, r = .pointer (some ⟨p, 0, none⟩) ∧ RbAt p ys 0 0 L ∧ St [] w0 w' L := by
  obtain ⟨a, c, rfl, hac⟩ := hv.len_le
  refine Ret_start fun w hs => ?_
  refine Ret_of Tryd.func44 rfl Tryd.ntmps44 rfl ?_
  refine W_seq ?_
  refine W_region ?_
  refine s_assign rfl rfl ?_
  refine WL_nil ?_
  refine n_then ?_
  refine W_seq ?_
  refine W_region ?_
  refine s_move rfl rfl ?_
  refine s_call Tryd.call27 rfl rfl (clone_ok _ ys w (hv.fwd0 hs.fwd) hl) ?_
  rintro r w ⟨Lr, hr, hst⟩
  replace hs := St.back0 hs hst
  simp only [List.append_nil] at hs
  clear hst
  obtain ⟨_, vc, va, rfl, rfl⟩ := hr.form
  refine s_build rfl rfl (BD105_0 _ _ _) ?_
  first | refine s_box rfl rfl hs ?_ | refine s_box1 rfl rfl rfl hs ?_
  clear hs; intro b6 w hs
  refine s_assign rfl rfl ?_
  refine WL_nil ?_
  refine n_then ?_
  refine W_ret ?_
  exact end1 rfl rfl ⟨b6, _, rfl, ⟨_, Lr, rfl, hr, Nat.zero_le _, hb, hl⟩, hs⟩
theorem bleft_ok (p : Nat) (ys : List Int) (k : Nat) (e : Int) (L0 : Hp) (w0 : World) (hR : RbAt p ys k e L0) (hs : St (ids L0) w0 w0 L0) :
    Ret Tryd.prog 55 [.pointer (some ⟨p, 0, none⟩)].toArray w0 fun r w' => ∃ L', St (ids L0) w0 w' L' ∧ L' = L0 ∧ r = .int .i64 ((8 * ys.length - k : Nat) : Int) := by
  obtain ⟨v, Lb, hL, hO, hk, hb, hl⟩ := hR
  obtain ⟨_, vc, va, rfl, rfl⟩ := hO.form
  replace hs : St (ids L0) w0 w0 ((p, Blk 105 [.slice va ys.length vc, .int .i64 (k : Int), .int .i64 e]) :: Lb) := by rw [hL] at hs ⊢; exact hs
  refine Ret_startL hs fun w hs => ?_
  refine Ret_of Tryd.func55 rfl Tryd.ntmps55 rfl ?_
  refine W_seq ?_
  refine W_region ?_
  refine s_assign rfl rfl ?_
  refine WL_nil ?_
  refine n_then ?_
  refine W_seq ?_
  refine W_draw [(0, true, []), (1, true, []), (2, true, []), (3, true, []), (4, true, []), (5, true, []), (6, true, []), (7, true, []), (8, true, []), (9, true, []), (10, true, []), (11, true, [])] [[], [0], [0, 1], [0, 1, 2], [0, 1, 2, 3], [0, 1, 2, 3, 4], [], [6], [6, 7], [6, 7, 8], [0, 1, 2, 3, 4, 5, 6, 7, 8, 9], [0, 1, 2, 3, 4, 5, 6, 7, 8, 9, 10]] MX (by kernel_rfl) ?_
  intro w1 hw1 hw2 hw3 hw4; replace hs := hs.redrawn hw1 hw2 hw3 hw4; clear hw1 hw2 hw3 hw4
  obtain ⟨w, rfl⟩ : ∃ w : World, w = w1 := ⟨_, rfl⟩
  refine D_q rfl rfl ?_
  refine s_move rfl rfl ?_
  refine D_qn ?_
  refine D_q rfl rfl ?_
  refine s_nilCheck rfl rfl ?_
  refine D_qn ?_
  refine D_q rfl rfl ?_
  refine s_fieldAddr rfl rfl (FA105_0 _ _) ?_
  refine D_qn ?_
  refine D_q rfl rfl ?_
  first
    | refine s_load Tryd.isAgg33 rfl rfl (hs.cell (k := 0) rfl rfl) ?_
    | refine s_load Tryd.isAgg33 rfl rfl (hs.cell (k := 1) rfl rfl) ?_
    | refine s_load Tryd.isAgg33 rfl rfl (hs.cell (k := 2) rfl rfl) ?_
    | refine s_load Tryd.isAgg33 rfl rfl (hs.cell (k := 3) rfl rfl) ?_
    | refine s_load Tryd.isAgg33 rfl rfl (hs.cell (k := 4) rfl rfl) ?_
    | refine s_load Tryd.isAgg33 rfl rfl (hs.cell (k := 5) rfl rfl) ?_
    | refine s_load Tryd.isAgg33 rfl rfl (hs.cell (k := 6) rfl rfl) ?_
    | refine s_load Tryd.isAgg33 rfl rfl (hs.cell (k := 7) rfl rfl) ?_
    | refine s_load Tryd.isAgg33 rfl rfl (hs.cell (k := 8) rfl rfl) ?_
    | refine s_load Tryd.isAgg33 rfl rfl (hs.cell (k := 9) rfl rfl) ?_
  refine D_qn ?_
  refine D_q rfl rfl ?_
  refine s_len rfl rfl (LN33 _ _ _ _) ?_
  refine D_qn ?_
  refine D_q rfl rfl ?_
  first | (refine s_mul' rfl rfl rfl ?hx ?_; case hx => (constructor <;> first | omega | (simp only; omega))) | refine s_mul rfl rfl rfl ?_
  refine D_qn ?_
  refine D_q rfl rfl ?_
  refine s_move rfl rfl ?_
  refine D_qn ?_
  refine D_q rfl rfl ?_
  refine s_nilCheck rfl rfl ?_
  refine D_qn ?_
  refine D_q rfl rfl ?_
  refine s_fieldAddr rfl rfl (FA105_1 _ _) ?_
  refine D_qn ?_
  refine D_q rfl rfl ?_
  first
    | refine s_load Tryd.isAgg3 rfl rfl (hs.cell (k := 0) rfl rfl) ?_
    | refine s_load Tryd.isAgg3 rfl rfl (hs.cell (k := 1) rfl rfl) ?_
    | refine s_load Tryd.isAgg3 rfl rfl (hs.cell (k := 2) rfl rfl) ?_
    | refine s_load Tryd.isAgg3 rfl rfl (hs.cell (k := 3) rfl rfl) ?_
    | refine s_load Tryd.isAgg3 rfl rfl (hs.cell (k := 4) rfl rfl) ?_
    | refine s_load Tryd.isAgg3 rfl rfl (hs.cell (k := 5) rfl rfl) ?_
    | refine s_load Tryd.isAgg3 rfl rfl (hs.cell (k := 6) rfl rfl) ?_
    | refine s_load Tryd.isAgg3 rfl rfl (hs.cell (k := 7) rfl rfl) ?_
    | refine s_load Tryd.isAgg3 rfl rfl (hs.cell (k := 8) rfl rfl) ?_
    | refine s_load Tryd.isAgg3 rfl rfl (hs.cell (k := 9) rfl rfl) ?_
  refine D_qn ?_
  refine D_q rfl rfl ?_
  (refine s_sub' rfl rfl rfl ?hx ?_; case hx => (constructor <;> omega))
  rw [show (ys.length : Int) * 8 - k = ((8 * ys.length - k : Nat) : Int) from by omega]
  refine D_qn ?_
  refine D_q rfl rfl ?_
  refine s_assign rfl rfl ?_
  refine D_qn ?_
  refine D_nil ?_
  refine n_then ?_
  refine W_ret ?_
  exact end1 rfl rfl ⟨_, hs, hL.symm, rfl⟩
theorem bset_ok (p : Nat) (ys : List Int) (k i : Nat) (e : Int) (L0 : Hp) (w0 : World) (hR : RbAt p ys k e L0) (hs : St (ids L0) w0 w0 L0) (hi : i < 8 * ys.length) :
    Ret Tryd.prog 56 [.pointer (some ⟨p, 0, none⟩), .int .i64 (i : Int)].toArray w0 fun r w' => ∃ L', St (ids L0) w0 w' L' ∧ L' = L0 ∧ r = .bool (bitAt ys i) := by
  obtain ⟨v, Lb, hL, hO, hk, hb, hl⟩ := hR
  obtain ⟨g, vc, sp, rfl, hgc, rfl⟩ := hO.block (by omega)
  replace hs : St (ids L0) w0 w0 ((p, Blk 105 [.slice (some ⟨g, 0, none⟩) ys.length vc, .int .i64 (k : Int), .int .i64 e]) :: [(g, Blk 5 (u8s ys ++ sp))]) := by rw [hL] at hs ⊢; exact hs
  have hlt : i / 8 < ys.length := by omega
  obtain ⟨B, hB, hB2⟩ : ∃ B : Nat, ys[i / 8]? = some (B : Int) ∧ B < 256 := by
    have h1 := hb _ (List.getElem_mem hlt)
    refine ⟨ys[i / 8].toNat, by rw [List.getElem?_eq_getElem hlt]; unfold isB at h1; congr 1; omega, by unfold isB at h1; omega⟩
  have hat : (u8s ys ++ sp)[i / 8]? = some (.int .u8 (B : Int)) := by
    rw [List.getElem?_append_left (by simpa using hlt)]; simp [u8s, hB]
  refine Ret_startL hs fun w hs => ?_
  refine Ret_of Tryd.func56 rfl Tryd.ntmps56 rfl ?_
  refine W_seq ?_
  refine W_region ?_
  refine s_assign rfl rfl ?_
  refine WL_nil ?_
  refine n_then ?_
  refine W_seq ?_
  refine W_draw [(0, true, []), (1, true, []), (2, true, []), (3, true, []), (4, true, []), (5, true, []), (6, true, []), (7, true, []), (8, true, []), (9, true, []), (10, true, []), (11, true, []), (12, true, []), (13, true, [])] [[], [0], [0, 1], [0, 1, 2], [], [4], [0, 1, 2, 3, 4, 5], [0, 1, 2, 3, 4, 5, 6], [], [8], [8, 9], [0, 1, 2, 3, 4, 5, 6, 7, 8, 9, 10], [0, 1, 2, 3, 4, 5, 6, 7, 8, 9, 10, 11], [0, 1, 2, 3, 4, 5, 6, 7, 8, 9, 10, 11, 12]] MX (by kernel_rfl) ?_
  intro w1 hw1 hw2 hw3 hw4; replace hs := hs.redrawn hw1 hw2 hw3 hw4; clear hw1 hw2 hw3 hw4
  obtain ⟨w, rfl⟩ : ∃ w : World, w = w1 := ⟨_, rfl⟩
  refine D_q rfl rfl ?_
  refine s_move rfl rfl ?_
  refine D_qn ?_
  refine D_q rfl rfl ?_
  refine s_nilCheck rfl rfl ?_
  refine D_qn ?_
  refine D_q rfl rfl ?_
  refine s_fieldAddr rfl rfl (FA105_0 _ _) ?_
  refine D_qn ?_
  refine D_q rfl rfl ?_
  first
    | refine s_load Tryd.isAgg33 rfl rfl (hs.cell (k := 0) rfl rfl) ?_
    | refine s_load Tryd.isAgg33 rfl rfl (hs.cell (k := 1) rfl rfl) ?_
    | refine s_load Tryd.isAgg33 rfl rfl (hs.cell (k := 2) rfl rfl) ?_
    | refine s_load Tryd.isAgg33 rfl rfl (hs.cell (k := 3) rfl rfl) ?_
    | refine s_load Tryd.isAgg33 rfl rfl (hs.cell (k := 4) rfl rfl) ?_
    | refine s_load Tryd.isAgg33 rfl rfl (hs.cell (k := 5) rfl rfl) ?_
    | refine s_load Tryd.isAgg33 rfl rfl (hs.cell (k := 6) rfl rfl) ?_
    | refine s_load Tryd.isAgg33 rfl rfl (hs.cell (k := 7) rfl rfl) ?_
    | refine s_load Tryd.isAgg33 rfl rfl (hs.cell (k := 8) rfl rfl) ?_
    | refine s_load Tryd.isAgg33 rfl rfl (hs.cell (k := 9) rfl rfl) ?_
  refine D_qn ?_
  refine D_q rfl rfl ?_
  refine s_move rfl rfl ?_
  refine D_qn ?_
  refine D_q rfl rfl ?_
  (refine s_quo' rfl rfl rfl ?hx ?_; case hx => (refine ⟨?_, ?_, ?_⟩ <;> omega))
  rw [show (i : Int) / 8 = ((i / 8 : Nat) : Int) from by omega]
  refine D_qn ?_
  refine D_q rfl rfl ?_
  (refine s_indexAddr1 El33 rfl rfl rfl ?hx ?_; case hx => (constructor <;> omega))
  rw [show 0 + ((i / 8 : Nat) : Int).toNat = i / 8 from by omega]
  refine D_qn ?_
  refine D_q rfl rfl ?_
  refine s_load Tryd.isAgg5 rfl rfl (hs.cell (k := 1) rfl hat) ?_
  refine D_qn ?_
  refine D_q rfl rfl ?_
  refine s_move rfl rfl ?_
  refine D_qn ?_
  refine D_q rfl rfl ?_
  (refine s_rem' rfl rfl rfl ?hx ?_; case hx => (refine ⟨?_, ?_⟩ <;> omega))
  rw [show (i : Int) % 8 = ((i % 8 : Nat) : Int) from by omega]
  refine D_qn ?_
  refine D_q rfl rfl ?_
  (refine s_shr rfl rfl rfl ?hx ?_; case hx => omega)
  rw [shr128 _ (by omega)]
  refine D_qn ?_
  refine D_q rfl rfl ?_
  refine s_and rfl rfl rfl ?_
  rw [and8 _ _ hB2 (p2_le _)]
  refine D_qn ?_
  refine D_q rfl rfl ?_
  refine s_neq rfl rfl rfl ?_
  refine D_qn ?_
  refine D_q rfl rfl ?_
  refine s_assign rfl rfl ?_
  refine D_qn ?_
  refine D_nil ?_
  refine n_then ?_
  refine W_ret ?_
  refine end1 rfl rfl ⟨_, hs, hL.symm, ?_⟩
  unfold bitAt
  rw [List.getD_eq_getElem?_getD, hB, Option.getD_some, Int.toNat_natCast]
  congr 1
  rw [Bool.eq_iff_iff]; simp only [bne_iff_ne, ne_eq]; omega
/-! Bits -/
theorem shl1 (i : Nat) (hi : i < 64) : IntKind.u64.wrap (1 * 2 ^ (min ((i : Nat) : Int).toNat IntKind.u64.bits)) = ((2 ^ i : Nat) : Int) := by
  have h : 2 ^ i < 2 ^ 64 := Nat.pow_lt_pow_right (by decide) hi
  rw [bits64, show min ((i : Nat) : Int).toNat 64 = i by omega, Int.one_mul, show (2 : Int) ^ i = ((2 ^ i : Nat) : Int) by simp, u64w (by omega)]
theorem or_hi (x i : Nat) (hx : (2 * x + 1) * 2 ^ i < 18446744073709551616) : IntKind.u64.wrap (((BitVec.ofInt IntKind.u64.bits ((x * 2 ^ (i + 1) : Nat) : Int) ||| BitVec.ofInt IntKind.u64.bits ((2 ^ i : Nat) : Int)).toNat : Nat) : Int) = (((2 * x + 1) * 2 ^ i : Nat) : Int) := by
  have he : x * 2 ^ (i + 1) + 2 ^ i = (2 * x + 1) * 2 ^ i := by rw [Nat.pow_succ, Nat.add_mul, Nat.one_mul, Nat.mul_comm 2 x, Nat.mul_assoc, Nat.mul_comm (2 ^ i) 2]
  rw [BitVec.or_comm, or_shl (2 ^ i) x (i + 1) (Nat.pow_lt_pow_right (by decide) (by omega)) (by omega), he]
def rbV (ys : List Int) (k : Nat) (e : Int) (cnt : Int) : Nat × Nat × Int :=
  if e ≠ 0 then (0, k, e) else if 8 * ys.length - k < (clampV cnt).toNat then (0, k, 3) else (va (bitsAt ys k (clampV cnt).toNat), k + (clampV cnt).toNat, 0)
theorem rBits_ok (p : Nat) (ys : List Int) (k : Nat) (e cnt : Int) (L0 : Hp) (w0 : World) (hR : RbAt p ys k e L0) (hs : St (ids L0) w0 w0 L0) :
    Ret Tryd.prog 54 [.pointer (some ⟨p, 0, none⟩), .int .i64 cnt].toArray w0 fun r w' => ∃ L', St (ids L0) w0 w' L' ∧ RbAt p ys (rbV ys k e cnt).2.1 (rbV ys k e cnt).2.2 L' ∧ r = .int .u64 ((rbV ys k e cnt).1 : Int) := by
  obtain ⟨hcv, hc⟩ := clampV_nat cnt
  unfold rbV
  generalize (clampV cnt).toNat = c at *
  have hR0 := hR
  obtain ⟨v, Lb, hL, hO, hk, hb, hl⟩ := hR
  obtain ⟨_, vc, va', rfl, rfl⟩ := hO.form
  replace hs : St (ids L0) w0 w0 ((p, Blk 105 [.slice va' ys.length vc, .int .i64 (k : Int), .int .i64 e]) :: Lb) := by rw [hL] at hs ⊢; exact hs
  refine Ret_startL hs fun w hs => ?_
  refine Ret_ofM Tryd.func54 rfl Tryd.ntmps54 rfl ?_
  refine M_seq ?_
  refine M_W ?_
  refine W_region ?_
  first | refine s_box rfl rfl hs ?_ | refine s_box1 rfl rfl rfl hs ?_
  clear hs; intro b2 w hs
  refine s_assign rfl rfl ?_
  refine WL_nil ?_
  refine n_loop ?_
  refine M_seq ?_
  refine M_W ?_
  refine W_seq ?_
  refine W_region ?_
  first
    | refine s_load Tryd.isAgg92 rfl rfl (hs.cell (k := 0) rfl rfl) ?_
    | refine s_load Tryd.isAgg92 rfl rfl (hs.cell (k := 1) rfl rfl) ?_
    | refine s_load Tryd.isAgg92 rfl rfl (hs.cell (k := 2) rfl rfl) ?_
    | refine s_load Tryd.isAgg92 rfl rfl (hs.cell (k := 3) rfl rfl) ?_
    | refine s_load Tryd.isAgg92 rfl rfl (hs.cell (k := 4) rfl rfl) ?_
    | refine s_load Tryd.isAgg92 rfl rfl (hs.cell (k := 5) rfl rfl) ?_
    | refine s_load Tryd.isAgg92 rfl rfl (hs.cell (k := 6) rfl rfl) ?_
    | refine s_load Tryd.isAgg92 rfl rfl (hs.cell (k := 7) rfl rfl) ?_
    | refine s_load Tryd.isAgg92 rfl rfl (hs.cell (k := 8) rfl rfl) ?_
    | refine s_load Tryd.isAgg92 rfl rfl (hs.cell (k := 9) rfl rfl) ?_
  refine s_nilCheck rfl rfl ?_
  refine s_fieldAddr rfl rfl (FA105_2 _ _) ?_
  first
    | refine s_load Tryd.isAgg24 rfl rfl (hs.cell (k := 0) rfl rfl) ?_
    | refine s_load Tryd.isAgg24 rfl rfl (hs.cell (k := 1) rfl rfl) ?_
    | refine s_load Tryd.isAgg24 rfl rfl (hs.cell (k := 2) rfl rfl) ?_
    | refine s_load Tryd.isAgg24 rfl rfl (hs.cell (k := 3) rfl rfl) ?_
    | refine s_load Tryd.isAgg24 rfl rfl (hs.cell (k := 4) rfl rfl) ?_
    | refine s_load Tryd.isAgg24 rfl rfl (hs.cell (k := 5) rfl rfl) ?_
    | refine s_load Tryd.isAgg24 rfl rfl (hs.cell (k := 6) rfl rfl) ?_
    | refine s_load Tryd.isAgg24 rfl rfl (hs.cell (k := 7) rfl rfl) ?_
    | refine s_load Tryd.isAgg24 rfl rfl (hs.cell (k := 8) rfl rfl) ?_
    | refine s_load Tryd.isAgg24 rfl rfl (hs.cell (k := 9) rfl rfl) ?_
  refine s_neq rfl rfl rfl ?_
  refine WL_nil ?_
  refine n_then ?_
  refine W_cond rfl (fun hc11 => ?_) (fun hc11 => ?_)
  · skip
    try simp only [decide_eq_true_eq, decide_eq_false_iff_not, bne_iff_ne, ne_eq, bne_eq_false_iff_eq] at hc11
    refine W_seq ?_
    refine W_region ?_
    refine s_assign rfl rfl ?_
    refine WL_nil ?_
    refine n_then ?_
    refine W_ret ?_
    refine r_then ?_
    refine M_end0 ?_
    first
      | (refine end1 rfl rfl ⟨_, hs.tail, ?_⟩
         rw [if_pos (show e ≠ 0 from hc11)]
         exact ⟨⟨_, Lb, rfl, hO, hk, hb, hl⟩, rfl⟩)
      | (refine end1 rfl rfl ⟨_, hs.tail, ?_⟩
         rw [if_neg (show ¬ e ≠ 0 by omega), if_pos (by omega)]
         exact ⟨⟨_, Lb, rfl, hO, hk, hb, hl⟩, rfl⟩)
  · skip
    try simp only [decide_eq_true_eq, decide_eq_false_iff_not, bne_iff_ne, ne_eq, bne_eq_false_iff_eq] at hc11
    refine W_skip ?_
    refine n_loop ?_
    refine M_seq ?_
    refine M_W ?_
    refine W_region ?_
    refine s_move rfl rfl ?_
    refine s_call Tryd.call59 rfl rfl (clamp_ok cnt w) ?_
    rintro v w1 ⟨hw1, rfl⟩
    rw [hw1, hcv]; clear hw1 w1
    refine s_assign rfl rfl ?_
    refine WL_nil ?_
    refine n_loop ?_
    refine M_seq ?_
    refine M_W ?_
    refine W_seq ?_
    refine W_region ?_
    refine s_move rfl rfl ?_
    first
      | refine s_load Tryd.isAgg92 rfl rfl (hs.cell (k := 0) rfl rfl) ?_
      | refine s_load Tryd.isAgg92 rfl rfl (hs.cell (k := 1) rfl rfl) ?_
      | refine s_load Tryd.isAgg92 rfl rfl (hs.cell (k := 2) rfl rfl) ?_
      | refine s_load Tryd.isAgg92 rfl rfl (hs.cell (k := 3) rfl rfl) ?_
      | refine s_load Tryd.isAgg92 rfl rfl (hs.cell (k := 4) rfl rfl) ?_
      | refine s_load Tryd.isAgg92 rfl rfl (hs.cell (k := 5) rfl rfl) ?_
      | refine s_load Tryd.isAgg92 rfl rfl (hs.cell (k := 6) rfl rfl) ?_
      | refine s_load Tryd.isAgg92 rfl rfl (hs.cell (k := 7) rfl rfl) ?_
      | refine s_load Tryd.isAgg92 rfl rfl (hs.cell (k := 8) rfl rfl) ?_
      | refine s_load Tryd.isAgg92 rfl rfl (hs.cell (k := 9) rfl rfl) ?_
    refine s_callL (M := [_]) (L1 := L0) (X := []) Tryd.call55 rfl rfl (by rw [hL] at hs ⊢; simpa using hs) (fun h => bleft_ok p ys k e L0 w hR0 h) ?_
    clear hs; rintro v w L9 ⟨hL9, rfl⟩ - hs
    rw [hL9] at hs; clear hL9 L9
    replace hs : St (ids L0) w0 w ((b2, Blk 92 [.pointer (some ⟨p, 0, none⟩)]) :: (p, Blk 105 [.slice va' ys.length vc, .int .i64 (k : Int), .int .i64 e]) :: Lb) := by rw [hL] at hs ⊢; simpa using hs
    refine s_gtr rfl rfl rfl ?_
    refine WL_nil ?_
    refine n_then ?_
    refine W_cond rfl (fun hc17 => ?_) (fun hc17 => ?_)
    · skip
      try simp only [decide_eq_true_eq, decide_eq_false_iff_not, bne_iff_ne, ne_eq, bne_eq_false_iff_eq] at hc17
      refine W_seq ?_
      refine W_region ?_
      first
        | refine s_load Tryd.isAgg92 rfl rfl (hs.cell (k := 0) rfl rfl) ?_
        | refine s_load Tryd.isAgg92 rfl rfl (hs.cell (k := 1) rfl rfl) ?_
        | refine s_load Tryd.isAgg92 rfl rfl (hs.cell (k := 2) rfl rfl) ?_
        | refine s_load Tryd.isAgg92 rfl rfl (hs.cell (k := 3) rfl rfl) ?_
        | refine s_load Tryd.isAgg92 rfl rfl (hs.cell (k := 4) rfl rfl) ?_
        | refine s_load Tryd.isAgg92 rfl rfl (hs.cell (k := 5) rfl rfl) ?_
        | refine s_load Tryd.isAgg92 rfl rfl (hs.cell (k := 6) rfl rfl) ?_
        | refine s_load Tryd.isAgg92 rfl rfl (hs.cell (k := 7) rfl rfl) ?_
        | refine s_load Tryd.isAgg92 rfl rfl (hs.cell (k := 8) rfl rfl) ?_
        | refine s_load Tryd.isAgg92 rfl rfl (hs.cell (k := 9) rfl rfl) ?_
      refine s_nilCheck rfl rfl ?_
      refine s_fieldAddr rfl rfl (FA105_2 _ _) ?_
      first
        | refine s_storeB Tryd.sizeOf24 rfl rfl rfl hs (kk := 0) rfl rfl ?_
        | refine s_storeB Tryd.sizeOf24 rfl rfl rfl hs (kk := 1) rfl rfl ?_
        | refine s_storeB Tryd.sizeOf24 rfl rfl rfl hs (kk := 2) rfl rfl ?_
        | refine s_storeB Tryd.sizeOf24 rfl rfl rfl hs (kk := 3) rfl rfl ?_
        | refine s_storeB Tryd.sizeOf24 rfl rfl rfl hs (kk := 4) rfl rfl ?_
        | refine s_storeB Tryd.sizeOf24 rfl rfl rfl hs (kk := 5) rfl rfl ?_
        | refine s_storeB Tryd.sizeOf24 rfl rfl rfl hs (kk := 6) rfl rfl ?_
        | refine s_storeB Tryd.sizeOf24 rfl rfl rfl hs (kk := 7) rfl rfl ?_
        | refine s_storeB Tryd.sizeOf24 rfl rfl rfl hs (kk := 8) rfl rfl ?_
        | refine s_storeB Tryd.sizeOf24 rfl rfl rfl hs (kk := 9) rfl rfl ?_
      clear hs; intro w hs; try simp only [List.set_cons_zero, List.set_cons_succ, splice, List.take_succ_cons, List.take_zero, List.drop_succ_cons, List.drop_zero, List.nil_append, List.cons_append, List.length_cons, List.length_nil, Nat.reduceAdd, List.append_assoc] at hs
      refine WL_nil ?_
      refine n_then ?_
      refine W_seq ?_
      refine W_region ?_
      refine s_assign rfl rfl ?_
      refine WL_nil ?_
      refine n_then ?_
      refine W_ret ?_
      refine r_then ?_
      refine M_end0 ?_
      first
        | (refine end1 rfl rfl ⟨_, hs.tail, ?_⟩
           rw [if_pos (show e ≠ 0 from hc11)]
           exact ⟨⟨_, Lb, rfl, hO, hk, hb, hl⟩, rfl⟩)
        | (refine end1 rfl rfl ⟨_, hs.tail, ?_⟩
           rw [if_neg (show ¬ e ≠ 0 by omega), if_pos (by omega)]
           exact ⟨⟨_, Lb, rfl, hO, hk, hb, hl⟩, rfl⟩)
    · skip
      try simp only [decide_eq_true_eq, decide_eq_false_iff_not, bne_iff_ne, ne_eq, bne_eq_false_iff_eq] at hc17
      refine W_skip ?_
      refine n_loop ?_
      refine M_seq ?_
      refine M_W ?_
      refine W_region ?_
      refine s_alloc rfl AL64 hs ?_; clear hs; intro b5 w hs
      refine WL_nil ?_
      refine n_loop ?_
      refine M_seq ?_
      refine M_seq ?_
      refine M_W ?_
      refine W_region ?_
      refine s_move rfl rfl ?_
      refine s_call Tryd.call58 rfl rfl (positions_ok (c : Int) w) ?_
      rintro v w ⟨bq, rfl, hst⟩
      replace hs := St.back0 hs hst
      clear hst
      simp only [List.cons_append, List.nil_append] at hs
      refine WL_nil ?_
      refine n_loop ?_
      refine M_block ?_
      have he0 : e = 0 := by omega
      subst he0
      refine M_range Tryd.call63 rfl hs ?_
      clear hs; intro fn tm D w asg bo has hbo hA hs
      refine Ret.mono (posIter_ok (D + 1) bq c hc (fun i w => ∃ L, St (ids L0) w0 w ((D + 1, .loop (lrec .ready fn tm #[23] asg bo D)) :: (D, .deferred (some [])) :: (bq, Blk 3 [.int .i64 (c : Int)]) :: (b5, Blk 64 [.int .u64 ((va (bitsAt ys k (c - i)) * 2 ^ i : Nat) : Int)]) :: (b2, Blk 92 [.pointer (some ⟨p, 0, none⟩)]) :: L) ∧ RbAt p ys (k + (c - i)) 0 L) ?hrd ?round w ?h0) ?next
      case hrd => rintro i w ⟨L, hs, -⟩; exact hs.cell (k := 2) rfl rfl
      case h0 => exact ⟨L0, by rw [hL] at hs ⊢; simpa [bitsAt, va] using hs, by simpa using hR0⟩
      case round =>
        clear hs; rintro i w hi ⟨L, hs, hR⟩
        have hci : c - i = c - (i + 1) + 1 := by omega
        have hm0 : c - (i + 1) + 1 + i = c := by omega
        rw [hci]
        clear hci
        generalize c - (i + 1) = m at *
        obtain ⟨v, Lc, rfl, hO2, hk2, -, -⟩ := hR
        obtain ⟨_, uc, ua, rfl, rfl⟩ := hO2.form
        have hvl := va_lt (bitsAt ys k m)
        rw [bitsAt_length] at hvl
        have hbd : (2 * va (bitsAt ys k m) + 1) * 2 ^ i < 18446744073709551616 := by
          have h1 : (2 * va (bitsAt ys k m) + 1) < 2 ^ (m + 1) := by rw [Nat.pow_succ]; omega
          have h2 : (2 * va (bitsAt ys k m) + 1) * 2 ^ i < 2 ^ (m + 1) * 2 ^ i := Nat.mul_lt_mul_of_pos_right h1 (Nat.pow_pos (by decide))
          rw [← Nat.pow_add] at h2
          exact Nat.lt_of_lt_of_le h2 (Nat.pow_le_pow_right (by decide) (show m + 1 + i ≤ 64 by omega))
        refine round_St hs rfl hA ?_
        refine R_eq has ?_
        refine R_region rfl ?_
        refine s_assign rfl rfl ?_
        refine WL_nil ?_
        refine q_n ?_
        refine ⟨hs, ?_⟩; clear hs; intro w hs
        refine R_eq hbo ?_
        refine R_block ?_
        refine R_seq ?_
        refine R_seq ?_
        refine R_draw [(0, true, []), (1, true, []), (2, true, []), (3, true, []), (4, true, []), (5, false, [])] [[], [], [1], [1, 2], [1, 2, 3], [0, 1, 2, 3, 4]] MX (by kernel_rfl) rfl ?_
        intro w1 hw1 hw2 hw3 hw4; replace hs := hs.redrawn hw1 hw2 hw3 hw4; clear hw1 hw2 hw3 hw4
        obtain ⟨w, rfl⟩ : ∃ w : World, w = w1 := ⟨_, rfl⟩
        refine D_q rfl rfl ?_
        first
          | refine s_load Tryd.isAgg92 rfl rfl (hs.cell (k := 0) rfl rfl) ?_
          | refine s_load Tryd.isAgg92 rfl rfl (hs.cell (k := 1) rfl rfl) ?_
          | refine s_load Tryd.isAgg92 rfl rfl (hs.cell (k := 2) rfl rfl) ?_
          | refine s_load Tryd.isAgg92 rfl rfl (hs.cell (k := 3) rfl rfl) ?_
          | refine s_load Tryd.isAgg92 rfl rfl (hs.cell (k := 4) rfl rfl) ?_
          | refine s_load Tryd.isAgg92 rfl rfl (hs.cell (k := 5) rfl rfl) ?_
          | refine s_load Tryd.isAgg92 rfl rfl (hs.cell (k := 6) rfl rfl) ?_
          | refine s_load Tryd.isAgg92 rfl rfl (hs.cell (k := 7) rfl rfl) ?_
          | refine s_load Tryd.isAgg92 rfl rfl (hs.cell (k := 8) rfl rfl) ?_
          | refine s_load Tryd.isAgg92 rfl rfl (hs.cell (k := 9) rfl rfl) ?_
        refine D_qn ?_
        refine D_q rfl rfl ?_
        first
          | refine s_load Tryd.isAgg92 rfl rfl (hs.cell (k := 0) rfl rfl) ?_
          | refine s_load Tryd.isAgg92 rfl rfl (hs.cell (k := 1) rfl rfl) ?_
          | refine s_load Tryd.isAgg92 rfl rfl (hs.cell (k := 2) rfl rfl) ?_
          | refine s_load Tryd.isAgg92 rfl rfl (hs.cell (k := 3) rfl rfl) ?_
          | refine s_load Tryd.isAgg92 rfl rfl (hs.cell (k := 4) rfl rfl) ?_
          | refine s_load Tryd.isAgg92 rfl rfl (hs.cell (k := 5) rfl rfl) ?_
          | refine s_load Tryd.isAgg92 rfl rfl (hs.cell (k := 6) rfl rfl) ?_
          | refine s_load Tryd.isAgg92 rfl rfl (hs.cell (k := 7) rfl rfl) ?_
          | refine s_load Tryd.isAgg92 rfl rfl (hs.cell (k := 8) rfl rfl) ?_
          | refine s_load Tryd.isAgg92 rfl rfl (hs.cell (k := 9) rfl rfl) ?_
        refine D_qn ?_
        refine D_q rfl rfl ?_
        refine s_nilCheck rfl rfl ?_
        refine D_qn ?_
        refine D_q rfl rfl ?_
        refine s_fieldAddr rfl rfl (FA105_1 _ _) ?_
        refine D_qn ?_
        refine D_q rfl rfl ?_
        first
          | refine s_load Tryd.isAgg3 rfl rfl (hs.cell (k := 0) rfl rfl) ?_
          | refine s_load Tryd.isAgg3 rfl rfl (hs.cell (k := 1) rfl rfl) ?_
          | refine s_load Tryd.isAgg3 rfl rfl (hs.cell (k := 2) rfl rfl) ?_
          | refine s_load Tryd.isAgg3 rfl rfl (hs.cell (k := 3) rfl rfl) ?_
          | refine s_load Tryd.isAgg3 rfl rfl (hs.cell (k := 4) rfl rfl) ?_
          | refine s_load Tryd.isAgg3 rfl rfl (hs.cell (k := 5) rfl rfl) ?_
          | refine s_load Tryd.isAgg3 rfl rfl (hs.cell (k := 6) rfl rfl) ?_
          | refine s_load Tryd.isAgg3 rfl rfl (hs.cell (k := 7) rfl rfl) ?_
          | refine s_load Tryd.isAgg3 rfl rfl (hs.cell (k := 8) rfl rfl) ?_
          | refine s_load Tryd.isAgg3 rfl rfl (hs.cell (k := 9) rfl rfl) ?_
        refine D_qn ?_
        refine D_e rfl ?_
        refine s_callL (M := [_, _, _, _, _]) (L1 := (p, Blk 105 [.slice ua ys.length uc, .int .i64 ((k + m : Nat) : Int), .int .i64 0]) :: Lc) (X := []) Tryd.call56 rfl rfl (by simp only [List.append_nil, List.cons_append, List.nil_append]; exact hs) (fun h => bset_ok p ys (k + m) (k + m) 0 _ w ⟨_, Lc, rfl, hO2, hk2, hb, hl⟩ h (by omega)) ?_
        clear hs; rintro v w _ ⟨rfl, rfl⟩ - hs
        simp only [List.cons_append, List.nil_append, List.append_nil] at hs
        refine D_en ?re ?_
        case re =>
          exact Reks_nil
        refine D_nil ?_
        refine q_n ?_
        refine R_cond rfl (fun hc29 => ?_) (fun hc29 => ?_)
        · skip
          try simp only [decide_eq_true_eq, decide_eq_false_iff_not, bne_iff_ne, ne_eq, bne_eq_false_iff_eq] at hc29
          refine R_draw [(0, true, []), (1, true, []), (2, true, []), (3, true, []), (4, false, [])] [[], [], [1], [0, 1, 2], [0, 1, 2, 3]] MX (by kernel_rfl) rfl ?_
          intro w1 hw1 hw2 hw3 hw4; replace hs := hs.redrawn hw1 hw2 hw3 hw4; clear hw1 hw2 hw3 hw4
          obtain ⟨w, rfl⟩ : ∃ w : World, w = w1 := ⟨_, rfl⟩
          refine D_q rfl rfl ?_
          first
            | refine s_load Tryd.isAgg64 rfl rfl (hs.cell (k := 0) rfl rfl) ?_
            | refine s_load Tryd.isAgg64 rfl rfl (hs.cell (k := 1) rfl rfl) ?_
            | refine s_load Tryd.isAgg64 rfl rfl (hs.cell (k := 2) rfl rfl) ?_
            | refine s_load Tryd.isAgg64 rfl rfl (hs.cell (k := 3) rfl rfl) ?_
            | refine s_load Tryd.isAgg64 rfl rfl (hs.cell (k := 4) rfl rfl) ?_
            | refine s_load Tryd.isAgg64 rfl rfl (hs.cell (k := 5) rfl rfl) ?_
            | refine s_load Tryd.isAgg64 rfl rfl (hs.cell (k := 6) rfl rfl) ?_
            | refine s_load Tryd.isAgg64 rfl rfl (hs.cell (k := 7) rfl rfl) ?_
            | refine s_load Tryd.isAgg64 rfl rfl (hs.cell (k := 8) rfl rfl) ?_
            | refine s_load Tryd.isAgg64 rfl rfl (hs.cell (k := 9) rfl rfl) ?_
          refine D_qn ?_
          refine D_q rfl rfl ?_
          refine s_move rfl rfl ?_
          refine D_qn ?_
          refine D_q rfl rfl ?_
          (refine s_shl rfl rfl rfl ?hx ?_; case hx => omega)
          rw [shl1 i (by omega)]
          refine D_qn ?_
          refine D_q rfl rfl ?_
          refine s_or rfl rfl rfl ?_
          rw [or_hi _ i hbd]
          refine D_qn ?_
          refine D_e rfl ?_
          first
            | refine s_storeB Tryd.sizeOf64 rfl rfl rfl hs (kk := 0) rfl rfl ?_
            | refine s_storeB Tryd.sizeOf64 rfl rfl rfl hs (kk := 1) rfl rfl ?_
            | refine s_storeB Tryd.sizeOf64 rfl rfl rfl hs (kk := 2) rfl rfl ?_
            | refine s_storeB Tryd.sizeOf64 rfl rfl rfl hs (kk := 3) rfl rfl ?_
            | refine s_storeB Tryd.sizeOf64 rfl rfl rfl hs (kk := 4) rfl rfl ?_
            | refine s_storeB Tryd.sizeOf64 rfl rfl rfl hs (kk := 5) rfl rfl ?_
            | refine s_storeB Tryd.sizeOf64 rfl rfl rfl hs (kk := 6) rfl rfl ?_
            | refine s_storeB Tryd.sizeOf64 rfl rfl rfl hs (kk := 7) rfl rfl ?_
            | refine s_storeB Tryd.sizeOf64 rfl rfl rfl hs (kk := 8) rfl rfl ?_
            | refine s_storeB Tryd.sizeOf64 rfl rfl rfl hs (kk := 9) rfl rfl ?_
          clear hs; intro w hs; try simp only [List.set_cons_zero, List.set_cons_succ, splice, List.take_succ_cons, List.take_zero, List.drop_succ_cons, List.drop_zero, List.nil_append, List.cons_append, List.length_cons, List.length_nil, Nat.reduceAdd, List.append_assoc] at hs
          refine D_en ?re ?_
          case re =>
            exact Reks_nil
          refine D_nil ?_
          refine q_n ?_
          refine R_region rfl ?_
          first
            | refine s_load Tryd.isAgg92 rfl rfl (hs.cell (k := 0) rfl rfl) ?_
            | refine s_load Tryd.isAgg92 rfl rfl (hs.cell (k := 1) rfl rfl) ?_
            | refine s_load Tryd.isAgg92 rfl rfl (hs.cell (k := 2) rfl rfl) ?_
            | refine s_load Tryd.isAgg92 rfl rfl (hs.cell (k := 3) rfl rfl) ?_
            | refine s_load Tryd.isAgg92 rfl rfl (hs.cell (k := 4) rfl rfl) ?_
            | refine s_load Tryd.isAgg92 rfl rfl (hs.cell (k := 5) rfl rfl) ?_
            | refine s_load Tryd.isAgg92 rfl rfl (hs.cell (k := 6) rfl rfl) ?_
            | refine s_load Tryd.isAgg92 rfl rfl (hs.cell (k := 7) rfl rfl) ?_
            | refine s_load Tryd.isAgg92 rfl rfl (hs.cell (k := 8) rfl rfl) ?_
            | refine s_load Tryd.isAgg92 rfl rfl (hs.cell (k := 9) rfl rfl) ?_
          refine s_nilCheck rfl rfl ?_
          refine s_fieldAddr rfl rfl (FA105_1 _ _) ?_
          first
            | refine s_load Tryd.isAgg3 rfl rfl (hs.cell (k := 0) rfl rfl) ?_
            | refine s_load Tryd.isAgg3 rfl rfl (hs.cell (k := 1) rfl rfl) ?_
            | refine s_load Tryd.isAgg3 rfl rfl (hs.cell (k := 2) rfl rfl) ?_
            | refine s_load Tryd.isAgg3 rfl rfl (hs.cell (k := 3) rfl rfl) ?_
            | refine s_load Tryd.isAgg3 rfl rfl (hs.cell (k := 4) rfl rfl) ?_
            | refine s_load Tryd.isAgg3 rfl rfl (hs.cell (k := 5) rfl rfl) ?_
            | refine s_load Tryd.isAgg3 rfl rfl (hs.cell (k := 6) rfl rfl) ?_
            | refine s_load Tryd.isAgg3 rfl rfl (hs.cell (k := 7) rfl rfl) ?_
            | refine s_load Tryd.isAgg3 rfl rfl (hs.cell (k := 8) rfl rfl) ?_
            | refine s_load Tryd.isAgg3 rfl rfl (hs.cell (k := 9) rfl rfl) ?_
          (refine s_add' rfl rfl rfl ?hx ?_; case hx => (constructor <;> omega))
          rw [show ((k + m : Nat) : Int) + 1 = ((k + (m + 1) : Nat) : Int) from by omega]
          refine s_nilCheck rfl rfl ?_
          refine s_fieldAddr rfl rfl (FA105_1 _ _) ?_
          first
            | refine s_storeB Tryd.sizeOf3 rfl rfl rfl hs (kk := 0) rfl rfl ?_
            | refine s_storeB Tryd.sizeOf3 rfl rfl rfl hs (kk := 1) rfl rfl ?_
            | refine s_storeB Tryd.sizeOf3 rfl rfl rfl hs (kk := 2) rfl rfl ?_
            | refine s_storeB Tryd.sizeOf3 rfl rfl rfl hs (kk := 3) rfl rfl ?_
            | refine s_storeB Tryd.sizeOf3 rfl rfl rfl hs (kk := 4) rfl rfl ?_
            | refine s_storeB Tryd.sizeOf3 rfl rfl rfl hs (kk := 5) rfl rfl ?_
            | refine s_storeB Tryd.sizeOf3 rfl rfl rfl hs (kk := 6) rfl rfl ?_
            | refine s_storeB Tryd.sizeOf3 rfl rfl rfl hs (kk := 7) rfl rfl ?_
            | refine s_storeB Tryd.sizeOf3 rfl rfl rfl hs (kk := 8) rfl rfl ?_
            | refine s_storeB Tryd.sizeOf3 rfl rfl rfl hs (kk := 9) rfl rfl ?_
          clear hs; intro w hs; try simp only [List.set_cons_zero, List.set_cons_succ, splice, List.take_succ_cons, List.take_zero, List.drop_succ_cons, List.drop_zero, List.nil_append, List.cons_append, List.length_cons, List.length_nil, Nat.reduceAdd, List.append_assoc] at hs
          refine WL_nil ?_
          refine q_n ?_
          first
            | (have hv9 : va (bitsAt ys k (m + 1)) * 2 ^ i = (2 * va (bitsAt ys k m) + 1) * 2 ^ i := by rw [bitsAt, va_snoc, hc29]; rfl
               exact ⟨_, hs, fun w hs => ⟨_, by rw [hv9]; exact hs, ⟨_, Lc, rfl, hO2, by omega, hb, hl⟩⟩⟩)
            | (have hv9 : va (bitsAt ys k (m + 1)) * 2 ^ i = va (bitsAt ys k m) * 2 ^ (i + 1) := by rw [bitsAt, va_snoc, hc29, Nat.pow_succ, Nat.mul_comm (2 ^ i) 2, ← Nat.mul_assoc, Nat.mul_comm (va _) 2]; rfl
               exact ⟨_, hs, fun w hs => ⟨_, by rw [hv9]; exact hs, ⟨_, Lc, rfl, hO2, by omega, hb, hl⟩⟩⟩)
        · skip
          try simp only [decide_eq_true_eq, decide_eq_false_iff_not, bne_iff_ne, ne_eq, bne_eq_false_iff_eq] at hc29
          refine R_skip ?_
          refine q_n ?_
          refine R_region rfl ?_
          first
            | refine s_load Tryd.isAgg92 rfl rfl (hs.cell (k := 0) rfl rfl) ?_
            | refine s_load Tryd.isAgg92 rfl rfl (hs.cell (k := 1) rfl rfl) ?_
            | refine s_load Tryd.isAgg92 rfl rfl (hs.cell (k := 2) rfl rfl) ?_
            | refine s_load Tryd.isAgg92 rfl rfl (hs.cell (k := 3) rfl rfl) ?_
            | refine s_load Tryd.isAgg92 rfl rfl (hs.cell (k := 4) rfl rfl) ?_
            | refine s_load Tryd.isAgg92 rfl rfl (hs.cell (k := 5) rfl rfl) ?_
            | refine s_load Tryd.isAgg92 rfl rfl (hs.cell (k := 6) rfl rfl) ?_
            | refine s_load Tryd.isAgg92 rfl rfl (hs.cell (k := 7) rfl rfl) ?_
            | refine s_load Tryd.isAgg92 rfl rfl (hs.cell (k := 8) rfl rfl) ?_
            | refine s_load Tryd.isAgg92 rfl rfl (hs.cell (k := 9) rfl rfl) ?_
          refine s_nilCheck rfl rfl ?_
          refine s_fieldAddr rfl rfl (FA105_1 _ _) ?_
          first
            | refine s_load Tryd.isAgg3 rfl rfl (hs.cell (k := 0) rfl rfl) ?_
            | refine s_load Tryd.isAgg3 rfl rfl (hs.cell (k := 1) rfl rfl) ?_
            | refine s_load Tryd.isAgg3 rfl rfl (hs.cell (k := 2) rfl rfl) ?_
            | refine s_load Tryd.isAgg3 rfl rfl (hs.cell (k := 3) rfl rfl) ?_
            | refine s_load Tryd.isAgg3 rfl rfl (hs.cell (k := 4) rfl rfl) ?_
            | refine s_load Tryd.isAgg3 rfl rfl (hs.cell (k := 5) rfl rfl) ?_
            | refine s_load Tryd.isAgg3 rfl rfl (hs.cell (k := 6) rfl rfl) ?_
            | refine s_load Tryd.isAgg3 rfl rfl (hs.cell (k := 7) rfl rfl) ?_
            | refine s_load Tryd.isAgg3 rfl rfl (hs.cell (k := 8) rfl rfl) ?_
            | refine s_load Tryd.isAgg3 rfl rfl (hs.cell (k := 9) rfl rfl) ?_
          (refine s_add' rfl rfl rfl ?hx ?_; case hx => (constructor <;> omega))
          rw [show ((k + m : Nat) : Int) + 1 = ((k + (m + 1) : Nat) : Int) from by omega]
          refine s_nilCheck rfl rfl ?_
          refine s_fieldAddr rfl rfl (FA105_1 _ _) ?_
          first
            | refine s_storeB Tryd.sizeOf3 rfl rfl rfl hs (kk := 0) rfl rfl ?_
            | refine s_storeB Tryd.sizeOf3 rfl rfl rfl hs (kk := 1) rfl rfl ?_
            | refine s_storeB Tryd.sizeOf3 rfl rfl rfl hs (kk := 2) rfl rfl ?_
            | refine s_storeB Tryd.sizeOf3 rfl rfl rfl hs (kk := 3) rfl rfl ?_
            | refine s_storeB Tryd.sizeOf3 rfl rfl rfl hs (kk := 4) rfl rfl ?_
            | refine s_storeB Tryd.sizeOf3 rfl rfl rfl hs (kk := 5) rfl rfl ?_
            | refine s_storeB Tryd.sizeOf3 rfl rfl rfl hs (kk := 6) rfl rfl ?_
            | refine s_storeB Tryd.sizeOf3 rfl rfl rfl hs (kk := 7) rfl rfl ?_
            | refine s_storeB Tryd.sizeOf3 rfl rfl rfl hs (kk := 8) rfl rfl ?_
            | refine s_storeB Tryd.sizeOf3 rfl rfl rfl hs (kk := 9) rfl rfl ?_
          clear hs; intro w hs; try simp only [List.set_cons_zero, List.set_cons_succ, splice, List.take_succ_cons, List.take_zero, List.drop_succ_cons, List.drop_zero, List.nil_append, List.cons_append, List.length_cons, List.length_nil, Nat.reduceAdd, List.append_assoc] at hs
          refine WL_nil ?_
          refine q_n ?_
          first
            | (have hv9 : va (bitsAt ys k (m + 1)) * 2 ^ i = (2 * va (bitsAt ys k m) + 1) * 2 ^ i := by rw [bitsAt, va_snoc, hc29]; rfl
               exact ⟨_, hs, fun w hs => ⟨_, by rw [hv9]; exact hs, ⟨_, Lc, rfl, hO2, by omega, hb, hl⟩⟩⟩)
            | (have hv9 : va (bitsAt ys k (m + 1)) * 2 ^ i = va (bitsAt ys k m) * 2 ^ (i + 1) := by rw [bitsAt, va_snoc, hc29, Nat.pow_succ, Nat.mul_comm (2 ^ i) 2, ← Nat.mul_assoc, Nat.mul_comm (va _) 2]; rfl
               exact ⟨_, hs, fun w hs => ⟨_, by rw [hv9]; exact hs, ⟨_, Lc, rfl, hO2, by omega, hb, hl⟩⟩⟩)
      case next =>
        rintro _ w ⟨L, hs, hR⟩
        refine ⟨_, hs, ?_⟩
        clear hs; intro w hs
        refine n_blk ?_
        refine n_loop ?_
        refine M_W ?_
        refine W_seq ?_
        refine W_region ?_
        first
          | refine s_load Tryd.isAgg64 rfl rfl (hs.cell (k := 0) rfl rfl) ?_
          | refine s_load Tryd.isAgg64 rfl rfl (hs.cell (k := 1) rfl rfl) ?_
          | refine s_load Tryd.isAgg64 rfl rfl (hs.cell (k := 2) rfl rfl) ?_
          | refine s_load Tryd.isAgg64 rfl rfl (hs.cell (k := 3) rfl rfl) ?_
          | refine s_load Tryd.isAgg64 rfl rfl (hs.cell (k := 4) rfl rfl) ?_
          | refine s_load Tryd.isAgg64 rfl rfl (hs.cell (k := 5) rfl rfl) ?_
          | refine s_load Tryd.isAgg64 rfl rfl (hs.cell (k := 6) rfl rfl) ?_
          | refine s_load Tryd.isAgg64 rfl rfl (hs.cell (k := 7) rfl rfl) ?_
          | refine s_load Tryd.isAgg64 rfl rfl (hs.cell (k := 8) rfl rfl) ?_
          | refine s_load Tryd.isAgg64 rfl rfl (hs.cell (k := 9) rfl rfl) ?_
        refine s_assign rfl rfl ?_
        refine WL_nil ?_
        refine n_then ?_
        refine W_ret ?_
        refine M_end hs ?_
        clear hs; intro w hs
        refine end1 rfl rfl ⟨L, hs.tail.tail.tail, ?_⟩
        rw [if_neg (by simp), if_neg (by omega)]
        exact ⟨hR, by simp⟩
/-! Unary -/
def ruGo (ys : List Int) (k m : Nat) : Nat → Nat → Nat × Nat × Int
  | 0, _ => (0, k, 3)
  | f + 1, n => if bitAt ys (k + n) = false then (n, k + n + 1, 0) else if n = m then (0, k, 4) else ruGo ys k m f (n + 1)
def ruV (ys : List Int) (k : Nat) (e : Int) (most : Int) : Nat × Nat × Int := if e ≠ 0 then (0, k, e) else ruGo ys k most.toNat (8 * ys.length - k) 0
theorem rUnary_ok (p : Nat) (ys : List Int) (k : Nat) (e most : Int) (L0 : Hp) (w0 : World) (hR : RbAt p ys k e L0) (hs : St (ids L0) w0 w0 L0) :
    Ret Tryd.prog 53 [.pointer (some ⟨p, 0, none⟩), .int .i64 most].toArray w0 fun r w' => ∃ L', St (ids L0) w0 w' L' ∧ RbAt p ys (ruV ys k e most).2.1 (ruV ys k e most).2.2 L' ∧ r = .int .i64 ((ruV ys k e most).1 : Int) := by
  unfold ruV
  have hmx : (if most < 0 then 0 else most) = (most.toNat : Int) := by split <;> omega
  generalize most.toNat = m at *
  have hR0 := hR
  obtain ⟨v, Lb, hL, hO, hk, hb, hl⟩ := hR
  obtain ⟨_, vc, va', rfl, rfl⟩ := hO.form
  replace hs : St (ids L0) w0 w0 ((p, Blk 105 [.slice va' ys.length vc, .int .i64 (k : Int), .int .i64 e]) :: Lb) := by rw [hL] at hs ⊢; exact hs
  refine Ret_startL hs fun w hs => ?_
  refine Ret_of Tryd.func53 rfl Tryd.ntmps53 rfl ?_
  refine W_seq ?_
  refine W_region ?_
  refine s_assign rfl rfl ?_
  refine WL_nil ?_
  refine n_then ?_
  refine W_seq ?_
  refine W_seq ?_
  refine W_region ?_
  refine s_move rfl rfl ?_
  refine s_nilCheck rfl rfl ?_
  refine s_fieldAddr rfl rfl (FA105_2 _ _) ?_
  first
    | refine s_load Tryd.isAgg24 rfl rfl (hs.cell (k := 0) rfl rfl) ?_
    | refine s_load Tryd.isAgg24 rfl rfl (hs.cell (k := 1) rfl rfl) ?_
    | refine s_load Tryd.isAgg24 rfl rfl (hs.cell (k := 2) rfl rfl) ?_
    | refine s_load Tryd.isAgg24 rfl rfl (hs.cell (k := 3) rfl rfl) ?_
    | refine s_load Tryd.isAgg24 rfl rfl (hs.cell (k := 4) rfl rfl) ?_
    | refine s_load Tryd.isAgg24 rfl rfl (hs.cell (k := 5) rfl rfl) ?_
    | refine s_load Tryd.isAgg24 rfl rfl (hs.cell (k := 6) rfl rfl) ?_
    | refine s_load Tryd.isAgg24 rfl rfl (hs.cell (k := 7) rfl rfl) ?_
    | refine s_load Tryd.isAgg24 rfl rfl (hs.cell (k := 8) rfl rfl) ?_
    | refine s_load Tryd.isAgg24 rfl rfl (hs.cell (k := 9) rfl rfl) ?_
  refine s_neq rfl rfl rfl ?_
  refine WL_nil ?_
  refine n_then ?_
  refine W_cond rfl (fun hc10 => ?_) (fun hc10 => ?_)
  · skip
    try simp only [decide_eq_true_eq, decide_eq_false_iff_not, bne_iff_ne, ne_eq, bne_eq_false_iff_eq, beq_iff_eq, beq_eq_false_iff_ne, Bool.not_eq_true', Bool.not_eq_false'] at hc10
    refine W_seq ?_
    refine W_region ?_
    refine s_assign rfl rfl ?_
    refine WL_nil ?_
    refine n_then ?_
    refine W_ret ?_
    refine r_then ?_
    first
      | (refine end1 rfl rfl ⟨_, hs, ?_⟩
         rw [if_pos (show e ≠ 0 from hc10)]
         exact ⟨⟨_, Lb, rfl, hO, hk, hb, hl⟩, rfl⟩)
      | (refine end1 rfl rfl ⟨_, hs, ?_⟩
         rw [if_neg (by simp), ← hgo]
         exact ⟨⟨_, Lb, rfl, hO, by simp only; omega, hb, hl⟩, rfl⟩)
  · skip
    try simp only [decide_eq_true_eq, decide_eq_false_iff_not, bne_iff_ne, ne_eq, bne_eq_false_iff_eq, beq_iff_eq, beq_eq_false_iff_ne, Bool.not_eq_true', Bool.not_eq_false'] at hc10
    refine W_skip ?_
    refine n_then ?_
    refine W_seq ?_
    refine W_region ?_
    refine s_move rfl rfl ?_
    refine s_max rfl rfl rfl ?_
    rw [hmx]
    refine s_assign rfl rfl ?_
    refine WL_nil ?_
    refine n_then ?_
    refine W_seq ?_
    refine W_region ?_
    refine s_assign rfl rfl ?_
    refine WL_nil ?_
    refine n_then ?_
    refine W_block ?_
    have he0 : e = 0 := by omega
    subst he0
    refine W_loop (σ := Nat) (fun s => [(0, .pointer (some ⟨p, 0, none⟩)), (1, .int .i64 (m : Int)), (5, .int .i64 (s : Int))]) (fun s w => St (ids L0) w0 w ((p, Blk 105 [.slice va' ys.length vc, .int .i64 (k : Int), .int .i64 0]) :: Lb) ∧ s ≤ 8 * ys.length - k ∧ ruGo ys k m (8 * ys.length - k - s) s = ruGo ys k m (8 * ys.length - k) 0) (fun s => 8 * ys.length - k - s) 0 ⟨rfl, rfl, rfl, trivial⟩ ⟨hs, Nat.zero_le _, rfl⟩ ?_
    clear hs
    rintro n w ⟨hs, hn, hgo⟩
    refine W_seq ?_
    refine W_block ?_
    refine W_block ?_
    refine W_seq ?_
    refine W_region ?_
    refine s_move rfl rfl ?_
    refine s_move rfl rfl ?_
    refine s_callL (M := []) (L1 := L0) (X := []) Tryd.call55 rfl rfl (by rw [hL] at hs ⊢; simpa using hs) (fun h => bleft_ok p ys k 0 L0 w hR0 h) ?_
    clear hs; rintro v w L9 ⟨hL9, rfl⟩ - hs
    rw [hL9] at hs; clear hL9 L9
    replace hs : St (ids L0) w0 w ((p, Blk 105 [.slice va' ys.length vc, .int .i64 (k : Int), .int .i64 0]) :: Lb) := by rw [hL] at hs ⊢; simpa using hs
    refine s_geq rfl rfl rfl ?_
    refine s_assign rfl rfl ?_
    refine WL_nil ?_
    refine n_then ?_
    refine W_cond rfl (fun hc15 => ?_) (fun hc15 => ?_)
    · skip
      try simp only [decide_eq_true_eq, decide_eq_false_iff_not, bne_iff_ne, ne_eq, bne_eq_false_iff_eq, beq_iff_eq, beq_eq_false_iff_ne, Bool.not_eq_true', Bool.not_eq_false'] at hc15
      rw [show 8 * ys.length - k - n = 0 by omega] at hgo
      simp only [ruGo] at hgo
      refine W_seq ?_
      refine W_region ?_
      refine s_move rfl rfl ?_
      refine s_nilCheck rfl rfl ?_
      refine s_fieldAddr rfl rfl (FA105_2 _ _) ?_
      first
        | refine s_storeB Tryd.sizeOf24 rfl rfl rfl hs (kk := 0) rfl rfl ?_
        | refine s_storeB Tryd.sizeOf24 rfl rfl rfl hs (kk := 1) rfl rfl ?_
        | refine s_storeB Tryd.sizeOf24 rfl rfl rfl hs (kk := 2) rfl rfl ?_
        | refine s_storeB Tryd.sizeOf24 rfl rfl rfl hs (kk := 3) rfl rfl ?_
        | refine s_storeB Tryd.sizeOf24 rfl rfl rfl hs (kk := 4) rfl rfl ?_
        | refine s_storeB Tryd.sizeOf24 rfl rfl rfl hs (kk := 5) rfl rfl ?_
        | refine s_storeB Tryd.sizeOf24 rfl rfl rfl hs (kk := 6) rfl rfl ?_
        | refine s_storeB Tryd.sizeOf24 rfl rfl rfl hs (kk := 7) rfl rfl ?_
        | refine s_storeB Tryd.sizeOf24 rfl rfl rfl hs (kk := 8) rfl rfl ?_
        | refine s_storeB Tryd.sizeOf24 rfl rfl rfl hs (kk := 9) rfl rfl ?_
      clear hs; intro w hs; try simp only [List.set_cons_zero, List.set_cons_succ, splice, List.take_succ_cons, List.take_zero, List.drop_succ_cons, List.drop_zero, List.nil_append, List.cons_append, List.length_cons, List.length_nil, Nat.reduceAdd, List.append_assoc] at hs
      refine WL_nil ?_
      refine n_then ?_
      refine W_seq ?_
      refine W_region ?_
      refine s_assign rfl rfl ?_
      refine WL_nil ?_
      refine n_then ?_
      refine W_ret ?_
      refine r_blk ?_
      refine r_blk ?_
      refine r_then ?_
      refine r_then ?_
      refine r_blk ?_
      first
        | (refine end1 rfl rfl ⟨_, hs, ?_⟩
           rw [if_pos (show e ≠ 0 from hc10)]
           exact ⟨⟨_, Lb, rfl, hO, hk, hb, hl⟩, rfl⟩)
        | (refine end1 rfl rfl ⟨_, hs, ?_⟩
           rw [if_neg (by simp), ← hgo]
           exact ⟨⟨_, Lb, rfl, hO, by simp only; omega, hb, hl⟩, rfl⟩)
    · skip
      try simp only [decide_eq_true_eq, decide_eq_false_iff_not, bne_iff_ne, ne_eq, bne_eq_false_iff_eq, beq_iff_eq, beq_eq_false_iff_ne, Bool.not_eq_true', Bool.not_eq_false'] at hc15
      rw [show 8 * ys.length - k - n = (8 * ys.length - k - n - 1) + 1 by omega] at hgo
      simp only [ruGo] at hgo
      refine W_seq ?_
      refine W_region ?_
      refine s_move rfl rfl ?_
      refine s_move rfl rfl ?_
      refine s_nilCheck rfl rfl ?_
      refine s_fieldAddr rfl rfl (FA105_1 _ _) ?_
      first
        | refine s_load Tryd.isAgg3 rfl rfl (hs.cell (k := 0) rfl rfl) ?_
        | refine s_load Tryd.isAgg3 rfl rfl (hs.cell (k := 1) rfl rfl) ?_
        | refine s_load Tryd.isAgg3 rfl rfl (hs.cell (k := 2) rfl rfl) ?_
        | refine s_load Tryd.isAgg3 rfl rfl (hs.cell (k := 3) rfl rfl) ?_
        | refine s_load Tryd.isAgg3 rfl rfl (hs.cell (k := 4) rfl rfl) ?_
        | refine s_load Tryd.isAgg3 rfl rfl (hs.cell (k := 5) rfl rfl) ?_
        | refine s_load Tryd.isAgg3 rfl rfl (hs.cell (k := 6) rfl rfl) ?_
        | refine s_load Tryd.isAgg3 rfl rfl (hs.cell (k := 7) rfl rfl) ?_
        | refine s_load Tryd.isAgg3 rfl rfl (hs.cell (k := 8) rfl rfl) ?_
        | refine s_load Tryd.isAgg3 rfl rfl (hs.cell (k := 9) rfl rfl) ?_
      refine s_move rfl rfl ?_
      (refine s_add' rfl rfl rfl ?hx ?_; case hx => (constructor <;> omega))
      rw [show (k : Int) + (n : Int) = ((k + n : Nat) : Int) from by omega]
      refine s_callL (M := []) (L1 := L0) (X := []) Tryd.call56 rfl rfl (by rw [hL] at hs ⊢; simpa using hs) (fun h => bset_ok p ys k (k + n) 0 L0 w hR0 h (by omega)) ?_
      clear hs; rintro v w L9 ⟨hL9, rfl⟩ - hs
      rw [hL9] at hs; clear hL9 L9
      replace hs : St (ids L0) w0 w ((p, Blk 105 [.slice va' ys.length vc, .int .i64 (k : Int), .int .i64 0]) :: Lb) := by rw [hL] at hs ⊢; simpa using hs
      refine s_not rfl rfl ?_
      refine s_assign rfl rfl ?_
      refine WL_nil ?_
      refine n_then ?_
      refine W_cond rfl (fun hc23 => ?_) (fun hc23 => ?_)
      · skip
        try simp only [decide_eq_true_eq, decide_eq_false_iff_not, bne_iff_ne, ne_eq, bne_eq_false_iff_eq, beq_iff_eq, beq_eq_false_iff_ne, Bool.not_eq_true', Bool.not_eq_false'] at hc23
        rw [if_pos hc23] at hgo
        refine W_seq ?_
        refine W_region ?_
        refine s_move rfl rfl ?_
        refine s_nilCheck rfl rfl ?_
        refine s_fieldAddr rfl rfl (FA105_1 _ _) ?_
        first
          | refine s_load Tryd.isAgg3 rfl rfl (hs.cell (k := 0) rfl rfl) ?_
          | refine s_load Tryd.isAgg3 rfl rfl (hs.cell (k := 1) rfl rfl) ?_
          | refine s_load Tryd.isAgg3 rfl rfl (hs.cell (k := 2) rfl rfl) ?_
          | refine s_load Tryd.isAgg3 rfl rfl (hs.cell (k := 3) rfl rfl) ?_
          | refine s_load Tryd.isAgg3 rfl rfl (hs.cell (k := 4) rfl rfl) ?_
          | refine s_load Tryd.isAgg3 rfl rfl (hs.cell (k := 5) rfl rfl) ?_
          | refine s_load Tryd.isAgg3 rfl rfl (hs.cell (k := 6) rfl rfl) ?_
          | refine s_load Tryd.isAgg3 rfl rfl (hs.cell (k := 7) rfl rfl) ?_
          | refine s_load Tryd.isAgg3 rfl rfl (hs.cell (k := 8) rfl rfl) ?_
          | refine s_load Tryd.isAgg3 rfl rfl (hs.cell (k := 9) rfl rfl) ?_
        refine s_move rfl rfl ?_
        first | (refine s_add' rfl rfl rfl ?hx ?_; case hx => (constructor <;> first | omega | (simp only; omega))) | refine s_add rfl rfl rfl ?_
        (refine s_add' rfl rfl rfl ?hx ?_; case hx => (constructor <;> omega))
        rw [show (k : Int) + ((n : Int) + 1) = ((k + n + 1 : Nat) : Int) from by omega]
        refine s_nilCheck rfl rfl ?_
        refine s_fieldAddr rfl rfl (FA105_1 _ _) ?_
        first
          | refine s_storeB Tryd.sizeOf3 rfl rfl rfl hs (kk := 0) rfl rfl ?_
          | refine s_storeB Tryd.sizeOf3 rfl rfl rfl hs (kk := 1) rfl rfl ?_
          | refine s_storeB Tryd.sizeOf3 rfl rfl rfl hs (kk := 2) rfl rfl ?_
          | refine s_storeB Tryd.sizeOf3 rfl rfl rfl hs (kk := 3) rfl rfl ?_
          | refine s_storeB Tryd.sizeOf3 rfl rfl rfl hs (kk := 4) rfl rfl ?_
          | refine s_storeB Tryd.sizeOf3 rfl rfl rfl hs (kk := 5) rfl rfl ?_
          | refine s_storeB Tryd.sizeOf3 rfl rfl rfl hs (kk := 6) rfl rfl ?_
          | refine s_storeB Tryd.sizeOf3 rfl rfl rfl hs (kk := 7) rfl rfl ?_
          | refine s_storeB Tryd.sizeOf3 rfl rfl rfl hs (kk := 8) rfl rfl ?_
          | refine s_storeB Tryd.sizeOf3 rfl rfl rfl hs (kk := 9) rfl rfl ?_
        clear hs; intro w hs; try simp only [List.set_cons_zero, List.set_cons_succ, splice, List.take_succ_cons, List.take_zero, List.drop_succ_cons, List.drop_zero, List.nil_append, List.cons_append, List.length_cons, List.length_nil, Nat.reduceAdd, List.append_assoc] at hs
        refine WL_nil ?_
        refine n_then ?_
        refine W_seq ?_
        refine W_region ?_
        refine s_move rfl rfl ?_
        refine s_assign rfl rfl ?_
        refine WL_nil ?_
        refine n_then ?_
        refine W_ret ?_
        refine r_blk ?_
        refine r_blk ?_
        refine r_then ?_
        refine r_then ?_
        refine r_blk ?_
        first
          | (refine end1 rfl rfl ⟨_, hs, ?_⟩
             rw [if_pos (show e ≠ 0 from hc10)]
             exact ⟨⟨_, Lb, rfl, hO, hk, hb, hl⟩, rfl⟩)
          | (refine end1 rfl rfl ⟨_, hs, ?_⟩
             rw [if_neg (by simp), ← hgo]
             exact ⟨⟨_, Lb, rfl, hO, by simp only; omega, hb, hl⟩, rfl⟩)
      · skip
        try simp only [decide_eq_true_eq, decide_eq_false_iff_not, bne_iff_ne, ne_eq, bne_eq_false_iff_eq, beq_iff_eq, beq_eq_false_iff_ne, Bool.not_eq_true', Bool.not_eq_false'] at hc23
        rw [if_neg (by rw [hc23]; simp)] at hgo
        refine W_seq ?_
        refine W_region ?_
        refine s_move rfl rfl ?_
        refine s_move rfl rfl ?_
        refine s_eql rfl rfl rfl ?_
        refine s_assign rfl rfl ?_
        refine WL_nil ?_
        refine n_then ?_
        refine W_cond rfl (fun hc43 => ?_) (fun hc43 => ?_)
        · skip
          try simp only [decide_eq_true_eq, decide_eq_false_iff_not, bne_iff_ne, ne_eq, bne_eq_false_iff_eq, beq_iff_eq, beq_eq_false_iff_ne, Bool.not_eq_true', Bool.not_eq_false'] at hc43
          rw [if_pos (by omega)] at hgo
          refine W_seq ?_
          refine W_region ?_
          refine s_move rfl rfl ?_
          refine s_nilCheck rfl rfl ?_
          refine s_fieldAddr rfl rfl (FA105_2 _ _) ?_
          first
            | refine s_storeB Tryd.sizeOf24 rfl rfl rfl hs (kk := 0) rfl rfl ?_
            | refine s_storeB Tryd.sizeOf24 rfl rfl rfl hs (kk := 1) rfl rfl ?_
            | refine s_storeB Tryd.sizeOf24 rfl rfl rfl hs (kk := 2) rfl rfl ?_
            | refine s_storeB Tryd.sizeOf24 rfl rfl rfl hs (kk := 3) rfl rfl ?_
            | refine s_storeB Tryd.sizeOf24 rfl rfl rfl hs (kk := 4) rfl rfl ?_
            | refine s_storeB Tryd.sizeOf24 rfl rfl rfl hs (kk := 5) rfl rfl ?_
            | refine s_storeB Tryd.sizeOf24 rfl rfl rfl hs (kk := 6) rfl rfl ?_
            | refine s_storeB Tryd.sizeOf24 rfl rfl rfl hs (kk := 7) rfl rfl ?_
            | refine s_storeB Tryd.sizeOf24 rfl rfl rfl hs (kk := 8) rfl rfl ?_
            | refine s_storeB Tryd.sizeOf24 rfl rfl rfl hs (kk := 9) rfl rfl ?_
          clear hs; intro w hs; try simp only [List.set_cons_zero, List.set_cons_succ, splice, List.take_succ_cons, List.take_zero, List.drop_succ_cons, List.drop_zero, List.nil_append, List.cons_append, List.length_cons, List.length_nil, Nat.reduceAdd, List.append_assoc] at hs
          refine WL_nil ?_
          refine n_then ?_
          refine W_seq ?_
          refine W_region ?_
          refine s_assign rfl rfl ?_
          refine WL_nil ?_
          refine n_then ?_
          refine W_ret ?_
          refine r_blk ?_
          refine r_blk ?_
          refine r_then ?_
          refine r_then ?_
          refine r_blk ?_
          first
            | (refine end1 rfl rfl ⟨_, hs, ?_⟩
               rw [if_pos (show e ≠ 0 from hc10)]
               exact ⟨⟨_, Lb, rfl, hO, hk, hb, hl⟩, rfl⟩)
            | (refine end1 rfl rfl ⟨_, hs, ?_⟩
               rw [if_neg (by simp), ← hgo]
               exact ⟨⟨_, Lb, rfl, hO, by simp only; omega, hb, hl⟩, rfl⟩)
        · skip
          try simp only [decide_eq_true_eq, decide_eq_false_iff_not, bne_iff_ne, ne_eq, bne_eq_false_iff_eq, beq_iff_eq, beq_eq_false_iff_ne, Bool.not_eq_true', Bool.not_eq_false'] at hc43
          rw [if_neg (by omega)] at hgo
          refine W_skip ?_
          refine n_blk ?_
          refine n_blk ?_
          refine n_then ?_
          refine W_region ?_
          refine s_move rfl rfl ?_
          first | (refine s_add' rfl rfl rfl ?hx ?_; case hx => (constructor <;> first | omega | (simp only; omega))) | refine s_add rfl rfl rfl ?_
          refine s_assign rfl rfl ?_
          refine WL_nil ?_
          refine n_loop ?_
          exact ⟨n + 1, ⟨rfl, rfl, rfl, trivial⟩, ⟨hs, by omega, by rw [← hgo]; congr 1⟩, by omega⟩
theorem rAt_ok (p : Nat) (ys : List Int) (k : Nat) (e : Int) (L0 : Hp) (w0 : World) (hR : RbAt p ys k e L0) (hs : St (ids L0) w0 w0 L0) :
    Ret Tryd.prog 52 [.pointer (some ⟨p, 0, none⟩)].toArray w0 fun r w' => ∃ L', St (ids L0) w0 w' L' ∧ L' = L0 ∧ r = .int .i64 (k : Int) := by
  obtain ⟨v, Lb, hL, hO, hk, hb, hl⟩ := hR
  replace hs : St (ids L0) w0 w0 ((p, Blk 105 [v, .int .i64 (k : Int), .int .i64 e]) :: Lb) := by rw [hL] at hs ⊢; exact hs
  refine Ret_startL hs fun w hs => ?_
  refine Ret_of Tryd.func52 rfl Tryd.ntmps52 rfl ?_
  refine W_seq ?_
  refine W_region ?_
  refine s_assign rfl rfl ?_
  refine WL_nil ?_
  refine n_then ?_
  refine W_seq ?_
  refine W_region ?_
  refine s_move rfl rfl ?_
  refine s_nilCheck rfl rfl ?_
  refine s_fieldAddr rfl rfl (FA105_1 _ _) ?_
  first
    | refine s_load Tryd.isAgg3 rfl rfl (hs.cell (k := 0) rfl rfl) ?_
    | refine s_load Tryd.isAgg3 rfl rfl (hs.cell (k := 1) rfl rfl) ?_
    | refine s_load Tryd.isAgg3 rfl rfl (hs.cell (k := 2) rfl rfl) ?_
    | refine s_load Tryd.isAgg3 rfl rfl (hs.cell (k := 3) rfl rfl) ?_
    | refine s_load Tryd.isAgg3 rfl rfl (hs.cell (k := 4) rfl rfl) ?_
    | refine s_load Tryd.isAgg3 rfl rfl (hs.cell (k := 5) rfl rfl) ?_
    | refine s_load Tryd.isAgg3 rfl rfl (hs.cell (k := 6) rfl rfl) ?_
    | refine s_load Tryd.isAgg3 rfl rfl (hs.cell (k := 7) rfl rfl) ?_
    | refine s_load Tryd.isAgg3 rfl rfl (hs.cell (k := 8) rfl rfl) ?_
    | refine s_load Tryd.isAgg3 rfl rfl (hs.cell (k := 9) rfl rfl) ?_
  refine s_assign rfl rfl ?_
  refine WL_nil ?_
  refine n_then ?_
  refine W_ret ?_
  exact end1 rfl rfl ⟨_, hs, hL.symm, rfl⟩
def reV (ys : List Int) (k : Nat) (e : Int) : Int := if e ≠ 0 then e else if 8 ≤ 8 * ys.length - k then 2 else if (List.range (8 * ys.length - k)).any (fun i => bitAt ys (k + i)) = true then 2 else 0
theorem bEnd_ok (p : Nat) (ys : List Int) (k : Nat) (e : Int) (L0 : Hp) (w0 : World) (hR : RbAt p ys k e L0) (hs : St (ids L0) w0 w0 L0) :
    Ret Tryd.prog 46 [.pointer (some ⟨p, 0, none⟩)].toArray w0 fun r w' => ∃ L', St (ids L0) w0 w' L' ∧ L' = L0 ∧ r = .int .i64 (reV ys k e) := by
  unfold reV
  have hR0 := hR
  obtain ⟨v, Lb, hL, hO, hk, hb, hl⟩ := hR
  obtain ⟨_, vc, va', rfl, rfl⟩ := hO.form
  replace hs : St (ids L0) w0 w0 ((p, Blk 105 [.slice va' ys.length vc, .int .i64 (k : Int), .int .i64 e]) :: Lb) := by rw [hL] at hs ⊢; exact hs
  refine Ret_startL hs fun w hs => ?_
  refine Ret_of Tryd.func46 rfl Tryd.ntmps46 rfl ?_
  refine W_seq ?_
  refine W_region ?_
  refine s_assign rfl rfl ?_
  refine WL_nil ?_
  refine n_then ?_
  refine W_seq ?_
  refine W_seq ?_
  refine W_region ?_
  refine s_move rfl rfl ?_
  refine s_nilCheck rfl rfl ?_
  refine s_fieldAddr rfl rfl (FA105_2 _ _) ?_
  first
    | refine s_load Tryd.isAgg24 rfl rfl (hs.cell (k := 0) rfl rfl) ?_
    | refine s_load Tryd.isAgg24 rfl rfl (hs.cell (k := 1) rfl rfl) ?_
    | refine s_load Tryd.isAgg24 rfl rfl (hs.cell (k := 2) rfl rfl) ?_
    | refine s_load Tryd.isAgg24 rfl rfl (hs.cell (k := 3) rfl rfl) ?_
    | refine s_load Tryd.isAgg24 rfl rfl (hs.cell (k := 4) rfl rfl) ?_
    | refine s_load Tryd.isAgg24 rfl rfl (hs.cell (k := 5) rfl rfl) ?_
    | refine s_load Tryd.isAgg24 rfl rfl (hs.cell (k := 6) rfl rfl) ?_
    | refine s_load Tryd.isAgg24 rfl rfl (hs.cell (k := 7) rfl rfl) ?_
    | refine s_load Tryd.isAgg24 rfl rfl (hs.cell (k := 8) rfl rfl) ?_
    | refine s_load Tryd.isAgg24 rfl rfl (hs.cell (k := 9) rfl rfl) ?_
  refine s_neq rfl rfl rfl ?_
  refine WL_nil ?_
  refine n_then ?_
  refine W_cond rfl (fun hc8 => ?_) (fun hc8 => ?_)
  · skip
    try simp only [decide_eq_true_eq, decide_eq_false_iff_not, bne_iff_ne, ne_eq, bne_eq_false_iff_eq] at hc8
    refine W_seq ?_
    refine W_region ?_
    refine s_move rfl rfl ?_
    refine s_nilCheck rfl rfl ?_
    refine s_fieldAddr rfl rfl (FA105_2 _ _) ?_
    first
      | refine s_load Tryd.isAgg24 rfl rfl (hs.cell (k := 0) rfl rfl) ?_
      | refine s_load Tryd.isAgg24 rfl rfl (hs.cell (k := 1) rfl rfl) ?_
      | refine s_load Tryd.isAgg24 rfl rfl (hs.cell (k := 2) rfl rfl) ?_
      | refine s_load Tryd.isAgg24 rfl rfl (hs.cell (k := 3) rfl rfl) ?_
      | refine s_load Tryd.isAgg24 rfl rfl (hs.cell (k := 4) rfl rfl) ?_
      | refine s_load Tryd.isAgg24 rfl rfl (hs.cell (k := 5) rfl rfl) ?_
      | refine s_load Tryd.isAgg24 rfl rfl (hs.cell (k := 6) rfl rfl) ?_
      | refine s_load Tryd.isAgg24 rfl rfl (hs.cell (k := 7) rfl rfl) ?_
      | refine s_load Tryd.isAgg24 rfl rfl (hs.cell (k := 8) rfl rfl) ?_
      | refine s_load Tryd.isAgg24 rfl rfl (hs.cell (k := 9) rfl rfl) ?_
    refine s_assign rfl rfl ?_
    refine WL_nil ?_
    refine n_then ?_
    refine W_ret ?_
    refine r_then ?_
    first
      | (refine end1 rfl rfl ⟨_, hs, hL.symm, ?_⟩
         rw [if_pos (show e ≠ 0 from hc8)]; done)
      | (refine end1 rfl rfl ⟨_, hs, hL.symm, ?_⟩
         rw [if_neg (show ¬ e ≠ 0 by omega), if_pos (by omega)]; done)
      | (refine end1 rfl rfl ⟨_, hs, hL.symm, ?_⟩
         rw [if_neg (show ¬ e ≠ 0 by omega), if_neg (by omega), if_pos (List.any_eq_true.2 ⟨n, List.mem_range.2 (by omega), hc28⟩)]; done)
      | (refine end1 rfl rfl ⟨_, hs, hL.symm, ?_⟩
         rw [if_neg (show ¬ e ≠ 0 by omega), if_neg (by omega), if_neg]
         intro h
         obtain ⟨j, hj, hj2⟩ := List.any_eq_true.1 h
         have := hz j (by have := List.mem_range.1 hj; omega)
         rw [this] at hj2; cases hj2)
  · skip
    try simp only [decide_eq_true_eq, decide_eq_false_iff_not, bne_iff_ne, ne_eq, bne_eq_false_iff_eq] at hc8
    refine W_skip ?_
    refine n_then ?_
    refine W_seq ?_
    refine W_seq ?_
    refine W_region ?_
    refine s_move rfl rfl ?_
    refine s_callL (M := []) (L1 := L0) (X := []) Tryd.call55 rfl rfl (by rw [hL] at hs ⊢; simpa using hs) (fun h => bleft_ok p ys k e L0 w hR0 h) ?_
    clear hs; rintro v w L9 ⟨hL9, rfl⟩ - hs
    rw [hL9] at hs; clear hL9 L9
    replace hs : St (ids L0) w0 w ((p, Blk 105 [.slice va' ys.length vc, .int .i64 (k : Int), .int .i64 e]) :: Lb) := by rw [hL] at hs ⊢; simpa using hs
    refine s_geq rfl rfl rfl ?_
    refine WL_nil ?_
    refine n_then ?_
    refine W_cond rfl (fun hc15 => ?_) (fun hc15 => ?_)
    · skip
      try simp only [decide_eq_true_eq, decide_eq_false_iff_not, bne_iff_ne, ne_eq, bne_eq_false_iff_eq] at hc15
      refine W_seq ?_
      refine W_region ?_
      refine s_assign rfl rfl ?_
      refine WL_nil ?_
      refine n_then ?_
      refine W_ret ?_
      refine r_then ?_
      first
        | (refine end1 rfl rfl ⟨_, hs, hL.symm, ?_⟩
           rw [if_pos (show e ≠ 0 from hc8)]; done)
        | (refine end1 rfl rfl ⟨_, hs, hL.symm, ?_⟩
           rw [if_neg (show ¬ e ≠ 0 by omega), if_pos (by omega)]; done)
        | (refine end1 rfl rfl ⟨_, hs, hL.symm, ?_⟩
           rw [if_neg (show ¬ e ≠ 0 by omega), if_neg (by omega), if_pos (List.any_eq_true.2 ⟨n, List.mem_range.2 (by omega), hc28⟩)]; done)
        | (refine end1 rfl rfl ⟨_, hs, hL.symm, ?_⟩
           rw [if_neg (show ¬ e ≠ 0 by omega), if_neg (by omega), if_neg]
           intro h
           obtain ⟨j, hj, hj2⟩ := List.any_eq_true.1 h
           have := hz j (by have := List.mem_range.1 hj; omega)
           rw [this] at hj2; cases hj2)
    · skip
      try simp only [decide_eq_true_eq, decide_eq_false_iff_not, bne_iff_ne, ne_eq, bne_eq_false_iff_eq] at hc15
      refine W_skip ?_
      refine n_then ?_
      refine W_seq ?_
      refine W_seq ?_
      refine W_region ?_
      refine s_move rfl rfl ?_
      refine s_callL (M := []) (L1 := L0) (X := []) Tryd.call55 rfl rfl (by rw [hL] at hs ⊢; simpa using hs) (fun h => bleft_ok p ys k e L0 w hR0 h) ?_
      clear hs; rintro v w L9 ⟨hL9, rfl⟩ - hs
      rw [hL9] at hs; clear hL9 L9
      replace hs : St (ids L0) w0 w ((p, Blk 105 [.slice va' ys.length vc, .int .i64 (k : Int), .int .i64 e]) :: Lb) := by rw [hL] at hs ⊢; simpa using hs
      refine s_move rfl rfl ?_
      refine WL_nil ?_
      refine n_then ?_
      refine W_block ?_
      refine W_loop (σ := Nat) (fun s => [(0, .pointer (some ⟨p, 0, none⟩)), (17, .int .i64 ((8 * ys.length - k : Nat) : Int)), (18, .int .i64 (s : Int))]) (fun s w => St (ids L0) w0 w ((p, Blk 105 [.slice va' ys.length vc, .int .i64 (k : Int), .int .i64 e]) :: Lb) ∧ s ≤ 8 * ys.length - k ∧ ∀ j, j < s → bitAt ys (k + j) = false) (fun s => 8 * ys.length - k - s) 0 ⟨rfl, rfl, rfl, trivial⟩ ⟨hs, Nat.zero_le _, fun j hj => absurd hj (Nat.not_lt_zero _)⟩ ?_
      clear hs
      rintro n w ⟨hs, hn, hz⟩
      refine W_seq ?_
      refine W_region ?_
      refine s_lss rfl rfl rfl ?_
      refine WL_nil ?_
      refine n_then ?_
      refine W_seq ?_
      refine W_cond rfl (fun hc19 => ?_) (fun hc19 => ?_)
      · skip
        try simp only [decide_eq_true_eq, decide_eq_false_iff_not, bne_iff_ne, ne_eq, bne_eq_false_iff_eq] at hc19
        refine W_skip ?_
        refine n_then ?_
        refine W_seq ?_
        refine W_block ?_
        refine W_seq ?_
        refine W_region ?_
        refine s_move rfl rfl ?_
        refine s_assign rfl rfl ?_
        refine WL_nil ?_
        refine n_then ?_
        refine W_seq ?_
        refine W_region ?_
        refine s_move rfl rfl ?_
        refine s_move rfl rfl ?_
        refine s_nilCheck rfl rfl ?_
        refine s_fieldAddr rfl rfl (FA105_1 _ _) ?_
        first
          | refine s_load Tryd.isAgg3 rfl rfl (hs.cell (k := 0) rfl rfl) ?_
          | refine s_load Tryd.isAgg3 rfl rfl (hs.cell (k := 1) rfl rfl) ?_
          | refine s_load Tryd.isAgg3 rfl rfl (hs.cell (k := 2) rfl rfl) ?_
          | refine s_load Tryd.isAgg3 rfl rfl (hs.cell (k := 3) rfl rfl) ?_
          | refine s_load Tryd.isAgg3 rfl rfl (hs.cell (k := 4) rfl rfl) ?_
          | refine s_load Tryd.isAgg3 rfl rfl (hs.cell (k := 5) rfl rfl) ?_
          | refine s_load Tryd.isAgg3 rfl rfl (hs.cell (k := 6) rfl rfl) ?_
          | refine s_load Tryd.isAgg3 rfl rfl (hs.cell (k := 7) rfl rfl) ?_
          | refine s_load Tryd.isAgg3 rfl rfl (hs.cell (k := 8) rfl rfl) ?_
          | refine s_load Tryd.isAgg3 rfl rfl (hs.cell (k := 9) rfl rfl) ?_
        refine s_move rfl rfl ?_
        (refine s_add' rfl rfl rfl ?hx ?_; case hx => (constructor <;> omega))
        rw [show (k : Int) + (n : Int) = ((k + n : Nat) : Int) from by omega]
        refine s_callL (M := []) (L1 := L0) (X := []) Tryd.call56 rfl rfl (by rw [hL] at hs ⊢; simpa using hs) (fun h => bset_ok p ys k (k + n) e L0 w hR0 h (by omega)) ?_
        clear hs; rintro v w L9 ⟨hL9, rfl⟩ - hs
        rw [hL9] at hs; clear hL9 L9
        replace hs : St (ids L0) w0 w ((p, Blk 105 [.slice va' ys.length vc, .int .i64 (k : Int), .int .i64 e]) :: Lb) := by rw [hL] at hs ⊢; simpa using hs
        refine WL_nil ?_
        refine n_then ?_
        refine W_cond rfl (fun hc28 => ?_) (fun hc28 => ?_)
        · skip
          try simp only [decide_eq_true_eq, decide_eq_false_iff_not, bne_iff_ne, ne_eq, bne_eq_false_iff_eq] at hc28
          refine W_seq ?_
          refine W_region ?_
          refine s_assign rfl rfl ?_
          refine WL_nil ?_
          refine n_then ?_
          refine W_ret ?_
          refine r_blk ?_
          refine r_then ?_
          refine r_then ?_
          refine r_blk ?_
          refine r_then ?_
          first
            | (refine end1 rfl rfl ⟨_, hs, hL.symm, ?_⟩
               rw [if_pos (show e ≠ 0 from hc8)]; done)
            | (refine end1 rfl rfl ⟨_, hs, hL.symm, ?_⟩
               rw [if_neg (show ¬ e ≠ 0 by omega), if_pos (by omega)]; done)
            | (refine end1 rfl rfl ⟨_, hs, hL.symm, ?_⟩
               rw [if_neg (show ¬ e ≠ 0 by omega), if_neg (by omega), if_pos (List.any_eq_true.2 ⟨n, List.mem_range.2 (by omega), hc28⟩)]; done)
            | (refine end1 rfl rfl ⟨_, hs, hL.symm, ?_⟩
               rw [if_neg (show ¬ e ≠ 0 by omega), if_neg (by omega), if_neg]
               intro h
               obtain ⟨j, hj, hj2⟩ := List.any_eq_true.1 h
               have := hz j (by have := List.mem_range.1 hj; omega)
               rw [this] at hj2; cases hj2)
        · skip
          try simp only [decide_eq_true_eq, decide_eq_false_iff_not, bne_iff_ne, ne_eq, bne_eq_false_iff_eq] at hc28
          refine W_skip ?_
          refine n_blk ?_
          refine n_then ?_
          refine W_region ?_
          first | (refine s_add' rfl rfl rfl ?hx ?_; case hx => (constructor <;> first | omega | (simp only; omega))) | refine s_add rfl rfl rfl ?_
          refine s_move rfl rfl ?_
          refine WL_nil ?_
          refine n_loop ?_
          exact ⟨n + 1, ⟨rfl, rfl, rfl, trivial⟩, ⟨hs, by omega, fun j hj => by
            rcases Nat.lt_or_ge j n with h | h
            · exact hz j h
            · rw [show j = n by omega]; exact hc28⟩, by omega⟩
      · skip
        try simp only [decide_eq_true_eq, decide_eq_false_iff_not, bne_iff_ne, ne_eq, bne_eq_false_iff_eq] at hc19
        refine W_exit ?_
        refine x_then ?_
        refine x_then ?_
        refine exit_hit ?_
        refine n_then ?_
        refine W_seq ?_
        refine W_region ?_
        refine s_assign rfl rfl ?_
        refine WL_nil ?_
        refine n_then ?_
        refine W_ret ?_
        first
          | (refine end1 rfl rfl ⟨_, hs, hL.symm, ?_⟩
             rw [if_pos (show e ≠ 0 from hc8)]; done)
          | (refine end1 rfl rfl ⟨_, hs, hL.symm, ?_⟩
             rw [if_neg (show ¬ e ≠ 0 by omega), if_pos (by omega)]; done)
          | (refine end1 rfl rfl ⟨_, hs, hL.symm, ?_⟩
             rw [if_neg (show ¬ e ≠ 0 by omega), if_neg (by omega), if_pos (List.any_eq_true.2 ⟨n, List.mem_range.2 (by omega), hc28⟩)]; done)
          | (refine end1 rfl rfl ⟨_, hs, hL.symm, ?_⟩
             rw [if_neg (show ¬ e ≠ 0 by omega), if_neg (by omega), if_neg]
             intro h
             obtain ⟨j, hj, hj2⟩ := List.any_eq_true.1 h
             have := hz j (by have := List.mem_range.1 hj; omega)
             rw [this] at hj2; cases hj2)
end Go.Proofs.YtgjjdlgbbgijgaaDoor

/- Codes of numbers and of claims as bits, and how they are read back. No program in sight. -/
namespace Go.Proofs.YtgjjdlgbbgijgaaDoor
open Go.SL
theorem wb_new (p : Nat) : WbAt p [] [(p, Blk 88 [.slice none 0 0, .int .i64 0])] := ⟨_, [], rfl, OwnS.nil _ _⟩
theorem bitsAt_pk (bs : List Bool) (k : Nat) : ∀ c, k + c ≤ bs.length → bitsAt (pk bs) k c = (bs.drop k).take c
  | 0, _ => by simp [bitsAt]
  | c + 1, h => by
    have hl := pk_length bs
    rw [bitsAt, bitsAt_pk bs k c (by omega), bitAt_pk bs _ (by omega), List.take_add_one]
    congr 1
    simp [gb, show k + c < bs.length by omega]
theorem va_nb' (n : Nat) : ∀ c a, List.foldl (fun a (b : Bool) => 2 * a + b.toNat) a (nb n c) = a * 2 ^ c + n % 2 ^ c
  | 0, a => by simp [nb, Nat.mod_one]
  | c + 1, a => by
    rw [nb, List.foldl_cons, va_nb' n c, Nat.mod_pow_succ, Nat.testBit_eq_decide_div_mod_eq]
    rcases Nat.mod_two_eq_zero_or_one (n / 2 ^ c) with h | h <;> rw [h] <;> simp [Nat.pow_succ, Nat.add_mul] <;> rw [Nat.mul_comm 2 a, Nat.mul_assoc, Nat.mul_comm 2] <;> omega
theorem va_nb (n c : Nat) : va (nb n c) = n % 2 ^ c := by have := va_nb' n c 0; simpa [va] using this
def lowV (n : Nat) (c : Int) : Nat := n % 2 ^ (clampV c).toNat
/-- the bits of x lie at k -/
def AtBits (bs x : List Bool) (k : Nat) : Prop := ∃ r, bs.drop k = x ++ r
theorem AtBits.gb {bs x : List Bool} {k : Nat} (h : AtBits bs x k) {j : Nat} (hj : j < x.length) : gb bs (k + j) = gb x j := by
  obtain ⟨r, h⟩ := h
  unfold Proofs.YtgjjdlgbbgijgaaDoor.gb
  rw [← List.getElem?_drop, h, List.getElem?_append_left hj]
theorem AtBits.len {bs x : List Bool} {k : Nat} (h : AtBits bs x k) (hx : x ≠ []) : k + x.length ≤ bs.length := by
  obtain ⟨r, h⟩ := h
  have h1 := congrArg List.length h
  simp only [List.length_drop, List.length_append] at h1
  have h2 : 0 < x.length := List.length_pos_iff.2 hx
  omega
theorem ruGo_at (ys : List Int) (k m n : Nat) (hm : n ≤ m) (hf : bitAt ys (k + n) = false) (ht : ∀ j, j < n → bitAt ys (k + j) = true) : ∀ d f, d ≤ n → d < f → ruGo ys k m f (n - d) = (n, k + n + 1, 0) := by
  intro d
  induction d with
  | zero =>
    intro f _ hf2
    obtain ⟨f, rfl⟩ : ∃ g, f = g + 1 := ⟨f - 1, by omega⟩
    rw [ruGo, Nat.sub_zero, if_pos hf]
  | succ d ih =>
    intro f hd hf2
    obtain ⟨f, rfl⟩ : ∃ g, f = g + 1 := ⟨f - 1, by omega⟩
    rw [ruGo, if_neg (by rw [ht _ (by omega)]; simp), if_neg (by omega), show n - (d + 1) + 1 = n - d by omega]
    exact ih f (by omega) (by omega)
theorem rbV_at (bs : List Bool) (k n : Nat) (c : Int) (hk : k ≤ bs.length) (h : AtBits bs (nb n (clampV c).toNat) k) : rbV (pk bs) k 0 c = (lowV n c, k + (clampV c).toNat, 0) := by
  have hp := pk_length bs
  unfold rbV lowV
  rw [if_neg (by simp)]
  generalize (clampV c).toNat = d at *
  have hl : k + d ≤ bs.length := by
    by_cases hd : d = 0
    · omega
    · have := h.len (by intro he; have := congrArg List.length he; rw [nb_length] at this; exact hd this)
      rw [nb_length] at this; exact this
  rw [if_neg (by omega), bitsAt_pk bs k d hl]
  obtain ⟨r, h⟩ := h
  rw [h, List.take_append_of_le_length (by rw [nb_length]; exact Nat.le_refl _), List.take_of_length_le (by rw [nb_length]; exact Nat.le_refl _), va_nb]
theorem reV_end (bs : List Bool) : reV (pk bs) bs.length 0 = 0 := by
  have hp := pk_length bs
  unfold reV
  rw [if_neg (by simp), if_neg (by omega), if_neg]
  intro h
  obtain ⟨j, hj, hj2⟩ := List.any_eq_true.1 h
  have := List.mem_range.1 hj
  rw [bitAt_pk bs _ (by omega), gb_ge (by omega)] at hj2
  cases hj2
/-- the number of the code's kind; the widths of the kinds -/
def ci (z : Nat) : Nat := if z < 1 then 0 else if z < 16 then 1 else if z < 256 then 2 else if z < 65536 then 3 else if z < 4294967296 then 4 else 5
def cws : List Nat := [0, 4, 8, 16, 32, 64]
def cwd (i : Nat) : Nat := cws.getD i 0
theorem ci_le (z : Nat) : ci z ≤ 5 := by unfold ci; repeat' split <;> try omega
theorem cwd_le (i : Nat) : cwd i ≤ 64 := by
  rcases Nat.lt_or_ge i 6 with h | h
  · have : i = 0 ∨ i = 1 ∨ i = 2 ∨ i = 3 ∨ i = 4 ∨ i = 5 := by omega
    rcases this with h | h | h | h | h | h <;> subst h <;> decide
  · have h2 : cws[i]? = none := List.getElem?_eq_none h
    rw [cwd, List.getD_eq_getElem?_getD, h2]; simp
theorem ci_fits {z : Nat} (hz : z < 18446744073709551616) : z < 2 ^ cwd (ci z) := by
  unfold ci; repeat' split
  all_goals (first | (show z < 2 ^ 0; omega) | (show z < 2 ^ 4; omega) | (show z < 2 ^ 8; omega) | (show z < 2 ^ 16; omega) | (show z < 2 ^ 32; omega) | (show z < 2 ^ 64; omega))
theorem ci_min {z j : Nat} (hj : j < ci z) : ¬ z < 2 ^ cwd j := by
  unfold ci at hj
  have h5 : j < 5 := by revert hj; repeat' split <;> try omega
  have : j = 0 ∨ j = 1 ∨ j = 2 ∨ j = 3 ∨ j = 4 := by omega
  rcases this with h | h | h | h | h <;> subst h
  · show ¬ z < 2 ^ 0; split at hj <;> omega
  · show ¬ z < 2 ^ 4; revert hj; repeat' split <;> try omega
  · show ¬ z < 2 ^ 8; revert hj; repeat' split <;> try omega
  · show ¬ z < 2 ^ 16; revert hj; repeat' split <;> try omega
  · show ¬ z < 2 ^ 32; revert hj; repeat' split <;> try omega
/-- the code of a number -/
def code (n : Int) : List Bool := (List.replicate (ci (zz n)) true ++ [false]) ++ nb (zz n) (cwd (ci (zz n)))
theorem code_length (n : Int) : (code n).length = ci (zz n) + 1 + cwd (ci (zz n)) := by simp [code, nb_length]; omega
theorem code_len (n : Int) : (code n).length ≤ 70 := by
  have h1 := ci_le (zz n); have h2 := cwd_le (ci (zz n)); rw [code_length]; omega
theorem code_ne (n : Int) : code n ≠ [] := by intro h; have := congrArg List.length h; rw [code_length] at this; simp at this
theorem ruV_most (bs : List Bool) (k n m : Nat) (hm : n ≤ m) (h : AtBits bs (List.replicate n true ++ [false]) k) : ruV (pk bs) k 0 (m : Int) = (n, k + n + 1, 0) := by
  have hl := h.len (by simp)
  have hp := pk_length bs
  simp at hl
  unfold ruV
  rw [if_neg (by simp), Int.toNat_natCast]
  have h0 := ruGo_at (pk bs) k m n hm (by rw [bitAt_pk bs _ (by omega), h.gb (by simp)]; simp [gb]) (fun j hj => by rw [bitAt_pk bs _ (by omega), h.gb (by simp; omega)]; simp [gb, List.getElem?_append_left, hj]) n (8 * (pk bs).length - k) (Nat.le_refl _) (by omega)
  rw [Nat.sub_self] at h0
  exact h0
theorem AtBits.left {bs x y : List Bool} {k : Nat} (h : AtBits bs (x ++ y) k) : AtBits bs x k := by
  obtain ⟨r, h⟩ := h; exact ⟨y ++ r, by rw [h, List.append_assoc]⟩
theorem AtBits.right {bs x y : List Bool} {k : Nat} (h : AtBits bs (x ++ y) k) : AtBits bs y (k + x.length) := by
  obtain ⟨r, h⟩ := h
  refine ⟨r, ?_⟩
  rw [← List.drop_drop, h, List.append_assoc, List.drop_left]
theorem clampV_cwd (i : Nat) : (clampV (cwd i : Int)).toNat = cwd i := by
  have := cwd_le i; unfold clampV; split <;> split at * <;> omega
/-- the two reads of a code -/
theorem code_read {bs : List Bool} {k : Nat} {n : Int} (hn : isI64 n) (h : AtBits bs (code n) k) :
    ruV (pk bs) k 0 5 = (ci (zz n), k + ci (zz n) + 1, 0) ∧ rbV (pk bs) (k + ci (zz n) + 1) 0 (cwd (ci (zz n)) : Int) = (zz n, k + (code n).length, 0) ∧ k + (code n).length ≤ bs.length := by
  have hl := h.len (code_ne n)
  refine ⟨ruV_most bs k _ 5 (ci_le _) (by unfold code at h; exact h.left), ?_, hl⟩
  have h2 : AtBits bs (nb (zz n) (cwd (ci (zz n)))) (k + ci (zz n) + 1) := by
    have := (show AtBits bs ((List.replicate (ci (zz n)) true ++ [false]) ++ nb (zz n) (cwd (ci (zz n)))) k from h).right
    simpa [Nat.add_assoc] using this
  rw [rbV_at bs _ (zz n) _ (by rw [code_length] at hl; omega) (by rw [clampV_cwd]; exact h2), clampV_cwd, lowV, clampV_cwd, Nat.mod_eq_of_lt (ci_fits (zz_lt hn)), code_length]
  congr 2
  omega
/-! claims -/
structure Cl where
  a : Int
  b : Int
  c : Int
  d : Int
deriving DecidableEq
def Cl.z : Cl := ⟨0, 0, 0, 0⟩
def Cl.cells (x : Cl) : List Value := [.int .i64 x.a, .int .i64 x.b, .int .i64 x.c, .int .i64 x.d]
def cls (l : List Cl) : List Value := l.flatMap Cl.cells
theorem cls_length (l : List Cl) : (cls l).length = l.length * 4 := by induction l <;> simp_all [cls, Cl.cells]; omega
theorem cls_one (l : List Cl) : ∀ c ∈ cls l, c.oneCell' = true := by
  intro c hc
  obtain ⟨x, _, hx⟩ := List.mem_flatMap.1 hc
  simp only [Cl.cells, List.mem_cons, List.not_mem_nil, or_false] at hx
  rcases hx with rfl | rfl | rfl | rfl <;> rfl
theorem cls_append (l m : List Cl) : cls (l ++ m) = cls l ++ cls m := by simp [cls]
def inR (z : Int) : Prop := -1099511627776 ≤ z ∧ z ≤ 1099511627776
instance (z : Int) : Decidable (inR z) := by unfold inR; infer_instance
/-- the numbers of a claim are in range -/
def Cl.ok (x : Cl) : Prop := inR x.a ∧ inR x.b ∧ inR x.c ∧ inR x.d
instance (x : Cl) : Decidable x.ok := by unfold Cl.ok; infer_instance
theorem Cl.z_ok : Cl.z.ok := by decide
/-- the four numbers that are written for a claim behind two others -/
def four (last before x : Cl) : List Int := [x.a - 2 * last.a + before.a, (x.b - x.a) - (last.b - last.a), x.c - last.c, (x.d - x.c) - (last.d - last.c)]
def fourB (last before x : Cl) : List Bool := (four last before x).flatMap code
def encC : Cl → Cl → List Cl → List Bool
  | _, _, [] => []
  | last, before, x :: r => fourB last before x ++ encC x last r
def encB (l : List Cl) : List Bool := code l.length ++ encC .z .z l
theorem four_in {last before x : Cl} (h1 : last.ok) (h2 : before.ok) (h3 : x.ok) : ∀ n ∈ four last before x, isI64 n := by
  unfold Cl.ok inR at h1 h2 h3
  intro n hn
  simp only [four, List.mem_cons, List.not_mem_nil, or_false] at hn
  unfold isI64
  rcases hn with rfl | rfl | rfl | rfl <;> omega
theorem fourB_length (last before x : Cl) : (fourB last before x).length ≤ 280 := by
  have h := fun n => code_len n
  simp only [fourB, four, List.flatMap_cons, List.flatMap_nil, List.length_append, List.length_nil]
  have h1 := h (x.a - 2 * last.a + before.a); have h2 := h ((x.b - x.a) - (last.b - last.a)); have h3 := h (x.c - last.c); have h4 := h ((x.d - x.c) - (last.d - last.c))
  omega
theorem encC_length (l : List Cl) : ∀ last before, (encC last before l).length ≤ 280 * l.length := by
  induction l with
  | nil => intro _ _; simp [encC]
  | cons x r ih => intro last before; have := ih x last; have := fourB_length last before x; simp only [encC, List.length_append, List.length_cons]; omega
theorem encB_length (l : List Cl) : (encB l).length ≤ 70 + 280 * l.length := by
  have := encC_length l .z .z; have := code_len (l.length : Int); simp only [encB, List.length_append]; omega
/-- the last claim of a list, and the one before -/
def lastC (l : List Cl) : Cl := (l.getLast?).getD .z
def befC (l : List Cl) : Cl := lastC l.dropLast
theorem lastC_snoc (l : List Cl) (x : Cl) : lastC (l ++ [x]) = x := by simp [lastC]
theorem befC_snoc (l : List Cl) (x : Cl) : befC (l ++ [x]) = lastC l := by simp [befC]
theorem encC_split (l : List Cl) (x : Cl) (r : List Cl) : encC .z .z (l ++ x :: r) = encC .z .z l ++ (fourB (lastC l) (befC l) x ++ encC x (lastC l) r) := by
  have key : ∀ (l pre : List Cl), encC (lastC pre) (befC pre) (l ++ x :: r) = encC (lastC pre) (befC pre) l ++ (fourB (lastC (pre ++ l)) (befC (pre ++ l)) x ++ encC x (lastC (pre ++ l)) r) := by
    intro l
    induction l with
    | nil => intro pre; simp [encC]
    | cons y l ih =>
      intro pre
      have := ih (pre ++ [y])
      rw [lastC_snoc, befC_snoc, List.append_assoc, List.singleton_append] at this
      rw [List.cons_append, encC, encC, this, List.append_assoc]
  exact key l []
theorem lastC_mem {l : List Cl} {P : Cl → Prop} (hz : P .z) (h : ∀ x ∈ l, P x) : P (lastC l) := by
  unfold lastC
  cases hl : l.getLast? with
  | none => exact hz
  | some x => exact h x (List.mem_of_getLast? hl)
theorem befC_mem {l : List Cl} {P : Cl → Prop} (hz : P .z) (h : ∀ x ∈ l, P x) : P (befC l) := lastC_mem hz fun x hx => h x (List.dropLast_subset l hx)
end Go.Proofs.YtgjjdlgbbgijgaaDoor
