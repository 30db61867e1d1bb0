/- Contracts of package hash, and what they compute. -/
import Derived.Test.YtgjjdlgbbgijgaaDoorStr
import Derived.Test.YtgjjdlgbbgijgaaDoorRng
import Derived.Test.YtgjjdlgbbgijgaaDoorBit
import Derived.Test.YtgjjdlgbbgijgaaDoorCut
set_option linter.unusedVariables false
set_option linter.unusedSimpArgs false
namespace Go.Proofs.YtgjjdlgbbgijgaaDoor
open Go.SL
/-! plain -/
def mixV (s w : Nat) : Nat := ((s ^^^ w) * 11400714819323198485 % 18446744073709551616) ^^^ ((s ^^^ w) * 11400714819323198485 % 18446744073709551616 / 4294967296)
theorem foldHi_lt {m : Nat} (h : m < 18446744073709551616) : m ^^^ (m / 4294967296) < 18446744073709551616 :=
  Nat.xor_lt_two_pow (n := 64) h (Nat.lt_of_le_of_lt (Nat.div_le_self _ _) h)
theorem mixV_lt (s w : Nat) : mixV s w < 18446744073709551616 := foldHi_lt (Nat.mod_lt _ (by decide))
theorem foldHi_inv {m : Nat} (h : m < 18446744073709551616) : (m ^^^ (m / 4294967296)) ^^^ ((m ^^^ (m / 4294967296)) / 4294967296) = m := by
  have e : ∀ x : Nat, x / 4294967296 = x >>> 32 := fun x => by rw [Nat.shiftRight_eq_div_pow]
  simp only [e, Nat.shiftRight_xor_distrib, ← Nat.shiftRight_add]
  have h0 : m >>> (32 + 32) = 0 := by rw [Nat.shiftRight_eq_div_pow]; exact Nat.div_eq_of_lt h
  rw [h0, Nat.xor_zero, Nat.xor_assoc, Nat.xor_self, Nat.xor_zero]
theorem foldHi_inj {a b : Nat} (ha : a < 18446744073709551616) (hb : b < 18446744073709551616) (h : a ^^^ (a / 4294967296) = b ^^^ (b / 4294967296)) : a = b := by
  rw [← foldHi_inv ha, h, foldHi_inv hb]
theorem mulF_inj {a b : Nat} (ha : a < 18446744073709551616) (hb : b < 18446744073709551616) (h : a * 11400714819323198485 % 18446744073709551616 = b * 11400714819323198485 % 18446744073709551616) : a = b := by
  have key : ∀ x, x < 18446744073709551616 → x * 11400714819323198485 % 18446744073709551616 * 17428512612931826493 % 18446744073709551616 = x := fun x hx => by
    rw [← Nat.mod_mul_mod, Nat.mod_mod, Nat.mod_mul_mod, Nat.mul_assoc, Nat.mul_mod, show 11400714819323198485 * 17428512612931826493 % 18446744073709551616 = 1 from by decide, Nat.mul_one, Nat.mod_mod, Nat.mod_eq_of_lt hx]
  rw [← key a ha, h, key b hb]
theorem xor_inj_l {a b c : Nat} (h : a ^^^ b = a ^^^ c) : b = c := by
  have := congrArg (a ^^^ ·) h
  simpa [← Nat.xor_assoc] using this
theorem mixV_inj_w {s v w : Nat} (hs : s < 18446744073709551616) (hv : v < 18446744073709551616) (hw : w < 18446744073709551616) (h : mixV s v = mixV s w) : v = w :=
  xor_inj_l (mulF_inj (Nat.xor_lt_two_pow (n := 64) hs hv) (Nat.xor_lt_two_pow (n := 64) hs hw) (foldHi_inj (Nat.mod_lt _ (by decide)) (Nat.mod_lt _ (by decide)) h))
theorem mixV_inj_s {s t w : Nat} (hs : s < 18446744073709551616) (ht : t < 18446744073709551616) (hw : w < 18446744073709551616) (h : mixV s w = mixV t w) : s = t := by
  refine mixV_inj_w hw hs ht ?_
  unfold mixV at *
  rw [Nat.xor_comm w s, Nat.xor_comm w t]; exact h
/-- little-endian -/
def leV : List Int → Nat
  | [] => 0
  | b :: r => b.toNat + 256 * leV r
theorem leV_lt {bs : List Int} (h : ∀ b ∈ bs, isB b) : leV bs < 256 ^ bs.length := by
  induction bs with
  | nil => simp [leV]
  | cons b r ih =>
    have h1 := ih fun x hx => h x (List.mem_cons_of_mem _ hx)
    have h2 := h b (by simp)
    unfold isB at h2
    rw [leV, List.length_cons, Nat.pow_succ]; omega
theorem leV_snoc (bs : List Int) (b : Int) : leV (bs ++ [b]) = b.toNat * 2 ^ (8 * bs.length) + leV bs := by
  induction bs with
  | nil => simp [leV]
  | cons x r ih =>
    rw [List.cons_append, leV, ih, leV, List.length_cons, show 8 * (r.length + 1) = 8 * r.length + 8 by omega, Nat.pow_add]
    rw [show (2 : Nat) ^ 8 = 256 from rfl, Nat.mul_add, ← Nat.mul_assoc, ← Nat.mul_assoc, Nat.mul_comm 256 b.toNat, Nat.mul_comm _ 256, Nat.mul_comm _ 256, Nat.mul_assoc]
    omega
theorem leV_inj : ∀ {xs ys : List Int}, (∀ b ∈ xs, isB b) → (∀ b ∈ ys, isB b) → xs.length = ys.length → leV xs = leV ys → xs = ys
  | [], [], _, _, _, _ => rfl
  | [], _ :: _, _, _, h, _ => by simp at h
  | _ :: _, [], _, _, h, _ => by simp at h
  | x :: xs, y :: ys, hx, hy, hl, h => by
    have h1 := hx x (by simp); have h2 := hy y (by simp)
    unfold isB at h1 h2
    simp only [leV] at h
    have : xs = ys := leV_inj (fun b hb => hx b (List.mem_cons_of_mem _ hb)) (fun b hb => hy b (List.mem_cons_of_mem _ hb)) (by simpa using hl) (by omega)
    rw [this, show x = y by omega]
def wordAt (bs : List Int) (k : Nat) : Nat := leV ((bs.drop (8 * k)).take 8)
def nWords (bs : List Int) : Nat := (bs.length + 7) / 8
def wordsOf (bs : List Int) : List Nat := (List.range (nWords bs)).map (wordAt bs)
theorem wordAt_lt {bs : List Int} (h : ∀ b ∈ bs, isB b) (k : Nat) : wordAt bs k < 18446744073709551616 := by
  have h1 : leV ((bs.drop (8 * k)).take 8) < 256 ^ ((bs.drop (8 * k)).take 8).length := leV_lt fun b hb => h b (List.mem_of_mem_drop (List.mem_of_mem_take hb))
  have h2 : ((bs.drop (8 * k)).take 8).length ≤ 8 := by simp; omega
  exact Nat.lt_of_lt_of_le h1 (Nat.le_trans (Nat.pow_le_pow_right (by decide) h2) (by decide))
def toU (z : Int) : Nat := (z % 18446744073709551616).toNat
theorem toU_lt (z : Int) : toU z < 18446744073709551616 := by unfold toU; omega
theorem toU_wrap (z : Int) : IntKind.u64.wrap z = (toU z : Int) := by rw [wrapU64, toU]; omega
/-- what hash.Sum computes -/
def sumG (mx : Nat → Nat → Nat) (ws : List Nat) (n : Nat) (us : List Nat) : Nat := mx (us.foldl mx (mx (mx (ws.foldl mx 0) n) us.length)) 0
theorem sumG_two (mx : Nat → Nat → Nat) (ws : List Nat) (n a b : Nat) : sumG mx ws n [a, b] = mx (mx (mx (mx (mx (ws.foldl mx 0) n) 2) a) b) 0 := rfl
/-- a name for mixV that no proof looks into -/
def IsMix (mx : Nat → Nat → Nat) : Prop := ∀ s w, mx s w = mixV s w
theorem isMix : ∃ mx, IsMix mx := ⟨mixV, fun _ _ => rfl⟩
theorem IsMix.lt {mx : Nat → Nat → Nat} (h : IsMix mx) (s w : Nat) : mx s w < 18446744073709551616 := by rw [h]; exact mixV_lt s w
def sumV (mx : Nat → Nat → Nat) (lab : List Int) (xs : List Int) : Nat := sumG mx (wordsOf lab) lab.length (xs.map toU)
/-- what hash.Bytes computes -/
def hashV (mx : Nat → Nat → Nat) (lab bs : List Int) : Nat := sumV mx lab ((wordsOf bs).map (fun (m : Nat) => IntKind.i64.wrap (m : Int)) ++ [(bs.length : Int)])
theorem foldl_mix_lt {mx : Nat → Nat → Nat} (hmx : IsMix mx) (ws : List Nat) : ∀ s, s < 18446744073709551616 → ws.foldl mx s < 18446744073709551616 := by
  induction ws with
  | nil => intro s hs; exact hs
  | cons x ws ih => intro s _; exact ih _ (hmx.lt _ _)
theorem toU_i64 (m : Nat) (h : m < 18446744073709551616) : toU (IntKind.i64.wrap (m : Int)) = m := by
  unfold toU; rw [wrapI64]; split <;> omega
theorem words_one {bs : List Int} (h0 : 0 < bs.length) (h8 : bs.length ≤ 8) : wordsOf bs = [leV bs] := by
  unfold wordsOf nWords
  rw [show (bs.length + 7) / 8 = 1 by omega, List.range_succ, List.range_zero]
  simp [wordAt, List.take_of_length_le h8]
theorem leV_64 {bs : List Int} (h : ∀ b ∈ bs, isB b) (h8 : bs.length ≤ 8) : leV bs < 18446744073709551616 :=
  Nat.lt_of_lt_of_le (leV_lt h) (Nat.le_trans (Nat.pow_le_pow_right (by decide) h8) (by decide))
theorem hashV_one {mx : Nat → Nat → Nat} {lab bs : List Int} (h : ∀ b ∈ bs, isB b) (h0 : 0 < bs.length) (h8 : bs.length ≤ 8) : hashV mx lab bs = mx (mx (mx (mx (mx ((wordsOf lab).foldl mx 0) lab.length) 2) (leV bs)) (toU (bs.length : Int))) 0 := by
  rw [hashV, words_one h0 h8, List.map_cons, List.map_nil, List.cons_append, List.nil_append, sumV, List.map_cons, List.map_cons, List.map_nil, sumG_two, toU_i64 _ (leV_64 h h8)]
theorem mix_w {mx : Nat → Nat → Nat} (hmx : IsMix mx) {s v w : Nat} (hs : s < 18446744073709551616) (hv : v < 18446744073709551616) (hw : w < 18446744073709551616) (h : mx s v = mx s w) : v = w := by
  rw [hmx, hmx] at h; exact mixV_inj_w hs hv hw h
theorem mix_s {mx : Nat → Nat → Nat} (hmx : IsMix mx) {s t w : Nat} (hs : s < 18446744073709551616) (ht : t < 18446744073709551616) (hw : w < 18446744073709551616) (h : mx s w = mx t w) : s = t := by
  rw [hmx, hmx] at h; exact mixV_inj_s hs ht hw h
theorem mix3_inj {mx : Nat → Nat → Nat} (hmx : IsMix mx) {S x y l : Nat} (hS : S < 18446744073709551616) (hx : x < 18446744073709551616) (hy : y < 18446744073709551616) (hl : l < 18446744073709551616) (h : mx (mx (mx S x) l) 0 = mx (mx (mx S y) l) 0) : x = y :=
  mix_w hmx hS hx hy (mix_s hmx (hmx.lt _ _) (hmx.lt _ _) hl (mix_s hmx (hmx.lt _ _) (hmx.lt _ _) (Nat.succ_pos _) h))
/-- one word tells the bytes -/
theorem hashV_inj {mx : Nat → Nat → Nat} (hmx : IsMix mx) {lab xs ys : List Int} (hx : ∀ b ∈ xs, isB b) (hy : ∀ b ∈ ys, isB b) (hl : xs.length = ys.length) (h8 : xs.length ≤ 8) : hashV mx lab xs = hashV mx lab ys ↔ xs = ys := by
  constructor
  · intro h
    rcases Nat.eq_zero_or_pos xs.length with h0 | h0
    · rw [List.eq_nil_of_length_eq_zero h0, List.eq_nil_of_length_eq_zero (show ys.length = 0 by omega)]
    · rw [hashV_one hx h0 h8, hashV_one hy (by omega) (by omega), hl] at h
      exact leV_inj hx hy hl (mix3_inj hmx (hmx.lt _ _) (leV_64 hx h8) (leV_64 hy (by omega)) (toU_lt _) h)
  · intro h; rw [h]
/-! walks -/
theorem xor64 (a b : Nat) (ha : a < 18446744073709551616) (hb : b < 18446744073709551616) : IntKind.u64.wrap (((BitVec.ofInt IntKind.u64.bits (a : Int) ^^^ BitVec.ofInt IntKind.u64.bits (b : Int)).toNat : Nat) : Int) = ((a ^^^ b : Nat) : Int) := by
  have h1 : a ^^^ b < 18446744073709551616 := Nat.xor_lt_two_pow (n := 64) ha hb
  rw [bits64, ofInt_nat, ofInt_nat, BitVec.toNat_xor, BitVec.toNat_ofNat, BitVec.toNat_ofNat, Nat.mod_eq_of_lt (show a < 2 ^ 64 by omega), Nat.mod_eq_of_lt (show b < 2 ^ 64 by omega), u64w h1]
theorem mixV_at {s v m : Nat} (h : m = (s ^^^ v) * 11400714819323198485 % 18446744073709551616) : mixV s v = m ^^^ (m / 4294967296) := by rw [mixV, h]
theorem mulU (x m : Nat) (h : m = x * 11400714819323198485 % 18446744073709551616) : IntKind.u64.wrap ((x : Int) * 11400714819323198485) = (m : Int) := by rw [wrapU64, h]; omega
theorem shr32 (m : Nat) : (m : Int).fdiv (2 ^ (min (32 : Int).toNat IntKind.u64.bits)) = ((m / 4294967296 : Nat) : Int) := by
  rw [show (2 : Int) ^ (min (32 : Int).toNat IntKind.u64.bits) = 4294967296 from rfl, Int.fdiv_eq_ediv_of_nonneg _ (by omega)]; omega
theorem mix_ok {mx : Nat → Nat → Nat} (hmx : IsMix mx) (s v : Nat) (w0 : World) (hs : s < 18446744073709551616) (hv : v < 18446744073709551616) : Ret Tryd.prog 62 [.int .u64 (s : Int), .int .u64 (v : Int)].toArray w0 fun r w' => w' = w0 ∧ r = .int .u64 (mx s v : Int) := by
  obtain ⟨m, hmd⟩ : ∃ m, m = (s ^^^ v) * 11400714819323198485 % 18446744073709551616 := ⟨_, rfl⟩
  have hm : m < 18446744073709551616 := by rw [hmd]; exact Nat.mod_lt _ (Nat.succ_pos _)
  have hm2 : m / 4294967296 < 18446744073709551616 := Nat.lt_of_le_of_lt (Nat.div_le_self _ _) hm
  rw [hmx, mixV_at hmd]
  have hmu := mulU _ _ hmd
  clear hmd
  refine Ret_of Tryd.func62 rfl Tryd.ntmps62 rfl ?_
  refine W_seq ?_
  refine W_region ?_
  refine s_assign rfl rfl ?_
  refine WL_nil ?_
  refine n_then ?_
  refine W_seq ?_
  refine W_region ?_
  refine s_move rfl rfl ?_
  refine s_move rfl rfl ?_
  refine s_xor rfl rfl rfl ?_
  rw [xor64 _ _ hs hv]
  refine s_mul rfl rfl rfl ?_
  rw [hmu]
  refine s_assign rfl rfl ?_
  refine WL_nil ?_
  refine n_then ?_
  refine W_seq ?_
  refine W_region ?_
  refine s_move rfl rfl ?_
  refine s_move rfl rfl ?_
  (refine s_shr rfl rfl rfl ?hx ?_; case hx => omega)
  rw [shr32]
  refine s_xor rfl rfl rfl ?_
  rw [xor64 _ _ hm hm2]
  refine s_assign rfl rfl ?_
  refine WL_nil ?_
  refine n_then ?_
  refine W_ret ?_
  exact end1 rfl rfl ⟨rfl, rfl⟩
theorem or8k (p x k : Nat) (hp : p < 2 ^ k) (hx : x < 256) (hk : k + 8 ≤ 64) : IntKind.u64.wrap (((BitVec.ofInt IntKind.u64.bits (p : Int) ||| BitVec.ofInt IntKind.u64.bits ((x * 2 ^ k : Nat) : Int)).toNat : Nat) : Int) = ((x * 2 ^ k + p : Nat) : Int) := by
  refine or_shl p x k hp ?_
  have h1 : x * 2 ^ k + p < 256 * 2 ^ k := by
    have : (x + 1) * 2 ^ k ≤ 256 * 2 ^ k := Nat.mul_le_mul_right _ hx
    rw [Nat.add_mul, Nat.one_mul] at this; omega
  have h2 : 256 * 2 ^ k ≤ 2 ^ 64 := by
    rw [show 256 = 2 ^ 8 from rfl, ← Nat.pow_add]; exact Nat.pow_le_pow_right (by decide) (by omega)
  omega
theorem shl8k (x k : Nat) (hx : x < 256) (hk : k + 8 ≤ 64) : IntKind.u64.wrap ((x : Int) * 2 ^ (min ((k : Nat) : Int).toNat IntKind.u64.bits)) = ((x * 2 ^ k : Nat) : Int) := by
  have h2 : x * 2 ^ k < 18446744073709551616 := by
    have h1 : x * 2 ^ k < 256 * 2 ^ k := Nat.mul_lt_mul_of_pos_right hx (Nat.pow_pos (by decide))
    have h2 : 256 * 2 ^ k ≤ 2 ^ 64 := by
      rw [show 256 = 2 ^ 8 from rfl, ← Nat.pow_add]; exact Nat.pow_le_pow_right (by decide) (by omega)
    omega
  rw [bits64, show min ((k : Nat) : Int).toNat 64 = k by omega, show (x : Int) * 2 ^ k = ((x * 2 ^ k : Nat) : Int) by simp, u64w h2]
theorem take_drop_snoc {bs : List Int} {o d : Nat} {B : Int} (h : bs[o + d]? = some B) : (bs.drop o).take (d + 1) = (bs.drop o).take d ++ [B] := by
  rw [List.take_add_one, List.getElem?_drop, h]; rfl
theorem leV_pre {bs : List Int} (h : ∀ b ∈ bs, isB b) (o d : Nat) : leV ((bs.drop o).take d) < 2 ^ (8 * d) := by
  have h1 : leV ((bs.drop o).take d) < 256 ^ ((bs.drop o).take d).length := leV_lt fun b hb => h b (List.mem_of_mem_drop (List.mem_of_mem_take hb))
  have h2 : ((bs.drop o).take d).length ≤ d := by simp; omega
  have h3 : (256 : Nat) ^ ((bs.drop o).take d).length ≤ 256 ^ d := Nat.pow_le_pow_right (by decide) h2
  rw [show (2 : Nat) ^ (8 * d) = 256 ^ d from by rw [Nat.pow_mul]]
  omega
theorem groupsB_ok (a : Option Addr) (n c : Nat) (w0 : World) : Ret Tryd.prog 50 [.slice a n c].toArray w0 fun r w' => ∃ b, r = .func (.func 60) [].toArray [.pointer (some ⟨b, 0, none⟩)].toArray ∧ St [] w0 w' [(b, Blk 33 [.slice a n c])] := by
  refine Ret_start fun w hs => ?_
  refine Ret_of Tryd.func50 rfl Tryd.ntmps50 rfl ?_
  refine W_seq ?_
  refine W_region ?_
  first | refine s_box rfl rfl hs ?_ | refine s_box1 rfl rfl rfl hs ?_
  clear hs; intro b1 w hs
  refine s_assign rfl rfl ?_
  refine WL_nil ?_
  refine n_then ?_
  refine W_seq ?_
  refine W_region ?_
  refine s_makeFunc rfl rfl rfl ?_
  refine s_assign rfl rfl ?_
  refine WL_nil ?_
  refine n_then ?_
  refine W_ret ?_
  exact end1 rfl rfl ⟨b1, rfl, hs⟩
set_option maxHeartbeats 1000000 in
theorem iterB_ok (lp b : Nat) (a : Option Addr) (c : Nat) (bs : List Int) (hbB : ∀ z ∈ bs, isB z) (hl : bs.length ≤ 4611686018427387904) (I : Nat → World → Prop) (hrd : ∀ i w, I i w → w.cell? ⟨b, 0, none⟩ = some (.slice a bs.length c) ∧ Sl w (.slice a bs.length c) bs.length (u8s bs))
    (round : ∀ k w, 8 * k < bs.length → I k w → YieldAt Fence.wide 0 Tryd.prog lp #[.int .u64 (wordAt bs k : Int)] w (fun e w' => e = .returned (.bool true) ∧ I (k + 1) w')) (w0 : World) (h0 : I 0 w0) :
    Ret Tryd.prog 60 [.func (.yield lp) #[] #[], .pointer (some ⟨b, 0, none⟩)].toArray w0 fun _ w' => I (nWords bs) w' := by
  refine Ret_of Tryd.func60 rfl Tryd.ntmps60 rfl ?_
  refine W_seq ?_
  refine W_region ?_
  refine s_assign rfl rfl ?_
  refine WL_nil ?_
  refine n_then ?_
  refine W_block ?_
  refine W_loop (σ := Nat) (fun k => [(0, .func (.yield lp) #[] #[]), (1, .pointer (some ⟨b, 0, none⟩)), (3, .int .i64 ((8 * k : Nat) : Int))]) (fun k w => I k w ∧ 8 * k < bs.length + 8) (fun k => bs.length + 8 - 8 * k) 0 ⟨rfl, rfl, rfl, trivial⟩ ⟨h0, by omega⟩ ?_
  rintro k w ⟨hI, hk⟩
  refine W_seq ?_
  refine W_seq ?_
  refine W_region ?_
  refine s_move rfl rfl ?_
  first
    | refine s_load Tryd.isAgg33 rfl rfl ((hrd _ _ hI).1) ?_
  refine s_len rfl rfl (LN33 _ _ _ _) ?_
  refine s_lss rfl rfl rfl ?_
  refine WL_nil ?_
  refine n_then ?_
  refine W_cond rfl (fun hc9 => ?_) (fun hc9 => ?_)
  · skip
    try simp only [decide_eq_true_eq, decide_eq_false_iff_not] at hc9
    refine W_skip ?_
    refine n_then ?_
    refine W_seq ?_
    refine W_block ?_
    refine W_seq ?_
    refine W_region ?_
    refine s_assign rfl rfl ?_
    refine WL_nil ?_
    refine n_then ?_
    refine W_seq ?_
    refine W_seq ?_
    refine W_region ?_
    refine s_move rfl rfl ?_
    refine s_assign rfl rfl ?_
    refine WL_nil ?_
    refine n_then ?_
    refine W_block ?_
    refine W_loop (σ := Nat) (fun d => [(0, .func (.yield lp) #[] #[]), (1, .pointer (some ⟨b, 0, none⟩)), (3, .int .i64 ((8 * k : Nat) : Int)), (4, .int .u64 (leV ((bs.drop (8 * k)).take d) : Int)), (5, .int .i64 ((8 * k + d : Nat) : Int))]) (fun d w' => w' = w ∧ d ≤ 8 ∧ 8 * k + d ≤ bs.length) (fun d => 8 - d) 0 ⟨rfl, rfl, rfl, rfl, rfl, trivial⟩ ⟨rfl, by omega, by omega⟩ ?_
    rintro d w1 ⟨hw1, hd8, hdl⟩
    rw [hw1]; clear hw1 w1
    refine W_seq ?_
    refine W_seq ?_
    refine W_region ?_
    refine s_move rfl rfl ?_
    first
      | refine s_load Tryd.isAgg33 rfl rfl ((hrd _ _ hI).1) ?_
    refine s_len rfl rfl (LN33 _ _ _ _) ?_
    refine s_lss rfl rfl rfl ?_
    refine s_move rfl rfl ?_
    refine WL_case (s := 17) rfl (fun hg17 => ?_) (fun hg17 => ?_)
    · skip
      try simp only [decide_eq_true_eq, decide_eq_false_iff_not] at hg17
      refine WL_take rfl ?_
      refine s_move rfl rfl ?_
      refine WL_take rfl ?_
      refine s_move rfl rfl ?_
      refine WL_take rfl ?_
      first | (refine s_add' rfl rfl rfl ?hx ?_; case hx => (constructor <;> first | omega | (simp only; omega))) | refine s_add rfl rfl rfl ?_
      refine WL_take rfl ?_
      refine s_lss rfl rfl rfl ?_
      refine s_pick_t rfl rfl rfl ?_
      refine WL_nil ?_
      refine n_then ?_
      refine W_cond rfl (fun hc22 => ?_) (fun hc22 => ?_)
      · skip
        try simp only [decide_eq_true_eq, decide_eq_false_iff_not] at hc22
        have hix : 8 * k + d < bs.length := by omega
        obtain ⟨B, hB, hB2⟩ : ∃ B : Nat, bs[8 * k + d]? = some (B : Int) ∧ B < 256 := by
          have h1 := hbB _ (List.getElem_mem hix)
          refine ⟨bs[8 * k + d].toNat, by rw [List.getElem?_eq_getElem hix]; unfold isB at h1; congr 1; omega, by unfold isB at h1; omega⟩
        obtain ⟨b1, o1, hA1, hc1⟩ := (hrd _ _ hI).2.at (k := 8 * k + d) (u := .int .u8 (B : Int)) (by simp [u8s, hB])
        have hpre := leV_pre hbB (8 * k) d
        have hsn : leV ((bs.drop (8 * k)).take (d + 1)) = B * 2 ^ (8 * d) + leV ((bs.drop (8 * k)).take d) := by
          rw [take_drop_snoc hB, leV_snoc, List.length_take, List.length_drop, show min d (bs.length - 8 * k) = d by omega]; simp
        refine W_skip ?_
        refine n_then ?_
        refine W_seq ?_
        refine W_block ?_
        refine W_region ?_
        refine s_move rfl rfl ?_
        first
          | refine s_load Tryd.isAgg33 rfl rfl ((hrd _ _ hI).1) ?_
        refine s_move rfl rfl ?_
        (refine s_indexAddrO El33 rfl rfl rfl hA1 ?hx ?_; case hx => (constructor <;> omega))
        refine s_load Tryd.isAgg5 rfl rfl hc1 ?_
        refine s_convert rfl rfl (CV5_64 _) ?_
        rw [IntWalk.u64_in _ (by omega)]
        refine s_move rfl rfl ?_
        refine s_move rfl rfl ?_
        (refine s_sub' rfl rfl rfl ?hx ?_; case hx => (constructor <;> omega))
        rw [show ((8 * k + d : Nat) : Int) - ((8 * k : Nat) : Int) = (d : Int) from by omega]
        refine s_convert rfl rfl (CV3_67 _) ?_
        rw [IntWalk.u64_in _ (by omega)]
        refine s_mul rfl rfl rfl ?_
        rw [IntWalk.u64_in _ (by omega), show (8 : Int) * (d : Int) = ((8 * d : Nat) : Int) from by omega]
        (refine s_shl rfl rfl rfl ?hx ?_; case hx => omega)
        rw [shl8k B (8 * d) hB2 (by omega)]
        refine s_or rfl rfl rfl ?_
        rw [or8k _ B (8 * d) hpre hB2 (by omega), ← hsn]
        refine s_assign rfl rfl ?_
        refine WL_nil ?_
        refine n_blk ?_
        refine n_then ?_
        refine W_region ?_
        refine s_move rfl rfl ?_
        (refine s_add' rfl rfl rfl ?hx ?_; case hx => (constructor <;> omega))
        rw [show ((8 * k + d : Nat) : Int) + 1 = ((8 * k + (d + 1) : Nat) : Int) from by omega]
        refine s_assign rfl rfl ?_
        refine WL_nil ?_
        refine n_loop ?_
        exact ⟨d + 1, ⟨rfl, rfl, rfl, rfl, rfl, trivial⟩, ⟨rfl, by omega, by omega⟩, by omega⟩
      · skip
        try simp only [decide_eq_true_eq, decide_eq_false_iff_not] at hc22
        refine W_exit ?_
        refine x_then ?_
        refine x_then ?_
        refine exit_hit ?_
        refine n_then ?_
        refine W_seq ?_
        refine I_region ?_
        refine I_step rfl ?_
        have hwd : leV ((bs.drop (8 * k)).take d) = wordAt bs k := by
          unfold wordAt
          rcases Nat.lt_or_ge d 8 with h | h
          · rw [List.take_of_length_le (by simp; omega), List.take_of_length_le (by simp; omega)]
          · rw [show d = 8 by omega]
        rw [hwd]
        refine s_move rfl rfl ?_
        refine I_next ?_
        refine I_step rfl ?_
        refine s_move rfl rfl ?_
        refine I_next ?_
        refine I_yield (R := fun w' => I (k + 1) w') rfl rfl rfl (round k w (by omega) hI) ?_
        clear hI; intro w hI
        refine I_step rfl ?_
        refine s_not rfl rfl ?_
        refine I_next ?_
        refine I_nil ?_
        refine n_then ?_
        refine W_cond_f rfl ?_
        refine W_skip ?_
        refine n_blk ?_
        refine n_then ?_
        refine W_region ?_
        refine s_move rfl rfl ?_
        (refine s_add' rfl rfl rfl ?hx ?_; case hx => (constructor <;> omega))
        rw [show ((8 * k : Nat) : Int) + 8 = ((8 * (k + 1) : Nat) : Int) from by omega]
        refine s_assign rfl rfl ?_
        refine WL_nil ?_
        refine n_loop ?_
        exact ⟨k + 1, ⟨rfl, rfl, rfl, trivial⟩, ⟨hI, by omega⟩, by omega⟩
    · skip
      try simp only [decide_eq_true_eq, decide_eq_false_iff_not] at hg17
      refine WL_skip rfl rfl rfl ?_
      refine WL_skip rfl rfl rfl ?_
      refine WL_skip rfl rfl rfl ?_
      refine WL_skip rfl rfl rfl ?_
      refine s_pick_f rfl rfl rfl ?_
      refine WL_nil ?_
      refine n_then ?_
      refine W_cond_f rfl ?_
      refine W_exit ?_
      refine x_then ?_
      refine x_then ?_
      refine exit_hit ?_
      refine n_then ?_
      refine W_seq ?_
      refine I_region ?_
      refine I_step rfl ?_
      have hwd : leV ((bs.drop (8 * k)).take d) = wordAt bs k := by
        unfold wordAt
        rcases Nat.lt_or_ge d 8 with h | h
        · rw [List.take_of_length_le (by simp; omega), List.take_of_length_le (by simp; omega)]
        · rw [show d = 8 by omega]
      rw [hwd]
      refine s_move rfl rfl ?_
      refine I_next ?_
      refine I_step rfl ?_
      refine s_move rfl rfl ?_
      refine I_next ?_
      refine I_yield (R := fun w' => I (k + 1) w') rfl rfl rfl (round k w (by omega) hI) ?_
      clear hI; intro w hI
      refine I_step rfl ?_
      refine s_not rfl rfl ?_
      refine I_next ?_
      refine I_nil ?_
      refine n_then ?_
      refine W_cond_f rfl ?_
      refine W_skip ?_
      refine n_blk ?_
      refine n_then ?_
      refine W_region ?_
      refine s_move rfl rfl ?_
      (refine s_add' rfl rfl rfl ?hx ?_; case hx => (constructor <;> omega))
      rw [show ((8 * k : Nat) : Int) + 8 = ((8 * (k + 1) : Nat) : Int) from by omega]
      refine s_assign rfl rfl ?_
      refine WL_nil ?_
      refine n_loop ?_
      exact ⟨k + 1, ⟨rfl, rfl, rfl, trivial⟩, ⟨hI, by omega⟩, by omega⟩
  · skip
    try simp only [decide_eq_true_eq, decide_eq_false_iff_not] at hc9
    refine W_exit ?_
    refine x_then ?_
    refine x_then ?_
    refine exit_hit ?_
    have hkn : k = nWords bs := by unfold nWords; omega
    rw [hkn] at hI
    exact end0' rfl hI
theorem bytesOf_at {s : ByteArray} {i : Nat} (h : i < s.size) : (bytesOf s)[i]? = some (((s[i]'h).toNat : Nat) : Int) := by
  unfold bytesOf
  rw [List.getElem?_map, List.getElem?_eq_getElem (by rw [Array.length_toList]; exact h)]
  rfl
theorem groupsS_ok (s : ByteArray) (w0 : World) : Ret Tryd.prog 61 [.string s].toArray w0 fun r w' => ∃ b, r = .func (.func 64) [].toArray [.pointer (some ⟨b, 0, none⟩)].toArray ∧ St [] w0 w' [(b, Blk 9 [.string s])] := by
  refine Ret_start fun w hs => ?_
  refine Ret_of Tryd.func61 rfl Tryd.ntmps61 rfl ?_
  refine W_seq ?_
  refine W_region ?_
  first | refine s_box rfl rfl hs ?_ | refine s_box1 rfl rfl rfl hs ?_
  clear hs; intro b1 w hs
  refine s_assign rfl rfl ?_
  refine WL_nil ?_
  refine n_then ?_
  refine W_seq ?_
  refine W_region ?_
  refine s_makeFunc rfl rfl rfl ?_
  refine s_assign rfl rfl ?_
  refine WL_nil ?_
  refine n_then ?_
  refine W_ret ?_
  exact end1 rfl rfl ⟨b1, rfl, hs⟩
set_option maxHeartbeats 1000000 in
theorem iterS_ok (lp b : Nat) (s : ByteArray) (bs : List Int) (hbs : bytesOf s = bs) (hl : bs.length ≤ 4611686018427387904) (I : Nat → World → Prop) (hrd : ∀ i w, I i w → w.cell? ⟨b, 0, none⟩ = some (.string s))
    (round : ∀ k w, 8 * k < bs.length → I k w → YieldAt Fence.wide 0 Tryd.prog lp #[.int .u64 (wordAt bs k : Int)] w (fun e w' => e = .returned (.bool true) ∧ I (k + 1) w')) (w0 : World) (h0 : I 0 w0) :
    Ret Tryd.prog 64 [.func (.yield lp) #[] #[], .pointer (some ⟨b, 0, none⟩)].toArray w0 fun _ w' => I (nWords bs) w' := by
  have hbB : ∀ z ∈ bs, isB z := hbs ▸ bytesOf_isB s
  have hsz : s.size = bs.length := by rw [← hbs, bytesOf_length]
  refine Ret_of Tryd.func64 rfl Tryd.ntmps64 rfl ?_
  refine W_seq ?_
  refine W_region ?_
  refine s_assign rfl rfl ?_
  refine WL_nil ?_
  refine n_then ?_
  refine W_block ?_
  refine W_loop (σ := Nat) (fun k => [(0, .func (.yield lp) #[] #[]), (1, .pointer (some ⟨b, 0, none⟩)), (3, .int .i64 ((8 * k : Nat) : Int))]) (fun k w => I k w ∧ 8 * k < bs.length + 8) (fun k => bs.length + 8 - 8 * k) 0 ⟨rfl, rfl, rfl, trivial⟩ ⟨h0, by omega⟩ ?_
  rintro k w ⟨hI, hk⟩
  refine W_seq ?_
  refine W_seq ?_
  refine W_region ?_
  refine s_move rfl rfl ?_
  first
    | refine s_load Tryd.isAgg9 rfl rfl (hrd _ _ hI) ?_
  refine s_len rfl rfl (LN9 _ _) ?_
  refine s_lss rfl rfl rfl ?_
  refine WL_nil ?_
  refine n_then ?_
  refine W_cond rfl (fun hc9 => ?_) (fun hc9 => ?_)
  · skip
    try simp only [decide_eq_true_eq, decide_eq_false_iff_not] at hc9
    refine W_skip ?_
    refine n_then ?_
    refine W_seq ?_
    refine W_block ?_
    refine W_seq ?_
    refine W_region ?_
    refine s_assign rfl rfl ?_
    refine WL_nil ?_
    refine n_then ?_
    refine W_seq ?_
    refine W_seq ?_
    refine W_region ?_
    refine s_move rfl rfl ?_
    refine s_assign rfl rfl ?_
    refine WL_nil ?_
    refine n_then ?_
    refine W_block ?_
    refine W_loop (σ := Nat) (fun d => [(0, .func (.yield lp) #[] #[]), (1, .pointer (some ⟨b, 0, none⟩)), (3, .int .i64 ((8 * k : Nat) : Int)), (4, .int .u64 (leV ((bs.drop (8 * k)).take d) : Int)), (5, .int .i64 ((8 * k + d : Nat) : Int))]) (fun d w' => w' = w ∧ d ≤ 8 ∧ 8 * k + d ≤ bs.length) (fun d => 8 - d) 0 ⟨rfl, rfl, rfl, rfl, rfl, trivial⟩ ⟨rfl, by omega, by omega⟩ ?_
    rintro d w1 ⟨hw1, hd8, hdl⟩
    rw [hw1]; clear hw1 w1
    refine W_seq ?_
    refine W_seq ?_
    refine W_region ?_
    refine s_move rfl rfl ?_
    first
      | refine s_load Tryd.isAgg9 rfl rfl (hrd _ _ hI) ?_
    refine s_len rfl rfl (LN9 _ _) ?_
    refine s_lss rfl rfl rfl ?_
    refine s_move rfl rfl ?_
    refine WL_case (s := 17) rfl (fun hg17 => ?_) (fun hg17 => ?_)
    · skip
      try simp only [decide_eq_true_eq, decide_eq_false_iff_not] at hg17
      refine WL_take rfl ?_
      refine s_move rfl rfl ?_
      refine WL_take rfl ?_
      refine s_move rfl rfl ?_
      refine WL_take rfl ?_
      first | (refine s_add' rfl rfl rfl ?hx ?_; case hx => (constructor <;> first | omega | (simp only; omega))) | refine s_add rfl rfl rfl ?_
      refine WL_take rfl ?_
      refine s_lss rfl rfl rfl ?_
      refine s_pick_t rfl rfl rfl ?_
      refine WL_nil ?_
      refine n_then ?_
      refine W_cond rfl (fun hc22 => ?_) (fun hc22 => ?_)
      · skip
        try simp only [decide_eq_true_eq, decide_eq_false_iff_not] at hc22
        have hix : 8 * k + d < bs.length := by omega
        have hix2 : 8 * k + d < s.size := by omega
        obtain ⟨B, hB3⟩ : ∃ B : Nat, (s[8 * k + d]'hix2).toNat = B := ⟨_, rfl⟩
        have hB : bs[8 * k + d]? = some (B : Int) := by rw [← hbs, bytesOf_at hix2, hB3]
        have hB2 : B < 256 := by rw [← hB3]; exact (s[8 * k + d]'hix2).toNat_lt
        have hpre := leV_pre hbB (8 * k) d
        have hsn : leV ((bs.drop (8 * k)).take (d + 1)) = B * 2 ^ (8 * d) + leV ((bs.drop (8 * k)).take d) := by
          rw [take_drop_snoc hB, leV_snoc, List.length_take, List.length_drop, show min d (bs.length - 8 * k) = d by omega]; simp
        refine W_skip ?_
        refine n_then ?_
        refine W_seq ?_
        refine W_block ?_
        refine W_region ?_
        refine s_move rfl rfl ?_
        first
          | refine s_load Tryd.isAgg9 rfl rfl (hrd _ _ hI) ?_
        refine s_move rfl rfl ?_
        refine s_index_S Tryd.underlying9 rfl rfl rfl hix2 hB3 ?_
        refine s_convert rfl rfl (CV5_64 _) ?_
        rw [IntWalk.u64_in _ (by omega)]
        refine s_move rfl rfl ?_
        refine s_move rfl rfl ?_
        (refine s_sub' rfl rfl rfl ?hx ?_; case hx => (constructor <;> omega))
        rw [show ((8 * k + d : Nat) : Int) - ((8 * k : Nat) : Int) = (d : Int) from by omega]
        refine s_convert rfl rfl (CV3_67 _) ?_
        rw [IntWalk.u64_in _ (by omega)]
        refine s_mul rfl rfl rfl ?_
        rw [IntWalk.u64_in _ (by omega), show (8 : Int) * (d : Int) = ((8 * d : Nat) : Int) from by omega]
        (refine s_shl rfl rfl rfl ?hx ?_; case hx => omega)
        rw [shl8k B (8 * d) hB2 (by omega)]
        refine s_or rfl rfl rfl ?_
        rw [or8k _ B (8 * d) hpre hB2 (by omega), ← hsn]
        refine s_assign rfl rfl ?_
        refine WL_nil ?_
        refine n_blk ?_
        refine n_then ?_
        refine W_region ?_
        refine s_move rfl rfl ?_
        (refine s_add' rfl rfl rfl ?hx ?_; case hx => (constructor <;> omega))
        rw [show ((8 * k + d : Nat) : Int) + 1 = ((8 * k + (d + 1) : Nat) : Int) from by omega]
        refine s_assign rfl rfl ?_
        refine WL_nil ?_
        refine n_loop ?_
        exact ⟨d + 1, ⟨rfl, rfl, rfl, rfl, rfl, trivial⟩, ⟨rfl, by omega, by omega⟩, by omega⟩
      · skip
        try simp only [decide_eq_true_eq, decide_eq_false_iff_not] at hc22
        refine W_exit ?_
        refine x_then ?_
        refine x_then ?_
        refine exit_hit ?_
        refine n_then ?_
        refine W_seq ?_
        refine I_region ?_
        refine I_step rfl ?_
        have hwd : leV ((bs.drop (8 * k)).take d) = wordAt bs k := by
          unfold wordAt
          rcases Nat.lt_or_ge d 8 with h | h
          · rw [List.take_of_length_le (by simp; omega), List.take_of_length_le (by simp; omega)]
          · rw [show d = 8 by omega]
        rw [hwd]
        refine s_move rfl rfl ?_
        refine I_next ?_
        refine I_step rfl ?_
        refine s_move rfl rfl ?_
        refine I_next ?_
        refine I_yield (R := fun w' => I (k + 1) w') rfl rfl rfl (round k w (by omega) hI) ?_
        clear hI; intro w hI
        refine I_step rfl ?_
        refine s_not rfl rfl ?_
        refine I_next ?_
        refine I_nil ?_
        refine n_then ?_
        refine W_cond_f rfl ?_
        refine W_skip ?_
        refine n_blk ?_
        refine n_then ?_
        refine W_region ?_
        refine s_move rfl rfl ?_
        (refine s_add' rfl rfl rfl ?hx ?_; case hx => (constructor <;> omega))
        rw [show ((8 * k : Nat) : Int) + 8 = ((8 * (k + 1) : Nat) : Int) from by omega]
        refine s_assign rfl rfl ?_
        refine WL_nil ?_
        refine n_loop ?_
        exact ⟨k + 1, ⟨rfl, rfl, rfl, trivial⟩, ⟨hI, by omega⟩, by omega⟩
    · skip
      try simp only [decide_eq_true_eq, decide_eq_false_iff_not] at hg17
      refine WL_skip rfl rfl rfl ?_
      refine WL_skip rfl rfl rfl ?_
      refine WL_skip rfl rfl rfl ?_
      refine WL_skip rfl rfl rfl ?_
      refine s_pick_f rfl rfl rfl ?_
      refine WL_nil ?_
      refine n_then ?_
      refine W_cond_f rfl ?_
      refine W_exit ?_
      refine x_then ?_
      refine x_then ?_
      refine exit_hit ?_
      refine n_then ?_
      refine W_seq ?_
      refine I_region ?_
      refine I_step rfl ?_
      have hwd : leV ((bs.drop (8 * k)).take d) = wordAt bs k := by
        unfold wordAt
        rcases Nat.lt_or_ge d 8 with h | h
        · rw [List.take_of_length_le (by simp; omega), List.take_of_length_le (by simp; omega)]
        · rw [show d = 8 by omega]
      rw [hwd]
      refine s_move rfl rfl ?_
      refine I_next ?_
      refine I_step rfl ?_
      refine s_move rfl rfl ?_
      refine I_next ?_
      refine I_yield (R := fun w' => I (k + 1) w') rfl rfl rfl (round k w (by omega) hI) ?_
      clear hI; intro w hI
      refine I_step rfl ?_
      refine s_not rfl rfl ?_
      refine I_next ?_
      refine I_nil ?_
      refine n_then ?_
      refine W_cond_f rfl ?_
      refine W_skip ?_
      refine n_blk ?_
      refine n_then ?_
      refine W_region ?_
      refine s_move rfl rfl ?_
      (refine s_add' rfl rfl rfl ?hx ?_; case hx => (constructor <;> omega))
      rw [show ((8 * k : Nat) : Int) + 8 = ((8 * (k + 1) : Nat) : Int) from by omega]
      refine s_assign rfl rfl ?_
      refine WL_nil ?_
      refine n_loop ?_
      exact ⟨k + 1, ⟨rfl, rfl, rfl, trivial⟩, ⟨hI, by omega⟩, by omega⟩
  · skip
    try simp only [decide_eq_true_eq, decide_eq_false_iff_not] at hc9
    refine W_exit ?_
    refine x_then ?_
    refine x_then ?_
    refine exit_hit ?_
    have hkn : k = nWords bs := by unfold nWords; omega
    rw [hkn] at hI
    exact end0' rfl hI
/-! Sum -/
theorem fold_take {α β : Type} (f : β → α → β) (z : β) {xs : List α} {k : Nat} {x : α} (h : xs[k]? = some x) : (xs.take (k + 1)).foldl f z = f ((xs.take k).foldl f z) x := by
  rw [List.take_add_one, h, List.foldl_append]; rfl
theorem wordsOf_at {bs : List Int} {k : Nat} (h : 8 * k < bs.length) : (wordsOf bs)[k]? = some (wordAt bs k) := by
  unfold wordsOf nWords
  rw [List.getElem?_map, List.getElem?_range (by omega)]; rfl
theorem wordsOf_length (bs : List Int) : (wordsOf bs).length = nWords bs := by simp [wordsOf]
theorem sumV_of {mixV : Nat → Nat → Nat} {lab xs : List Int} {S0 S1 S2 S3 : Nat} (h0 : (wordsOf lab).foldl mixV 0 = S0) (h1 : mixV S0 lab.length = S1) (h2 : mixV S1 xs.length = S2) (h3 : (xs.map toU).foldl mixV S2 = S3) : mixV S3 0 = sumV mixV lab xs := by
  rw [sumV, sumG, List.length_map, h0, h1, h2, h3]
set_option maxHeartbeats 1000000 in
theorem sum_ok {mx : Nat → Nat → Nat} (hmx : IsMix mx) (s : ByteArray) (v : Value) (xs : List Int) (w0 : World) (hv : Sl w0 v xs.length (i64s xs)) (hsz : s.size ≤ 4611686018427387904) (hl : xs.length ≤ 4611686018427387904) :
    Ret Tryd.prog 51 [.string s, v].toArray w0 fun r w' => Fwd [] w0 w' ∧ r = .int .u64 (sumV mx (bytesOf s) xs : Int) := by
  obtain ⟨a, c, rfl, hac⟩ := hv.len_le
  have hbl := bytesOf_length s
  generalize hlab : bytesOf s = lab at hbl
  have hlb : ∀ z ∈ lab, isB z := hlab ▸ bytesOf_isB s
  refine Ret_start fun w hs => ?_
  refine Ret_ofM Tryd.func51 rfl Tryd.ntmps51 rfl ?_
  refine M_seq ?_
  refine M_W ?_
  refine W_region ?_
  refine s_assign rfl rfl ?_
  refine WL_nil ?_
  refine n_loop ?_
  refine M_seq ?_
  refine M_W ?_
  refine W_region ?_
  refine s_alloc rfl AL64 hs ?_; clear hs; intro b5 w hs
  refine WL_nil ?_
  refine n_loop ?_
  refine M_seq ?_
  refine M_seq ?_
  refine M_W ?_
  refine W_region ?_
  refine s_move rfl rfl ?_
  refine s_call Tryd.call61 rfl rfl (groupsS_ok s w) ?_
  rintro r w ⟨bq, rfl, hst⟩
  replace hs := St.back0 hs hst
  clear hst
  simp only [List.cons_append, List.nil_append] at hs
  refine WL_nil ?_
  refine n_loop ?_
  refine M_block ?_
  refine M_range Tryd.call64 rfl hs ?_
  clear hs; intro fn tm D w asg bo has hbo hA hs
  refine Ret.mono (iterS_ok (D + 1) bq s lab hlab (by omega) (fun k w => St [] w0 w ((D + 1, .loop (lrec .ready fn tm #[11] asg bo D)) :: (D, .deferred (some [])) :: (bq, Blk 9 [.string s]) :: (b5, Blk 64 [.int .u64 (((wordsOf lab).take k).foldl mx 0 : Nat)]) :: [])) ?hrd ?round w ?h0) ?next
  case hrd => intro i w hs; exact hs.cell (k := 2) rfl rfl
  case h0 => exact hs
  case round =>
    clear hs; intro k w hk hs
    have hS := foldl_mix_lt hmx ((wordsOf lab).take k) 0 (by decide)
    have hwl := wordAt_lt hlb k
    have hft := fold_take mx 0 (wordsOf_at hk)
    generalize ((wordsOf lab).take k).foldl mx 0 = S at hs hS hft
    generalize wordAt lab k = wd at hwl hft
    refine round_St hs rfl hA ?_
    refine R_eq has ?_
    refine R_region rfl ?_
    refine s_assign rfl rfl ?_
    refine WL_nil ?_
    refine q_n ?_
    refine ⟨hs, ?_⟩; clear hs; intro w hs
    refine R_eq hbo ?_
    refine R_block ?_
    refine R_region rfl ?_
    first
      | refine s_load Tryd.isAgg64 rfl rfl (hs.cell (k := 0) rfl rfl) ?_
      | refine s_load Tryd.isAgg64 rfl rfl (hs.cell (k := 1) rfl rfl) ?_
      | refine s_load Tryd.isAgg64 rfl rfl (hs.cell (k := 2) rfl rfl) ?_
      | refine s_load Tryd.isAgg64 rfl rfl (hs.cell (k := 3) rfl rfl) ?_
    refine s_move rfl rfl ?_
    refine s_call Tryd.call62 rfl rfl (mix_ok hmx S wd w hS hwl) ?_
    rintro r w1 ⟨hw1, rfl⟩
    rw [hw1]; clear hw1 w1
    first
      | refine s_storeB Tryd.sizeOf64 rfl rfl rfl hs (kk := 0) rfl rfl ?_
      | refine s_storeB Tryd.sizeOf64 rfl rfl rfl hs (kk := 1) rfl rfl ?_
      | refine s_storeB Tryd.sizeOf64 rfl rfl rfl hs (kk := 2) rfl rfl ?_
      | refine s_storeB Tryd.sizeOf64 rfl rfl rfl hs (kk := 3) rfl rfl ?_
    clear hs; intro w hs; try simp only [List.set_cons_zero, List.set_cons_succ, splice, List.take_succ_cons, List.take_zero, List.drop_succ_cons, List.drop_zero, List.nil_append, List.cons_append, List.length_cons, List.length_nil, Nat.reduceAdd, List.append_assoc] at hs
    refine WL_nil ?_
    refine q_n ?_
    exact ⟨_, hs, fun w hs => by rw [hft]; exact hs⟩
  case next =>
    intro _ w hs
    rw [List.take_of_length_le (by rw [wordsOf_length]; exact Nat.le_refl _)] at hs
    have hS0l := foldl_mix_lt hmx (wordsOf lab) 0 (by decide)
    generalize hS0 : (wordsOf lab).foldl mx 0 = S0 at hs hS0l
    refine ⟨_, hs, ?_⟩
    clear hs; intro w hs
    refine n_blk ?_
    refine n_loop ?_
    refine M_W ?_
    refine W_seq ?_
    refine W_region ?_
    first
      | refine s_load Tryd.isAgg64 rfl rfl (hs.cell (k := 0) rfl rfl) ?_
      | refine s_load Tryd.isAgg64 rfl rfl (hs.cell (k := 1) rfl rfl) ?_
      | refine s_load Tryd.isAgg64 rfl rfl (hs.cell (k := 2) rfl rfl) ?_
      | refine s_load Tryd.isAgg64 rfl rfl (hs.cell (k := 3) rfl rfl) ?_
    refine s_move rfl rfl ?_
    refine s_len rfl rfl (LN9 _ _) ?_
    refine s_convert rfl rfl (CV3_64 _) ?_
    rw [IntWalk.u64_in _ (by omega), ← hbl]
    refine s_call Tryd.call62 rfl rfl (mix_ok hmx S0 lab.length w hS0l (by omega)) ?_
    rintro r w1 ⟨hw1, rfl⟩
    rw [hw1]; clear hw1 w1
    first
      | refine s_storeB Tryd.sizeOf64 rfl rfl rfl hs (kk := 0) rfl rfl ?_
      | refine s_storeB Tryd.sizeOf64 rfl rfl rfl hs (kk := 1) rfl rfl ?_
      | refine s_storeB Tryd.sizeOf64 rfl rfl rfl hs (kk := 2) rfl rfl ?_
      | refine s_storeB Tryd.sizeOf64 rfl rfl rfl hs (kk := 3) rfl rfl ?_
    clear hs; intro w hs; try simp only [List.set_cons_zero, List.set_cons_succ, splice, List.take_succ_cons, List.take_zero, List.drop_succ_cons, List.drop_zero, List.nil_append, List.cons_append, List.length_cons, List.length_nil, Nat.reduceAdd, List.append_assoc] at hs
    refine WL_nil ?_
    refine n_then ?_
    refine W_seq ?_
    refine W_region ?_
    have hS1l := hmx.lt S0 lab.length
    generalize hS1 : mx S0 lab.length = S1 at hs hS1l
    refine s_load Tryd.isAgg64 rfl rfl (hs.cell (k := 2) rfl rfl) ?_
    refine s_move rfl rfl ?_
    refine s_len rfl rfl (LN22 _ _ _ _) ?_
    refine s_convert rfl rfl (CV3_64 _) ?_
    rw [IntWalk.u64_in _ (by omega)]
    refine s_call Tryd.call62 rfl rfl (mix_ok hmx S1 xs.length w hS1l (by omega)) ?_
    rintro r w1 ⟨hw1, rfl⟩
    rw [hw1]; clear hw1 w1
    first
      | refine s_storeB Tryd.sizeOf64 rfl rfl rfl hs (kk := 0) rfl rfl ?_
      | refine s_storeB Tryd.sizeOf64 rfl rfl rfl hs (kk := 1) rfl rfl ?_
      | refine s_storeB Tryd.sizeOf64 rfl rfl rfl hs (kk := 2) rfl rfl ?_
      | refine s_storeB Tryd.sizeOf64 rfl rfl rfl hs (kk := 3) rfl rfl ?_
    clear hs; intro w hs; try simp only [List.set_cons_zero, List.set_cons_succ, splice, List.take_succ_cons, List.take_zero, List.drop_succ_cons, List.drop_zero, List.nil_append, List.cons_append, List.length_cons, List.length_nil, Nat.reduceAdd, List.append_assoc] at hs
    refine WL_nil ?_
    refine n_then ?_
    refine W_seq ?_
    refine W_seq ?_
    refine W_region ?_
    refine s_move rfl rfl ?_
    refine s_len rfl rfl (LN22 _ _ _ _) ?_
    refine s_move rfl rfl ?_
    refine WL_nil ?_
    refine n_then ?_
    refine W_block ?_
    have hS2l := hmx.lt S1 xs.length
    generalize hS2 : mx S1 xs.length = S2 at hs hS2l
    refine W_loop (σ := Nat) (fun i => [(5, .pointer (some ⟨b5, 0, none⟩)), (25, .slice a xs.length c), (26, .int .i64 (xs.length : Int)), (27, .int .i64 (i : Int))]) (fun i w => St [] w0 w ((D, .deferred (some [])) :: (bq, Blk 9 [.string s]) :: (b5, Blk 64 [.int .u64 (((xs.map toU).take i).foldl mx S2 : Nat)]) :: []) ∧ i ≤ xs.length) (fun i => xs.length - i) 0 ⟨rfl, rfl, rfl, rfl, trivial⟩ ⟨hs, Nat.zero_le _⟩ ?_
    clear hs
    rintro i w ⟨hs, hi⟩
    have hSk := foldl_mix_lt hmx ((xs.map toU).take i) S2 hS2l
    refine W_seq ?_
    refine W_region ?_
    refine s_lss rfl rfl rfl ?_
    refine WL_nil ?_
    refine n_then ?_
    refine W_seq ?_
    refine W_cond rfl (fun hc28 => ?_) (fun hc28 => ?_)
    · skip
      try simp only [decide_eq_true_eq, decide_eq_false_iff_not] at hc28
      have hix : i < xs.length := by omega
      obtain ⟨b1, o1, hA1, hc1⟩ := hv.at (k := i) (i64s_at' hix)
      have hB1 : b1 < w0.heap.size := World.block_lt_of_cell? w0 _ hc1
      have hft := fold_take mx S2 (xs := xs.map toU) (k := i) (x := toU (xs.getD i 0)) (by simp [hix])
      generalize xs.getD i 0 = z at hc1 hft
      generalize ((xs.map toU).take i).foldl mx S2 = Sk at hs hSk hft
      refine W_skip ?_
      refine n_then ?_
      refine W_seq ?_
      refine W_block ?_
      refine W_seq ?_
      refine W_region ?_
      (refine s_indexAddrO El22 rfl rfl rfl hA1 ?hx ?_; case hx => (constructor <;> omega))
      refine s_load Tryd.isAgg3 rfl rfl ((hs.oldcell (a := ⟨b1, o1 + i, none⟩) hB1 (by simp)).trans hc1) ?_
      refine s_assign rfl rfl ?_
      refine WL_nil ?_
      refine n_then ?_
      refine W_region ?_
      first
        | refine s_load Tryd.isAgg64 rfl rfl (hs.cell (k := 0) rfl rfl) ?_
        | refine s_load Tryd.isAgg64 rfl rfl (hs.cell (k := 1) rfl rfl) ?_
        | refine s_load Tryd.isAgg64 rfl rfl (hs.cell (k := 2) rfl rfl) ?_
        | refine s_load Tryd.isAgg64 rfl rfl (hs.cell (k := 3) rfl rfl) ?_
      refine s_move rfl rfl ?_
      refine s_convert rfl rfl (CV3_64 _) ?_
      rw [toU_wrap]
      refine s_call Tryd.call62 rfl rfl (mix_ok hmx Sk (toU z) w hSk (toU_lt z)) ?_
      rintro r w1 ⟨hw1, rfl⟩
      rw [hw1]; clear hw1 w1
      first
        | refine s_storeB Tryd.sizeOf64 rfl rfl rfl hs (kk := 0) rfl rfl ?_
        | refine s_storeB Tryd.sizeOf64 rfl rfl rfl hs (kk := 1) rfl rfl ?_
        | refine s_storeB Tryd.sizeOf64 rfl rfl rfl hs (kk := 2) rfl rfl ?_
        | refine s_storeB Tryd.sizeOf64 rfl rfl rfl hs (kk := 3) rfl rfl ?_
      clear hs; intro w hs; try simp only [List.set_cons_zero, List.set_cons_succ, splice, List.take_succ_cons, List.take_zero, List.drop_succ_cons, List.drop_zero, List.nil_append, List.cons_append, List.length_cons, List.length_nil, Nat.reduceAdd, List.append_assoc] at hs
      refine WL_nil ?_
      refine n_blk ?_
      refine n_then ?_
      refine W_region ?_
      first | (refine s_add' rfl rfl rfl ?hx ?_; case hx => (constructor <;> first | omega | (simp only; omega))) | refine s_add rfl rfl rfl ?_
      refine s_move rfl rfl ?_
      refine WL_nil ?_
      refine n_loop ?_
      exact ⟨i + 1, ⟨rfl, rfl, rfl, rfl, trivial⟩, ⟨by rw [hft]; exact hs, by omega⟩, by omega⟩
    · skip
      try simp only [decide_eq_true_eq, decide_eq_false_iff_not] at hc28
      rw [List.take_of_length_le (by simp; omega)] at hs hSk
      generalize hS3 : (xs.map toU).foldl mx S2 = Sk at hs hSk
      refine W_exit ?_
      refine x_then ?_
      refine x_then ?_
      refine exit_hit ?_
      refine n_then ?_
      refine W_seq ?_
      refine W_region ?_
      first
        | refine s_load Tryd.isAgg64 rfl rfl (hs.cell (k := 0) rfl rfl) ?_
        | refine s_load Tryd.isAgg64 rfl rfl (hs.cell (k := 1) rfl rfl) ?_
        | refine s_load Tryd.isAgg64 rfl rfl (hs.cell (k := 2) rfl rfl) ?_
        | refine s_load Tryd.isAgg64 rfl rfl (hs.cell (k := 3) rfl rfl) ?_
      refine s_call Tryd.call62 rfl rfl (mix_ok hmx Sk 0 w hSk (by decide)) ?_
      rintro r w1 ⟨hw1, rfl⟩
      rw [hw1]; clear hw1 w1
      refine s_assign rfl rfl ?_
      refine WL_nil ?_
      refine n_then ?_
      refine W_ret ?_
      refine M_end hs ?_
      clear hs; intro w hs
      exact end1 rfl rfl ⟨hs.fwd, by rw [sumV_of hS0 hS1 hS2 hS3]⟩
/-! Bytes -/
def wsI (bs : List Int) : List Int := (wordsOf bs).map fun (m : Nat) => IntKind.i64.wrap (m : Int)
theorem wsI_length (bs : List Int) : (wsI bs).length = nWords bs := by simp [wsI, wordsOf]
theorem wsI_take {bs : List Int} {k : Nat} (h : 8 * k < bs.length) : (wsI bs).take (k + 1) = (wsI bs).take k ++ [IntKind.i64.wrap (wordAt bs k : Int)] := by
  rw [List.take_add_one]; unfold wsI; rw [List.getElem?_map, wordsOf_at h]; rfl
set_option maxHeartbeats 1000000 in
theorem hBytes_ok {mx : Nat → Nat → Nat} (hmx : IsMix mx) (s : ByteArray) (v : Value) (bs : List Int) (w0 : World) (hv : Sl w0 v bs.length (u8s bs)) (hb : ∀ z ∈ bs, isB z) (hsz : s.size ≤ 4611686018427387904) (hl : bs.length ≤ 4294967296) :
    Ret Tryd.prog 43 [.string s, v].toArray w0 fun r w' => Fwd [] w0 w' ∧ r = .int .u64 (hashV mx (bytesOf s) bs : Int) := by
  obtain ⟨a, c, rfl, hac⟩ := hv.len_le
  refine Ret_start fun w hs => ?_
  refine Ret_ofM Tryd.func43 rfl Tryd.ntmps43 rfl ?_
  refine M_seq ?_
  refine M_W ?_
  refine W_region ?_
  refine s_assign rfl rfl ?_
  refine WL_nil ?_
  refine n_loop ?_
  refine M_seq ?_
  refine M_W ?_
  refine W_region ?_
  refine s_move rfl rfl ?_
  refine s_len rfl rfl (LN33 _ _ _ _) ?_
  first | (refine s_quo' rfl rfl rfl ?hx ?_; case hx => (refine ⟨?_, ?_, ?_⟩ <;> omega)) | (refine s_quo rfl rfl rfl ?hx ?_; case hx => omega)
  first | (refine s_add' rfl rfl rfl ?hx ?_; case hx => (constructor <;> first | omega | (simp only; omega))) | refine s_add rfl rfl rfl ?_
  refine s_makeSlice El22 rfl rfl rfl ?hx hs ?_
  case hx => (refine ⟨?_, ?_, ?_, ?_⟩ <;> omega)
  clear hs; intro b11 w hs
  refine s_alloc rfl AL22 hs ?_; clear hs; intro b5 w hs
  first
    | refine s_storeB Tryd.sizeOf22 rfl rfl rfl hs (kk := 0) rfl rfl ?_
    | refine s_storeB Tryd.sizeOf22 rfl rfl rfl hs (kk := 1) rfl rfl ?_
    | refine s_storeB Tryd.sizeOf22 rfl rfl rfl hs (kk := 2) rfl rfl ?_
    | refine s_storeB Tryd.sizeOf22 rfl rfl rfl hs (kk := 3) rfl rfl ?_
    | refine s_storeB Tryd.sizeOf22 rfl rfl rfl hs (kk := 4) rfl rfl ?_
    | refine s_storeB Tryd.sizeOf22 rfl rfl rfl hs (kk := 5) rfl rfl ?_
  clear hs; intro w hs; try simp only [List.set_cons_zero, List.set_cons_succ, splice, List.take_succ_cons, List.take_zero, List.drop_succ_cons, List.drop_zero, List.nil_append, List.cons_append, List.length_cons, List.length_nil, Nat.reduceAdd, List.append_assoc] at hs
  refine WL_nil ?_
  refine n_loop ?_
  refine M_seq ?_
  refine M_seq ?_
  refine M_W ?_
  refine W_region ?_
  refine s_move rfl rfl ?_
  refine s_call Tryd.call50 rfl rfl (groupsB_ok a bs.length c w) ?_
  rintro r w ⟨bq, rfl, hst⟩
  replace hs := St.back0 hs hst
  clear hst
  simp only [List.cons_append, List.nil_append] at hs
  refine WL_nil ?_
  refine n_loop ?_
  refine M_block ?_
  refine M_range Tryd.call60 rfl hs ?_
  clear hs; intro fn tm D w asg bo has hbo hA hs
  refine Ret.mono (iterB_ok (D + 1) bq a c bs hb (by omega) (fun k w => ∃ v Lv, OwnS 3 1 v k (i64s ((wsI bs).take k)) Lv ∧ k ≤ nWords bs ∧ (∃ x y z, v = .slice x y z) ∧ St [] w0 w ((D + 1, .loop (lrec .ready fn tm #[14] asg bo D)) :: (D, .deferred (some [])) :: (bq, Blk 33 [.slice a bs.length c]) :: (b5, Blk 22 [v]) :: Lv)) ?hrd ?round w ?h0) ?next
  case hrd => rintro i w ⟨v, Lv, hO, -, -, hs⟩; exact ⟨hs.cell (k := 2) rfl rfl, hv.fwd0 hs.fwd⟩
  case h0 => exact ⟨_, [(b11, Blk 3 (made [.int .i64 0] ((bs.length : Int) / 8 + 2).toNat))], ⟨rfl, .inr ⟨b11, ((bs.length : Int) / 8 + 2).toNat, made [.int .i64 0] ((bs.length : Int) / 8 + 2).toNat, rfl, Nat.zero_le _, by simp [maxLen]; omega, by simp [made_one], rfl⟩⟩, Nat.zero_le _, ⟨_, _, _, rfl⟩, hs⟩
  case round =>
    clear hs; rintro k w hk ⟨v, Lv, hO, hkn, ⟨vx, vy, vz, rfl⟩, hs⟩
    have hnw : nWords bs ≤ 4294967296 := by unfold nWords; omega
    refine round_St hs rfl hA ?_
    refine R_eq has ?_
    refine R_region rfl ?_
    refine s_assign rfl rfl ?_
    refine WL_nil ?_
    refine q_n ?_
    refine ⟨hs, ?_⟩; clear hs; intro w hs
    refine R_eq hbo ?_
    refine R_block ?_
    refine R_region rfl ?_
    first
      | refine s_load Tryd.isAgg22 rfl rfl (hs.cell (k := 0) rfl rfl) ?_
      | refine s_load Tryd.isAgg22 rfl rfl (hs.cell (k := 1) rfl rfl) ?_
      | refine s_load Tryd.isAgg22 rfl rfl (hs.cell (k := 2) rfl rfl) ?_
      | refine s_load Tryd.isAgg22 rfl rfl (hs.cell (k := 3) rfl rfl) ?_
      | refine s_load Tryd.isAgg22 rfl rfl (hs.cell (k := 4) rfl rfl) ?_
      | refine s_load Tryd.isAgg22 rfl rfl (hs.cell (k := 5) rfl rfl) ?_
    refine s_move rfl rfl ?_
    refine s_convert rfl rfl (CV64_3 _) ?_
    refine s_buildSlice rfl rfl (BS22_1 _) hs ?_; clear hs; intro b18 w hs
    refine s_appendM (M := [_, _, _, _, _]) (X := []) El22 rfl rfl rfl hO (by simp only [List.append_nil]; exact hs) (hs.sl (k := 0) (ds := [_]) rfl (Nat.le_refl _) (by intro j u hj; rw [Nat.zero_add]; exact hj)) rfl (by simp [Value.oneCell']) (by omega) ?_
    clear hs; intro v' w Lv' hO' hs
    obtain ⟨_, tc', ta', rfl, rfl⟩ := hO'.form
    simp only [List.cons_append, List.nil_append, List.append_nil] at hs
    first
      | refine s_storeB Tryd.sizeOf22 rfl rfl rfl hs (kk := 0) rfl rfl ?_
      | refine s_storeB Tryd.sizeOf22 rfl rfl rfl hs (kk := 1) rfl rfl ?_
      | refine s_storeB Tryd.sizeOf22 rfl rfl rfl hs (kk := 2) rfl rfl ?_
      | refine s_storeB Tryd.sizeOf22 rfl rfl rfl hs (kk := 3) rfl rfl ?_
      | refine s_storeB Tryd.sizeOf22 rfl rfl rfl hs (kk := 4) rfl rfl ?_
      | refine s_storeB Tryd.sizeOf22 rfl rfl rfl hs (kk := 5) rfl rfl ?_
    clear hs; intro w hs; try simp only [List.set_cons_zero, List.set_cons_succ, splice, List.take_succ_cons, List.take_zero, List.drop_succ_cons, List.drop_zero, List.nil_append, List.cons_append, List.length_cons, List.length_nil, Nat.reduceAdd, List.append_assoc] at hs
    refine WL_nil ?_
    refine q_n ?_
    exact ⟨_, hs.tail, fun w hs => ⟨_, Lv', by rw [wsI_take hk]; simpa using hO', by unfold nWords; omega, ⟨_, _, _, rfl⟩, hs⟩⟩
  case next =>
    rintro _ w ⟨v, Lv, hO, -, ⟨vx, vy, vz, rfl⟩, hs⟩
    rw [List.take_of_length_le (by rw [wsI_length]; exact Nat.le_refl _)] at hO
    have hnw : nWords bs ≤ 4294967296 := by unfold nWords; omega
    refine ⟨_, hs, ?_⟩
    clear hs; intro w hs
    refine n_blk ?_
    refine n_loop ?_
    refine M_W ?_
    refine W_seq ?_
    refine W_region ?_
    refine s_move rfl rfl ?_
    first
      | refine s_load Tryd.isAgg22 rfl rfl (hs.cell (k := 0) rfl rfl) ?_
      | refine s_load Tryd.isAgg22 rfl rfl (hs.cell (k := 1) rfl rfl) ?_
      | refine s_load Tryd.isAgg22 rfl rfl (hs.cell (k := 2) rfl rfl) ?_
      | refine s_load Tryd.isAgg22 rfl rfl (hs.cell (k := 3) rfl rfl) ?_
      | refine s_load Tryd.isAgg22 rfl rfl (hs.cell (k := 4) rfl rfl) ?_
      | refine s_load Tryd.isAgg22 rfl rfl (hs.cell (k := 5) rfl rfl) ?_
    refine s_move rfl rfl ?_
    refine s_len rfl rfl (LN33 _ _ _ _) ?_
    refine s_buildSlice rfl rfl (BS22_1 _) hs ?_; clear hs; intro b24 w hs
    refine s_appendM (M := [_, _, _, _]) (X := []) El22 rfl rfl rfl hO (by simp only [List.append_nil]; exact hs) (hs.sl (k := 0) (ds := [_]) rfl (Nat.le_refl _) (by intro j u hj; rw [Nat.zero_add]; exact hj)) rfl (by simp [Value.oneCell']) (by omega) ?_
    clear hs; intro v' w Lv' hO' hs
    obtain ⟨_, tc', ta', rfl, rfl⟩ := hO'.form
    have hO2 : OwnS 3 1 (.slice ta' (nWords bs + 1) tc') (wsI bs ++ [(bs.length : Int)]).length (i64s (wsI bs ++ [(bs.length : Int)])) Lv' := by
      rw [List.length_append, wsI_length]; simpa using hO'
    have hwl : (wsI bs ++ [(bs.length : Int)]).length ≤ 4611686018427387904 := by rw [List.length_append, wsI_length]; simp; omega
    refine s_call Tryd.call51 rfl rfl (sum_ok hmx s _ (wsI bs ++ [(bs.length : Int)]) w (hO2.slM (M := [_, _, _, _]) (X := []) hs) hsz hwl) ?_
    rintro r w ⟨hst, rfl⟩
    replace hs := hs.fwd1 hst
    clear hst
    simp only [List.cons_append, List.nil_append, List.append_nil] at hs
    refine s_assign rfl rfl ?_
    refine WL_nil ?_
    refine n_then ?_
    refine W_ret ?_
    refine M_end hs.tail ?_
    clear hs; intro w hs
    exact end1 rfl rfl ⟨hs.fwd, rfl⟩
end Go.Proofs.YtgjjdlgbbgijgaaDoor
