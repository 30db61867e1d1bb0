/- Codes of numbers and of claims as bits, and how they are read back. No program in sight. -/
import Derived.Test.YtbcdnpjcbchbjaaDoorBiR
set_option linter.unusedVariables false
set_option linter.unusedSimpArgs false
namespace Go.Proofs.YtbcdnpjcbchbjaaDoor
open Go.SL
theorem wb_new (p : Nat) : WbAt p [] [(p, Blk 59 [.slice none 0 0, .int .i64 0])] := ⟨_, [], rfl, OwnS.nil _ _⟩
theorem bitsAt_pk (bs : List Bool) (k : Nat) : ∀ c, k + c ≤ bs.length → bitsAt (pk bs) k c = (bs.drop k).take c
  | 0, _ => by simp [bitsAt]
  | c + 1, h => by
    have hl := pk_length bs
    rw [bitsAt, bitsAt_pk bs k c (by omega), bitAt_pk bs _ (by omega), List.take_add_one]
    congr 1
    simp [gb, show k + c < bs.length by omega]
theorem va_nb' (n : Nat) : ∀ c a, List.foldl (fun a (b : Bool) => 2 * a + b.toNat) a (nb n c) = a * 2 ^ c + n % 2 ^ c
  | 0, a => by simp [nb, Nat.mod_one]
  | c + 1, a => by
    rw [nb, List.foldl_cons, va_nb' n c, Nat.mod_pow_succ, Nat.testBit_eq_decide_div_mod_eq]
    rcases Nat.mod_two_eq_zero_or_one (n / 2 ^ c) with h | h <;> rw [h] <;> simp [Nat.pow_succ, Nat.add_mul] <;> rw [Nat.mul_comm 2 a, Nat.mul_assoc, Nat.mul_comm 2] <;> omega
theorem va_nb (n c : Nat) : va (nb n c) = n % 2 ^ c := by have := va_nb' n c 0; simpa [va] using this
def lowV (n : Nat) (c : Int) : Nat := n % 2 ^ (clampV c).toNat
/-- the bits of x lie at k -/
def AtBits (bs x : List Bool) (k : Nat) : Prop := ∃ r, bs.drop k = x ++ r
theorem AtBits.gb {bs x : List Bool} {k : Nat} (h : AtBits bs x k) {j : Nat} (hj : j < x.length) : gb bs (k + j) = gb x j := by
  obtain ⟨r, h⟩ := h
  unfold Proofs.YtbcdnpjcbchbjaaDoor.gb
  rw [← List.getElem?_drop, h, List.getElem?_append_left hj]
theorem AtBits.len {bs x : List Bool} {k : Nat} (h : AtBits bs x k) (hx : x ≠ []) : k + x.length ≤ bs.length := by
  obtain ⟨r, h⟩ := h
  have h1 := congrArg List.length h
  simp only [List.length_drop, List.length_append] at h1
  have h2 : 0 < x.length := List.length_pos_iff.2 hx
  omega
theorem ruGo_at (ys : List Int) (k m n : Nat) (hm : n ≤ m) (hf : bitAt ys (k + n) = false) (ht : ∀ j, j < n → bitAt ys (k + j) = true) : ∀ d f, d ≤ n → d < f → ruGo ys k m f (n - d) = (n, k + n + 1, 0) := by
  intro d
  induction d with
  | zero =>
    intro f _ hf2
    obtain ⟨f, rfl⟩ : ∃ g, f = g + 1 := ⟨f - 1, by omega⟩
    rw [ruGo, Nat.sub_zero, if_pos hf]
  | succ d ih =>
    intro f hd hf2
    obtain ⟨f, rfl⟩ : ∃ g, f = g + 1 := ⟨f - 1, by omega⟩
    rw [ruGo, if_neg (by rw [ht _ (by omega)]; simp), if_neg (by omega), show n - (d + 1) + 1 = n - d by omega]
    exact ih f (by omega) (by omega)
theorem rbV_at (bs : List Bool) (k n : Nat) (c : Int) (hk : k ≤ bs.length) (h : AtBits bs (nb n (clampV c).toNat) k) : rbV (pk bs) k 0 c = (lowV n c, k + (clampV c).toNat, 0) := by
  have hp := pk_length bs
  unfold rbV lowV
  rw [if_neg (by simp)]
  generalize (clampV c).toNat = d at *
  have hl : k + d ≤ bs.length := by
    by_cases hd : d = 0
    · omega
    · have := h.len (by intro he; have := congrArg List.length he; rw [nb_length] at this; exact hd this)
      rw [nb_length] at this; exact this
  rw [if_neg (by omega), bitsAt_pk bs k d hl]
  obtain ⟨r, h⟩ := h
  rw [h, List.take_append_of_le_length (by rw [nb_length]; exact Nat.le_refl _), List.take_of_length_le (by rw [nb_length]; exact Nat.le_refl _), va_nb]
theorem reV_end (bs : List Bool) : reV (pk bs) bs.length 0 = 0 := by
  have hp := pk_length bs
  unfold reV
  rw [if_neg (by simp), if_neg (by omega), if_neg]
  intro h
  obtain ⟨j, hj, hj2⟩ := List.any_eq_true.1 h
  have := List.mem_range.1 hj
  rw [bitAt_pk bs _ (by omega), gb_ge (by omega)] at hj2
  cases hj2
/-- the number of the code's kind; the widths of the kinds -/
def ci (z : Nat) : Nat := if z < 1 then 0 else if z < 16 then 1 else if z < 256 then 2 else if z < 65536 then 3 else if z < 4294967296 then 4 else 5
def cws : List Nat := [0, 4, 8, 16, 32, 64]
def cwd (i : Nat) : Nat := cws.getD i 0
theorem ci_le (z : Nat) : ci z ≤ 5 := by unfold ci; repeat' split <;> try omega
theorem cwd_le (i : Nat) : cwd i ≤ 64 := by
  rcases Nat.lt_or_ge i 6 with h | h
  · have : i = 0 ∨ i = 1 ∨ i = 2 ∨ i = 3 ∨ i = 4 ∨ i = 5 := by omega
    rcases this with h | h | h | h | h | h <;> subst h <;> decide
  · have h2 : cws[i]? = none := List.getElem?_eq_none h
    rw [cwd, List.getD_eq_getElem?_getD, h2]; simp
theorem ci_fits {z : Nat} (hz : z < 18446744073709551616) : z < 2 ^ cwd (ci z) := by
  unfold ci; repeat' split
  all_goals (first | (show z < 2 ^ 0; omega) | (show z < 2 ^ 4; omega) | (show z < 2 ^ 8; omega) | (show z < 2 ^ 16; omega) | (show z < 2 ^ 32; omega) | (show z < 2 ^ 64; omega))
theorem ci_min {z j : Nat} (hj : j < ci z) : ¬ z < 2 ^ cwd j := by
  unfold ci at hj
  have h5 : j < 5 := by revert hj; repeat' split <;> try omega
  have : j = 0 ∨ j = 1 ∨ j = 2 ∨ j = 3 ∨ j = 4 := by omega
  rcases this with h | h | h | h | h <;> subst h
  · show ¬ z < 2 ^ 0; split at hj <;> omega
  · show ¬ z < 2 ^ 4; revert hj; repeat' split <;> try omega
  · show ¬ z < 2 ^ 8; revert hj; repeat' split <;> try omega
  · show ¬ z < 2 ^ 16; revert hj; repeat' split <;> try omega
  · show ¬ z < 2 ^ 32; revert hj; repeat' split <;> try omega
/-- the code of a number -/
def code (n : Int) : List Bool := (List.replicate (ci (zz n)) true ++ [false]) ++ nb (zz n) (cwd (ci (zz n)))
theorem code_length (n : Int) : (code n).length = ci (zz n) + 1 + cwd (ci (zz n)) := by simp [code, nb_length]; omega
theorem code_len (n : Int) : (code n).length ≤ 70 := by
  have h1 := ci_le (zz n); have h2 := cwd_le (ci (zz n)); rw [code_length]; omega
theorem code_ne (n : Int) : code n ≠ [] := by intro h; have := congrArg List.length h; rw [code_length] at this; simp at this
theorem ruV_most (bs : List Bool) (k n m : Nat) (hm : n ≤ m) (h : AtBits bs (List.replicate n true ++ [false]) k) : ruV (pk bs) k 0 (m : Int) = (n, k + n + 1, 0) := by
  have hl := h.len (by simp)
  have hp := pk_length bs
  simp at hl
  unfold ruV
  rw [if_neg (by simp), Int.toNat_natCast]
  have h0 := ruGo_at (pk bs) k m n hm (by rw [bitAt_pk bs _ (by omega), h.gb (by simp)]; simp [gb]) (fun j hj => by rw [bitAt_pk bs _ (by omega), h.gb (by simp; omega)]; simp [gb, List.getElem?_append_left, hj]) n (8 * (pk bs).length - k) (Nat.le_refl _) (by omega)
  rw [Nat.sub_self] at h0
  exact h0
theorem AtBits.left {bs x y : List Bool} {k : Nat} (h : AtBits bs (x ++ y) k) : AtBits bs x k := by
  obtain ⟨r, h⟩ := h; exact ⟨y ++ r, by rw [h, List.append_assoc]⟩
theorem AtBits.right {bs x y : List Bool} {k : Nat} (h : AtBits bs (x ++ y) k) : AtBits bs y (k + x.length) := by
  obtain ⟨r, h⟩ := h
  refine ⟨r, ?_⟩
  rw [← List.drop_drop, h, List.append_assoc, List.drop_left]
theorem clampV_cwd (i : Nat) : (clampV (cwd i : Int)).toNat = cwd i := by
  have := cwd_le i; unfold clampV; split <;> split at * <;> omega
/-- the two reads of a code -/
theorem code_read {bs : List Bool} {k : Nat} {n : Int} (hn : isI64 n) (h : AtBits bs (code n) k) :
    ruV (pk bs) k 0 5 = (ci (zz n), k + ci (zz n) + 1, 0) ∧ rbV (pk bs) (k + ci (zz n) + 1) 0 (cwd (ci (zz n)) : Int) = (zz n, k + (code n).length, 0) ∧ k + (code n).length ≤ bs.length := by
  have hl := h.len (code_ne n)
  refine ⟨ruV_most bs k _ 5 (ci_le _) (by unfold code at h; exact h.left), ?_, hl⟩
  have h2 : AtBits bs (nb (zz n) (cwd (ci (zz n)))) (k + ci (zz n) + 1) := by
    have := (show AtBits bs ((List.replicate (ci (zz n)) true ++ [false]) ++ nb (zz n) (cwd (ci (zz n)))) k from h).right
    simpa [Nat.add_assoc] using this
  rw [rbV_at bs _ (zz n) _ (by rw [code_length] at hl; omega) (by rw [clampV_cwd]; exact h2), clampV_cwd, lowV, clampV_cwd, Nat.mod_eq_of_lt (ci_fits (zz_lt hn)), code_length]
  congr 2
  omega
/-! claims -/
structure Cl where
  a : Int
  b : Int
  c : Int
  d : Int
deriving DecidableEq
def Cl.z : Cl := ⟨0, 0, 0, 0⟩
def Cl.cells (x : Cl) : List Value := [.int .i64 x.a, .int .i64 x.b, .int .i64 x.c, .int .i64 x.d]
def cls (l : List Cl) : List Value := l.flatMap Cl.cells
theorem cls_length (l : List Cl) : (cls l).length = l.length * 4 := by induction l <;> simp_all [cls, Cl.cells]; omega
theorem cls_one (l : List Cl) : ∀ c ∈ cls l, c.oneCell' = true := by
  intro c hc
  obtain ⟨x, _, hx⟩ := List.mem_flatMap.1 hc
  simp only [Cl.cells, List.mem_cons, List.not_mem_nil, or_false] at hx
  rcases hx with rfl | rfl | rfl | rfl <;> rfl
theorem cls_append (l m : List Cl) : cls (l ++ m) = cls l ++ cls m := by simp [cls]
def inR (z : Int) : Prop := -1099511627776 ≤ z ∧ z ≤ 1099511627776
instance (z : Int) : Decidable (inR z) := by unfold inR; infer_instance
/-- the numbers of a claim are in range -/
def Cl.ok (x : Cl) : Prop := inR x.a ∧ inR x.b ∧ inR x.c ∧ inR x.d
instance (x : Cl) : Decidable x.ok := by unfold Cl.ok; infer_instance
theorem Cl.z_ok : Cl.z.ok := by decide
/-- the four numbers that are written for a claim behind two others -/
def four (last before x : Cl) : List Int := [x.a - 2 * last.a + before.a, (x.b - x.a) - (last.b - last.a), x.c - last.c, (x.d - x.c) - (last.d - last.c)]
def fourB (last before x : Cl) : List Bool := (four last before x).flatMap code
def encC : Cl → Cl → List Cl → List Bool
  | _, _, [] => []
  | last, before, x :: r => fourB last before x ++ encC x last r
def encB (l : List Cl) : List Bool := code l.length ++ encC .z .z l
theorem four_in {last before x : Cl} (h1 : last.ok) (h2 : before.ok) (h3 : x.ok) : ∀ n ∈ four last before x, isI64 n := by
  unfold Cl.ok inR at h1 h2 h3
  intro n hn
  simp only [four, List.mem_cons, List.not_mem_nil, or_false] at hn
  unfold isI64
  rcases hn with rfl | rfl | rfl | rfl <;> omega
theorem fourB_length (last before x : Cl) : (fourB last before x).length ≤ 280 := by
  have h := fun n => code_len n
  simp only [fourB, four, List.flatMap_cons, List.flatMap_nil, List.length_append, List.length_nil]
  have h1 := h (x.a - 2 * last.a + before.a); have h2 := h ((x.b - x.a) - (last.b - last.a)); have h3 := h (x.c - last.c); have h4 := h ((x.d - x.c) - (last.d - last.c))
  omega
theorem encC_length (l : List Cl) : ∀ last before, (encC last before l).length ≤ 280 * l.length := by
  induction l with
  | nil => intro _ _; simp [encC]
  | cons x r ih => intro last before; have := ih x last; have := fourB_length last before x; simp only [encC, List.length_append, List.length_cons]; omega
theorem encB_length (l : List Cl) : (encB l).length ≤ 70 + 280 * l.length := by
  have := encC_length l .z .z; have := code_len (l.length : Int); simp only [encB, List.length_append]; omega
/-- the last claim of a list, and the one before -/
def lastC (l : List Cl) : Cl := (l.getLast?).getD .z
def befC (l : List Cl) : Cl := lastC l.dropLast
theorem lastC_snoc (l : List Cl) (x : Cl) : lastC (l ++ [x]) = x := by simp [lastC]
theorem befC_snoc (l : List Cl) (x : Cl) : befC (l ++ [x]) = lastC l := by simp [befC]
theorem encC_split (l : List Cl) (x : Cl) (r : List Cl) : encC .z .z (l ++ x :: r) = encC .z .z l ++ (fourB (lastC l) (befC l) x ++ encC x (lastC l) r) := by
  have key : ∀ (l pre : List Cl), encC (lastC pre) (befC pre) (l ++ x :: r) = encC (lastC pre) (befC pre) l ++ (fourB (lastC (pre ++ l)) (befC (pre ++ l)) x ++ encC x (lastC (pre ++ l)) r) := by
    intro l
    induction l with
    | nil => intro pre; simp [encC]
    | cons y l ih =>
      intro pre
      have := ih (pre ++ [y])
      rw [lastC_snoc, befC_snoc, List.append_assoc, List.singleton_append] at this
      rw [List.cons_append, encC, encC, this, List.append_assoc]
  exact key l []
theorem lastC_mem {l : List Cl} {P : Cl → Prop} (hz : P .z) (h : ∀ x ∈ l, P x) : P (lastC l) := by
  unfold lastC
  cases hl : l.getLast? with
  | none => exact hz
  | some x => exact h x (List.mem_of_getLast? hl)
theorem befC_mem {l : List Cl} {P : Cl → Prop} (hz : P .z) (h : ∀ x ∈ l, P x) : P (befC l) := lastC_mem hz fun x hx => h x (List.dropLast_subset l hx)
end Go.Proofs.YtbcdnpjcbchbjaaDoor
