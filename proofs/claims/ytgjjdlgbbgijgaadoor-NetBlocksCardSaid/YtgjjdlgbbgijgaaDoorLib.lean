/- Contracts of small functions of package intervalmonref01 and of slices.Clone. -/
import Derived.Test.YtgjjdlgbbgijgaaDoorFacts
import Derived.Test.YtgjjdlgbbgijgaaDoorFin
set_option linter.unusedVariables false
set_option linter.unusedSimpArgs false
namespace Go.Proofs.YtgjjdlgbbgijgaaDoor
open Go.SL
theorem OwnS_in {e sz n m c : Nat} {a : Addr} {cs : List Value} {Lv : Hp} (h : OwnS e sz (.slice (some a) m c) n cs Lv) (hne : cs ≠ []) : a.block ∈ ids Lv := by
  rcases h.2 with ⟨_, h2, _⟩ | ⟨g, cap, sp, h1, _, _, _, rfl⟩
  · exact absurd (List.eq_nil_of_length_eq_zero (by rw [h.1, h2]; simp)) hne
  · cases h1; simp [ids]
theorem OwnS_slIn {w : World} {e sz n : Nat} {v : Value} {cs : List Value} {Lv : Hp} (h : OwnS e sz v n cs Lv) (hown : ∀ x ∈ Lv, w.heap[x.1]? = some x.2) : Sl w v n cs := by
  refine h.sl (F := ids Lv) (w0 := w) (M := []) ⟨Fwd.refl _ _, ?_, by simpa using hown, fun x hx => .inl (mem_ids_of (by simpa using hx))⟩
  rcases h.2 with ⟨_, _, rfl⟩ | ⟨g, cap, sp, _, _, _, _, rfl⟩ <;> simp [ids]
theorem Sl_all {w : World} {a : Option Addr} {m n c : Nat} {cs : List Value} (h : Sl w (.slice a m c) n cs) (hne : cs ≠ []) : ∃ b o, a = some ⟨b, o, none⟩ ∧ b < w.heap.size ∧ ∀ j u, cs[j]? = some u → w.cell? ⟨b, o + j, none⟩ = some u := by
  obtain ⟨a', c', h1, _, h2 | ⟨b, o, h2, h3⟩⟩ := h
  · exact absurd h2 hne
  · cases h1
    cases cs with
    | nil => exact absurd rfl hne
    | cons u r => exact ⟨b, o, h2, World.block_lt_of_cell? w _ (h3 0 u rfl), h3⟩
theorem fdiv_i64 {x : Int} (h : -9223372036854775808 ≤ x ∧ x ≤ 9223372036854775807) (k : Nat) : -9223372036854775808 ≤ x.fdiv (2 ^ k) ∧ x.fdiv (2 ^ k) ≤ 9223372036854775807 := by
  have hp : (0 : Int) < 2 ^ k := Int.pow_pos (by omega)
  rw [Int.fdiv_eq_ediv_of_nonneg _ (Int.le_of_lt hp)]
  rcases Int.lt_or_le x 0 with hx | hx
  · have h1 : x / 2 ^ k < 0 := Int.ediv_neg_of_neg_of_pos hx hp
    have h2 : x ≤ x / 2 ^ k := Int.le_ediv_of_mul_le hp (by
      have : x * 2 ^ k ≤ x * 1 := Int.mul_le_mul_of_nonpos_left (Int.le_of_lt hx) (by omega)
      omega)
    omega
  · have h1 : 0 ≤ x / 2 ^ k := Int.ediv_nonneg hx (Int.le_of_lt hp)
    have h2 : x / 2 ^ k ≤ x := Int.ediv_le_self _ hx
    omega
theorem St_apart {F : List Nat} {w0 w : World} {M A B : Hp} {b : Nat} (hs : St F w0 w (M ++ (A ++ B))) (hb : b ∈ ids B) : b ∉ ids A := by
  have := hs.right.nodup
  rw [ids_append] at this
  exact fun h2 => (List.nodup_append.1 this).2.2 b h2 b hb rfl
theorem St_lastSl {F : List Nat} {w0 w : World} {M A B : Hp} {e sz n : Nat} {v : Value} {cs : List Value} (hs : St F w0 w (M ++ (A ++ B))) (h : OwnS e sz v n cs B) : Sl w v n cs :=
  h.sl (M := M ++ A) (St.swap (A := M ++ A) (by simpa using hs))
abbrev u8s (bs : List Int) : List Value := bs.map (Value.int .u8)
abbrev i64s (bs : List Int) : List Value := bs.map (Value.int .i64)
/-- the bytes of a string, as numbers -/
def bytesOf (s : ByteArray) : List Int := s.data.toList.map fun b => (b.toNat : Int)
theorem bytesOf_length (s : ByteArray) : (bytesOf s).length = s.size := by rw [bytesOf, List.length_map, Array.length_toList]; rfl
theorem u8s_bytesOf (s : ByteArray) : (bytesOf s).map (Value.int .u8) = s.data.toList.map fun b => Value.int .u8 b.toNat := by rw [bytesOf, List.map_map]; rfl
def aroundV (m q : Int) : Int := (if m < 0 then -(m + 1) else m) % q
theorem aroundV_range {m q : Int} (h : 0 < q) : 0 ≤ aroundV m q ∧ aroundV m q < q := ⟨Int.emod_nonneg _ (by omega), Int.emod_lt_of_pos _ h⟩
def isI64 (z : Int) : Prop := -9223372036854775808 ≤ z ∧ z ≤ 9223372036854775807
def pickV (xs : List Int) (i q : Int) : Int := if 0 ≤ i ∧ i < xs.length then aroundV (xs.getD i.toNat 0) q else 0
theorem pickV_range {xs : List Int} {i q : Int} (h : 0 < q) : 0 ≤ pickV xs i q ∧ pickV xs i q < q := by
  unfold pickV; split
  · exact aroundV_range h
  · omega
theorem u8s_one (bs : List Int) : ∀ c ∈ u8s bs, c.oneCell' = true := by
  intro c hc
  obtain ⟨x, _, rfl⟩ := List.mem_map.1 hc
  rfl
theorem i64s_one (bs : List Int) : ∀ c ∈ i64s bs, c.oneCell' = true := by
  intro c hc
  obtain ⟨x, _, rfl⟩ := List.mem_map.1 hc
  rfl
theorem min_nat (a b : Nat) : (if (b : Int) < a then (b : Int) else a) = ((min a b : Nat) : Int) := by
  split <;> omega
theorem i64s_at {G : List Int} {k : Nat} (h : k < G.length) : (i64s G)[0 + (k : Int).toNat]? = some (.int .i64 (G.getD k 0)) := by
  simp [List.getElem?_eq_getElem h, List.getD]
theorem i64s_at' {G : List Int} {k : Nat} (h : k < G.length) : (i64s G)[k]? = some (.int .i64 (G.getD k 0)) := by
  simp [List.getElem?_eq_getElem h, List.getD]
theorem u8s_at {G : List Int} {k : Nat} (h : k < G.length) : (u8s G)[0 + (k : Int).toNat]? = some (.int .u8 (G.getD k 0)) := by
  simp [List.getElem?_eq_getElem h, List.getD]
theorem u8s_at' {G : List Int} {k : Nat} (h : k < G.length) : (u8s G)[k]? = some (.int .u8 (G.getD k 0)) := by
  simp [List.getElem?_eq_getElem h, List.getD]
theorem around_ok (m q : Int) (w : World) (hq : 0 < q) (hm : -9223372036854775808 ≤ m ∧ m ≤ 9223372036854775807) :
    Ret Tryd.prog 11 [.int .i64 m, .int .i64 q].toArray w fun v w' => w' = w ∧ v = .int .i64 (aroundV m q) := by
  unfold aroundV
  refine Ret_of Tryd.func11 rfl Tryd.ntmps11 rfl ?_
  refine W_seq ?_
  refine W_region ?_
  refine s_assign rfl rfl ?_
  refine WL_nil ?_
  refine n_then ?_
  refine W_seq ?_
  refine W_seq ?_
  refine W_region ?_
  refine s_move rfl rfl ?_
  refine s_lss rfl rfl rfl ?_
  refine WL_nil ?_
  refine n_then ?_
  refine W_cond rfl (fun hc6 => ?_) (fun hc6 => ?_)
  · skip
    simp only [decide_eq_true_eq, decide_eq_false_iff_not] at hc6
    refine W_region ?_
    refine s_move rfl rfl ?_
    first | (refine s_add' rfl rfl rfl ?hx ?_; case hx => (constructor <;> first | omega | (simp only; omega))) | refine s_add rfl rfl rfl ?_
    first | (refine s_neg' rfl rfl ?hx ?_; case hx => omega) | refine s_neg rfl rfl ?_
    refine s_assign rfl rfl ?_
    refine WL_nil ?_
    refine n_then ?_
    refine W_seq ?_
    refine W_region ?_
    refine s_move rfl rfl ?_
    refine s_move rfl rfl ?_
    first | (refine s_rem' rfl rfl rfl ?hx ?_; case hx => (refine ⟨?_, ?_⟩ <;> omega)) | (refine s_rem rfl rfl rfl ?hx ?_; case hx => omega)
    refine s_assign rfl rfl ?_
    refine WL_nil ?_
    refine n_then ?_
    refine W_ret ?_
    exact end1 rfl rfl ⟨rfl, by simp [*]⟩
  · skip
    simp only [decide_eq_true_eq, decide_eq_false_iff_not] at hc6
    refine W_skip ?_
    refine n_then ?_
    refine W_seq ?_
    refine W_region ?_
    refine s_move rfl rfl ?_
    refine s_move rfl rfl ?_
    first | (refine s_rem' rfl rfl rfl ?hx ?_; case hx => (refine ⟨?_, ?_⟩ <;> omega)) | (refine s_rem rfl rfl rfl ?hx ?_; case hx => omega)
    refine s_assign rfl rfl ?_
    refine WL_nil ?_
    refine n_then ?_
    refine W_ret ?_
    exact end1 rfl rfl ⟨rfl, by simp [*]⟩
def boundV (n m : Int) : Int := aroundV n (2 * m + 1) - m
theorem boundV_range {n m : Int} (h : 0 ≤ m) : -m ≤ boundV n m ∧ boundV n m ≤ m := by
  have := aroundV_range (m := n) (q := 2 * m + 1) (by omega); unfold boundV; omega
theorem bound_ok (n m : Int) (w0 : World) (hn : isI64 n) (hm : 0 ≤ m ∧ m ≤ 2305843009213693952) :
    Ret Tryd.prog 38 [.int .i64 n, .int .i64 m].toArray w0 fun r w' => w' = w0 ∧ r = .int .i64 (boundV n m) := by
  have hr := aroundV_range (m := n) (q := 2 * m + 1) (by omega)
  refine Ret_of Tryd.func38 rfl Tryd.ntmps38 rfl ?_
  refine W_seq ?_
  refine W_region ?_
  refine s_assign rfl rfl ?_
  refine WL_nil ?_
  refine n_then ?_
  refine W_seq ?_
  refine W_region ?_
  refine s_move rfl rfl ?_
  refine s_move rfl rfl ?_
  first | (refine s_mul' rfl rfl rfl ?hx ?_; case hx => (constructor <;> first | omega | (simp only; omega))) | refine s_mul rfl rfl rfl ?_
  first | (refine s_add' rfl rfl rfl ?hx ?_; case hx => (constructor <;> first | omega | (simp only; omega))) | refine s_add rfl rfl rfl ?_
  refine s_call Tryd.call11 rfl rfl (around_ok n (2 * m + 1) _ (by omega) hn) ?_
  rintro r w ⟨rfl, rfl⟩
  refine s_move rfl rfl ?_
  first | (refine s_sub' rfl rfl rfl ?hx ?_; case hx => (constructor <;> first | omega | (simp only; omega))) | refine s_sub rfl rfl rfl ?_
  refine s_assign rfl rfl ?_
  refine WL_nil ?_
  refine n_then ?_
  refine W_ret ?_
  exact end1 rfl rfl ⟨rfl, rfl⟩
theorem clone_ok (v : Value) (bs : List Int) (w0 : World) (hv : Sl w0 v bs.length (u8s bs)) (hl : bs.length ≤ 4294967296) :
    Ret Tryd.prog 27 [v].toArray w0 fun r w' => ∃ Lr, OwnS 5 1 r bs.length (u8s bs) Lr ∧ St [] w0 w' Lr := by
  obtain ⟨a, c, rfl, hc⟩ := hv.len_le
  refine Ret_start fun w hs => ?_
  refine Ret_of Tryd.func27 rfl Tryd.ntmps27 rfl ?_
  refine W_seq ?_
  refine W_region ?_
  refine s_assign rfl rfl ?_
  refine WL_nil ?_
  refine n_then ?_
  refine W_seq ?_
  refine W_seq ?_
  refine W_region ?_
  refine s_move rfl rfl ?_
  refine s_eql_slice_nil Tryd.underlying33 rfl rfl rfl ?_
  refine WL_nil ?_
  refine n_then ?_
  refine W_cond rfl (fun hc4 => ?_) (fun hc4 => ?_)
  · skip
    refine W_seq ?_
    refine W_region ?_
    refine s_assign rfl rfl ?_
    refine WL_nil ?_
    refine n_then ?_
    refine W_ret ?_
    refine r_then ?_
    first
      | exact end1 rfl rfl ⟨Lv', hO, hs.left⟩
      | (refine end1 rfl rfl ⟨[], ?_, hs⟩
         have ha : a = none := by cases a <;> simp_all
         subst ha
         obtain ⟨a', c', h1, _, h2 | ⟨b, o, h2, _⟩⟩ := hv
         · have : bs = [] := by simpa using h2
           subst this; exact OwnS.nil _ _
         · cases h1; cases h2)
  · skip
    refine W_skip ?_
    refine n_then ?_
    refine W_seq ?_
    refine W_region ?_
    refine s_buildSlice rfl rfl (BS33_0 ) hs ?_; clear hs; intro b5 w hs
    refine s_move rfl rfl ?_
    refine s_append El33 rfl rfl rfl (OwnS.bare _ _ _) hs (hv.fwd0 hs.fwd) (by simp) (u8s_one _) (by omega) ?_
    clear hs; intro v' w Lv' hO hs
    simp only [Nat.zero_add, List.nil_append, List.append_nil] at hO
    refine s_assign rfl rfl ?_
    refine WL_nil ?_
    refine n_then ?_
    refine W_ret ?_
    first
      | exact end1 rfl rfl ⟨Lv', hO, hs.left⟩
      | (refine end1 rfl rfl ⟨[], ?_, hs⟩
         have ha : a = none := by cases a <;> simp_all
         subst ha
         obtain ⟨a', c', h1, _, h2 | ⟨b, o, h2, _⟩⟩ := hv
         · have : bs = [] := by simpa using h2
           subst this; exact OwnS.nil _ _
         · cases h1; cases h2)
end Go.Proofs.YtgjjdlgbbgijgaaDoor
