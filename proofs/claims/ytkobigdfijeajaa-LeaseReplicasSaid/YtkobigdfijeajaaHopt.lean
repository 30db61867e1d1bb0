/- More rules of operations: slicing, append within the capacity, copy, clear, comparisons of pointers, strings and bools; calls by contracts over owned blocks. No program in sight. -/
import Derived.Test.YtkobigdfijeajaaDraw
import Derived.Laws.BytesString
set_option linter.unusedVariables false
set_option linter.unusedSimpArgs false
namespace Go.SL
section
variable {F : List Nat} {w0 w w' : World} {L M X : Hp}
theorem Sl.fwd {v : Value} {n : Nat} {cs : List Value} (h : Sl w v n cs) (hf : Fwd F w w') (hd : ∀ a m c, v = .slice (some a) m c → cs ≠ [] → a.block ∉ F) : Sl w' v n cs := by
  obtain ⟨a, c, rfl, hc, h⟩ := h
  refine ⟨a, c, rfl, hc, ?_⟩
  rcases h with h | ⟨b, o, rfl, h⟩
  · exact .inl h
  · by_cases hn : cs = []
    · exact .inl hn
    · refine .inr ⟨b, o, rfl, fun j u hj => ?_⟩
      have h1 := h j u hj
      rw [World.cell?_of_block (hf.block b (World.block_lt_of_cell? w _ h1) (hd _ _ _ rfl hn))]
      exact h1
theorem Sl.fwd0 {v : Value} {n : Nat} {cs : List Value} (h : Sl w v n cs) (hf : Fwd [] w w') : Sl w' v n cs := h.fwd hf (fun _ _ _ _ _ => by simp)
theorem Sl.len_le {v : Value} {n : Nat} {cs : List Value} (h : Sl w v n cs) : ∃ a c, v = .slice a n c ∧ n ≤ c := by
  obtain ⟨a, c, h1, h2, _⟩ := h; exact ⟨a, c, h1, h2⟩
/-- element k of a slice whose elements are one cell each -/
theorem Sl.at {a : Option Addr} {m n c k : Nat} {cs : List Value} {u : Value} (h : Sl w (.slice a m c) n cs) (hk : cs[k]? = some u) : ∃ b o, a = some ⟨b, o, none⟩ ∧ w.cell? ⟨b, o + k, none⟩ = some u := by
  obtain ⟨a', c', h1, _, h3⟩ := h
  cases h1
  rcases h3 with h3 | ⟨b, o, h3, h4⟩
  · subst h3; simp at hk
  · exact ⟨b, o, h3, h4 k u hk⟩
/-- a slice over a part of an owned block -/
theorem St.sl (hs : St F w0 w L) {k b o n c : Nat} {e : TypeId} {fz : Nat × Nat} {cs ds : List Value} (hk : L[k]? = some (b, .cells cs.toArray e fz)) (hn : n ≤ c) (h : ∀ j u, ds[j]? = some u → cs[o + j]? = some u) : Sl w (.slice (some ⟨b, o, none⟩) n c) n ds :=
  ⟨_, c, rfl, hn, .inr ⟨b, o, rfl, fun j u hj => hs.cell hk (h j u hj)⟩⟩
/-- a slice that is taken apart: the first elements -/
theorem Sl.take {v : Value} {n k size : Nat} {cs : List Value} (h : Sl w v n cs) (hk : k ≤ n) {a : Option Addr} {c : Nat} (hv : v = .slice a n c) : Sl w (.slice a k c) k (cs.take (k * size)) := by
  obtain ⟨a', c', h1, h2, h3⟩ := h
  rw [hv] at h1; cases h1
  refine ⟨a, c, rfl, by omega, ?_⟩
  rcases h3 with h3 | ⟨b, o, h3, h4⟩
  · exact .inl (by simp [h3])
  · refine .inr ⟨b, o, h3, fun j u hj => h4 j u ?_⟩
    rw [List.getElem?_take] at hj
    split at hj
    · exact hj
    · cases hj
theorem Sl.drop {b o n c k size : Nat} {cs : List Value} (h : Sl w (.slice (some ⟨b, o, none⟩) n c) n cs) (hl : cs.length = n * size) (hk : k ≤ n) :
    Sl w (.slice (some ⟨b, (if c = k then o else o + k * size), none⟩) (n - k) (c - k)) (n - k) (cs.drop (k * size)) := by
  obtain ⟨a', c', h1, h2, h3⟩ := h
  cases h1
  refine ⟨_, _, rfl, by omega, ?_⟩
  by_cases hck : c = k
  · left
    exact List.drop_eq_nil_of_le (by rw [hl]; exact Nat.mul_le_mul_right _ (by omega))
  · rcases h3 with h3 | ⟨b', o', h3, h4⟩
    · left; rw [h3]; simp
    · cases h3
      right
      refine ⟨_, _, rfl, fun j u hj => ?_⟩
      rw [if_neg hck]
      rw [List.getElem?_drop] at hj
      have := h4 _ u hj
      rw [Nat.add_assoc]; exact this
theorem perm_mid (M Lv X : Hp) : (M ++ (Lv ++ X)).Perm (Lv ++ (M ++ X)) := by
  rw [← List.append_assoc, ← List.append_assoc]; exact List.perm_append_comm.append_right X
theorem St.pull (h : St F w0 w (M ++ (L ++ X))) : St F w0 w (L ++ (M ++ X)) := h.perm (perm_mid M L X)
theorem St.backM {L' : Hp} (h : St F w0 w (M ++ (L ++ X))) (hc : St (ids L) w w' L') : St F w0 w' (M ++ (L' ++ X)) := (St.back h.pull hc).pull
theorem St.lendM (h : St F w0 w (M ++ (L ++ X))) : St (ids L) w w L := St.lend h.pull
theorem OwnS.form {e size n : Nat} {v : Value} {cs : List Value} (h : OwnS e size v n cs L) : ∃ tl tc ta, v = .slice ta tl tc ∧ tl = n := by
  rcases h.2 with ⟨⟨a, h⟩, h2, _⟩ | ⟨g', cap, sp, h, _⟩
  · exact ⟨0, 0, a, h, h2.symm⟩
  · exact ⟨_, cap, _, h, rfl⟩
theorem OwnS.block {e size n : Nat} {v : Value} {cs : List Value} (h : OwnS e size v n cs L) (hn : 0 < n) : ∃ g cap sp, v = .slice (some ⟨g, 0, none⟩) n cap ∧ n ≤ cap ∧ L = [(g, Blk e (cs ++ sp))] := by
  rcases h.2 with ⟨_, h2, _⟩ | ⟨g, cap, sp, h1, h2, _, _, h3⟩
  · omega
  · exact ⟨g, cap, sp, h1, h2, h3⟩
theorem St.fwd1 (h : St F w0 w L) (hf : Fwd [] w w') : St F w0 w' L := St.back0 (L' := []) h ⟨hf, by simp [ids], by simp, by simp⟩
theorem OwnS.slM {e size n : Nat} {v : Value} {cs : List Value} (h : OwnS e size v n cs L) (hs : St F w0 w (M ++ (L ++ X))) : Sl w v n cs := h.sl hs.pull
end
/-- blocks in groups: the groups may be taken in another order, some left out -/
def cat : List Hp → Hp
  | [] => []
  | [x] => x
  | x :: y :: r => x ++ cat (y :: r)
theorem cat_flatten : ∀ A : List Hp, cat A = A.flatten
  | [] => rfl
  | [x] => by simp [cat]
  | x :: y :: r => by rw [cat, cat_flatten (y :: r)]; rfl
theorem perm_flatten {α : Type} {A B : List (List α)} (h : A.Perm B) : A.flatten.Perm B.flatten := by
  induction h with
  | nil => exact .refl _
  | cons x _ ih => simp only [List.flatten_cons]; exact ih.append_left x
  | swap x y l => simp only [List.flatten_cons, ← List.append_assoc]; exact List.perm_append_comm.append_right _
  | trans _ _ h1 h2 => exact h1.trans h2
theorem map_getD_range (A : List Hp) : (List.range A.length).map (fun i => A.getD i []) = A := by
  apply List.ext_getElem
  · simp
  · intro i h1 h2; simp at h1; simp [h1]
theorem St.reord {F : List Nat} {w0 w : World} (A : List Hp) (idx rest : List Nat) (h : St F w0 w (cat A)) (hp : (idx ++ rest).isPerm (List.range A.length) = true) : St F w0 w (cat (idx.map fun i => A.getD i [])) := by
  have h1 := (List.isPerm_iff.1 hp).map (fun i => A.getD i [])
  rw [map_getD_range] at h1
  have h2 := perm_flatten h1
  rw [List.map_append, List.flatten_append] at h2
  rw [cat_flatten] at h ⊢
  exact (h.perm h2.symm).left
section
variable {P : Program} {n : Nat} {ops : Array Oper} {Q : Post} {l : Fr} {w : World} {rest : List Oper} {d ty : Nat} {pos : String} {aft : Array Edge} {F : List Nat} {w0 : World} {L M X : Hp}
/-! ### slicing -/
theorem s_indexAddrO {x y : Operand} {t e bytes b o len cap : Nat} {zs : List Value} {a : Option Addr} {kd : IntKind} {i : Int} (el : El P t e zs 1 bytes) (hd : Nat.blt d n = true) (hx : ev l x = some (.slice a len cap)) (hy : ev l y = some (.int kd i))
    (hA : a = some ⟨b, o, none⟩) (h : 0 ≤ i ∧ i < len) (k : WL P n ops Q rest ((d, .pointer (some ⟨b, o + i.toNat, none⟩)) :: l) w) :
    WL P n ops Q (⟨some d, .indexAddr t x y, ty, pos, aft, none⟩ :: rest) l w := by subst hA; exact s_indexAddr1 el hd hx hy h k
theorem s_indexAddrP {x y : Operand} {t e size bytes b o len cap : Nat} {zs : List Value} {a : Option Addr} {kd : IntKind} {i : Int} (el : El P t e zs size bytes) (hd : Nat.blt d n = true) (hx : ev l x = some (.slice a len cap)) (hy : ev l y = some (.int kd i))
    (hA : a = some ⟨b, o, none⟩) (h : 0 ≤ i ∧ i < len) (k : WL P n ops Q rest ((d, .pointer (some ⟨b, o + i.toNat * size, none⟩)) :: l) w) :
    WL P n ops Q (⟨some d, .indexAddr t x y, ty, pos, aft, none⟩ :: rest) l w := by subst hA; exact s_indexAddr el hd hx hy h k
theorem s_slice_hi {x y : Operand} {t e size bytes len cap : Nat} {zs : List Value} {a : Option Addr} {kd : IntKind} {h : Int} (el : El P t e zs size bytes) (hd : Nat.blt d n = true) (hx : ev l x = some (.slice a len cap)) (hy : ev l y = some (.int kd h))
    (hb : 0 ≤ h ∧ h ≤ cap) (k : WL P n ops Q rest ((d, .slice a h.toNat cap) :: l) w) : WL P n ops Q (⟨some d, .slice t x none (some y) none, ty, pos, aft, none⟩ :: rest) l w := by
  obtain ⟨ii, hi, ⟨z, hz, hzc⟩, hsi, hby⟩ := el.hi
  have hA : (if cap = 0 then a else a.map fun x => x.add (0 * size)) = a := by
    cases a with
    | none => simp
    | some ad => simp [Addr.add]
  refine WL_val hd (fun ac ha => ?_) k
  simp [execOp, ha.eval hx, ha.eval hy, Instr.sliceAt, Instr.slice, run_underlying el.ht, Instr.sliceBounds, Instr.sliceBound, asIntOf, hb.1, hb.2, sizeOf, typeInfo, hi, hsi]
  intro h0
  cases a <;> simp [Addr.add]
theorem s_slice_lo {x y : Operand} {t e size bytes len cap b o : Nat} {zs : List Value} {kd : IntKind} {lo : Int} (el : El P t e zs size bytes) (hd : Nat.blt d n = true) (hx : ev l x = some (.slice (some ⟨b, o, none⟩) len cap)) (hy : ev l y = some (.int kd lo))
    (hb : 0 ≤ lo ∧ lo ≤ len) (k : WL P n ops Q rest ((d, .slice (some ⟨b, (if cap = lo.toNat then o else o + lo.toNat * size), none⟩) (len - lo.toNat) (cap - lo.toNat)) :: l) w) : WL P n ops Q (⟨some d, .slice t x (some y) none none, ty, pos, aft, none⟩ :: rest) l w := by
  obtain ⟨ii, hi, ⟨z, hz, hzc⟩, hsi, hby⟩ := el.hi
  refine WL_val hd (fun ac ha => ?_) k
  simp [execOp, ha.eval hx, ha.eval hy, Instr.sliceAt, Instr.slice, run_underlying el.ht, Instr.sliceBounds, Instr.sliceBound, asIntOf, hb.1, hb.2, sizeOf, typeInfo, hi, hsi, Addr.add_lit]
  split <;> rfl
/-! ### append, copy, clear on owned rows -/
/-- append to a slice that owns its row, wherever its blocks stand in the list -/
theorem s_appendM {x y : Operand} {t e size bytes m q : Nat} {zs cs news : List Value} {v u : Value} {Lv : Hp} (el : El P t e zs size bytes) (hd : Nat.blt d n = true) (hx : ev l x = some v) (hy : ev l y = some u)
    (hv : OwnS e size v m cs Lv) (hs : St F w0 w (M ++ (Lv ++ X))) (hu : Sl w u q news) (hl : news.length = q * size) (h1 : ∀ c ∈ news, c.oneCell' = true) (h63 : m + q ≤ 9223372036854775807 ∧ (m + q) * bytes ≤ 140737488355328)
    (k : ∀ v' w' Lv', OwnS e size v' (m + q) (cs ++ news) Lv' → St F w0 w' (M ++ (Lv' ++ X)) → WL P n ops Q rest ((d, v') :: l) w') :
    WL P n ops Q (⟨some d, .call { callee := .builtin .append, args := #[x, y], argTypes := #[t, t] }, ty, pos, aft, none⟩ :: rest) l w :=
  s_append el hd hx hy hv hs.pull hu hl h1 h63 fun v' w' Lv' ho hst => k v' w' Lv' ho hst.pull
theorem made_length (zs : List Value) : ∀ m, (made zs m).length = m * zs.length
  | 0 => by simp [made]
  | m + 1 => by simp [made, made_length zs m, Nat.add_mul]; omega
theorem made_one (z : Value) : ∀ m, made [z] m = List.replicate m z
  | 0 => rfl
  | m + 1 => by simp [made, made_one z m, List.replicate_succ]
/-! ### bytes and strings -/
def strOf (bs : List Int) : ByteArray := bs.foldl (fun r m => r.push (UInt8.ofNat m.toNat)) ByteArray.empty
theorem s_bytes_str {x : Operand} {t e t' m : Nat} {v : Value} {bs : List Int} (hu : P.underlying t = some (.slice e)) (he : P.underlying e = some (.int .u8)) (hu' : P.underlying t' = some .string) (hd : Nat.blt d n = true) (hx : ev l x = some v) (hv : Sl w v m (bs.map (Value.int .u8))) (hl : bs.length = m)
    (k : WL P n ops Q rest ((d, .string (strOf bs)) :: l) w) : WL P n ops Q (⟨some d, .convert t t' x, ty, pos, aft, none⟩ :: rest) l w := by
  obtain ⟨a, c, rfl, hc, hsrc⟩ := hv
  refine WL_val hd (fun ac ha => ?_) k
  have h1 := run_convert_bytes_string (P := P) w t t' e a m c hu he hu'
  cases a with
  | none =>
    have hn : bs = [] := by rcases hsrc with h | ⟨b, o, h, _⟩ <;> simp_all
    subst hn
    simp [execOp, ha.eval hx, h1, Conv.bytesToString, strOf]
  | some ad =>
    have hnews : ∀ j u, (bs.map (Value.int .u8))[j]? = some u → w.cell? (ad.add j) = some u := by
      intro j u hj
      rcases hsrc with h | ⟨b, o, h, hh⟩
      · rw [h] at hj; simp at hj
      · cases h; rw [Addr.add_lit]; exact hh j u hj
    have h2 := run_loadCells_list (P := P) w ad _ hnews
    rw [List.length_map, hl] at h2
    have h3 := run_bytesToString (P := P) w ad m c bs h2
    simp [execOp, ha.eval hx, h1, h3, strOf]
/-! ### comparisons -/
theorem equalIn_ptr_nil {t e : Nat} {a : Option Addr} (hu : P.underlying t = some (.pointer e)) (dd : Nat) (w : World) : (Op.equalIn (dd + 1) t (.pointer a) (.pointer none)).run P w = .ok a.isNone w := by
  cases a <;> simp [Op.equalIn, run_underlying hu]
theorem equalIn_bool {t : Nat} {p q : Bool} (hu : P.underlying t = some .bool) (dd : Nat) (w : World) : (Op.equalIn (dd + 1) t (.bool p) (.bool q)).run P w = .ok (p == q) w := by
  simp [Op.equalIn, run_underlying hu]
theorem eql_of {t : Nat} {x y : Value} {b : Bool} {w : World} (h : (Op.equalIn (9999 + 1) t x y).run P w = .ok b w) : (Op.equal t x y).run P w = .ok b w := h
theorem s_eql_ptr_nil {x y : Operand} {t e t' : Nat} {a : Addr} (hu : P.underlying t = some (.pointer e)) (hd : Nat.blt d n = true) (hx : ev l x = some (.pointer (some a))) (hy : ev l y = some (.pointer none)) (k : WL P n ops Q rest ((d, .bool false) :: l) w) :
    WL P n ops Q (⟨some d, .binOp .eql t x y t', ty, pos, aft, none⟩ :: rest) l w :=
  WL_val hd (fun ac ha => by have h := eql_of (equalIn_ptr_nil (a := some a) hu 9999 w); simp [execOp, ha.eval hx, ha.eval hy, eqGuard, binOp, h]) k
theorem s_eql_bool {x y : Operand} {t t' : Nat} {p q : Bool} (hu : P.underlying t = some .bool) (hd : Nat.blt d n = true) (hx : ev l x = some (.bool p)) (hy : ev l y = some (.bool q)) (k : WL P n ops Q rest ((d, .bool (p == q)) :: l) w) :
    WL P n ops Q (⟨some d, .binOp .eql t x y t', ty, pos, aft, none⟩ :: rest) l w :=
  WL_val hd (fun ac ha => by have h := eql_of (equalIn_bool (p := p) (q := q) hu 9999 w); simp [execOp, ha.eval hx, ha.eval hy, eqGuard, binOp, h]) k
/-! ### calls by contract: the blocks L1 are lent, L' come back -/
theorem s_callL {f : Nat} {xs : List Operand} {vs : List Value} {ts : Array TypeId} {L1 : Hp} {R : Value → World → Hp → Prop} (hcall : ∀ args w, (callFunc f args).run P w = .ok (.enter f args) w) (hd : Nat.blt d n = true) (hx : evs l xs = some vs)
    (hs : St F w0 w (M ++ (L1 ++ X))) (hc : St (ids L1) w w L1 → Ret P f vs.toArray w fun v w' => ∃ L', St (ids L1) w w' L' ∧ R v w' L') (k : ∀ v w' L', R v w' L' → Fwd (ids L1) w w' → St F w0 w' (M ++ (L' ++ X)) → WL P n ops Q rest ((d, v) :: l) w') :
    WL P n ops Q (⟨some d, .call { callee := .value (.func f), args := xs.toArray, argTypes := ts }, ty, pos, aft, none⟩ :: rest) l w :=
  s_call hcall hd hx (hc hs.lendM) fun v w' ⟨L', h1, h2⟩ => k v w' L' h2 h1.fwd (hs.backM h1)
end
end Go.SL
