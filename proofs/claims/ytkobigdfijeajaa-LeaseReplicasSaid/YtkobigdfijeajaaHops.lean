/- Rules of the operations that read, write or make memory, of calls, and of a function's end. No program in sight. -/
import Derived.Test.YtkobigdfijeajaaMem
set_option linter.unusedVariables false
set_option linter.unusedSimpArgs false
namespace Go.SL
/-- a slice value that reads as n elements, their cells cs -/
def Sl (w : World) (v : Value) (n : Nat) (cs : List Value) : Prop :=
  ∃ a c, v = .slice a n c ∧ n ≤ c ∧ (cs = [] ∨ ∃ b o, a = some ⟨b, o, none⟩ ∧ ∀ j u, cs[j]? = some u → w.cell? ⟨b, o + j, none⟩ = some u)
/-- a slice value of n elements (size cells each) that owns its array: without room, or the head of an owned block -/
def OwnS (e size : Nat) (v : Value) (n : Nat) (cs : List Value) (Lv : Hp) : Prop :=
  cs.length = n * size ∧ (((∃ a, v = .slice a 0 0) ∧ n = 0 ∧ Lv = []) ∨
    ∃ g cap sp, v = .slice (some ⟨g, 0, none⟩) n cap ∧ n ≤ cap ∧ cap ≤ maxLen ∧ (cs ++ sp).length = cap * size ∧ Lv = [(g, Blk e (cs ++ sp))])
/-- the slice type t has elements of type e: their zero's cells, how many, how many bytes -/
structure El (P : Program) (t e : TypeId) (zs : List Value) (size bytes : Nat) : Prop where
  ht : P.underlying t = some (.slice e)
  hi : ∃ i, P.info? e = some i ∧ (∃ z, i.zero = some z ∧ z.cells = zs.toArray) ∧ i.size = size ∧ i.bytes = bytes
  hsz : 0 < size
  hzs : zs.length = size
theorem OwnS.nil (e size : Nat) : OwnS e size (.slice none 0 0) 0 [] [] := ⟨by simp, .inl ⟨⟨_, rfl⟩, rfl, rfl⟩⟩
theorem OwnS.bare (e size : Nat) (a : Option Addr) : OwnS e size (.slice a 0 0) 0 [] [] := ⟨by simp, .inl ⟨⟨_, rfl⟩, rfl, rfl⟩⟩
section
variable {F : List Nat} {w0 w w' : World} {L M : Hp}
theorem St.grown {Lv : Hp} {row : Option Nat} {g : Nat} {o : Obj} (hs : St F w0 w (Lv ++ M)) (hg : w.grownBy w' row) (hrow : ∀ k, row = some k → k ∈ ids Lv)
    (ho : w'.heap[g]? = some o) (hid : g ∈ ids Lv ∨ w.heap.size ≤ g) : St F w0 w' ((g, o) :: M) :=
  St.back (L' := [(g, o)]) hs ⟨⟨hg.os, hg.tape, hg.output, hg.size, fun k hk hF => hg.block k hk fun e => hF (hrow k e.symm)⟩, by simp [ids], by simpa using ho, by simpa using hid⟩
theorem OwnS.sl {e size n : Nat} {v : Value} {cs : List Value} {Lv : Hp} (h : OwnS e size v n cs Lv) (hs : St F w0 w (Lv ++ M)) : Sl w v n cs := by
  obtain ⟨hl, h⟩ := h
  rcases h with ⟨⟨a, rfl⟩, rfl, _⟩ | ⟨g, cap, sp, rfl, h2, h3, h4, rfl⟩
  · exact ⟨a, 0, rfl, Nat.le_refl _, .inl (List.eq_nil_of_length_eq_zero (by simpa using hl))⟩
  · refine ⟨_, cap, rfl, h2, .inr ⟨g, 0, rfl, fun j u hj => ?_⟩⟩
    have hlt : j < cs.length := (List.getElem?_eq_some_iff.1 hj).1
    exact hs.cell (k := 0) (e := e) (fz := (0, 0)) (cs := cs ++ sp) (by simp) (by rw [Nat.zero_add, List.getElem?_append_left hlt]; exact hj)
/-- what append's second argument yields -/
structure Src (P : Program) (w : World) (u : TypeId) (x : Value) (m size : Nat) (news : List Value) : Prop where
  kind : (∃ e, P.underlying u = some (.slice e)) ∨ P.underlying u = some .string
  len : ∀ w', (Builtin.lenOf x).run P w' = .ok m w'
  cells : ∀ w', w'.heap = w.heap → (Builtin.firstCells size m x).run P w' = .ok news.toArray w'
theorem Sl.src {P : Program} {u e m size : Nat} {x : Value} {news : List Value} (hu : P.underlying u = some (.slice e)) (h : Sl w x m news) (hl : news.length = m * size) : Src P w u x m size news := by
  obtain ⟨a, c, rfl, hc, hsrc⟩ := h
  refine ⟨.inl ⟨e, hu⟩, fun w' => by simp [Builtin.lenOf], fun w' hw => ?_⟩
  cases a with
  | none =>
    have hn : news = [] := by rcases hsrc with h | ⟨b, o, h, _⟩ <;> simp_all
    subst hn; simp [Builtin.firstCells]
  | some ad =>
    have hnews : ∀ j u, news[j]? = some u → w'.cell? (ad.add j) = some u := by
      intro j u hj
      rcases hsrc with h | ⟨b, o, h, hh⟩
      · subst h; simp at hj
      · cases h; rw [Addr.add_lit, World.cell?_of_block (w := w) (by rw [hw])]; exact hh j u hj
    exact run_firstCells_some (P := P) w' size m ad m c news hl hnews
theorem Src.str {P : Program} {u : Nat} (hu : P.underlying u = some .string) (s : ByteArray) : Src P w u (.string s) s.size 1 (s.data.toList.map fun b => Value.int .u8 b.toNat) := by
  refine ⟨.inr hu, fun w' => by simp [Builtin.lenOf], fun w' _ => ?_⟩
  have hx : (s.extract 0 s.size).data = s.data := by rw [ByteArray.data_extract]; exact Array.extract_size
  have hy : s.data.map (fun b => Value.int .u8 (b.toNat : Int)) = (s.data.toList.map fun b => Value.int .u8 (b.toNat : Int)).toArray := by apply Array.toList_inj.1; simp only [Array.toList_map]
  simp only [Builtin.firstCells, Sem.run_pure, hx, hy]
theorem run_append_S {P : Program} {t u e ty size bytes n m : Nat} {zs cs news : List Value} {v x : Value} {Lv : Hp} (el : El P t e zs size bytes) (hv : OwnS e size v n cs Lv) (hs : St F w0 w (Lv ++ M))
    (hx : Src P w u x m size news) (hl : news.length = m * size) (h1 : ∀ u ∈ news, u.oneCell' = true) (h63 : n + m ≤ 9223372036854775807) (hb : (n + m) * bytes ≤ 140737488355328) :
    ∃ v' w' Lv', (Builtin.append_ #[t, u] ty #[v, x]).run P w = .ok v' w' ∧ OwnS e size v' (n + m) (cs ++ news) Lv' ∧ St F w0 w' (Lv' ++ M) := by
  obtain ⟨i, hi, ⟨z, hz, hzc⟩, rfl, rfl⟩ := el.hi
  have hsz := el.hsz
  have hzs : z.cells.size = i.size := by rw [hzc]; simpa using el.hzs
  have hcl := hv.1
  have hlen : (cs ++ news).length = (n + m) * i.size := by rw [List.length_append, hcl, hl, Nat.add_mul]
  have hg1 := hx.len w
  have hf0 := hx.cells w rfl
  have hf1 := hx.cells w.drew rfl
  have h63' : ¬ (9223372036854775807 < ((n : Int) + (m : Int))) := by omega
  -- the growing arm
  have grown : ∀ (a : Option Addr) (old : Nat), v = .slice a n old → old < n + m → (∀ w', w'.heap = w.heap → (Builtin.firstCells i.size n v).run P w' = .ok cs.toArray w') →
      ∃ v' w' Lv', (Builtin.append_ #[t, u] ty #[v, x]).run P w = .ok v' w' ∧ OwnS e i.size v' (n + m) (cs ++ news) Lv' ∧ St F w0 w' (Lv' ++ M) := by
    intro a old hva ho hold
    subst hva
    have hge := grownCap_ge w (n + m) old e
    have hcm : grownCap w (n + m) old e ≤ maxLen := grownCap_le_maxLen w (n + m) old e (by simpa [maxLen] using h63)
    have hn : ¬ (n + m ≤ old) := by omega
    have h48' : ¬ (281474976710656 < Builtin.nextslicecap (n + m) old * i.bytes) := by have := growslice_fits (old := old) (by omega) hb; omega
    have ho1 := hold w.drew rfl
    refine ⟨.slice (some ⟨w.heap.size, 0, none⟩) (n + m) (grownCap w (n + m) old e), w.drew.alloc (Blk e (cs ++ news ++ (Builtin.zeroCells z.cells (grownCap w (n + m) old e - (n + m))).toList)), [(w.heap.size, Blk e (cs ++ news ++ (Builtin.zeroCells z.cells (grownCap w (n + m) old e - (n + m))).toList))], ?_, ⟨hlen, .inr ⟨w.heap.size, _, _, rfl, hge, hcm, ?_, rfl⟩⟩, ?_⟩
    · rcases hx.kind with ⟨e', hu⟩ | hu <;>
      · simp [Builtin.append_, run_underlying el.ht, run_underlying hu, sizeOf, typeInfo, zeroValue, hi, hz, hg1, hn, h63', h48', Question.forced, hf1, ho1, newRow, grownCap]
        congr 2
        apply Array.ext'
        simp [List.append_assoc]
    · rw [List.length_append, hlen, Array.length_toList, size_zeroCells, hzs, ← Nat.add_mul]
      congr 1; omega
    · exact (hs.right.drew).alloc _
  rcases hv.2 with ⟨⟨a, rfl⟩, rfl, rfl⟩ | ⟨g, cap, sp, rfl, h2, h3, h4, rfl⟩
  · have hcs : cs = [] := List.eq_nil_of_length_eq_zero (by simpa using hcl)
    subst hcs
    by_cases hm : m = 0
    · subst hm
      have hn : news = [] := List.eq_nil_of_length_eq_zero (by simpa using hl)
      subst hn
      refine ⟨_, w, [], ?_, OwnS.bare _ _ a, hs⟩
      rcases hx.kind with ⟨e', hu⟩ | hu <;> cases a <;>
        simp [Builtin.append_, run_underlying el.ht, run_underlying hu, sizeOf, typeInfo, hi, hg1, hf0, storeCells]
    · refine grown a 0 rfl (by omega) (fun w' _ => ?_)
      cases a <;> simp [Builtin.firstCells, loadCells, loadCellsFrom]
  · by_cases hroom : n + m ≤ cap
    · have hgg : w.heap[g]? = some (Blk e (cs ++ sp)) := hs.own (g, _) (by simp)
      have hfit : n * i.size + news.length ≤ (cs ++ sp).length := by rw [hl, h4, ← Nat.add_mul]; exact Nat.mul_le_mul_right _ hroom
      have hst := run_storeCells_at P g (n * i.size) e news 0 (cs ++ sp).toArray w hgg (by simpa using hfit) h1
      simp only [Nat.add_zero, List.toList_toArray] at hst
      have htk : (cs ++ sp).take (n * i.size) = cs := by rw [← hcl]; exact List.take_left
      rw [htk] at hst
      refine ⟨.slice (some ⟨g, 0, none⟩) (n + m) cap, w.setRow g (cs ++ news ++ (cs ++ sp).drop (n * i.size + news.length)).toArray, [(g, Blk e (cs ++ news ++ (cs ++ sp).drop (n * i.size + news.length)))], ?_, ⟨hlen, .inr ⟨g, cap, (cs ++ sp).drop (n * i.size + news.length), rfl, hroom, h3, ?_, rfl⟩⟩, ?_⟩
      · rcases hx.kind with ⟨e', hu⟩ | hu <;>
          simp [Builtin.append_, run_underlying el.ht, run_underlying hu, sizeOf, typeInfo, hi, hg1, hroom, hf0, Addr.add_lit, hst]
      · simp only [List.length_append, List.length_drop] at hfit h4 ⊢; omega
      · have := St.setRow (k := 0) (L := [(g, Blk e (cs ++ sp))] ++ M) hs rfl (cs ++ news ++ (cs ++ sp).drop (n * i.size + news.length)).toArray
        simpa using this
    · refine grown (some ⟨g, 0, none⟩) cap rfl (by omega) (fun w' hw => ?_)
      have hgg : w'.heap[g]? = some (Blk e (cs ++ sp)) := by rw [hw]; exact hs.own (g, _) (by simp)
      refine run_firstCells_some (P := P) w' i.size n ⟨g, 0, none⟩ n cap cs hcl (fun j u hj => ?_)
      have hlt : j < cs.length := (List.getElem?_eq_some_iff.1 hj).1
      rw [Addr.add_lit, cell_of_row w' g (0 + j) (cs ++ sp).toArray e (0, 0) hgg]
      simp [List.getElem?_append_left hlt, hj]
end
section
variable {P : Program} {n : Nat} {ops : Array Oper} {Q : Post} {l : Fr} {w : World} {rest : List Oper} {d ty : Nat} {pos : String} {aft : Array Edge} {F : List Nat} {w0 : World} {L : Hp}
theorem s_fieldAddr {x : Operand} {s f : Nat} {p v : Value} (hd : Nat.blt d n = true) (hx : ev l x = some p) (hr : ∀ w, (Instr.fieldAt s p f).run P w = .ok v w) (k : WL P n ops Q rest ((d, v) :: l) w) :
    WL P n ops Q (⟨some d, .fieldAddr s x f, ty, pos, aft, none⟩ :: rest) l w := WL_val hd (fun a ha => by simp [execOp, ha.eval hx, hr]) k
theorem s_convert {x : Operand} {s t : Nat} {p v : Value} (hd : Nat.blt d n = true) (hx : ev l x = some p) (hr : ∀ w, (convert s t p).run P w = .ok v w) (k : WL P n ops Q rest ((d, v) :: l) w) :
    WL P n ops Q (⟨some d, .convert s t x, ty, pos, aft, none⟩ :: rest) l w := WL_val hd (fun a ha => by simp [execOp, ha.eval hx, hr]) k
theorem s_build {t : Nat} {ps : List (Nat × Operand)} {vs : List (Nat × Value)} {v : Value} (hd : Nat.blt d n = true) (hx : evp l ps = some vs) (hr : ∀ w, (Instr.build t vs.toArray).run P w = .ok v w) (k : WL P n ops Q rest ((d, v) :: l) w) :
    WL P n ops Q (⟨some d, .build t ps.toArray, ty, pos, aft, none⟩ :: rest) l w := WL_val hd (fun a ha => by simp [execOp, evp_eval ha hx, hr]) k
theorem s_len {x : Operand} {t : Nat} {p v : Value} (hd : Nat.blt d n = true) (hx : ev l x = some p) (hr : ∀ w, (Builtin.len_ #[t] ty #[p]).run P w = .ok v w) (k : WL P n ops Q rest ((d, v) :: l) w) :
    WL P n ops Q (⟨some d, .call { callee := .builtin .len, args := #[x], argTypes := #[t] }, ty, pos, aft, none⟩ :: rest) l w :=
  WL_val hd (fun a ha => by simp [execOp, resolve, invoke, builtin, ha.eval hx, hr]) k
theorem s_min {x y : Operand} {t u : Nat} {kd : IntKind} {p q : Int} (hd : Nat.blt d n = true) (hx : ev l x = some (.int kd p)) (hy : ev l y = some (.int kd q)) (k : WL P n ops Q rest ((d, .int kd (if q < p then q else p)) :: l) w) :
    WL P n ops Q (⟨some d, .call { callee := .builtin .min, args := #[x, y], argTypes := #[t, u] }, ty, pos, aft, none⟩ :: rest) l w :=
  WL_val hd (fun a ha => by simp [execOp, resolve, invoke, builtin, ha.eval hx, ha.eval hy, Builtin.min_, Builtin.min2]) k

/-! ### new memory -/
theorem s_alloc {t : Nat} {zs : List Value} (hd : Nat.blt d n = true) (hz : ∀ w, (Instr.alloc t true (.tuple #[])).run P w = .ok (.pointer (some ⟨w.heap.size, 0, none⟩)) (w.alloc (Blk t zs))) (hs : St F w0 w L)
    (k : ∀ b w', St F w0 w' ((b, Blk t zs) :: L) → WL P n ops Q rest ((d, .pointer (some ⟨b, 0, none⟩)) :: l) w') :
    WL P n ops Q (⟨some d, .alloc t, ty, pos, aft, none⟩ :: rest) l w := WL_val hd (fun a ha => by simp [execOp, hz]) (k _ _ (hs.alloc _))
theorem s_box {t : Nat} {x : Operand} {cs : List Value} (hd : Nat.blt d n = true) (hx : ev l x = some (.agg cs.toArray)) (hs : St F w0 w L)
    (k : ∀ b w', St F w0 w' ((b, Blk t cs) :: L) → WL P n ops Q rest ((d, .pointer (some ⟨b, 0, none⟩)) :: l) w') :
    WL P n ops Q (⟨some d, .box t x, ty, pos, aft, none⟩ :: rest) l w := WL_val hd (fun a ha => by simp [execOp, ha.eval hx, Instr.box, newVar, newRow, newObj, Sem.run, Value.cells]) (k _ _ (hs.alloc _))
theorem s_box1 {t : Nat} {x : Operand} {v : Value} (hd : Nat.blt d n = true) (hx : ev l x = some v) (h1 : v.oneCell' = true) (hs : St F w0 w L)
    (k : ∀ b w', St F w0 w' ((b, Blk t [v]) :: L) → WL P n ops Q rest ((d, .pointer (some ⟨b, 0, none⟩)) :: l) w') :
    WL P n ops Q (⟨some d, .box t x, ty, pos, aft, none⟩ :: rest) l w := WL_val hd (fun a ha => by
      have hv : v.cells = #[v] := by cases v <;> simp_all [Value.cells, Value.oneCell']
      simp [execOp, ha.eval hx, Instr.box, newVar, newRow, newObj, Sem.run, hv]) (k _ _ (hs.alloc _))
theorem s_buildSlice {t e m : Nat} {ps : List (Nat × Operand)} {vs : List (Nat × Value)} {cs : List Value} (hd : Nat.blt d n = true) (hx : evp l ps = some vs)
    (hr : ∀ w, (Instr.buildSlice t m vs.toArray).run P w = .ok (.slice (some ⟨w.heap.size, 0, none⟩) m m) (w.alloc (Blk e cs))) (hs : St F w0 w L)
    (k : ∀ b w', St F w0 w' ((b, Blk e cs) :: L) → WL P n ops Q rest ((d, .slice (some ⟨b, 0, none⟩) m m) :: l) w') :
    WL P n ops Q (⟨some d, .buildSlice t m ps.toArray, ty, pos, aft, none⟩ :: rest) l w := WL_val hd (fun a ha => by simp [execOp, evp_eval ha hx, hr]) (k _ _ (hs.alloc _))
/-- the cells that 'make' lays -/
def made (zs : List Value) : Nat → List Value
  | 0 => []
  | m + 1 => zs ++ made zs m
theorem madeCells_made (zs : List Value) (m : Nat) (h0 : 0 < zs.length) : madeCells zs.toArray (m * zs.length) = (made zs m).toArray := by
  unfold madeCells
  have key : ∀ m, ((Array.range (m * zs.length)).map fun i => zs.toArray[i % zs.toArray.size]!).toList = made zs m := by
    intro m
    induction m with
    | zero => simp [made]
    | succ m ih =>
      simp only [Array.toList_map, Array.toList_range, made] at ih ⊢
      rw [show (m + 1) * zs.length = zs.length + m * zs.length by rw [Nat.add_mul]; omega, List.range_add, List.map_append, List.map_map]
      congr 1
      · apply List.ext_getElem
        · simp
        · intro j h1 h2
          simp at h1
          simp [Nat.mod_eq_of_lt h1, h1]
      · rw [← ih]
        apply List.map_congr_left
        intro j _
        simp
  exact Array.toList_inj.1 (by rw [key])
theorem s_makeSlice {t e size bytes : Nat} {zs : List Value} {x y : Operand} {ka kb : IntKind} {len cap : Int} (el : El P t e zs size bytes) (hd : Nat.blt d n = true) (hx : ev l x = some (.int ka len)) (hy : ev l y = some (.int kb cap))
    (h0 : 0 ≤ len ∧ len ≤ cap ∧ bytes * cap ≤ 281474976710656 ∧ cap ≤ 9223372036854775807) (hs : St F w0 w L)
    (k : ∀ b w', St F w0 w' ((b, Blk e (made zs cap.toNat)) :: L) → WL P n ops Q rest ((d, .slice (some ⟨b, 0, none⟩) len.toNat cap.toNat) :: l) w') :
    WL P n ops Q (⟨some d, .makeSlice t x y, ty, pos, aft, none⟩ :: rest) l w := by
  obtain ⟨i, hi, ⟨z, hz, hzc⟩, hsi, hby⟩ := el.hi
  have hr := run_make (P := P) w t e i z el.ht hi hz ka kb len cap h0.1 h0.2.1 (by rw [hby]; exact h0.2.2.1) h0.2.2.2
  rw [hzc, hsi, ← el.hzs, madeCells_made zs _ (by have := el.hsz; have := el.hzs; omega)] at hr
  exact WL_val hd (fun a ha => by simp [execOp, ha.eval hx, ha.eval hy, hr]) (k _ _ (hs.alloc _))

/-! ### loads and stores -/
theorem s_load {x : Operand} {t : Nat} {ad : Addr} {v : Value} (hA : ∀ w, (isAgg t).run P w = .ok false w) (hd : Nat.blt d n = true) (hx : ev l x = some (.pointer (some ad))) (hc : w.cell? ad = some v) (k : WL P n ops Q rest ((d, v) :: l) w) :
    WL P n ops Q (⟨some d, .load t x, ty, pos, aft, none⟩ :: rest) l w :=
  WL_val hd (fun a ha => by simp [execOp, ha.eval hx, Instr.loadAt, Instr.sureAddr, loadVar, hA, load, Sem.run, hc]) k
theorem s_loadA {x : Operand} {t m b i : Nat} {cs : List Value} (hA : ∀ w, (isAgg t).run P w = .ok true w) (hS : ∀ w, (sizeOf t).run P w = .ok m w) (hd : Nat.blt d n = true) (hx : ev l x = some (.pointer (some ⟨b, i, none⟩)))
    (hl : cs.length = m) (hc : ∀ j u, cs[j]? = some u → w.cell? ⟨b, i + j, none⟩ = some u) (k : WL P n ops Q rest ((d, .agg cs.toArray) :: l) w) :
    WL P n ops Q (⟨some d, .load t x, ty, pos, aft, none⟩ :: rest) l w := by
  subst hl
  have := run_loadCells_list (P := P) w ⟨b, i, none⟩ cs (fun j u hj => by rw [Addr.add_lit]; exact hc j u hj)
  exact WL_val hd (fun a ha => by simp [execOp, ha.eval hx, Instr.loadAt, Instr.sureAddr, loadVar, hA, hS, this]) k
/-- a whole block -/
theorem s_loadW {x : Operand} {t m b e kk : Nat} {fz : Nat × Nat} {cs : List Value} (hA : ∀ w, (isAgg t).run P w = .ok true w) (hS : ∀ w, (sizeOf t).run P w = .ok m w) (hd : Nat.blt d n = true) (hx : ev l x = some (.pointer (some ⟨b, 0, none⟩)))
    (hs : St F w0 w L) (hk : L[kk]? = some (b, .cells cs.toArray e fz)) (hl : cs.length = m) (k : WL P n ops Q rest ((d, .agg cs.toArray) :: l) w) :
    WL P n ops Q (⟨some d, .load t x, ty, pos, aft, none⟩ :: rest) l w :=
  s_loadA hA hS hd hx hl (fun j u hj => by rw [Nat.zero_add]; exact hs.cell hk hj) k
theorem s_store {x y : Operand} {t kk b i e : Nat} {cs : List Value} {v : Value} (hS : ∀ w, (sizeOf t).run P w = .ok 1 w) (hx : ev l x = some (.pointer (some ⟨b, i, none⟩))) (hy : ev l y = some v) (h1 : v.oneCell' = true)
    (hs : St F w0 w L) (hk : L[kk]? = some (b, Blk e cs)) (hi : i < cs.length) (k : ∀ w', St F w0 w' (L.set kk (b, Blk e (cs.set i v))) → WL P n ops Q rest l w') :
    WL P n ops Q (⟨none, .store t x y, ty, pos, aft, none⟩ :: rest) l w := by
  have hv : v.cells = #[v] := by cases v <;> simp_all [Value.cells, Value.oneCell']
  have hr := run_storeCells_at P b i e [v] 0 cs.toArray w (hs.at hk) (by simp; omega) (by simpa using h1)
  have hset : (List.take (i + 0) cs ++ [v] ++ List.drop (i + 0 + 1) cs) = cs.set i v := by simp [List.set_eq_take_append_cons_drop, hi]
  have hst := hs.setRow hk (cs.set i v).toArray
  refine WL_skip0 (fun a ha => ?_) (k _ hst)
  simp only [List.toList_toArray, List.length_singleton, hset] at hr
  simp [execOp, ha.eval hx, ha.eval hy, Instr.storeAt, Instr.sureAddr, storeVar, hS, hv, hr]
def splice (cs : List Value) (i : Nat) (vs : List Value) : List Value := cs.take i ++ vs ++ cs.drop (i + vs.length)
theorem s_storeA {x y : Operand} {t m kk b i e : Nat} {cs vs : List Value} (hS : ∀ w, (sizeOf t).run P w = .ok m w) (hx : ev l x = some (.pointer (some ⟨b, i, none⟩))) (hy : ev l y = some (.agg vs.toArray)) (h1 : ∀ u ∈ vs, u.oneCell' = true)
    (hl : vs.length = m) (hs : St F w0 w L) (hk : L[kk]? = some (b, Blk e cs)) (hi : i + vs.length ≤ cs.length) (k : ∀ w', St F w0 w' (L.set kk (b, Blk e (splice cs i vs))) → WL P n ops Q rest l w') :
    WL P n ops Q (⟨none, .store t x y, ty, pos, aft, none⟩ :: rest) l w := by
  have hr := run_storeCells_at P b i e vs 0 cs.toArray w (hs.at hk) (by simpa using hi) h1
  have hst := hs.setRow hk (splice cs i vs).toArray
  refine WL_skip0 (fun a ha => ?_) (k _ hst)
  simp only [List.toList_toArray, Nat.add_zero] at hr
  simp [execOp, ha.eval hx, ha.eval hy, Instr.storeAt, Instr.sureAddr, storeVar, hS, Value.cells, hl, hr, splice]
/-- a whole block -/
theorem s_storeW {x y : Operand} {t m kk b e : Nat} {cs vs : List Value} (hS : ∀ w, (sizeOf t).run P w = .ok m w) (hx : ev l x = some (.pointer (some ⟨b, 0, none⟩))) (hy : ev l y = some (.agg vs.toArray)) (h1 : vs.all Value.oneCell' = true)
    (hl : vs.length = m) (hs : St F w0 w L) (hk : L[kk]? = some (b, Blk e cs)) (hi : cs.length = m) (k : ∀ w', St F w0 w' (L.set kk (b, Blk e vs)) → WL P n ops Q rest l w') :
    WL P n ops Q (⟨none, .store t x y, ty, pos, aft, none⟩ :: rest) l w :=
  s_storeA hS hx hy (fun u hu => List.all_eq_true.1 h1 u hu) hl hs hk (by omega) (by
    have : splice cs 0 vs = vs := by simp [splice]; omega
    rw [this]; exact k)

theorem s_storeB {x y : Operand} {t kk b i e : Nat} {cs : List Value} {v : Value} (hS : ∀ w, (sizeOf t).run P w = .ok 1 w) (hx : ev l x = some (.pointer (some ⟨b, i, none⟩))) (hy : ev l y = some v) (h1 : v.oneCell' = true)
    (hs : St F w0 w L) (hk : L[kk]? = some (b, Blk e cs)) (hi : Nat.blt i cs.length = true) (k : ∀ w', St F w0 w' (L.set kk (b, Blk e (cs.set i v))) → WL P n ops Q rest l w') :
    WL P n ops Q (⟨none, .store t x y, ty, pos, aft, none⟩ :: rest) l w := s_store hS hx hy h1 hs hk (by simpa [Nat.blt_eq] using hi) k
theorem s_storeAB {x y : Operand} {t m kk b i e : Nat} {cs vs : List Value} (hS : ∀ w, (sizeOf t).run P w = .ok m w) (hx : ev l x = some (.pointer (some ⟨b, i, none⟩))) (hy : ev l y = some (.agg vs.toArray)) (h1 : vs.all Value.oneCell' = true)
    (hl : vs.length = m) (hs : St F w0 w L) (hk : L[kk]? = some (b, Blk e cs)) (hi : Nat.ble (i + vs.length) cs.length = true) (k : ∀ w', St F w0 w' (L.set kk (b, Blk e (splice cs i vs))) → WL P n ops Q rest l w') :
    WL P n ops Q (⟨none, .store t x y, ty, pos, aft, none⟩ :: rest) l w := s_storeA hS hx hy (fun u hu => List.all_eq_true.1 h1 u hu) hl hs hk (Nat.le_of_ble_eq_true hi) k

/-! ### slices -/
theorem s_indexAddr {x y : Operand} {t e size bytes b o len cap : Nat} {zs : List Value} {kd : IntKind} {i : Int} (el : El P t e zs size bytes) (hd : Nat.blt d n = true) (hx : ev l x = some (.slice (some ⟨b, o, none⟩) len cap)) (hy : ev l y = some (.int kd i))
    (h : 0 ≤ i ∧ i < len) (k : WL P n ops Q rest ((d, .pointer (some ⟨b, o + i.toNat * size, none⟩)) :: l) w) :
    WL P n ops Q (⟨some d, .indexAddr t x y, ty, pos, aft, none⟩ :: rest) l w := by
  obtain ⟨ii, hi, ⟨z, hz, hzc⟩, hsi, hby⟩ := el.hi
  exact WL_val hd (fun a ha => by simp [execOp, ha.eval hx, ha.eval hy, Instr.indexAt, asIntOf, run_underlying el.ht, h.1, h.2, sizeOf, typeInfo, hi, hsi, Addr.add_lit]) k
theorem s_indexAddr1 {x y : Operand} {t e bytes b o len cap : Nat} {zs : List Value} {kd : IntKind} {i : Int} (el : El P t e zs 1 bytes) (hd : Nat.blt d n = true) (hx : ev l x = some (.slice (some ⟨b, o, none⟩) len cap)) (hy : ev l y = some (.int kd i))
    (h : 0 ≤ i ∧ i < len) (k : WL P n ops Q rest ((d, .pointer (some ⟨b, o + i.toNat, none⟩)) :: l) w) :
    WL P n ops Q (⟨some d, .indexAddr t x y, ty, pos, aft, none⟩ :: rest) l w := s_indexAddr el hd hx hy h (by rw [Nat.mul_one]; exact k)
theorem s_append {x y : Operand} {t e size bytes m q : Nat} {zs cs news : List Value} {v u : Value} {Lv M : Hp} (el : El P t e zs size bytes) (hd : Nat.blt d n = true) (hx : ev l x = some v) (hy : ev l y = some u)
    (hv : OwnS e size v m cs Lv) (hs : St F w0 w (Lv ++ M)) (hu : Sl w u q news) (hl : news.length = q * size) (h1 : ∀ c ∈ news, c.oneCell' = true) (h63 : m + q ≤ 9223372036854775807 ∧ (m + q) * bytes ≤ 140737488355328)
    (k : ∀ v' w' Lv', OwnS e size v' (m + q) (cs ++ news) Lv' → St F w0 w' (Lv' ++ M) → WL P n ops Q rest ((d, v') :: l) w') :
    WL P n ops Q (⟨some d, .call { callee := .builtin .append, args := #[x, y], argTypes := #[t, t] }, ty, pos, aft, none⟩ :: rest) l w := by
  obtain ⟨v', w', Lv', hr, ho, hst⟩ := run_append_S (ty := ty) el hv hs (hu.src el.ht hl) hl h1 h63.1 h63.2
  exact WL_val hd (fun a ha => by simp [execOp, resolve, invoke, builtin, ha.eval hx, ha.eval hy, hr]) (k v' w' Lv' ho hst)

/-! ### calls and ends -/
theorem s_call {f : Nat} {xs : List Operand} {vs : List Value} {ts : Array TypeId} {R : Value → World → Prop} (hcall : ∀ args w, (callFunc f args).run P w = .ok (.enter f args) w) (hd : Nat.blt d n = true) (hx : evs l xs = some vs)
    (hc : Ret P f vs.toArray w R) (k : ∀ v w', R v w' → WL P n ops Q rest ((d, v) :: l) w') :
    WL P n ops Q (⟨some d, .call { callee := .value (.func f), args := xs.toArray, argTypes := ts }, ty, pos, aft, none⟩ :: rest) l w := fun a ha =>
  wpList_plain rfl fun K hK => by
    unfold Oper.wp
    have : (execOp a.eval ⟨some d, .call { callee := .value (.func f), args := xs.toArray, argTypes := ts }, ty, pos, aft, none⟩).run P w = .ok (.enter f vs.toArray) w := by
      simp [execOp, resolve, evs_eval ha hx, Act.eval, Deferred.ofValue, invoke, hcall]
    rw [this]
    refine Calls.mono hc ?_
    rintro e w' ⟨v, rfl, hv⟩
    exact hK _ _ (k v w' hv _ (ha.put hd v))
end
section
variable {P : Program} {fn : Func} {n : Nat} {R : Value → World → Prop} {l : Fr} {w : World}
/-- one result of a function, as its frame holds it -/
def resOk (P : Program) (l : Fr) (w : World) : ResultVar → Value → Prop
  | .tmp t, v => get l t = some v
  | .cell t ty, v => ∃ ad, get l t = some (.pointer (some ad)) ∧ (loadVar ty ad).run P w = .ok v w
theorem Agr.getD {a : Act} {t : Nat} {v : Value} (h : Agr n l a) (ht : SL.get l t = some v) : a.tmps.getD t undef = v := by simp [Array.getD_eq_getD_getElem?, h.vals t v ht]
theorem end0' (hr : fn.results = #[]) (h : R (.tuple #[]) w) : endQ P fn n R .normal l w := fun a _ => ⟨_, results_none hr _ _ _, h⟩
theorem end1 {r : ResultVar} {v : Value} (hr : fn.results = #[r]) (hv : resOk P l w r v) (h : R v w) : endQ P fn n R .ret l w := fun a ha => by
  refine ⟨v, ?_, h⟩
  cases r with
  | tmp t => have h1 := ha.vals _ _ hv; simp [results, hr, h1]
  | cell t ty => obtain ⟨ad, h1, h2⟩ := hv; have h1 := ha.vals _ _ h1; simp [results, hr, h1, asAddr, h2]
theorem end2 {r s : ResultVar} {v u : Value} (hr : fn.results = #[r, s]) (hv : resOk P l w r v) (hu : resOk P l w s u) (h : R (.tuple #[v, u]) w) : endQ P fn n R .ret l w := fun a ha => by
  refine ⟨_, ?_, h⟩
  cases r with
  | tmp t =>
    have h1 := ha.vals _ _ hv
    cases s with
    | tmp t' => have h3 := ha.vals _ _ hu; simp [results, hr, h1, h3]
    | cell t' ty' => obtain ⟨ad', h3, h4⟩ := hu; have h3 := ha.vals _ _ h3; simp [results, hr, h1, h3, asAddr, h4]
  | cell t ty =>
    obtain ⟨ad, h1, h2⟩ := hv
    have h1 := ha.vals _ _ h1
    cases s with
    | tmp t' => have h3 := ha.vals _ _ hu; simp [results, hr, h1, h3, asAddr, h2]
    | cell t' ty' => obtain ⟨ad', h3, h4⟩ := hu; have h3 := ha.vals _ _ h3; simp [results, hr, h1, h3, asAddr, h2, h4]
/-- a struct result, a whole block -/
theorem resOk_block {F : List Nat} {w0 : World} {L : Hp} {t ty m b e kk : Nat} {fz : Nat × Nat} {cs : List Value} (hA : ∀ w, (isAgg ty).run P w = .ok true w) (hS : ∀ w, (sizeOf ty).run P w = .ok m w) (hs : St F w0 w L)
    (ht : get l t = some (.pointer (some ⟨b, 0, none⟩))) (hk : L[kk]? = some (b, .cells cs.toArray e fz)) (hl : cs.length = m) : resOk P l w (.cell t ty) (.agg cs.toArray) := by
  subst hl
  refine ⟨_, ht, ?_⟩
  have := run_loadCells_list (P := P) w ⟨b, 0, none⟩ cs (fun j u hj => by rw [Addr.add_lit, Nat.zero_add]; exact hs.cell hk hj)
  simp [loadVar, hA, hS, this]
end
section
variable {P : Program} {n : Nat} {ops : Array Oper} {Q : Post} {l : Fr} {w : World} {rest : List Oper} {d ty : Nat} {pos : String} {aft : Array Edge}
theorem s_load_3 {x : Operand} {t b i : Nat} {v0 v1 v2 : Value} (hA : ∀ w, (isAgg t).run P w = .ok true w) (hS : ∀ w, (sizeOf t).run P w = .ok 3 w) (hd : Nat.blt d n = true) (hx : ev l x = some (.pointer (some ⟨b, i, none⟩)))
    (h0 : w.cell? ⟨b, i + 0, none⟩ = some v0) (h1 : w.cell? ⟨b, i + 1, none⟩ = some v1) (h2 : w.cell? ⟨b, i + 2, none⟩ = some v2) (k : WL P n ops Q rest ((d, .agg #[v0, v1, v2]) :: l) w) :
    WL P n ops Q (⟨some d, .load t x, ty, pos, aft, none⟩ :: rest) l w :=
  s_loadA (cs := [v0, v1, v2]) hA hS hd hx rfl (fun j u hj => by
    match j, hj with
    | 0, hj => simp at hj; subst hj; exact h0
    | 1, hj => simp at hj; subst hj; exact h1
    | 2, hj => simp at hj; subst hj; exact h2
    | j + 3, hj => simp at hj) k
theorem s_load_4 {x : Operand} {t b i : Nat} {v0 v1 v2 v3 : Value} (hA : ∀ w, (isAgg t).run P w = .ok true w) (hS : ∀ w, (sizeOf t).run P w = .ok 4 w) (hd : Nat.blt d n = true) (hx : ev l x = some (.pointer (some ⟨b, i, none⟩)))
    (h0 : w.cell? ⟨b, i + 0, none⟩ = some v0) (h1 : w.cell? ⟨b, i + 1, none⟩ = some v1) (h2 : w.cell? ⟨b, i + 2, none⟩ = some v2) (h3 : w.cell? ⟨b, i + 3, none⟩ = some v3) (k : WL P n ops Q rest ((d, .agg #[v0, v1, v2, v3]) :: l) w) :
    WL P n ops Q (⟨some d, .load t x, ty, pos, aft, none⟩ :: rest) l w :=
  s_loadA (cs := [v0, v1, v2, v3]) hA hS hd hx rfl (fun j u hj => by
    match j, hj with
    | 0, hj => simp at hj; subst hj; exact h0
    | 1, hj => simp at hj; subst hj; exact h1
    | 2, hj => simp at hj; subst hj; exact h2
    | 3, hj => simp at hj; subst hj; exact h3
    | j + 4, hj => simp at hj) k
theorem s_load_6 {x : Operand} {t b i : Nat} {v0 v1 v2 v3 v4 v5 : Value} (hA : ∀ w, (isAgg t).run P w = .ok true w) (hS : ∀ w, (sizeOf t).run P w = .ok 6 w) (hd : Nat.blt d n = true) (hx : ev l x = some (.pointer (some ⟨b, i, none⟩)))
    (h0 : w.cell? ⟨b, i + 0, none⟩ = some v0) (h1 : w.cell? ⟨b, i + 1, none⟩ = some v1) (h2 : w.cell? ⟨b, i + 2, none⟩ = some v2) (h3 : w.cell? ⟨b, i + 3, none⟩ = some v3) (h4 : w.cell? ⟨b, i + 4, none⟩ = some v4) (h5 : w.cell? ⟨b, i + 5, none⟩ = some v5) (k : WL P n ops Q rest ((d, .agg #[v0, v1, v2, v3, v4, v5]) :: l) w) :
    WL P n ops Q (⟨some d, .load t x, ty, pos, aft, none⟩ :: rest) l w :=
  s_loadA (cs := [v0, v1, v2, v3, v4, v5]) hA hS hd hx rfl (fun j u hj => by
    match j, hj with
    | 0, hj => simp at hj; subst hj; exact h0
    | 1, hj => simp at hj; subst hj; exact h1
    | 2, hj => simp at hj; subst hj; exact h2
    | 3, hj => simp at hj; subst hj; exact h3
    | 4, hj => simp at hj; subst hj; exact h4
    | 5, hj => simp at hj; subst hj; exact h5
    | j + 6, hj => simp at hj) k
theorem s_load_7 {x : Operand} {t b i : Nat} {v0 v1 v2 v3 v4 v5 v6 : Value} (hA : ∀ w, (isAgg t).run P w = .ok true w) (hS : ∀ w, (sizeOf t).run P w = .ok 7 w) (hd : Nat.blt d n = true) (hx : ev l x = some (.pointer (some ⟨b, i, none⟩)))
    (h0 : w.cell? ⟨b, i + 0, none⟩ = some v0) (h1 : w.cell? ⟨b, i + 1, none⟩ = some v1) (h2 : w.cell? ⟨b, i + 2, none⟩ = some v2) (h3 : w.cell? ⟨b, i + 3, none⟩ = some v3) (h4 : w.cell? ⟨b, i + 4, none⟩ = some v4) (h5 : w.cell? ⟨b, i + 5, none⟩ = some v5) (h6 : w.cell? ⟨b, i + 6, none⟩ = some v6) (k : WL P n ops Q rest ((d, .agg #[v0, v1, v2, v3, v4, v5, v6]) :: l) w) :
    WL P n ops Q (⟨some d, .load t x, ty, pos, aft, none⟩ :: rest) l w :=
  s_loadA (cs := [v0, v1, v2, v3, v4, v5, v6]) hA hS hd hx rfl (fun j u hj => by
    match j, hj with
    | 0, hj => simp at hj; subst hj; exact h0
    | 1, hj => simp at hj; subst hj; exact h1
    | 2, hj => simp at hj; subst hj; exact h2
    | 3, hj => simp at hj; subst hj; exact h3
    | 4, hj => simp at hj; subst hj; exact h4
    | 5, hj => simp at hj; subst hj; exact h5
    | 6, hj => simp at hj; subst hj; exact h6
    | j + 7, hj => simp at hj) k
end
end Go.SL
