/- Append that leaves the old slice readable. No program in sight. -/
import Derived.Test.YtgppcfgnhahnaaaDoorLib
set_option linter.unusedVariables false
set_option linter.unusedSimpArgs false
namespace Go.SL
section
variable {F : List Nat} {w0 w w' : World} {L M : Hp}
theorem run_append_grow {P : Program} {t u e ty size bytes n m old : Nat} {zs cs news : List Value} {a : Option Addr} {x : Value} (el : El P t e zs size bytes) (hv : Sl w (.slice a n old) n cs) (hcl : cs.length = n * size) (hs : St F w0 w L)
    (hx : Src P w u x m size news) (hl : news.length = m * size) (h63 : n + m ≤ 9223372036854775807) (hb : (n + m) * bytes ≤ 140737488355328) (ho : old < n + m) :
    ∃ v' w' Lv', (Builtin.append_ #[t, u] ty #[.slice a n old, x]).run P w = .ok v' w' ∧ OwnS e size v' (n + m) (cs ++ news) Lv' ∧ St F w0 w' (Lv' ++ L) := by
  have hold := (hv.src (u := t) el.ht hcl).cells
  obtain ⟨i, hi, ⟨z, hz, hzc⟩, rfl, rfl⟩ := el.hi
  have hsz := el.hsz
  have hzs : z.cells.size = i.size := by rw [hzc]; simpa using el.hzs
  have hlen : (cs ++ news).length = (n + m) * i.size := by rw [List.length_append, hcl, hl, Nat.add_mul]
  have hg1 := hx.len w
  have hf1 := hx.cells w.drew rfl
  have h63' : ¬ (9223372036854775807 < ((n : Int) + (m : Int))) := by omega
  have hge := grownCap_ge w (n + m) old e
  have hcm : grownCap w (n + m) old e ≤ maxLen := grownCap_le_maxLen w (n + m) old e (by simpa [maxLen] using h63)
  have hn : ¬ (n + m ≤ old) := by omega
  have h48' : ¬ (281474976710656 < Builtin.nextslicecap (n + m) old * i.bytes) := by have := growslice_fits (old := old) (by omega) hb; omega
  have ho1 := hold w.drew rfl
  refine ⟨.slice (some ⟨w.heap.size, 0, none⟩) (n + m) (grownCap w (n + m) old e), w.drew.alloc (Blk e (cs ++ news ++ (Builtin.zeroCells z.cells (grownCap w (n + m) old e - (n + m))).toList)), [(w.heap.size, Blk e (cs ++ news ++ (Builtin.zeroCells z.cells (grownCap w (n + m) old e - (n + m))).toList))], ?_, ⟨hlen, .inr ⟨w.heap.size, _, _, rfl, hge, hcm, ?_, rfl⟩⟩, ?_⟩
  · rcases hx.kind with ⟨e', hu⟩ | hu <;>
    · simp [Builtin.append_, run_underlying el.ht, run_underlying hu, sizeOf, typeInfo, zeroValue, hi, hz, hg1, hn, h63', h48', Question.forced, hf1, ho1, newRow, grownCap]
      congr 2
      apply Array.ext'
      simp [List.append_assoc]
  · rw [List.length_append, hlen, Array.length_toList, size_zeroCells, hzs, ← Nat.add_mul]
    congr 1; omega
  · exact hs.drew.alloc _
theorem RdS.mono' {v : Value} {n : Nat} {cs : List Value} {L L' : Hp} (h : RdS v n cs L) (hs : ∀ p ∈ L, p ∈ L') : RdS v n cs L' :=
  ⟨fun w hw => h.sl w fun p hp => hw p (hs p hp), fun a m c he hne => by
    obtain ⟨o, ho⟩ := mem_ids.1 (h.inL a m c he hne)
    exact mem_ids.2 ⟨o, hs _ ho⟩⟩
theorem OwnS.pre {e size n m : Nat} {g cap : Nat} {cs ds : List Value} {Lv : Hp} (hs : 0 < size) (h : OwnS e size (.slice (some ⟨g, 0, none⟩) n cap) n (cs ++ ds) Lv) (hc : cs.length = m * size) (hm : m ≤ n) : RdS (.slice (some ⟨g, 0, none⟩) m cap) m cs Lv := by
  have h1 := h.rdS
  refine ⟨fun w hw => ?_, fun a k c he hne => ?_⟩
  · have := (h1.sl w hw).take (k := m) (size := size) hm rfl
    rw [← hc, List.take_left] at this; exact this
  · cases he
    exact h1.inL ⟨g, 0, none⟩ n cap rfl (by intro h9; exact hne (List.append_eq_nil_iff.1 h9).1)
end
section
variable {P : Program} {n : Nat} {ops : Array Oper} {Q : Post} {l : Fr} {w : World} {rest : List Oper} {d ty : Nat} {pos : String} {aft : Array Edge} {F : List Nat} {w0 : World} {L M X : Hp}
theorem s_append_keep {x y : Operand} {t e size bytes m q : Nat} {zs cs news : List Value} {v u : Value} {Lv : Hp} (el : El P t e zs size bytes) (hd : Nat.blt d n = true) (hx : ev l x = some v) (hy : ev l y = some u)
    (hv : OwnS e size v m cs Lv) (hs : St F w0 w (M ++ (Lv ++ X))) (hu : Sl w u q news) (hl : news.length = q * size) (h1 : ∀ c ∈ news, c.oneCell' = true) (h63 : m + q ≤ 9223372036854775807 ∧ (m + q) * bytes ≤ 140737488355328)
    (k : ∀ v' w' Lv' Lk, OwnS e size v' (m + q) (cs ++ news) Lv' → RdS v m cs (Lv' ++ Lk) → St F w0 w' (M ++ (Lv' ++ (Lk ++ X))) → WL P n ops Q rest ((d, v') :: l) w') :
    WL P n ops Q (⟨some d, .call { callee := .builtin .append, args := #[x, y], argTypes := #[t, t] }, ty, pos, aft, none⟩ :: rest) l w := by
  have hsl := hv.slM hs
  have hcl := hv.1
  rcases hv.2 with ⟨⟨a, rfl⟩, rfl, rfl⟩ | ⟨g, cap, sp, rfl, h2, h3, h4, rfl⟩
  · have hcs : cs = [] := List.eq_nil_of_length_eq_zero (by simpa using hcl)
    subst hcs
    refine s_appendM el hd hx hy (OwnS.bare _ _ _) hs hu hl h1 h63 fun v' w' Lv' hO' hs' => ?_
    exact k v' w' Lv' [] hO' ⟨fun w _ => ⟨a, 0, rfl, Nat.le_refl _, .inl rfl⟩, fun _ _ _ _ h => absurd rfl h⟩ hs'
  · by_cases hroom : m + q ≤ cap
    · have hfit : m * size + news.length ≤ (cs ++ sp).length := by rw [hl, h4, ← Nat.add_mul]; exact Nat.mul_le_mul_right _ hroom
      refine s_append_in (kk := 0) (L := [(g, Blk e (cs ++ sp))] ++ (M ++ X)) el hd hx hy hs.pull rfl hu hl h1 hroom hfit fun w' hs' => ?_
      have htk : (cs ++ sp).take (m * size) = cs := by rw [← hcl]; exact List.take_left
      rw [htk] at hs'
      have hO' : OwnS e size (.slice (some ⟨g, 0, none⟩) (m + q) cap) (m + q) (cs ++ news) [(g, Blk e (cs ++ news ++ (cs ++ sp).drop (m * size + news.length)))] := by
        refine ⟨by rw [List.length_append, hcl, hl, Nat.add_mul], .inr ⟨g, cap, (cs ++ sp).drop (m * size + news.length), rfl, hroom, h3, ?_, rfl⟩⟩
        simp only [List.length_append, List.length_drop] at hfit h4 ⊢; omega
      exact k _ w' _ [] hO' (by rw [List.append_nil]; exact OwnS.pre el.hsz hO' hcl (by omega)) (St.pull (M := [_]) (L := M) (X := X) hs')
    · obtain ⟨v', w', Lv', hr, hO', hs'⟩ := run_append_grow (ty := ty) el hsl hcl hs.pull (hu.src el.ht hl) hl h63.1 h63.2 (by omega)
      refine WL_val hd (fun a ha => by simp [execOp, resolve, invoke, builtin, ha.eval hx, ha.eval hy, hr]) (k v' w' Lv' [(g, Blk e (cs ++ sp))] hO' ?_ ?_)
      · exact hv.rdS.mono' fun p hp => List.mem_append_right _ hp
      · have : St F w0 w' (Lv' ++ (([(g, Blk e (cs ++ sp))] : Hp) ++ (M ++ X))) := hs'
        simpa [cat] using St.reord [Lv', [(g, Blk e (cs ++ sp))], M, X] [2, 0, 1, 3] [] this rfl
end
end Go.SL
