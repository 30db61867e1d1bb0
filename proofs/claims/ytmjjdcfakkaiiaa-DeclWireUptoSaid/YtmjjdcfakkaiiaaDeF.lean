/- A declaration that came in; DeclSpread. -/
import Derived.Test.YtmjjdcfakkaiiaaDeE
import Derived.Deep.SlicePairs
import Derived.Laws.IdiomArrays
import Derived.WideShapes
set_option linter.unusedVariables false
set_option linter.unusedSimpArgs false
namespace Go.Proofs.Ytmjjdcfakkaiiaa
open Go.SL Go.ChangeShapes Go.WideShapes
theorem k_decl : Try.prog.cellsOf 27 = 12 := by kernel_rfl
theorem k_str : Try.prog.cellsOf 9 = 1 := by kernel_rfl
theorem k_labs : Try.prog.cellsOf 23 = 1 := by kernel_rfl
theorem k_unit : Try.prog.cellsOf 25 = 3 := by kernel_rfl
theorem k_int : Try.prog.cellsOf 3 = 1 := by kernel_rfl
theorem k_lab : Try.prog.cellsOf 51 = 2 := by kernel_rfl
theorem twelve {α : Type} {l : List α} (h : l.length = 12) : ∃ a0 a1 a2 a3 a4 a5 a6 a7 a8 a9 a10 a11, l = [a0, a1, a2, a3, a4, a5, a6, a7, a8, a9, a10, a11] := by
  match l, h with
  | [a0, a1, a2, a3, a4, a5, a6, a7, a8, a9, a10, a11], _ => exact ⟨a0, a1, a2, a3, a4, a5, a6, a7, a8, a9, a10, a11, rfl⟩
structure De.Ints (d : De) : Prop where
  u0 : isI64 d.u0
  u1 : isI64 d.u1
  u2 : isI64 d.u2
  lo : isI64 d.lo
  hi : isI64 d.hi
  dn : isI64 d.dn
  up : isI64 d.up
  fi : isI64 d.fi
  la : isI64 d.la
  bu : isI64 d.bu
section
variable {H : Type} {enc : TypeId × Value → H} {w : World} {base : Nat} {spare : Nat → Bool} {held : Bool}
theorem open_labs {fuel : Nat} {v : Value} {x : DataW H × List MemPlace} (h : DataW.trod enc Try.prog w base spare held fuel 23 [v] = some x) :
    ∃ ls : List Lb, Sl w v ls.length (lbcells ls) ∧ (∃ a c, v = .slice a ls.length c) ∧ (∀ z ∈ ls, z.1.size ≤ 9223372036854775807 ∧ z.2.size ≤ 9223372036854775807) ∧ ls.length ≤ 9223372036854775807 := by
  rcases Deep.open_slice_pairs Try.underlying23 Try.underlying51 k_lab rfl rfl k_str k_str h with ⟨h0, _⟩ | ⟨a, len, cap, m, n, V0, V1, D0, D1, P0, P1, h0, _, hl, hm, hmm, _, hall⟩
  · simp at h0; subst h0
    exact ⟨[], slLb w, ⟨none, 0, rfl⟩, by simp, by simp⟩
  · simp at h0; subst h0
    have hlm : len ≤ m := by rw [hmm]; split <;> omega
    obtain ⟨ls, hll, hls⟩ := list_of (Q := fun i (z : Lb) => w.cell? (a.add (i * 2)) = some (.string z.1) ∧ w.cell? (a.add (i * 2 + 1)) = some (.string z.2) ∧ z.1.size ≤ 9223372036854775807 ∧ z.2.size ≤ 9223372036854775807) len (fun i hi => by
      obtain ⟨h1, h2, h3, h4⟩ := hall i (by omega)
      obtain ⟨s, hs, _, hsz⟩ := DataW.trod_string Try.underlying9 h3
      obtain ⟨t, ht, _, htz⟩ := DataW.trod_string Try.underlying9 h4
      simp at hs ht
      simp [maxLen] at hsz htz
      exact ⟨(s, t), by rw [h1, hs], by rw [h2, ht], by simp only; omega, by simp only; omega⟩)
    refine ⟨ls, ?_, ⟨some a, cap, by rw [hll]⟩, ?_, by simp [maxLen] at hm; omega⟩
    · rw [hll]
      refine ⟨some a, cap, rfl, hl, ?_⟩
      by_cases h0 : ls = []
      · left; simp [h0]
      · right
        obtain ⟨z, hz⟩ : ∃ z, ls[0]? = some z := by
          cases ls with
          | nil => exact absurd rfl h0
          | cons z r => exact ⟨z, rfl⟩
        have hx := (hls 0 z hz).1
        have hsp : a.spot = none := by
          simp only [Addr.add, Nat.zero_mul, if_true, World.cell?] at hx
          split at hx
          · split at hx
            · cases hx
            · rename_i hh; cases hs : a.spot with
              | none => rfl
              | some s => rw [hs] at hh; simp at hh
          · cases hx
        obtain ⟨bb, o, sp⟩ := a
        simp only at hsp
        subst hsp
        refine ⟨bb, o, rfl, fun j u hj => ?_⟩
        have hjl : j < ls.length * 2 := by rw [← flat_length lbC_length]; exact (List.getElem?_eq_some_iff.1 hj).1
        have hji : ls[j / 2]? = some (ls[j / 2]'(by omega)) := List.getElem?_eq_getElem (by omega)
        have hat := hls (j / 2) _ hji
        generalize (ls[j / 2]'(by omega)) = z2 at hji hat
        have hfl := flat_at (j := j % 2) lbC_length (by omega) hji
        rw [show j / 2 * 2 + j % 2 = j by omega] at hfl
        rw [hfl] at hj
        rcases Nat.mod_two_eq_zero_or_one j with h2 | h2
        · rw [h2] at hj
          have hu : u = .string z2.1 := by simpa [lbC] using hj.symm
          rw [hu]
          have := hat.1
          rw [Addr.add_lit, show j / 2 * 2 = j by omega] at this
          exact this
        · rw [h2] at hj
          have hu : u = .string z2.2 := by simpa [lbC] using hj.symm
          rw [hu]
          have := hat.2.1
          rw [Addr.add_lit, show j / 2 * 2 + 1 = j by omega] at this
          exact this
    · intro z hz
      obtain ⟨i, hi⟩ := List.getElem?_of_mem hz
      exact (hls i z hi).2.2
set_option maxRecDepth 100000 in
set_option maxHeartbeats 1000000 in
theorem open_decl {b : Nat} {r : Reach} {v : Value} {x : DataW H} {p : List MemPlace} (hval : Value.okWide Try.prog w r b 27 v) (h : DataW.Trod enc Try.prog w base spare held 27 v x p) :
    ∃ (d : De) (ls : List Lb), v = .agg d.vals.toArray ∧ Sl w d.lv ls.length (lbcells ls) ∧ (∃ a c, d.lv = .slice a ls.length c) ∧ d.Ints ∧ d.name.size ≤ 9223372036854775807 ∧ (∀ z ∈ ls, z.1.size ≤ 9223372036854775807 ∧ z.2.size ≤ 9223372036854775807) ∧ ls.length ≤ 9223372036854775807 := by
  obtain ⟨cs, rfl, hsz⟩ := okWide_struct Try.underlying27 hval
  obtain ⟨fuel, hf⟩ := h
  obtain ⟨xs, n, _, _, _, hxl, hfl⟩ := DataW.trod_struct Try.underlying27 hf
  have hl12 : cs.toList.length = 12 := by rw [Array.length_toList, hsz, k_decl]
  obtain ⟨c0, c1, c2, c3, c4, c5, c6, c7, c8, c9, c10, c11, hcs⟩ := twelve hl12
  have hce : (Value.agg cs).cells.toList = [c0, c1, c2, c3, c4, c5, c6, c7, c8, c9, c10, c11] := hcs
  rw [hce] at hfl
  have hx : ∀ i, i < 10 → ∃ y, xs[i]? = some y := fun i hi => ⟨_, List.getElem?_eq_getElem (by rw [hxl]; exact hi)⟩
  have g0 : DataW.trod enc Try.prog w base spare held n 9 (([c0, c1, c2, c3, c4, c5, c6, c7, c8, c9, c10, c11].drop 0).take (Try.prog.cellsOf 9)) = xs[0]? := hfl 0 _ rfl
  rw [k_str] at g0
  have g1 : DataW.trod enc Try.prog w base spare held n 23 (([c0, c1, c2, c3, c4, c5, c6, c7, c8, c9, c10, c11].drop 1).take (Try.prog.cellsOf 23)) = xs[1]? := hfl 1 _ rfl
  rw [k_labs] at g1
  have g2 : DataW.trod enc Try.prog w base spare held n 25 (([c0, c1, c2, c3, c4, c5, c6, c7, c8, c9, c10, c11].drop 2).take (Try.prog.cellsOf 25)) = xs[2]? := hfl 2 _ rfl
  rw [k_unit] at g2
  have g3 : DataW.trod enc Try.prog w base spare held n 3 (([c0, c1, c2, c3, c4, c5, c6, c7, c8, c9, c10, c11].drop 5).take (Try.prog.cellsOf 3)) = xs[3]? := hfl 3 _ rfl
  rw [k_int] at g3
  have g4 : DataW.trod enc Try.prog w base spare held n 3 (([c0, c1, c2, c3, c4, c5, c6, c7, c8, c9, c10, c11].drop 6).take (Try.prog.cellsOf 3)) = xs[4]? := hfl 4 _ rfl
  rw [k_int] at g4
  have g5 : DataW.trod enc Try.prog w base spare held n 3 (([c0, c1, c2, c3, c4, c5, c6, c7, c8, c9, c10, c11].drop 7).take (Try.prog.cellsOf 3)) = xs[5]? := hfl 5 _ rfl
  rw [k_int] at g5
  have g6 : DataW.trod enc Try.prog w base spare held n 3 (([c0, c1, c2, c3, c4, c5, c6, c7, c8, c9, c10, c11].drop 8).take (Try.prog.cellsOf 3)) = xs[6]? := hfl 6 _ rfl
  rw [k_int] at g6
  have g7 : DataW.trod enc Try.prog w base spare held n 3 (([c0, c1, c2, c3, c4, c5, c6, c7, c8, c9, c10, c11].drop 9).take (Try.prog.cellsOf 3)) = xs[7]? := hfl 7 _ rfl
  rw [k_int] at g7
  have g8 : DataW.trod enc Try.prog w base spare held n 3 (([c0, c1, c2, c3, c4, c5, c6, c7, c8, c9, c10, c11].drop 10).take (Try.prog.cellsOf 3)) = xs[8]? := hfl 8 _ rfl
  rw [k_int] at g8
  have g9 : DataW.trod enc Try.prog w base spare held n 3 (([c0, c1, c2, c3, c4, c5, c6, c7, c8, c9, c10, c11].drop 11).take (Try.prog.cellsOf 3)) = xs[9]? := hfl 9 _ rfl
  rw [k_int] at g9
  simp only [List.drop_zero, List.drop_succ_cons, List.take_succ_cons, List.take_zero] at g0 g1 g2 g3 g4 g5 g6 g7 g8 g9
  obtain ⟨y0, e0⟩ := hx 0 (by omega); obtain ⟨y1, e1⟩ := hx 1 (by omega); obtain ⟨y2, e2⟩ := hx 2 (by omega); obtain ⟨y3, e3⟩ := hx 3 (by omega); obtain ⟨y4, e4⟩ := hx 4 (by omega)
  obtain ⟨y5, e5⟩ := hx 5 (by omega); obtain ⟨y6, e6⟩ := hx 6 (by omega); obtain ⟨y7, e7⟩ := hx 7 (by omega); obtain ⟨y8, e8⟩ := hx 8 (by omega); obtain ⟨y9, e9⟩ := hx 9 (by omega)
  obtain ⟨s0, h0, _, z0⟩ := DataW.trod_string Try.underlying9 (g0.trans e0)
  obtain ⟨ls, hsl, hsf, hss, hsn⟩ := open_labs (g1.trans e1)
  obtain ⟨_, _, _, _, _, a0, a1, a2⟩ := trod_array3 Try.underlying25 k_int (g2.trans e2)
  obtain ⟨i0, p0, _, q0⟩ := DataW.trod_int Try.underlying3 a0
  obtain ⟨i1, p1, _, q1⟩ := DataW.trod_int Try.underlying3 a1
  obtain ⟨i2, p2, _, q2⟩ := DataW.trod_int Try.underlying3 a2
  obtain ⟨i3, p3, _, q3⟩ := DataW.trod_int Try.underlying3 (g3.trans e3)
  obtain ⟨i4, p4, _, q4⟩ := DataW.trod_int Try.underlying3 (g4.trans e4)
  obtain ⟨i5, p5, _, q5⟩ := DataW.trod_int Try.underlying3 (g5.trans e5)
  obtain ⟨i6, p6, _, q6⟩ := DataW.trod_int Try.underlying3 (g6.trans e6)
  obtain ⟨i7, p7, _, q7⟩ := DataW.trod_int Try.underlying3 (g7.trans e7)
  obtain ⟨i8, p8, _, q8⟩ := DataW.trod_int Try.underlying3 (g8.trans e8)
  obtain ⟨i9, p9, _, q9⟩ := DataW.trod_int Try.underlying3 (g9.trans e9)
  simp only [List.cons.injEq, and_true] at h0 p0 p1 p2 p3 p4 p5 p6 p7 p8 p9
  simp [maxLen] at z0
  refine ⟨⟨s0, c1, i0, i1, i2, i3, i4, i5, i6, i7, i8, i9⟩, ls, ?_, hsl, hsf, ⟨wf_i64 q0, wf_i64 q1, wf_i64 q2, wf_i64 q3, wf_i64 q4, wf_i64 q5, wf_i64 q6, wf_i64 q7, wf_i64 q8, wf_i64 q9⟩, by simp only; omega, hss, hsn⟩
  congr 1
  apply Array.toList_inj.1
  rw [hcs, h0, p0, p1, p2, p3, p4, p5, p6, p7, p8, p9]
  rfl
end
end Go.Proofs.Ytmjjdcfakkaiiaa
