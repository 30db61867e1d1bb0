/- What a listed package-level variable holds; how long a slice that came in is. No program in sight. -/
import Derived.Test.YtgjjdlgbbgijgaaDoorFin
import Derived.LaidMore
import Derived.OpenShut
import Derived.MakeChecks
import Derived.Stop.Joined
set_option linter.unusedVariables false
set_option linter.unusedSimpArgs false
namespace Go.SL
section
variable {H : Type} {enc : TypeId × Value → H} {P : Program} {w : World} {base : Nat} {sp : Nat → Bool} {held : Bool} {fuel : Nat}
theorem slot_one {cs : List Value} {i : Nat} {c : Value} (h : (cs.drop i).take 1 = [c]) : cs[i]? = some c := by
  have h1 : ((cs.drop i).take 1)[0]? = some c := by rw [h]; rfl
  rw [List.getElem?_take, if_pos (by decide), List.getElem?_drop] at h1
  exact h1
/-- an array of integers -/
theorem array_ints {t e n : Nat} {cs : List Value} {ks : List Int} {p : List MemPlace} (ht : P.underlying t = some (.array n e)) (he : P.underlying e = some (.int .i64)) (hc : P.cellsOf e = 1)
    (h : DataW.trod enc P w base sp held fuel t cs = some (.agg (ks.map fun z => .lit (.int .i64 z)), p)) : ∀ (j : Nat) z, ks[j]? = some z → cs[j]? = some (.int .i64 z) := by
  obtain ⟨xs, m, rfl, hx, hlen, hn, hel⟩ := DataW.trod_array ht h
  intro j z hj
  simp only [Prod.mk.injEq, DataW.agg.injEq] at hx
  have h1 : (xs.map (·.1))[j]? = some (.lit (.int .i64 z)) := by rw [← hx.1, List.getElem?_map, hj]; rfl
  rw [List.getElem?_map] at h1
  cases hy : xs[j]? with
  | none => rw [hy] at h1; cases h1
  | some y =>
    rw [hy, Option.map_some] at h1
    have hjn : j < n := by rw [← hn]; exact (List.getElem?_eq_some_iff.1 hy).1
    have h2 := hel j hjn
    rw [hy, hc, Nat.mul_one] at h2
    obtain ⟨k, h3, h4, _⟩ := DataW.trod_int he h2
    rw [h4] at h1
    have : k = z := by injection h1 with h1; injection h1 with h1; injection h1
    subst this
    exact slot_one h3
/-- an array of pairs of integers -/
theorem array_pairs {t e e' n : Nat} {cs : List Value} {ks : List (Int × Int)} {p : List MemPlace} (ht : P.underlying t = some (.array n e)) (h2 : P.underlying e = some (.array 2 e')) (he : P.underlying e' = some (.int .i64)) (hc' : P.cellsOf e' = 1) (hc : P.cellsOf e = 2)
    (h : DataW.trod enc P w base sp held fuel t cs = some (.agg (ks.map fun z => .agg [.lit (.int .i64 z.1), .lit (.int .i64 z.2)]), p)) : ∀ (j : Nat) z, ks[j]? = some z → cs[j * 2]? = some (.int .i64 z.1) ∧ cs[j * 2 + 1]? = some (.int .i64 z.2) := by
  obtain ⟨xs, m, rfl, hx, hlen, hn, hel⟩ := DataW.trod_array ht h
  intro j z hj
  simp only [Prod.mk.injEq, DataW.agg.injEq] at hx
  have h1 : (xs.map (·.1))[j]? = some (.agg [.lit (.int .i64 z.1), .lit (.int .i64 z.2)]) := by rw [← hx.1, List.getElem?_map, hj]; rfl
  rw [List.getElem?_map] at h1
  cases hy : xs[j]? with
  | none => rw [hy] at h1; cases h1
  | some y =>
    rw [hy, Option.map_some] at h1
    obtain ⟨y1, y2⟩ := y
    injection h1 with h1
    simp only at h1
    subst h1
    have hjn : j < n := by rw [← hn]; exact (List.getElem?_eq_some_iff.1 hy).1
    have h3 := hel j hjn
    rw [hy, hc] at h3
    have h4 := array_ints (ks := [z.1, z.2]) h2 he hc' h3
    have h5 := h4 0 z.1 rfl
    have h6 := h4 1 z.2 rfl
    rw [List.getElem?_take, if_pos (by decide), List.getElem?_drop] at h5 h6
    exact ⟨h5, h6⟩
/-- a listed variable: its cells -/
theorem laid_var {n : String} {d : DataW Unit} {r : List (String × DataW Unit)} {ps : List MemPlace} {g t : Nat} (hg : P.globalNamed n = some g) (ht : (P.globals[g]?).map (·.type) = some t) (h : DataW.LaidVars P w ((n, d) :: r) ps) :
    ∃ cs fuel p q, (∀ i, w.cell? ⟨g, i, none⟩ = cs[i]?) ∧ DataW.trod (fun _ => ()) P w 0 (fun _ => true) false fuel t cs = some (d, p) ∧ DataW.LaidVars P w r q := by
  obtain ⟨g', t', cs, fuel, p, q, hg', ht', hv, hd, hr, _⟩ := h
  obtain rfl := Option.some.inj (hg.symm.trans hg')
  obtain rfl := Option.some.inj (ht.symm.trans ht')
  exact ⟨cs.toList, fuel, p, q, fun i => by rw [World.var?_cell hg hv]; simp, hd, hr⟩
theorem laid_open {l : List (String × DataW Unit)} (hp : (l.all fun x => x.2.handleName?.isNone) = true) (h : laidMetH P l w) : ∃ ps, DataW.LaidVars P w l ps := by
  rw [MakeChecks.laidMetH_plain _ _ _ hp] at h
  obtain ⟨ps, h, _⟩ := h
  exact ⟨ps, h⟩
/-- a slice that came in is no longer than memory -/
theorem len_of_weights {t e len cap b : Nat} {a : Option Addr} {d : DataW H} {p : List MemPlace} (ht : P.underlying t = some (.slice e)) (hb : P.bytesOf e = b) (h : DataW.trod enc P w base sp held fuel t [.slice a len cap] = some (d, p)) (hz : ∀ x ∈ d.weights P t, x ≤ reachBytes) : len * b ≤ 140737488351232 := by
  rcases DataW.trod_slice ht h with ⟨hcs, _⟩ | ⟨a', len', cap', elems, rest, n, _, hcs, hx, _, _, _, hl, _⟩
  · simp at hcs; rw [hcs.2.1]; simp
  · simp at hcs
    obtain ⟨_, h2, _⟩ := hcs
    injection hx with hx _
    subst hx
    have h3 := hz ((elems.length + rest.length) * b) (by
      simp only [DataW.weights, ht, List.length_map, hb]; exact List.mem_cons_self)
    rw [hl, ← h2] at h3
    have h4 : len * b ≤ (len + rest.length) * b := Nat.mul_le_mul_right _ (by omega)
    have h5 : reachBytes = 140737488351232 := rfl
    omega
end
end Go.SL
