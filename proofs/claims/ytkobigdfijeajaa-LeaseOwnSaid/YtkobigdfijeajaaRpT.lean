/- maps.Clone, Copy of a table. -/
import Derived.Test.YtkobigdfijeajaaRpQ
import Derived.Test.YtkobigdfijeajaaLeaD
import Derived.Laws.Externs
import Derived.MapKept
set_option linter.unusedVariables false
set_option linter.unusedSimpArgs false
namespace Go.SL
section
variable {P : Program} {n : Nat} {ops : Array Oper} {Q : Post} {l : Fr} {w : World} {rest : List Oper} {d ty : Nat} {pos : String} {aft : Array Edge} {F : List Nat} {w0 : World} {L : Hp}
theorem equalIn_map_nil {t k e : Nat} {m : Option Nat} (hu : P.underlying t = some (.map k e)) (dd : Nat) (w : World) : (Op.equalIn (dd + 1) t (.map m) (.map none)).run P w = .ok m.isNone w := by
  cases m <;> simp [Op.equalIn, run_underlying hu]
theorem s_eql_map_nil {x y : Operand} {t t' k e : Nat} {m : Option Nat} (hu : P.underlying t = some (.map k e)) (hd : Nat.blt d n = true) (hx : ev l x = some (.map m)) (hy : ev l y = some (.map none)) (k : WL P n ops Q rest ((d, .bool m.isNone) :: l) w) :
    WL P n ops Q (⟨some d, .binOp .eql t x y t', ty, pos, aft, none⟩ :: rest) l w := WL_val hd (fun ac ha => by
      simp only [execOp, ha.eval hx, ha.eval hy, eqGuard, binOp, Sem.run_bind]
      have := eql_of (equalIn_map_nil (m := m) hu 9999 w)
      simp [this]) k
theorem run_assertM {t xt k e : Nat} {v : Value} (hu : P.underlying t = some (.map k e)) (w : World) : (Instr.typeAssert (.iface t v) xt t false).run P w = .ok v w := by
  simp [Instr.typeAssert, run_underlying hu, go_sem, Result.andThen]
theorem s_iface {x : Operand} {t : Nat} {v : Value} (hd : Nat.blt d n = true) (hx : ev l x = some v) (hr : ∀ w, (Instr.makeInterface t v).run P w = .ok (.iface t v) w) (k : WL P n ops Q rest ((d, .iface t v) :: l) w) :
    WL P n ops Q (⟨some d, .makeInterface t x, ty, pos, aft, none⟩ :: rest) l w := WL_val hd (fun a ha => by simp [execOp, ha.eval hx, hr]) k
theorem s_assertM {x : Operand} {t xt k e : Nat} {v : Value} (hu : P.underlying t = some (.map k e)) (hd : Nat.blt d n = true) (hx : ev l x = some (.iface t v)) (k : WL P n ops Q rest ((d, v) :: l) w) :
    WL P n ops Q (⟨some d, .typeAssert x xt t false, ty, pos, aft, none⟩ :: rest) l w := WL_val hd (fun a ha => by simp only [execOp, ha.eval hx, Sem.run_bind, run_assertM hu, Result.andThen_ok, Sem.run_pure]) k
theorem s_callXw {f : Nat} {xs : List Operand} {vs : List Value} {ts : Array TypeId} {v : Value} {w' : World} (hd : Nat.blt d n = true) (hx : evs l xs = some vs) (h : (callFunc f vs.toArray).run P w = .ok (.value v) w') (k : WL P n ops Q rest ((d, v) :: l) w') :
    WL P n ops Q (⟨some d, .call { callee := .value (.func f), args := xs.toArray, argTypes := ts }, ty, pos, aft, none⟩ :: rest) l w := fun a ha =>
  wpList_plain rfl fun K hK => by
    unfold Oper.wp
    have : (execOp a.eval ⟨some d, .call { callee := .value (.func f), args := xs.toArray, argTypes := ts }, ty, pos, aft, none⟩).run P w = .ok (.value v) w' := by
      simp [execOp, resolve, evs_eval ha hx, Act.eval, Deferred.ofValue, invoke, h]
    rw [this]
    exact hK _ _ (k _ (ha.put hd v))
theorem run_mapsClone {r : Nat} {es : Array MapEntry} {clock : Nat} (t : TypeId) (hb : w.heap[r]? = some (.map es clock)) :
    (Extern.MapsClone.clone #[.iface t (.map (some r))]).run P w = .ok (.iface t (.map (some w.heap.size))) (w.alloc (.map es clock)) := by
  have e : Extern.MapsClone.clone #[.iface t (.map (some r))] = (getObj r >>= fun o => match o with
      | .map entries clock => (newObj (.map entries clock) >>= fun n => pure (.iface t (.map (some n))))
      | _ => stuck "maps.clone: a map expected") := rfl
  rw [e]
  simp [getObj, newObj, Sem.run, hb, Result.andThen, go_sem]
end
end Go.SL
namespace Go.Proofs.Ytkobigdfijeajaa
open Go.SL
theorem mapsClone_ext (m : Nat) (es : Array MapEntry) (c : Nat) (w : World) (hm : w.heap[m]? = some (.map es c)) :
    (callFunc 66 [.iface 83 (.map (some m))].toArray).run Try.prog w = .ok (.value (.iface 83 (.map (some w.heap.size)))) (w.alloc (.map es c)) := by
  rw [run_callFunc_extern Try.func66 (by kernel_rfl) (by kernel_rfl) (by kernel_rfl) (e := Extern.MapsClone.clone) (by kernel_rfl), run_mapsClone _ hm]; rfl
theorem mkIface (v : Option Nat) (w : World) : (Instr.makeInterface 83 (.map v)).run Try.prog w = .ok (.iface 83 (.map v)) w := by kernel_rfl
set_option maxHeartbeats 1000000 in
theorem mapsClone_ok (m : Nat) (es : Array MapEntry) (c : Nat) (w0 : World) (hm : w0.heap[m]? = some (.map es c)) :
    Ret Try.prog 45 [.map (some m)].toArray w0 fun r w' => ∃ b, r = .map (some b) ∧ St [] w0 w' [(b, .map es c)] := by
  have hB := (Array.getElem?_eq_some_iff.1 hm).1
  refine Ret_start fun w hs => ?_
  refine Ret_of Try.func45 rfl Try.ntmps45 rfl ?_
  refine W_seq ?_
  refine W_region ?_
  refine s_assign rfl rfl ?_
  refine WL_nil ?_
  refine n_then ?_
  refine W_seq ?_
  refine W_seq ?_
  refine W_region ?_
  refine s_move rfl rfl ?_
  refine s_eql_map_nil Try.underlying83 rfl rfl rfl ?_
  refine WL_nil ?_
  refine n_then ?_
  refine W_cond_kf rfl (rfl) ?_
  refine W_skip ?_
  refine n_then ?_
  refine W_seq ?_
  refine W_region ?_
  refine s_move rfl rfl ?_
  refine s_iface rfl rfl (mkIface _) ?_
  refine s_callXw rfl rfl (mapsClone_ext m es c w ((hs.old hB (by simp)).trans hm)) ?_
  replace hs := hs.alloc (.map es c)
  generalize w.heap.size = b at hs
  generalize w.alloc (.map es c) = w at hs
  refine s_assertM Try.underlying83 rfl rfl ?_
  refine s_assign rfl rfl ?_
  refine WL_nil ?_
  refine n_then ?_
  refine W_ret ?_
  exact end1 rfl rfl ⟨b, rfl, hs⟩
end Go.Proofs.Ytkobigdfijeajaa
