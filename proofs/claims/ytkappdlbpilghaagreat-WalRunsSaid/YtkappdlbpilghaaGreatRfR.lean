/- Contracts of the reference model's reader (as XWirH and XWirI, for seats without the whole of law02). -/
import Derived.Test.YtkappdlbpilghaaGreatWirR
set_option linter.unusedVariables false
set_option linter.unusedSimpArgs false
namespace Go.Proofs.YtkappdlbpilghaaGreat
open Go.SL
/-- the model's reader at q: it reads in the blocks Ls -/
structure RfOk (s : RS) (a : Option Addr) (n c : Nat) (Ls : Hp) : Prop where
  len : s.e = 0 → n = s.rest.length
  sl : s.e = 0 → RdS (.slice a n c) n (u8s s.rest) Ls
  b : s.e = 0 → ∀ b ∈ s.rest, isB b
  small : s.e = 0 → s.rest.length ≤ 4294967296
def RfAt (q : Nat) (s : RS) (Ls L : Hp) : Prop := ∃ a n c, L = [(q, Blk 99 [.slice a n c, .int .i64 s.e])] ∧ RfOk s a n c Ls
theorem RdS_drop {b o n c k : Nat} {l : List Int} {Ls : Hp} (h : RdS (.slice (some ⟨b, o, none⟩) n c) n (u8s l) Ls) (hl : l.length = n) (hk : k ≤ n) :
    RdS (.slice (some ⟨b, (if c = k then o else o + k * 1), none⟩) (n - k) (c - k)) (n - k) (u8s (l.drop k)) Ls := by
  refine ⟨fun w hw => ?_, fun a m c' he hne => ?_⟩
  · have := (h.sl w hw).drop (size := 1) (k := k) (by simp [hl]) hk
    rw [Nat.mul_one, ← List.map_drop] at this
    rw [Nat.mul_one]; exact this
  · cases he
    exact h.inL ⟨b, o, none⟩ _ _ rfl (by intro h0; apply hne; rw [u8s, List.map_drop]; rw [u8s] at h0; rw [h0]; simp)
theorem RdS_take {n c k : Nat} {a : Option Addr} {l : List Int} {Ls : Hp} (h : RdS (.slice a n c) n (u8s l) Ls) (hk : k ≤ n) : RdS (.slice a k c) k (u8s (l.take k)) Ls := by
  refine ⟨fun w hw => ?_, fun a' m c' he hne => ?_⟩
  · have := (h.sl w hw).take (size := 1) (k := k) hk rfl
    rw [Nat.mul_one, ← List.map_take] at this; exact this
  · cases he
    exact h.inL _ _ _ rfl (by intro h0; apply hne; rw [u8s, List.map_take]; rw [u8s] at h0; rw [h0]; simp)
set_option maxHeartbeats 2000000 in
theorem fRUint_ok (q : Nat) (s : RS) (Ls L0 : Hp) (w0 : World) (hR : RfAt q s Ls L0) (hs : St (ids L0) w0 w0 L0) (hsrc : ∀ p ∈ Ls, w0.heap[p.1]? = some p.2) (hq : q ∉ ids Ls) :
    Ret Tryz.prog 81 [.pointer (some ⟨q, 0, none⟩)].toArray w0 fun r w' => ∃ L', St (ids L0) w0 w' L' ∧ (∃ a n c, L' = [(q, Blk 99 [.slice a n c, .int .i64 (rdU s).2.e])] ∧ RfOk (rdU s).2 a n c Ls ∧ ((rdU s).2.e = 0 → ∃ b o, a = some ⟨b, o, none⟩)) ∧ r = .int .u64 ((rdU s).1 : Int) := by
  obtain ⟨a, n, c, hL, hok⟩ := hR
  replace hs : St (ids L0) w0 w0 [(q, Blk 99 [.slice a n c, .int .i64 s.e])] := by rw [hL] at hs ⊢; exact hs
  have hF : ids L0 = [q] := by rw [hL]; rfl
  have hlt : ∀ p ∈ Ls, p.1 < w0.heap.size := fun p hp => (Array.getElem?_eq_some_iff.1 (hsrc p hp)).1
  have hsrcw : ∀ w L, St (ids L0) w0 w L → ∀ p ∈ Ls, w.heap[p.1]? = some p.2 := fun w L h p hp => (h.old (hlt p hp) (by rw [hF]; intro h1; simp at h1; exact hq (h1 ▸ mem_ids_of hp))).trans (hsrc p hp)
  refine Ret_startL hs fun w hs => ?_
  refine Ret_of Tryz.func81 rfl Tryz.ntmps81 rfl ?_
  refine W_seq ?_
  refine W_region ?_
  refine s_assign rfl rfl ?_
  refine WL_nil ?_
  refine n_then ?_
  refine W_seq ?_
  refine W_region ?_
  refine s_assign rfl rfl ?_
  refine WL_nil ?_
  refine n_then ?_
  refine W_seq ?_
  refine W_region ?_
  refine s_assign rfl rfl ?_
  refine WL_nil ?_
  refine n_then ?_
  refine W_seq ?_
  refine W_seq ?_
  refine W_region ?_
  refine s_assign rfl rfl ?_
  refine WL_nil ?_
  refine n_then ?_
  refine W_block ?_
  refine W_loop (σ := Nat × Nat) (fun u => [(0, .pointer (some ⟨q, 0, none⟩)), (3, .int .u64 (u.2 : Int)), (4, .int .u64 ((128 ^ u.1 : Nat) : Int)), (5, .int .i64 (u.1 : Int))]) (fun u w => St (ids L0) w0 w [(q, Blk 99 [.slice a n c, .int .i64 s.e])] ∧ (s.e = 0 → pu 0 s.rest = puA u.1 u.2 (s.rest.drop u.1)) ∧ u.2 < 128 ^ u.1 ∧ u.1 ≤ 9) (fun u => 10 - u.1) (0, 0) ⟨rfl, rfl, rfl, rfl, trivial⟩ ⟨hs, fun _ => (puA_0 _).symm, by simp, by simp⟩ ?_
  clear hs
  rintro ⟨i, acc⟩ w ⟨hs, hpu, hacc, hi9⟩
  simp only at hs hpu hacc hi9 ⊢
  refine W_seq ?_
  refine W_seq ?_
  refine W_region ?_
  refine s_move rfl rfl ?_
  refine s_nilCheck rfl rfl ?_
  refine s_fieldAddr rfl rfl (FA99_1 _ _) ?_
  first
    | refine s_load Tryz.isAgg30 rfl rfl (hs.cell (k := 0) rfl rfl) ?_
    | refine s_load Tryz.isAgg30 rfl rfl (hs.cell (k := 1) rfl rfl) ?_
  refine s_eql rfl rfl rfl ?_
  refine WL_nil ?_
  refine n_then ?_
  refine W_cond rfl (fun hc11 => ?_) (fun hc11 => ?_)
  · skip
    simp only [decide_eq_true_eq, decide_eq_false_iff_not, beq_iff_eq, beq_eq_false_iff_ne, ne_eq] at hc11
    have hs0 : s.e = 0 := ‹_›
    have hn := hok.len hs0
    have hpc := hpu hs0
    refine W_skip ?_
    refine n_then ?_
    refine W_seq ?_
    refine W_block ?_
    refine W_seq ?_
    refine W_seq ?_
    refine W_region ?_
    refine s_move rfl rfl ?_
    refine s_move rfl rfl ?_
    refine s_nilCheck rfl rfl ?_
    refine s_fieldAddr rfl rfl (FA99_0 _ _) ?_
    first
      | refine s_load Tryz.isAgg39 rfl rfl (hs.cell (k := 0) rfl rfl) ?_
      | refine s_load Tryz.isAgg39 rfl rfl (hs.cell (k := 1) rfl rfl) ?_
    refine s_len rfl rfl (LN39 _ _ _ _) ?_
    refine s_geq rfl rfl rfl ?_
    refine WL_nil ?_
    refine n_then ?_
    refine W_cond rfl (fun hc20 => ?_) (fun hc20 => ?_)
    · skip
      simp only [decide_eq_true_eq, decide_eq_false_iff_not, beq_iff_eq, beq_eq_false_iff_ne, ne_eq] at hc20
      refine W_seq ?_
      refine W_region ?_
      refine s_move rfl rfl ?_
      refine s_nilCheck rfl rfl ?_
      refine s_fieldAddr rfl rfl (FA99_1 _ _) ?_
      first
        | refine s_storeB Tryz.sizeOf30 rfl rfl rfl hs (kk := 0) rfl rfl ?_
        | refine s_storeB Tryz.sizeOf30 rfl rfl rfl hs (kk := 1) rfl rfl ?_
      clear hs; intro w hs; try simp only [List.set_cons_zero, List.set_cons_succ, splice, List.take_succ_cons, List.take_zero, List.drop_succ_cons, List.drop_zero, List.nil_append, List.cons_append, List.length_cons, List.length_nil, Nat.reduceAdd, List.append_assoc] at hs
      refine WL_nil ?_
      refine n_then ?_
      refine W_exit ?_
      refine x_then ?_
      refine exit_miss rfl ?_
      refine x_then ?_
      refine x_then ?_
      refine exit_hit ?_
      refine n_then ?_
      refine W_seq ?_
      refine W_region ?_
      refine s_assign rfl rfl ?_
      refine WL_nil ?_
      refine n_then ?_
      refine W_ret ?_
      first
        | (have h0 : rdU s = (0, ⟨[], 2⟩) := by rw [rdU, if_neg (by simpa using hs0), hpc, puA_bad (by omega)]
           rw [h0]
           exact end1 rfl rfl ⟨_, hs, ⟨_, _, _, rfl, ⟨by simp, by simp, by simp, by simp⟩, by simp⟩, rfl⟩)
        | (have h0 : rdU s = (0, ⟨[], 3⟩) := by rw [rdU, if_neg (by simpa using hs0), hpc, List.drop_eq_nil_of_le (by omega), puA_nil]
           rw [h0]
           exact end1 rfl rfl ⟨_, hs, ⟨_, _, _, rfl, ⟨by simp, by simp, by simp, by simp⟩, by simp⟩, rfl⟩)
        | (have h0 : rdU s = (0, s) := by rw [rdU, if_pos ‹_›]
           rw [h0]
           exact end1 rfl rfl ⟨_, hs, ⟨_, _, _, rfl, hok, fun h => absurd h ‹_›⟩, rfl⟩)
        | (have h0 : rdU s = (acc + cN * 128 ^ i, ⟨s.rest.drop (i + 1), 0⟩) := by rw [rdU, if_neg (by simpa using hs0), hpc, puA_end (by omega) (by omega)]; simp
           have hti : ((i : Int) + 1).toNat = i + 1 := by omega
           rw [h0]
           rw [hti, hs0] at hs
           have hrd := RdS_drop (k := i + 1) (hok.sl hs0) hn.symm (by omega)
           refine end1 rfl rfl ⟨_, hs, ⟨some ⟨b1, if c = i + 1 then o1 else o1 + (i + 1) * 1, none⟩, n - (i + 1), c - (i + 1), rfl, ⟨fun _ => by simp only [List.length_drop]; omega, fun _ => hrd, fun _ b hb => hok.b hs0 b (List.mem_of_mem_drop hb), fun _ => by have := hok.small hs0; simp only [List.length_drop]; omega⟩, fun _ => ⟨_, _, rfl⟩⟩, ?_⟩
           rw [Nat.mod_eq_of_lt (show cN < 128 by omega), Nat.add_comm])
    · skip
      simp only [decide_eq_true_eq, decide_eq_false_iff_not, beq_iff_eq, beq_eq_false_iff_ne, ne_eq] at hc20
      have hil : i < s.rest.length := by omega
      have hdr := List.drop_eq_getElem_cons hil
      rw [hdr] at hpc
      have hcB := hok.b hs0 _ (List.getElem_mem hil)
      unfold isB at hcB
      obtain ⟨b1, o1, hA1, hc1⟩ := ((hok.sl hs0).sl w (hsrcw w _ hs)).at (k := i) (u := .int .u8 s.rest[i]) (by simp [hil])
      obtain ⟨cN, hcN⟩ : ∃ cN : Nat, s.rest[i] = cN := ⟨s.rest[i].toNat, by omega⟩
      rw [hcN] at hpc hcB hc1
      subst hA1
      refine W_skip ?_
      refine n_then ?_
      refine W_seq ?_
      refine W_region ?_
      refine s_move rfl rfl ?_
      refine s_nilCheck rfl rfl ?_
      refine s_fieldAddr rfl rfl (FA99_0 _ _) ?_
      first
        | refine s_load Tryz.isAgg39 rfl rfl (hs.cell (k := 0) rfl rfl) ?_
        | refine s_load Tryz.isAgg39 rfl rfl (hs.cell (k := 1) rfl rfl) ?_
      refine s_move rfl rfl ?_
      (refine s_indexAddr1 El39 rfl rfl rfl ?hx ?_; case hx => (constructor <;> omega))
      refine s_load Tryz.isAgg5 rfl rfl (by rw [Int.toNat_natCast]; exact hc1) ?_
      refine s_assign rfl rfl ?_
      refine WL_nil ?_
      refine n_then ?_
      refine W_seq ?_
      refine W_seq ?_
      refine W_region ?_
      refine s_move rfl rfl ?_
      refine s_eql rfl rfl rfl ?_
      refine s_move rfl rfl ?_
      refine WL_case (s := 33) rfl (fun hg33 => ?_) (fun hg33 => ?_)
      · skip
        simp only [decide_eq_true_eq, decide_eq_false_iff_not, beq_iff_eq, beq_eq_false_iff_ne, ne_eq] at hg33
        refine WL_take rfl ?_
        refine s_move rfl rfl ?_
        refine WL_take rfl ?_
        refine s_gtr rfl rfl rfl ?_
        refine s_pick_t rfl rfl rfl ?_
        refine s_move rfl rfl ?_
        refine WL_case (s := 37) rfl (fun hg37 => ?_) (fun hg37 => ?_)
        · skip
          simp only [decide_eq_true_eq, decide_eq_false_iff_not, beq_iff_eq, beq_eq_false_iff_ne, ne_eq] at hg37
          refine WL_skip rfl rfl rfl ?_
          refine WL_skip rfl rfl rfl ?_
          refine WL_skip rfl rfl rfl ?_
          refine WL_skipU rfl rfl ?_
          refine WL_skipU rfl rfl ?_
          refine WL_skip rfl rfl rfl ?_
          refine s_pick_t rfl rfl rfl ?_
          refine WL_nil ?_
          refine n_then ?_
          refine W_cond_t rfl ?_
          refine W_seq ?_
          refine W_region ?_
          refine s_move rfl rfl ?_
          refine s_nilCheck rfl rfl ?_
          refine s_fieldAddr rfl rfl (FA99_1 _ _) ?_
          first
            | refine s_storeB Tryz.sizeOf30 rfl rfl rfl hs (kk := 0) rfl rfl ?_
            | refine s_storeB Tryz.sizeOf30 rfl rfl rfl hs (kk := 1) rfl rfl ?_
          clear hs; intro w hs; try simp only [List.set_cons_zero, List.set_cons_succ, splice, List.take_succ_cons, List.take_zero, List.drop_succ_cons, List.drop_zero, List.nil_append, List.cons_append, List.length_cons, List.length_nil, Nat.reduceAdd, List.append_assoc] at hs
          refine WL_nil ?_
          refine n_then ?_
          refine W_exit ?_
          refine x_then ?_
          refine exit_miss rfl ?_
          refine x_then ?_
          refine x_then ?_
          refine exit_hit ?_
          refine n_then ?_
          refine W_seq ?_
          refine W_region ?_
          refine s_assign rfl rfl ?_
          refine WL_nil ?_
          refine n_then ?_
          refine W_ret ?_
          first
            | (have h0 : rdU s = (0, ⟨[], 2⟩) := by rw [rdU, if_neg (by simpa using hs0), hpc, puA_bad (by omega)]
               rw [h0]
               exact end1 rfl rfl ⟨_, hs, ⟨_, _, _, rfl, ⟨by simp, by simp, by simp, by simp⟩, by simp⟩, rfl⟩)
            | (have h0 : rdU s = (0, ⟨[], 3⟩) := by rw [rdU, if_neg (by simpa using hs0), hpc, List.drop_eq_nil_of_le (by omega), puA_nil]
               rw [h0]
               exact end1 rfl rfl ⟨_, hs, ⟨_, _, _, rfl, ⟨by simp, by simp, by simp, by simp⟩, by simp⟩, rfl⟩)
            | (have h0 : rdU s = (0, s) := by rw [rdU, if_pos ‹_›]
               rw [h0]
               exact end1 rfl rfl ⟨_, hs, ⟨_, _, _, rfl, hok, fun h => absurd h ‹_›⟩, rfl⟩)
            | (have h0 : rdU s = (acc + cN * 128 ^ i, ⟨s.rest.drop (i + 1), 0⟩) := by rw [rdU, if_neg (by simpa using hs0), hpc, puA_end (by omega) (by omega)]; simp
               have hti : ((i : Int) + 1).toNat = i + 1 := by omega
               rw [h0]
               rw [hti, hs0] at hs
               have hrd := RdS_drop (k := i + 1) (hok.sl hs0) hn.symm (by omega)
               refine end1 rfl rfl ⟨_, hs, ⟨some ⟨b1, if c = i + 1 then o1 else o1 + (i + 1) * 1, none⟩, n - (i + 1), c - (i + 1), rfl, ⟨fun _ => by simp only [List.length_drop]; omega, fun _ => hrd, fun _ b hb => hok.b hs0 b (List.mem_of_mem_drop hb), fun _ => by have := hok.small hs0; simp only [List.length_drop]; omega⟩, fun _ => ⟨_, _, rfl⟩⟩, ?_⟩
               rw [Nat.mod_eq_of_lt (show cN < 128 by omega), Nat.add_comm])
        · skip
          simp only [decide_eq_true_eq, decide_eq_false_iff_not, beq_iff_eq, beq_eq_false_iff_ne, ne_eq] at hg37
          refine WL_take rfl ?_
          refine s_move rfl rfl ?_
          refine WL_take rfl ?_
          refine s_gtr rfl rfl rfl ?_
          refine WL_take rfl ?_
          refine s_move rfl rfl ?_
          refine WL_case (s := 40) rfl (fun hg40 => ?_) (fun hg40 => ?_)
          · skip
            simp only [decide_eq_true_eq, decide_eq_false_iff_not, beq_iff_eq, beq_eq_false_iff_ne, ne_eq] at hg40
            refine WL_take rfl ?_
            refine s_move rfl rfl ?_
            refine WL_take rfl ?_
            refine s_eql rfl rfl rfl ?_
            refine WL_take rfl ?_
            refine s_pick_t rfl rfl rfl ?_
            refine s_pick_f rfl rfl rfl ?_
            refine WL_nil ?_
            refine n_then ?_
            refine W_cond rfl (fun hc44 => ?_) (fun hc44 => ?_)
            · skip
              simp only [decide_eq_true_eq, decide_eq_false_iff_not, beq_iff_eq, beq_eq_false_iff_ne, ne_eq] at hc44
              refine W_seq ?_
              refine W_region ?_
              refine s_move rfl rfl ?_
              refine s_nilCheck rfl rfl ?_
              refine s_fieldAddr rfl rfl (FA99_1 _ _) ?_
              first
                | refine s_storeB Tryz.sizeOf30 rfl rfl rfl hs (kk := 0) rfl rfl ?_
                | refine s_storeB Tryz.sizeOf30 rfl rfl rfl hs (kk := 1) rfl rfl ?_
              clear hs; intro w hs; try simp only [List.set_cons_zero, List.set_cons_succ, splice, List.take_succ_cons, List.take_zero, List.drop_succ_cons, List.drop_zero, List.nil_append, List.cons_append, List.length_cons, List.length_nil, Nat.reduceAdd, List.append_assoc] at hs
              refine WL_nil ?_
              refine n_then ?_
              refine W_exit ?_
              refine x_then ?_
              refine exit_miss rfl ?_
              refine x_then ?_
              refine x_then ?_
              refine exit_hit ?_
              refine n_then ?_
              refine W_seq ?_
              refine W_region ?_
              refine s_assign rfl rfl ?_
              refine WL_nil ?_
              refine n_then ?_
              refine W_ret ?_
              first
                | (have h0 : rdU s = (0, ⟨[], 2⟩) := by rw [rdU, if_neg (by simpa using hs0), hpc, puA_bad (by omega)]
                   rw [h0]
                   exact end1 rfl rfl ⟨_, hs, ⟨_, _, _, rfl, ⟨by simp, by simp, by simp, by simp⟩, by simp⟩, rfl⟩)
                | (have h0 : rdU s = (0, ⟨[], 3⟩) := by rw [rdU, if_neg (by simpa using hs0), hpc, List.drop_eq_nil_of_le (by omega), puA_nil]
                   rw [h0]
                   exact end1 rfl rfl ⟨_, hs, ⟨_, _, _, rfl, ⟨by simp, by simp, by simp, by simp⟩, by simp⟩, rfl⟩)
                | (have h0 : rdU s = (0, s) := by rw [rdU, if_pos ‹_›]
                   rw [h0]
                   exact end1 rfl rfl ⟨_, hs, ⟨_, _, _, rfl, hok, fun h => absurd h ‹_›⟩, rfl⟩)
                | (have h0 : rdU s = (acc + cN * 128 ^ i, ⟨s.rest.drop (i + 1), 0⟩) := by rw [rdU, if_neg (by simpa using hs0), hpc, puA_end (by omega) (by omega)]; simp
                   have hti : ((i : Int) + 1).toNat = i + 1 := by omega
                   rw [h0]
                   rw [hti, hs0] at hs
                   have hrd := RdS_drop (k := i + 1) (hok.sl hs0) hn.symm (by omega)
                   refine end1 rfl rfl ⟨_, hs, ⟨some ⟨b1, if c = i + 1 then o1 else o1 + (i + 1) * 1, none⟩, n - (i + 1), c - (i + 1), rfl, ⟨fun _ => by simp only [List.length_drop]; omega, fun _ => hrd, fun _ b hb => hok.b hs0 b (List.mem_of_mem_drop hb), fun _ => by have := hok.small hs0; simp only [List.length_drop]; omega⟩, fun _ => ⟨_, _, rfl⟩⟩, ?_⟩
                   rw [Nat.mod_eq_of_lt (show cN < 128 by omega), Nat.add_comm])
            · skip
              simp only [decide_eq_true_eq, decide_eq_false_iff_not, beq_iff_eq, beq_eq_false_iff_ne, ne_eq] at hc44
              refine W_skip ?_
              refine n_then ?_
              refine W_seq ?_
              refine W_region ?_
              refine s_move rfl rfl ?_
              refine s_move rfl rfl ?_
              (refine s_rem rfl rfl rfl ?hx ?_; case hx => omega)
              rw [IntWalk.rem_in _ _ (by omega), show (cN : Int) % 128 = ((cN % 128 : Nat) : Int) by omega]
              refine s_convert rfl rfl (CV5_75 _) ?_
              rw [u64w (by omega)]
              refine s_move rfl rfl ?_
              have hx9 : i = 9 → cN % 128 ≤ 1 := by omega
              have hrm := room hacc (show cN % 128 ≤ 127 by omega) hi9 hx9
              refine s_mul rfl rfl rfl ?_
              rw [show ((cN % 128 : Nat) : Int) * ((128 ^ i : Nat) : Int) = ((cN % 128 * 128 ^ i : Nat) : Int) by rw [Int.natCast_mul], u64w (Nat.lt_of_le_of_lt (Nat.le_add_right _ _) hrm)]
              refine s_add rfl rfl rfl ?_
              rw [show (acc : Int) + ((cN % 128 * 128 ^ i : Nat) : Int) = ((cN % 128 * 128 ^ i + acc : Nat) : Int) by omega, u64w hrm]
              refine s_assign rfl rfl ?_
              refine WL_nil ?_
              refine n_then ?_
              refine W_seq ?_
              refine W_region ?_
              refine s_move rfl rfl ?_
              refine s_mul rfl rfl rfl ?_
              refine s_assign rfl rfl ?_
              refine WL_nil ?_
              refine n_then ?_
              refine W_seq ?_
              refine W_region ?_
              refine s_move rfl rfl ?_
              refine s_lss rfl rfl rfl ?_
              refine WL_nil ?_
              refine n_then ?_
              refine W_cond rfl (fun hc58 => ?_) (fun hc58 => ?_)
              · skip
                simp only [decide_eq_true_eq, decide_eq_false_iff_not, beq_iff_eq, beq_eq_false_iff_ne, ne_eq] at hc58
                refine W_seq ?_
                refine W_region ?_
                refine s_move rfl rfl ?_
                refine s_move rfl rfl ?_
                refine s_nilCheck rfl rfl ?_
                refine s_fieldAddr rfl rfl (FA99_0 _ _) ?_
                first
                  | refine s_load Tryz.isAgg39 rfl rfl (hs.cell (k := 0) rfl rfl) ?_
                  | refine s_load Tryz.isAgg39 rfl rfl (hs.cell (k := 1) rfl rfl) ?_
                refine s_move rfl rfl ?_
                first | (refine s_add' rfl rfl rfl ?hx ?_; case hx => (constructor <;> first | omega | (simp only; omega))) | refine s_add rfl rfl rfl ?_
                (refine s_slice_lo El39 rfl rfl rfl ?hx ?_; case hx => (constructor <;> omega))
                refine s_nilCheck rfl rfl ?_
                refine s_fieldAddr rfl rfl (FA99_0 _ _) ?_
                first
                  | refine s_storeB Tryz.sizeOf39 rfl rfl rfl hs (kk := 0) rfl rfl ?_
                  | refine s_storeB Tryz.sizeOf39 rfl rfl rfl hs (kk := 1) rfl rfl ?_
                clear hs; intro w hs; try simp only [List.set_cons_zero, List.set_cons_succ, splice, List.take_succ_cons, List.take_zero, List.drop_succ_cons, List.drop_zero, List.nil_append, List.cons_append, List.length_cons, List.length_nil, Nat.reduceAdd, List.append_assoc] at hs
                refine WL_nil ?_
                refine n_then ?_
                refine W_seq ?_
                refine W_region ?_
                refine s_move rfl rfl ?_
                refine s_assign rfl rfl ?_
                refine WL_nil ?_
                refine n_then ?_
                refine W_ret ?_
                refine r_blk ?_
                refine r_then ?_
                refine r_then ?_
                refine r_blk ?_
                refine r_then ?_
                first
                  | (have h0 : rdU s = (0, ⟨[], 2⟩) := by rw [rdU, if_neg (by simpa using hs0), hpc, puA_bad (by omega)]
                     rw [h0]
                     exact end1 rfl rfl ⟨_, hs, ⟨_, _, _, rfl, ⟨by simp, by simp, by simp, by simp⟩, by simp⟩, rfl⟩)
                  | (have h0 : rdU s = (0, ⟨[], 3⟩) := by rw [rdU, if_neg (by simpa using hs0), hpc, List.drop_eq_nil_of_le (by omega), puA_nil]
                     rw [h0]
                     exact end1 rfl rfl ⟨_, hs, ⟨_, _, _, rfl, ⟨by simp, by simp, by simp, by simp⟩, by simp⟩, rfl⟩)
                  | (have h0 : rdU s = (0, s) := by rw [rdU, if_pos ‹_›]
                     rw [h0]
                     exact end1 rfl rfl ⟨_, hs, ⟨_, _, _, rfl, hok, fun h => absurd h ‹_›⟩, rfl⟩)
                  | (have h0 : rdU s = (acc + cN * 128 ^ i, ⟨s.rest.drop (i + 1), 0⟩) := by rw [rdU, if_neg (by simpa using hs0), hpc, puA_end (by omega) (by omega)]; simp
                     have hti : ((i : Int) + 1).toNat = i + 1 := by omega
                     rw [h0]
                     rw [hti, hs0] at hs
                     have hrd := RdS_drop (k := i + 1) (hok.sl hs0) hn.symm (by omega)
                     refine end1 rfl rfl ⟨_, hs, ⟨some ⟨b1, if c = i + 1 then o1 else o1 + (i + 1) * 1, none⟩, n - (i + 1), c - (i + 1), rfl, ⟨fun _ => by simp only [List.length_drop]; omega, fun _ => hrd, fun _ b hb => hok.b hs0 b (List.mem_of_mem_drop hb), fun _ => by have := hok.small hs0; simp only [List.length_drop]; omega⟩, fun _ => ⟨_, _, rfl⟩⟩, ?_⟩
                     rw [Nat.mod_eq_of_lt (show cN < 128 by omega), Nat.add_comm])
              · skip
                simp only [decide_eq_true_eq, decide_eq_false_iff_not, beq_iff_eq, beq_eq_false_iff_ne, ne_eq] at hc58
                refine W_skip ?_
                refine n_blk ?_
                refine n_then ?_
                refine W_region ?_
                refine s_move rfl rfl ?_
                first | (refine s_add' rfl rfl rfl ?hx ?_; case hx => (constructor <;> first | omega | (simp only; omega))) | refine s_add rfl rfl rfl ?_
                refine s_assign rfl rfl ?_
                refine WL_nil ?_
                refine n_loop ?_
                have hu9 : ((128 ^ i : Nat) : Int) * 128 = ((128 ^ (i + 1) : Nat) : Int) := by rw [Nat.pow_succ, Int.natCast_mul]; rfl
                have h9 : 128 ^ (i + 1) < 18446744073709551616 := by
                  have h4 : 128 ^ (i + 1) ≤ 128 ^ 9 := Nat.pow_le_pow_right (by omega) (by omega)
                  have h5 : 128 ^ 9 < 18446744073709551616 := by decide +kernel
                  exact Nat.lt_of_le_of_lt h4 h5
                refine ⟨(i + 1, cN % 128 * 128 ^ i + acc), ⟨rfl, rfl, by simp only; rw [← u64w h9, ← hu9]; rfl, rfl, trivial⟩, ⟨hs, fun _ => ?_, ?_, by simp only; omega⟩, by simp only; omega⟩
                · rw [hpc, puA_more (by omega) (by omega)]; simp only
                  congr 1
                  rw [show ((cN : Int) - 128).toNat = cN % 128 by omega, Nat.add_comm]
                · simp only
                  have h2 := Nat.mul_le_mul_right (128 ^ i) (show cN % 128 + 1 ≤ 128 by omega)
                  rw [Nat.add_mul] at h2
                  have h3 : 128 ^ (i + 1) = 128 * 128 ^ i := by rw [Nat.pow_succ, Nat.mul_comm]
                  rw [h3]; omega
          · skip
            simp only [decide_eq_true_eq, decide_eq_false_iff_not, beq_iff_eq, beq_eq_false_iff_ne, ne_eq] at hg40
            refine WL_skip rfl rfl rfl ?_
            refine WL_skip rfl rfl rfl ?_
            refine WL_take rfl ?_
            refine s_pick_f rfl rfl rfl ?_
            refine s_pick_f rfl rfl rfl ?_
            refine WL_nil ?_
            refine n_then ?_
            refine W_cond_f rfl ?_
            refine W_skip ?_
            refine n_then ?_
            refine W_seq ?_
            refine W_region ?_
            refine s_move rfl rfl ?_
            refine s_move rfl rfl ?_
            (refine s_rem rfl rfl rfl ?hx ?_; case hx => omega)
            rw [IntWalk.rem_in _ _ (by omega), show (cN : Int) % 128 = ((cN % 128 : Nat) : Int) by omega]
            refine s_convert rfl rfl (CV5_75 _) ?_
            rw [u64w (by omega)]
            refine s_move rfl rfl ?_
            have hx9 : i = 9 → cN % 128 ≤ 1 := by omega
            have hrm := room hacc (show cN % 128 ≤ 127 by omega) hi9 hx9
            refine s_mul rfl rfl rfl ?_
            rw [show ((cN % 128 : Nat) : Int) * ((128 ^ i : Nat) : Int) = ((cN % 128 * 128 ^ i : Nat) : Int) by rw [Int.natCast_mul], u64w (Nat.lt_of_le_of_lt (Nat.le_add_right _ _) hrm)]
            refine s_add rfl rfl rfl ?_
            rw [show (acc : Int) + ((cN % 128 * 128 ^ i : Nat) : Int) = ((cN % 128 * 128 ^ i + acc : Nat) : Int) by omega, u64w hrm]
            refine s_assign rfl rfl ?_
            refine WL_nil ?_
            refine n_then ?_
            refine W_seq ?_
            refine W_region ?_
            refine s_move rfl rfl ?_
            refine s_mul rfl rfl rfl ?_
            refine s_assign rfl rfl ?_
            refine WL_nil ?_
            refine n_then ?_
            refine W_seq ?_
            refine W_region ?_
            refine s_move rfl rfl ?_
            refine s_lss rfl rfl rfl ?_
            refine WL_nil ?_
            refine n_then ?_
            refine W_cond rfl (fun hc58 => ?_) (fun hc58 => ?_)
            · skip
              simp only [decide_eq_true_eq, decide_eq_false_iff_not, beq_iff_eq, beq_eq_false_iff_ne, ne_eq] at hc58
              refine W_seq ?_
              refine W_region ?_
              refine s_move rfl rfl ?_
              refine s_move rfl rfl ?_
              refine s_nilCheck rfl rfl ?_
              refine s_fieldAddr rfl rfl (FA99_0 _ _) ?_
              first
                | refine s_load Tryz.isAgg39 rfl rfl (hs.cell (k := 0) rfl rfl) ?_
                | refine s_load Tryz.isAgg39 rfl rfl (hs.cell (k := 1) rfl rfl) ?_
              refine s_move rfl rfl ?_
              first | (refine s_add' rfl rfl rfl ?hx ?_; case hx => (constructor <;> first | omega | (simp only; omega))) | refine s_add rfl rfl rfl ?_
              (refine s_slice_lo El39 rfl rfl rfl ?hx ?_; case hx => (constructor <;> omega))
              refine s_nilCheck rfl rfl ?_
              refine s_fieldAddr rfl rfl (FA99_0 _ _) ?_
              first
                | refine s_storeB Tryz.sizeOf39 rfl rfl rfl hs (kk := 0) rfl rfl ?_
                | refine s_storeB Tryz.sizeOf39 rfl rfl rfl hs (kk := 1) rfl rfl ?_
              clear hs; intro w hs; try simp only [List.set_cons_zero, List.set_cons_succ, splice, List.take_succ_cons, List.take_zero, List.drop_succ_cons, List.drop_zero, List.nil_append, List.cons_append, List.length_cons, List.length_nil, Nat.reduceAdd, List.append_assoc] at hs
              refine WL_nil ?_
              refine n_then ?_
              refine W_seq ?_
              refine W_region ?_
              refine s_move rfl rfl ?_
              refine s_assign rfl rfl ?_
              refine WL_nil ?_
              refine n_then ?_
              refine W_ret ?_
              refine r_blk ?_
              refine r_then ?_
              refine r_then ?_
              refine r_blk ?_
              refine r_then ?_
              first
                | (have h0 : rdU s = (0, ⟨[], 2⟩) := by rw [rdU, if_neg (by simpa using hs0), hpc, puA_bad (by omega)]
                   rw [h0]
                   exact end1 rfl rfl ⟨_, hs, ⟨_, _, _, rfl, ⟨by simp, by simp, by simp, by simp⟩, by simp⟩, rfl⟩)
                | (have h0 : rdU s = (0, ⟨[], 3⟩) := by rw [rdU, if_neg (by simpa using hs0), hpc, List.drop_eq_nil_of_le (by omega), puA_nil]
                   rw [h0]
                   exact end1 rfl rfl ⟨_, hs, ⟨_, _, _, rfl, ⟨by simp, by simp, by simp, by simp⟩, by simp⟩, rfl⟩)
                | (have h0 : rdU s = (0, s) := by rw [rdU, if_pos ‹_›]
                   rw [h0]
                   exact end1 rfl rfl ⟨_, hs, ⟨_, _, _, rfl, hok, fun h => absurd h ‹_›⟩, rfl⟩)
                | (have h0 : rdU s = (acc + cN * 128 ^ i, ⟨s.rest.drop (i + 1), 0⟩) := by rw [rdU, if_neg (by simpa using hs0), hpc, puA_end (by omega) (by omega)]; simp
                   have hti : ((i : Int) + 1).toNat = i + 1 := by omega
                   rw [h0]
                   rw [hti, hs0] at hs
                   have hrd := RdS_drop (k := i + 1) (hok.sl hs0) hn.symm (by omega)
                   refine end1 rfl rfl ⟨_, hs, ⟨some ⟨b1, if c = i + 1 then o1 else o1 + (i + 1) * 1, none⟩, n - (i + 1), c - (i + 1), rfl, ⟨fun _ => by simp only [List.length_drop]; omega, fun _ => hrd, fun _ b hb => hok.b hs0 b (List.mem_of_mem_drop hb), fun _ => by have := hok.small hs0; simp only [List.length_drop]; omega⟩, fun _ => ⟨_, _, rfl⟩⟩, ?_⟩
                   rw [Nat.mod_eq_of_lt (show cN < 128 by omega), Nat.add_comm])
            · skip
              simp only [decide_eq_true_eq, decide_eq_false_iff_not, beq_iff_eq, beq_eq_false_iff_ne, ne_eq] at hc58
              refine W_skip ?_
              refine n_blk ?_
              refine n_then ?_
              refine W_region ?_
              refine s_move rfl rfl ?_
              first | (refine s_add' rfl rfl rfl ?hx ?_; case hx => (constructor <;> first | omega | (simp only; omega))) | refine s_add rfl rfl rfl ?_
              refine s_assign rfl rfl ?_
              refine WL_nil ?_
              refine n_loop ?_
              have hu9 : ((128 ^ i : Nat) : Int) * 128 = ((128 ^ (i + 1) : Nat) : Int) := by rw [Nat.pow_succ, Int.natCast_mul]; rfl
              have h9 : 128 ^ (i + 1) < 18446744073709551616 := by
                have h4 : 128 ^ (i + 1) ≤ 128 ^ 9 := Nat.pow_le_pow_right (by omega) (by omega)
                have h5 : 128 ^ 9 < 18446744073709551616 := by decide +kernel
                exact Nat.lt_of_le_of_lt h4 h5
              refine ⟨(i + 1, cN % 128 * 128 ^ i + acc), ⟨rfl, rfl, by simp only; rw [← u64w h9, ← hu9]; rfl, rfl, trivial⟩, ⟨hs, fun _ => ?_, ?_, by simp only; omega⟩, by simp only; omega⟩
              · rw [hpc, puA_more (by omega) (by omega)]; simp only
                congr 1
                rw [show ((cN : Int) - 128).toNat = cN % 128 by omega, Nat.add_comm]
              · simp only
                have h2 := Nat.mul_le_mul_right (128 ^ i) (show cN % 128 + 1 ≤ 128 by omega)
                rw [Nat.add_mul] at h2
                have h3 : 128 ^ (i + 1) = 128 * 128 ^ i := by rw [Nat.pow_succ, Nat.mul_comm]
                rw [h3]; omega
      · skip
        simp only [decide_eq_true_eq, decide_eq_false_iff_not, beq_iff_eq, beq_eq_false_iff_ne, ne_eq] at hg33
        refine WL_skip rfl rfl rfl ?_
        refine WL_skip rfl rfl rfl ?_
        refine s_pick_f rfl rfl rfl ?_
        refine s_move rfl rfl ?_
        refine WL_take rfl ?_
        refine s_move rfl rfl ?_
        refine WL_take rfl ?_
        refine s_gtr rfl rfl rfl ?_
        refine WL_take rfl ?_
        refine s_move rfl rfl ?_
        refine WL_case (s := 40) rfl (fun hg40 => ?_) (fun hg40 => ?_)
        · skip
          simp only [decide_eq_true_eq, decide_eq_false_iff_not, beq_iff_eq, beq_eq_false_iff_ne, ne_eq] at hg40
          refine WL_take rfl ?_
          refine s_move rfl rfl ?_
          refine WL_take rfl ?_
          refine s_eql rfl rfl rfl ?_
          refine WL_take rfl ?_
          refine s_pick_t rfl rfl rfl ?_
          refine s_pick_f rfl rfl rfl ?_
          refine WL_nil ?_
          refine n_then ?_
          refine W_cond rfl (fun hc44 => ?_) (fun hc44 => ?_)
          · skip
            simp only [decide_eq_true_eq, decide_eq_false_iff_not, beq_iff_eq, beq_eq_false_iff_ne, ne_eq] at hc44
            refine W_seq ?_
            refine W_region ?_
            refine s_move rfl rfl ?_
            refine s_nilCheck rfl rfl ?_
            refine s_fieldAddr rfl rfl (FA99_1 _ _) ?_
            first
              | refine s_storeB Tryz.sizeOf30 rfl rfl rfl hs (kk := 0) rfl rfl ?_
              | refine s_storeB Tryz.sizeOf30 rfl rfl rfl hs (kk := 1) rfl rfl ?_
            clear hs; intro w hs; try simp only [List.set_cons_zero, List.set_cons_succ, splice, List.take_succ_cons, List.take_zero, List.drop_succ_cons, List.drop_zero, List.nil_append, List.cons_append, List.length_cons, List.length_nil, Nat.reduceAdd, List.append_assoc] at hs
            refine WL_nil ?_
            refine n_then ?_
            refine W_exit ?_
            refine x_then ?_
            refine exit_miss rfl ?_
            refine x_then ?_
            refine x_then ?_
            refine exit_hit ?_
            refine n_then ?_
            refine W_seq ?_
            refine W_region ?_
            refine s_assign rfl rfl ?_
            refine WL_nil ?_
            refine n_then ?_
            refine W_ret ?_
            first
              | (have h0 : rdU s = (0, ⟨[], 2⟩) := by rw [rdU, if_neg (by simpa using hs0), hpc, puA_bad (by omega)]
                 rw [h0]
                 exact end1 rfl rfl ⟨_, hs, ⟨_, _, _, rfl, ⟨by simp, by simp, by simp, by simp⟩, by simp⟩, rfl⟩)
              | (have h0 : rdU s = (0, ⟨[], 3⟩) := by rw [rdU, if_neg (by simpa using hs0), hpc, List.drop_eq_nil_of_le (by omega), puA_nil]
                 rw [h0]
                 exact end1 rfl rfl ⟨_, hs, ⟨_, _, _, rfl, ⟨by simp, by simp, by simp, by simp⟩, by simp⟩, rfl⟩)
              | (have h0 : rdU s = (0, s) := by rw [rdU, if_pos ‹_›]
                 rw [h0]
                 exact end1 rfl rfl ⟨_, hs, ⟨_, _, _, rfl, hok, fun h => absurd h ‹_›⟩, rfl⟩)
              | (have h0 : rdU s = (acc + cN * 128 ^ i, ⟨s.rest.drop (i + 1), 0⟩) := by rw [rdU, if_neg (by simpa using hs0), hpc, puA_end (by omega) (by omega)]; simp
                 have hti : ((i : Int) + 1).toNat = i + 1 := by omega
                 rw [h0]
                 rw [hti, hs0] at hs
                 have hrd := RdS_drop (k := i + 1) (hok.sl hs0) hn.symm (by omega)
                 refine end1 rfl rfl ⟨_, hs, ⟨some ⟨b1, if c = i + 1 then o1 else o1 + (i + 1) * 1, none⟩, n - (i + 1), c - (i + 1), rfl, ⟨fun _ => by simp only [List.length_drop]; omega, fun _ => hrd, fun _ b hb => hok.b hs0 b (List.mem_of_mem_drop hb), fun _ => by have := hok.small hs0; simp only [List.length_drop]; omega⟩, fun _ => ⟨_, _, rfl⟩⟩, ?_⟩
                 rw [Nat.mod_eq_of_lt (show cN < 128 by omega), Nat.add_comm])
          · skip
            simp only [decide_eq_true_eq, decide_eq_false_iff_not, beq_iff_eq, beq_eq_false_iff_ne, ne_eq] at hc44
            refine W_skip ?_
            refine n_then ?_
            refine W_seq ?_
            refine W_region ?_
            refine s_move rfl rfl ?_
            refine s_move rfl rfl ?_
            (refine s_rem rfl rfl rfl ?hx ?_; case hx => omega)
            rw [IntWalk.rem_in _ _ (by omega), show (cN : Int) % 128 = ((cN % 128 : Nat) : Int) by omega]
            refine s_convert rfl rfl (CV5_75 _) ?_
            rw [u64w (by omega)]
            refine s_move rfl rfl ?_
            have hx9 : i = 9 → cN % 128 ≤ 1 := by omega
            have hrm := room hacc (show cN % 128 ≤ 127 by omega) hi9 hx9
            refine s_mul rfl rfl rfl ?_
            rw [show ((cN % 128 : Nat) : Int) * ((128 ^ i : Nat) : Int) = ((cN % 128 * 128 ^ i : Nat) : Int) by rw [Int.natCast_mul], u64w (Nat.lt_of_le_of_lt (Nat.le_add_right _ _) hrm)]
            refine s_add rfl rfl rfl ?_
            rw [show (acc : Int) + ((cN % 128 * 128 ^ i : Nat) : Int) = ((cN % 128 * 128 ^ i + acc : Nat) : Int) by omega, u64w hrm]
            refine s_assign rfl rfl ?_
            refine WL_nil ?_
            refine n_then ?_
            refine W_seq ?_
            refine W_region ?_
            refine s_move rfl rfl ?_
            refine s_mul rfl rfl rfl ?_
            refine s_assign rfl rfl ?_
            refine WL_nil ?_
            refine n_then ?_
            refine W_seq ?_
            refine W_region ?_
            refine s_move rfl rfl ?_
            refine s_lss rfl rfl rfl ?_
            refine WL_nil ?_
            refine n_then ?_
            refine W_cond rfl (fun hc58 => ?_) (fun hc58 => ?_)
            · skip
              simp only [decide_eq_true_eq, decide_eq_false_iff_not, beq_iff_eq, beq_eq_false_iff_ne, ne_eq] at hc58
              refine W_seq ?_
              refine W_region ?_
              refine s_move rfl rfl ?_
              refine s_move rfl rfl ?_
              refine s_nilCheck rfl rfl ?_
              refine s_fieldAddr rfl rfl (FA99_0 _ _) ?_
              first
                | refine s_load Tryz.isAgg39 rfl rfl (hs.cell (k := 0) rfl rfl) ?_
                | refine s_load Tryz.isAgg39 rfl rfl (hs.cell (k := 1) rfl rfl) ?_
              refine s_move rfl rfl ?_
              first | (refine s_add' rfl rfl rfl ?hx ?_; case hx => (constructor <;> first | omega | (simp only; omega))) | refine s_add rfl rfl rfl ?_
              (refine s_slice_lo El39 rfl rfl rfl ?hx ?_; case hx => (constructor <;> omega))
              refine s_nilCheck rfl rfl ?_
              refine s_fieldAddr rfl rfl (FA99_0 _ _) ?_
              first
                | refine s_storeB Tryz.sizeOf39 rfl rfl rfl hs (kk := 0) rfl rfl ?_
                | refine s_storeB Tryz.sizeOf39 rfl rfl rfl hs (kk := 1) rfl rfl ?_
              clear hs; intro w hs; try simp only [List.set_cons_zero, List.set_cons_succ, splice, List.take_succ_cons, List.take_zero, List.drop_succ_cons, List.drop_zero, List.nil_append, List.cons_append, List.length_cons, List.length_nil, Nat.reduceAdd, List.append_assoc] at hs
              refine WL_nil ?_
              refine n_then ?_
              refine W_seq ?_
              refine W_region ?_
              refine s_move rfl rfl ?_
              refine s_assign rfl rfl ?_
              refine WL_nil ?_
              refine n_then ?_
              refine W_ret ?_
              refine r_blk ?_
              refine r_then ?_
              refine r_then ?_
              refine r_blk ?_
              refine r_then ?_
              first
                | (have h0 : rdU s = (0, ⟨[], 2⟩) := by rw [rdU, if_neg (by simpa using hs0), hpc, puA_bad (by omega)]
                   rw [h0]
                   exact end1 rfl rfl ⟨_, hs, ⟨_, _, _, rfl, ⟨by simp, by simp, by simp, by simp⟩, by simp⟩, rfl⟩)
                | (have h0 : rdU s = (0, ⟨[], 3⟩) := by rw [rdU, if_neg (by simpa using hs0), hpc, List.drop_eq_nil_of_le (by omega), puA_nil]
                   rw [h0]
                   exact end1 rfl rfl ⟨_, hs, ⟨_, _, _, rfl, ⟨by simp, by simp, by simp, by simp⟩, by simp⟩, rfl⟩)
                | (have h0 : rdU s = (0, s) := by rw [rdU, if_pos ‹_›]
                   rw [h0]
                   exact end1 rfl rfl ⟨_, hs, ⟨_, _, _, rfl, hok, fun h => absurd h ‹_›⟩, rfl⟩)
                | (have h0 : rdU s = (acc + cN * 128 ^ i, ⟨s.rest.drop (i + 1), 0⟩) := by rw [rdU, if_neg (by simpa using hs0), hpc, puA_end (by omega) (by omega)]; simp
                   have hti : ((i : Int) + 1).toNat = i + 1 := by omega
                   rw [h0]
                   rw [hti, hs0] at hs
                   have hrd := RdS_drop (k := i + 1) (hok.sl hs0) hn.symm (by omega)
                   refine end1 rfl rfl ⟨_, hs, ⟨some ⟨b1, if c = i + 1 then o1 else o1 + (i + 1) * 1, none⟩, n - (i + 1), c - (i + 1), rfl, ⟨fun _ => by simp only [List.length_drop]; omega, fun _ => hrd, fun _ b hb => hok.b hs0 b (List.mem_of_mem_drop hb), fun _ => by have := hok.small hs0; simp only [List.length_drop]; omega⟩, fun _ => ⟨_, _, rfl⟩⟩, ?_⟩
                   rw [Nat.mod_eq_of_lt (show cN < 128 by omega), Nat.add_comm])
            · skip
              simp only [decide_eq_true_eq, decide_eq_false_iff_not, beq_iff_eq, beq_eq_false_iff_ne, ne_eq] at hc58
              refine W_skip ?_
              refine n_blk ?_
              refine n_then ?_
              refine W_region ?_
              refine s_move rfl rfl ?_
              first | (refine s_add' rfl rfl rfl ?hx ?_; case hx => (constructor <;> first | omega | (simp only; omega))) | refine s_add rfl rfl rfl ?_
              refine s_assign rfl rfl ?_
              refine WL_nil ?_
              refine n_loop ?_
              have hu9 : ((128 ^ i : Nat) : Int) * 128 = ((128 ^ (i + 1) : Nat) : Int) := by rw [Nat.pow_succ, Int.natCast_mul]; rfl
              have h9 : 128 ^ (i + 1) < 18446744073709551616 := by
                have h4 : 128 ^ (i + 1) ≤ 128 ^ 9 := Nat.pow_le_pow_right (by omega) (by omega)
                have h5 : 128 ^ 9 < 18446744073709551616 := by decide +kernel
                exact Nat.lt_of_le_of_lt h4 h5
              refine ⟨(i + 1, cN % 128 * 128 ^ i + acc), ⟨rfl, rfl, by simp only; rw [← u64w h9, ← hu9]; rfl, rfl, trivial⟩, ⟨hs, fun _ => ?_, ?_, by simp only; omega⟩, by simp only; omega⟩
              · rw [hpc, puA_more (by omega) (by omega)]; simp only
                congr 1
                rw [show ((cN : Int) - 128).toNat = cN % 128 by omega, Nat.add_comm]
              · simp only
                have h2 := Nat.mul_le_mul_right (128 ^ i) (show cN % 128 + 1 ≤ 128 by omega)
                rw [Nat.add_mul] at h2
                have h3 : 128 ^ (i + 1) = 128 * 128 ^ i := by rw [Nat.pow_succ, Nat.mul_comm]
                rw [h3]; omega
        · skip
          simp only [decide_eq_true_eq, decide_eq_false_iff_not, beq_iff_eq, beq_eq_false_iff_ne, ne_eq] at hg40
          refine WL_skip rfl rfl rfl ?_
          refine WL_skip rfl rfl rfl ?_
          refine WL_take rfl ?_
          refine s_pick_f rfl rfl rfl ?_
          refine s_pick_f rfl rfl rfl ?_
          refine WL_nil ?_
          refine n_then ?_
          refine W_cond_f rfl ?_
          refine W_skip ?_
          refine n_then ?_
          refine W_seq ?_
          refine W_region ?_
          refine s_move rfl rfl ?_
          refine s_move rfl rfl ?_
          (refine s_rem rfl rfl rfl ?hx ?_; case hx => omega)
          rw [IntWalk.rem_in _ _ (by omega), show (cN : Int) % 128 = ((cN % 128 : Nat) : Int) by omega]
          refine s_convert rfl rfl (CV5_75 _) ?_
          rw [u64w (by omega)]
          refine s_move rfl rfl ?_
          have hx9 : i = 9 → cN % 128 ≤ 1 := by omega
          have hrm := room hacc (show cN % 128 ≤ 127 by omega) hi9 hx9
          refine s_mul rfl rfl rfl ?_
          rw [show ((cN % 128 : Nat) : Int) * ((128 ^ i : Nat) : Int) = ((cN % 128 * 128 ^ i : Nat) : Int) by rw [Int.natCast_mul], u64w (Nat.lt_of_le_of_lt (Nat.le_add_right _ _) hrm)]
          refine s_add rfl rfl rfl ?_
          rw [show (acc : Int) + ((cN % 128 * 128 ^ i : Nat) : Int) = ((cN % 128 * 128 ^ i + acc : Nat) : Int) by omega, u64w hrm]
          refine s_assign rfl rfl ?_
          refine WL_nil ?_
          refine n_then ?_
          refine W_seq ?_
          refine W_region ?_
          refine s_move rfl rfl ?_
          refine s_mul rfl rfl rfl ?_
          refine s_assign rfl rfl ?_
          refine WL_nil ?_
          refine n_then ?_
          refine W_seq ?_
          refine W_region ?_
          refine s_move rfl rfl ?_
          refine s_lss rfl rfl rfl ?_
          refine WL_nil ?_
          refine n_then ?_
          refine W_cond rfl (fun hc58 => ?_) (fun hc58 => ?_)
          · skip
            simp only [decide_eq_true_eq, decide_eq_false_iff_not, beq_iff_eq, beq_eq_false_iff_ne, ne_eq] at hc58
            refine W_seq ?_
            refine W_region ?_
            refine s_move rfl rfl ?_
            refine s_move rfl rfl ?_
            refine s_nilCheck rfl rfl ?_
            refine s_fieldAddr rfl rfl (FA99_0 _ _) ?_
            first
              | refine s_load Tryz.isAgg39 rfl rfl (hs.cell (k := 0) rfl rfl) ?_
              | refine s_load Tryz.isAgg39 rfl rfl (hs.cell (k := 1) rfl rfl) ?_
            refine s_move rfl rfl ?_
            first | (refine s_add' rfl rfl rfl ?hx ?_; case hx => (constructor <;> first | omega | (simp only; omega))) | refine s_add rfl rfl rfl ?_
            (refine s_slice_lo El39 rfl rfl rfl ?hx ?_; case hx => (constructor <;> omega))
            refine s_nilCheck rfl rfl ?_
            refine s_fieldAddr rfl rfl (FA99_0 _ _) ?_
            first
              | refine s_storeB Tryz.sizeOf39 rfl rfl rfl hs (kk := 0) rfl rfl ?_
              | refine s_storeB Tryz.sizeOf39 rfl rfl rfl hs (kk := 1) rfl rfl ?_
            clear hs; intro w hs; try simp only [List.set_cons_zero, List.set_cons_succ, splice, List.take_succ_cons, List.take_zero, List.drop_succ_cons, List.drop_zero, List.nil_append, List.cons_append, List.length_cons, List.length_nil, Nat.reduceAdd, List.append_assoc] at hs
            refine WL_nil ?_
            refine n_then ?_
            refine W_seq ?_
            refine W_region ?_
            refine s_move rfl rfl ?_
            refine s_assign rfl rfl ?_
            refine WL_nil ?_
            refine n_then ?_
            refine W_ret ?_
            refine r_blk ?_
            refine r_then ?_
            refine r_then ?_
            refine r_blk ?_
            refine r_then ?_
            first
              | (have h0 : rdU s = (0, ⟨[], 2⟩) := by rw [rdU, if_neg (by simpa using hs0), hpc, puA_bad (by omega)]
                 rw [h0]
                 exact end1 rfl rfl ⟨_, hs, ⟨_, _, _, rfl, ⟨by simp, by simp, by simp, by simp⟩, by simp⟩, rfl⟩)
              | (have h0 : rdU s = (0, ⟨[], 3⟩) := by rw [rdU, if_neg (by simpa using hs0), hpc, List.drop_eq_nil_of_le (by omega), puA_nil]
                 rw [h0]
                 exact end1 rfl rfl ⟨_, hs, ⟨_, _, _, rfl, ⟨by simp, by simp, by simp, by simp⟩, by simp⟩, rfl⟩)
              | (have h0 : rdU s = (0, s) := by rw [rdU, if_pos ‹_›]
                 rw [h0]
                 exact end1 rfl rfl ⟨_, hs, ⟨_, _, _, rfl, hok, fun h => absurd h ‹_›⟩, rfl⟩)
              | (have h0 : rdU s = (acc + cN * 128 ^ i, ⟨s.rest.drop (i + 1), 0⟩) := by rw [rdU, if_neg (by simpa using hs0), hpc, puA_end (by omega) (by omega)]; simp
                 have hti : ((i : Int) + 1).toNat = i + 1 := by omega
                 rw [h0]
                 rw [hti, hs0] at hs
                 have hrd := RdS_drop (k := i + 1) (hok.sl hs0) hn.symm (by omega)
                 refine end1 rfl rfl ⟨_, hs, ⟨some ⟨b1, if c = i + 1 then o1 else o1 + (i + 1) * 1, none⟩, n - (i + 1), c - (i + 1), rfl, ⟨fun _ => by simp only [List.length_drop]; omega, fun _ => hrd, fun _ b hb => hok.b hs0 b (List.mem_of_mem_drop hb), fun _ => by have := hok.small hs0; simp only [List.length_drop]; omega⟩, fun _ => ⟨_, _, rfl⟩⟩, ?_⟩
                 rw [Nat.mod_eq_of_lt (show cN < 128 by omega), Nat.add_comm])
          · skip
            simp only [decide_eq_true_eq, decide_eq_false_iff_not, beq_iff_eq, beq_eq_false_iff_ne, ne_eq] at hc58
            refine W_skip ?_
            refine n_blk ?_
            refine n_then ?_
            refine W_region ?_
            refine s_move rfl rfl ?_
            first | (refine s_add' rfl rfl rfl ?hx ?_; case hx => (constructor <;> first | omega | (simp only; omega))) | refine s_add rfl rfl rfl ?_
            refine s_assign rfl rfl ?_
            refine WL_nil ?_
            refine n_loop ?_
            have hu9 : ((128 ^ i : Nat) : Int) * 128 = ((128 ^ (i + 1) : Nat) : Int) := by rw [Nat.pow_succ, Int.natCast_mul]; rfl
            have h9 : 128 ^ (i + 1) < 18446744073709551616 := by
              have h4 : 128 ^ (i + 1) ≤ 128 ^ 9 := Nat.pow_le_pow_right (by omega) (by omega)
              have h5 : 128 ^ 9 < 18446744073709551616 := by decide +kernel
              exact Nat.lt_of_le_of_lt h4 h5
            refine ⟨(i + 1, cN % 128 * 128 ^ i + acc), ⟨rfl, rfl, by simp only; rw [← u64w h9, ← hu9]; rfl, rfl, trivial⟩, ⟨hs, fun _ => ?_, ?_, by simp only; omega⟩, by simp only; omega⟩
            · rw [hpc, puA_more (by omega) (by omega)]; simp only
              congr 1
              rw [show ((cN : Int) - 128).toNat = cN % 128 by omega, Nat.add_comm]
            · simp only
              have h2 := Nat.mul_le_mul_right (128 ^ i) (show cN % 128 + 1 ≤ 128 by omega)
              rw [Nat.add_mul] at h2
              have h3 : 128 ^ (i + 1) = 128 * 128 ^ i := by rw [Nat.pow_succ, Nat.mul_comm]
              rw [h3]; omega
  · skip
    simp only [decide_eq_true_eq, decide_eq_false_iff_not, beq_iff_eq, beq_eq_false_iff_ne, ne_eq] at hc11
    refine W_exit ?_
    refine x_then ?_
    refine x_then ?_
    refine exit_hit ?_
    refine n_then ?_
    refine W_seq ?_
    refine W_region ?_
    refine s_assign rfl rfl ?_
    refine WL_nil ?_
    refine n_then ?_
    refine W_ret ?_
    first
      | (have h0 : rdU s = (0, ⟨[], 2⟩) := by rw [rdU, if_neg (by simpa using hs0), hpc, puA_bad (by omega)]
         rw [h0]
         exact end1 rfl rfl ⟨_, hs, ⟨_, _, _, rfl, ⟨by simp, by simp, by simp, by simp⟩, by simp⟩, rfl⟩)
      | (have h0 : rdU s = (0, ⟨[], 3⟩) := by rw [rdU, if_neg (by simpa using hs0), hpc, List.drop_eq_nil_of_le (by omega), puA_nil]
         rw [h0]
         exact end1 rfl rfl ⟨_, hs, ⟨_, _, _, rfl, ⟨by simp, by simp, by simp, by simp⟩, by simp⟩, rfl⟩)
      | (have h0 : rdU s = (0, s) := by rw [rdU, if_pos ‹_›]
         rw [h0]
         exact end1 rfl rfl ⟨_, hs, ⟨_, _, _, rfl, hok, fun h => absurd h ‹_›⟩, rfl⟩)
      | (have h0 : rdU s = (acc + cN * 128 ^ i, ⟨s.rest.drop (i + 1), 0⟩) := by rw [rdU, if_neg (by simpa using hs0), hpc, puA_end (by omega) (by omega)]; simp
         have hti : ((i : Int) + 1).toNat = i + 1 := by omega
         rw [h0]
         rw [hti, hs0] at hs
         have hrd := RdS_drop (k := i + 1) (hok.sl hs0) hn.symm (by omega)
         refine end1 rfl rfl ⟨_, hs, ⟨some ⟨b1, if c = i + 1 then o1 else o1 + (i + 1) * 1, none⟩, n - (i + 1), c - (i + 1), rfl, ⟨fun _ => by simp only [List.length_drop]; omega, fun _ => hrd, fun _ b hb => hok.b hs0 b (List.mem_of_mem_drop hb), fun _ => by have := hok.small hs0; simp only [List.length_drop]; omega⟩, fun _ => ⟨_, _, rfl⟩⟩, ?_⟩
         rw [Nat.mod_eq_of_lt (show cN < 128 by omega), Nat.add_comm])
theorem fBack_ok (m : Nat) (w0 : World) (hm : m < 18446744073709551616) : Ret Tryz.prog 80 [.int .u64 m].toArray w0 fun r w' => w' = w0 ∧ r = .int .i64 (unzz m) := by
  refine Ret_of Tryz.func80 rfl Tryz.ntmps80 rfl ?_
  refine W_seq ?_
  refine W_region ?_
  refine s_assign rfl rfl ?_
  refine WL_nil ?_
  refine n_then ?_
  refine W_seq ?_
  refine W_seq ?_
  refine W_region ?_
  refine s_move rfl rfl ?_
  (refine s_rem rfl rfl rfl ?hx ?_; case hx => omega)
  rw [IntWalk.rem_in _ _ (by omega)]
  refine s_eql rfl rfl rfl ?_
  refine WL_nil ?_
  refine n_then ?_
  refine W_cond rfl (fun hc5 => ?_) (fun hc5 => ?_)
  · skip
    simp only [beq_iff_eq, beq_eq_false_iff_ne, ne_eq] at hc5
    refine W_seq ?_
    refine W_region ?_
    refine s_move rfl rfl ?_
    (refine s_quo rfl rfl rfl ?hx ?_; case hx => omega)
    rw [IntWalk.u64_quo _ _ ⟨by omega, by omega, by omega⟩]
    refine s_convert rfl rfl (CV75_3 _) ?_
    rw [IntWalk.i64_in _ (by omega)]
    first | (refine s_neg' rfl rfl ?hx ?_; case hx => omega) | refine s_neg rfl rfl ?_
    first | (refine s_sub' rfl rfl rfl ?hx ?_; case hx => (constructor <;> first | omega | (simp only; omega))) | refine s_sub rfl rfl rfl ?_
    refine s_assign rfl rfl ?_
    refine WL_nil ?_
    refine n_then ?_
    refine W_ret ?_
    refine r_then ?_
    refine end1 rfl rfl ⟨rfl, congrArg (Value.int .i64) ?_⟩
    unfold unzz; split <;> omega
  · skip
    simp only [beq_iff_eq, beq_eq_false_iff_ne, ne_eq] at hc5
    refine W_skip ?_
    refine n_then ?_
    refine W_seq ?_
    refine W_region ?_
    refine s_move rfl rfl ?_
    (refine s_quo rfl rfl rfl ?hx ?_; case hx => omega)
    rw [IntWalk.u64_quo _ _ ⟨by omega, by omega, by omega⟩]
    refine s_convert rfl rfl (CV75_3 _) ?_
    rw [IntWalk.i64_in _ (by omega)]
    refine s_assign rfl rfl ?_
    refine WL_nil ?_
    refine n_then ?_
    refine W_ret ?_
    refine end1 rfl rfl ⟨rfl, congrArg (Value.int .i64) ?_⟩
    unfold unzz; split <;> omega
/-- what a caller of the model's reader owes and gets -/
theorem RfAt_of {q : Nat} {s : RS} {Ls L : Hp} {P : Option Addr → Prop} (h : ∃ a n c, L = [(q, Blk 99 [.slice a n c, .int .i64 s.e])] ∧ RfOk s a n c Ls ∧ P a) : RfAt q s Ls L := by
  obtain ⟨a, n, c, h1, h2, _⟩ := h; exact ⟨a, n, c, h1, h2⟩
theorem src_kept {q : Nat} {Ls L0 L : Hp} {w0 w : World} (hF : ids L0 = [q]) (hsrc : ∀ p ∈ Ls, w0.heap[p.1]? = some p.2) (hq : q ∉ ids Ls) (h : St (ids L0) w0 w L) : ∀ p ∈ Ls, w.heap[p.1]? = some p.2 := fun p hp =>
  (h.old (Array.getElem?_eq_some_iff.1 (hsrc p hp)).1 (by rw [hF]; intro h1; simp at h1; exact hq (h1 ▸ mem_ids_of hp))).trans (hsrc p hp)
theorem src_fwd {q : Nat} {Ls : Hp} {w0 w : World} (hsrc : ∀ p ∈ Ls, w0.heap[p.1]? = some p.2) (hq : q ∉ ids Ls) (h : Fwd [q] w0 w) : ∀ p ∈ Ls, w.heap[p.1]? = some p.2 := fun p hp =>
  (h.block p.1 (Array.getElem?_eq_some_iff.1 (hsrc p hp)).1 (by intro h1; simp at h1; exact hq (h1 ▸ mem_ids_of hp))).trans (hsrc p hp)
theorem RfAt.ids {q : Nat} {s : RS} {Ls L : Hp} (h : RfAt q s Ls L) : ids L = [q] := by obtain ⟨a, n, c, rfl, _⟩ := h; rfl
theorem fRInt_ok (q : Nat) (s : RS) (Ls L0 : Hp) (w0 : World) (hR : RfAt q s Ls L0) (hs : St (ids L0) w0 w0 L0) (hsrc : ∀ p ∈ Ls, w0.heap[p.1]? = some p.2) (hq : q ∉ ids Ls) :
    Ret Tryz.prog 65 [.pointer (some ⟨q, 0, none⟩)].toArray w0 fun r w' => ∃ L', St (ids L0) w0 w' L' ∧ RfAt q (rdI s).2 Ls L' ∧ r = .int .i64 (rdI s).1 := by
  refine Ret_startL hs fun w hs => ?_
  have hb : s.e = 0 → ∀ b ∈ s.rest, isB b := by obtain ⟨_, _, _, _, h⟩ := hR; exact h.b
  have hm := rdU_lt hb
  refine Ret_of Tryz.func65 rfl Tryz.ntmps65 rfl ?_
  refine W_seq ?_
  refine W_region ?_
  refine s_assign rfl rfl ?_
  refine WL_nil ?_
  refine n_then ?_
  refine W_seq ?_
  refine W_region ?_
  refine s_move rfl rfl ?_
  refine s_callL (M := []) (L1 := L0) (X := []) Tryz.call81 rfl rfl (by simpa using hs) (fun h => fRUint_ok q s Ls L0 w hR h (src_kept hR.ids hsrc hq hs) hq) ?_
  clear hs; rintro v w L2 ⟨hR2, rfl⟩ - hs
  simp only [List.nil_append, List.append_nil] at hs
  refine s_call Tryz.call80 rfl rfl (fBack_ok _ w hm) ?_
  rintro r w ⟨rfl, rfl⟩
  refine s_assign rfl rfl ?_
  refine WL_nil ?_
  refine n_then ?_
  refine W_ret ?_
  exact end1 rfl rfl ⟨_, hs, RfAt_of hR2, rfl⟩
theorem fRLen_ok (q : Nat) (s : RS) (Ls L0 : Hp) (w0 : World) (hR : RfAt q s Ls L0) (hs : St (ids L0) w0 w0 L0) (hsrc : ∀ p ∈ Ls, w0.heap[p.1]? = some p.2) (hq : q ∉ ids Ls) :
    Ret Tryz.prog 79 [.pointer (some ⟨q, 0, none⟩)].toArray w0 fun r w' => ∃ L', St (ids L0) w0 w' L' ∧
      ((∃ e, e ≠ 0 ∧ RfAt q ⟨[], e⟩ Ls L' ∧ r = .int .i64 0 ∧ (((rdU s).2.e ≠ 0 ∧ (rdU s).2.e = e) ∨ ((rdU s).2.e = 0 ∧ (rdU s).2.rest.length < (rdU s).1 ∧ e = 3))) ∨
       (∃ b o n c, (rdU s).2.e = 0 ∧ ¬ (rdU s).2.rest.length < (rdU s).1 ∧ L' = [(q, Blk 99 [.slice (some ⟨b, o, none⟩) n c, .int .i64 0])] ∧ RfOk (rdU s).2 (some ⟨b, o, none⟩) n c Ls ∧ r = .int .i64 ((rdU s).1 : Int))) := by
  refine Ret_startL hs fun w hs => ?_
  have hb : s.e = 0 → ∀ b ∈ s.rest, isB b := by obtain ⟨_, _, _, _, h⟩ := hR; exact h.b
  have hm := rdU_lt hb
  refine Ret_of Tryz.func79 rfl Tryz.ntmps79 rfl ?_
  refine W_seq ?_
  refine W_region ?_
  refine s_assign rfl rfl ?_
  refine WL_nil ?_
  refine n_then ?_
  refine W_seq ?_
  refine W_region ?_
  refine s_move rfl rfl ?_
  refine s_callL (M := []) (L1 := L0) (X := []) Tryz.call81 rfl rfl (by simpa using hs) (fun h => fRUint_ok q s Ls L0 w hR h (src_kept hR.ids hsrc hq hs) hq) ?_
  clear hs; rintro v w L2 ⟨⟨a, n, c, rfl, hok, hsome⟩, rfl⟩ - hs
  simp only [List.nil_append, List.append_nil] at hs
  generalize (rdU s).1 = m at hm
  generalize (rdU s).2 = s1 at hok hsome hs
  refine s_assign rfl rfl ?_
  refine WL_nil ?_
  refine n_then ?_
  refine W_seq ?_
  refine W_seq ?_
  refine W_region ?_
  refine s_move rfl rfl ?_
  refine s_nilCheck rfl rfl ?_
  refine s_fieldAddr rfl rfl (FA99_1 _ _) ?_
  first
    | refine s_load Tryz.isAgg30 rfl rfl (hs.cell (k := 0) rfl rfl) ?_
    | refine s_load Tryz.isAgg30 rfl rfl (hs.cell (k := 1) rfl rfl) ?_
  refine s_eql rfl rfl rfl ?_
  refine s_move rfl rfl ?_
  refine WL_case (s := 11) rfl (fun hg11 => ?_) (fun hg11 => ?_)
  · skip
    simp only [decide_eq_true_eq, decide_eq_false_iff_not, beq_iff_eq, beq_eq_false_iff_ne, ne_eq, bne_iff_ne, bne_eq_false_iff_eq] at hg11
    refine WL_take rfl ?_
    refine s_move rfl rfl ?_
    refine WL_take rfl ?_
    refine s_move rfl rfl ?_
    refine WL_take rfl ?_
    refine s_nilCheck rfl rfl ?_
    refine WL_take rfl ?_
    refine s_fieldAddr rfl rfl (FA99_0 _ _) ?_
    refine WL_take rfl ?_
    first
      | refine s_load Tryz.isAgg39 rfl rfl (hs.cell (k := 0) rfl rfl) ?_
      | refine s_load Tryz.isAgg39 rfl rfl (hs.cell (k := 1) rfl rfl) ?_
    refine WL_take rfl ?_
    refine s_len rfl rfl (LN39 _ _ _ _) ?_
    refine WL_take rfl ?_
    refine s_convert rfl rfl (CV3_75 _) ?_
    rw [u64w (by have := hok.len ‹_›; have := hok.small ‹_›; omega)]
    refine WL_take rfl ?_
    refine s_gtr rfl rfl rfl ?_
    refine s_pick_t rfl rfl rfl ?_
    refine WL_nil ?_
    refine n_then ?_
    refine W_cond rfl (fun hc20 => ?_) (fun hc20 => ?_)
    · skip
      simp only [decide_eq_true_eq, decide_eq_false_iff_not, beq_iff_eq, beq_eq_false_iff_ne, ne_eq, bne_iff_ne, bne_eq_false_iff_eq] at hc20
      refine W_region ?_
      refine s_move rfl rfl ?_
      refine s_nilCheck rfl rfl ?_
      refine s_fieldAddr rfl rfl (FA99_1 _ _) ?_
      first
        | refine s_storeB Tryz.sizeOf30 rfl rfl rfl hs (kk := 0) rfl rfl ?_
        | refine s_storeB Tryz.sizeOf30 rfl rfl rfl hs (kk := 1) rfl rfl ?_
      clear hs; intro w hs; try simp only [List.set_cons_zero, List.set_cons_succ, splice, List.take_succ_cons, List.take_zero, List.drop_succ_cons, List.drop_zero, List.nil_append, List.cons_append, List.length_cons, List.length_nil, Nat.reduceAdd, List.append_assoc] at hs
      refine WL_nil ?_
      refine n_then ?_
      refine W_seq ?_
      refine W_seq ?_
      refine W_region ?_
      refine s_move rfl rfl ?_
      refine s_nilCheck rfl rfl ?_
      refine s_fieldAddr rfl rfl (FA99_1 _ _) ?_
      first
        | refine s_load Tryz.isAgg30 rfl rfl (hs.cell (k := 0) rfl rfl) ?_
        | refine s_load Tryz.isAgg30 rfl rfl (hs.cell (k := 1) rfl rfl) ?_
      refine s_neq rfl rfl rfl ?_
      refine WL_nil ?_
      refine n_then ?_
      refine W_cond rfl (fun hc28 => ?_) (fun hc28 => ?_)
      · skip
        skip
        refine W_seq ?_
        refine W_region ?_
        refine s_assign rfl rfl ?_
        refine WL_nil ?_
        refine n_then ?_
        refine W_ret ?_
        refine r_then ?_
        first
          | exact absurd hc28 (by decide)
          | exact absurd (show s1.e = 0 by simpa using hc28) ‹¬ s1.e = 0›
          | (have he : s1.e ≠ 0 := by simpa using hc28
             refine end1 rfl rfl ⟨_, hs, .inl ⟨s1.e, he, ⟨a, n, c, rfl, ⟨fun h => absurd h he, fun h => absurd h he, fun h => absurd h he, fun h => absurd h he⟩⟩, rfl, .inl ⟨he, rfl⟩⟩⟩)
          | (have he : s1.e = 0 := ‹_›
             have hl := hok.len he
             exact end1 rfl rfl ⟨_, hs, .inl ⟨3, by decide, ⟨a, n, c, rfl, ⟨by simp, by simp, by simp, by simp⟩⟩, rfl, .inr ⟨he, by omega, rfl⟩⟩⟩)
          | (have he : s1.e = 0 := ‹_›
             have hl := hok.len he
             obtain ⟨b, o, rfl⟩ := hsome he
             exact end1 rfl rfl ⟨_, hs, .inr ⟨b, o, n, c, he, by omega, by rw [he], hok, by rw [IntWalk.i64_in _ (by have := hok.small he; omega)]⟩⟩)
      · skip
        skip
        refine W_skip ?_
        refine n_then ?_
        refine W_seq ?_
        refine W_region ?_
        refine s_move rfl rfl ?_
        refine s_convert rfl rfl (CV75_3 _) ?_
        refine s_assign rfl rfl ?_
        refine WL_nil ?_
        refine n_then ?_
        refine W_ret ?_
        first
          | exact absurd hc28 (by decide)
          | exact absurd (show s1.e = 0 by simpa using hc28) ‹¬ s1.e = 0›
          | (have he : s1.e ≠ 0 := by simpa using hc28
             refine end1 rfl rfl ⟨_, hs, .inl ⟨s1.e, he, ⟨a, n, c, rfl, ⟨fun h => absurd h he, fun h => absurd h he, fun h => absurd h he, fun h => absurd h he⟩⟩, rfl, .inl ⟨he, rfl⟩⟩⟩)
          | (have he : s1.e = 0 := ‹_›
             have hl := hok.len he
             exact end1 rfl rfl ⟨_, hs, .inl ⟨3, by decide, ⟨a, n, c, rfl, ⟨by simp, by simp, by simp, by simp⟩⟩, rfl, .inr ⟨he, by omega, rfl⟩⟩⟩)
          | (have he : s1.e = 0 := ‹_›
             have hl := hok.len he
             obtain ⟨b, o, rfl⟩ := hsome he
             exact end1 rfl rfl ⟨_, hs, .inr ⟨b, o, n, c, he, by omega, by rw [he], hok, by rw [IntWalk.i64_in _ (by have := hok.small he; omega)]⟩⟩)
    · skip
      simp only [decide_eq_true_eq, decide_eq_false_iff_not, beq_iff_eq, beq_eq_false_iff_ne, ne_eq, bne_iff_ne, bne_eq_false_iff_eq] at hc20
      refine W_skip ?_
      refine n_then ?_
      refine W_seq ?_
      refine W_seq ?_
      refine W_region ?_
      refine s_move rfl rfl ?_
      refine s_nilCheck rfl rfl ?_
      refine s_fieldAddr rfl rfl (FA99_1 _ _) ?_
      first
        | refine s_load Tryz.isAgg30 rfl rfl (hs.cell (k := 0) rfl rfl) ?_
        | refine s_load Tryz.isAgg30 rfl rfl (hs.cell (k := 1) rfl rfl) ?_
      refine s_neq rfl rfl rfl ?_
      refine WL_nil ?_
      refine n_then ?_
      refine W_cond rfl (fun hc28 => ?_) (fun hc28 => ?_)
      · skip
        skip
        refine W_seq ?_
        refine W_region ?_
        refine s_assign rfl rfl ?_
        refine WL_nil ?_
        refine n_then ?_
        refine W_ret ?_
        refine r_then ?_
        first
          | exact absurd hc28 (by decide)
          | exact absurd (show s1.e = 0 by simpa using hc28) ‹¬ s1.e = 0›
          | (have he : s1.e ≠ 0 := by simpa using hc28
             refine end1 rfl rfl ⟨_, hs, .inl ⟨s1.e, he, ⟨a, n, c, rfl, ⟨fun h => absurd h he, fun h => absurd h he, fun h => absurd h he, fun h => absurd h he⟩⟩, rfl, .inl ⟨he, rfl⟩⟩⟩)
          | (have he : s1.e = 0 := ‹_›
             have hl := hok.len he
             exact end1 rfl rfl ⟨_, hs, .inl ⟨3, by decide, ⟨a, n, c, rfl, ⟨by simp, by simp, by simp, by simp⟩⟩, rfl, .inr ⟨he, by omega, rfl⟩⟩⟩)
          | (have he : s1.e = 0 := ‹_›
             have hl := hok.len he
             obtain ⟨b, o, rfl⟩ := hsome he
             exact end1 rfl rfl ⟨_, hs, .inr ⟨b, o, n, c, he, by omega, by rw [he], hok, by rw [IntWalk.i64_in _ (by have := hok.small he; omega)]⟩⟩)
      · skip
        skip
        refine W_skip ?_
        refine n_then ?_
        refine W_seq ?_
        refine W_region ?_
        refine s_move rfl rfl ?_
        refine s_convert rfl rfl (CV75_3 _) ?_
        refine s_assign rfl rfl ?_
        refine WL_nil ?_
        refine n_then ?_
        refine W_ret ?_
        first
          | exact absurd hc28 (by decide)
          | exact absurd (show s1.e = 0 by simpa using hc28) ‹¬ s1.e = 0›
          | (have he : s1.e ≠ 0 := by simpa using hc28
             refine end1 rfl rfl ⟨_, hs, .inl ⟨s1.e, he, ⟨a, n, c, rfl, ⟨fun h => absurd h he, fun h => absurd h he, fun h => absurd h he, fun h => absurd h he⟩⟩, rfl, .inl ⟨he, rfl⟩⟩⟩)
          | (have he : s1.e = 0 := ‹_›
             have hl := hok.len he
             exact end1 rfl rfl ⟨_, hs, .inl ⟨3, by decide, ⟨a, n, c, rfl, ⟨by simp, by simp, by simp, by simp⟩⟩, rfl, .inr ⟨he, by omega, rfl⟩⟩⟩)
          | (have he : s1.e = 0 := ‹_›
             have hl := hok.len he
             obtain ⟨b, o, rfl⟩ := hsome he
             exact end1 rfl rfl ⟨_, hs, .inr ⟨b, o, n, c, he, by omega, by rw [he], hok, by rw [IntWalk.i64_in _ (by have := hok.small he; omega)]⟩⟩)
  · skip
    simp only [decide_eq_true_eq, decide_eq_false_iff_not, beq_iff_eq, beq_eq_false_iff_ne, ne_eq, bne_iff_ne, bne_eq_false_iff_eq] at hg11
    refine WL_skip rfl rfl rfl ?_
    refine WL_skip rfl rfl rfl ?_
    refine WL_skip rfl rfl rfl ?_
    refine WL_skip rfl rfl rfl ?_
    refine WL_skip rfl rfl rfl ?_
    refine WL_skip rfl rfl rfl ?_
    refine WL_skip rfl rfl rfl ?_
    refine WL_skip rfl rfl rfl ?_
    refine s_pick_f rfl rfl rfl ?_
    refine WL_nil ?_
    refine n_then ?_
    refine W_cond_f rfl ?_
    refine W_skip ?_
    refine n_then ?_
    refine W_seq ?_
    refine W_seq ?_
    refine W_region ?_
    refine s_move rfl rfl ?_
    refine s_nilCheck rfl rfl ?_
    refine s_fieldAddr rfl rfl (FA99_1 _ _) ?_
    first
      | refine s_load Tryz.isAgg30 rfl rfl (hs.cell (k := 0) rfl rfl) ?_
      | refine s_load Tryz.isAgg30 rfl rfl (hs.cell (k := 1) rfl rfl) ?_
    refine s_neq rfl rfl rfl ?_
    refine WL_nil ?_
    refine n_then ?_
    refine W_cond rfl (fun hc28 => ?_) (fun hc28 => ?_)
    · skip
      skip
      refine W_seq ?_
      refine W_region ?_
      refine s_assign rfl rfl ?_
      refine WL_nil ?_
      refine n_then ?_
      refine W_ret ?_
      refine r_then ?_
      first
        | exact absurd hc28 (by decide)
        | exact absurd (show s1.e = 0 by simpa using hc28) ‹¬ s1.e = 0›
        | (have he : s1.e ≠ 0 := by simpa using hc28
           refine end1 rfl rfl ⟨_, hs, .inl ⟨s1.e, he, ⟨a, n, c, rfl, ⟨fun h => absurd h he, fun h => absurd h he, fun h => absurd h he, fun h => absurd h he⟩⟩, rfl, .inl ⟨he, rfl⟩⟩⟩)
        | (have he : s1.e = 0 := ‹_›
           have hl := hok.len he
           exact end1 rfl rfl ⟨_, hs, .inl ⟨3, by decide, ⟨a, n, c, rfl, ⟨by simp, by simp, by simp, by simp⟩⟩, rfl, .inr ⟨he, by omega, rfl⟩⟩⟩)
        | (have he : s1.e = 0 := ‹_›
           have hl := hok.len he
           obtain ⟨b, o, rfl⟩ := hsome he
           exact end1 rfl rfl ⟨_, hs, .inr ⟨b, o, n, c, he, by omega, by rw [he], hok, by rw [IntWalk.i64_in _ (by have := hok.small he; omega)]⟩⟩)
    · skip
      skip
      refine W_skip ?_
      refine n_then ?_
      refine W_seq ?_
      refine W_region ?_
      refine s_move rfl rfl ?_
      refine s_convert rfl rfl (CV75_3 _) ?_
      refine s_assign rfl rfl ?_
      refine WL_nil ?_
      refine n_then ?_
      refine W_ret ?_
      first
        | exact absurd hc28 (by decide)
        | exact absurd (show s1.e = 0 by simpa using hc28) ‹¬ s1.e = 0›
        | (have he : s1.e ≠ 0 := by simpa using hc28
           refine end1 rfl rfl ⟨_, hs, .inl ⟨s1.e, he, ⟨a, n, c, rfl, ⟨fun h => absurd h he, fun h => absurd h he, fun h => absurd h he, fun h => absurd h he⟩⟩, rfl, .inl ⟨he, rfl⟩⟩⟩)
        | (have he : s1.e = 0 := ‹_›
           have hl := hok.len he
           exact end1 rfl rfl ⟨_, hs, .inl ⟨3, by decide, ⟨a, n, c, rfl, ⟨by simp, by simp, by simp, by simp⟩⟩, rfl, .inr ⟨he, by omega, rfl⟩⟩⟩)
        | (have he : s1.e = 0 := ‹_›
           have hl := hok.len he
           obtain ⟨b, o, rfl⟩ := hsome he
           exact end1 rfl rfl ⟨_, hs, .inr ⟨b, o, n, c, he, by omega, by rw [he], hok, by rw [IntWalk.i64_in _ (by have := hok.small he; omega)]⟩⟩)
set_option maxHeartbeats 2000000 in
theorem fRRaw_ok (q : Nat) (s : RS) (Ls L0 : Hp) (w0 : World) (hR : RfAt q s Ls L0) (hs : St (ids L0) w0 w0 L0) (hsrc : ∀ p ∈ Ls, w0.heap[p.1]? = some p.2) (hq : q ∉ ids Ls) :
    Ret Tryz.prog 64 [.pointer (some ⟨q, 0, none⟩)].toArray w0 fun r w' => ∃ L', St (ids L0) w0 w' L' ∧ RfAt q (rdRaw s).2 Ls L' ∧ ∃ a c, r = .slice a (rdRaw s).1.length c ∧ RdS r (rdRaw s).1.length (u8s (rdRaw s).1) Ls := by
  refine Ret_startL hs fun w hs => ?_
  refine Ret_of Tryz.func64 rfl Tryz.ntmps64 rfl ?_
  refine W_seq ?_
  refine W_region ?_
  refine s_assign rfl rfl ?_
  refine WL_nil ?_
  refine n_then ?_
  refine W_seq ?_
  refine W_region ?_
  refine s_move rfl rfl ?_
  refine s_callL (M := []) (L1 := L0) (X := []) Tryz.call79 rfl rfl (by simpa using hs) (fun h => fRLen_ok q s Ls L0 w hR h (src_kept hR.ids hsrc hq hs) hq) ?_
  clear hs; intro v w L2 h _ hs
  simp only [List.nil_append, List.append_nil] at hs
  obtain ⟨e, he, ⟨a, n, c, rfl, hok⟩, rfl, hcase⟩ | ⟨b, o, n, c, he, hge, rfl, hok, rfl⟩ := h
  · skip
    refine s_assign rfl rfl ?_
    refine WL_nil ?_
    refine n_then ?_
    refine W_seq ?_
    refine W_seq ?_
    refine W_region ?_
    refine s_move rfl rfl ?_
    refine s_nilCheck rfl rfl ?_
    refine s_fieldAddr rfl rfl (FA99_1 _ _) ?_
    first
      | refine s_load Tryz.isAgg30 rfl rfl (hs.cell (k := 0) rfl rfl) ?_
      | refine s_load Tryz.isAgg30 rfl rfl (hs.cell (k := 1) rfl rfl) ?_
    refine s_neq rfl rfl rfl ?_
    refine WL_nil ?_
    refine n_then ?_
    refine W_cond_kt rfl ((by simpa using he)) ?_
    refine W_seq ?_
    refine W_region ?_
    refine s_assign rfl rfl ?_
    refine WL_nil ?_
    refine n_then ?_
    refine W_ret ?_
    refine r_then ?_
    have h0 : rdRaw s = ([], ⟨[], e⟩) ∨ rdRaw s = ([], (rdU s).2) ∧ (rdU s).2.e = e := by
      rcases hcase with ⟨h1, h2⟩ | ⟨h1, h2, rfl⟩
      · right; exact ⟨by rw [rdRaw, if_pos h1], h2⟩
      · left; rw [rdRaw, if_neg (by simpa using h1), if_pos h2]
    rcases h0 with h0 | ⟨h0, h00⟩
    · rw [h0]; exact end1 rfl rfl ⟨_, hs, ⟨a, n, c, rfl, hok⟩, none, 0, rfl, ⟨fun _ _ => ⟨none, 0, rfl, Nat.le_refl _, .inl rfl⟩, fun a m c h => by cases h⟩⟩
    · rw [h0]; exact end1 rfl rfl ⟨_, hs, ⟨a, n, c, by simp only [h00], ⟨fun h => absurd (h00.symm.trans h) he, fun h => absurd (h00.symm.trans h) he, fun h => absurd (h00.symm.trans h) he, fun h => absurd (h00.symm.trans h) he⟩⟩, none, 0, rfl, ⟨fun _ _ => ⟨none, 0, rfl, Nat.le_refl _, .inl rfl⟩, fun a m c h => by cases h⟩⟩
  · skip
    have hl := hok.len he
    have hraw : rdRaw s = ((rdU s).2.rest.take (rdU s).1, ⟨(rdU s).2.rest.drop (rdU s).1, 0⟩) := by rw [rdRaw, if_neg (by simpa using he), if_neg hge]
    generalize (rdU s).1 = m at hge hraw
    generalize (rdU s).2 = s1 at hok hge hraw he hl
    obtain ⟨_, _, h9, hnc⟩ := ((hok.sl he).sl w (src_kept hR.ids hsrc hq hs)).len_le
    cases h9
    refine s_assign rfl rfl ?_
    refine WL_nil ?_
    refine n_then ?_
    refine W_seq ?_
    refine W_seq ?_
    refine W_region ?_
    refine s_move rfl rfl ?_
    refine s_nilCheck rfl rfl ?_
    refine s_fieldAddr rfl rfl (FA99_1 _ _) ?_
    first
      | refine s_load Tryz.isAgg30 rfl rfl (hs.cell (k := 0) rfl rfl) ?_
      | refine s_load Tryz.isAgg30 rfl rfl (hs.cell (k := 1) rfl rfl) ?_
    refine s_neq rfl rfl rfl ?_
    refine WL_nil ?_
    refine n_then ?_
    refine W_cond_kf rfl (rfl) ?_
    refine W_skip ?_
    refine n_then ?_
    refine W_seq ?_
    refine W_region ?_
    refine s_move rfl rfl ?_
    refine s_nilCheck rfl rfl ?_
    refine s_fieldAddr rfl rfl (FA99_0 _ _) ?_
    first
      | refine s_load Tryz.isAgg39 rfl rfl (hs.cell (k := 0) rfl rfl) ?_
      | refine s_load Tryz.isAgg39 rfl rfl (hs.cell (k := 1) rfl rfl) ?_
    refine s_move rfl rfl ?_
    (refine s_slice_hi El39 rfl rfl rfl ?hx ?_; case hx => (constructor <;> omega))
    refine s_assign rfl rfl ?_
    refine WL_nil ?_
    refine n_then ?_
    refine W_seq ?_
    refine W_region ?_
    refine s_move rfl rfl ?_
    refine s_move rfl rfl ?_
    refine s_nilCheck rfl rfl ?_
    refine s_fieldAddr rfl rfl (FA99_0 _ _) ?_
    first
      | refine s_load Tryz.isAgg39 rfl rfl (hs.cell (k := 0) rfl rfl) ?_
      | refine s_load Tryz.isAgg39 rfl rfl (hs.cell (k := 1) rfl rfl) ?_
    refine s_move rfl rfl ?_
    (refine s_slice_lo El39 rfl rfl rfl ?hx ?_; case hx => (constructor <;> omega))
    refine s_nilCheck rfl rfl ?_
    refine s_fieldAddr rfl rfl (FA99_0 _ _) ?_
    first
      | refine s_storeB Tryz.sizeOf39 rfl rfl rfl hs (kk := 0) rfl rfl ?_
      | refine s_storeB Tryz.sizeOf39 rfl rfl rfl hs (kk := 1) rfl rfl ?_
    clear hs; intro w hs; try simp only [List.set_cons_zero, List.set_cons_succ, splice, List.take_succ_cons, List.take_zero, List.drop_succ_cons, List.drop_zero, List.nil_append, List.cons_append, List.length_cons, List.length_nil, Nat.reduceAdd, List.append_assoc] at hs
    refine WL_nil ?_
    refine n_then ?_
    refine W_seq ?_
    refine W_region ?_
    refine s_move rfl rfl ?_
    refine s_assign rfl rfl ?_
    refine WL_nil ?_
    refine n_then ?_
    refine W_ret ?_
    have htl : (s1.rest.take m).length = m := by rw [List.length_take]; omega
    rw [hraw]
    rw [Int.toNat_natCast] at hs
    have hrd := RdS_drop (k := m) (hok.sl he) hl.symm (by omega)
    refine end1 rfl rfl ⟨_, hs, ⟨some ⟨b, if c = m then o else o + m * 1, none⟩, n - m, c - m, rfl, ⟨fun _ => by simp only [List.length_drop]; omega, fun _ => hrd, fun _ b hb => hok.b he b (List.mem_of_mem_drop hb), fun _ => by have := hok.small he; simp only [List.length_drop]; omega⟩⟩, some ⟨b, o, none⟩, c, ?_, ?_⟩
    · simp only [htl, Int.toNat_natCast]
    · simp only [htl, Int.toNat_natCast]; exact RdS_take (hok.sl he) (by omega)
end Go.Proofs.YtkappdlbpilghaaGreat
