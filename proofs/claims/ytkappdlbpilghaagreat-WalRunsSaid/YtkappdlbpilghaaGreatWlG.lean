/- WalRuns. -/
import Derived.Test.YtkappdlbpilghaaGreatWlF
set_option linter.unusedVariables false
set_option linter.unusedSimpArgs false
namespace Go.SL
section
variable {P : Program} {n : Nat} {ops : Array Oper} {Q : Post} {l : Fr} {w : World} {rest : List Oper} {d ty : Nat} {pos : String} {aft : Array Edge}
theorem s_eql_ptrG {x y : Operand} {t e t' : Nat} {a : Option Addr} (hu : P.underlying t = some (.pointer e)) (hd : Nat.blt d n = true) (hx : ev l x = some (.pointer a)) (hy : ev l y = some (.pointer none)) (k : WL P n ops Q rest ((d, .bool a.isNone) :: l) w) :
    WL P n ops Q (⟨some d, .binOp .eql t x y t', ty, pos, aft, none⟩ :: rest) l w :=
  WL_val hd (fun ac ha => by have h := eql_of (equalIn_ptr_nil (a := a) hu 9999 w); simp [execOp, ha.eval hx, ha.eval hy, eqGuard, binOp, h]) k
end
end Go.SL
namespace Go.Proofs.YtkappdlbpilghaaGreat
open Go.SL
/-! the room stays -/
theorem app_room (D : Dk) (f : Int) (bs : List Int) : (D.app f bs).1.room = D.room := by
  unfold Dk.app; split
  · rfl
  · split
    · rfl
    · split
      · rfl
      · exact (step_c D).2.2
theorem sync_room (D : Dk) : D.sync.1.room = D.room := by
  unfold Dk.sync; split
  · rfl
  · split
    · exact (step_c D).2.2
    · exact (step_c D).2.2
theorem trunc_room (D : Dk) (f n : Int) : (D.trunc f n).1.room = D.room := by
  unfold Dk.trunc; split
  · rfl
  · split
    · rfl
    · split
      · exact (step_c D).2.2
      · exact (step_c D).2.2
theorem arm_room (D : Dk) (n : Int) : (D.arm n).room = D.room := by unfold Dk.arm; split <;> rfl
theorem cutL_room (keep : List Int) : ∀ (fs : List Int) (i : Nat) (E : Dk) (n : Nat), (cutL keep fs i E n).1.room = E.room
  | [], _, _, _ => rfl
  | f :: r, i, E, n => by rw [cutL, cutL_room keep r]; rfl
theorem invL_room : ∀ (fs : List Int) (at_ : Int) (E : Dk), (invL fs at_ E).room = E.room
  | [], _, _ => rfl
  | f :: r, at_, E => by rw [invL, invL_room r]; rfl
theorem crash_room (D : Dk) (keep : List Int) (flip : Int) : (D.crash keep flip).room = D.room := by
  show (if 0 ≤ flip ∧ 0 < (cutL keep (filesV D) 0 D 0).2 then invL (filesV D) (flip % (8 * ((cutL keep (filesV D) 0 D 0).2 : Int))) (cutL keep (filesV D) 0 D 0).1 else (cutL keep (filesV D) 0 D 0).1).room = D.room
  split
  · rw [invL_room, cutL_room]
  · rw [cutL_room]
theorem open_room (D : Dk) (f : Int) (n : Nat) : (D.open f n).1.room = D.room := by
  have h1 : (if n < (D.c f).length then D.trunc f n else (D, 0)).1.room = D.room := by split; exact trunc_room _ _ _; rfl
  rw [Dk.open]
  generalize (if n < (D.c f).length then D.trunc f n else (D, 0)) = T at h1 ⊢
  split
  · rw [sync_room]; exact h1
  · exact h1
theorem logApp_room (mx : Nat → Nat → Nat) (D : Dk) (f : Int) (n : Nat) (down : Bool) (x : List Int) : (logApp mx D f n down x).1.room = D.room ∧ (logApp mx D f n down x).2.1 ≤ n + 1 := by
  unfold logApp
  split
  · exact ⟨rfl, by simp only; omega⟩
  · split
    · exact ⟨rfl, by simp only; omega⟩
    · split
      · exact ⟨app_room _ _ _, by simp only; omega⟩
      · split
        · exact ⟨by simp only; rw [sync_room, app_room], by simp only; omega⟩
        · exact ⟨by simp only; rw [sync_room, app_room], by simp only; omega⟩
/-- what Open makes of a disk: the disk, the error, the records -/
def Opn (mx : Nat → Nat → Nat) (D : Dk) (f : Int) (D' : Dk) (e : Int) (xs : List (List Int)) : Prop :=
  (D.off = true ∧ D' = D ∧ e = 18 ∧ xs = []) ∨ (D.off = false ∧ ∃ ys, IsScan mx 0 (D.c f) ys ∧ (D', e) = D.open f (framesV mx 0 ys).length ∧ xs = if e = 0 then ys else [])
theorem Opn.unique {mx : Nat → Nat → Nat} (hmx : IsMix mx) {D : Dk} {f : Int} {D1 D2 : Dk} {e1 e2 : Int} {xs1 xs2 : List (List Int)} (hl : (D.c f).length ≤ 1048576) (h1 : Opn mx D f D1 e1 xs1) (h2 : Opn mx D f D2 e2 xs2) : D1 = D2 ∧ e1 = e2 ∧ xs1 = xs2 := by
  rcases h1 with ⟨o1, rfl, rfl, rfl⟩ | ⟨o1, ys1, s1, e1', x1⟩
  · rcases h2 with ⟨_, rfl, rfl, rfl⟩ | ⟨o2, _⟩
    · exact ⟨rfl, rfl, rfl⟩
    · rw [o1] at o2; cases o2
  · rcases h2 with ⟨o2, _⟩ | ⟨_, ys2, s2, e2', x2⟩
    · rw [o1] at o2; cases o2
    · obtain rfl := scan_unique hmx hl s1 s2
      rw [← e1'] at e2'
      cases e2'
      exact ⟨rfl, rfl, x1.trans x2.symm⟩
theorem Opn.facts {mx : Nat → Nat → Nat} {D D' : Dk} {f : Int} {e : Int} {xs : List (List Int)} (h : Opn mx D f D' e xs) (hl : (D.c f).length ≤ 239) : D'.room = D.room ∧ xs.length ≤ 200 := by
  rcases h with ⟨_, rfl, _, rfl⟩ | ⟨_, ys, s, e', rfl⟩
  · exact ⟨rfl, by simp⟩
  · refine ⟨by rw [show D' = (D.open f (framesV mx 0 ys).length).1 by rw [← e']]; exact open_room _ _ _, ?_⟩
    have h1 := framesV_cnt (mx := mx) (n := 0) (xs := ys)
    have h2 := (scan_take s).1
    split
    · omega
    · simp
abbrev ptrTo (o : Option Nat) : Value := .pointer (o.map fun q => (⟨q, 0, none⟩ : Addr))
theorem wOpenU_ok {mx : Nat → Nat → Nat} (hmx : IsMix mx) (p : Nat) (D : Dk) (L0 : Hp) (w0 : World) (hD : DiskAt p D L0) (hl : (D.c 2).length ≤ 1048576) (hs : St (ids L0) w0 w0 L0) :
    Ret Tryz.prog 7 [.pointer (some ⟨p, 0, none⟩), .int .i64 2].toArray w0 fun r w' => ∃ L', St (ids L0) w0 w' L' ∧
      ∃ (D' : Dk) (e : Int) (xs : List (List Int)) (o : Option Nat) (rs : Recs) (u : Value) (L1 Lu Lx LD : Hp), Opn mx D 2 D' e xs ∧ L' = L1 ++ (Lu ++ (Lx ++ LD)) ∧ r = .tuple #[ptrTo o, u, .int .i64 e] ∧ DiskAt p D' LD ∧ OwnS 39 1 u rs.length rs.v Lu ∧ RecsIn rs Lx ∧ rs.x = xs ∧
        ((o = none ∧ L1 = [] ∧ e ≠ 0) ∨ ∃ q, o = some q ∧ L1 = [(q, Blk 59 (logCells p 2 xs.length false))] ∧ e = 0) := by
  refine (wOpen_ok hmx p D 2 L0 w0 hD (by unfold isI64; omega) hl hs).mono ?_
  have hre : D.readE 2 = if D.off then 18 else 0 := by rw [Dk.readE, if_neg (by omega)]
  rintro r w ⟨L', hs', ⟨h1, rfl, h3⟩ | ⟨h1, xs, hx, ⟨h4, rfl, h5⟩ | ⟨h4, q, rs, u, Lu, Lx, LD, h5, rfl, rfl, h6, h7, h8⟩⟩⟩
  · have ho : D.off = true := by cases h : D.off with | true => rfl | false => rw [hre, h] at h1; exact absurd rfl h1
    rw [hre, if_pos ho]
    exact ⟨L', hs', D, 18, [], none, [], _, [], [], [], L', .inl ⟨ho, rfl, rfl, rfl⟩, rfl, rfl, h3, OwnS.nil _ _, RecsIn.nil _, rfl, .inl ⟨rfl, rfl, by decide⟩⟩
  · have ho : D.off = false := by cases h : D.off with | false => rfl | true => rw [hre, h] at h1; exact absurd h1 (by decide)
    exact ⟨L', hs', _, _, [], none, [], _, [], [], [], L', .inr ⟨ho, xs, hx, rfl, (if_neg h4).symm⟩, rfl, rfl, h5, OwnS.nil _ _, RecsIn.nil _, rfl, .inl ⟨rfl, rfl, h4⟩⟩
  · have ho : D.off = false := by cases h : D.off with | false => rfl | true => rw [hre, h] at h1; exact absurd h1 (by decide)
    exact ⟨_, hs', _, 0, xs, some q, rs, u, [_], Lu, Lx, LD, .inr ⟨ho, xs, hx, by rw [← h4], by rw [if_pos rfl]⟩, rfl, rfl, h6, h7, h8, h5, .inr ⟨q, rfl, rfl, rfl⟩⟩
theorem fOpenU_ok {mx : Nat → Nat → Nat} (hmx : IsMix mx) (p : Nat) (D : Dk) (L0 : Hp) (w0 : World) (hD : RefAt p D L0) (hl : (D.c 2).length ≤ 1048576) (hs : St (ids L0) w0 w0 L0) :
    Ret Tryz.prog 8 [.pointer (some ⟨p, 0, none⟩), .int .i64 2].toArray w0 fun r w' => ∃ L', St (ids L0) w0 w' L' ∧
      ∃ (D' : Dk) (e : Int) (xs : List (List Int)) (o : Option Nat) (rs : Recs) (u : Value) (L1 Lu LD : Hp), Opn mx D 2 D' e xs ∧ L' = L1 ++ (Lu ++ LD) ∧ r = .tuple #[ptrTo o, u, .int .i64 e] ∧ RefAt p D' LD ∧ OwnS 39 1 u rs.length rs.v Lu ∧ RecsIn rs LD ∧ rs.x = xs ∧
        ((o = none ∧ L1 = [] ∧ e ≠ 0) ∨ ∃ q, o = some q ∧ L1 = [(q, Blk 44 (logCells p 2 xs.length false))] ∧ e = 0) := by
  refine (fOpen_ok hmx p D 2 L0 w0 hD (by omega) hl hs).mono ?_
  rintro r w ⟨L', hs', ⟨ho, rfl, h3⟩ | ⟨ho, xs, hx, ⟨h4, rfl, h5⟩ | ⟨h4, q, rs, u, Lu, LD, h5, rfl, rfl, h6, h7, h8⟩⟩⟩
  · exact ⟨L', hs', D, 18, [], none, [], _, [], [], L', .inl ⟨ho, rfl, rfl, rfl⟩, rfl, rfl, h3, OwnS.nil _ _, RecsIn.nil _, rfl, .inl ⟨rfl, rfl, by decide⟩⟩
  · exact ⟨L', hs', _, _, [], none, [], _, [], [], L', .inr ⟨ho, xs, hx, rfl, (if_neg h4).symm⟩, rfl, rfl, h5, OwnS.nil _ _, RecsIn.nil _, rfl, .inl ⟨rfl, rfl, h4⟩⟩
  · exact ⟨_, hs', _, 0, xs, some q, rs, u, [_], Lu, LD, .inr ⟨ho, xs, hx, by rw [← h4]; rfl, by rw [if_pos rfl]⟩, rfl, rfl, h6, h7, h8, h5, .inr ⟨q, rfl, rfl, rfl⟩⟩
/-! a pair of logs, or none -/
structure Lg where
  q1 : Nat
  q2 : Nat
  n : Nat
  dn : Bool
def lb1 (p : Nat) : Option Lg → Hp
  | none => []
  | some g => [(g.q1, Blk 59 (logCells p 2 g.n g.dn))]
def lb2 (p : Nat) : Option Lg → Hp
  | none => []
  | some g => [(g.q2, Blk 44 (logCells p 2 g.n g.dn))]
theorem pair_up {p q m : Nat} {e : Int} {o1 o2 : Option Nat} {A B : Hp} (h1 : (o1 = none ∧ A = [] ∧ e ≠ 0) ∨ ∃ q', o1 = some q' ∧ A = [(q', Blk 59 (logCells p 2 m false))] ∧ e = 0)
    (h2 : (o2 = none ∧ B = [] ∧ e ≠ 0) ∨ ∃ q', o2 = some q' ∧ B = [(q', Blk 44 (logCells q 2 m false))] ∧ e = 0) :
    ∃ lg : Option Lg, o1 = lg.map (·.q1) ∧ o2 = lg.map (·.q2) ∧ A = lb1 p lg ∧ B = lb2 q lg ∧ ∀ g, lg = some g → g.n = m := by
  rcases h1 with ⟨rfl, rfl, he⟩ | ⟨a, rfl, rfl, he⟩
  · rcases h2 with ⟨rfl, rfl, _⟩ | ⟨_, _, _, he2⟩
    · exact ⟨none, rfl, rfl, rfl, rfl, fun g h => by cases h⟩
    · exact absurd he2 he
  · rcases h2 with ⟨_, _, he2⟩ | ⟨b, rfl, rfl, _⟩
    · exact absurd he he2
    · exact ⟨some ⟨a, b, m, false⟩, rfl, rfl, rfl, rfl, fun g h => by cases h; rfl⟩
structure WrS where
  i : Nat
  D : Dk
  e : Int
  lg : Option Lg
  Ld : Hp
  Lm : Hp
structure WrT where
  D : Dk
  e : Int
  lg : Option Lg
  Ld : Hp
  Lm : Hp
theorem small_c {p : Nat} {D : Dk} {L : Hp} (h : DiskAt p D L) (hr : D.room ≤ 239) : (D.c 2).length ≤ 239 := by
  have h1 := len_le_total D (f := 2) (by omega)
  have h2 := h.good.1
  omega
set_option maxHeartbeats 8000000 in
theorem walRuns_ok (vl : Value) (room : Int) (ls : List Int) (w0 : World) (hl : Sl w0 vl ls.length (i64s ls)) (hli : ∀ z ∈ ls, isI64 z) (hroom : isI64 room) :
    Ret Tryz.prog 3 [.int .i64 room, vl].toArray w0 fun r w' => Fwd [] w0 w' ∧ r = .bool true := by
  obtain ⟨mx, hmx⟩ := isMix
  obtain ⟨la, lc, rfl, hlc⟩ := hl.len_le
  have hrr := aroundV_range (m := room) (q := 200) (by omega)
  refine Ret_start fun w hs => ?_
  refine Ret_of Tryz.func3 rfl Tryz.ntmps3 rfl ?_
  refine W_seq ?_
  refine W_region ?_
  refine s_assign rfl rfl ?_
  refine WL_nil ?_
  refine n_then ?_
  refine W_seq ?_
  refine W_region ?_
  refine s_move rfl rfl ?_
  refine s_call Tryz.call4 rfl rfl (around_ok room 200 _ (by omega) hroom) ?_
  rintro r w ⟨rfl, rfl⟩
  first | (refine s_add' rfl rfl rfl ?hx ?_; case hx => (constructor <;> first | omega | (simp only; omega))) | refine s_add rfl rfl rfl ?_
  refine s_assign rfl rfl ?_
  refine WL_nil ?_
  refine n_then ?_
  refine W_seq ?_
  refine W_region ?_
  refine s_move rfl rfl ?_
  refine s_call Tryz.call5 rfl rfl (fresh_ok (40 + aroundV room 200) w (by omega)) ?_
  rintro v w ⟨p, Ld, rfl, hD, hst⟩
  replace hs := (St.back0 hs hst).left
  clear hst
  refine s_assign rfl rfl ?_
  refine WL_nil ?_
  refine n_then ?_
  refine W_seq ?_
  refine W_seq ?_
  refine W_region ?_
  refine s_move rfl rfl ?_
  refine s_eql_ptr_nil Tryz.underlying24 rfl rfl rfl ?_
  refine WL_nil ?_
  refine n_then ?_
  refine W_cond_kf rfl (rfl) ?_
  refine W_skip ?_
  refine n_then ?_
  refine W_seq ?_
  refine W_region ?_
  refine s_move rfl rfl ?_
  refine s_call Tryz.call6 rfl rfl (rNew_ok (40 + aroundV room 200) w (by omega)) ?_
  rintro v w ⟨q, Lm, rfl, hR, hst⟩
  replace hs := (St.back0 hs hst).swap
  clear hst
  obtain ⟨D0, hD0⟩ : ∃ D0, D0 = newDk (40 + aroundV room 200) := ⟨_, rfl⟩
  have hr0 : D0.room ≤ 239 := by rw [hD0]; show 40 + aroundV room 200 ≤ 239; omega
  rw [← hD0] at hD hR
  clear hD0
  have hsm0 := small_c hD hr0
  refine s_assign rfl rfl ?_
  refine WL_nil ?_
  refine n_then ?_
  refine W_seq ?_
  refine W_region ?_
  refine s_move rfl rfl ?_
  refine s_callL (M := []) (L1 := Ld) (X := Lm) Tryz.call7 rfl rfl hs (fun h => wOpenU_ok hmx p D0 Ld w hD (by omega) h) ?_
  clear hs hD; rintro u w L9 ⟨D1, e1, xs1, o1, r1, u1, A1, Lu1, Lx1, Ld, hop1, rfl, rfl, hD, -, -, -, hor1⟩ - hs
  replace hs : St [] w0 w (A1 ++ (Ld ++ Lm)) := by
    have h9 := St.reord [A1, Lu1, Lx1, Ld, Lm] [0, 3, 4] [1, 2] (by simpa [cat] using hs) rfl
    exact h9
  refine s_move rfl rfl ?_
  refine s_extract rfl rfl rfl ?_
  refine s_extract rfl rfl rfl ?_
  refine s_extract rfl rfl rfl ?_
  refine s_assign rfl rfl ?_
  refine s_assign rfl rfl ?_
  refine s_assign rfl rfl ?_
  refine WL_nil ?_
  refine n_then ?_
  refine W_seq ?_
  refine W_region ?_
  refine s_move rfl rfl ?_
  refine s_callL (M := A1 ++ Ld) (L1 := Lm) (X := []) Tryz.call8 rfl rfl (by simpa using hs) (fun h => fOpenU_ok hmx q D0 Lm w hR (by omega) h) ?_
  clear hs hR; rintro u w L9 ⟨D2, e2, xs2, o2, r2, u2, A2, Lu2, Lm, hop2, rfl, rfl, hR, -, -, -, hor2⟩ - hs
  obtain ⟨rfl, rfl, rfl⟩ := Opn.unique hmx (by omega) hop1 hop2
  obtain ⟨lg, rfl, rfl, rfl, rfl, hlg⟩ := pair_up hor1 hor2
  obtain ⟨hr1, hx1⟩ := hop1.facts hsm0
  rw [← hr1] at hr0
  replace hs : St [] w0 w (lb1 p lg ++ (lb2 q lg ++ (Ld ++ Lm))) := by
    have h9 := St.reord [lb1 p lg, Ld, lb2 q lg, Lu2, Lm] [0, 2, 1, 4] [3] (by simpa [cat] using hs) rfl
    exact h9
  have hlgn : ∀ g, lg = some g → g.n ≤ 200 := fun g h => by have := hlg g h; omega
  clear hop1 hop2 hor1 hor2 hlg hr1 hx1 hsm0
  refine s_move rfl rfl ?_
  refine s_extract rfl rfl rfl ?_
  refine s_extract rfl rfl rfl ?_
  refine s_extract rfl rfl rfl ?_
  refine s_assign rfl rfl ?_
  refine s_assign rfl rfl ?_
  refine s_assign rfl rfl ?_
  refine WL_nil ?_
  refine n_then ?_
  refine W_seq ?_
  refine W_seq ?_
  refine W_region ?_
  refine s_assign rfl rfl ?_
  refine WL_nil ?_
  refine n_then ?_
  refine W_block ?_
  refine W_loop (σ := WrS) (fun s => [(1, .slice la ls.length lc), (6, .pointer (some ⟨p, 0, none⟩)), (7, .pointer (some ⟨q, 0, none⟩)), (8, ptrTo (s.lg.map (·.q1))), (10, .int .i64 s.e), (11, ptrTo (s.lg.map (·.q2))), (13, .int .i64 s.e), (14, .int .i64 (s.i : Int))]) (fun s w => St [] w0 w (lb1 p s.lg ++ (lb2 q s.lg ++ (s.Ld ++ s.Lm))) ∧ DiskAt p s.D s.Ld ∧ RefAt q s.D s.Lm ∧ s.D.room ≤ 239 ∧ (∀ g, s.lg = some g → g.n ≤ 200 + s.i) ∧ s.i ≤ 14) (fun s => 14 - s.i) ⟨0, D1, e1, lg, Ld, Lm⟩ ⟨rfl, rfl, rfl, rfl, rfl, rfl, rfl, rfl, trivial⟩ ⟨hs, hD, hR, hr0, hlgn, by simp⟩ ?_
  clear hs hD hR hr0 hlgn
  rintro ⟨i, D, e, lg, Ld, Lm⟩ w ⟨hs, hD, hR, hr0, hlgn, hi⟩
  simp only at hs hD hR hr0 hlgn hi ⊢
  have hsm := small_c hD hr0
  refine W_seq ?_
  refine W_seq ?_
  refine W_region ?_
  refine s_move rfl rfl ?_
  refine s_move rfl rfl ?_
  refine s_len rfl rfl (LN22 _ _ _ _) ?_
  refine s_lss rfl rfl rfl ?_
  refine s_move rfl rfl ?_
  refine WL_case (s := 47) rfl (fun hg47 => ?_) (fun hg47 => ?_)
  · skip
    try simp only [decide_eq_true_eq, decide_eq_false_iff_not, gt_iff_lt, beq_iff_eq, beq_eq_false_iff_ne, ne_eq] at hg47
    refine WL_take rfl ?_
    refine s_move rfl rfl ?_
    refine WL_take rfl ?_
    refine s_lss rfl rfl rfl ?_
    refine s_pick_t rfl rfl rfl ?_
    refine WL_nil ?_
    refine n_then ?_
    refine W_cond rfl (fun hc50 => ?_) (fun hc50 => ?_)
    · skip
      try simp only [decide_eq_true_eq, decide_eq_false_iff_not, gt_iff_lt, beq_iff_eq, beq_eq_false_iff_ne, ne_eq] at hc50
      have hil : i < ls.length := by omega
      obtain ⟨z, hz⟩ : ∃ z, ls[i]? = some z := ⟨_, List.getElem?_eq_getElem hil⟩
      have hzI := hli z (List.mem_of_getElem? hz)
      obtain ⟨b1, o1, hA1, -⟩ := hl.at (k := i) (u := .int .i64 z) (by rw [List.getElem?_map, hz]; rfl)
      subst hA1
      have hlz : ∀ w9 : World, Fwd [] w0 w9 → w9.cell? ⟨b1, o1 + i, none⟩ = some (.int .i64 z) := fun w9 hs9 => by
        obtain ⟨b9, o9, h9, h10⟩ := (hl.fwd0 hs9).at (k := i) (u := .int .i64 z) (by rw [List.getElem?_map, hz]; rfl)
        cases h9; exact h10
      refine W_skip ?_
      refine n_then ?_
      refine W_seq ?_
      refine W_block ?_
      refine W_seq ?_
      refine W_region ?_
      refine s_move rfl rfl ?_
      refine s_move rfl rfl ?_
      (refine s_indexAddr1 El22 rfl rfl rfl ?hx ?_; case hx => (constructor <;> first | omega | (simp; omega)))
      refine s_load Tryz.isAgg3 rfl rfl (by rw [Int.toNat_natCast]; exact hlz w hs.fwd) ?_
      refine s_quo rfl rfl rfl (by omega) ?_
      obtain ⟨z8, hz8⟩ : ∃ z8, z8 = IntKind.i64.wrap (z.tdiv 8) := ⟨_, rfl⟩
      have hz8I : isI64 z8 := by rw [hz8]; unfold isI64; rw [IntKind.wrap_i64]; omega
      rw [← hz8]
      refine s_call Tryz.call4 rfl rfl (around_ok z8 1048576 _ (by omega) hz8I) ?_
      rintro r w ⟨rfl, rfl⟩
      have hxr := aroundV_range (m := z8) (q := 1048576) (by omega)
      obtain ⟨xx, hxx⟩ : ∃ xx, xx = aroundV z8 1048576 := ⟨_, rfl⟩
      rw [← hxx] at hxr ⊢
      refine s_assign rfl rfl ?_
      refine WL_nil ?_
      refine n_then ?_
      refine W_seq ?_
      refine W_seq ?_
      refine W_region ?_
      refine s_move rfl rfl ?_
      refine s_move rfl rfl ?_
      refine s_neq rfl rfl rfl ?_
      refine s_move rfl rfl ?_
      refine WL_know (s := 62) (c := false) rfl ((by simp)) ?_
      refine WL_take rfl ?_
      refine s_move rfl rfl ?_
      refine WL_take rfl ?_
      refine s_eql_ptrG Tryz.underlying28 rfl rfl rfl ?_
      refine WL_take rfl ?_
      refine s_move rfl rfl ?_
      refine WL_take rfl ?_
      refine s_eql_ptrG Tryz.underlying33 rfl rfl rfl ?_
      refine WL_take rfl ?_
      refine s_neq_bool Tryz.underlying4 rfl rfl rfl ?_
      refine s_pick_f rfl rfl rfl ?_
      refine WL_nil ?_
      refine n_then ?_
      refine W_cond_kf rfl ((by cases lg <;> rfl)) ?_
      refine W_skip ?_
      refine n_then ?_
      refine W_cut (σ := WrT) (fun s => [(1, .slice (some ⟨b1, o1, none⟩) ls.length lc), (6, .pointer (some ⟨p, 0, none⟩)), (7, .pointer (some ⟨q, 0, none⟩)), (8, ptrTo (s.lg.map (·.q1))), (10, .int .i64 s.e), (11, ptrTo (s.lg.map (·.q2))), (13, .int .i64 s.e), (14, .int .i64 (i : Int))]) (fun s w => St [] w0 w (lb1 p s.lg ++ (lb2 q s.lg ++ (s.Ld ++ s.Lm))) ∧ DiskAt p s.D s.Ld ∧ RefAt q s.D s.Lm ∧ s.D.room ≤ 239 ∧ (∀ g, s.lg = some g → g.n ≤ 200 + (i + 1))) ?_ ?_
      · skip
        refine W_seq ?_
        refine W_region ?_
        refine s_move rfl rfl ?_
        refine s_move rfl rfl ?_
        (refine s_indexAddr1 El22 rfl rfl rfl ?hx ?_; case hx => (constructor <;> first | omega | (simp; omega)))
        refine s_load Tryz.isAgg3 rfl rfl (by rw [Int.toNat_natCast]; exact hlz w hs.fwd) ?_
        refine s_call Tryz.call4 rfl rfl (around_ok z 8 _ (by omega) hzI) ?_
        rintro r w ⟨rfl, rfl⟩
        have hkr := aroundV_range (m := z) (q := 8) (by omega)
        obtain ⟨kk, hkk⟩ : ∃ kk, kk = aroundV z 8 := ⟨_, rfl⟩
        rw [← hkk] at hkr ⊢
        refine WL_nil ?_
        refine n_then ?_
        refine W_block ?_
        refine W_seq ?_
        refine W_region ?_
        refine s_eql rfl rfl rfl ?_
        refine s_assign rfl rfl ?_
        refine WL_nil ?_
        refine n_then ?_
        refine W_cond rfl (fun hc110 => ?_) (fun hc110 => ?_)
        · skip
          try simp only [decide_eq_true_eq, decide_eq_false_iff_not, gt_iff_lt, beq_iff_eq, beq_eq_false_iff_ne, ne_eq] at hc110
          refine W_seq ?_
          refine W_region ?_
          refine s_move rfl rfl ?_
          refine s_move rfl rfl ?_
          first | (refine s_rem' rfl rfl rfl ?hx ?_; case hx => (refine ⟨?_, ?_⟩ <;> omega)) | (refine s_rem rfl rfl rfl ?hx ?_; case hx => omega)
          refine s_callL (M := lb1 p lg ++ lb2 q lg) (L1 := Ld) (X := Lm) Tryz.call9 rfl rfl (by simpa using hs) (fun h => arm_ok p D (xx % 5) Ld w hD (by unfold isI64; omega) h) ?_
          clear hs; rintro u w Ld' hD' - hs
          simp only [List.append_assoc] at hs
          refine WL_nil ?_
          refine n_then ?_
          refine W_region ?_
          refine s_move rfl rfl ?_
          refine s_move rfl rfl ?_
          first | (refine s_rem' rfl rfl rfl ?hx ?_; case hx => (refine ⟨?_, ?_⟩ <;> omega)) | (refine s_rem rfl rfl rfl ?hx ?_; case hx => omega)
          refine s_callL (M := lb1 p lg ++ (lb2 q lg ++ Ld')) (L1 := Lm) (X := []) Tryz.call10 rfl rfl (by simpa using hs) (fun h => rArm_ok q D (xx % 5) Lm w hR (by unfold isI64; omega) h) ?_
          clear hs; rintro u w Lm' hR' - hs
          simp only [List.append_assoc, List.append_nil] at hs
          refine WL_nil ?_
          refine n_blk ?_
          refine n_loop ?_
          first
            | exact ⟨⟨D.arm (xx % 5), e, lg, Ld', Lm'⟩, ⟨rfl, rfl, rfl, rfl, rfl, rfl, rfl, rfl, trivial⟩, hs, hD', hR', by rw [arm_room]; exact hr0, fun g h => by have := hlgn g h; omega⟩
            | exact ⟨⟨D2, e1, lg2, Ld, Lm⟩, ⟨rfl, rfl, rfl, rfl, rfl, rfl, rfl, rfl, trivial⟩, hs, hD, hR, hr1, hlgn2⟩
            | exact ⟨⟨G.1, e, some ⟨g.q1, g.q2, G.2.1, G.2.2.1⟩, Ld, Lm⟩, ⟨rfl, rfl, rfl, rfl, rfl, rfl, rfl, rfl, trivial⟩, hs, hD, hR, by rw [hGr.1]; exact hr0, fun g9 h => by cases h; have := hGr.2; simp only; omega⟩
        · skip
          try simp only [decide_eq_true_eq, decide_eq_false_iff_not, gt_iff_lt, beq_iff_eq, beq_eq_false_iff_ne, ne_eq] at hc110
          refine W_seq ?_
          refine W_seq ?_
          refine W_region ?_
          refine s_eql rfl rfl rfl ?_
          refine s_assign rfl rfl ?_
          refine WL_nil ?_
          refine n_then ?_
          refine W_cond rfl (fun hc120 => ?_) (fun hc120 => ?_)
          · skip
            try simp only [decide_eq_true_eq, decide_eq_false_iff_not, gt_iff_lt, beq_iff_eq, beq_eq_false_iff_ne, ne_eq] at hc120
            refine W_skip ?_
            refine n_then ?_
            refine W_cond rfl (fun hc120 => ?_) (fun hc120 => ?_)
            · skip
              try simp only [decide_eq_true_eq, decide_eq_false_iff_not, gt_iff_lt, beq_iff_eq, beq_eq_false_iff_ne, ne_eq] at hc120
              refine W_seq ?_
              refine W_region ?_
              refine s_move rfl rfl ?_
              first | (refine s_rem' rfl rfl rfl ?hx ?_; case hx => (refine ⟨?_, ?_⟩ <;> omega)) | (refine s_rem rfl rfl rfl ?hx ?_; case hx => omega)
              refine s_buildSlice rfl rfl (BS22_1 _) hs ?_; clear hs; intro b125 w hs
              refine s_assign rfl rfl ?_
              refine WL_nil ?_
              refine n_then ?_
              refine W_seq ?_
              refine W_region ?_
              refine s_move rfl rfl ?_
              refine s_move rfl rfl ?_
              refine s_move rfl rfl ?_
              first | (refine s_quo' rfl rfl rfl ?hx ?_; case hx => (refine ⟨?_, ?_, ?_⟩ <;> omega)) | (refine s_quo rfl rfl rfl ?hx ?_; case hx => omega)
              first | (refine s_rem' rfl rfl rfl ?hx ?_; case hx => (refine ⟨?_, ?_⟩ <;> omega)) | (refine s_rem rfl rfl rfl ?hx ?_; case hx => omega)
              first | (refine s_sub' rfl rfl rfl ?hx ?_; case hx => (constructor <;> first | omega | (simp only; omega))) | refine s_sub rfl rfl rfl ?_
              replace hs : St [] w0 w ([(b125, Blk 3 [.int .i64 (xx % 30)])] ++ (Ld ++ Lm)) := by
                have h9 := St.reord [[_], lb1 p lg, lb2 q lg, Ld, Lm] [0, 3, 4] [1, 2] hs rfl
                exact h9
              refine s_callL (M := [_]) (L1 := Ld) (X := Lm) Tryz.call11 rfl rfl hs (fun h => dCrash_ok p D _ [xx % 30] _ Ld w hD (Sl_lit hs rfl) (fun a m c he _ => by cases he; exact St.notin (M := [_]) hs (by simp [ids])) (by unfold isI64; omega) h) ?_
              have hfo := hD.firmOk
              clear hs hD; rintro u w Ld hD - hs
              refine WL_nil ?_
              refine n_then ?_
              refine W_seq ?_
              refine W_region ?_
              refine s_move rfl rfl ?_
              refine s_move rfl rfl ?_
              refine s_move rfl rfl ?_
              first | (refine s_quo' rfl rfl rfl ?hx ?_; case hx => (refine ⟨?_, ?_, ?_⟩ <;> omega)) | (refine s_quo rfl rfl rfl ?hx ?_; case hx => omega)
              first | (refine s_rem' rfl rfl rfl ?hx ?_; case hx => (refine ⟨?_, ?_⟩ <;> omega)) | (refine s_rem rfl rfl rfl ?hx ?_; case hx => omega)
              first | (refine s_sub' rfl rfl rfl ?hx ?_; case hx => (constructor <;> first | omega | (simp only; omega))) | refine s_sub rfl rfl rfl ?_
              replace hs : St [] w0 w ([(b125, Blk 3 [.int .i64 (xx % 30)])] ++ (Lm ++ Ld)) := by
                have h9 := St.reord [[_], Ld, Lm] [0, 2, 1] [] hs rfl
                exact h9
              refine s_callL (M := [_]) (L1 := Lm) (X := Ld) Tryz.call12 rfl rfl hs (fun h => rCrash_ok q D _ [xx % 30] _ Lm w hfo hR (Sl_lit hs rfl) (fun a m c he _ => by cases he; exact St.notin (M := [_]) hs (by simp [ids])) (by unfold isI64; omega) h) ?_
              clear hs hR; rintro u w Lm hR - hs
              obtain ⟨D1, hD1⟩ : ∃ D1, D1 = D.crash [xx % 30] (xx / 30 % 300 - 100) := ⟨_, rfl⟩
              rw [← hD1] at hD hR
              have hr1 : D1.room ≤ 239 := by rw [hD1, crash_room]; exact hr0
              clear hD1
              have hsm1 := small_c hD hr1
              replace hs : St [] w0 w (Ld ++ Lm) := by
                have h9 := St.reord [[_], Lm, Ld] [2, 1] [0] hs rfl
                exact h9
              refine WL_nil ?_
              refine n_then ?_
              refine W_seq ?_
              refine W_region ?_
              refine s_move rfl rfl ?_
              refine s_callL (M := []) (L1 := Ld) (X := Lm) Tryz.call7 rfl rfl hs (fun h => wOpenU_ok hmx p D1 Ld w hD (by omega) h) ?_
              clear hs hD; rintro u w L9 ⟨D2, e1, xs1, p1, r1, u1, A1, Lu1, Lx1, Ld, hop1, rfl, rfl, hD, -, -, -, hor1⟩ - hs
              replace hs : St [] w0 w (A1 ++ (Ld ++ Lm)) := by
                have h9 := St.reord [A1, Lu1, Lx1, Ld, Lm] [0, 3, 4] [1, 2] (by simpa [cat] using hs) rfl
                exact h9
              refine s_move rfl rfl ?_
              refine s_extract rfl rfl rfl ?_
              refine s_extract rfl rfl rfl ?_
              refine s_extract rfl rfl rfl ?_
              refine s_assign rfl rfl ?_
              refine s_assign rfl rfl ?_
              refine WL_nil ?_
              refine n_then ?_
              refine W_region ?_
              refine s_move rfl rfl ?_
              refine s_callL (M := A1 ++ Ld) (L1 := Lm) (X := []) Tryz.call8 rfl rfl (by simpa using hs) (fun h => fOpenU_ok hmx q D1 Lm w hR (by omega) h) ?_
              clear hs hR; rintro u w L9 ⟨D3, e2, xs2, p2, r2, u2, A2, Lu2, Lm, hop2, rfl, rfl, hR, -, -, -, hor2⟩ - hs
              obtain ⟨rfl, rfl, rfl⟩ := Opn.unique hmx (by omega) hop1 hop2
              obtain ⟨lg2, rfl, rfl, rfl, rfl, hlg⟩ := pair_up hor1 hor2
              obtain ⟨hr2, hx1⟩ := hop1.facts hsm1
              rw [← hr2] at hr1
              replace hs : St [] w0 w (lb1 p lg2 ++ (lb2 q lg2 ++ (Ld ++ Lm))) := by
                have h9 := St.reord [lb1 p lg2, Ld, lb2 q lg2, Lu2, Lm] [0, 2, 1, 4] [3] (by simpa [cat] using hs) rfl
                exact h9
              have hlgn2 : ∀ g, lg2 = some g → g.n ≤ 200 + (i + 1) := fun g h => by have := hlg g h; omega
              refine s_move rfl rfl ?_
              refine s_extract rfl rfl rfl ?_
              refine s_extract rfl rfl rfl ?_
              refine s_extract rfl rfl rfl ?_
              refine s_assign rfl rfl ?_
              refine s_assign rfl rfl ?_
              refine WL_nil ?_
              refine n_blk ?_
              refine n_loop ?_
              first
                | exact ⟨⟨D.arm (xx % 5), e, lg, Ld', Lm'⟩, ⟨rfl, rfl, rfl, rfl, rfl, rfl, rfl, rfl, trivial⟩, hs, hD', hR', by rw [arm_room]; exact hr0, fun g h => by have := hlgn g h; omega⟩
                | exact ⟨⟨D2, e1, lg2, Ld, Lm⟩, ⟨rfl, rfl, rfl, rfl, rfl, rfl, rfl, rfl, trivial⟩, hs, hD, hR, hr1, hlgn2⟩
                | exact ⟨⟨G.1, e, some ⟨g.q1, g.q2, G.2.1, G.2.2.1⟩, Ld, Lm⟩, ⟨rfl, rfl, rfl, rfl, rfl, rfl, rfl, rfl, trivial⟩, hs, hD, hR, by rw [hGr.1]; exact hr0, fun g9 h => by cases h; have := hGr.2; simp only; omega⟩
            · skip
              try simp only [decide_eq_true_eq, decide_eq_false_iff_not, gt_iff_lt, beq_iff_eq, beq_eq_false_iff_ne, ne_eq] at hc120
              refine W_seq ?_
              refine W_region ?_
              refine s_eql rfl rfl rfl ?_
              refine s_assign rfl rfl ?_
              refine WL_nil ?_
              refine n_then ?_
              refine W_cond rfl (fun hc152 => ?_) (fun hc152 => ?_)
              · skip
                try simp only [decide_eq_true_eq, decide_eq_false_iff_not, gt_iff_lt, beq_iff_eq, beq_eq_false_iff_ne, ne_eq] at hc152
                refine W_seq ?_
                refine W_region ?_
                refine s_assign rfl rfl ?_
                refine WL_nil ?_
                refine n_then ?_
                refine W_seq ?_
                refine W_region ?_
                refine s_assign rfl rfl ?_
                refine WL_nil ?_
                refine n_then ?_
                refine W_seq ?_
                refine W_region ?_
                refine s_move rfl rfl ?_
                replace hs : St [] w0 w (Ld ++ Lm) := by
                  have h9 := St.reord [lb1 p lg, lb2 q lg, Ld, Lm] [2, 3] [0, 1] hs rfl
                  exact h9
                refine s_callL (M := []) (L1 := Ld) (X := Lm) Tryz.call7 rfl rfl hs (fun h => wOpenU_ok hmx p D Ld w hD (by omega) h) ?_
                clear hs hD; rintro u w L9 ⟨D2, e1, xs1, p1, r1, u1, A1, Lu1, Lx1, Ld, hop1, rfl, rfl, hD, hO1, hin1, hrx1, hor1⟩ - hs
                obtain ⟨_, c1, a1, rfl, hv1⟩ := hO1.form
                subst hv1
                simp only [List.nil_append, List.append_assoc] at hs
                refine s_move rfl rfl ?_
                refine s_extract rfl rfl rfl ?_
                refine s_extract rfl rfl rfl ?_
                refine s_extract rfl rfl rfl ?_
                refine s_assign rfl rfl ?_
                refine s_assign rfl rfl ?_
                refine s_assign rfl rfl ?_
                refine WL_nil ?_
                refine n_then ?_
                refine W_seq ?_
                refine W_region ?_
                refine s_move rfl rfl ?_
                refine s_callL (M := A1 ++ (Lu1 ++ (Lx1 ++ Ld))) (L1 := Lm) (X := []) Tryz.call8 rfl rfl (by simpa using hs) (fun h => fOpenU_ok hmx q D Lm w hR (by omega) h) ?_
                clear hs hR; rintro u w L9 ⟨D3, e2, xs2, p2, r2, u2, A2, Lu2, Lm, hop2, rfl, rfl, hR, hO2, hin2, hrx2, hor2⟩ - hs
                obtain ⟨_, c2, a2, rfl, hv2⟩ := hO2.form
                subst hv2
                obtain ⟨rfl, rfl, rfl⟩ := Opn.unique hmx (by omega) hop1 hop2
                obtain ⟨lg2, rfl, rfl, rfl, rfl, hlg⟩ := pair_up hor1 hor2
                obtain ⟨hr2, hx1⟩ := hop1.facts hsm
                have hr1 : D2.room ≤ 239 := by rw [hr2]; exact hr0
                simp only [List.append_assoc, List.append_nil] at hs
                have hlgn2 : ∀ g, lg2 = some g → g.n ≤ 200 + (i + 1) := fun g h => by have := hlg g h; omega
                have hr1l : r1.length ≤ 200 := by rw [← Recs.x_length, hrx1]; exact hx1
                have hxl1 : ∀ y ∈ r1, y.2.length ≤ 239 := fun y hy => by
                  have hy2 : y.2 ∈ xs1 := by rw [← hrx1]; exact List.mem_map_of_mem hy
                  rcases hop1 with ⟨_, _, _, h9⟩ | ⟨_, ys, s9, _, h9⟩
                  · rw [h9] at hy2; cases hy2
                  · have h8 : y.2 ∈ ys := by
                      rw [h9] at hy2; split at hy2
                      · exact hy2
                      · cases hy2
                    have h7 := framesV_mem (mx := mx) (n := 0) h8
                    have h6 := (scan_take s9).1
                    omega
                refine s_move rfl rfl ?_
                refine s_extract rfl rfl rfl ?_
                refine s_extract rfl rfl rfl ?_
                refine s_extract rfl rfl rfl ?_
                refine s_assign rfl rfl ?_
                refine s_assign rfl rfl ?_
                refine s_assign rfl rfl ?_
                refine WL_nil ?_
                refine n_then ?_
                refine W_seq ?_
                refine W_region ?_
                refine s_move rfl rfl ?_
                refine s_move rfl rfl ?_
                refine s_call Tryz.call13 rfl rfl (sameLists_ok _ _ r1 r2 w (OwnS_slIn hO1 fun p hp => hs.own p (by simp [hp])) (OwnS_slIn hO2 fun p hp => hs.own p (by simp [hp])) (fun x hx => (hin1 x hx).sl w fun p hp => hs.own p (by simp [hp])) (fun x hx => (hin2 x hx).sl w fun p hp => hs.own p (by simp [hp])) (by omega) (fun x hx => by have := hxl1 x hx; omega)) ?_
                rintro r w ⟨hst, rfl⟩
                replace hs := hs.fwd1 hst
                clear hst
                rw [hrx1, hrx2]
                replace hs : St [] w0 w (lb1 p lg2 ++ (lb2 q lg2 ++ (Ld ++ Lm))) := by
                  have h9 := St.reord [lb1 p lg2, Lu1, Lx1, Ld, lb2 q lg2, Lu2, Lm] [0, 4, 3, 6] [1, 2, 5] hs rfl
                  exact h9
                refine s_not rfl rfl ?_
                refine WL_nil ?_
                refine n_then ?_
                refine W_cond_kf rfl ((by simp)) ?_
                refine W_skip ?_
                refine n_blk ?_
                refine n_loop ?_
                first
                  | exact ⟨⟨D.arm (xx % 5), e, lg, Ld', Lm'⟩, ⟨rfl, rfl, rfl, rfl, rfl, rfl, rfl, rfl, trivial⟩, hs, hD', hR', by rw [arm_room]; exact hr0, fun g h => by have := hlgn g h; omega⟩
                  | exact ⟨⟨D2, e1, lg2, Ld, Lm⟩, ⟨rfl, rfl, rfl, rfl, rfl, rfl, rfl, rfl, trivial⟩, hs, hD, hR, hr1, hlgn2⟩
                  | exact ⟨⟨G.1, e, some ⟨g.q1, g.q2, G.2.1, G.2.2.1⟩, Ld, Lm⟩, ⟨rfl, rfl, rfl, rfl, rfl, rfl, rfl, rfl, trivial⟩, hs, hD, hR, by rw [hGr.1]; exact hr0, fun g9 h => by cases h; have := hGr.2; simp only; omega⟩
              · skip
                try simp only [decide_eq_true_eq, decide_eq_false_iff_not, gt_iff_lt, beq_iff_eq, beq_eq_false_iff_ne, ne_eq] at hc152
                refine W_seq ?_
                refine W_seq ?_
                refine W_region ?_
                refine s_move rfl rfl ?_
                refine s_eql_ptrG Tryz.underlying28 rfl rfl rfl ?_
                refine s_move rfl rfl ?_
                refine WL_case (s := 76) rfl (fun hg76 => ?_) (fun hg76 => ?_)
                · skip
                  try simp only [decide_eq_true_eq, decide_eq_false_iff_not, gt_iff_lt, beq_iff_eq, beq_eq_false_iff_ne, ne_eq] at hg76
                  refine WL_skip rfl rfl rfl ?_
                  refine WL_skip rfl rfl rfl ?_
                  refine s_pick_t rfl rfl rfl ?_
                  refine WL_nil ?_
                  refine n_then ?_
                  refine W_cond_t rfl ?_
                  refine W_exit ?_
                  refine x_then ?_
                  refine exit_miss rfl ?_
                  refine x_then ?_
                  refine exit_hit ?_
                  refine n_then ?_
                  refine W_region ?_
                  refine s_move rfl rfl ?_
                  first | (refine s_add' rfl rfl rfl ?hx ?_; case hx => (constructor <;> first | omega | (simp only; omega))) | refine s_add rfl rfl rfl ?_
                  refine s_assign rfl rfl ?_
                  refine WL_nil ?_
                  refine n_loop ?_
                  first
                    | (refine ⟨⟨i + 1, D, e, lg, Ld, Lm⟩, ⟨rfl, rfl, rfl, rfl, rfl, rfl, rfl, rfl, trivial⟩, ⟨?_, hD, hR0, hr0, hlgn, by simp only; omega⟩, by simp only; omega⟩
                       have h9 := St.reord [lb1 p lg, lb2 q lg, Lr, Ld, Lm] [0, 1, 3, 4] [2] hs rfl
                       exact h9)
                    | exact ⟨⟨i + 1, D, e, lg, Ld, Lm⟩, ⟨rfl, rfl, rfl, rfl, rfl, rfl, rfl, rfl, trivial⟩, ⟨hs, hD, hR, hr0, fun g h => by have := hlgn g h; simp only; omega, by simp only; omega⟩, by simp only; omega⟩
                · skip
                  try simp only [decide_eq_true_eq, decide_eq_false_iff_not, gt_iff_lt, beq_iff_eq, beq_eq_false_iff_ne, ne_eq] at hg76
                  obtain ⟨g, rfl⟩ : ∃ g, lg = some g := by cases lg with | none => simp at hg76 | some g => exact ⟨g, rfl⟩
                  have hgn := hlgn g rfl
                  refine WL_take rfl ?_
                  refine s_move rfl rfl ?_
                  refine WL_take rfl ?_
                  refine s_eql_ptrG Tryz.underlying33 rfl rfl rfl ?_
                  refine s_pick_f rfl rfl rfl ?_
                  refine WL_nil ?_
                  refine n_then ?_
                  refine W_cond_kf rfl (rfl) ?_
                  refine W_skip ?_
                  refine n_then ?_
                  refine W_seq ?_
                  refine W_region ?_
                  refine s_move rfl rfl ?_
                  refine s_buildSlice rfl rfl (BS22_1 _) hs ?_; clear hs; intro b81 w hs
                  refine s_call Tryz.call14 rfl rfl (records_ok _ [xx] w (Sl_lit hs rfl) (by intro y hy; rw [List.mem_singleton.1 hy]; unfold isI64; omega)) ?_
                  rintro r w ⟨rs, Lv, LX, hO, hst, hin, hsx, hrl⟩
                  replace hs := (St.back0 hs hst).swap
                  clear hst
                  obtain ⟨_, cv, av, rfl, hvl⟩ := hO.form
                  subst hvl
                  obtain ⟨hsx1, hsx2⟩ := hsx
                  simp only [List.length_cons, List.length_nil] at hrl
                  have hrl1 : rs.length = 1 := by rw [hrl]; rfl
                  obtain ⟨u1, x1, hxi, hm1, hv1, hx1⟩ := Recs.at (rs := rs) (i := 0) (by omega)
                  have hx1b := hsx2 x1 (List.mem_of_getElem? hx1)
                  simp only [lb1, lb2, List.cons_append, List.nil_append] at hs
                  replace hs := hs.tail
                  replace hs : St [] w0 w ([(g.q1, Blk 59 (logCells p 2 g.n g.dn))] ++ ([(g.q2, Blk 44 (logCells q 2 g.n g.dn))] ++ (Ld ++ (Lm ++ (Lv ++ LX))))) := by
                    simp only [List.append_assoc] at hs; exact hs
                  obtain ⟨b3, o3, hA3, hc3⟩ := (OwnS_slIn hO (w := w) fun p hp => hs.own p (by simp [hp])).at hv1
                  (refine s_indexAddrO El29 rfl rfl rfl hA3 ?hx ?_; case hx => (constructor <;> omega))
                  refine s_load Tryz.isAgg39 rfl rfl hc3 ?_
                  refine s_assign rfl rfl ?_
                  refine WL_nil ?_
                  refine n_then ?_
                  refine W_seq ?_
                  refine W_draw [(0, true, []), (1, true, []), (3, true, []), (4, true, []), (2, false, [3, 4]), (5, false, []), (6, true, []), (7, true, []), (8, true, []), (10, true, []), (11, true, []), (12, true, []), (13, true, []), (9, false, [10, 11, 12, 13]), (14, true, []), (15, true, []), (16, true, []), (17, true, []), (19, true, []), (20, true, []), (21, true, []), (22, true, []), (18, false, [19, 20, 21, 22]), (23, true, []), (24, true, [])] [[], [], [0, 1], [], [], [0, 1, 2, 3, 4], [0, 1, 2, 3, 4, 5], [0, 1, 2, 3, 4, 5, 6], [0, 1, 2, 3, 4, 5, 6, 7], [0, 1, 2, 3, 4, 5, 6, 7, 8], [0, 1, 2, 3, 4, 5, 6, 7], [0, 1, 2, 3, 4, 5, 6, 7, 10], [0, 1, 2, 3, 4, 5, 6, 7, 10, 11], [0, 1, 2, 3, 4, 5, 6, 7, 10, 11, 12], [0, 1, 2, 3, 4, 5, 6, 7, 8, 9, 10, 11, 12, 13], [0, 1, 2, 3, 4, 5, 6, 7, 8, 9, 10, 11, 12, 13, 14], [0, 1, 2, 3, 4, 5, 6, 7, 8, 9, 10, 11, 12, 13, 14, 15], [0, 1, 2, 3, 4, 5, 6, 7, 8, 9, 10, 11, 12, 13, 14, 15, 16], [0, 1, 2, 3, 4, 5, 6, 7, 8, 9, 10, 11, 12, 13, 14, 15, 16, 17], [0, 1, 2, 3, 4, 5, 6, 7, 8, 9, 10, 11, 12, 13, 14, 15, 16], [0, 1, 2, 3, 4, 5, 6, 7, 8, 9, 10, 11, 12, 13, 14, 15, 16, 19], [0, 1, 2, 3, 4, 5, 6, 7, 8, 9, 10, 11, 12, 13, 14, 15, 16, 19, 20], [0, 1, 2, 3, 4, 5, 6, 7, 8, 9, 10, 11, 12, 13, 14, 15, 16, 19, 20, 21], [0, 1, 2, 3, 4, 5, 6, 7, 8, 9, 10, 11, 12, 13, 14, 15, 16, 17, 18, 19, 20, 21, 22], [0, 1, 2, 3, 4, 5, 6, 7, 8, 9, 10, 11, 12, 13, 14, 15, 16, 17, 18, 19, 20, 21, 22, 23]] MX (by kernel_rfl) ?_
                  intro w1 hw1 hw2 hw3 hw4; replace hs := hs.redrawn hw1 hw2 hw3 hw4; clear hw1 hw2 hw3 hw4
                  obtain ⟨w, rfl⟩ : ∃ w : World, w = w1 := ⟨_, rfl⟩
                  refine D_q rfl rfl ?_
                  refine s_move rfl rfl ?_
                  refine D_qn ?_
                  refine D_q rfl rfl ?_
                  refine s_move rfl rfl ?_
                  refine D_qn ?_
                  refine D_q rfl rfl ?_
                  refine s_move rfl rfl ?_
                  refine D_qn ?_
                  refine D_q rfl rfl ?_
                  refine s_move rfl rfl ?_
                  refine D_qn ?_
                  refine D_e rfl ?_
                  have hS1 := (hin _ hm1).sl w fun p hp => hs.own p (by simp [hp])
                  replace hs : St [] w0 w ([(g.q2, Blk 44 (logCells q 2 g.n g.dn))] ++ (((g.q1, Blk 59 (logCells p 2 g.n g.dn)) :: Ld) ++ (Lm ++ (Lv ++ LX)))) := by
                    have h9 := St.reord [[_], [_], Ld, Lm, Lv, LX] [1, 0, 2, 3, 4, 5] [] hs rfl
                    exact h9
                  have hap1 := RdS.apart (hin _ hm1) (L0 := (g.q1, Blk 59 (logCells p 2 g.n g.dn)) :: Ld) (fun b hb => St.apartX (M := [_]) (X := Lm ++ (Lv ++ LX)) hs (by simp only [ids_append, List.mem_append]; exact .inr (.inr hb)))
                  simp only at hS1 hap1
                  refine s_callL (M := [_]) (L1 := _ :: Ld) (X := Lm ++ (Lv ++ LX)) Tryz.call15 rfl rfl hs (fun h => wAppend_ok hmx g.q1 p D 2 g.n g.dn _ x1 Ld w hD hS1 hx1b.2 (by omega) hap1 (by omega) h) ?_
                  obtain ⟨G, hG⟩ : ∃ G, G = logApp mx D 2 g.n g.dn x1 := ⟨_, rfl⟩
                  rw [← hG]
                  have hGr := logApp_room mx D 2 g.n g.dn x1
                  rw [← hG] at hGr
                  clear hs hD; rintro u w L9 ⟨Ld, rfl, hD, rfl⟩ - hs
                  refine D_en ?re ?_
                  case re =>
                    refine Reks_cons rfl rfl rfl rfl ?_ ?_
                    · skip
                      refine s_move rfl rfl ?_
                      exact Rek_end rfl
                    refine Reks_cons rfl rfl rfl rfl ?_ ?_
                    · skip
                      refine s_move rfl rfl ?_
                      exact Rek_end rfl
                    exact Reks_nil
                  refine D_e rfl ?_
                  have hS1 := (hin _ hm1).sl w fun p hp => hs.own p (by simp [hp])
                  replace hs : St [] w0 w (((g.q1, Blk 59 (logCells p 2 G.2.1 G.2.2.1)) :: Ld) ++ (((g.q2, Blk 44 (logCells q 2 g.n g.dn)) :: Lm) ++ (Lv ++ LX))) := by
                    have h9 := St.reord [[_], [_], Ld, Lm, Lv, LX] [1, 2, 0, 3, 4, 5] [] hs rfl
                    exact h9
                  have hap1 := RdS.apart (hin _ hm1) (L0 := (g.q2, Blk 44 (logCells q 2 g.n g.dn)) :: Lm) (fun b hb => St.apartX (M := _ :: Ld) (X := Lv ++ LX) hs (by simp only [ids_append, List.mem_append]; exact .inr hb))
                  simp only at hS1 hap1
                  refine s_callL (M := _ :: Ld) (L1 := _ :: Lm) (X := Lv ++ LX) Tryz.call16 rfl rfl hs (fun h => fAppend_ok hmx g.q2 q D 2 g.n g.dn _ x1 Lm w hR hS1 hx1b.2 (by omega) hap1 (by omega) h) ?_
                  rw [← hG]
                  clear hs hR; rintro u w L9 ⟨Lm, rfl, hR, rfl⟩ - hs
                  replace hs : St [] w0 w ([(g.q1, Blk 59 (logCells p 2 G.2.1 G.2.2.1))] ++ ([(g.q2, Blk 44 (logCells q 2 G.2.1 G.2.2.1))] ++ (Ld ++ Lm))) := by
                    have h9 := St.reord [[_], Ld, [_], Lm, Lv, LX] [0, 2, 1, 3] [4, 5] hs rfl
                    exact h9
                  refine D_en ?re ?_
                  case re =>
                    exact Reks_nil
                  refine D_q rfl rfl ?_
                  refine s_neq rfl rfl rfl ?_
                  refine D_qn ?_
                  refine D_q rfl rfl ?_
                  refine s_move rfl rfl ?_
                  refine WL_know (s := 92) (c := false) rfl ((by simp)) ?_
                  refine D_qn ?_
                  refine D_q rfl rfl ?_
                  refine WL_take rfl ?_
                  refine s_move rfl rfl ?_
                  refine D_qn ?_
                  refine D_q rfl rfl ?_
                  refine WL_take rfl ?_
                  refine s_move rfl rfl ?_
                  refine D_qn ?_
                  refine D_q rfl rfl ?_
                  refine WL_take rfl ?_
                  refine s_nilCheck rfl rfl ?_
                  refine D_qn ?_
                  refine D_q rfl rfl ?_
                  refine WL_take rfl ?_
                  refine s_fieldAddr rfl rfl (FA44_2 _ _) ?_
                  refine D_qn ?_
                  refine D_q rfl rfl ?_
                  refine WL_take rfl ?_
                  refine s_load Tryz.isAgg3 rfl rfl (hs.cell (k := 1) (i := 2) (v := .int .i64 (G.2.1 : Int)) rfl rfl) ?_
                  refine D_qn ?_
                  refine D_e rfl ?_
                  refine WL_take rfl ?_
                  refine s_callL (M := []) (L1 := [_]) (X := [_] ++ (Ld ++ Lm)) Tryz.call17 rfl rfl hs (fun h => wLen_ok g.q1 p 2 G.2.1 G.2.2.1 w h) ?_
                  clear hs; rintro u w L9 ⟨rfl, rfl⟩ - hs
                  replace hs : St [] w0 w ([(g.q1, Blk 59 (logCells p 2 G.2.1 G.2.2.1))] ++ ([(g.q2, Blk 44 (logCells q 2 G.2.1 G.2.2.1))] ++ (Ld ++ Lm))) := hs
                  refine D_en ?re ?_
                  case re =>
                    refine Reks_cons rfl rfl rfl rfl ?_ ?_
                    · skip
                      refine WL_take rfl ?_
                      refine s_move rfl rfl ?_
                      exact Rek_end rfl
                    refine Reks_cons rfl rfl rfl rfl ?_ ?_
                    · skip
                      refine WL_take rfl ?_
                      refine s_nilCheck rfl rfl ?_
                      exact Rek_end rfl
                    refine Reks_cons rfl rfl rfl rfl ?_ ?_
                    · skip
                      refine WL_take rfl ?_
                      refine s_fieldAddr rfl rfl (FA44_2 _ _) ?_
                      exact Rek_end rfl
                    refine Reks_cons rfl rfl rfl rfl ?_ ?_
                    · skip
                      refine WL_take rfl ?_
                      refine s_load Tryz.isAgg3 rfl rfl (hs.cell (k := 1) (i := 2) (v := .int .i64 (G.2.1 : Int)) rfl rfl) ?_
                      exact Rek_end rfl
                    exact Reks_nil
                  refine D_q rfl rfl ?_
                  refine WL_take rfl ?_
                  refine s_neq rfl rfl rfl ?_
                  refine D_qn ?_
                  refine D_q rfl rfl ?_
                  refine s_pick_f rfl rfl rfl ?_
                  refine D_qn ?_
                  refine D_q rfl rfl ?_
                  refine s_move rfl rfl ?_
                  refine WL_know (s := 101) (c := false) rfl ((by simp)) ?_
                  refine D_qn ?_
                  refine D_q rfl rfl ?_
                  refine WL_take rfl ?_
                  refine s_move rfl rfl ?_
                  refine D_qn ?_
                  refine D_q rfl rfl ?_
                  refine WL_take rfl ?_
                  refine s_move rfl rfl ?_
                  refine D_qn ?_
                  refine D_q rfl rfl ?_
                  refine WL_take rfl ?_
                  refine s_nilCheck rfl rfl ?_
                  refine D_qn ?_
                  refine D_q rfl rfl ?_
                  refine WL_take rfl ?_
                  refine s_fieldAddr rfl rfl (FA44_3 _ _) ?_
                  refine D_qn ?_
                  refine D_q rfl rfl ?_
                  refine WL_take rfl ?_
                  refine s_load Tryz.isAgg4 rfl rfl (hs.cell (k := 1) (i := 3) (v := .bool G.2.2.1) rfl rfl) ?_
                  refine D_qn ?_
                  refine D_e rfl ?_
                  refine WL_take rfl ?_
                  refine s_callL (M := []) (L1 := [_]) (X := [_] ++ (Ld ++ Lm)) Tryz.call18 rfl rfl hs (fun h => wUp_ok g.q1 p 2 G.2.1 G.2.2.1 w h) ?_
                  clear hs; rintro u w L9 ⟨rfl, rfl⟩ - hs
                  replace hs : St [] w0 w ([(g.q1, Blk 59 (logCells p 2 G.2.1 G.2.2.1))] ++ ([(g.q2, Blk 44 (logCells q 2 G.2.1 G.2.2.1))] ++ (Ld ++ Lm))) := hs
                  refine D_en ?re ?_
                  case re =>
                    refine Reks_cons rfl rfl rfl rfl ?_ ?_
                    · skip
                      refine WL_take rfl ?_
                      refine s_move rfl rfl ?_
                      exact Rek_end rfl
                    refine Reks_cons rfl rfl rfl rfl ?_ ?_
                    · skip
                      refine WL_take rfl ?_
                      refine s_nilCheck rfl rfl ?_
                      exact Rek_end rfl
                    refine Reks_cons rfl rfl rfl rfl ?_ ?_
                    · skip
                      refine WL_take rfl ?_
                      refine s_fieldAddr rfl rfl (FA44_3 _ _) ?_
                      exact Rek_end rfl
                    refine Reks_cons rfl rfl rfl rfl ?_ ?_
                    · skip
                      refine WL_take rfl ?_
                      refine s_load Tryz.isAgg4 rfl rfl (hs.cell (k := 1) (i := 3) (v := .bool G.2.2.1) rfl rfl) ?_
                      exact Rek_end rfl
                    exact Reks_nil
                  refine D_q rfl rfl ?_
                  refine WL_take rfl ?_
                  refine s_eql_bool Tryz.underlying4 rfl rfl rfl ?_
                  refine D_qn ?_
                  refine D_q rfl rfl ?_
                  refine s_pick_f rfl rfl rfl ?_
                  refine D_qn ?_
                  refine D_nil ?_
                  refine n_then ?_
                  refine W_cond_kf rfl ((by cases G.2.2.1 <;> rfl)) ?_
                  refine W_skip ?_
                  refine n_blk ?_
                  refine n_loop ?_
                  first
                    | exact ⟨⟨D.arm (xx % 5), e, lg, Ld', Lm'⟩, ⟨rfl, rfl, rfl, rfl, rfl, rfl, rfl, rfl, trivial⟩, hs, hD', hR', by rw [arm_room]; exact hr0, fun g h => by have := hlgn g h; omega⟩
                    | exact ⟨⟨D2, e1, lg2, Ld, Lm⟩, ⟨rfl, rfl, rfl, rfl, rfl, rfl, rfl, rfl, trivial⟩, hs, hD, hR, hr1, hlgn2⟩
                    | exact ⟨⟨G.1, e, some ⟨g.q1, g.q2, G.2.1, G.2.2.1⟩, Ld, Lm⟩, ⟨rfl, rfl, rfl, rfl, rfl, rfl, rfl, rfl, trivial⟩, hs, hD, hR, by rw [hGr.1]; exact hr0, fun g9 h => by cases h; have := hGr.2; simp only; omega⟩
          · skip
            try simp only [decide_eq_true_eq, decide_eq_false_iff_not, gt_iff_lt, beq_iff_eq, beq_eq_false_iff_ne, ne_eq] at hc120
            refine W_region ?_
            refine s_eql rfl rfl rfl ?_
            refine s_assign rfl rfl ?_
            refine WL_nil ?_
            refine n_then ?_
            refine W_cond rfl (fun hc120 => ?_) (fun hc120 => ?_)
            · skip
              try simp only [decide_eq_true_eq, decide_eq_false_iff_not, gt_iff_lt, beq_iff_eq, beq_eq_false_iff_ne, ne_eq] at hc120
              refine W_seq ?_
              refine W_region ?_
              refine s_move rfl rfl ?_
              first | (refine s_rem' rfl rfl rfl ?hx ?_; case hx => (refine ⟨?_, ?_⟩ <;> omega)) | (refine s_rem rfl rfl rfl ?hx ?_; case hx => omega)
              refine s_buildSlice rfl rfl (BS22_1 _) hs ?_; clear hs; intro b125 w hs
              refine s_assign rfl rfl ?_
              refine WL_nil ?_
              refine n_then ?_
              refine W_seq ?_
              refine W_region ?_
              refine s_move rfl rfl ?_
              refine s_move rfl rfl ?_
              refine s_move rfl rfl ?_
              first | (refine s_quo' rfl rfl rfl ?hx ?_; case hx => (refine ⟨?_, ?_, ?_⟩ <;> omega)) | (refine s_quo rfl rfl rfl ?hx ?_; case hx => omega)
              first | (refine s_rem' rfl rfl rfl ?hx ?_; case hx => (refine ⟨?_, ?_⟩ <;> omega)) | (refine s_rem rfl rfl rfl ?hx ?_; case hx => omega)
              first | (refine s_sub' rfl rfl rfl ?hx ?_; case hx => (constructor <;> first | omega | (simp only; omega))) | refine s_sub rfl rfl rfl ?_
              replace hs : St [] w0 w ([(b125, Blk 3 [.int .i64 (xx % 30)])] ++ (Ld ++ Lm)) := by
                have h9 := St.reord [[_], lb1 p lg, lb2 q lg, Ld, Lm] [0, 3, 4] [1, 2] hs rfl
                exact h9
              refine s_callL (M := [_]) (L1 := Ld) (X := Lm) Tryz.call11 rfl rfl hs (fun h => dCrash_ok p D _ [xx % 30] _ Ld w hD (Sl_lit hs rfl) (fun a m c he _ => by cases he; exact St.notin (M := [_]) hs (by simp [ids])) (by unfold isI64; omega) h) ?_
              have hfo := hD.firmOk
              clear hs hD; rintro u w Ld hD - hs
              refine WL_nil ?_
              refine n_then ?_
              refine W_seq ?_
              refine W_region ?_
              refine s_move rfl rfl ?_
              refine s_move rfl rfl ?_
              refine s_move rfl rfl ?_
              first | (refine s_quo' rfl rfl rfl ?hx ?_; case hx => (refine ⟨?_, ?_, ?_⟩ <;> omega)) | (refine s_quo rfl rfl rfl ?hx ?_; case hx => omega)
              first | (refine s_rem' rfl rfl rfl ?hx ?_; case hx => (refine ⟨?_, ?_⟩ <;> omega)) | (refine s_rem rfl rfl rfl ?hx ?_; case hx => omega)
              first | (refine s_sub' rfl rfl rfl ?hx ?_; case hx => (constructor <;> first | omega | (simp only; omega))) | refine s_sub rfl rfl rfl ?_
              replace hs : St [] w0 w ([(b125, Blk 3 [.int .i64 (xx % 30)])] ++ (Lm ++ Ld)) := by
                have h9 := St.reord [[_], Ld, Lm] [0, 2, 1] [] hs rfl
                exact h9
              refine s_callL (M := [_]) (L1 := Lm) (X := Ld) Tryz.call12 rfl rfl hs (fun h => rCrash_ok q D _ [xx % 30] _ Lm w hfo hR (Sl_lit hs rfl) (fun a m c he _ => by cases he; exact St.notin (M := [_]) hs (by simp [ids])) (by unfold isI64; omega) h) ?_
              clear hs hR; rintro u w Lm hR - hs
              obtain ⟨D1, hD1⟩ : ∃ D1, D1 = D.crash [xx % 30] (xx / 30 % 300 - 100) := ⟨_, rfl⟩
              rw [← hD1] at hD hR
              have hr1 : D1.room ≤ 239 := by rw [hD1, crash_room]; exact hr0
              clear hD1
              have hsm1 := small_c hD hr1
              replace hs : St [] w0 w (Ld ++ Lm) := by
                have h9 := St.reord [[_], Lm, Ld] [2, 1] [0] hs rfl
                exact h9
              refine WL_nil ?_
              refine n_then ?_
              refine W_seq ?_
              refine W_region ?_
              refine s_move rfl rfl ?_
              refine s_callL (M := []) (L1 := Ld) (X := Lm) Tryz.call7 rfl rfl hs (fun h => wOpenU_ok hmx p D1 Ld w hD (by omega) h) ?_
              clear hs hD; rintro u w L9 ⟨D2, e1, xs1, p1, r1, u1, A1, Lu1, Lx1, Ld, hop1, rfl, rfl, hD, -, -, -, hor1⟩ - hs
              replace hs : St [] w0 w (A1 ++ (Ld ++ Lm)) := by
                have h9 := St.reord [A1, Lu1, Lx1, Ld, Lm] [0, 3, 4] [1, 2] (by simpa [cat] using hs) rfl
                exact h9
              refine s_move rfl rfl ?_
              refine s_extract rfl rfl rfl ?_
              refine s_extract rfl rfl rfl ?_
              refine s_extract rfl rfl rfl ?_
              refine s_assign rfl rfl ?_
              refine s_assign rfl rfl ?_
              refine WL_nil ?_
              refine n_then ?_
              refine W_region ?_
              refine s_move rfl rfl ?_
              refine s_callL (M := A1 ++ Ld) (L1 := Lm) (X := []) Tryz.call8 rfl rfl (by simpa using hs) (fun h => fOpenU_ok hmx q D1 Lm w hR (by omega) h) ?_
              clear hs hR; rintro u w L9 ⟨D3, e2, xs2, p2, r2, u2, A2, Lu2, Lm, hop2, rfl, rfl, hR, -, -, -, hor2⟩ - hs
              obtain ⟨rfl, rfl, rfl⟩ := Opn.unique hmx (by omega) hop1 hop2
              obtain ⟨lg2, rfl, rfl, rfl, rfl, hlg⟩ := pair_up hor1 hor2
              obtain ⟨hr2, hx1⟩ := hop1.facts hsm1
              rw [← hr2] at hr1
              replace hs : St [] w0 w (lb1 p lg2 ++ (lb2 q lg2 ++ (Ld ++ Lm))) := by
                have h9 := St.reord [lb1 p lg2, Ld, lb2 q lg2, Lu2, Lm] [0, 2, 1, 4] [3] (by simpa [cat] using hs) rfl
                exact h9
              have hlgn2 : ∀ g, lg2 = some g → g.n ≤ 200 + (i + 1) := fun g h => by have := hlg g h; omega
              refine s_move rfl rfl ?_
              refine s_extract rfl rfl rfl ?_
              refine s_extract rfl rfl rfl ?_
              refine s_extract rfl rfl rfl ?_
              refine s_assign rfl rfl ?_
              refine s_assign rfl rfl ?_
              refine WL_nil ?_
              refine n_blk ?_
              refine n_loop ?_
              first
                | exact ⟨⟨D.arm (xx % 5), e, lg, Ld', Lm'⟩, ⟨rfl, rfl, rfl, rfl, rfl, rfl, rfl, rfl, trivial⟩, hs, hD', hR', by rw [arm_room]; exact hr0, fun g h => by have := hlgn g h; omega⟩
                | exact ⟨⟨D2, e1, lg2, Ld, Lm⟩, ⟨rfl, rfl, rfl, rfl, rfl, rfl, rfl, rfl, trivial⟩, hs, hD, hR, hr1, hlgn2⟩
                | exact ⟨⟨G.1, e, some ⟨g.q1, g.q2, G.2.1, G.2.2.1⟩, Ld, Lm⟩, ⟨rfl, rfl, rfl, rfl, rfl, rfl, rfl, rfl, trivial⟩, hs, hD, hR, by rw [hGr.1]; exact hr0, fun g9 h => by cases h; have := hGr.2; simp only; omega⟩
            · skip
              try simp only [decide_eq_true_eq, decide_eq_false_iff_not, gt_iff_lt, beq_iff_eq, beq_eq_false_iff_ne, ne_eq] at hc120
              refine W_seq ?_
              refine W_region ?_
              refine s_eql rfl rfl rfl ?_
              refine s_assign rfl rfl ?_
              refine WL_nil ?_
              refine n_then ?_
              refine W_cond rfl (fun hc152 => ?_) (fun hc152 => ?_)
              · skip
                try simp only [decide_eq_true_eq, decide_eq_false_iff_not, gt_iff_lt, beq_iff_eq, beq_eq_false_iff_ne, ne_eq] at hc152
                refine W_seq ?_
                refine W_region ?_
                refine s_assign rfl rfl ?_
                refine WL_nil ?_
                refine n_then ?_
                refine W_seq ?_
                refine W_region ?_
                refine s_assign rfl rfl ?_
                refine WL_nil ?_
                refine n_then ?_
                refine W_seq ?_
                refine W_region ?_
                refine s_move rfl rfl ?_
                replace hs : St [] w0 w (Ld ++ Lm) := by
                  have h9 := St.reord [lb1 p lg, lb2 q lg, Ld, Lm] [2, 3] [0, 1] hs rfl
                  exact h9
                refine s_callL (M := []) (L1 := Ld) (X := Lm) Tryz.call7 rfl rfl hs (fun h => wOpenU_ok hmx p D Ld w hD (by omega) h) ?_
                clear hs hD; rintro u w L9 ⟨D2, e1, xs1, p1, r1, u1, A1, Lu1, Lx1, Ld, hop1, rfl, rfl, hD, hO1, hin1, hrx1, hor1⟩ - hs
                obtain ⟨_, c1, a1, rfl, hv1⟩ := hO1.form
                subst hv1
                simp only [List.nil_append, List.append_assoc] at hs
                refine s_move rfl rfl ?_
                refine s_extract rfl rfl rfl ?_
                refine s_extract rfl rfl rfl ?_
                refine s_extract rfl rfl rfl ?_
                refine s_assign rfl rfl ?_
                refine s_assign rfl rfl ?_
                refine s_assign rfl rfl ?_
                refine WL_nil ?_
                refine n_then ?_
                refine W_seq ?_
                refine W_region ?_
                refine s_move rfl rfl ?_
                refine s_callL (M := A1 ++ (Lu1 ++ (Lx1 ++ Ld))) (L1 := Lm) (X := []) Tryz.call8 rfl rfl (by simpa using hs) (fun h => fOpenU_ok hmx q D Lm w hR (by omega) h) ?_
                clear hs hR; rintro u w L9 ⟨D3, e2, xs2, p2, r2, u2, A2, Lu2, Lm, hop2, rfl, rfl, hR, hO2, hin2, hrx2, hor2⟩ - hs
                obtain ⟨_, c2, a2, rfl, hv2⟩ := hO2.form
                subst hv2
                obtain ⟨rfl, rfl, rfl⟩ := Opn.unique hmx (by omega) hop1 hop2
                obtain ⟨lg2, rfl, rfl, rfl, rfl, hlg⟩ := pair_up hor1 hor2
                obtain ⟨hr2, hx1⟩ := hop1.facts hsm
                have hr1 : D2.room ≤ 239 := by rw [hr2]; exact hr0
                simp only [List.append_assoc, List.append_nil] at hs
                have hlgn2 : ∀ g, lg2 = some g → g.n ≤ 200 + (i + 1) := fun g h => by have := hlg g h; omega
                have hr1l : r1.length ≤ 200 := by rw [← Recs.x_length, hrx1]; exact hx1
                have hxl1 : ∀ y ∈ r1, y.2.length ≤ 239 := fun y hy => by
                  have hy2 : y.2 ∈ xs1 := by rw [← hrx1]; exact List.mem_map_of_mem hy
                  rcases hop1 with ⟨_, _, _, h9⟩ | ⟨_, ys, s9, _, h9⟩
                  · rw [h9] at hy2; cases hy2
                  · have h8 : y.2 ∈ ys := by
                      rw [h9] at hy2; split at hy2
                      · exact hy2
                      · cases hy2
                    have h7 := framesV_mem (mx := mx) (n := 0) h8
                    have h6 := (scan_take s9).1
                    omega
                refine s_move rfl rfl ?_
                refine s_extract rfl rfl rfl ?_
                refine s_extract rfl rfl rfl ?_
                refine s_extract rfl rfl rfl ?_
                refine s_assign rfl rfl ?_
                refine s_assign rfl rfl ?_
                refine s_assign rfl rfl ?_
                refine WL_nil ?_
                refine n_then ?_
                refine W_seq ?_
                refine W_region ?_
                refine s_move rfl rfl ?_
                refine s_move rfl rfl ?_
                refine s_call Tryz.call13 rfl rfl (sameLists_ok _ _ r1 r2 w (OwnS_slIn hO1 fun p hp => hs.own p (by simp [hp])) (OwnS_slIn hO2 fun p hp => hs.own p (by simp [hp])) (fun x hx => (hin1 x hx).sl w fun p hp => hs.own p (by simp [hp])) (fun x hx => (hin2 x hx).sl w fun p hp => hs.own p (by simp [hp])) (by omega) (fun x hx => by have := hxl1 x hx; omega)) ?_
                rintro r w ⟨hst, rfl⟩
                replace hs := hs.fwd1 hst
                clear hst
                rw [hrx1, hrx2]
                replace hs : St [] w0 w (lb1 p lg2 ++ (lb2 q lg2 ++ (Ld ++ Lm))) := by
                  have h9 := St.reord [lb1 p lg2, Lu1, Lx1, Ld, lb2 q lg2, Lu2, Lm] [0, 4, 3, 6] [1, 2, 5] hs rfl
                  exact h9
                refine s_not rfl rfl ?_
                refine WL_nil ?_
                refine n_then ?_
                refine W_cond_kf rfl ((by simp)) ?_
                refine W_skip ?_
                refine n_blk ?_
                refine n_loop ?_
                first
                  | exact ⟨⟨D.arm (xx % 5), e, lg, Ld', Lm'⟩, ⟨rfl, rfl, rfl, rfl, rfl, rfl, rfl, rfl, trivial⟩, hs, hD', hR', by rw [arm_room]; exact hr0, fun g h => by have := hlgn g h; omega⟩
                  | exact ⟨⟨D2, e1, lg2, Ld, Lm⟩, ⟨rfl, rfl, rfl, rfl, rfl, rfl, rfl, rfl, trivial⟩, hs, hD, hR, hr1, hlgn2⟩
                  | exact ⟨⟨G.1, e, some ⟨g.q1, g.q2, G.2.1, G.2.2.1⟩, Ld, Lm⟩, ⟨rfl, rfl, rfl, rfl, rfl, rfl, rfl, rfl, trivial⟩, hs, hD, hR, by rw [hGr.1]; exact hr0, fun g9 h => by cases h; have := hGr.2; simp only; omega⟩
              · skip
                try simp only [decide_eq_true_eq, decide_eq_false_iff_not, gt_iff_lt, beq_iff_eq, beq_eq_false_iff_ne, ne_eq] at hc152
                refine W_seq ?_
                refine W_seq ?_
                refine W_region ?_
                refine s_move rfl rfl ?_
                refine s_eql_ptrG Tryz.underlying28 rfl rfl rfl ?_
                refine s_move rfl rfl ?_
                refine WL_case (s := 76) rfl (fun hg76 => ?_) (fun hg76 => ?_)
                · skip
                  try simp only [decide_eq_true_eq, decide_eq_false_iff_not, gt_iff_lt, beq_iff_eq, beq_eq_false_iff_ne, ne_eq] at hg76
                  refine WL_skip rfl rfl rfl ?_
                  refine WL_skip rfl rfl rfl ?_
                  refine s_pick_t rfl rfl rfl ?_
                  refine WL_nil ?_
                  refine n_then ?_
                  refine W_cond_t rfl ?_
                  refine W_exit ?_
                  refine x_then ?_
                  refine exit_miss rfl ?_
                  refine x_then ?_
                  refine exit_hit ?_
                  refine n_then ?_
                  refine W_region ?_
                  refine s_move rfl rfl ?_
                  first | (refine s_add' rfl rfl rfl ?hx ?_; case hx => (constructor <;> first | omega | (simp only; omega))) | refine s_add rfl rfl rfl ?_
                  refine s_assign rfl rfl ?_
                  refine WL_nil ?_
                  refine n_loop ?_
                  first
                    | (refine ⟨⟨i + 1, D, e, lg, Ld, Lm⟩, ⟨rfl, rfl, rfl, rfl, rfl, rfl, rfl, rfl, trivial⟩, ⟨?_, hD, hR0, hr0, hlgn, by simp only; omega⟩, by simp only; omega⟩
                       have h9 := St.reord [lb1 p lg, lb2 q lg, Lr, Ld, Lm] [0, 1, 3, 4] [2] hs rfl
                       exact h9)
                    | exact ⟨⟨i + 1, D, e, lg, Ld, Lm⟩, ⟨rfl, rfl, rfl, rfl, rfl, rfl, rfl, rfl, trivial⟩, ⟨hs, hD, hR, hr0, fun g h => by have := hlgn g h; simp only; omega, by simp only; omega⟩, by simp only; omega⟩
                · skip
                  try simp only [decide_eq_true_eq, decide_eq_false_iff_not, gt_iff_lt, beq_iff_eq, beq_eq_false_iff_ne, ne_eq] at hg76
                  obtain ⟨g, rfl⟩ : ∃ g, lg = some g := by cases lg with | none => simp at hg76 | some g => exact ⟨g, rfl⟩
                  have hgn := hlgn g rfl
                  refine WL_take rfl ?_
                  refine s_move rfl rfl ?_
                  refine WL_take rfl ?_
                  refine s_eql_ptrG Tryz.underlying33 rfl rfl rfl ?_
                  refine s_pick_f rfl rfl rfl ?_
                  refine WL_nil ?_
                  refine n_then ?_
                  refine W_cond_kf rfl (rfl) ?_
                  refine W_skip ?_
                  refine n_then ?_
                  refine W_seq ?_
                  refine W_region ?_
                  refine s_move rfl rfl ?_
                  refine s_buildSlice rfl rfl (BS22_1 _) hs ?_; clear hs; intro b81 w hs
                  refine s_call Tryz.call14 rfl rfl (records_ok _ [xx] w (Sl_lit hs rfl) (by intro y hy; rw [List.mem_singleton.1 hy]; unfold isI64; omega)) ?_
                  rintro r w ⟨rs, Lv, LX, hO, hst, hin, hsx, hrl⟩
                  replace hs := (St.back0 hs hst).swap
                  clear hst
                  obtain ⟨_, cv, av, rfl, hvl⟩ := hO.form
                  subst hvl
                  obtain ⟨hsx1, hsx2⟩ := hsx
                  simp only [List.length_cons, List.length_nil] at hrl
                  have hrl1 : rs.length = 1 := by rw [hrl]; rfl
                  obtain ⟨u1, x1, hxi, hm1, hv1, hx1⟩ := Recs.at (rs := rs) (i := 0) (by omega)
                  have hx1b := hsx2 x1 (List.mem_of_getElem? hx1)
                  simp only [lb1, lb2, List.cons_append, List.nil_append] at hs
                  replace hs := hs.tail
                  replace hs : St [] w0 w ([(g.q1, Blk 59 (logCells p 2 g.n g.dn))] ++ ([(g.q2, Blk 44 (logCells q 2 g.n g.dn))] ++ (Ld ++ (Lm ++ (Lv ++ LX))))) := by
                    simp only [List.append_assoc] at hs; exact hs
                  obtain ⟨b3, o3, hA3, hc3⟩ := (OwnS_slIn hO (w := w) fun p hp => hs.own p (by simp [hp])).at hv1
                  (refine s_indexAddrO El29 rfl rfl rfl hA3 ?hx ?_; case hx => (constructor <;> omega))
                  refine s_load Tryz.isAgg39 rfl rfl hc3 ?_
                  refine s_assign rfl rfl ?_
                  refine WL_nil ?_
                  refine n_then ?_
                  refine W_seq ?_
                  refine W_draw [(0, true, []), (1, true, []), (3, true, []), (4, true, []), (2, false, [3, 4]), (5, false, []), (6, true, []), (7, true, []), (8, true, []), (10, true, []), (11, true, []), (12, true, []), (13, true, []), (9, false, [10, 11, 12, 13]), (14, true, []), (15, true, []), (16, true, []), (17, true, []), (19, true, []), (20, true, []), (21, true, []), (22, true, []), (18, false, [19, 20, 21, 22]), (23, true, []), (24, true, [])] [[], [], [0, 1], [], [], [0, 1, 2, 3, 4], [0, 1, 2, 3, 4, 5], [0, 1, 2, 3, 4, 5, 6], [0, 1, 2, 3, 4, 5, 6, 7], [0, 1, 2, 3, 4, 5, 6, 7, 8], [0, 1, 2, 3, 4, 5, 6, 7], [0, 1, 2, 3, 4, 5, 6, 7, 10], [0, 1, 2, 3, 4, 5, 6, 7, 10, 11], [0, 1, 2, 3, 4, 5, 6, 7, 10, 11, 12], [0, 1, 2, 3, 4, 5, 6, 7, 8, 9, 10, 11, 12, 13], [0, 1, 2, 3, 4, 5, 6, 7, 8, 9, 10, 11, 12, 13, 14], [0, 1, 2, 3, 4, 5, 6, 7, 8, 9, 10, 11, 12, 13, 14, 15], [0, 1, 2, 3, 4, 5, 6, 7, 8, 9, 10, 11, 12, 13, 14, 15, 16], [0, 1, 2, 3, 4, 5, 6, 7, 8, 9, 10, 11, 12, 13, 14, 15, 16, 17], [0, 1, 2, 3, 4, 5, 6, 7, 8, 9, 10, 11, 12, 13, 14, 15, 16], [0, 1, 2, 3, 4, 5, 6, 7, 8, 9, 10, 11, 12, 13, 14, 15, 16, 19], [0, 1, 2, 3, 4, 5, 6, 7, 8, 9, 10, 11, 12, 13, 14, 15, 16, 19, 20], [0, 1, 2, 3, 4, 5, 6, 7, 8, 9, 10, 11, 12, 13, 14, 15, 16, 19, 20, 21], [0, 1, 2, 3, 4, 5, 6, 7, 8, 9, 10, 11, 12, 13, 14, 15, 16, 17, 18, 19, 20, 21, 22], [0, 1, 2, 3, 4, 5, 6, 7, 8, 9, 10, 11, 12, 13, 14, 15, 16, 17, 18, 19, 20, 21, 22, 23]] MX (by kernel_rfl) ?_
                  intro w1 hw1 hw2 hw3 hw4; replace hs := hs.redrawn hw1 hw2 hw3 hw4; clear hw1 hw2 hw3 hw4
                  obtain ⟨w, rfl⟩ : ∃ w : World, w = w1 := ⟨_, rfl⟩
                  refine D_q rfl rfl ?_
                  refine s_move rfl rfl ?_
                  refine D_qn ?_
                  refine D_q rfl rfl ?_
                  refine s_move rfl rfl ?_
                  refine D_qn ?_
                  refine D_q rfl rfl ?_
                  refine s_move rfl rfl ?_
                  refine D_qn ?_
                  refine D_q rfl rfl ?_
                  refine s_move rfl rfl ?_
                  refine D_qn ?_
                  refine D_e rfl ?_
                  have hS1 := (hin _ hm1).sl w fun p hp => hs.own p (by simp [hp])
                  replace hs : St [] w0 w ([(g.q2, Blk 44 (logCells q 2 g.n g.dn))] ++ (((g.q1, Blk 59 (logCells p 2 g.n g.dn)) :: Ld) ++ (Lm ++ (Lv ++ LX)))) := by
                    have h9 := St.reord [[_], [_], Ld, Lm, Lv, LX] [1, 0, 2, 3, 4, 5] [] hs rfl
                    exact h9
                  have hap1 := RdS.apart (hin _ hm1) (L0 := (g.q1, Blk 59 (logCells p 2 g.n g.dn)) :: Ld) (fun b hb => St.apartX (M := [_]) (X := Lm ++ (Lv ++ LX)) hs (by simp only [ids_append, List.mem_append]; exact .inr (.inr hb)))
                  simp only at hS1 hap1
                  refine s_callL (M := [_]) (L1 := _ :: Ld) (X := Lm ++ (Lv ++ LX)) Tryz.call15 rfl rfl hs (fun h => wAppend_ok hmx g.q1 p D 2 g.n g.dn _ x1 Ld w hD hS1 hx1b.2 (by omega) hap1 (by omega) h) ?_
                  obtain ⟨G, hG⟩ : ∃ G, G = logApp mx D 2 g.n g.dn x1 := ⟨_, rfl⟩
                  rw [← hG]
                  have hGr := logApp_room mx D 2 g.n g.dn x1
                  rw [← hG] at hGr
                  clear hs hD; rintro u w L9 ⟨Ld, rfl, hD, rfl⟩ - hs
                  refine D_en ?re ?_
                  case re =>
                    refine Reks_cons rfl rfl rfl rfl ?_ ?_
                    · skip
                      refine s_move rfl rfl ?_
                      exact Rek_end rfl
                    refine Reks_cons rfl rfl rfl rfl ?_ ?_
                    · skip
                      refine s_move rfl rfl ?_
                      exact Rek_end rfl
                    exact Reks_nil
                  refine D_e rfl ?_
                  have hS1 := (hin _ hm1).sl w fun p hp => hs.own p (by simp [hp])
                  replace hs : St [] w0 w (((g.q1, Blk 59 (logCells p 2 G.2.1 G.2.2.1)) :: Ld) ++ (((g.q2, Blk 44 (logCells q 2 g.n g.dn)) :: Lm) ++ (Lv ++ LX))) := by
                    have h9 := St.reord [[_], [_], Ld, Lm, Lv, LX] [1, 2, 0, 3, 4, 5] [] hs rfl
                    exact h9
                  have hap1 := RdS.apart (hin _ hm1) (L0 := (g.q2, Blk 44 (logCells q 2 g.n g.dn)) :: Lm) (fun b hb => St.apartX (M := _ :: Ld) (X := Lv ++ LX) hs (by simp only [ids_append, List.mem_append]; exact .inr hb))
                  simp only at hS1 hap1
                  refine s_callL (M := _ :: Ld) (L1 := _ :: Lm) (X := Lv ++ LX) Tryz.call16 rfl rfl hs (fun h => fAppend_ok hmx g.q2 q D 2 g.n g.dn _ x1 Lm w hR hS1 hx1b.2 (by omega) hap1 (by omega) h) ?_
                  rw [← hG]
                  clear hs hR; rintro u w L9 ⟨Lm, rfl, hR, rfl⟩ - hs
                  replace hs : St [] w0 w ([(g.q1, Blk 59 (logCells p 2 G.2.1 G.2.2.1))] ++ ([(g.q2, Blk 44 (logCells q 2 G.2.1 G.2.2.1))] ++ (Ld ++ Lm))) := by
                    have h9 := St.reord [[_], Ld, [_], Lm, Lv, LX] [0, 2, 1, 3] [4, 5] hs rfl
                    exact h9
                  refine D_en ?re ?_
                  case re =>
                    exact Reks_nil
                  refine D_q rfl rfl ?_
                  refine s_neq rfl rfl rfl ?_
                  refine D_qn ?_
                  refine D_q rfl rfl ?_
                  refine s_move rfl rfl ?_
                  refine WL_know (s := 92) (c := false) rfl ((by simp)) ?_
                  refine D_qn ?_
                  refine D_q rfl rfl ?_
                  refine WL_take rfl ?_
                  refine s_move rfl rfl ?_
                  refine D_qn ?_
                  refine D_q rfl rfl ?_
                  refine WL_take rfl ?_
                  refine s_move rfl rfl ?_
                  refine D_qn ?_
                  refine D_q rfl rfl ?_
                  refine WL_take rfl ?_
                  refine s_nilCheck rfl rfl ?_
                  refine D_qn ?_
                  refine D_q rfl rfl ?_
                  refine WL_take rfl ?_
                  refine s_fieldAddr rfl rfl (FA44_2 _ _) ?_
                  refine D_qn ?_
                  refine D_q rfl rfl ?_
                  refine WL_take rfl ?_
                  refine s_load Tryz.isAgg3 rfl rfl (hs.cell (k := 1) (i := 2) (v := .int .i64 (G.2.1 : Int)) rfl rfl) ?_
                  refine D_qn ?_
                  refine D_e rfl ?_
                  refine WL_take rfl ?_
                  refine s_callL (M := []) (L1 := [_]) (X := [_] ++ (Ld ++ Lm)) Tryz.call17 rfl rfl hs (fun h => wLen_ok g.q1 p 2 G.2.1 G.2.2.1 w h) ?_
                  clear hs; rintro u w L9 ⟨rfl, rfl⟩ - hs
                  replace hs : St [] w0 w ([(g.q1, Blk 59 (logCells p 2 G.2.1 G.2.2.1))] ++ ([(g.q2, Blk 44 (logCells q 2 G.2.1 G.2.2.1))] ++ (Ld ++ Lm))) := hs
                  refine D_en ?re ?_
                  case re =>
                    refine Reks_cons rfl rfl rfl rfl ?_ ?_
                    · skip
                      refine WL_take rfl ?_
                      refine s_move rfl rfl ?_
                      exact Rek_end rfl
                    refine Reks_cons rfl rfl rfl rfl ?_ ?_
                    · skip
                      refine WL_take rfl ?_
                      refine s_nilCheck rfl rfl ?_
                      exact Rek_end rfl
                    refine Reks_cons rfl rfl rfl rfl ?_ ?_
                    · skip
                      refine WL_take rfl ?_
                      refine s_fieldAddr rfl rfl (FA44_2 _ _) ?_
                      exact Rek_end rfl
                    refine Reks_cons rfl rfl rfl rfl ?_ ?_
                    · skip
                      refine WL_take rfl ?_
                      refine s_load Tryz.isAgg3 rfl rfl (hs.cell (k := 1) (i := 2) (v := .int .i64 (G.2.1 : Int)) rfl rfl) ?_
                      exact Rek_end rfl
                    exact Reks_nil
                  refine D_q rfl rfl ?_
                  refine WL_take rfl ?_
                  refine s_neq rfl rfl rfl ?_
                  refine D_qn ?_
                  refine D_q rfl rfl ?_
                  refine s_pick_f rfl rfl rfl ?_
                  refine D_qn ?_
                  refine D_q rfl rfl ?_
                  refine s_move rfl rfl ?_
                  refine WL_know (s := 101) (c := false) rfl ((by simp)) ?_
                  refine D_qn ?_
                  refine D_q rfl rfl ?_
                  refine WL_take rfl ?_
                  refine s_move rfl rfl ?_
                  refine D_qn ?_
                  refine D_q rfl rfl ?_
                  refine WL_take rfl ?_
                  refine s_move rfl rfl ?_
                  refine D_qn ?_
                  refine D_q rfl rfl ?_
                  refine WL_take rfl ?_
                  refine s_nilCheck rfl rfl ?_
                  refine D_qn ?_
                  refine D_q rfl rfl ?_
                  refine WL_take rfl ?_
                  refine s_fieldAddr rfl rfl (FA44_3 _ _) ?_
                  refine D_qn ?_
                  refine D_q rfl rfl ?_
                  refine WL_take rfl ?_
                  refine s_load Tryz.isAgg4 rfl rfl (hs.cell (k := 1) (i := 3) (v := .bool G.2.2.1) rfl rfl) ?_
                  refine D_qn ?_
                  refine D_e rfl ?_
                  refine WL_take rfl ?_
                  refine s_callL (M := []) (L1 := [_]) (X := [_] ++ (Ld ++ Lm)) Tryz.call18 rfl rfl hs (fun h => wUp_ok g.q1 p 2 G.2.1 G.2.2.1 w h) ?_
                  clear hs; rintro u w L9 ⟨rfl, rfl⟩ - hs
                  replace hs : St [] w0 w ([(g.q1, Blk 59 (logCells p 2 G.2.1 G.2.2.1))] ++ ([(g.q2, Blk 44 (logCells q 2 G.2.1 G.2.2.1))] ++ (Ld ++ Lm))) := hs
                  refine D_en ?re ?_
                  case re =>
                    refine Reks_cons rfl rfl rfl rfl ?_ ?_
                    · skip
                      refine WL_take rfl ?_
                      refine s_move rfl rfl ?_
                      exact Rek_end rfl
                    refine Reks_cons rfl rfl rfl rfl ?_ ?_
                    · skip
                      refine WL_take rfl ?_
                      refine s_nilCheck rfl rfl ?_
                      exact Rek_end rfl
                    refine Reks_cons rfl rfl rfl rfl ?_ ?_
                    · skip
                      refine WL_take rfl ?_
                      refine s_fieldAddr rfl rfl (FA44_3 _ _) ?_
                      exact Rek_end rfl
                    refine Reks_cons rfl rfl rfl rfl ?_ ?_
                    · skip
                      refine WL_take rfl ?_
                      refine s_load Tryz.isAgg4 rfl rfl (hs.cell (k := 1) (i := 3) (v := .bool G.2.2.1) rfl rfl) ?_
                      exact Rek_end rfl
                    exact Reks_nil
                  refine D_q rfl rfl ?_
                  refine WL_take rfl ?_
                  refine s_eql_bool Tryz.underlying4 rfl rfl rfl ?_
                  refine D_qn ?_
                  refine D_q rfl rfl ?_
                  refine s_pick_f rfl rfl rfl ?_
                  refine D_qn ?_
                  refine D_nil ?_
                  refine n_then ?_
                  refine W_cond_kf rfl ((by cases G.2.2.1 <;> rfl)) ?_
                  refine W_skip ?_
                  refine n_blk ?_
                  refine n_loop ?_
                  first
                    | exact ⟨⟨D.arm (xx % 5), e, lg, Ld', Lm'⟩, ⟨rfl, rfl, rfl, rfl, rfl, rfl, rfl, rfl, trivial⟩, hs, hD', hR', by rw [arm_room]; exact hr0, fun g h => by have := hlgn g h; omega⟩
                    | exact ⟨⟨D2, e1, lg2, Ld, Lm⟩, ⟨rfl, rfl, rfl, rfl, rfl, rfl, rfl, rfl, trivial⟩, hs, hD, hR, hr1, hlgn2⟩
                    | exact ⟨⟨G.1, e, some ⟨g.q1, g.q2, G.2.1, G.2.2.1⟩, Ld, Lm⟩, ⟨rfl, rfl, rfl, rfl, rfl, rfl, rfl, rfl, trivial⟩, hs, hD, hR, by rw [hGr.1]; exact hr0, fun g9 h => by cases h; have := hGr.2; simp only; omega⟩
      · skip
        clear hs hD hR hr0 hlgn hsm
        rintro ⟨D, e, lg, Ld, Lm⟩ w ⟨hs, hD, hR, hr0, hlgn⟩
        simp only at hs hD hR hr0 hlgn ⊢
        have hR0 := hR
        obtain ⟨gB, gF, rs, hLm, hRs, hK⟩ := hR
        unfold rdCells at hLm
        obtain ⟨r2, hr2, hok2, hc2, hd2, hv2, hdv2⟩ := hRs.get (i := 2) (by omega)
        have hsm := small_c hD hr0
        have hhead : ∀ (F : List Nat) (w0 w : World) (M X : Hp), St F w0 w (M ++ (Lm ++ X)) → w.cell? ⟨q, 3, none⟩ = some (.bool D.off) ∧ w.cell? ⟨q, 1, none⟩ = some (.slice (some ⟨gB, 0, none⟩) 64 64) ∧ w.cell? ⟨gB, 2, none⟩ = some r2.v ∧ Sl w r2.v r2.bs.length (u8s r2.bs) := by
          intro F w0 w M X h
          have h1 := h.pull
          rw [hLm] at h1
          refine ⟨h1.cell (k := 0) (i := 3) rfl rfl, h1.cell (k := 0) (i := 1) rfl rfl, h1.cell (k := 1) rfl hv2, OwnS_slIn hok2.1 fun x hx => h1.own x ?_⟩
          obtain ⟨R, h2, _⟩ := rw_open hr2
          simp only [List.mem_append, List.mem_cons]
          exact .inl (.inr (.inr (.inr (h2.mem_iff.2 (List.mem_append_left _ hx)))))
        refine W_seq ?_
        refine W_region ?_
        refine s_move rfl rfl ?_
        refine s_callL (M := lb1 p lg ++ lb2 q lg) (L1 := Ld) (X := Lm) Tryz.call19 rfl rfl (by simpa using hs) (fun h => dRead_ok p D 2 Ld w hD h) ?_
        clear hs; rintro u w L9 ⟨v9, Lr, rfl, rfl, hOr⟩ - hs
        simp only [List.append_assoc] at hs
        have hre : D.readE 2 = if D.off then 18 else 0 := by rw [Dk.readE, if_neg (by omega)]
        rw [hre]
        refine s_move rfl rfl ?_
        refine s_extract rfl rfl rfl ?_
        refine s_extract rfl rfl rfl ?_
        refine s_assign rfl rfl ?_
        refine s_assign rfl rfl ?_
        refine WL_nil ?_
        refine n_then ?_
        refine W_seq ?_
        refine W_region ?_
        refine s_move rfl rfl ?_
        refine s_eql rfl rfl rfl ?_
        refine s_move rfl rfl ?_
        refine WL_case (s := 177) rfl (fun hg177 => ?_) (fun hg177 => ?_)
        · skip
          try simp only [decide_eq_true_eq, decide_eq_false_iff_not, gt_iff_lt, beq_iff_eq, beq_eq_false_iff_ne, ne_eq] at hg177
          have hoff : D.off = false := by cases h : D.off with | false => rfl | true => rw [h] at hg177; simp at hg177
          rw [(readE_ok (D := D) (f := 2) (by omega) hoff).2] at hOr
          refine WL_take rfl ?_
          refine s_move rfl rfl ?_
          refine WL_take rfl ?_
          refine s_move rfl rfl ?_
          refine WL_take rfl ?_
          refine s_nilCheck rfl rfl ?_
          refine WL_take rfl ?_
          refine s_fieldAddr rfl rfl (FA50_1 _ _) ?_
          refine WL_take rfl ?_
          refine s_load Tryz.isAgg29 rfl rfl (hhead _ _ w (lb1 p lg ++ (lb2 q lg ++ (Lr ++ Ld))) [] (by simpa using hs)).2.1 ?_
          refine WL_take rfl ?_
          (refine s_indexAddr1 El29 rfl rfl rfl ?hx ?_; case hx => (constructor <;> first | omega | (simp; omega)))
          refine WL_take rfl ?_
          refine s_load Tryz.isAgg39 rfl rfl (hhead _ _ w (lb1 p lg ++ (lb2 q lg ++ (Lr ++ Ld))) [] (by simpa using hs)).2.2.1 ?_
          refine WL_take rfl ?_
          have hS2 := (hhead _ _ w (lb1 p lg ++ (lb2 q lg ++ (Lr ++ Ld))) [] (by simpa using hs)).2.2.2
          have hc22 : D.c 2 = r2.bs := hc2
          rw [← hc22] at hS2
          refine s_call Tryz.call20 rfl rfl (sameBytes_ok _ _ (D.c 2) (D.c 2) w (OwnS_slIn hOr fun p hp => hs.own p (by simp [hp])) hS2 (by omega)) ?_
          rintro r w ⟨hst, rfl⟩
          replace hs := hs.fwd1 hst
          clear hst
          refine WL_take rfl ?_
          refine s_not rfl rfl ?_
          refine s_pick_t rfl rfl rfl ?_
          refine s_move rfl rfl ?_
          refine WL_know (s := 188) (c := false) rfl ((by simp)) ?_
          refine WL_take rfl ?_
          refine s_move rfl rfl ?_
          refine WL_take rfl ?_
          refine s_eql rfl rfl rfl ?_
          refine WL_take rfl ?_
          refine s_move rfl rfl ?_
          refine WL_take rfl ?_
          refine s_nilCheck rfl rfl ?_
          refine WL_take rfl ?_
          refine s_fieldAddr rfl rfl (FA50_3 _ _) ?_
          refine WL_take rfl ?_
          refine s_load Tryz.isAgg4 rfl rfl (hhead _ _ w (lb1 p lg ++ (lb2 q lg ++ (Lr ++ Ld))) [] (by simpa using hs)).1 ?_
          refine WL_take rfl ?_
          refine s_neq_bool Tryz.underlying4 rfl rfl rfl ?_
          refine s_pick_f rfl rfl rfl ?_
          refine WL_nil ?_
          refine n_then ?_
          refine W_cond_kf rfl ((by cases D.off <;> rfl)) ?_
          refine W_skip ?_
          refine n_blk ?_
          refine n_then ?_
          refine W_region ?_
          refine s_move rfl rfl ?_
          first | (refine s_add' rfl rfl rfl ?hx ?_; case hx => (constructor <;> first | omega | (simp only; omega))) | refine s_add rfl rfl rfl ?_
          refine s_assign rfl rfl ?_
          refine WL_nil ?_
          refine n_loop ?_
          first
            | (refine ⟨⟨i + 1, D, e, lg, Ld, Lm⟩, ⟨rfl, rfl, rfl, rfl, rfl, rfl, rfl, rfl, trivial⟩, ⟨?_, hD, hR0, hr0, hlgn, by simp only; omega⟩, by simp only; omega⟩
               have h9 := St.reord [lb1 p lg, lb2 q lg, Lr, Ld, Lm] [0, 1, 3, 4] [2] hs rfl
               exact h9)
            | exact ⟨⟨i + 1, D, e, lg, Ld, Lm⟩, ⟨rfl, rfl, rfl, rfl, rfl, rfl, rfl, rfl, trivial⟩, ⟨hs, hD, hR, hr0, fun g h => by have := hlgn g h; simp only; omega, by simp only; omega⟩, by simp only; omega⟩
        · skip
          try simp only [decide_eq_true_eq, decide_eq_false_iff_not, gt_iff_lt, beq_iff_eq, beq_eq_false_iff_ne, ne_eq] at hg177
          refine WL_skip rfl rfl rfl ?_
          refine WL_skip rfl rfl rfl ?_
          refine WL_skip rfl rfl rfl ?_
          refine WL_skip rfl rfl rfl ?_
          refine WL_skip rfl rfl rfl ?_
          refine WL_skip rfl rfl rfl ?_
          refine WL_skip rfl rfl rfl ?_
          refine WL_skip rfl rfl rfl ?_
          refine WL_skip rfl rfl rfl ?_
          refine s_pick_f rfl rfl rfl ?_
          refine s_move rfl rfl ?_
          refine WL_take rfl ?_
          refine s_move rfl rfl ?_
          refine WL_take rfl ?_
          refine s_eql rfl rfl rfl ?_
          refine WL_take rfl ?_
          refine s_move rfl rfl ?_
          refine WL_take rfl ?_
          refine s_nilCheck rfl rfl ?_
          refine WL_take rfl ?_
          refine s_fieldAddr rfl rfl (FA50_3 _ _) ?_
          refine WL_take rfl ?_
          refine s_load Tryz.isAgg4 rfl rfl (hhead _ _ w (lb1 p lg ++ (lb2 q lg ++ (Lr ++ Ld))) [] (by simpa using hs)).1 ?_
          refine WL_take rfl ?_
          refine s_neq_bool Tryz.underlying4 rfl rfl rfl ?_
          refine s_pick_f rfl rfl rfl ?_
          refine WL_nil ?_
          refine n_then ?_
          refine W_cond_kf rfl ((by cases D.off <;> rfl)) ?_
          refine W_skip ?_
          refine n_blk ?_
          refine n_then ?_
          refine W_region ?_
          refine s_move rfl rfl ?_
          first | (refine s_add' rfl rfl rfl ?hx ?_; case hx => (constructor <;> first | omega | (simp only; omega))) | refine s_add rfl rfl rfl ?_
          refine s_assign rfl rfl ?_
          refine WL_nil ?_
          refine n_loop ?_
          first
            | (refine ⟨⟨i + 1, D, e, lg, Ld, Lm⟩, ⟨rfl, rfl, rfl, rfl, rfl, rfl, rfl, rfl, trivial⟩, ⟨?_, hD, hR0, hr0, hlgn, by simp only; omega⟩, by simp only; omega⟩
               have h9 := St.reord [lb1 p lg, lb2 q lg, Lr, Ld, Lm] [0, 1, 3, 4] [2] hs rfl
               exact h9)
            | exact ⟨⟨i + 1, D, e, lg, Ld, Lm⟩, ⟨rfl, rfl, rfl, rfl, rfl, rfl, rfl, rfl, trivial⟩, ⟨hs, hD, hR, hr0, fun g h => by have := hlgn g h; simp only; omega, by simp only; omega⟩, by simp only; omega⟩
    · skip
      try simp only [decide_eq_true_eq, decide_eq_false_iff_not, gt_iff_lt, beq_iff_eq, beq_eq_false_iff_ne, ne_eq] at hc50
      refine W_exit ?_
      refine x_then ?_
      refine x_then ?_
      refine exit_hit ?_
      refine n_then ?_
      refine W_seq ?_
      refine W_region ?_
      refine s_move rfl rfl ?_
      refine s_move rfl rfl ?_
      refine s_eql rfl rfl rfl ?_
      refine s_move rfl rfl ?_
      refine WL_know (s := 200) (c := true) rfl ((by simp)) ?_
      refine WL_take rfl ?_
      refine s_call Tryz.call21 rfl rfl (lives_ok w) ?_
      rintro r w ⟨hst, rfl⟩
      replace hs := hs.fwd1 hst
      clear hst
      refine s_pick_t rfl rfl rfl ?_
      refine s_assign rfl rfl ?_
      refine WL_nil ?_
      refine n_then ?_
      refine W_ret ?_
      exact end1 rfl rfl ⟨hs.fwd, rfl⟩
  · skip
    try simp only [decide_eq_true_eq, decide_eq_false_iff_not, gt_iff_lt, beq_iff_eq, beq_eq_false_iff_ne, ne_eq] at hg47
    refine WL_skip rfl rfl rfl ?_
    refine WL_skip rfl rfl rfl ?_
    refine s_pick_f rfl rfl rfl ?_
    refine WL_nil ?_
    refine n_then ?_
    refine W_cond_f rfl ?_
    refine W_exit ?_
    refine x_then ?_
    refine x_then ?_
    refine exit_hit ?_
    refine n_then ?_
    refine W_seq ?_
    refine W_region ?_
    refine s_move rfl rfl ?_
    refine s_move rfl rfl ?_
    refine s_eql rfl rfl rfl ?_
    refine s_move rfl rfl ?_
    refine WL_know (s := 200) (c := true) rfl ((by simp)) ?_
    refine WL_take rfl ?_
    refine s_call Tryz.call21 rfl rfl (lives_ok w) ?_
    rintro r w ⟨hst, rfl⟩
    replace hs := hs.fwd1 hst
    clear hst
    refine s_pick_t rfl rfl rfl ?_
    refine s_assign rfl rfl ?_
    refine WL_nil ?_
    refine n_then ?_
    refine W_ret ?_
    exact end1 rfl rfl ⟨hs.fwd, rfl⟩
end Go.Proofs.YtkappdlbpilghaaGreat
