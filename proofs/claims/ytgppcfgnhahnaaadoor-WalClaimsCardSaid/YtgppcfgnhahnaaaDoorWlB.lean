/- A log alone on its disk; WalInverted. -/
import Derived.Test.YtgppcfgnhahnaaaDoorWlA
import Derived.Test.YtgppcfgnhahnaaaDoorDkK
set_option linter.unusedVariables false
set_option linter.unusedSimpArgs false
namespace Go.Proofs.YtgppcfgnhahnaaaDoor
open Go.SL
/-- a disk as Open leaves it -/
def Dk.opened (D : Dk) (f : Int) (n : Nat) : Dk := (if n < (D.c f).length then D.set f ((D.c f).take n) (min (D.d f) n) else D).solid
theorem open_free {D : Dk} {f : Int} {n : Nat} (ho : D.off = false) (ha : D.armed = false) (hf : 0 ≤ f ∧ f ≤ 63) (hn : n ≤ (D.c f).length) : D.open f n = (D.opened f n, 0) := by
  have hT : (if n < (D.c f).length then D.trunc f n else (D, 0)) = ((if n < (D.c f).length then D.set f ((D.c f).take n) (min (D.d f) n) else D), 0) := by
    by_cases h : n < (D.c f).length
    · rw [if_pos h, if_pos h, Dk.trunc, if_neg (by omega), if_neg (by simp [ho]), step_free ha, if_neg (by simp), Int.toNat_natCast]
    · rw [if_neg h, if_neg h]
  rw [Dk.open, hT]
  simp only [if_true]
  have h1 : (if n < (D.c f).length then D.set f ((D.c f).take n) (min (D.d f) n) else D).off = false ∧ (if n < (D.c f).length then D.set f ((D.c f).take n) (min (D.d f) n) else D).armed = false := by
    split
    · exact ⟨ho, ha⟩
    · exact ⟨ho, ha⟩
  rw [Dk.sync, if_neg (by rw [h1.1]; simp), step_free h1.2, if_neg (by simp)]
  rfl
theorem one_opened {room left f : Int} {bs : List Int} {d n : Nat} (hn : n ≤ bs.length) : (oneDk room false false left f bs d).opened f n = oneDk room false false left f (bs.take n) n := by
  have hl : (bs.take n).length = n := by rw [List.length_take]; omega
  unfold Dk.opened
  rw [(one_c _ _ _ _ _ _ _).1, (one_c _ _ _ _ _ _ _).2]
  split
  · rw [one_set, one_solid, hl]
  · rw [one_solid, List.take_of_length_le (by omega), show n = bs.length by omega]
theorem scan_take {mx : Nat → Nat → Nat} {bs : List Int} {xs : List (List Int)} (h : IsScan mx 0 bs xs) : (framesV mx 0 xs).length ≤ bs.length ∧ bs.take (framesV mx 0 xs).length = framesV mx 0 xs := by
  obtain ⟨r, rfl, _⟩ := h
  exact ⟨by rw [List.length_append]; omega, List.take_left⟩
theorem scan_whole (mx : Nat → Nat → Nat) (xs : List (List Int)) : IsScan mx 0 (framesV mx 0 xs) xs := ⟨[], by simp, noFrame_nil _ _⟩
theorem fresh_ok (room : Int) (w0 : World) (h : 0 ≤ room ∧ room ≤ 16777216) :
    Ret Tryd.prog 4 [.int .i64 room].toArray w0 fun r w' => ∃ p L, r = .pointer (some ⟨p, 0, none⟩) ∧ DiskAt p (newDk room) L ∧ St [] w0 w' L := by
  refine Ret_start fun w hs => ?_
  refine Ret_of Tryd.func4 rfl Tryd.ntmps4 rfl ?_
  refine W_seq ?_
  refine W_region ?_
  refine s_assign rfl rfl ?_
  refine WL_nil ?_
  refine n_then ?_
  refine W_seq ?_
  refine W_region ?_
  refine s_move rfl rfl ?_
  refine s_call Tryd.call15 rfl rfl (dNew_ok room w) ?_
  rintro v w (⟨-, -, p, Ld, rfl, hD, hst⟩ | ⟨h9, -⟩)
  rotate_left
  · exact absurd h h9
  replace hs := (St.back0 hs hst).left
  clear hst
  refine s_move rfl rfl ?_
  refine s_extract rfl rfl rfl ?_
  refine s_extract rfl rfl rfl ?_
  refine s_assign rfl rfl ?_
  refine s_assign rfl rfl ?_
  refine WL_nil ?_
  refine n_then ?_
  refine W_seq ?_
  refine W_seq ?_
  refine W_region ?_
  refine s_move rfl rfl ?_
  refine s_neq rfl rfl rfl ?_
  refine WL_nil ?_
  refine n_then ?_
  refine W_cond_kf rfl (rfl) ?_
  refine W_skip ?_
  refine n_then ?_
  refine W_seq ?_
  refine W_region ?_
  refine s_move rfl rfl ?_
  refine s_assign rfl rfl ?_
  refine WL_nil ?_
  refine n_then ?_
  refine W_ret ?_
  exact end1 rfl rfl ⟨p, Ld, rfl, hD, hs⟩
/-- Open on a disk that is on and has no plan -/
theorem wOpenF_ok {mx : Nat → Nat → Nat} (hmx : IsMix mx) (p : Nat) (D : Dk) (f : Int) (xs : List (List Int)) (L0 : Hp) (w0 : World) (hD : DiskAt p D L0) (hf : 0 ≤ f ∧ f ≤ 63) (ho : D.off = false) (ha : D.armed = false) (hl : (D.c f).length ≤ 1048576) (hx : IsScan mx 0 (D.c f) xs) (hs : St (ids L0) w0 w0 L0) :
    Ret Tryd.prog 5 [.pointer (some ⟨p, 0, none⟩), .int .i64 f].toArray w0 fun r w' => ∃ L', St (ids L0) w0 w' L' ∧
      ∃ (q : Nat) (rs : Recs) (u : Value) (Lu Lx LD : Hp), rs.x = xs ∧ L' = (q, Blk 53 (logCells p f xs.length false)) :: (Lu ++ (Lx ++ LD)) ∧ r = .tuple #[.pointer (some ⟨q, 0, none⟩), u, .int .i64 0] ∧
            DiskAt p (D.opened f (framesV mx 0 xs).length) LD ∧ OwnS 35 1 u rs.length rs.v Lu ∧ RecsIn rs Lx := by
  refine (wOpen_ok hmx p D f L0 w0 hD (by unfold isI64; omega) hl hs).mono ?_
  rintro r w ⟨L', hs', h | ⟨_, ys, hy, h⟩⟩
  · exact absurd (readE_ok (f := f) hf ho).1 h.1
  · obtain rfl := scan_unique hmx hl hx hy
    rw [open_free ho ha hf (scan_take hx).1] at h
    rcases h with h | ⟨_, h⟩
    · exact absurd rfl h.1
    · exact ⟨L', hs', h⟩
/-- an append that fits, on a disk without a plan -/
theorem logApp_free {mx : Nat → Nat → Nat} {room left f : Int} {bs : List Int} {d n : Nat} {x : List Int} (hf : 0 ≤ f ∧ f ≤ 63) (hx : x.length ≤ 65536) (hr : ((bs.length + (frameV mx n x).length : Nat) : Int) ≤ room) :
    logApp mx (oneDk room false false left f bs d) f n false x = (oneDk room false false left f (bs ++ frameV mx n x) (bs ++ frameV mx n x).length, n + 1, false, 0) := by
  rw [logApp, if_neg (by omega), if_neg (by simp), one_app hf hr (by simp), if_pos rfl]
  simp only [one_sync]
  simp
theorem logApp_down {mx : Nat → Nat → Nat} {D : Dk} {f : Int} {n : Nat} {x : List Int} (hx : x.length ≤ 65536) : logApp mx D f n true x = (D, n, true, 18) := by
  rw [logApp, if_neg (by omega), if_pos rfl]
theorem framesV_take {mx : Nat → Nat → Nat} {xs : List (List Int)} {i : Nat} {x : List Int} (h : xs[i]? = some x) : framesV mx 0 (xs.take (i + 1)) = framesV mx 0 (xs.take i) ++ frameV mx (i : Int) x := by
  have hil : i < xs.length := (List.getElem?_eq_some_iff.1 h).1
  rw [List.take_add_one, h]
  have := framesV_snoc mx (xs.take i) x 0
  rw [List.length_take, Nat.zero_add, Nat.min_eq_left (by omega)] at this
  exact this
theorem frame_small {mx : Nat → Nat → Nat} (hmx : IsMix mx) {n : Nat} {x : List Int} {k : Nat} (hn : n ≤ 1048576) (hx : x.length ≤ k) (hk : k ≤ 65536) : (frameV mx (n : Int) x).length ≤ k + 40 := by
  have := frame_len_le hmx (n := (n : Int)) (x := x) (by unfold isI64; omega) (by omega)
  omega
structure WiS where
  i : Nat
  L : Hp
theorem RecsIn.take {rs : Recs} {L : Hp} (h : RecsIn rs L) (k : Nat) : RecsIn (rs.take k) L := fun q hq => h q (List.mem_of_mem_take hq)
end Go.Proofs.YtgppcfgnhahnaaaDoor
