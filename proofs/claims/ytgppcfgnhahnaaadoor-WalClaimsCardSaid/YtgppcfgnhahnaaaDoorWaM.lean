/- Contracts of the reference model's reader (as XWirH and XWirI, for seats without the whole of law02). -/
import Derived.Test.YtgppcfgnhahnaaaDoorWirR
import Derived.Test.YtgppcfgnhahnaaaDoorWaH
set_option linter.unusedVariables false
set_option linter.unusedSimpArgs false
namespace Go.Proofs.YtgppcfgnhahnaaaDoor
open Go.SL
/-- the model's reader at q: it reads in the blocks Ls -/
structure RfOk (s : RS) (a : Option Addr) (n c : Nat) (Ls : Hp) : Prop where
  len : s.e = 0 → n = s.rest.length
  sl : s.e = 0 → RdS (.slice a n c) n (u8s s.rest) Ls
  b : s.e = 0 → ∀ b ∈ s.rest, isB b
  small : s.e = 0 → s.rest.length ≤ 4294967296
theorem RdS_drop {b o n c k : Nat} {l : List Int} {Ls : Hp} (h : RdS (.slice (some ⟨b, o, none⟩) n c) n (u8s l) Ls) (hl : l.length = n) (hk : k ≤ n) :
    RdS (.slice (some ⟨b, (if c = k then o else o + k * 1), none⟩) (n - k) (c - k)) (n - k) (u8s (l.drop k)) Ls := by
  refine ⟨fun w hw => ?_, fun a m c' he hne => ?_⟩
  · have := (h.sl w hw).drop (size := 1) (k := k) (by simp [hl]) hk
    rw [Nat.mul_one, ← List.map_drop] at this
    rw [Nat.mul_one]; exact this
  · cases he
    exact h.inL ⟨b, o, none⟩ _ _ rfl (by intro h0; apply hne; rw [u8s, List.map_drop]; rw [u8s] at h0; rw [h0]; simp)
theorem RdS_take {n c k : Nat} {a : Option Addr} {l : List Int} {Ls : Hp} (h : RdS (.slice a n c) n (u8s l) Ls) (hk : k ≤ n) : RdS (.slice a k c) k (u8s (l.take k)) Ls := by
  refine ⟨fun w hw => ?_, fun a' m c' he hne => ?_⟩
  · have := (h.sl w hw).take (size := 1) (k := k) hk rfl
    rw [Nat.mul_one, ← List.map_take] at this; exact this
  · cases he
    exact h.inL _ _ _ rfl (by intro h0; apply hne; rw [u8s, List.map_take]; rw [u8s] at h0; rw [h0]; simp)
theorem src_kept {q : Nat} {Ls L0 L : Hp} {w0 w : World} (hF : ids L0 = [q]) (hsrc : ∀ p ∈ Ls, w0.heap[p.1]? = some p.2) (hq : q ∉ ids Ls) (h : St (ids L0) w0 w L) : ∀ p ∈ Ls, w.heap[p.1]? = some p.2 := fun p hp =>
  (h.old (Array.getElem?_eq_some_iff.1 (hsrc p hp)).1 (by rw [hF]; intro h1; simp at h1; exact hq (h1 ▸ mem_ids_of hp))).trans (hsrc p hp)
theorem src_fwd {q : Nat} {Ls : Hp} {w0 w : World} (hsrc : ∀ p ∈ Ls, w0.heap[p.1]? = some p.2) (hq : q ∉ ids Ls) (h : Fwd [q] w0 w) : ∀ p ∈ Ls, w.heap[p.1]? = some p.2 := fun p hp =>
  (h.block p.1 (Array.getElem?_eq_some_iff.1 (hsrc p hp)).1 (by intro h1; simp at h1; exact hq (h1 ▸ mem_ids_of hp))).trans (hsrc p hp)
end Go.Proofs.YtgppcfgnhahnaaaDoor

/- Frames in a row: what a scan is (plain); the reference's first. -/
namespace Go.Proofs.YtgppcfgnhahnaaaDoor
open Go.SL
theorem frame_parse {mx : Nat → Nat → Nat} (hmx : IsMix mx) {n : Int} {x : List Int} (r : List Int) (hn : isI64 n) (hx : x.length ≤ 1048576) :
    rdRaw ⟨frameV mx n x ++ r, 0⟩ = (coreV n x, ⟨uvar (hashV mx (bytesOf sWal) (coreV n x)) ++ r, 0⟩) ∧ rdU ⟨uvar (hashV mx (bytesOf sWal) (coreV n x)) ++ r, 0⟩ = (hashV mx (bytesOf sWal) (coreV n x), ⟨r, 0⟩) ∧
    rdI ⟨coreV n x, 0⟩ = (n, ⟨uvar x.length ++ x, 0⟩) ∧ rdRaw ⟨uvar x.length ++ x, 0⟩ = (x, ⟨[], 0⟩) := by
  have hcl := coreV_len hn hx
  refine ⟨?_, rdU_uvar (hashV_lt hmx _ _), ?_, ?_⟩
  · rw [frameV, List.append_assoc, List.append_assoc]; exact rdRaw_uvar (by omega)
  · rw [coreV, List.append_assoc]; exact rdI_uvar hn
  · have := rdRaw_uvar (bs := x) (r := []) (by omega)
    rw [List.append_nil] at this; exact this
theorem frame_len {mx : Nat → Nat → Nat} {n : Int} {x : List Int} : x.length + 2 ≤ (frameV mx n x).length := by
  have h1 : 0 < (uvar (coreV n x).length).length := List.length_pos_iff.2 (uvar_ne _)
  have h2 : 0 < (uvar (hashV mx (bytesOf sWal) (coreV n x))).length := List.length_pos_iff.2 (uvar_ne _)
  have h3 : x.length ≤ (coreV n x).length := by rw [coreV]; simp only [List.length_append]; omega
  rw [frameV]; simp only [List.length_append]; omega
theorem frame_inj {mx : Nat → Nat → Nat} (hmx : IsMix mx) {n : Int} {x y r q : List Int} (hn : isI64 n) (hx : x.length ≤ 1048576) (hy : y.length ≤ 1048576) (h : frameV mx n x ++ r = frameV mx n y ++ q) : x = y ∧ r = q := by
  obtain ⟨a1, a2, a3, a4⟩ := frame_parse hmx r hn hx
  obtain ⟨b1, b2, b3, b4⟩ := frame_parse hmx q hn hy
  rw [h, b1] at a1
  have hc : coreV n y = coreV n x := congrArg Prod.fst a1
  have hr := congrArg Prod.snd a1
  simp only at hr
  rw [← hr, b2] at a2
  rw [← hc, b3] at a3
  have h3 := congrArg Prod.snd a3
  simp only at h3
  rw [← h3, b4] at a4
  have h4 := congrArg Prod.fst a4
  have h5 := congrArg (fun z => z.2.rest) a2
  exact ⟨h4.symm, h5.symm⟩
def framesV (mx : Nat → Nat → Nat) : Nat → List (List Int) → List Int
  | _, [] => []
  | n, x :: xs => frameV mx (n : Int) x ++ framesV mx (n + 1) xs
theorem framesV_snoc (mx : Nat → Nat → Nat) (xs : List (List Int)) (x : List Int) : ∀ n, framesV mx n (xs ++ [x]) = framesV mx n xs ++ frameV mx ((n + xs.length : Nat) : Int) x := by
  induction xs with
  | nil => intro n; simp [framesV]
  | cons y ys ih => intro n; rw [List.cons_append, framesV, framesV, ih, List.append_assoc, List.length_cons, show n + 1 + ys.length = n + (ys.length + 1) by omega]
theorem framesV_mem {mx : Nat → Nat → Nat} {xs : List (List Int)} : ∀ {n} {x}, x ∈ xs → x.length ≤ (framesV mx n xs).length := by
  induction xs with
  | nil => intro n x h; cases h
  | cons y ys ih =>
    intro n x h
    rw [framesV, List.length_append]
    rcases List.mem_cons.1 h with rfl | h
    · have := frame_len (mx := mx) (n := (n : Int)) (x := x); omega
    · have := ih (n := n + 1) h; omega
theorem framesV_cnt {mx : Nat → Nat → Nat} {xs : List (List Int)} : ∀ {n}, 2 * xs.length ≤ (framesV mx n xs).length := by
  induction xs with
  | nil => intro n; simp [framesV]
  | cons y ys ih => intro n; rw [framesV, List.length_append, List.length_cons]; have := frame_len (mx := mx) (n := (n : Int)) (x := y); have := ih (n := n + 1); omega
/-- no frame with this number is here -/
def noFrame (mx : Nat → Nat → Nat) (n : Nat) (bs : List Int) : Prop := ∀ y r, bs ≠ frameV mx (n : Int) y ++ r
/-- the records at the beginning of bs -/
def IsScan (mx : Nat → Nat → Nat) (n : Nat) (bs : List Int) (xs : List (List Int)) : Prop := ∃ r, bs = framesV mx n xs ++ r ∧ noFrame mx (n + xs.length) r
theorem scan_pre {mx : Nat → Nat → Nat} (hmx : IsMix mx) {xs : List (List Int)} : ∀ {n : Nat} {ys : List (List Int)} {q : List Int}, (framesV mx n xs ++ q).length ≤ 1048576 → n + xs.length ≤ 1048576 → IsScan mx n (framesV mx n xs ++ q) ys → ∃ zs, ys = xs ++ zs := by
  induction xs with
  | nil => intro n ys q _ _ _; exact ⟨ys, rfl⟩
  | cons x xs ih =>
    intro n ys q hl hn ⟨r, h, hno⟩
    cases ys with
    | nil => exact absurd (by rw [framesV, framesV, List.append_assoc] at h; exact h.symm) (hno x (framesV mx (n + 1) xs ++ q))
    | cons y ys =>
      have hx := framesV_mem (mx := mx) (n := n) (List.mem_cons_self (a := x) (l := xs))
      have hy := framesV_mem (mx := mx) (n := n) (List.mem_cons_self (a := y) (l := ys))
      have hyl : (framesV mx n (y :: ys)).length ≤ 1048576 := by have := congrArg List.length h; simp only [List.length_append] at this hl; omega
      have hxl : (framesV mx n (x :: xs)).length ≤ 1048576 := by simp only [List.length_append] at hl; omega
      have hcnt := framesV_cnt (mx := mx) (n := n) (xs := x :: xs)
      rw [List.length_cons] at hn
      rw [framesV, framesV, List.append_assoc, List.append_assoc] at h
      obtain ⟨rfl, h2⟩ := frame_inj hmx (by unfold isI64; omega) (by omega) (by omega) h
      have hnn : n + 1 + xs.length ≤ 1048576 := by omega
      obtain ⟨zs, rfl⟩ := ih (n := n + 1) (ys := ys) (q := q) (by rw [framesV] at hl; simp only [List.length_append] at hl ⊢; omega) hnn ⟨r, h2, by rw [List.length_cons, show n + (ys.length + 1) = n + 1 + ys.length by omega] at hno; exact hno⟩
      exact ⟨zs, rfl⟩
theorem scan_unique {mx : Nat → Nat → Nat} (hmx : IsMix mx) {bs : List Int} {xs ys : List (List Int)} (hl : bs.length ≤ 1048576) (h1 : IsScan mx 0 bs xs) (h2 : IsScan mx 0 bs ys) : xs = ys := by
  obtain ⟨r, e1, n1⟩ := id h1
  obtain ⟨q, e2, n2⟩ := id h2
  have c1 := framesV_cnt (mx := mx) (n := 0) (xs := xs)
  have c2 := framesV_cnt (mx := mx) (n := 0) (xs := ys)
  have l1 := congrArg List.length e1
  have l2 := congrArg List.length e2
  simp only [List.length_append] at l1 l2
  obtain ⟨zs, hz⟩ := scan_pre hmx (q := r) (by rw [← e1]; exact hl) (by omega) (by rw [← e1]; exact h2)
  obtain ⟨us, hu⟩ := scan_pre hmx (q := q) (by rw [← e2]; exact hl) (by omega) (by rw [← e2]; exact h1)
  have a1 := congrArg List.length hz
  have a2 := congrArg List.length hu
  simp only [List.length_append] at a1 a2
  have : zs = [] := List.eq_nil_of_length_eq_zero (by omega)
  rw [hz, this, List.append_nil]
theorem noFrame_nil (mx : Nat → Nat → Nat) (n : Nat) : noFrame mx n [] := by
  intro y r h
  have := congrArg List.length h
  have := frame_len (mx := mx) (n := (n : Int)) (x := y)
  simp only [List.length_append, List.length_nil] at *; omega
theorem new_apart {w0 w : World} {L Ls : Hp} {b : Nat} (hs : St [] w0 w L) (hb : b ∈ ids L) (hsrc : ∀ p ∈ Ls, w0.heap[p.1]? = some p.2) : b ∉ ids Ls := by
  intro h
  obtain ⟨o, ho⟩ := mem_ids.1 hb
  obtain ⟨o', ho'⟩ := mem_ids.1 h
  have h1 := (Array.getElem?_eq_some_iff.1 (hsrc _ ho')).1
  rcases hs.new _ ho with h2 | h2
  · cases h2
  · simp only at h1 h2; omega
theorem src_old {w0 w : World} {L Ls : Hp} (hs : St [] w0 w L) (hsrc : ∀ p ∈ Ls, w0.heap[p.1]? = some p.2) : ∀ p ∈ Ls, w.heap[p.1]? = some p.2 := fun p hp =>
  (hs.old (Array.getElem?_eq_some_iff.1 (hsrc p hp)).1 (by simp)).trans (hsrc p hp)
theorem src_fwd0 {w0 w : World} {Ls : Hp} (hf : Fwd [] w0 w) (hsrc : ∀ p ∈ Ls, w0.heap[p.1]? = some p.2) : ∀ p ∈ Ls, w.heap[p.1]? = some p.2 := fun p hp =>
  (hf.block p.1 (Array.getElem?_eq_some_iff.1 (hsrc p hp)).1 (by simp)).trans (hsrc p hp)
end Go.Proofs.YtgppcfgnhahnaaaDoor

/- The reference's Scan. -/
namespace Go.Proofs.YtgppcfgnhahnaaaDoor
open Go.SL
/-- records: their values and their bytes -/
abbrev Recs := List (Value × List Int)
def Recs.v (rs : Recs) : List Value := rs.map Prod.fst
def Recs.x (rs : Recs) : List (List Int) := rs.map Prod.snd
theorem Recs.v_snoc (rs : Recs) (u : Value) (x : List Int) : Recs.v (rs ++ [(u, x)]) = Recs.v rs ++ [u] := by simp [Recs.v]
theorem Recs.x_snoc (rs : Recs) (u : Value) (x : List Int) : Recs.x (rs ++ [(u, x)]) = Recs.x rs ++ [x] := by simp [Recs.x]
theorem Recs.x_length (rs : Recs) : (Recs.x rs).length = rs.length := by simp [Recs.x]
theorem Recs.v_length (rs : Recs) : (Recs.v rs).length = rs.length := by simp [Recs.v]
structure ScS where
  rs : Recs
  rest : List Int
  v : Value
  L : Hp
end Go.Proofs.YtgppcfgnhahnaaaDoor

/- A round with two values; bytes.Equal, bytes.HasPrefix; the iterator over frames. -/
namespace Go.SL
theorem round_St2 {P : Program} {n lp : Nat} {l : Fr} {w : World} {F : List Nat} {w0 : World} {L : Hp} {fn p q D : Nat} {tm : Array Value} {assign body : Code} {v u : Value} {R : World → Prop}
    (hs : St F w0 w ((lp, .loop (lrec .ready fn tm #[p, q] assign body D)) :: L)) (hp : Nat.blt p n = true) (hq : Nat.blt q n = true) (hA : Agr n l ⟨tm, []⟩)
    (h : WR P lp n assign (fun l1 w1 => St F w0 w1 ((lp, .loop (lrec .ready fn tm #[p, q] assign body D)) :: L) ∧
      ∀ w2, St F w0 w2 ((lp, .loop (lrec .busy fn tm #[p, q] assign body D)) :: L) → WR P lp n body (fun _ w3 => ∃ L', St F w0 w3 ((lp, .loop (lrec .busy fn tm #[p, q] assign body D)) :: L') ∧
        ∀ w4, St F w0 w4 ((lp, .loop (lrec .ready fn tm #[p, q] assign body D)) :: L') → R w4) l1 w2) ((q, u) :: (p, v) :: l) w) :
    YieldAt Fence.wide 0 P lp #[v, u] w (fun e w' => e = .returned (.bool true) ∧ R w') := by
  refine ⟨fn, _, assign, body, run_yield (hs.at (k := 0) rfl) rfl, roundIn_of_wpIn trivial ?_⟩
  have h0 := h _ ((hA.put hp v).put hq u)
  have he : ({ tmps := (#[p, q].zip #[v, u]).foldl (fun tmps (t, a) => tmps.setIfInBounds t a) tm, defers := [] } : Act) = ((⟨tm, []⟩ : Act).put (some p) v).put (some q) u := by simp [Act.put]
  show assign.wpIn _ _ _ _ ({ tmps := (#[p, q].zip #[v, u]).foldl (fun tmps (t, a) => tmps.setIfInBounds t a) tm, defers := [] } : Act) w
  rw [he]
  refine wpIn_mono h0 ?_
  rintro e a1 w1 ⟨l1, ⟨ha1, hd1⟩, hq⟩
  cases e with
  | normal =>
    obtain ⟨hs1, hb⟩ := hq
    refine ⟨_, run_beginRound (hs1.at (k := 0) rfl) rfl, ?_⟩
    refine wpIn_mono (hb _ (hs1.putObj _) _ ha1) ?_
    rintro e a2 w2 ⟨l2, _, hq2⟩
    cases e with
    | normal =>
      obtain ⟨L', hs2, hk⟩ := hq2
      exact ⟨_, _, run_endRound none (hs2.at (k := 0) rfl), rfl, hk _ (hs2.putObj _)⟩
    | _ => exact hq2.elim
  | _ => exact hq.elim
end Go.SL
namespace Go.Proofs.YtgppcfgnhahnaaaDoor
open Go.SL
theorem bEqual_ok (va vb : Value) (xs ys : List Int) (w0 : World) (ha : Sl w0 va xs.length (u8s xs)) (hb : Sl w0 vb ys.length (u8s ys)) (hx : ∀ b ∈ xs, isB b) (hy : ∀ b ∈ ys, isB b) :
    Ret Tryd.prog 75 [va, vb].toArray w0 fun v w' => Fwd [] w0 w' ∧ v = .bool (decide (xs = ys)) := by
  refine Ret_start fun w hs => ?_
  refine Ret_of Tryd.func75 rfl Tryd.ntmps75 rfl ?_
  refine W_seq ?_
  refine W_region ?_
  refine s_assign rfl rfl ?_
  refine WL_nil ?_
  refine n_then ?_
  refine W_seq ?_
  refine W_region ?_
  refine s_move rfl rfl ?_
  refine s_bytes_str (bs := xs) Tryd.underlying35 Tryd.underlying5 Tryd.underlying9 rfl rfl (ha.fwd0 hs.fwd) rfl ?_
  refine s_move rfl rfl ?_
  refine s_bytes_str (bs := ys) Tryd.underlying35 Tryd.underlying5 Tryd.underlying9 rfl rfl (hb.fwd0 hs.fwd) rfl ?_
  refine s_eql_S rfl rfl rfl ?_
  refine s_assign rfl rfl ?_
  refine WL_nil ?_
  refine n_then ?_
  refine W_ret ?_
  exact end1 rfl rfl ⟨hs.fwd, by simp only [strOf_eq hx hy]⟩
theorem hasPrefix_ok (va vb : Value) (xs ys : List Int) (w0 : World) (ha : Sl w0 va xs.length (u8s xs)) (hb : Sl w0 vb ys.length (u8s ys)) (hx : ∀ b ∈ xs, isB b) (hy : ∀ b ∈ ys, isB b) :
    Ret Tryd.prog 63 [va, vb].toArray w0 fun v w' => Fwd [] w0 w' ∧ ∃ t, v = .bool t ∧ (t = true ↔ ∃ r, xs = ys ++ r) := by
  obtain ⟨a, c, rfl, hac⟩ := ha.len_le
  obtain ⟨b, cb, rfl, hbc⟩ := hb.len_le
  refine Ret_start fun w hs => ?_
  refine Ret_of Tryd.func63 rfl Tryd.ntmps63 rfl ?_
  refine W_seq ?_
  refine W_region ?_
  refine s_assign rfl rfl ?_
  refine WL_nil ?_
  refine n_then ?_
  refine W_seq ?_
  refine W_region ?_
  refine s_move rfl rfl ?_
  refine s_len rfl rfl (LN35 _ _ _ _) ?_
  refine s_move rfl rfl ?_
  refine s_len rfl rfl (LN35 _ _ _ _) ?_
  refine s_geq rfl rfl rfl ?_
  refine s_move rfl rfl ?_
  refine WL_case (s := 10) rfl (fun hg10 => ?_) (fun hg10 => ?_)
  · skip
    try simp only [decide_eq_true_eq, decide_eq_false_iff_not] at hg10
    refine WL_take rfl ?_
    refine s_move rfl rfl ?_
    refine WL_take rfl ?_
    refine s_move rfl rfl ?_
    refine WL_take rfl ?_
    refine s_len rfl rfl (LN35 _ _ _ _) ?_
    refine WL_take rfl ?_
    (refine s_slice_hi El35 rfl rfl rfl ?hx ?_; case hx => (constructor <;> omega))
    refine WL_take rfl ?_
    refine s_move rfl rfl ?_
    refine WL_take rfl ?_
    have htk := (ha.fwd0 hs.fwd).take (k := ys.length) (size := 1) (by omega) rfl
    rw [Nat.mul_one, ← List.map_take] at htk
    refine s_call Tryd.call75 rfl rfl (bEqual_ok _ _ (xs.take ys.length) ys w (by rw [List.length_take, Nat.min_eq_left (by omega), Int.toNat_natCast]; exact htk) (hb.fwd0 hs.fwd) (fun z hz => hx z (List.mem_of_mem_take hz)) hy) ?_
    rintro r w ⟨hst, rfl⟩
    replace hs := hs.fwd1 hst
    clear hst
    refine s_pick_t rfl rfl rfl ?_
    refine s_assign rfl rfl ?_
    refine WL_nil ?_
    refine n_then ?_
    refine W_ret ?_
    first
      | (refine end1 rfl rfl ⟨hs.fwd, decide (xs.take ys.length = ys), rfl, ?_⟩
         rw [decide_eq_true_eq]
         constructor
         · intro h; exact ⟨xs.drop ys.length, by conv => lhs; rw [← List.take_append_drop ys.length xs]
                                                 rw [h]⟩
         · rintro ⟨r, rfl⟩; exact List.take_left)
      | (refine end1 rfl rfl ⟨hs.fwd, false, rfl, ?_⟩
         constructor
         · intro h; cases h
         · rintro ⟨r, rfl⟩; simp only [List.length_append] at *; omega)
  · skip
    try simp only [decide_eq_true_eq, decide_eq_false_iff_not] at hg10
    refine WL_skip rfl rfl rfl ?_
    refine WL_skip rfl rfl rfl ?_
    refine WL_skip rfl rfl rfl ?_
    refine WL_skip rfl rfl rfl ?_
    refine WL_skip rfl rfl rfl ?_
    refine WL_skip rfl rfl rfl ?_
    refine s_pick_f rfl rfl rfl ?_
    refine s_assign rfl rfl ?_
    refine WL_nil ?_
    refine n_then ?_
    refine W_ret ?_
    first
      | (refine end1 rfl rfl ⟨hs.fwd, decide (xs.take ys.length = ys), rfl, ?_⟩
         rw [decide_eq_true_eq]
         constructor
         · intro h; exact ⟨xs.drop ys.length, by conv => lhs; rw [← List.take_append_drop ys.length xs]
                                                 rw [h]⟩
         · rintro ⟨r, rfl⟩; exact List.take_left)
      | (refine end1 rfl rfl ⟨hs.fwd, false, rfl, ?_⟩
         constructor
         · intro h; cases h
         · rintro ⟨r, rfl⟩; simp only [List.length_append] at *; omega)
theorem frames_ok (a : Option Addr) (n c : Nat) (w0 : World) : Ret Tryd.prog 42 [.slice a n c].toArray w0 fun r w' => ∃ b, r = .func (.func 57) [].toArray [.pointer (some ⟨b, 0, none⟩)].toArray ∧ St [] w0 w' [(b, Blk 35 [.slice a n c])] := by
  refine Ret_start fun w hs => ?_
  refine Ret_of Tryd.func42 rfl Tryd.ntmps42 rfl ?_
  refine W_seq ?_
  refine W_region ?_
  first | refine s_box rfl rfl hs ?_ | refine s_box1 rfl rfl rfl hs ?_
  clear hs; intro b1 w hs
  refine s_assign rfl rfl ?_
  refine WL_nil ?_
  refine n_then ?_
  refine W_seq ?_
  refine W_region ?_
  refine s_makeFunc rfl rfl rfl ?_
  refine s_assign rfl rfl ?_
  refine WL_nil ?_
  refine n_then ?_
  refine W_ret ?_
  exact end1 rfl rfl ⟨b1, rfl, hs⟩
theorem frameV_isB {mx : Nat → Nat → Nat} {n : Int} {x : List Int} (h : ∀ b ∈ x, isB b) : ∀ b ∈ frameV mx n x, isB b := by
  intro b hb
  rw [frameV, List.mem_append, List.mem_append] at hb
  rcases hb with (hb | hb) | hb
  · exact uvar_isB _ b hb
  · exact coreV_isB h b hb
  · exact uvar_isB _ b hb
theorem empty_parse : rdEnd (rdRaw (rdI ⟨(rdRaw ⟨[], 0⟩).1, 0⟩).2).2 = 3 := by
  have h1 : rdRaw ⟨[], 0⟩ = ([], ⟨[], 3⟩) := by simp [rdRaw, rdU, pu]
  rw [h1]
  have h2 : (rdI ⟨[], 0⟩).2 = ⟨[], 3⟩ := by simp [rdI, rdU, pu]
  simp only [h2]
  simp [rdRaw, rdU, rdEnd]
structure ItS where
  rs : Recs
  rest : List Int
  LO : Hp
  LB : Hp
set_option maxHeartbeats 2000000 in
theorem iterF_ok {mx : Nat → Nat → Nat} (hmx : IsMix mx) (lp b : Nat) (a : Option Addr) (c : Nat) (bs : List Int) (hB : ∀ z ∈ bs, isB z) (hl : bs.length ≤ 1048576) (F : List Nat) (w0 : World) (I : Recs → Hp → Prop)
    (hrd : ∀ rs w LB, I rs LB → St F w0 w LB → w.cell? ⟨b, 0, none⟩ = some (.slice a bs.length c) ∧ Sl w (.slice a bs.length c) bs.length (u8s bs))
    (round : ∀ rs w LO LB u x LX q, I rs LB → bs = framesV mx 0 rs.x ++ (frameV mx (rs.length : Int) x ++ q) → OwnS 5 1 u x.length (u8s x) LX → (∀ z ∈ x, isB z) → St F w0 w (LO ++ (LX ++ LB)) →
      YieldAt Fence.wide 0 Tryd.prog lp #[u, .int .i64 ((framesV mx 0 (Recs.x (rs ++ [(u, x)]))).length : Int)] w (fun e w' => e = .returned (.bool true) ∧ ∃ LB', I (rs ++ [(u, x)]) LB' ∧ St F w0 w' (LO ++ LB')))
    (w : World) (LB0 : Hp) (h0 : I [] LB0) (hs : St F w0 w LB0) :
    Ret Tryd.prog 57 [.func (.yield lp) #[] #[], .pointer (some ⟨b, 0, none⟩)].toArray w fun _ w' => ∃ rs LB', I rs LB' ∧ St F w0 w' LB' ∧ IsScan mx 0 bs rs.x := by
  refine Ret_of Tryd.func57 rfl Tryd.ntmps57 rfl ?_
  refine W_seq ?_
  refine W_region ?_
  refine s_load Tryd.isAgg35 rfl rfl (hrd [] w LB0 h0 hs).1 ?_
  refine s_call Tryd.call58 rfl rfl (read_ok _ bs w (hrd [] w LB0 h0 hs).2 (by omega) hB) ?_
  rintro r w ⟨p, LO0, rfl, hR0, hst⟩
  replace hs := St.back0 hs hst
  clear hst
  refine s_assign rfl rfl ?_
  refine WL_nil ?_
  refine n_then ?_
  refine W_seq ?_
  refine W_region ?_
  refine s_assign rfl rfl ?_
  refine s_assign rfl rfl ?_
  refine WL_nil ?_
  refine n_then ?_
  refine W_block ?_
  refine W_loop (σ := ItS) (fun s => [(0, .func (.yield lp) #[] #[]), (1, .pointer (some ⟨b, 0, none⟩)), (3, .pointer (some ⟨p, 0, none⟩)), (4, .int .i64 (s.rs.length : Int)), (5, .int .i64 ((framesV mx 0 s.rs.x).length : Int))]) (fun s w => St F w0 w (s.LO ++ s.LB) ∧ RdAt p ⟨s.rest, 0⟩ s.LO ∧ I s.rs s.LB ∧ bs = framesV mx 0 s.rs.x ++ s.rest) (fun s => s.rest.length) ⟨[], bs, LO0, LB0⟩ ⟨rfl, rfl, rfl, rfl, rfl, trivial⟩ ⟨hs, hR0, h0, rfl⟩ ?_
  clear hs h0 hR0
  rintro ⟨rs, rest, LO, LB⟩ w ⟨hs, hR, hI, hbs⟩
  simp only at hs hR hI hbs ⊢
  have hbl := congrArg List.length hbs
  rw [List.length_append] at hbl
  have hcnt := framesV_cnt (mx := mx) (n := 0) (xs := rs.x)
  rw [Recs.x_length] at hcnt
  have hnI : isI64 (rs.length : Int) := by unfold isI64; omega
  have hrB : ∀ z ∈ rest, isB z := fun z hz => hB z (by rw [hbs]; exact List.mem_append_right _ hz)
  have hm1 := rdRaw_mem (s := ⟨rest, 0⟩) (N := 1048576) (fun _ => ⟨hrB, by simp only; omega⟩)
  have hem : rest = [] → rdEnd (rdRaw (rdI ⟨(rdRaw ⟨rest, 0⟩).1, 0⟩).2).2 = 3 := by rintro rfl; exact empty_parse
  have hno0 : ∀ x q, rest = frameV mx (rs.length : Int) x ++ q → (rdRaw ⟨rest, 0⟩).1 = coreV rs.length x ∧ (rdU (rdRaw ⟨rest, 0⟩).2).2 = ⟨q, 0⟩ ∧ rdI ⟨(rdRaw ⟨rest, 0⟩).1, 0⟩ = ((rs.length : Int), ⟨uvar x.length ++ x, 0⟩) ∧ rdRaw (rdI ⟨(rdRaw ⟨rest, 0⟩).1, 0⟩).2 = (x, ⟨[], 0⟩) := by
    intro x q h
    have hxl : x.length ≤ 1048576 := by have := frame_len (mx := mx) (n := (rs.length : Int)) (x := x); have := congrArg List.length h; simp only [List.length_append] at this; omega
    obtain ⟨a1, a2, a3, a4⟩ := frame_parse hmx q hnI hxl
    rw [← h] at a1
    rw [a1]
    refine ⟨rfl, ?_, a3, ?_⟩
    · show (rdU ⟨_, 0⟩).2 = _
      rw [a2]
    · show rdRaw (rdI ⟨coreV (rs.length : Int) x, 0⟩).2 = _
      rw [a3]; exact a4
  generalize hR1 : rdRaw ⟨rest, 0⟩ = R1 at hm1 hno0 hem
  obtain ⟨core, s1⟩ := R1
  simp only at hm1 hno0 hem
  generalize hR2 : rdI ⟨core, 0⟩ = R2 at hno0 hem
  obtain ⟨z2, s2⟩ := R2
  simp only at hno0 hem
  have hb2 : s2.e = 0 → (∀ b ∈ s2.rest, isB b) ∧ s2.rest.length ≤ 1048576 := by
    intro h
    have h2 : (rdI ⟨core, 0⟩).2 = s2 := by rw [hR2]
    obtain ⟨_, k, hk, h3⟩ := rdU_rest (s := ⟨core, 0⟩) (fun _ => hm1.1) (by rw [rdI] at h2; simp only at h2; rw [h2]; exact h)
    rw [rdI] at h2; simp only at h2
    rw [h2] at h3
    rw [h3]
    exact ⟨fun b hb => hm1.1 b (List.mem_of_mem_drop hb), by rw [List.length_drop]; have := hm1.2; simp only at *; omega⟩
  have hm3 := rdRaw_mem (s := s2) (N := 1048576) hb2
  generalize hR3 : rdRaw s2 = R3 at hm3 hno0 hem
  obtain ⟨x, s3⟩ := R3
  simp only at hm3 hno0 hem
  have hfin : ∀ w, St F w0 w LB → noFrame mx rs.length rest → ∃ rs LB', I rs LB' ∧ St F w0 w LB' ∧ IsScan mx 0 bs rs.x := fun w h1 h2 => ⟨rs, LB, hI, h1, rest, hbs, by rw [Nat.zero_add, Recs.x_length]; exact h2⟩
  refine W_seq ?_
  refine W_block ?_
  refine W_seq ?_
  refine W_region ?_
  refine s_move rfl rfl ?_
  refine s_callL (M := []) (L1 := LO) (X := LB) Tryd.call59 rfl rfl hs (fun h => rRaw_ok p ⟨rest, 0⟩ LO w hR h) ?_
  clear hs hR; rintro v1 w L1 ⟨LR, Lc, rfl, hR, hOc⟩ - hs
  rw [hR1] at hR hOc
  simp only [List.nil_append, List.append_assoc] at hs hR hOc
  obtain ⟨_, cc, ac, rfl, rfl⟩ := hOc.form
  refine s_assign rfl rfl ?_
  refine WL_nil ?_
  refine n_then ?_
  refine W_seq ?_
  refine W_region ?_
  refine s_move rfl rfl ?_
  refine s_callL (M := []) (L1 := LR) (X := Lc ++ LB) Tryd.call60 rfl rfl hs (fun h => rUint_ok p s1 LR w hR h) ?_
  clear hs hR; rintro v2 w LU ⟨hR, rfl⟩ - hs
  simp only [List.nil_append] at hs
  refine WL_nil ?_
  refine n_then ?_
  refine W_seq ?_
  refine W_region ?_
  refine s_move rfl rfl ?_
  refine s_call Tryd.call58 rfl rfl (read_ok _ core w (hOc.slM (M := LU) (X := LB) hs) (by have := hm1.2; omega) hm1.1) ?_
  rintro r w ⟨pi, Li, rfl, hRi, hst⟩
  replace hs := St.back0 hs hst
  clear hst
  refine s_assign rfl rfl ?_
  refine WL_nil ?_
  refine n_then ?_
  refine W_seq ?_
  refine W_region ?_
  refine s_move rfl rfl ?_
  refine s_callL (M := []) (L1 := Li) (X := LU ++ (Lc ++ LB)) Tryd.call61 rfl rfl hs (fun h => rInt_ok pi ⟨core, 0⟩ Li w hRi h) ?_
  clear hs hRi; rintro v2 w Li ⟨hRi, rfl⟩ - hs
  rw [hR2] at hRi ⊢
  simp only [List.nil_append] at hs hRi ⊢
  refine s_move rfl rfl ?_
  refine s_callL (M := []) (L1 := Li) (X := LU ++ (Lc ++ LB)) Tryd.call59 rfl rfl hs (fun h => rRaw_ok pi s2 Li w hRi h) ?_
  clear hs hRi; rintro v2 w L3 ⟨Li, Lx, rfl, hRi, hOx⟩ - hs
  rw [hR3] at hRi hOx
  simp only [List.nil_append, List.append_assoc] at hs hRi hOx
  obtain ⟨_, cx, ax, rfl, rfl⟩ := hOx.form
  refine s_assign rfl rfl ?_
  refine s_assign rfl rfl ?_
  refine WL_nil ?_
  refine n_then ?_
  refine W_seq ?_
  refine W_seq ?_
  refine W_region ?_
  refine s_move rfl rfl ?_
  refine s_callL (M := []) (L1 := Li) (X := Lx ++ (LU ++ (Lc ++ LB))) Tryd.call62 rfl rfl hs (fun h => rEnd_ok pi s3 Li w hRi h) ?_
  clear hs; rintro v2 w L9 ⟨hL9, rfl⟩ - hs
  rw [hL9] at hs; clear hL9 L9
  simp only [List.nil_append] at hs
  refine s_neq rfl rfl rfl ?_
  refine s_move rfl rfl ?_
  refine WL_case (s := 28) rfl (fun hg28 => ?_) (fun hg28 => ?_)
  · skip
    try simp only [decide_eq_true_eq, decide_eq_false_iff_not, bne_iff_ne, ne_eq, bne_eq_false_iff_eq] at hg28
    refine WL_skip rfl rfl rfl ?_
    refine WL_skip rfl rfl rfl ?_
    refine WL_skip rfl rfl rfl ?_
    refine s_pick_t rfl rfl rfl ?_
    refine WL_nil ?_
    refine n_then ?_
    refine W_cond_t rfl ?_
    refine W_ret ?_
    refine r_then ?_
    refine r_blk ?_
    refine r_then ?_
    refine r_then ?_
    refine r_blk ?_
    first
      | (have h9 : ¬ rdEnd s3 = 0 := ‹_›
         refine end0 rfl (hfin w ((((hs.right (M := Li)).right (M := Lx)).right (M := LU)).right (M := Lc)) fun y q h => ?_)
         obtain ⟨_, _, _, h4⟩ := hno0 y q h
         cases h4
         exact h9 rfl)
      | (have h9 : ¬ z2 = (rs.length : Int) := ‹_›
         refine end0 rfl (hfin w ((((hs.right (M := Li)).right (M := Lx)).right (M := LU)).right (M := Lc)) fun y q h => ?_)
         obtain ⟨_, _, h4, _⟩ := hno0 y q h
         cases h4
         exact h9 rfl)
      | (refine end0 rfl (hfin w (hsB w hs) fun y q h => ?_)
         obtain ⟨_, _, _, h4⟩ := hno0 y q h
         cases h4
         have h9 := ht.2 ⟨q, h⟩
         rw [h9] at hc41
         cases hc41)
  · skip
    try simp only [decide_eq_true_eq, decide_eq_false_iff_not, bne_iff_ne, ne_eq, bne_eq_false_iff_eq] at hg28
    refine WL_take rfl ?_
    refine s_move rfl rfl ?_
    refine WL_take rfl ?_
    refine s_move rfl rfl ?_
    refine WL_take rfl ?_
    refine s_neq rfl rfl rfl ?_
    refine s_pick_f rfl rfl rfl ?_
    refine WL_nil ?_
    refine n_then ?_
    refine W_cond rfl (fun hc32 => ?_) (fun hc32 => ?_)
    · skip
      try simp only [decide_eq_true_eq, decide_eq_false_iff_not, bne_iff_ne, ne_eq, bne_eq_false_iff_eq] at hc32
      refine W_ret ?_
      refine r_then ?_
      refine r_blk ?_
      refine r_then ?_
      refine r_then ?_
      refine r_blk ?_
      first
        | (have h9 : ¬ rdEnd s3 = 0 := ‹_›
           refine end0 rfl (hfin w ((((hs.right (M := Li)).right (M := Lx)).right (M := LU)).right (M := Lc)) fun y q h => ?_)
           obtain ⟨_, _, _, h4⟩ := hno0 y q h
           cases h4
           exact h9 rfl)
        | (have h9 : ¬ z2 = (rs.length : Int) := ‹_›
           refine end0 rfl (hfin w ((((hs.right (M := Li)).right (M := Lx)).right (M := LU)).right (M := Lc)) fun y q h => ?_)
           obtain ⟨_, _, h4, _⟩ := hno0 y q h
           cases h4
           exact h9 rfl)
        | (refine end0 rfl (hfin w (hsB w hs) fun y q h => ?_)
           obtain ⟨_, _, _, h4⟩ := hno0 y q h
           cases h4
           have h9 := ht.2 ⟨q, h⟩
           rw [h9] at hc41
           cases hc41)
    · skip
      try simp only [decide_eq_true_eq, decide_eq_false_iff_not, bne_iff_ne, ne_eq, bne_eq_false_iff_eq] at hc32
      refine W_skip ?_
      refine n_then ?_
      refine W_seq ?_
      refine W_region ?_
      refine s_move rfl rfl ?_
      refine s_move rfl rfl ?_
      have he3 : rdEnd s3 = 0 := ‹_›
      refine s_call Tryd.call27 rfl rfl (frame_ok hmx (rs.length : Int) _ x w (hOx.slM (M := Li) (X := LU ++ (Lc ++ LB)) hs) hnI hm3.1 hm3.2) ?_
      rintro r w ⟨LF, hOF, hst⟩
      replace hs := St.back0 hs hst
      clear hst
      obtain ⟨_, cF, aF, rfl, rfl⟩ := hOF.form
      have hsB : ∀ w, St F w0 w (LF ++ (Li ++ (Lx ++ (LU ++ (Lc ++ LB))))) → St F w0 w LB := fun w h => ((((h.right (M := LF)).right (M := Li)).right (M := Lx)).right (M := LU)).right (M := Lc)
      have hne : rest ≠ [] := fun h => by have := hem h; omega
      refine s_assign rfl rfl ?_
      refine WL_nil ?_
      refine n_then ?_
      refine W_seq ?_
      refine W_seq ?_
      refine W_region ?_
      refine s_load Tryd.isAgg35 rfl rfl (hrd rs w LB hI (hsB w hs)).1 ?_
      obtain ⟨b1, o1, hA1, -⟩ := (hrd rs w LB hI (hsB w hs)).2.at (k := 0) (u := .int .u8 (bs.getD 0 0)) (by
        rw [List.getElem?_map]
        cases hbs' : bs with
        | nil => exact absurd (by rw [hbs'] at hbs; exact (List.append_eq_nil_iff.1 hbs.symm).2) hne
        | cons z r => rfl)
      have hvd := Sl.drop (size := 1) (k := (framesV mx 0 rs.x).length) (by have := (hrd rs w LB hI (hsB w hs)).2; rw [hA1] at this; exact this) (by simp) (by omega)
      rw [Nat.mul_one, ← List.map_drop, show bs.drop (framesV mx 0 rs.x).length = rest by conv => lhs; rw [hbs]; simp] at hvd
      rw [show bs.length - (framesV mx 0 rs.x).length = rest.length by omega] at hvd
      rw [hA1]
      refine s_move rfl rfl ?_
      (refine s_slice_lo El35 rfl rfl rfl ?hx ?_; case hx => (constructor <;> omega))
      refine s_move rfl rfl ?_
      refine s_call Tryd.call63 rfl rfl (hasPrefix_ok _ _ rest (frameV mx (rs.length : Int) x) w (by rw [Int.toNat_natCast, show bs.length - (framesV mx 0 rs.x).length = rest.length by omega, Nat.mul_one]; exact hvd) (hOF.sl hs) hrB (frameV_isB hm3.1)) ?_
      rintro r w ⟨hst, t, rfl, ht⟩
      replace hs := hs.fwd1 hst
      clear hst
      refine s_not rfl rfl ?_
      refine WL_nil ?_
      refine n_then ?_
      refine W_cond rfl (fun hc41 => ?_) (fun hc41 => ?_)
      · skip
        try simp only [decide_eq_true_eq, decide_eq_false_iff_not, bne_iff_ne, ne_eq, bne_eq_false_iff_eq] at hc41
        refine W_ret ?_
        refine r_then ?_
        refine r_blk ?_
        refine r_then ?_
        refine r_then ?_
        refine r_blk ?_
        first
          | (have h9 : ¬ rdEnd s3 = 0 := ‹_›
             refine end0 rfl (hfin w ((((hs.right (M := Li)).right (M := Lx)).right (M := LU)).right (M := Lc)) fun y q h => ?_)
             obtain ⟨_, _, _, h4⟩ := hno0 y q h
             cases h4
             exact h9 rfl)
          | (have h9 : ¬ z2 = (rs.length : Int) := ‹_›
             refine end0 rfl (hfin w ((((hs.right (M := Li)).right (M := Lx)).right (M := LU)).right (M := Lc)) fun y q h => ?_)
             obtain ⟨_, _, h4, _⟩ := hno0 y q h
             cases h4
             exact h9 rfl)
          | (refine end0 rfl (hfin w (hsB w hs) fun y q h => ?_)
             obtain ⟨_, _, _, h4⟩ := hno0 y q h
             cases h4
             have h9 := ht.2 ⟨q, h⟩
             rw [h9] at hc41
             cases hc41)
      · skip
        try simp only [decide_eq_true_eq, decide_eq_false_iff_not, bne_iff_ne, ne_eq, bne_eq_false_iff_eq] at hc41
        refine W_skip ?_
        refine n_then ?_
        refine W_seq ?_
        refine W_region ?_
        refine s_move rfl rfl ?_
        refine s_move rfl rfl ?_
        refine s_len rfl rfl (LN35 _ _ _ _) ?_
        have htt : t = true := by simpa using hc41
        obtain ⟨q, hq⟩ := ht.1 htt
        have hsn := framesV_snoc mx rs.x x 0
        rw [Recs.x_length, Nat.zero_add] at hsn
        have hrl := congrArg List.length hq
        rw [List.length_append] at hrl
        (refine s_add' rfl rfl rfl ?hx ?_; case hx => (constructor <;> omega))
        rw [show ((framesV mx 0 rs.x).length : Int) + ((frameV mx (rs.length : Int) x).length : Int) = ((framesV mx 0 (Recs.x (rs ++ [(.slice ax x.length cx, x)]))).length : Int) by rw [Recs.x_snoc, hsn, List.length_append]; omega]
        refine s_assign rfl rfl ?_
        refine WL_nil ?_
        refine n_then ?_
        refine W_seq ?_
        refine I_region ?_
        refine I_step rfl ?_
        refine s_move rfl rfl ?_
        refine I_next ?_
        refine I_step rfl ?_
        refine s_move rfl rfl ?_
        refine I_next ?_
        refine I_step rfl ?_
        refine s_move rfl rfl ?_
        refine I_next ?_
        have hs2 : St F w0 w (LU ++ (Lx ++ LB)) := by simpa [cat] using St.reord [LF, Li, Lx, LU, Lc, LB] [3, 2, 5] [0, 1, 4] (by simpa [cat] using hs) rfl
        refine I_yield (R := fun w' => ∃ LB', I (rs ++ [(.slice ax x.length cx, x)]) LB' ∧ St F w0 w' (LU ++ LB')) rfl rfl rfl (round rs w LU LB _ x Lx q hI (by rw [hbs, hq]) hOx hm3.1 hs2) ?_
        clear hs hs2; rintro w ⟨LB', hI', hs⟩
        refine I_step rfl ?_
        refine s_not rfl rfl ?_
        refine I_next ?_
        refine I_nil ?_
        refine n_then ?_
        refine W_cond_f rfl ?_
        refine W_skip ?_
        refine n_blk ?_
        refine n_then ?_
        refine W_region ?_
        refine s_move rfl rfl ?_
        first | (refine s_add' rfl rfl rfl ?hx ?_; case hx => (constructor <;> first | omega | (simp only; omega))) | refine s_add rfl rfl rfl ?_
        refine s_assign rfl rfl ?_
        refine WL_nil ?_
        refine n_loop ?_
        refine ⟨⟨rs ++ [(.slice ax x.length cx, x)], q, LU, LB'⟩, ⟨rfl, rfl, rfl, ?_, rfl, trivial⟩, ⟨hs, ?_, hI', ?_⟩, ?_⟩
        · simp only [List.length_append, List.length_singleton]; rfl
        · simp only
          rw [← (hno0 x q hq).2.1]; exact hR
        · simp only
          rw [Recs.x_snoc, hsn, hbs, hq, List.append_assoc]
        · simp only
          have := frame_len (mx := mx) (n := (rs.length : Int)) (x := x); omega
end Go.Proofs.YtgppcfgnhahnaaaDoor

/- wal.Scan. -/
namespace Go.SL
theorem RdS.mono {v : Value} {n : Nat} {cs : List Value} {L L' : Hp} (h : RdS v n cs L) (hs : ∀ p ∈ L, p ∈ L') : RdS v n cs L' :=
  ⟨fun w hw => h.sl w fun p hp => hw p (hs p hp), fun a m c he hne => by
    obtain ⟨o, ho⟩ := mem_ids.1 (h.inL a m c he hne)
    exact mem_ids.2 ⟨o, hs _ ho⟩⟩
end Go.SL
namespace Go.Proofs.YtgppcfgnhahnaaaDoor
open Go.SL
/-- records that are read in the blocks L -/
def RecsIn (rs : Recs) (L : Hp) : Prop := ∀ q ∈ rs, RdS q.1 q.2.length (u8s q.2) L
theorem RecsIn.snoc {rs : Recs} {L L' : Hp} {u : Value} {x : List Int} (h : RecsIn rs L) (hu : RdS u x.length (u8s x) L') : RecsIn (rs ++ [(u, x)]) (L ++ L') := by
  intro q hq
  rcases List.mem_append.1 hq with hq | hq
  · exact (h q hq).mono fun p hp => List.mem_append_left _ hp
  · rw [List.mem_singleton.1 hq]; exact hu.mono fun p hp => List.mem_append_right _ hp
set_option maxHeartbeats 1000000 in
theorem scan_ok {mx : Nat → Nat → Nat} (hmx : IsMix mx) (v : Value) (bs : List Int) (w0 : World) (hv : Sl w0 v bs.length (u8s bs)) (hB : ∀ b ∈ bs, isB b) (hl : bs.length ≤ 1048576) :
    Ret Tryd.prog 17 [v].toArray w0 fun r w' => ∃ (rs : Recs) (u : Value) (Lu Lx : Hp), r = .tuple #[u, .int .i64 ((framesV mx 0 rs.x).length : Int)] ∧ OwnS 35 1 u rs.length rs.v Lu ∧ St [] w0 w' (Lu ++ Lx) ∧ RecsIn rs Lx ∧ IsScan mx 0 bs rs.x := by
  obtain ⟨a, c, rfl, hac⟩ := hv.len_le
  refine Ret_start fun w hs => ?_
  refine Ret_ofM Tryd.func17 rfl Tryd.ntmps17 rfl ?_
  refine M_seq ?_
  refine M_W ?_
  refine W_region ?_
  refine s_assign rfl rfl ?_
  refine s_assign rfl rfl ?_
  refine WL_nil ?_
  refine n_loop ?_
  refine M_seq ?_
  refine M_W ?_
  refine W_region ?_
  refine s_alloc rfl AL26 hs ?_; clear hs; intro b4 w hs
  refine WL_nil ?_
  refine n_loop ?_
  refine M_seq ?_
  refine M_W ?_
  refine W_region ?_
  refine s_alloc rfl AL3 hs ?_; clear hs; intro b5 w hs
  first
    | refine s_storeB Tryd.sizeOf3 rfl rfl rfl hs (kk := 0) rfl rfl ?_
    | refine s_storeB Tryd.sizeOf3 rfl rfl rfl hs (kk := 1) rfl rfl ?_
    | refine s_storeB Tryd.sizeOf3 rfl rfl rfl hs (kk := 2) rfl rfl ?_
    | refine s_storeB Tryd.sizeOf3 rfl rfl rfl hs (kk := 3) rfl rfl ?_
    | refine s_storeB Tryd.sizeOf3 rfl rfl rfl hs (kk := 4) rfl rfl ?_
    | refine s_storeB Tryd.sizeOf3 rfl rfl rfl hs (kk := 5) rfl rfl ?_
  clear hs; intro w hs; try simp only [List.set_cons_zero, List.set_cons_succ, splice, List.take_succ_cons, List.take_zero, List.drop_succ_cons, List.drop_zero, List.nil_append, List.cons_append, List.length_cons, List.length_nil, Nat.reduceAdd, List.append_assoc] at hs
  refine WL_nil ?_
  refine n_loop ?_
  refine M_seq ?_
  refine M_seq ?_
  refine M_W ?_
  refine W_region ?_
  refine s_move rfl rfl ?_
  refine s_call Tryd.call42 rfl rfl (frames_ok a bs.length c w) ?_
  rintro r w ⟨bq, rfl, hst⟩
  replace hs := St.back0 hs hst
  clear hst
  simp only [List.cons_append, List.nil_append] at hs
  refine WL_nil ?_
  refine n_loop ?_
  refine M_block ?_
  refine M_range Tryd.call57 rfl hs ?_
  clear hs; intro fn tm D w asg bo has hbo hA hs
  refine Ret.mono (iterF_ok hmx (D + 1) bq a c bs hB hl [] w0 (fun rs LB => ∃ u Lu Lx, LB = (D + 1, .loop (lrec .ready fn tm #[10, 11] asg bo D)) :: (D, .deferred (some [])) :: (bq, Blk 35 [.slice a bs.length c]) :: (b5, Blk 3 [.int .i64 ((framesV mx 0 rs.x).length : Int)]) :: (b4, Blk 26 [u]) :: (Lu ++ Lx) ∧ OwnS 35 1 u rs.length rs.v Lu ∧ RecsIn rs Lx) ?hrd ?round w _ ?h0 hs) ?next
  case hrd => rintro rs w LB ⟨u, Lu, Lx, rfl, -, -⟩ hs; exact ⟨hs.cell (k := 2) rfl rfl, hv.fwd0 hs.fwd⟩
  case h0 => exact ⟨.slice none 0 0, [], [], rfl, OwnS.nil _ _, fun q hq => by cases hq⟩
  case round =>
    clear hs; rintro rs w LO LB u x LX q ⟨v, Lu, Lx, rfl, hO, hrs⟩ hbs hOx hxB hs
    have hbl := congrArg List.length hbs
    simp only [List.length_append] at hbl
    have hcnt := framesV_cnt (mx := mx) (n := 0) (xs := rs.x)
    rw [Recs.x_length] at hcnt
    replace hs : St [] w0 w ((D + 1, .loop (lrec .ready fn tm #[10, 11] asg bo D)) :: (D, .deferred (some [])) :: (bq, Blk 35 [.slice a bs.length c]) :: (b5, Blk 3 [.int .i64 ((framesV mx 0 rs.x).length : Int)]) :: (b4, Blk 26 [v]) :: (Lu ++ (Lx ++ (LX ++ LO)))) := by
      simpa [cat] using St.reord [LO, LX, [_, _, _, _, _], Lu, Lx] [2, 3, 4, 1, 0] [] hs rfl
    obtain ⟨_, tc, ta, rfl, rfl⟩ := hO.form
    obtain ⟨_, cx, ax, rfl, rfl⟩ := hOx.form
    refine round_St2 hs rfl rfl hA ?_
    refine R_eq has ?_
    refine R_seq ?_
    refine R_region rfl ?_
    refine s_assign rfl rfl ?_
    refine WL_nil ?_
    refine q_n ?_
    refine R_region rfl ?_
    refine s_assign rfl rfl ?_
    refine WL_nil ?_
    refine q_n ?_
    refine ⟨hs, ?_⟩; clear hs; intro w hs
    refine R_eq hbo ?_
    refine R_block ?_
    refine R_seq ?_
    refine R_region rfl ?_
    first
      | refine s_load Tryd.isAgg26 rfl rfl (hs.cell (k := 0) rfl rfl) ?_
      | refine s_load Tryd.isAgg26 rfl rfl (hs.cell (k := 1) rfl rfl) ?_
      | refine s_load Tryd.isAgg26 rfl rfl (hs.cell (k := 2) rfl rfl) ?_
      | refine s_load Tryd.isAgg26 rfl rfl (hs.cell (k := 3) rfl rfl) ?_
      | refine s_load Tryd.isAgg26 rfl rfl (hs.cell (k := 4) rfl rfl) ?_
      | refine s_load Tryd.isAgg26 rfl rfl (hs.cell (k := 5) rfl rfl) ?_
    refine s_move rfl rfl ?_
    refine s_buildSlice rfl rfl (BS26_1 _ _ _) hs ?_; clear hs; intro b14 w hs
    refine s_appendM (M := [_, _, _, _, _, _]) (X := Lx ++ (LX ++ LO)) El26 rfl rfl rfl hO hs (hs.sl (k := 0) (ds := [_]) rfl (Nat.le_refl _) (by intro j u hj; rw [Nat.zero_add]; exact hj)) rfl (by simp [Value.oneCell']) (by omega) ?_
    clear hs; intro v' w Lv' hO' hs
    obtain ⟨_, tc', ta', rfl, rfl⟩ := hO'.form
    simp only [List.cons_append, List.nil_append] at hs
    first
      | refine s_storeB Tryd.sizeOf26 rfl rfl rfl hs (kk := 0) rfl rfl ?_
      | refine s_storeB Tryd.sizeOf26 rfl rfl rfl hs (kk := 1) rfl rfl ?_
      | refine s_storeB Tryd.sizeOf26 rfl rfl rfl hs (kk := 2) rfl rfl ?_
      | refine s_storeB Tryd.sizeOf26 rfl rfl rfl hs (kk := 3) rfl rfl ?_
      | refine s_storeB Tryd.sizeOf26 rfl rfl rfl hs (kk := 4) rfl rfl ?_
      | refine s_storeB Tryd.sizeOf26 rfl rfl rfl hs (kk := 5) rfl rfl ?_
    clear hs; intro w hs; try simp only [List.set_cons_zero, List.set_cons_succ, splice, List.take_succ_cons, List.take_zero, List.drop_succ_cons, List.drop_zero, List.nil_append, List.cons_append, List.length_cons, List.length_nil, Nat.reduceAdd, List.append_assoc] at hs
    refine WL_nil ?_
    refine q_n ?_
    refine R_region rfl ?_
    refine s_move rfl rfl ?_
    first
      | refine s_storeB Tryd.sizeOf3 rfl rfl rfl hs (kk := 0) rfl rfl ?_
      | refine s_storeB Tryd.sizeOf3 rfl rfl rfl hs (kk := 1) rfl rfl ?_
      | refine s_storeB Tryd.sizeOf3 rfl rfl rfl hs (kk := 2) rfl rfl ?_
      | refine s_storeB Tryd.sizeOf3 rfl rfl rfl hs (kk := 3) rfl rfl ?_
      | refine s_storeB Tryd.sizeOf3 rfl rfl rfl hs (kk := 4) rfl rfl ?_
      | refine s_storeB Tryd.sizeOf3 rfl rfl rfl hs (kk := 5) rfl rfl ?_
    clear hs; intro w hs; try simp only [List.set_cons_zero, List.set_cons_succ, splice, List.take_succ_cons, List.take_zero, List.drop_succ_cons, List.drop_zero, List.nil_append, List.cons_append, List.length_cons, List.length_nil, Nat.reduceAdd, List.append_assoc] at hs
    refine WL_nil ?_
    refine q_n ?_
    refine ⟨_, hs.tail, fun w hs => ⟨_, ⟨.slice ta' (rs.length + 1) tc', Lv', Lx ++ LX, rfl, ?_, hrs.snoc hOx.rdS⟩, ?_⟩⟩
    · simp only [Recs.v_snoc, List.length_append]; exact hO'
    · simpa [cat] using St.reord [[_, _, _, _, _], Lv', Lx, LX, LO] [4, 0, 1, 2, 3] [] hs rfl
  case next =>
    rintro _ w ⟨rs, LB, ⟨u, Lu, Lx, rfl, hO, hrs⟩, hs, hsc⟩
    obtain ⟨_, tc, ta, rfl, rfl⟩ := hO.form
    refine ⟨_, hs, ?_⟩
    clear hs; intro w hs
    refine n_blk ?_
    refine n_loop ?_
    refine M_W ?_
    refine W_seq ?_
    refine W_draw [(0, true, []), (1, true, []), (2, true, []), (3, true, [])] [[], [], [0], [0, 1, 2]] MX (by kernel_rfl) ?_
    intro w1 hw1 hw2 hw3 hw4; replace hs := hs.redrawn hw1 hw2 hw3 hw4; clear hw1 hw2 hw3 hw4
    obtain ⟨w, rfl⟩ : ∃ w : World, w = w1 := ⟨_, rfl⟩
    refine D_q rfl rfl ?_
    first
      | refine s_load Tryd.isAgg26 rfl rfl (hs.cell (k := 0) rfl rfl) ?_
      | refine s_load Tryd.isAgg26 rfl rfl (hs.cell (k := 1) rfl rfl) ?_
      | refine s_load Tryd.isAgg26 rfl rfl (hs.cell (k := 2) rfl rfl) ?_
      | refine s_load Tryd.isAgg26 rfl rfl (hs.cell (k := 3) rfl rfl) ?_
      | refine s_load Tryd.isAgg26 rfl rfl (hs.cell (k := 4) rfl rfl) ?_
      | refine s_load Tryd.isAgg26 rfl rfl (hs.cell (k := 5) rfl rfl) ?_
    refine D_qn ?_
    refine D_q rfl rfl ?_
    first
      | refine s_load Tryd.isAgg3 rfl rfl (hs.cell (k := 0) rfl rfl) ?_
      | refine s_load Tryd.isAgg3 rfl rfl (hs.cell (k := 1) rfl rfl) ?_
      | refine s_load Tryd.isAgg3 rfl rfl (hs.cell (k := 2) rfl rfl) ?_
      | refine s_load Tryd.isAgg3 rfl rfl (hs.cell (k := 3) rfl rfl) ?_
      | refine s_load Tryd.isAgg3 rfl rfl (hs.cell (k := 4) rfl rfl) ?_
      | refine s_load Tryd.isAgg3 rfl rfl (hs.cell (k := 5) rfl rfl) ?_
    refine D_qn ?_
    refine D_q rfl rfl ?_
    refine s_assign rfl rfl ?_
    refine D_qn ?_
    refine D_q rfl rfl ?_
    refine s_assign rfl rfl ?_
    refine D_qn ?_
    refine D_nil ?_
    refine n_then ?_
    refine W_ret ?_
    refine M_end hs ?_
    clear hs; intro w hs
    exact end2 rfl rfl rfl ⟨rs, _, Lu, Lx, rfl, hO, hs.tail.tail.tail, hrs, hsc⟩
end Go.Proofs.YtgppcfgnhahnaaaDoor

/- The reference's SameLists and Records. -/
namespace Go.Proofs.YtgppcfgnhahnaaaDoor
open Go.SL
theorem cell_fwd0 {w0 w : World} {ad : Addr} {u : Value} (hf : Fwd [] w0 w) (h : w0.cell? ad = some u) : w.cell? ad = some u := by
  rcases Nat.lt_or_ge ad.block w0.heap.size with hb | hb
  · rw [World.cell?_of_block (hf.block ad.block hb (by simp))]; exact h
  · have h1 : w0.heap[ad.block]? = none := Array.getElem?_eq_none hb
    simp [World.cell?, h1] at h
theorem RecsIn.nil (L : Hp) : RecsIn [] L := fun q hq => by cases hq
theorem Recs.at {rs : Recs} {i : Nat} (h : i < rs.length) : ∃ u x, rs[i]? = some (u, x) ∧ (u, x) ∈ rs ∧ (Recs.v rs)[i]? = some u ∧ (Recs.x rs)[i]? = some x := by
  refine ⟨(rs[i]).1, (rs[i]).2, List.getElem?_eq_getElem h, List.getElem_mem h, ?_, ?_⟩
  · rw [Recs.v, List.getElem?_map, List.getElem?_eq_getElem h]; rfl
  · rw [Recs.x, List.getElem?_map, List.getElem?_eq_getElem h]; rfl
set_option maxHeartbeats 1000000 in
theorem sameLists_ok (va vb : Value) (rs qs : Recs) (w0 : World) (ha : Sl w0 va rs.length rs.v) (hb : Sl w0 vb qs.length qs.v) (hra : ∀ q ∈ rs, Sl w0 q.1 q.2.length (u8s q.2)) (hrb : ∀ q ∈ qs, Sl w0 q.1 q.2.length (u8s q.2))
    (hl : rs.length ≤ 4611686018427387904) (hxl : ∀ q ∈ rs, q.2.length ≤ 4611686018427387904) :
    Ret Tryd.prog 40 [va, vb].toArray w0 fun v w' => Fwd [] w0 w' ∧ v = .bool (decide (rs.x = qs.x)) := by
  obtain ⟨a, ca, rfl, _⟩ := ha.len_le
  obtain ⟨b, cb, rfl, _⟩ := hb.len_le
  refine Ret_start fun w hs => ?_
  refine Ret_of Tryd.func40 rfl Tryd.ntmps40 rfl ?_
  refine W_seq ?_
  refine W_region ?_
  refine s_assign rfl rfl ?_
  refine WL_nil ?_
  refine n_then ?_
  refine W_seq ?_
  refine W_seq ?_
  refine W_region ?_
  refine s_move rfl rfl ?_
  refine s_len rfl rfl (LN26 _ _ _ _) ?_
  refine s_move rfl rfl ?_
  refine s_len rfl rfl (LN26 _ _ _ _) ?_
  refine s_neq rfl rfl rfl ?_
  refine WL_nil ?_
  refine n_then ?_
  refine W_cond rfl (fun hc10 => ?_) (fun hc10 => ?_)
  · skip
    try simp only [decide_eq_true_eq, decide_eq_false_iff_not, bne_iff_ne, ne_eq, bne_eq_false_iff_eq] at hc10
    refine W_seq ?_
    refine W_region ?_
    refine s_assign rfl rfl ?_
    refine WL_nil ?_
    refine n_then ?_
    refine W_ret ?_
    refine r_then ?_
    refine end1 rfl rfl ⟨hs.fwd, congrArg Value.bool ?_⟩
    first
      | (symm; rw [decide_eq_false_iff_not]; intro h; have := congrArg List.length h; rw [Recs.x_length, Recs.x_length] at this; omega)
      | (have hxe : ¬ x1 = x2 := by simpa using hc26
         symm; rw [decide_eq_false_iff_not]; intro h; rw [h, hx2] at hx1; exact hxe (Option.some.inj hx1).symm)
      | (symm; rw [decide_eq_true_eq]
         rw [List.take_of_length_le (by rw [Recs.x_length]; omega), List.take_of_length_le (by rw [Recs.x_length]; omega)] at htk; exact htk)
  · skip
    try simp only [decide_eq_true_eq, decide_eq_false_iff_not, bne_iff_ne, ne_eq, bne_eq_false_iff_eq] at hc10
    refine W_skip ?_
    refine n_then ?_
    refine W_seq ?_
    refine W_seq ?_
    refine W_region ?_
    refine s_assign rfl rfl ?_
    refine WL_nil ?_
    refine n_then ?_
    refine W_block ?_
    refine W_loop (σ := Nat) (fun i => [(0, .slice a rs.length ca), (1, .slice b qs.length cb), (5, .int .i64 (i : Int))]) (fun i w => St [] w0 w [] ∧ i ≤ rs.length ∧ rs.x.take i = qs.x.take i) (fun i => rs.length - i) 0 ⟨rfl, rfl, rfl, trivial⟩ ⟨hs, Nat.zero_le _, by simp⟩ ?_
    clear hs
    rintro i w ⟨hs, hi, htk⟩
    refine W_seq ?_
    refine W_seq ?_
    refine W_region ?_
    refine s_move rfl rfl ?_
    refine s_move rfl rfl ?_
    refine s_len rfl rfl (LN26 _ _ _ _) ?_
    refine s_lss rfl rfl rfl ?_
    refine WL_nil ?_
    refine n_then ?_
    refine W_cond rfl (fun hc14 => ?_) (fun hc14 => ?_)
    · skip
      try simp only [decide_eq_true_eq, decide_eq_false_iff_not, bne_iff_ne, ne_eq, bne_eq_false_iff_eq] at hc14
      have hil : i < rs.length := by omega
      have hlen : rs.length = qs.length := by omega
      obtain ⟨u1, x1, -, hm1, hv1, hx1⟩ := Recs.at hil
      obtain ⟨u2, x2, -, hm2, hv2, hx2⟩ := Recs.at (rs := qs) (i := i) (by omega)
      obtain ⟨b1, o1, hA1, hc1⟩ := ha.at hv1
      obtain ⟨b2, o2, hA2, hc2⟩ := hb.at hv2
      have hS1 := hra _ hm1
      have hS2 := hrb _ hm2
      have hxx := hxl _ hm1
      simp only at hS1 hS2 hxx
      refine W_skip ?_
      refine n_then ?_
      refine W_seq ?_
      refine W_block ?_
      refine W_seq ?_
      refine W_draw [(0, true, []), (1, true, []), (2, true, []), (3, true, []), (4, true, []), (5, true, []), (6, true, []), (7, true, []), (8, false, []), (9, true, [])] [[], [], [0, 1], [0, 1, 2], [], [], [4, 5], [4, 5, 6], [0, 1, 2, 3, 4, 5, 6, 7], [0, 1, 2, 3, 4, 5, 6, 7, 8]] MX (by kernel_rfl) ?_
      intro w1 hw1 hw2 hw3 hw4; replace hs := hs.redrawn hw1 hw2 hw3 hw4; clear hw1 hw2 hw3 hw4
      obtain ⟨w, rfl⟩ : ∃ w : World, w = w1 := ⟨_, rfl⟩
      refine D_q rfl rfl ?_
      refine s_move rfl rfl ?_
      refine D_qn ?_
      refine D_q rfl rfl ?_
      refine s_move rfl rfl ?_
      refine D_qn ?_
      refine D_q rfl rfl ?_
      (refine s_indexAddrO El26 rfl rfl rfl hA1 ?hx ?_; case hx => (constructor <;> omega))
      refine D_qn ?_
      refine D_q rfl rfl ?_
      refine s_load Tryd.isAgg35 rfl rfl (cell_fwd0 hs.fwd hc1) ?_
      refine D_qn ?_
      refine D_q rfl rfl ?_
      refine s_move rfl rfl ?_
      refine D_qn ?_
      refine D_q rfl rfl ?_
      refine s_move rfl rfl ?_
      refine D_qn ?_
      refine D_q rfl rfl ?_
      (refine s_indexAddrO El26 rfl rfl rfl hA2 ?hx ?_; case hx => (constructor <;> omega))
      refine D_qn ?_
      refine D_q rfl rfl ?_
      refine s_load Tryd.isAgg35 rfl rfl (cell_fwd0 hs.fwd hc2) ?_
      refine D_qn ?_
      refine D_e rfl ?_
      refine s_call Tryd.call38 rfl rfl (sameBytes_ok u1 u2 x1 x2 w (hS1.fwd0 hs.fwd) (hS2.fwd0 hs.fwd) hxx) ?_
      rintro r w ⟨hst, rfl⟩
      replace hs := hs.fwd1 hst
      clear hst
      refine D_en ?re ?_
      case re =>
        exact Reks_nil
      refine D_q rfl rfl ?_
      refine s_not rfl rfl ?_
      refine D_qn ?_
      refine D_nil ?_
      refine n_then ?_
      refine W_cond rfl (fun hc26 => ?_) (fun hc26 => ?_)
      · skip
        try simp only [decide_eq_true_eq, decide_eq_false_iff_not, bne_iff_ne, ne_eq, bne_eq_false_iff_eq] at hc26
        refine W_seq ?_
        refine W_region ?_
        refine s_assign rfl rfl ?_
        refine WL_nil ?_
        refine n_then ?_
        refine W_ret ?_
        refine r_blk ?_
        refine r_then ?_
        refine r_then ?_
        refine r_blk ?_
        refine r_then ?_
        refine end1 rfl rfl ⟨hs.fwd, congrArg Value.bool ?_⟩
        first
          | (symm; rw [decide_eq_false_iff_not]; intro h; have := congrArg List.length h; rw [Recs.x_length, Recs.x_length] at this; omega)
          | (have hxe : ¬ x1 = x2 := by simpa using hc26
             symm; rw [decide_eq_false_iff_not]; intro h; rw [h, hx2] at hx1; exact hxe (Option.some.inj hx1).symm)
          | (symm; rw [decide_eq_true_eq]
             rw [List.take_of_length_le (by rw [Recs.x_length]; omega), List.take_of_length_le (by rw [Recs.x_length]; omega)] at htk; exact htk)
      · skip
        try simp only [decide_eq_true_eq, decide_eq_false_iff_not, bne_iff_ne, ne_eq, bne_eq_false_iff_eq] at hc26
        refine W_skip ?_
        refine n_blk ?_
        refine n_then ?_
        refine W_region ?_
        refine s_move rfl rfl ?_
        first | (refine s_add' rfl rfl rfl ?hx ?_; case hx => (constructor <;> first | omega | (simp only; omega))) | refine s_add rfl rfl rfl ?_
        refine s_assign rfl rfl ?_
        refine WL_nil ?_
        refine n_loop ?_
        have hxe : x1 = x2 := by simpa using hc26
        refine ⟨i + 1, ⟨rfl, rfl, rfl, trivial⟩, ⟨hs, hil, ?_⟩, by omega⟩
        rw [List.take_add_one, List.take_add_one, htk, hx1, hx2, hxe]
    · skip
      try simp only [decide_eq_true_eq, decide_eq_false_iff_not, bne_iff_ne, ne_eq, bne_eq_false_iff_eq] at hc14
      refine W_exit ?_
      refine x_then ?_
      refine x_then ?_
      refine exit_hit ?_
      refine n_then ?_
      refine W_seq ?_
      refine W_region ?_
      refine s_assign rfl rfl ?_
      refine WL_nil ?_
      refine n_then ?_
      refine W_ret ?_
      refine end1 rfl rfl ⟨hs.fwd, congrArg Value.bool ?_⟩
      first
        | (symm; rw [decide_eq_false_iff_not]; intro h; have := congrArg List.length h; rw [Recs.x_length, Recs.x_length] at this; omega)
        | (have hxe : ¬ x1 = x2 := by simpa using hc26
           symm; rw [decide_eq_false_iff_not]; intro h; rw [h, hx2] at hx1; exact hxe (Option.some.inj hx1).symm)
        | (symm; rw [decide_eq_true_eq]
           rw [List.take_of_length_le (by rw [Recs.x_length]; omega), List.take_of_length_le (by rw [Recs.x_length]; omega)] at htk; exact htk)
/-- the bytes of a generated record -/
def recV (m : Int) : Nat → List Int
  | 0 => []
  | k + 1 => recV m k ++ [(m / 11 + (k : Int) * m) % 256]
theorem recV_length (m : Int) (k : Nat) : (recV m k).length = k := by induction k with
  | zero => rfl
  | succ k ih => rw [recV, List.length_append, ih]; rfl
theorem recV_isB (m : Int) (k : Nat) : ∀ b ∈ recV m k, isB b := by induction k with
  | zero => intro b hb; cases hb
  | succ k ih =>
    intro b hb
    rw [recV, List.mem_append] at hb
    rcases hb with hb | hb
    · exact ih b hb
    · rw [List.mem_singleton.1 hb]; unfold isB; omega
/-- generated records: small -/
def Small (xs : List (List Int)) : Prop := xs.length ≤ 6 ∧ ∀ x ∈ xs, x.length ≤ 10 ∧ ∀ b ∈ x, isB b
structure RcS where
  i : Nat
  rs : Recs
  v : Value
  Lu : Hp
  Lx : Hp
structure RdI where
  k : Nat
  v : Value
  L : Hp
end Go.Proofs.YtgppcfgnhahnaaaDoor
