/- wal.Frame. -/
import Derived.Test.YtgppcfgnhahnaaaDoorHash
import Derived.Test.YtgppcfgnhahnaaaDoorWirR
import Derived.Test.YtgppcfgnhahnaaaDoorWirW
set_option linter.unusedVariables false
set_option linter.unusedSimpArgs false
namespace Go.Proofs.YtgppcfgnhahnaaaDoor
open Go.SL
abbrev sWal : ByteArray := ⟨#[119, 97, 108]⟩
/-- a number and a record -/
def coreV (n : Int) (x : List Int) : List Int := uvar (zz n) ++ uvar x.length ++ x
def frameV (mx : Nat → Nat → Nat) (n : Int) (x : List Int) : List Int := uvar (coreV n x).length ++ coreV n x ++ uvar (hashV mx (bytesOf sWal) (coreV n x))
theorem coreV_isB {n : Int} {x : List Int} (h : ∀ b ∈ x, isB b) : ∀ b ∈ coreV n x, isB b := by
  intro b hb
  rw [coreV, List.mem_append, List.mem_append] at hb
  rcases hb with (hb | hb) | hb
  · exact uvar_isB _ b hb
  · exact uvar_isB _ b hb
  · exact h b hb
theorem coreV_len {n : Int} {x : List Int} (hn : isI64 n) (hx : x.length ≤ 1048576) : (coreV n x).length ≤ x.length + 20 := by
  have h1 := uvar_len10 (zz_lt hn)
  have h2 := uvar_len10 (n := x.length) (by omega)
  rw [coreV]; simp only [List.length_append]; omega
theorem hashV_lt {mx : Nat → Nat → Nat} (hmx : IsMix mx) (lab bs : List Int) : hashV mx lab bs < 18446744073709551616 := by
  rw [hashV, sumV, sumG]; exact hmx.lt _ _
/-- an argument's block is none of the new ones -/
theorem old_apart {w0 w : World} {v : Value} {m : Nat} {cs : List Value} {L : Hp} (hv : Sl w0 v m cs) (hs : St [] w0 w L) : ∀ a n c, v = .slice (some a) n c → cs ≠ [] → a.block ∉ ids L := by
  intro a n c he hne hin
  subst he
  obtain ⟨b, o, hab, hb, _⟩ := Sl_all hv hne
  cases hab
  obtain ⟨ob, ho⟩ := mem_ids.1 hin
  rcases hs.new _ ho with h | h
  · cases h
  · simp only at h; omega
theorem St.apartX {F : List Nat} {w0 w : World} {M L X : Hp} (h : St F w0 w (M ++ (L ++ X))) {b : Nat} (hb : b ∈ ids X) : b ∉ ids L := by
  have := (h.right (M := M) (L := L ++ X)).nodup
  rw [ids_append, List.nodup_append] at this
  exact fun hL => this.2.2 b hL b hb rfl
set_option maxHeartbeats 1000000 in
theorem frame_ok {mx : Nat → Nat → Nat} (hmx : IsMix mx) (n : Int) (v : Value) (x : List Int) (w0 : World) (hv : Sl w0 v x.length (u8s x)) (hn : isI64 n) (hB : ∀ b ∈ x, isB b) (hx : x.length ≤ 1048576) :
    Ret Tryd.prog 27 [.int .i64 n, v].toArray w0 fun r w' => ∃ Lr, OwnS 5 1 r (frameV mx n x).length (u8s (frameV mx n x)) Lr ∧ St [] w0 w' Lr := by
  have hcl := coreV_len hn hx
  have hcB := coreV_isB (n := n) hB
  refine Ret_start fun w hs => ?_
  refine Ret_of Tryd.func27 rfl Tryd.ntmps27 rfl ?_
  refine W_seq ?_
  refine W_region ?_
  refine s_assign rfl rfl ?_
  refine WL_nil ?_
  refine n_then ?_
  refine W_seq ?_
  refine W_region ?_
  refine s_alloc rfl AL78 hs ?_; clear hs; intro b5 w hs
  refine s_alloc rfl AL78 hs ?_; clear hs; intro b6 w hs
  refine WL_nil ?_
  refine n_then ?_
  refine W_seq ?_
  refine W_region ?_
  refine s_move rfl rfl ?_
  refine s_callL (M := [_]) (L1 := [_]) (X := []) Tryd.call47 rfl rfl hs (fun h => wInt_ok b5 [] n _ w (wr_new b5) h hn (by simp)) ?_
  clear hs; rintro u w L5 ⟨hW, rfl⟩ - hs
  simp only [List.nil_append, List.append_nil, List.cons_append] at hs hW
  refine WL_nil ?_
  refine n_then ?_
  refine W_seq ?_
  refine W_region ?_
  refine s_move rfl rfl ?_
  refine s_callL (M := [_]) (L1 := L5) (X := []) Tryd.call35 rfl rfl (by simp only [List.append_nil, List.cons_append, List.nil_append]; exact hs) (fun h => wRaw_ok b5 _ x v L5 w hW h (hv.fwd0 hs.fwd) (old_apart hv hs.tail) (by have := uvar_len10 (zz_lt hn); omega) (by omega)) ?_
  clear hs hW; rintro u w L5 ⟨hW, rfl⟩ - hs
  simp only [List.append_nil, List.cons_append, List.nil_append] at hs
  replace hW : WrAt b5 (coreV n x) L5 := hW
  refine WL_nil ?_
  refine n_then ?_
  refine W_seq ?_
  refine W_region ?_
  refine s_callL (M := [_]) (L1 := L5) (X := []) Tryd.call39 rfl rfl (by simp only [List.append_nil, List.cons_append, List.nil_append]; exact hs) (fun h => wDone_ok b5 (coreV n x) L5 w hW h (by omega)) ?_
  clear hs; rintro u w L9 ⟨Lc, rfl, hOc⟩ - hs
  simp only [List.append_nil, List.cons_append, List.nil_append] at hs
  replace hs : St [] w0 w ((b6, Blk 78 [.slice none 0 0]) :: Lc) := (hs.perm ((List.perm_append_comm (l₁ := L5) (l₂ := Lc)).cons _)).left (L := _ :: Lc) (M := L5)
  clear hW
  have hhl := hashV_lt hmx (bytesOf sWal) (coreV n x)
  have hul := uvar_len10 (n := (coreV n x).length) (by omega)
  refine s_assign rfl rfl ?_
  refine WL_nil ?_
  refine n_then ?_
  refine W_seq ?_
  refine W_region ?_
  refine s_move rfl rfl ?_
  refine s_callL (M := []) (L1 := [_]) (X := Lc) Tryd.call35 rfl rfl hs (fun h => wRaw_ok b6 [] (coreV n x) _ _ w (wr_new b6) h (hOc.slM (M := [_]) (X := []) (by simpa using hs)) (fun a m c he hne => by subst he; exact St.apartX (M := []) (L := [_]) (X := Lc) hs (OwnS_in hOc hne)) (by simp) (by omega)) ?_
  clear hs; rintro v5 w L6 ⟨hW, rfl⟩ - hs
  simp only [List.nil_append] at hs hW
  refine WL_nil ?_
  refine n_then ?_
  refine W_seq ?_
  refine W_region ?_
  refine s_move rfl rfl ?_
  refine s_call Tryd.call37 rfl rfl (hBytes_ok hmx sWal _ (coreV n x) w (OwnS_slIn hOc fun y hy => hs.own y (List.mem_append_right _ hy)) hcB (by decide +kernel) (by omega)) ?_
  rintro r w ⟨hst, rfl⟩
  replace hs := hs.fwd1 hst
  clear hst
  generalize hH : hashV mx (bytesOf sWal) (coreV n x) = H at hhl
  refine s_callL (M := []) (L1 := L6) (X := Lc) Tryd.call36 rfl rfl hs (fun h => wUint_ok b6 _ H L6 w hW h hhl (by simp only [List.length_append]; omega)) ?_
  clear hs hW; rintro v6 w L6 ⟨hW, rfl⟩ - hs
  simp only [List.nil_append] at hs
  replace hW : WrAt b6 (frameV mx n x) L6 := by rw [frameV, hH]; exact hW
  have hfl : (frameV mx n x).length ≤ 4294967296 := by
    have := uvar_len10 hhl
    rw [frameV, hH]; simp only [List.length_append]; omega
  refine WL_nil ?_
  refine n_then ?_
  refine W_seq ?_
  refine W_region ?_
  refine s_callL (M := []) (L1 := L6) (X := Lc) Tryd.call39 rfl rfl hs (fun h => wDone_ok b6 (frameV mx n x) L6 w hW h hfl) ?_
  clear hs; rintro v7 w L9 ⟨Lr, rfl, hO⟩ - hs
  simp only [List.nil_append, List.append_assoc] at hs
  refine s_assign rfl rfl ?_
  refine WL_nil ?_
  refine n_then ?_
  refine W_ret ?_
  exact end1 rfl rfl ⟨Lr, hO, St.left (L := Lr) (M := Lc) (hs.right (M := L6) (L := Lr ++ Lc))⟩
end Go.Proofs.YtgppcfgnhahnaaaDoor
