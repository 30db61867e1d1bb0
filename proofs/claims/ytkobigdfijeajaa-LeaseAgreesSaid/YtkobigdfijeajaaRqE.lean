/- The net's methods as play uses them. -/
import Derived.Test.YtkobigdfijeajaaRqD
set_option linter.unusedVariables false
set_option linter.unusedSimpArgs false
namespace Go.Proofs.Ytkobigdfijeajaa
open Go.SL
theorem copy_any (p : Nat) (gs : List Int) (ms : List Msg) (i : Int) (L0 : Hp) (M : Ms → Prop) (w0 : World) (hN : NetAt p gs ms L0) (hin : NetIn ms M) (hs : St (ids L0) w0 w0 L0) :
    Ret Try.prog 58 [.pointer (some ⟨p, 0, none⟩), .int .i64 i].toArray w0 fun r w' => ∃ L', St (ids L0) w0 w' L' ∧ ∃ e ms', r = .int .i64 e ∧ NetAt p gs ms' L' ∧ NetIn ms' M := by
  by_cases h : 0 ≤ i ∧ i < ms.length
  · refine Ret.mono (copy_yes p gs ms i L0 w0 hN hs h hin.1 (fun m hm => (hin.2 m hm).1)) ?_
    rintro r w' ⟨L', hst, ⟨_, rfl, hN'⟩ | ⟨hl, rfl, m, b, hm, hN'⟩⟩
    · exact ⟨L', hst, _, _, rfl, hN', hin⟩
    · exact ⟨L', hst, _, _, rfl, hN', hin.again hm hl b⟩
  · refine Ret.mono (copy_no p gs ms i L0 w0 hN hs h) ?_
    rintro r w' ⟨L', hst, rfl, hN'⟩
    exact ⟨L', hst, _, _, rfl, hN', hin⟩
theorem drop_any (p : Nat) (gs : List Int) (ms : List Msg) (i : Int) (L0 : Hp) (M : Ms → Prop) (w0 : World) (hN : NetAt p gs ms L0) (hin : NetIn ms M) (hs : St (ids L0) w0 w0 L0) :
    Ret Try.prog 59 [.pointer (some ⟨p, 0, none⟩), .int .i64 i].toArray w0 fun r w' => ∃ L', St (ids L0) w0 w' L' ∧ ∃ e ms', r = .int .i64 e ∧ NetAt p gs ms' L' ∧ NetIn ms' M := by
  by_cases h : 0 ≤ i ∧ i < ms.length
  · refine Ret.mono (drop_yes p gs ms i L0 w0 hN hs h hin.1) ?_
    rintro r w' ⟨L', hst, rfl, hN'⟩
    exact ⟨L', hst, _, _, rfl, hN', hin.drop _⟩
  · refine Ret.mono (drop_no p gs ms i L0 w0 hN hs h) ?_
    rintro r w' ⟨L', hst, rfl, hN'⟩
    exact ⟨L', hst, _, _, rfl, hN', hin⟩
theorem take_any (p k : Nat) (gs : List Int) (ms : List Msg) (i : Int) (L0 : Hp) (M : Ms → Prop) (w0 : World) (hN : NetAt p gs ms L0) (hin : NetIn ms M) (hgl : gs.length = k) (hI : ∀ x, M x → x.frm < k ∧ x.to < k) (hs : St (ids L0) w0 w0 L0) :
    Ret Try.prog 61 [.pointer (some ⟨p, 0, none⟩), .int .i64 i].toArray w0 fun r w' => ∃ L', St (ids L0) w0 w' L' ∧ ∃ f t v e ms' LM L1, r = .tuple #[.agg #[.int .i64 f, .int .i64 t, v], .int .i64 e] ∧ (∃ a n c, v = .slice a n c) ∧ L' = L1 ++ LM ∧ NetAt p gs ms' L1 ∧ NetIn ms' M ∧ (e = 0 → ∃ x, M x ∧ f = (x.frm : Int) ∧ t = (x.to : Int) ∧ RdS v (mesB x.m).length (u8s (mesB x.m)) LM) := by
  by_cases h : 0 ≤ i ∧ i < ms.length
  · have hm : ms[i.toNat]? = some ms[i.toNat] := List.getElem?_eq_getElem (by omega)
    generalize ms[i.toNat] = m at hm
    obtain ⟨hml, x, hMx, hf, ht, hb⟩ := hin.2 m (List.mem_of_getElem? hm)
    have hx := hI x hMx
    refine Ret.mono (take_yes p gs ms i L0 w0 hN hs h hin.1 m hm (by omega)) ?_
    rintro r w' ⟨L', hst, ⟨_, rfl, hN'⟩ | ⟨_, rfl, L1, rfl, hN'⟩⟩
    · exact ⟨L', hst, 0, 0, _, 20, ms, [], L', rfl, ⟨_, _, _, rfl⟩, by simp, hN', hin, fun h => absurd h (by decide)⟩
    · have hO : OwnS 5 1 (.slice (some ⟨m.b, 0, none⟩) m.bs.length m.bs.length) m.bs.length (u8s m.bs) [m.blk] :=
        ⟨by simp, .inr ⟨m.b, m.bs.length, [], rfl, Nat.le_refl _, by unfold maxLen; omega, by simp, by simp [Msg.blk]⟩⟩
      exact ⟨L1 ++ [m.blk], St.swap (A := [m.blk]) hst, m.f, m.t, _, 0, _, [m.blk], L1, rfl, ⟨_, _, _, rfl⟩, rfl, hN', hin.drop _, fun _ => ⟨x, hMx, hf, ht, by rw [← hb]; exact hO.rdS⟩⟩
  · refine Ret.mono (take_no p gs ms i L0 w0 hN hs h) ?_
    rintro r w' ⟨L', hst, rfl, hN'⟩
    exact ⟨L', hst, 0, 0, _, 9, ms, [], L', rfl, ⟨_, _, _, rfl⟩, by simp, hN', hin, fun h => absurd h (by decide)⟩
section
variable {k pn : Nat} {ps : List Nat} {R : Nat → Rp} {Ls : List Hp} {gs : List Int} {ms ms' : List Msg} {LN LN' LQ : Hp} {M : Ms → Prop} {P : En → Prop} {C : List En → Prop} {i p : Nat}
theorem updR_n {r : Rp} (h : (R i).n ≤ r.n) : ∀ j, j < k → (R j).n ≤ (updR R i r j).n := fun j _ => by
  by_cases hj : j = i
  · rw [hj, updR_a]; exact h
  · rw [updR_o r hj]; exact Nat.le_refl _
theorem Sys.elect (S : Sys k pn ps R Ls gs ms LN M P C) (hi : i < k) (hp : ps[i]? = some p) (t : Int) (hr : RepAt p ((R i).elect t).1 LQ) (hN : NetAt pn gs ms' LN') (hin : NetIn ms' (addM M ((R i).elect t).2.1)) :
    Sys k pn ps (updR R i ((R i).elect t).1) (Ls.set i LQ) gs ms' LN' (addM M ((R i).elect t).2.1) P C ∧ ∀ j, j < k → (R j).n ≤ (updR R i ((R i).elect t).1 j).n := by
  obtain ⟨G, hG, hC⟩ := S.inv
  obtain ⟨⟨G', hE, h1⟩, h2⟩ := inv_elect hG hi t
  obtain ⟨q1, q2⟩ := elect_logs (R i) t
  refine ⟨S.put hp hr hN hin ⟨G', h1, fun y hy => by obtain ⟨T, hT⟩ := hC y hy; exact ⟨T, hE.com hT⟩⟩ (S.all.put (fun e he => S.all.1 i hi e (by rw [q1] at he; exact he)) fun x hx e he => ?_), updR_n h2⟩
  rcases q2 x hx with h | h
  · exact S.all.1 i hi e (by rw [← h]; exact he)
  · rw [h] at he; cases he
theorem Sys.propose (S : Sys k pn ps R Ls gs ms LN M P C) (hi : i < k) (hp : ps[i]? = some p) {e : En} (hB : ∀ b ∈ e.bs, isB b) (l : List En) (hl : ((R i).propose e).2.2 = 0 → l = [e]) (hr : RepAt p ((R i).propose e).1 LQ) (hN : NetAt pn gs ms' LN') (hin : NetIn ms' (addM M ((R i).propose e).2.1)) :
    Sys k pn ps (updR R i ((R i).propose e).1) (Ls.set i LQ) gs ms' LN' (addM M ((R i).propose e).2.1) (fun y => P y ∨ y ∈ l) C ∧ ∀ j, j < k → (R j).n ≤ (updR R i ((R i).propose e).1 j).n := by
  obtain ⟨G, hG, hC⟩ := S.inv
  obtain ⟨⟨G', hE, h1⟩, h2⟩ := inv_prop hG hi e hB
  obtain ⟨q1, q2⟩ := propose_logs (R i) e
  have hlog : ∀ y ∈ ((R i).propose e).1.log, P y ∨ y ∈ l := by
    intro y hy
    rcases q1 with h | ⟨h0, h⟩
    · exact .inl (S.all.1 i hi y (by rw [h] at hy; exact hy))
    · rw [h] at hy
      rcases List.mem_append.1 hy with hy | hy
      · exact .inl (S.all.1 i hi y hy)
      · exact .inr (by rw [hl h0]; exact hy)
  exact ⟨S.put hp hr hN hin ⟨G', h1, fun y hy => by obtain ⟨T, hT⟩ := hC y hy; exact ⟨T, hE.com hT⟩⟩ ((S.all.mono fun _ h => .inl h).put hlog fun x hx y hy => hlog y (by rw [q2 x hx] at hy; exact hy)), updR_n h2⟩
theorem Sys.recv (S : Sys k pn ps R Ls gs ms LN M P C) {x : Ms} (hx : M x) (hp : ps[x.to]? = some p) (hr : RepAt p ((R x.to).recv x.m x.frm).1 LQ) (hN : NetAt pn gs ms' LN') (hin : NetIn ms' (addM M ((R x.to).recv x.m x.frm).2)) :
    Sys k pn ps (updR R x.to ((R x.to).recv x.m x.frm).1) (Ls.set x.to LQ) gs ms' LN' (addM M ((R x.to).recv x.m x.frm).2) P C ∧ ∀ j, j < k → (R j).n ≤ (updR R x.to ((R x.to).recv x.m x.frm).1 j).n := by
  obtain ⟨G, hG, hC⟩ := S.inv
  have hi : x.to < k := (hG.msg x hx).to
  obtain ⟨⟨G', hE, h1⟩, h2⟩ := inv_recv hG hi hx rfl
  obtain ⟨q1, q2⟩ := recv_logs (R x.to) x.m x.frm
  have hlog : ∀ y ∈ ((R x.to).recv x.m x.frm).1.log, P y := by
    intro y hy
    rcases q1 with h | h
    · exact S.all.1 x.to hi y (by rw [h] at hy; exact hy)
    · exact S.all.2 x hx y (by rw [h] at hy; exact hy)
  refine ⟨S.put hp hr hN hin ⟨G', h1, fun y hy => by obtain ⟨T, hT⟩ := hC y hy; exact ⟨T, hE.com hT⟩⟩ (S.all.put hlog fun z hz y hy => ?_), updR_n h2⟩
  rcases q2 z hz with h | h
  · exact hlog y (by rw [h] at hy; exact hy)
  · rw [h] at hy; cases hy
/-- what play leaves -/
def Played (k pn : Nat) (ps : List Nat) (R : Nat → Rp) (LG : Hp) (P : En → Prop) (C : List En → Prop) (r : Value) (L' : Hp) : Prop :=
  ∃ R' Ls' gs' ms' LN' M' l es LB LP, L' = LG ++ (LN' ++ (Ls'.flatten ++ (LB ++ LP))) ∧ LogAt l r es LB LP ∧ l.length ≤ 1 ∧ Sys k pn ps R' Ls' gs' ms' LN' M' (fun e => P e ∨ e ∈ l) C ∧ ∀ i, i < k → (R i).n ≤ (R' i).n
theorem LogAt.nil : LogAt [] (.slice none 0 0) [] [] [] := ⟨OwnS.nil _ _, nofun, rfl⟩
theorem Sys.weak {P' : En → Prop} (S : Sys k pn ps R Ls gs ms LN M P C) (h : ∀ e, P e → P' e) : Sys k pn ps R Ls gs ms LN M P' C := ⟨S.grp, S.len, S.net, S.gl, S.nin, S.inv, S.all.mono h⟩
theorem Played.none {R' : Nat → Rp} {LG : Hp} (S : Sys k pn ps R' Ls gs ms LN M P C) (hn : ∀ i, i < k → (R i).n ≤ (R' i).n) : Played k pn ps R LG P C (.slice none 0 0) (LG ++ (LN ++ Ls.flatten)) :=
  ⟨R', Ls, gs, ms, LN, M, [], [], [], [], by simp, LogAt.nil, by simp, S.weak fun _ h => .inl h, hn⟩
end
theorem quo_bd (x q : Int) (hq : 0 < q) (hx : -9223372036854775808 ≤ x ∧ x ≤ 9223372036854775807) : -9223372036854775808 ≤ x.tdiv q ∧ x.tdiv q ≤ 9223372036854775807 := by
  by_cases h : 0 ≤ x
  · rw [Int.tdiv_eq_ediv_of_nonneg h]
    have h1 : x / q ≤ x := Int.ediv_le_self _ h
    have h2 : 0 ≤ x / q := Int.ediv_nonneg h (by omega)
    omega
  · obtain ⟨y, rfl⟩ : ∃ y, x = -y := ⟨-x, by omega⟩
    rw [Int.neg_tdiv, Int.tdiv_eq_ediv_of_nonneg (by omega)]
    have h1 : y / q ≤ y := Int.ediv_le_self _ (by omega)
    have h2 : 0 ≤ y / q := Int.ediv_nonneg (by omega) (by omega)
    omega
end Go.Proofs.Ytkobigdfijeajaa
