/- The net's methods as play uses them. -/
import Derived.Test.YtkobigdfijeajaaRqD
set_option linter.unusedVariables false
set_option linter.unusedSimpArgs false
namespace Go.Proofs.Ytkobigdfijeajaa
open Go.SL
section
variable {k pn : Nat} {ps : List Nat} {R : Nat → Rp} {Ls : List Hp} {gs : List Int} {ms ms' : List Msg} {LN LN' LQ : Hp} {M : Ms → Prop} {P : En → Prop} {C : List En → Prop} {i p : Nat}
theorem updR_n {r : Rp} (h : (R i).n ≤ r.n) : ∀ j, j < k → (R j).n ≤ (updR R i r j).n := fun j _ => by
  by_cases hj : j = i
  · rw [hj, updR_a]; exact h
  · rw [updR_o r hj]; exact Nat.le_refl _
theorem Sys.elect (S : Sys k pn ps R Ls gs ms LN M P C) (hi : i < k) (hp : ps[i]? = some p) (t : Int) (hr : RepAt p ((R i).elect t).1 LQ) (hN : NetAt pn gs ms' LN') (hin : NetIn ms' (addM M ((R i).elect t).2.1)) :
    Sys k pn ps (updR R i ((R i).elect t).1) (Ls.set i LQ) gs ms' LN' (addM M ((R i).elect t).2.1) P C ∧ ∀ j, j < k → (R j).n ≤ (updR R i ((R i).elect t).1 j).n := by
  obtain ⟨G, hG, hC⟩ := S.inv
  obtain ⟨⟨G', hE, h1⟩, h2⟩ := inv_elect hG hi t
  obtain ⟨q1, q2⟩ := elect_logs (R i) t
  refine ⟨S.put hp hr hN hin ⟨G', h1, fun y hy => by obtain ⟨T, hT⟩ := hC y hy; exact ⟨T, hE.com hT⟩⟩ (S.all.put (fun e he => S.all.1 i hi e (by rw [q1] at he; exact he)) fun x hx e he => ?_), updR_n h2⟩
  rcases q2 x hx with h | h
  · exact S.all.1 i hi e (by rw [← h]; exact he)
  · rw [h] at he; cases he
theorem Sys.propose (S : Sys k pn ps R Ls gs ms LN M P C) (hi : i < k) (hp : ps[i]? = some p) {e : En} (hB : ∀ b ∈ e.bs, isB b) (l : List En) (hl : ((R i).propose e).2.2 = 0 → l = [e]) (hr : RepAt p ((R i).propose e).1 LQ) (hN : NetAt pn gs ms' LN') (hin : NetIn ms' (addM M ((R i).propose e).2.1)) :
    Sys k pn ps (updR R i ((R i).propose e).1) (Ls.set i LQ) gs ms' LN' (addM M ((R i).propose e).2.1) (fun y => P y ∨ y ∈ l) C ∧ ∀ j, j < k → (R j).n ≤ (updR R i ((R i).propose e).1 j).n := by
  obtain ⟨G, hG, hC⟩ := S.inv
  obtain ⟨⟨G', hE, h1⟩, h2⟩ := inv_prop hG hi e hB
  obtain ⟨q1, q2⟩ := propose_logs (R i) e
  have hlog : ∀ y ∈ ((R i).propose e).1.log, P y ∨ y ∈ l := by
    intro y hy
    rcases q1 with h | ⟨h0, h⟩
    · exact .inl (S.all.1 i hi y (by rw [h] at hy; exact hy))
    · rw [h] at hy
      rcases List.mem_append.1 hy with hy | hy
      · exact .inl (S.all.1 i hi y hy)
      · exact .inr (by rw [hl h0]; exact hy)
  exact ⟨S.put hp hr hN hin ⟨G', h1, fun y hy => by obtain ⟨T, hT⟩ := hC y hy; exact ⟨T, hE.com hT⟩⟩ ((S.all.mono fun _ h => .inl h).put hlog fun x hx y hy => hlog y (by rw [q2 x hx] at hy; exact hy)), updR_n h2⟩
theorem Sys.recv (S : Sys k pn ps R Ls gs ms LN M P C) {x : Ms} (hx : M x) (hp : ps[x.to]? = some p) (hr : RepAt p ((R x.to).recv x.m x.frm).1 LQ) (hN : NetAt pn gs ms' LN') (hin : NetIn ms' (addM M ((R x.to).recv x.m x.frm).2)) :
    Sys k pn ps (updR R x.to ((R x.to).recv x.m x.frm).1) (Ls.set x.to LQ) gs ms' LN' (addM M ((R x.to).recv x.m x.frm).2) P C ∧ ∀ j, j < k → (R j).n ≤ (updR R x.to ((R x.to).recv x.m x.frm).1 j).n := by
  obtain ⟨G, hG, hC⟩ := S.inv
  have hi : x.to < k := (hG.msg x hx).to
  obtain ⟨⟨G', hE, h1⟩, h2⟩ := inv_recv hG hi hx rfl
  obtain ⟨q1, q2⟩ := recv_logs (R x.to) x.m x.frm
  have hlog : ∀ y ∈ ((R x.to).recv x.m x.frm).1.log, P y := by
    intro y hy
    rcases q1 with h | h
    · exact S.all.1 x.to hi y (by rw [h] at hy; exact hy)
    · exact S.all.2 x hx y (by rw [h] at hy; exact hy)
  refine ⟨S.put hp hr hN hin ⟨G', h1, fun y hy => by obtain ⟨T, hT⟩ := hC y hy; exact ⟨T, hE.com hT⟩⟩ (S.all.put hlog fun z hz y hy => ?_), updR_n h2⟩
  rcases q2 z hz with h | h
  · exact hlog y (by rw [h] at hy; exact hy)
  · rw [h] at hy; cases hy
/-- what play leaves -/
def Played (k pn : Nat) (ps : List Nat) (R : Nat → Rp) (LG : Hp) (P : En → Prop) (C : List En → Prop) (r : Value) (L' : Hp) : Prop :=
  ∃ R' Ls' gs' ms' LN' M' l es LB LP, L' = LG ++ (LN' ++ (Ls'.flatten ++ (LB ++ LP))) ∧ LogAt l r es LB LP ∧ l.length ≤ 1 ∧ Sys k pn ps R' Ls' gs' ms' LN' M' (fun e => P e ∨ e ∈ l) C ∧ ∀ i, i < k → (R i).n ≤ (R' i).n
theorem LogAt.nil : LogAt [] (.slice none 0 0) [] [] [] := ⟨OwnS.nil _ _, nofun, rfl⟩
theorem Sys.weak {P' : En → Prop} (S : Sys k pn ps R Ls gs ms LN M P C) (h : ∀ e, P e → P' e) : Sys k pn ps R Ls gs ms LN M P' C := ⟨S.grp, S.len, S.net, S.gl, S.nin, S.inv, S.all.mono h⟩
theorem Played.none {R' : Nat → Rp} {LG : Hp} (S : Sys k pn ps R' Ls gs ms LN M P C) (hn : ∀ i, i < k → (R i).n ≤ (R' i).n) : Played k pn ps R LG P C (.slice none 0 0) (LG ++ (LN ++ Ls.flatten)) :=
  ⟨R', Ls, gs, ms, LN, M, [], [], [], [], by simp, LogAt.nil, by simp, S.weak fun _ h => .inl h, hn⟩
end
theorem quo_bd (x q : Int) (hq : 0 < q) (hx : -9223372036854775808 ≤ x ∧ x ≤ 9223372036854775807) : -9223372036854775808 ≤ x.tdiv q ∧ x.tdiv q ≤ 9223372036854775807 := by
  by_cases h : 0 ≤ x
  · rw [Int.tdiv_eq_ediv_of_nonneg h]
    have h1 : x / q ≤ x := Int.ediv_le_self _ h
    have h2 : 0 ≤ x / q := Int.ediv_nonneg h (by omega)
    omega
  · obtain ⟨y, rfl⟩ : ∃ y, x = -y := ⟨-x, by omega⟩
    rw [Int.neg_tdiv, Int.tdiv_eq_ediv_of_nonneg (by omega)]
    have h1 : y / q ≤ y := Int.ediv_le_self _ (by omega)
    have h2 : 0 ≤ y / q := Int.ediv_nonneg (by omega) (by omega)
    omega
end Go.Proofs.Ytkobigdfijeajaa

/- play: one event. -/
namespace Go.Proofs.Ytkobigdfijeajaa
open Go.SL
theorem i64s_set (cs : List Int) (i : Nat) (z : Int) : (i64s cs).set i (.int .i64 z) = i64s (cs.set i z) := by simp [i64s, List.map_set]
theorem perm_r {A L X : Hp} (h : A.Perm (L ++ X)) (Y : Hp) : (A ++ Y).Perm (L ++ (X ++ Y)) := by have := h.append_right Y; simpa using this
structure PlG where
  i : Nat
  cs : List Int
end Go.Proofs.Ytkobigdfijeajaa

/- LeaseAgrees: plains, known, Prefix. -/
namespace Go.SL
theorem Sl.addr {w : World} {a : Option Addr} {m n c : Nat} {cs : List Value} (h : Sl w (.slice a m c) n cs) (hne : 0 < cs.length) : ∃ b o, a = some ⟨b, o, none⟩ ∧ ∀ j u, cs[j]? = some u → w.cell? ⟨b, o + j, none⟩ = some u := by
  obtain ⟨a', c', he, _, h2⟩ := h
  cases he
  rcases h2 with h2 | h2
  · rw [h2] at hne; exact absurd hne (by simp)
  · exact h2
end Go.SL
namespace Go.Proofs.Ytkobigdfijeajaa
open Go.SL
/-- an element of a slice of entries that is only read -/
structure EmAt (w0 : World) (a : Option Addr) (es : List Em) (i : Nat) (x : Em) (gb go : Nat) (xa : Option Addr) (xc : Nat) : Prop where
  at_ : es[i]? = some x
  adr : a = some ⟨gb, go, none⟩
  v : x.v = .slice xa x.e.bs.length xc
  cell : ∀ j u, j < 6 → x.cells[j]? = some u → w0.cell? ⟨gb, go + i * 6 + j, none⟩ = some u
  blk : gb < w0.heap.size
  sl : Sl w0 (.slice xa x.e.bs.length xc) x.e.bs.length (u8s x.e.bs)
  tk : es.take (i + 1) = es.take i ++ [x]
theorem emAt {w0 : World} {a : Option Addr} {c : Nat} {es : List Em} {LR : Hp} (hv : Sl w0 (.slice a es.length c) es.length (emcells es)) (hin : EmsIn es LR) (hR : ∀ q ∈ LR, w0.heap[q.1]? = some q.2) {i : Nat} (hi : i < es.length) : ∃ x gb go xa xc, EmAt w0 a es i x gb go xa xc := by
  have hxi : es[i]? = some es[i] := List.getElem?_eq_getElem hi
  have hmem : es[i] ∈ es := List.getElem_mem hi
  have htk : es.take (i + 1) = es.take i ++ [es[i]] := List.take_succ_eq_append_getElem hi
  generalize es[i] = x at hxi hmem htk
  obtain ⟨_, xc, xa, hxe, hxl⟩ := (hin x hmem).form w0 hR
  have hsl := (hin x hmem).sl w0 hR
  rw [hxe] at hsl
  subst hxl
  have hcc := fun j (u : Value) (hj : j < 6) hu => flat_at' (c := Em.cells) (xs := es) (sp := []) (i := i) (j := j) (u := u) Em.cells_length hj hxi hu
  have hlen := emcells_length es
  obtain ⟨gb, go, rfl, hcl⟩ := hv.addr (by rw [hlen]; omega)
  have hq : ∀ j u, j < 6 → x.cells[j]? = some u → w0.cell? ⟨gb, go + i * 6 + j, none⟩ = some u := fun j u hj hu => by
    have h1 := hcl (i * 6 + j) u (by have := hcc j u hj hu; rw [List.append_nil, Nat.zero_add] at this; exact this)
    rw [show go + i * 6 + j = go + (i * 6 + j) from by omega]; exact h1
  exact ⟨x, gb, go, xa, xc, hxi, rfl, hxe, hq, World.block_lt_of_cell? w0 _ (hq 0 _ (by omega) rfl), hsl, htk⟩
theorem EmAt.now {w0 w : World} {a : Option Addr} {es : List Em} {i : Nat} {x : Em} {gb go : Nat} {xa : Option Addr} {xc : Nat} {L : Hp} (h : EmAt w0 a es i x gb go xa xc) (hs : St [] w0 w L) (j : Nat) (u : Value) (hj : j < 6) (hu : x.cells[j]? = some u) : w.cell? ⟨gb, go + i * 6 + j, none⟩ = some u :=
  (hs.oldcell (a := ⟨gb, go + i * 6 + j, none⟩) h.blk (by simp)).trans (h.cell j u hj hu)
structure PnS where
  i : Nat
  v : Value
  LB : Hp
set_option maxHeartbeats 2000000 in
theorem plains_ok (v : Value) (es : List Em) (LR : Hp) (w0 : World) (hv : Sl w0 v es.length (emcells es)) (hin : EmsIn es LR) (hR : ∀ q ∈ LR, w0.heap[q.1]? = some q.2) (hl : es.length ≤ 1000) :
    Ret Try.prog 34 [v].toArray w0 fun r w' => ∃ LB, OwnS 52 6 r es.length (emcells es) LB ∧ St [] w0 w' LB := by
  obtain ⟨a, c, rfl, hac⟩ := hv.len_le
  refine Ret_start fun w hs => ?_
  refine Ret_of Try.func34 rfl Try.ntmps34 rfl ?_
  refine W_seq ?_
  refine W_region ?_
  refine s_assign rfl rfl ?_
  refine WL_nil ?_
  refine n_then ?_
  refine W_seq ?_
  refine W_region ?_
  refine s_assign rfl rfl ?_
  refine WL_nil ?_
  refine n_then ?_
  refine W_seq ?_
  refine W_seq ?_
  refine W_region ?_
  refine s_assign rfl rfl ?_
  refine WL_nil ?_
  refine n_then ?_
  refine W_block ?_
  refine W_loop (σ := PnS) (fun s => [(0, .slice a es.length c), (3, s.v), (4, .int .i64 (s.i : Int))])
    (fun s w => St [] w0 w s.LB ∧ OwnS 52 6 s.v s.i (emcells (es.take s.i)) s.LB ∧ s.i ≤ es.length) (fun s => es.length - s.i) ⟨0, .slice none 0 0, []⟩ ⟨rfl, rfl, rfl, trivial⟩ ⟨hs, OwnS.nil _ _, Nat.zero_le _⟩ ?_
  clear hs
  rintro ⟨i, pv, LB⟩ w ⟨hs, hO, hi⟩
  simp only at hs hO hi ⊢
  refine W_seq ?_
  refine W_seq ?_
  refine W_region ?_
  refine s_move rfl rfl ?_
  refine s_move rfl rfl ?_
  refine s_len rfl rfl (LN43 _ _ _ _) ?_
  refine s_lss rfl rfl rfl ?_
  refine WL_nil ?_
  refine n_then ?_
  refine W_cond rfl (fun hc8 => ?_) (fun hc8 => ?_)
  · skip
    try simp only [decide_eq_true_eq, decide_eq_false_iff_not] at hc8
    have hil : i < es.length := by omega
    obtain ⟨x, gb, go, xa, xc, hx⟩ := emAt hv hin hR hil
    obtain rfl := hx.adr
    have hxe := hx.v
    have htk := hx.tk
    refine W_skip ?_
    refine n_then ?_
    refine W_seq ?_
    refine W_block ?_
    refine W_region ?_
    refine s_move rfl rfl ?_
    refine s_move rfl rfl ?_
    refine s_move rfl rfl ?_
    (refine s_indexAddr El43 rfl rfl rfl ?hx ?_; case hx => (constructor <;> first | omega | (simp; omega)))
    refine s_load_6 Try.isAgg35 Try.sizeOf35 rfl rfl (hx.now hs 0 _ (by omega) rfl) (hx.now hs 1 _ (by omega) rfl) (hx.now hs 2 _ (by omega) rfl) (hx.now hs 3 _ (by omega) rfl) (hx.now hs 4 _ (by omega) rfl) (hx.now hs 5 _ (by omega) rfl) ?_
    rw [hxe]
    refine s_call Try.call62 rfl rfl (plain_ok x.e.g x.e.x xa x.e.bs.length xc w) ?_
    rintro r w ⟨hst, rfl⟩
    replace hs := hs.fwd1 hst
    clear hst
    refine s_buildSlice rfl rfl (BS69_1 _ _ _ _ _ _) hs ?_; clear hs; intro b17 w hs
    refine s_appendM (M := [_]) (X := []) El69 rfl rfl rfl hO (by simpa using hs) (hs.sl (k := 0) (ds := [_, _, _, _, _, _]) rfl (Nat.le_refl _) (by intro j u hj; rw [Nat.zero_add]; exact hj)) rfl (by simp [Value.oneCell']) (by omega) ?_
    clear hs hO; intro v' w LB' hO hs
    replace hs : St [] w0 w LB' := by have h9 := hs.tail; rw [List.append_nil] at h9; exact h9
    refine s_assign rfl rfl ?_
    refine WL_nil ?_
    refine n_blk ?_
    refine n_then ?_
    refine W_region ?_
    refine s_move rfl rfl ?_
    first | (refine s_add' rfl rfl rfl ?hx ?_; case hx => (constructor <;> first | omega | (simp only; omega)))
    refine s_assign rfl rfl ?_
    refine WL_nil ?_
    refine n_loop ?_
    refine ⟨⟨i + 1, v', LB'⟩, ⟨rfl, rfl, rfl, trivial⟩, ⟨hs, ?_, by simp only; omega⟩, by simp only; omega⟩
    show OwnS 52 6 v' (i + 1) (emcells (es.take (i + 1))) LB'
    rw [htk, emcells_append]
    simpa [emcells, Em.cells, hxe] using hO
  · skip
    try simp only [decide_eq_true_eq, decide_eq_false_iff_not] at hc8
    refine W_exit ?_
    refine x_then ?_
    refine x_then ?_
    refine exit_hit ?_
    refine n_then ?_
    refine W_seq ?_
    refine W_region ?_
    refine s_move rfl rfl ?_
    refine s_assign rfl rfl ?_
    refine WL_nil ?_
    refine n_then ?_
    refine W_ret ?_
    obtain rfl : i = es.length := by omega
    rw [List.take_length] at hO
    exact end1 rfl rfl ⟨LB, hO, hs⟩
structure KnS where
  j : Nat
  b : Bool
set_option maxHeartbeats 2000000 in
theorem prefix_ok (va vb : Value) (xs ys : List Em) (LA LB : Hp) (w0 : World) (ha : Sl w0 va xs.length (emcells xs)) (hb : Sl w0 vb ys.length (emcells ys)) (hia : EmsIn xs LA) (hib : EmsIn ys LB) (hA : ∀ q ∈ LA, w0.heap[q.1]? = some q.2) (hB : ∀ q ∈ LB, w0.heap[q.1]? = some q.2) (hl : xs.length ≤ 1000) (hok : ∀ x ∈ xs, x.e.bs.length ≤ 1000000) (hp : ens xs <+: ens ys) :
    Ret Try.prog 36 [va, vb].toArray w0 fun r w' => Fwd [] w0 w' ∧ r = .bool true := by
  obtain ⟨a, c, rfl, hac⟩ := ha.len_le
  obtain ⟨b, d, rfl, hbd⟩ := hb.len_le
  have hlen : xs.length ≤ ys.length := by have := hp.length_le; rw [ens_length, ens_length] at this; exact this
  refine Ret_start fun w hs => ?_
  refine Ret_of Try.func36 rfl Try.ntmps36 rfl ?_
  refine W_seq ?_
  refine W_region ?_
  refine s_assign rfl rfl ?_
  refine WL_nil ?_
  refine n_then ?_
  refine W_seq ?_
  refine W_seq ?_
  refine W_region ?_
  refine s_move rfl rfl ?_
  refine s_len rfl rfl (LN69 _ _ _ _) ?_
  refine s_move rfl rfl ?_
  refine s_len rfl rfl (LN69 _ _ _ _) ?_
  refine s_gtr rfl rfl rfl ?_
  refine WL_nil ?_
  refine n_then ?_
  refine W_cond_kf rfl ((by simp; omega)) ?_
  refine W_skip ?_
  refine n_then ?_
  refine W_seq ?_
  refine W_seq ?_
  refine W_region ?_
  refine s_assign rfl rfl ?_
  refine WL_nil ?_
  refine n_then ?_
  refine W_block ?_
  refine W_loop (σ := Nat) (fun i => [(0, .slice a xs.length c), (1, .slice b ys.length d), (5, .int .i64 (i : Int))])
    (fun i w => St [] w0 w [] ∧ i ≤ xs.length) (fun i => xs.length - i) 0 ⟨rfl, rfl, rfl, trivial⟩ ⟨hs, Nat.zero_le _⟩ ?_
  clear hs
  rintro i w ⟨hs, hi⟩
  refine W_seq ?_
  refine W_seq ?_
  refine W_region ?_
  refine s_move rfl rfl ?_
  refine s_move rfl rfl ?_
  refine s_len rfl rfl (LN69 _ _ _ _) ?_
  refine s_lss rfl rfl rfl ?_
  refine WL_nil ?_
  refine n_then ?_
  refine W_cond rfl (fun hc14 => ?_) (fun hc14 => ?_)
  · skip
    try simp only [decide_eq_true_eq, decide_eq_false_iff_not] at hc14
    have hil : i < xs.length := by omega
    obtain ⟨x, gb, go, xa, xc, hx⟩ := emAt ha hia hA hil
    obtain rfl := hx.adr
    have hxe := hx.v
    have hxo := hok x (List.mem_of_getElem? hx.at_)
    obtain ⟨y, hgb, hgo, ya, yc, hy⟩ := emAt hb hib hB (show i < ys.length by omega)
    obtain rfl := hy.adr
    have hye := hy.v
    have hxy : x.e = y.e := by
      obtain ⟨t, ht⟩ := hp
      have h1 : (ens xs)[i]? = some x.e := by rw [ens, List.getElem?_map, hx.at_]; rfl
      have h2 : (ens ys)[i]? = some y.e := by rw [ens, List.getElem?_map, hy.at_]; rfl
      rw [← ht, List.getElem?_append_left (by rw [ens_length]; exact hil), h1] at h2
      exact Option.some.inj h2
    refine W_skip ?_
    refine n_then ?_
    refine W_seq ?_
    refine W_block ?_
    refine W_seq ?_
    refine W_draw [(0, true, []), (1, true, []), (2, true, []), (3, true, []), (4, true, []), (5, true, []), (6, true, []), (7, true, []), (8, false, []), (9, true, [])] [[], [], [0, 1], [0, 1, 2], [], [], [4, 5], [4, 5, 6], [0, 1, 2, 3, 4, 5, 6, 7], [0, 1, 2, 3, 4, 5, 6, 7, 8]] MX (by kernel_rfl) ?_
    intro w1 hw1 hw2 hw3 hw4; replace hs := hs.redrawn hw1 hw2 hw3 hw4; clear hw1 hw2 hw3 hw4
    obtain ⟨w, rfl⟩ : ∃ w : World, w = w1 := ⟨_, rfl⟩
    refine D_q rfl rfl ?_
    refine s_move rfl rfl ?_
    refine D_qn ?_
    refine D_q rfl rfl ?_
    refine s_move rfl rfl ?_
    refine D_qn ?_
    refine D_q rfl rfl ?_
    (refine s_indexAddr El69 rfl rfl rfl ?hx ?_; case hx => (constructor <;> first | omega | (simp; omega)))
    refine D_qn ?_
    refine D_q rfl rfl ?_
    refine s_load_6 Try.isAgg52 Try.sizeOf52 rfl rfl (hx.now hs 0 _ (by omega) rfl) (hx.now hs 1 _ (by omega) rfl) (hx.now hs 2 _ (by omega) rfl) (hx.now hs 3 _ (by omega) rfl) (hx.now hs 4 _ (by omega) rfl) (hx.now hs 5 _ (by omega) rfl) ?_
    rw [hxe]
    refine D_qn ?_
    refine D_q rfl rfl ?_
    refine s_move rfl rfl ?_
    refine D_qn ?_
    refine D_q rfl rfl ?_
    refine s_move rfl rfl ?_
    refine D_qn ?_
    refine D_q rfl rfl ?_
    (refine s_indexAddr El69 rfl rfl rfl ?hx ?_; case hx => (constructor <;> first | omega | (simp; omega)))
    refine D_qn ?_
    refine D_q rfl rfl ?_
    refine s_load_6 Try.isAgg52 Try.sizeOf52 rfl rfl (hy.now hs 0 _ (by omega) rfl) (hy.now hs 1 _ (by omega) rfl) (hy.now hs 2 _ (by omega) rfl) (hy.now hs 3 _ (by omega) rfl) (hy.now hs 4 _ (by omega) rfl) (hy.now hs 5 _ (by omega) rfl) ?_
    rw [hye]
    refine D_qn ?_
    refine D_e rfl ?_
    refine s_call Try.call63 rfl rfl (same_ok x.e.g y.e.g x.e.x y.e.x _ _ x.e.bs y.e.bs w (hx.sl.fwd0 hs.fwd) (hy.sl.fwd0 hs.fwd) (by omega)) ?_
    rintro r w ⟨hst, rfl⟩
    replace hs := hs.fwd1 hst
    clear hst
    refine D_en ?re ?_
    case re =>
      exact Reks_nil
    refine D_q rfl rfl ?_
    refine s_not rfl rfl ?_
    refine D_qn ?_
    refine D_nil ?_
    refine n_then ?_
    refine W_cond_kf rfl ((by simp [hxy])) ?_
    refine W_skip ?_
    refine n_blk ?_
    refine n_then ?_
    refine W_region ?_
    refine s_move rfl rfl ?_
    first | (refine s_add' rfl rfl rfl ?hx ?_; case hx => (constructor <;> first | omega | (simp only; omega)))
    refine s_assign rfl rfl ?_
    refine WL_nil ?_
    refine n_loop ?_
    exact ⟨i + 1, ⟨rfl, rfl, rfl, trivial⟩, ⟨hs, by omega⟩, by omega⟩
  · skip
    try simp only [decide_eq_true_eq, decide_eq_false_iff_not] at hc14
    refine W_exit ?_
    refine x_then ?_
    refine x_then ?_
    refine exit_hit ?_
    refine n_then ?_
    refine W_seq ?_
    refine W_region ?_
    refine s_assign rfl rfl ?_
    refine WL_nil ?_
    refine n_then ?_
    refine W_ret ?_
    exact end1 rfl rfl ⟨hs.fwd, rfl⟩
end Go.Proofs.Ytkobigdfijeajaa
