/- LeaseAgrees: plains, known, Prefix. -/
import Derived.Test.YtkobigdfijeajaaRqF
set_option linter.unusedVariables false
set_option linter.unusedSimpArgs false
namespace Go.SL
theorem Sl.addr {w : World} {a : Option Addr} {m n c : Nat} {cs : List Value} (h : Sl w (.slice a m c) n cs) (hne : 0 < cs.length) : ∃ b o, a = some ⟨b, o, none⟩ ∧ ∀ j u, cs[j]? = some u → w.cell? ⟨b, o + j, none⟩ = some u := by
  obtain ⟨a', c', he, _, h2⟩ := h
  cases he
  rcases h2 with h2 | h2
  · rw [h2] at hne; exact absurd hne (by simp)
  · exact h2
end Go.SL
namespace Go.Proofs.Ytkobigdfijeajaa
open Go.SL
/-- an element of a slice of entries that is only read -/
structure EmAt (w0 : World) (a : Option Addr) (es : List Em) (i : Nat) (x : Em) (gb go : Nat) (xa : Option Addr) (xc : Nat) : Prop where
  at_ : es[i]? = some x
  adr : a = some ⟨gb, go, none⟩
  v : x.v = .slice xa x.e.bs.length xc
  cell : ∀ j u, j < 6 → x.cells[j]? = some u → w0.cell? ⟨gb, go + i * 6 + j, none⟩ = some u
  blk : gb < w0.heap.size
  sl : Sl w0 (.slice xa x.e.bs.length xc) x.e.bs.length (u8s x.e.bs)
  tk : es.take (i + 1) = es.take i ++ [x]
theorem emAt {w0 : World} {a : Option Addr} {c : Nat} {es : List Em} {LR : Hp} (hv : Sl w0 (.slice a es.length c) es.length (emcells es)) (hin : EmsIn es LR) (hR : ∀ q ∈ LR, w0.heap[q.1]? = some q.2) {i : Nat} (hi : i < es.length) : ∃ x gb go xa xc, EmAt w0 a es i x gb go xa xc := by
  have hxi : es[i]? = some es[i] := List.getElem?_eq_getElem hi
  have hmem : es[i] ∈ es := List.getElem_mem hi
  have htk : es.take (i + 1) = es.take i ++ [es[i]] := List.take_succ_eq_append_getElem hi
  generalize es[i] = x at hxi hmem htk
  obtain ⟨_, xc, xa, hxe, hxl⟩ := (hin x hmem).form w0 hR
  have hsl := (hin x hmem).sl w0 hR
  rw [hxe] at hsl
  subst hxl
  have hcc := fun j (u : Value) (hj : j < 6) hu => flat_at' (c := Em.cells) (xs := es) (sp := []) (i := i) (j := j) (u := u) Em.cells_length hj hxi hu
  have hlen := emcells_length es
  obtain ⟨gb, go, rfl, hcl⟩ := hv.addr (by rw [hlen]; omega)
  have hq : ∀ j u, j < 6 → x.cells[j]? = some u → w0.cell? ⟨gb, go + i * 6 + j, none⟩ = some u := fun j u hj hu => by
    have h1 := hcl (i * 6 + j) u (by have := hcc j u hj hu; rw [List.append_nil, Nat.zero_add] at this; exact this)
    rw [show go + i * 6 + j = go + (i * 6 + j) from by omega]; exact h1
  exact ⟨x, gb, go, xa, xc, hxi, rfl, hxe, hq, World.block_lt_of_cell? w0 _ (hq 0 _ (by omega) rfl), hsl, htk⟩
theorem EmAt.now {w0 w : World} {a : Option Addr} {es : List Em} {i : Nat} {x : Em} {gb go : Nat} {xa : Option Addr} {xc : Nat} {L : Hp} (h : EmAt w0 a es i x gb go xa xc) (hs : St [] w0 w L) (j : Nat) (u : Value) (hj : j < 6) (hu : x.cells[j]? = some u) : w.cell? ⟨gb, go + i * 6 + j, none⟩ = some u :=
  (hs.oldcell (a := ⟨gb, go + i * 6 + j, none⟩) h.blk (by simp)).trans (h.cell j u hj hu)
/-- committed lists: comparable, of known entries -/
theorem Sys.note {k pn : Nat} {ps : List Nat} {R : Nat → Rp} {Ls : List Hp} {gs : List Int} {ms : List Msg} {LN : Hp} {M : Ms → Prop} {P : En → Prop} {C : List En → Prop} (S : Sys k pn ps R Ls gs ms LN M P C) {j : Nat} (hj : j < k) : Sys k pn ps R Ls gs ms LN M P (fun l => l = (R j).log.take (R j).n) := by
  obtain ⟨G, hG, _⟩ := S.inv
  exact ⟨S.grp, S.len, S.net, S.gl, S.nin, ⟨G, hG, fun l hl => by have h1 := (hG.rep j hj).com; rw [← (show l = _ from hl)] at h1; exact ⟨_, h1⟩⟩, S.all⟩
theorem Sys.cmp {k pn : Nat} {ps : List Nat} {R : Nat → Rp} {Ls : List Hp} {gs : List Int} {ms : List Msg} {LN : Hp} {M : Ms → Prop} {P : En → Prop} {C : List En → Prop} (S : Sys k pn ps R Ls gs ms LN M P C) {j : Nat} (hj : j < k) {l : List En} (hl : C l) : l <+: (R j).log.take (R j).n ∨ (R j).log.take (R j).n <+: l := by
  obtain ⟨G, hG, hC⟩ := S.inv
  obtain ⟨T, hT⟩ := hC l hl
  exact com_cmp hG hT (hG.rep j hj).com
structure PnS where
  i : Nat
  v : Value
  LB : Hp
set_option maxHeartbeats 2000000 in
theorem plains_ok (v : Value) (es : List Em) (LR : Hp) (w0 : World) (hv : Sl w0 v es.length (emcells es)) (hin : EmsIn es LR) (hR : ∀ q ∈ LR, w0.heap[q.1]? = some q.2) (hl : es.length ≤ 1000) :
    Ret Try.prog 34 [v].toArray w0 fun r w' => ∃ LB, OwnS 52 6 r es.length (emcells es) LB ∧ St [] w0 w' LB := by
  obtain ⟨a, c, rfl, hac⟩ := hv.len_le
  refine Ret_start fun w hs => ?_
  refine Ret_of Try.func34 rfl Try.ntmps34 rfl ?_
  refine W_seq ?_
  refine W_region ?_
  refine s_assign rfl rfl ?_
  refine WL_nil ?_
  refine n_then ?_
  refine W_seq ?_
  refine W_region ?_
  refine s_assign rfl rfl ?_
  refine WL_nil ?_
  refine n_then ?_
  refine W_seq ?_
  refine W_seq ?_
  refine W_region ?_
  refine s_assign rfl rfl ?_
  refine WL_nil ?_
  refine n_then ?_
  refine W_block ?_
  refine W_loop (σ := PnS) (fun s => [(0, .slice a es.length c), (3, s.v), (4, .int .i64 (s.i : Int))])
    (fun s w => St [] w0 w s.LB ∧ OwnS 52 6 s.v s.i (emcells (es.take s.i)) s.LB ∧ s.i ≤ es.length) (fun s => es.length - s.i) ⟨0, .slice none 0 0, []⟩ ⟨rfl, rfl, rfl, trivial⟩ ⟨hs, OwnS.nil _ _, Nat.zero_le _⟩ ?_
  clear hs
  rintro ⟨i, pv, LB⟩ w ⟨hs, hO, hi⟩
  simp only at hs hO hi ⊢
  refine W_seq ?_
  refine W_seq ?_
  refine W_region ?_
  refine s_move rfl rfl ?_
  refine s_move rfl rfl ?_
  refine s_len rfl rfl (LN43 _ _ _ _) ?_
  refine s_lss rfl rfl rfl ?_
  refine WL_nil ?_
  refine n_then ?_
  refine W_cond rfl (fun hc8 => ?_) (fun hc8 => ?_)
  · skip
    try simp only [decide_eq_true_eq, decide_eq_false_iff_not] at hc8
    have hil : i < es.length := by omega
    obtain ⟨x, gb, go, xa, xc, hx⟩ := emAt hv hin hR hil
    obtain rfl := hx.adr
    have hxe := hx.v
    have htk := hx.tk
    refine W_skip ?_
    refine n_then ?_
    refine W_seq ?_
    refine W_block ?_
    refine W_region ?_
    refine s_move rfl rfl ?_
    refine s_move rfl rfl ?_
    refine s_move rfl rfl ?_
    (refine s_indexAddr El43 rfl rfl rfl ?hx ?_; case hx => (constructor <;> first | omega | (simp; omega)))
    refine s_load_6 Try.isAgg35 Try.sizeOf35 rfl rfl (hx.now hs 0 _ (by omega) rfl) (hx.now hs 1 _ (by omega) rfl) (hx.now hs 2 _ (by omega) rfl) (hx.now hs 3 _ (by omega) rfl) (hx.now hs 4 _ (by omega) rfl) (hx.now hs 5 _ (by omega) rfl) ?_
    rw [hxe]
    refine s_call Try.call62 rfl rfl (plain_ok x.e.g x.e.x xa x.e.bs.length xc w) ?_
    rintro r w ⟨hst, rfl⟩
    replace hs := hs.fwd1 hst
    clear hst
    refine s_buildSlice rfl rfl (BS69_1 _ _ _ _ _ _) hs ?_; clear hs; intro b17 w hs
    refine s_appendM (M := [_]) (X := []) El69 rfl rfl rfl hO (by simpa using hs) (hs.sl (k := 0) (ds := [_, _, _, _, _, _]) rfl (Nat.le_refl _) (by intro j u hj; rw [Nat.zero_add]; exact hj)) rfl (by simp [Value.oneCell']) (by omega) ?_
    clear hs hO; intro v' w LB' hO hs
    replace hs : St [] w0 w LB' := by have h9 := hs.tail; rw [List.append_nil] at h9; exact h9
    refine s_assign rfl rfl ?_
    refine WL_nil ?_
    refine n_blk ?_
    refine n_then ?_
    refine W_region ?_
    refine s_move rfl rfl ?_
    first | (refine s_add' rfl rfl rfl ?hx ?_; case hx => (constructor <;> first | omega | (simp only; omega))) | refine s_add rfl rfl rfl ?_
    refine s_assign rfl rfl ?_
    refine WL_nil ?_
    refine n_loop ?_
    refine ⟨⟨i + 1, v', LB'⟩, ⟨rfl, rfl, rfl, trivial⟩, ⟨hs, ?_, by simp only; omega⟩, by simp only; omega⟩
    show OwnS 52 6 v' (i + 1) (emcells (es.take (i + 1))) LB'
    rw [htk, emcells_append]
    simpa [emcells, Em.cells, hxe] using hO
  · skip
    try simp only [decide_eq_true_eq, decide_eq_false_iff_not] at hc8
    refine W_exit ?_
    refine x_then ?_
    refine x_then ?_
    refine exit_hit ?_
    refine n_then ?_
    refine W_seq ?_
    refine W_region ?_
    refine s_move rfl rfl ?_
    refine s_assign rfl rfl ?_
    refine WL_nil ?_
    refine n_then ?_
    refine W_ret ?_
    obtain rfl : i = es.length := by omega
    rw [List.take_length] at hO
    exact end1 rfl rfl ⟨LB, hO, hs⟩
theorem ens_take_mem {es : List Em} {i : Nat} {x : Em} (h : es.take (i + 1) = es.take i ++ [x]) : ens (es.take (i + 1)) = ens (es.take i) ++ [x.e] := by rw [h, ens_append]; rfl
structure KnS where
  j : Nat
  b : Bool
set_option maxHeartbeats 2000000 in
theorem known_ok (va vb : Value) (xs ys : List Em) (LA LB : Hp) (w0 : World) (ha : Sl w0 va xs.length (emcells xs)) (hb : Sl w0 vb ys.length (emcells ys)) (hia : EmsIn xs LA) (hib : EmsIn ys LB) (hA : ∀ q ∈ LA, w0.heap[q.1]? = some q.2) (hB : ∀ q ∈ LB, w0.heap[q.1]? = some q.2) (hl : xs.length ≤ 1000) (hl2 : ys.length ≤ 1000) (hok : ∀ x ∈ xs, x.e.bs.length ≤ 1000000) (hall : ∀ e ∈ ens xs, e ∈ ens ys) :
    Ret Try.prog 35 [va, vb].toArray w0 fun r w' => Fwd [] w0 w' ∧ r = .bool true := by
  obtain ⟨a, c, rfl, hac⟩ := ha.len_le
  obtain ⟨b, d, rfl, hbd⟩ := hb.len_le
  refine Ret_start fun w hs => ?_
  refine Ret_of Try.func35 rfl Try.ntmps35 rfl ?_
  refine W_seq ?_
  refine W_region ?_
  refine s_assign rfl rfl ?_
  refine WL_nil ?_
  refine n_then ?_
  refine W_seq ?_
  refine W_seq ?_
  refine W_region ?_
  refine s_assign rfl rfl ?_
  refine WL_nil ?_
  refine n_then ?_
  refine W_block ?_
  refine W_loop (σ := Nat) (fun i => [(0, .slice a xs.length c), (1, .slice b ys.length d), (5, .int .i64 (i : Int))])
    (fun i w => St [] w0 w [] ∧ i ≤ xs.length) (fun i => xs.length - i) 0 ⟨rfl, rfl, rfl, trivial⟩ ⟨hs, Nat.zero_le _⟩ ?_
  clear hs
  rintro i w ⟨hs, hi⟩
  refine W_seq ?_
  refine W_seq ?_
  refine W_region ?_
  refine s_move rfl rfl ?_
  refine s_move rfl rfl ?_
  refine s_len rfl rfl (LN43 _ _ _ _) ?_
  refine s_lss rfl rfl rfl ?_
  refine WL_nil ?_
  refine n_then ?_
  refine W_cond rfl (fun hc11 => ?_) (fun hc11 => ?_)
  · skip
    try simp only [decide_eq_true_eq, decide_eq_false_iff_not] at hc11
    have hil : i < xs.length := by omega
    obtain ⟨x, gb, go, xa, xc, hx⟩ := emAt ha hia hA hil
    obtain rfl := hx.adr
    have hxe := hx.v
    have hxm : x ∈ xs := List.mem_of_getElem? hx.at_
    have hxk := hall x.e (List.mem_map_of_mem (f := Em.e) hxm)
    have hxo := hok x hxm
    refine W_skip ?_
    refine n_then ?_
    refine W_seq ?_
    refine W_block ?_
    refine W_seq ?_
    refine W_region ?_
    refine s_assign rfl rfl ?_
    refine WL_nil ?_
    refine n_then ?_
    refine W_seq ?_
    refine W_seq ?_
    refine W_region ?_
    refine s_assign rfl rfl ?_
    refine WL_nil ?_
    refine n_then ?_
    refine W_block ?_
    refine W_loop (σ := KnS) (fun s => [(0, .slice (some ⟨gb, go, none⟩) xs.length c), (1, .slice b ys.length d), (5, .int .i64 (i : Int)), (6, .bool s.b), (7, .int .i64 (s.j : Int))])
      (fun s w => St [] w0 w [] ∧ s.j ≤ ys.length ∧ (x.e ∈ ens (ys.take s.j) → s.b = true)) (fun s => ys.length - s.j) ⟨0, false⟩ ⟨rfl, rfl, rfl, rfl, rfl, trivial⟩ ⟨hs, Nat.zero_le _, fun h => by simp [ens] at h⟩ ?_
    clear hs
    rintro ⟨j, kb⟩ w ⟨hs, hj, hk⟩
    simp only at hs hj hk ⊢
    refine W_seq ?_
    refine W_seq ?_
    refine W_region ?_
    refine s_move rfl rfl ?_
    refine s_move rfl rfl ?_
    refine s_len rfl rfl (LN43 _ _ _ _) ?_
    refine s_lss rfl rfl rfl ?_
    refine WL_nil ?_
    refine n_then ?_
    refine W_cond rfl (fun hc17 => ?_) (fun hc17 => ?_)
    · skip
      try simp only [decide_eq_true_eq, decide_eq_false_iff_not] at hc17
      have hjl : j < ys.length := by omega
      obtain ⟨y, hgb, hgo, ya, yc, hy⟩ := emAt hb hib hB hjl
      obtain rfl := hy.adr
      have hye := hy.v
      have hyt := ens_take_mem hy.tk
      refine W_skip ?_
      refine n_then ?_
      refine W_seq ?_
      refine W_block ?_
      refine W_draw [(0, true, []), (1, true, []), (2, true, []), (3, true, []), (4, true, []), (5, true, []), (7, true, []), (8, true, []), (9, true, []), (10, true, []), (6, false, [7, 8, 9, 10]), (11, false, []), (12, false, []), (13, true, []), (14, true, [])] [[], [0], [0, 1], [0, 1], [0, 1, 2, 3], [0, 1, 2, 3, 4], [0, 1, 2, 3, 4, 5], [0, 1], [0, 1], [0, 1, 7, 8], [0, 1, 7, 8, 9], [0, 1, 2, 3, 4, 5, 6, 7, 8, 9, 10], [0, 1, 2, 3, 4, 5, 6, 7, 8, 9, 10, 11], [0, 1, 2, 3, 4, 5, 6, 7, 8, 9, 10, 11, 12], [0, 1, 2, 3, 4, 5, 6, 7, 8, 9, 10, 11, 12, 13]] MX (by kernel_rfl) ?_
      intro w1 hw1 hw2 hw3 hw4; replace hs := hs.redrawn hw1 hw2 hw3 hw4; clear hw1 hw2 hw3 hw4
      obtain ⟨w, rfl⟩ : ∃ w : World, w = w1 := ⟨_, rfl⟩
      refine D_q rfl rfl ?_
      refine s_move rfl rfl ?_
      refine D_qn ?_
      refine D_q rfl rfl ?_
      refine s_move rfl rfl ?_
      refine WL_case (s := 21) rfl (fun hg21 => ?_) (fun hg21 => ?_)
      · skip
        try simp only [decide_eq_true_eq, decide_eq_false_iff_not] at hg21
        refine D_qn ?_
        refine D_q rfl rfl ?_
        refine WL_skip rfl rfl rfl ?_
        refine D_qn ?_
        refine D_q rfl rfl ?_
        refine WL_skip rfl rfl rfl ?_
        refine D_qn ?_
        refine D_q rfl rfl ?_
        refine WL_skip rfl rfl rfl ?_
        refine D_qn ?_
        refine D_q rfl rfl ?_
        refine WL_skip rfl rfl rfl ?_
        refine D_qn ?_
        refine D_q rfl rfl ?_
        refine WL_skip rfl rfl rfl ?_
        refine D_qn ?_
        refine D_q rfl rfl ?_
        refine WL_skip rfl rfl rfl ?_
        refine D_qn ?_
        refine D_q rfl rfl ?_
        refine WL_skip rfl rfl rfl ?_
        refine D_qn ?_
        refine D_q rfl rfl ?_
        refine WL_skip rfl rfl rfl ?_
        refine D_qn ?_
        refine D_e rfl ?_
        refine WL_skip rfl rfl rfl ?_
        refine D_en ?re ?_
        case re =>
          refine Reks_cons rfl rfl rfl rfl ?_ ?_
          · skip
            refine WL_skip rfl rfl rfl ?_
            exact Rek_end rfl
          refine Reks_cons rfl rfl rfl rfl ?_ ?_
          · skip
            refine WL_skip rfl rfl rfl ?_
            exact Rek_end rfl
          refine Reks_cons rfl rfl rfl rfl ?_ ?_
          · skip
            refine WL_skip rfl rfl rfl ?_
            exact Rek_end rfl
          refine Reks_cons rfl rfl rfl rfl ?_ ?_
          · skip
            refine WL_skip rfl rfl rfl ?_
            exact Rek_end rfl
          exact Reks_nil
        refine D_e rfl ?_
        refine WL_skip rfl rfl rfl ?_
        refine D_en ?re ?_
        case re =>
          exact Reks_nil
        refine D_e rfl ?_
        refine WL_skip rfl rfl rfl ?_
        refine D_en ?re ?_
        case re =>
          exact Reks_nil
        refine D_q rfl rfl ?_
        refine s_pick_t rfl rfl rfl ?_
        refine D_qn ?_
        refine D_q rfl rfl ?_
        refine s_assign rfl rfl ?_
        refine D_qn ?_
        refine D_nil ?_
        refine n_blk ?_
        refine n_then ?_
        refine W_region ?_
        refine s_move rfl rfl ?_
        first | (refine s_add' rfl rfl rfl ?hx ?_; case hx => (constructor <;> first | omega | (simp only; omega))) | refine s_add rfl rfl rfl ?_
        refine s_assign rfl rfl ?_
        refine WL_nil ?_
        refine n_loop ?_
        refine ⟨⟨j + 1, _⟩, ⟨rfl, rfl, rfl, rfl, rfl, trivial⟩, ⟨hs, by simp only; omega, fun hm => ?_⟩, by simp only; omega⟩
        try simp only at hm ⊢
        first
          | rfl
          | done
          | (rw [hyt] at hm
             rcases List.mem_append.1 hm with hm | hm
             · have := hk hm; simp_all
             · have he := List.mem_singleton.1 hm
               exact decide_eq_true ⟨by rw [he], by rw [he], by rw [he]⟩)
      · skip
        try simp only [decide_eq_true_eq, decide_eq_false_iff_not] at hg21
        refine D_qn ?_
        refine D_q rfl rfl ?_
        refine WL_take rfl ?_
        refine s_move rfl rfl ?_
        refine D_qn ?_
        refine D_q rfl rfl ?_
        refine WL_take rfl ?_
        refine s_move rfl rfl ?_
        refine D_qn ?_
        refine D_q rfl rfl ?_
        refine WL_take rfl ?_
        (refine s_indexAddr El43 rfl rfl rfl ?hx ?_; case hx => (constructor <;> first | omega | (simp; omega)))
        refine D_qn ?_
        refine D_q rfl rfl ?_
        refine WL_take rfl ?_
        refine s_load_6 Try.isAgg35 Try.sizeOf35 rfl rfl (hx.now hs 0 _ (by omega) rfl) (hx.now hs 1 _ (by omega) rfl) (hx.now hs 2 _ (by omega) rfl) (hx.now hs 3 _ (by omega) rfl) (hx.now hs 4 _ (by omega) rfl) (hx.now hs 5 _ (by omega) rfl) ?_
        rw [hxe]
        refine D_qn ?_
        refine D_q rfl rfl ?_
        refine WL_take rfl ?_
        refine s_move rfl rfl ?_
        refine D_qn ?_
        refine D_q rfl rfl ?_
        refine WL_take rfl ?_
        refine s_move rfl rfl ?_
        refine D_qn ?_
        refine D_q rfl rfl ?_
        refine WL_take rfl ?_
        (refine s_indexAddr El43 rfl rfl rfl ?hx ?_; case hx => (constructor <;> first | omega | (simp; omega)))
        refine D_qn ?_
        refine D_q rfl rfl ?_
        refine WL_take rfl ?_
        refine s_load_6 Try.isAgg35 Try.sizeOf35 rfl rfl (hy.now hs 0 _ (by omega) rfl) (hy.now hs 1 _ (by omega) rfl) (hy.now hs 2 _ (by omega) rfl) (hy.now hs 3 _ (by omega) rfl) (hy.now hs 4 _ (by omega) rfl) (hy.now hs 5 _ (by omega) rfl) ?_
        rw [hye]
        refine D_qn ?_
        refine D_e rfl ?_
        refine WL_take rfl ?_
        refine s_call Try.call62 rfl rfl (plain_ok x.e.g x.e.x xa x.e.bs.length xc w) ?_
        rintro r w ⟨hst, rfl⟩
        replace hs := hs.fwd1 hst
        clear hst
        refine D_en ?re ?_
        case re =>
          refine Reks_cons rfl rfl rfl rfl ?_ ?_
          · skip
            refine WL_take rfl ?_
            refine s_move rfl rfl ?_
            exact Rek_end rfl
          refine Reks_cons rfl rfl rfl rfl ?_ ?_
          · skip
            refine WL_take rfl ?_
            refine s_move rfl rfl ?_
            exact Rek_end rfl
          refine Reks_cons rfl rfl rfl rfl ?_ ?_
          · skip
            refine WL_take rfl ?_
            (refine s_indexAddr El43 rfl rfl rfl ?hx ?_; case hx => (constructor <;> first | omega | (simp; omega)))
            exact Rek_end rfl
          refine Reks_cons rfl rfl rfl rfl ?_ ?_
          · skip
            refine WL_take rfl ?_
            refine s_load_6 Try.isAgg35 Try.sizeOf35 rfl rfl (hy.now hs 0 _ (by omega) rfl) (hy.now hs 1 _ (by omega) rfl) (hy.now hs 2 _ (by omega) rfl) (hy.now hs 3 _ (by omega) rfl) (hy.now hs 4 _ (by omega) rfl) (hy.now hs 5 _ (by omega) rfl) ?_
            rw [hye]
            exact Rek_end rfl
          exact Reks_nil
        refine D_e rfl ?_
        refine WL_take rfl ?_
        refine s_call Try.call62 rfl rfl (plain_ok y.e.g y.e.x ya y.e.bs.length yc w) ?_
        rintro r w ⟨hst, rfl⟩
        replace hs := hs.fwd1 hst
        clear hst
        refine D_en ?re ?_
        case re =>
          exact Reks_nil
        refine D_e rfl ?_
        refine WL_take rfl ?_
        refine s_call Try.call63 rfl rfl (same_ok x.e.g y.e.g x.e.x y.e.x _ _ x.e.bs y.e.bs w (hx.sl.fwd0 hs.fwd) (hy.sl.fwd0 hs.fwd) (by omega)) ?_
        rintro r w ⟨hst, rfl⟩
        replace hs := hs.fwd1 hst
        clear hst
        refine D_en ?re ?_
        case re =>
          exact Reks_nil
        refine D_q rfl rfl ?_
        refine s_pick_f rfl rfl rfl ?_
        refine D_qn ?_
        refine D_q rfl rfl ?_
        refine s_assign rfl rfl ?_
        refine D_qn ?_
        refine D_nil ?_
        refine n_blk ?_
        refine n_then ?_
        refine W_region ?_
        refine s_move rfl rfl ?_
        first | (refine s_add' rfl rfl rfl ?hx ?_; case hx => (constructor <;> first | omega | (simp only; omega))) | refine s_add rfl rfl rfl ?_
        refine s_assign rfl rfl ?_
        refine WL_nil ?_
        refine n_loop ?_
        refine ⟨⟨j + 1, _⟩, ⟨rfl, rfl, rfl, rfl, rfl, trivial⟩, ⟨hs, by simp only; omega, fun hm => ?_⟩, by simp only; omega⟩
        try simp only at hm ⊢
        first
          | rfl
          | done
          | (rw [hyt] at hm
             rcases List.mem_append.1 hm with hm | hm
             · have := hk hm; simp_all
             · have he := List.mem_singleton.1 hm
               exact decide_eq_true ⟨by rw [he], by rw [he], by rw [he]⟩)
    · skip
      try simp only [decide_eq_true_eq, decide_eq_false_iff_not] at hc17
      have hjl : j = ys.length := by omega
      rw [List.take_of_length_le (by omega)] at hk
      obtain rfl := hk hxk
      refine W_exit ?_
      refine x_then ?_
      refine x_then ?_
      refine exit_hit ?_
      refine n_then ?_
      refine W_seq ?_
      refine W_region ?_
      refine s_move rfl rfl ?_
      refine s_not rfl rfl ?_
      refine WL_nil ?_
      refine n_then ?_
      refine W_cond_kf rfl (rfl) ?_
      refine W_skip ?_
      refine n_blk ?_
      refine n_then ?_
      refine W_region ?_
      refine s_move rfl rfl ?_
      first | (refine s_add' rfl rfl rfl ?hx ?_; case hx => (constructor <;> first | omega | (simp only; omega))) | refine s_add rfl rfl rfl ?_
      refine s_assign rfl rfl ?_
      refine WL_nil ?_
      refine n_loop ?_
      exact ⟨i + 1, ⟨rfl, rfl, rfl, trivial⟩, ⟨hs, by omega⟩, by omega⟩
  · skip
    try simp only [decide_eq_true_eq, decide_eq_false_iff_not] at hc11
    refine W_exit ?_
    refine x_then ?_
    refine x_then ?_
    refine exit_hit ?_
    refine n_then ?_
    refine W_seq ?_
    refine W_region ?_
    refine s_assign rfl rfl ?_
    refine WL_nil ?_
    refine n_then ?_
    refine W_ret ?_
    exact end1 rfl rfl ⟨hs.fwd, rfl⟩
set_option maxHeartbeats 2000000 in
theorem prefix_ok (va vb : Value) (xs ys : List Em) (LA LB : Hp) (w0 : World) (ha : Sl w0 va xs.length (emcells xs)) (hb : Sl w0 vb ys.length (emcells ys)) (hia : EmsIn xs LA) (hib : EmsIn ys LB) (hA : ∀ q ∈ LA, w0.heap[q.1]? = some q.2) (hB : ∀ q ∈ LB, w0.heap[q.1]? = some q.2) (hl : xs.length ≤ 1000) (hok : ∀ x ∈ xs, x.e.bs.length ≤ 1000000) (hp : ens xs <+: ens ys) :
    Ret Try.prog 36 [va, vb].toArray w0 fun r w' => Fwd [] w0 w' ∧ r = .bool true := by
  obtain ⟨a, c, rfl, hac⟩ := ha.len_le
  obtain ⟨b, d, rfl, hbd⟩ := hb.len_le
  have hlen : xs.length ≤ ys.length := by have := hp.length_le; rw [ens_length, ens_length] at this; exact this
  refine Ret_start fun w hs => ?_
  refine Ret_of Try.func36 rfl Try.ntmps36 rfl ?_
  refine W_seq ?_
  refine W_region ?_
  refine s_assign rfl rfl ?_
  refine WL_nil ?_
  refine n_then ?_
  refine W_seq ?_
  refine W_seq ?_
  refine W_region ?_
  refine s_move rfl rfl ?_
  refine s_len rfl rfl (LN69 _ _ _ _) ?_
  refine s_move rfl rfl ?_
  refine s_len rfl rfl (LN69 _ _ _ _) ?_
  refine s_gtr rfl rfl rfl ?_
  refine WL_nil ?_
  refine n_then ?_
  refine W_cond_kf rfl ((by simp; omega)) ?_
  refine W_skip ?_
  refine n_then ?_
  refine W_seq ?_
  refine W_seq ?_
  refine W_region ?_
  refine s_assign rfl rfl ?_
  refine WL_nil ?_
  refine n_then ?_
  refine W_block ?_
  refine W_loop (σ := Nat) (fun i => [(0, .slice a xs.length c), (1, .slice b ys.length d), (5, .int .i64 (i : Int))])
    (fun i w => St [] w0 w [] ∧ i ≤ xs.length) (fun i => xs.length - i) 0 ⟨rfl, rfl, rfl, trivial⟩ ⟨hs, Nat.zero_le _⟩ ?_
  clear hs
  rintro i w ⟨hs, hi⟩
  refine W_seq ?_
  refine W_seq ?_
  refine W_region ?_
  refine s_move rfl rfl ?_
  refine s_move rfl rfl ?_
  refine s_len rfl rfl (LN69 _ _ _ _) ?_
  refine s_lss rfl rfl rfl ?_
  refine WL_nil ?_
  refine n_then ?_
  refine W_cond rfl (fun hc14 => ?_) (fun hc14 => ?_)
  · skip
    try simp only [decide_eq_true_eq, decide_eq_false_iff_not] at hc14
    have hil : i < xs.length := by omega
    obtain ⟨x, gb, go, xa, xc, hx⟩ := emAt ha hia hA hil
    obtain rfl := hx.adr
    have hxe := hx.v
    have hxo := hok x (List.mem_of_getElem? hx.at_)
    obtain ⟨y, hgb, hgo, ya, yc, hy⟩ := emAt hb hib hB (show i < ys.length by omega)
    obtain rfl := hy.adr
    have hye := hy.v
    have hxy : x.e = y.e := by
      obtain ⟨t, ht⟩ := hp
      have h1 : (ens xs)[i]? = some x.e := by rw [ens, List.getElem?_map, hx.at_]; rfl
      have h2 : (ens ys)[i]? = some y.e := by rw [ens, List.getElem?_map, hy.at_]; rfl
      rw [← ht, List.getElem?_append_left (by rw [ens_length]; exact hil), h1] at h2
      exact Option.some.inj h2
    refine W_skip ?_
    refine n_then ?_
    refine W_seq ?_
    refine W_block ?_
    refine W_seq ?_
    refine W_draw [(0, true, []), (1, true, []), (2, true, []), (3, true, []), (4, true, []), (5, true, []), (6, true, []), (7, true, []), (8, false, []), (9, true, [])] [[], [], [0, 1], [0, 1, 2], [], [], [4, 5], [4, 5, 6], [0, 1, 2, 3, 4, 5, 6, 7], [0, 1, 2, 3, 4, 5, 6, 7, 8]] MX (by kernel_rfl) ?_
    intro w1 hw1 hw2 hw3 hw4; replace hs := hs.redrawn hw1 hw2 hw3 hw4; clear hw1 hw2 hw3 hw4
    obtain ⟨w, rfl⟩ : ∃ w : World, w = w1 := ⟨_, rfl⟩
    refine D_q rfl rfl ?_
    refine s_move rfl rfl ?_
    refine D_qn ?_
    refine D_q rfl rfl ?_
    refine s_move rfl rfl ?_
    refine D_qn ?_
    refine D_q rfl rfl ?_
    (refine s_indexAddr El69 rfl rfl rfl ?hx ?_; case hx => (constructor <;> first | omega | (simp; omega)))
    refine D_qn ?_
    refine D_q rfl rfl ?_
    refine s_load_6 Try.isAgg52 Try.sizeOf52 rfl rfl (hx.now hs 0 _ (by omega) rfl) (hx.now hs 1 _ (by omega) rfl) (hx.now hs 2 _ (by omega) rfl) (hx.now hs 3 _ (by omega) rfl) (hx.now hs 4 _ (by omega) rfl) (hx.now hs 5 _ (by omega) rfl) ?_
    rw [hxe]
    refine D_qn ?_
    refine D_q rfl rfl ?_
    refine s_move rfl rfl ?_
    refine D_qn ?_
    refine D_q rfl rfl ?_
    refine s_move rfl rfl ?_
    refine D_qn ?_
    refine D_q rfl rfl ?_
    (refine s_indexAddr El69 rfl rfl rfl ?hx ?_; case hx => (constructor <;> first | omega | (simp; omega)))
    refine D_qn ?_
    refine D_q rfl rfl ?_
    refine s_load_6 Try.isAgg52 Try.sizeOf52 rfl rfl (hy.now hs 0 _ (by omega) rfl) (hy.now hs 1 _ (by omega) rfl) (hy.now hs 2 _ (by omega) rfl) (hy.now hs 3 _ (by omega) rfl) (hy.now hs 4 _ (by omega) rfl) (hy.now hs 5 _ (by omega) rfl) ?_
    rw [hye]
    refine D_qn ?_
    refine D_e rfl ?_
    refine s_call Try.call63 rfl rfl (same_ok x.e.g y.e.g x.e.x y.e.x _ _ x.e.bs y.e.bs w (hx.sl.fwd0 hs.fwd) (hy.sl.fwd0 hs.fwd) (by omega)) ?_
    rintro r w ⟨hst, rfl⟩
    replace hs := hs.fwd1 hst
    clear hst
    refine D_en ?re ?_
    case re =>
      exact Reks_nil
    refine D_q rfl rfl ?_
    refine s_not rfl rfl ?_
    refine D_qn ?_
    refine D_nil ?_
    refine n_then ?_
    refine W_cond_kf rfl ((by simp [hxy])) ?_
    refine W_skip ?_
    refine n_blk ?_
    refine n_then ?_
    refine W_region ?_
    refine s_move rfl rfl ?_
    first | (refine s_add' rfl rfl rfl ?hx ?_; case hx => (constructor <;> first | omega | (simp only; omega))) | refine s_add rfl rfl rfl ?_
    refine s_assign rfl rfl ?_
    refine WL_nil ?_
    refine n_loop ?_
    exact ⟨i + 1, ⟨rfl, rfl, rfl, trivial⟩, ⟨hs, by omega⟩, by omega⟩
  · skip
    try simp only [decide_eq_true_eq, decide_eq_false_iff_not] at hc14
    refine W_exit ?_
    refine x_then ?_
    refine x_then ?_
    refine exit_hit ?_
    refine n_then ?_
    refine W_seq ?_
    refine W_region ?_
    refine s_assign rfl rfl ?_
    refine WL_nil ?_
    refine n_then ?_
    refine W_ret ?_
    exact end1 rfl rfl ⟨hs.fwd, rfl⟩
end Go.Proofs.Ytkobigdfijeajaa
