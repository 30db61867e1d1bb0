/- A message's bytes read: decode. -/
import Derived.Test.YtkobigdfijeajaaRpD
set_option linter.unusedVariables false
set_option linter.unusedSimpArgs false
namespace Go.Proofs.Ytkobigdfijeajaa
open Go.SL
theorem rdB_enc (g : Bool) (r : List Int) : rdB ⟨[if g then 1 else 0] ++ r, 0⟩ = (g, ⟨r, 0⟩) := by cases g <;> simp [rdB, rdO]
theorem strOf_bytesOf (s : ByteArray) : strOf (bytesOf s) = s := bytesOf_inj (bytesOf_strOf' (bytesOf_isB s))
theorem decR_ent {e : En} (h : e.ok) : decR (entB e) = ⟨e.g, e.x, e.bs, 0⟩ := by
  obtain ⟨h1, h2, h3, h4, h5⟩ := valid_range h.1
  have hbl := bytesOf_length e.x.rule
  obtain ⟨g, x, bs⟩ := e
  have e1 : rdB ⟨entB ⟨g, x, bs⟩, 0⟩ = (g, ⟨uvar x.rule.size ++ (bytesOf x.rule ++ (uvar (zz x.holder) ++ (uvar (zz x.token) ++ (uvar (zz x.til) ++ (uvar bs.length ++ bs))))), 0⟩) := by
    rw [entB, entV]; simp only [List.append_assoc]; exact rdB_enc g _
  have e2 : rdRaw ⟨uvar x.rule.size ++ (bytesOf x.rule ++ (uvar (zz x.holder) ++ (uvar (zz x.token) ++ (uvar (zz x.til) ++ (uvar bs.length ++ bs))))), 0⟩ = (bytesOf x.rule, ⟨(uvar (zz x.holder) ++ (uvar (zz x.token) ++ (uvar (zz x.til) ++ (uvar bs.length ++ bs)))), 0⟩) := by
    simp only at hbl; rw [← hbl]; exact rdRaw_uvar (by simp only at h1; omega)
  have e6 : rdRaw ⟨uvar bs.length ++ bs, 0⟩ = (bs, ⟨[], 0⟩) := by
    have := rdRaw_uvar (bs := bs) (r := []) (by simp only at h5; omega)
    rw [List.append_nil] at this; exact this
  rw [decR_of e1 e2 (rdI_uvar h2) (rdI_uvar h3) (rdI_uvar h4) e6, strOf_bytesOf, if_pos ⟨by simp [rdEnd], h.1⟩]
theorem mes_read {m : Mg} (h : m.ok) : ∃ s1 s2 s3 s4 s5, rdI ⟨mesB m, 0⟩ = ((m.kind : Int), s1) ∧ rdI s1 = ((m.term : Int), s2) ∧ rdI s2 = ((m.lterm : Int), s3) ∧ rdI s3 = ((m.n : Int), s4) ∧ rdI s4 = ((m.ents : Int), s5) ∧ rdI s5 = ((m.log.length : Int), ⟨logB m.log, 0⟩) := by
  obtain ⟨h1, h2, h3, h4, h5, h6, h7⟩ := h
  refine ⟨_, _, _, _, _, ?_, rdI_uvar (by omega), rdI_uvar (by omega), rdI_uvar (by omega), rdI_uvar (by omega), rdI_uvar (by omega)⟩
  rw [mesB]; simp only [List.append_assoc]; exact rdI_uvar (by omega)
theorem log_read {l : List En} {i : Nat} {e : En} (h : l[i]? = some e) (ho : e.ok) : rdRaw ⟨logB (l.drop i), 0⟩ = (entB e, ⟨logB (l.drop (i + 1)), 0⟩) := by
  have hi := (List.getElem?_eq_some_iff.1 h).1
  have h2 : l.drop i = e :: l.drop (i + 1) := by
    rw [List.drop_eq_getElem_cons hi]; congr 1; exact (List.getElem?_eq_some_iff.1 h).2
  have h3 := entB_len ho
  rw [h2, logB, List.flatMap_cons, List.append_assoc]
  exact rdRaw_uvar (by omega)
structure DcS where
  i : Nat
  ys : List Em
  v : Value
  LO : Hp
  LB : Hp
  LP : Hp
set_option maxHeartbeats 2000000 in
theorem mDecode_ok (m : Mg) (v : Value) (w0 : World) (hv : Sl w0 v (mesB m).length (u8s (mesB m))) (hm : m.ok) :
    Ret Try.prog 47 [v].toArray w0 fun r w' => ∃ lv ys LB LP, r = .tuple #[.agg (mesCells m 0 lv).toArray, .bool true] ∧ LogAt m.log lv ys LB LP ∧ St [] w0 w' (LB ++ LP) := by
  obtain ⟨a, c, rfl, hac⟩ := hv.len_le
  have hlb := mesB_len hm
  obtain ⟨s1, s2, s3, s4, s5, e1, e2, e3, e4, e5, e6⟩ := mes_read hm
  have hm0 := hm
  obtain ⟨h1, h2, h3, h4, h5, h6, h7⟩ := hm
  refine Ret_start fun w hs => ?_
  refine Ret_of Try.func47 rfl Try.ntmps47 rfl ?_
  refine W_seq ?_
  refine W_region ?_
  refine s_alloc rfl AL94 hs ?_; clear hs; intro b2 w hs
  refine s_assign rfl rfl ?_
  refine WL_nil ?_
  refine n_then ?_
  refine W_seq ?_
  refine W_region ?_
  refine s_move rfl rfl ?_
  refine s_call Try.call67 rfl rfl (read_ok _ (mesB m) w (hv.fwd0 hs.fwd) (by omega) (mesB_isB hm0)) ?_
  rintro r w ⟨p, LO, rfl, hR, hst⟩
  replace hs := (St.back0 hs hst).swap (A := LO)
  clear hst
  refine s_assign rfl rfl ?_
  refine WL_nil ?_
  refine n_then ?_
  refine W_seq ?_
  refine W_region ?_
  refine s_move rfl rfl ?_
  refine s_callL (M := [_]) (L1 := LO) (X := []) Try.call68 rfl rfl (by simpa using hs) (fun h => rInt_ok p ⟨mesB m, 0⟩ LO w hR h) ?_
  clear hs hR; rintro v1 w LO ⟨hR, rfl⟩ - hs
  rw [e1] at hR ⊢
  refine s_move rfl rfl ?_
  refine s_callL (M := [_]) (L1 := LO) (X := []) Try.call68 rfl rfl hs (fun h => rInt_ok p s1 LO w hR h) ?_
  clear hs hR; rintro v1 w LO ⟨hR, rfl⟩ - hs
  rw [e2] at hR ⊢
  refine s_move rfl rfl ?_
  refine s_callL (M := [_]) (L1 := LO) (X := []) Try.call68 rfl rfl hs (fun h => rInt_ok p s2 LO w hR h) ?_
  clear hs hR; rintro v1 w LO ⟨hR, rfl⟩ - hs
  rw [e3] at hR ⊢
  refine s_move rfl rfl ?_
  refine s_callL (M := [_]) (L1 := LO) (X := []) Try.call68 rfl rfl hs (fun h => rInt_ok p s3 LO w hR h) ?_
  clear hs hR; rintro v1 w LO ⟨hR, rfl⟩ - hs
  rw [e4] at hR ⊢
  refine s_move rfl rfl ?_
  refine s_callL (M := [_]) (L1 := LO) (X := []) Try.call68 rfl rfl hs (fun h => rInt_ok p s4 LO w hR h) ?_
  clear hs hR; rintro v1 w LO ⟨hR, rfl⟩ - hs
  rw [e5] at hR ⊢
  simp only at hR ⊢
  refine s_build rfl rfl (BD94_0_2_3_4_5 _ _ _ _ _) ?_
  refine s_alloc rfl AL94 hs ?_; clear hs; intro b5 w hs
  first
    | refine s_storeW Try.sizeOf94 rfl rfl rfl rfl hs (kk := 0) rfl rfl ?_
  clear hs; intro w hs; try simp only [List.set_cons_zero, List.set_cons_succ, splice, List.take_succ_cons, List.take_zero, List.drop_succ_cons, List.drop_zero, List.nil_append, List.cons_append, List.length_cons, List.length_nil, Nat.reduceAdd, List.append_assoc] at hs
  refine WL_nil ?_
  refine n_then ?_
  refine W_seq ?_
  refine W_region ?_
  refine s_move rfl rfl ?_
  refine s_callL (M := [_, _]) (L1 := LO) (X := []) Try.call68 rfl rfl (by simpa using hs) (fun h => rInt_ok p s5 LO w hR h) ?_
  clear hs hR; rintro v1 w LO ⟨hR, rfl⟩ - hs
  rw [e6] at hR ⊢
  simp only at hR ⊢
  replace hs : St [] w0 w ([(b5, Blk 94 (mesCells m 0 (.slice none 0 0)))] ++ (LO ++ ([] ++ ([] ++ [(b2, Blk 94 [.int .i64 0, .int .i64 0, .int .i64 0, .int .i64 0, .int .i64 0, .int .i64 0, .slice none 0 0])])))) := St.reord [[_], [_], LO, [], []] [0, 2, 3, 4, 1] [] (by simp only [cat, List.append_nil, List.nil_append, List.cons_append] at hs ⊢; exact hs) rfl
  refine s_assign rfl rfl ?_
  refine WL_nil ?_
  refine n_then ?_
  refine W_seq ?_
  refine W_seq ?_
  refine W_region ?_
  refine s_move rfl rfl ?_
  refine s_lss rfl rfl rfl ?_
  refine s_move rfl rfl ?_
  refine WL_know (s := 26) (c := false) rfl ((decide_eq_false (by omega))) ?_
  refine WL_take rfl ?_
  refine s_move rfl rfl ?_
  refine WL_take rfl ?_
  refine s_gtr rfl rfl rfl ?_
  refine s_pick_f rfl rfl rfl ?_
  refine WL_nil ?_
  refine n_then ?_
  refine W_cond_kf rfl ((decide_eq_false (by omega))) ?_
  refine W_skip ?_
  refine n_then ?_
  refine W_seq ?_
  refine W_seq ?_
  refine W_region ?_
  refine s_move rfl rfl ?_
  refine s_move rfl rfl ?_
  refine WL_nil ?_
  refine n_then ?_
  refine W_block ?_
  refine W_loop (σ := DcS) (fun s => [(2, .pointer (some ⟨b2, 0, none⟩)), (3, .bool false), (4, .pointer (some ⟨p, 0, none⟩)), (5, .pointer (some ⟨b5, 0, none⟩)), (6, .int .i64 (m.log.length : Int)), (31, .int .i64 (m.log.length : Int)), (32, .int .i64 (s.i : Int))])
    (fun s w => St [] w0 w ([(b5, Blk 94 (mesCells m 0 s.v))] ++ (s.LO ++ (s.LB ++ (s.LP ++ [(b2, Blk 94 [.int .i64 0, .int .i64 0, .int .i64 0, .int .i64 0, .int .i64 0, .int .i64 0, .slice none 0 0])])))) ∧ RdAt p ⟨logB (m.log.drop s.i), 0⟩ s.LO ∧ OwnS 35 6 s.v s.ys.length (emcells s.ys) s.LB ∧ EmsIn s.ys s.LP ∧ ens s.ys = m.log.take s.i ∧ s.i ≤ m.log.length) (fun s => m.log.length - s.i) ⟨0, [], .slice none 0 0, LO, [], []⟩ ⟨rfl, rfl, rfl, rfl, rfl, rfl, rfl, trivial⟩ ⟨hs, by simpa using hR, OwnS.nil _ _, nofun, by simp [ens], Nat.zero_le _⟩ ?_
  clear hs hR
  rintro ⟨i, ys, v, LO, LB, LP⟩ w ⟨hs, hR, hO, hM, hys, hi⟩
  simp only at hs hR hO hM hys hi ⊢
  refine W_seq ?_
  refine W_region ?_
  refine s_lss rfl rfl rfl ?_
  refine WL_nil ?_
  refine n_then ?_
  refine W_seq ?_
  refine W_cond rfl (fun hc33 => ?_) (fun hc33 => ?_)
  · skip
    try simp only [decide_eq_true_eq, decide_eq_false_iff_not, gt_iff_lt, ge_iff_le, bne_iff_ne, ne_eq, bne_eq_false_iff_eq, Bool.not_eq_true', Bool.not_eq_false'] at hc33
    have hil : i < m.log.length := by omega
    have hxi : m.log[i]? = some m.log[i] := List.getElem?_eq_getElem hil
    have hmem : m.log[i] ∈ m.log := List.getElem_mem hil
    generalize m.log[i] = x at hxi hmem
    have hxo := h7 x hmem
    have hxl := entB_len hxo
    have hrr := log_read hxi hxo
    have hyl : ys.length = i := by have h9 := congrArg List.length hys; rw [ens_length, List.length_take] at h9; omega
    refine W_skip ?_
    refine n_then ?_
    refine W_seq ?_
    refine W_block ?_
    refine W_seq ?_
    refine W_region ?_
    refine s_move rfl rfl ?_
    refine s_callL (M := [_]) (L1 := LO) (X := LB ++ (LP ++ [(b2, Blk 94 [.int .i64 0, .int .i64 0, .int .i64 0, .int .i64 0, .int .i64 0, .int .i64 0, .slice none 0 0])])) Try.call70 rfl rfl hs (fun h => rRaw_ok p _ LO w hR h) ?_
    clear hs hR; rintro v1 w L9 ⟨LO, Lr, rfl, hR, hOr⟩ - hs
    rw [hrr] at hR hOr
    simp only at hR hOr
    refine s_call Try.call69 rfl rfl (decode_ok _ (entB x) w (OwnS_slIn hOr fun q hq => hs.own q (by simp [hq])) (entB_isB hxo) (by omega)) ?_
    rw [decR_ent hxo]
    rintro r w ⟨vc, Lc, rfl, hOc, hst⟩
    replace hs := St.back0 hs hst
    clear hst
    simp only [entryV] at hOc ⊢
    obtain ⟨_, qc, qa, rfl, hql⟩ := hOc.form
    subst hql
    replace hs : St [] w0 w ([(b5, Blk 94 (mesCells m 0 v))] ++ (LO ++ (LB ++ ((LP ++ Lc) ++ [(b2, Blk 94 [.int .i64 0, .int .i64 0, .int .i64 0, .int .i64 0, .int .i64 0, .int .i64 0, .slice none 0 0])])))) := by simpa [cat] using St.reord [Lc, [_], LO, Lr, LB, LP, [_]] [1, 2, 4, 5, 0, 6] [3] (by simpa [cat] using hs) rfl
    obtain ⟨_, yc, ya, rfl, hyv⟩ := hO.form
    subst hyv
    simp only [mesCells] at hs
    refine s_move rfl rfl ?_
    refine s_extract rfl rfl rfl ?_
    refine s_extract rfl rfl rfl ?_
    refine s_alloc rfl AL35 hs ?_; clear hs; intro b7 w hs
    first
      | refine s_storeW Try.sizeOf35 rfl rfl rfl rfl hs (kk := 0) rfl rfl ?_
    clear hs; intro w hs; try simp only [List.set_cons_zero, List.set_cons_succ, splice, List.take_succ_cons, List.take_zero, List.drop_succ_cons, List.drop_zero, List.nil_append, List.cons_append, List.length_cons, List.length_nil, Nat.reduceAdd, List.append_assoc] at hs
    refine s_assign rfl rfl ?_
    refine WL_nil ?_
    refine n_then ?_
    refine W_seq ?_
    refine W_seq ?_
    refine W_region ?_
    refine s_move rfl rfl ?_
    refine s_neq rfl rfl rfl ?_
    refine WL_nil ?_
    refine n_then ?_
    refine W_cond_kf rfl (rfl) ?_
    refine W_skip ?_
    refine n_then ?_
    refine W_region ?_
    refine s_fieldAddr rfl rfl (FA94_6 _ _) ?_
    first
      | refine s_load Try.isAgg43 rfl rfl (hs.cell (k := 1) rfl rfl) ?_
    first
      | refine s_loadW Try.isAgg35 Try.sizeOf35 rfl rfl hs (kk := 0) rfl rfl ?_
    refine s_buildSlice rfl rfl (BS43_1 _ _ _ _ _ _) hs ?_; clear hs; intro b46 w hs
    refine s_appendM (M := [_] ++ ([_] ++ ([_] ++ LO))) (X := LP ++ (Lc ++ [_])) El43 rfl rfl rfl hO (by simpa [cat] using hs) (hs.sl (k := 0) (ds := [_, _, _, _, _, _]) rfl (Nat.le_refl _) (by intro j u hj; rw [Nat.zero_add]; exact hj)) rfl (by simp [Value.oneCell']) (by omega) ?_
    clear hs hO; intro v' w LB' hO hs
    obtain ⟨_, yc2, ya2, rfl, hyv⟩ := hO.form
    subst hyv
    simp only [List.cons_append, List.nil_append] at hs
    refine s_fieldAddr rfl rfl (FA94_6 _ _) ?_
    first
      | refine s_storeB Try.sizeOf43 rfl rfl rfl hs (kk := 2) rfl rfl ?_
    clear hs; intro w hs; try simp only [List.set_cons_zero, List.set_cons_succ, splice, List.take_succ_cons, List.take_zero, List.drop_succ_cons, List.drop_zero, List.nil_append, List.cons_append, List.length_cons, List.length_nil, Nat.reduceAdd, List.append_assoc] at hs
    refine WL_nil ?_
    refine n_blk ?_
    refine n_then ?_
    refine W_region ?_
    first | (refine s_add' rfl rfl rfl ?hx ?_; case hx => (constructor <;> first | omega | (simp only; omega)))
    refine s_move rfl rfl ?_
    refine WL_nil ?_
    refine n_loop ?_
    refine ⟨⟨i + 1, ys ++ [⟨x, .slice qa x.bs.length qc⟩], .slice ya2 (ys.length + 1) yc2, LO, LB', LP ++ Lc⟩, ⟨rfl, rfl, rfl, rfl, rfl, rfl, rfl, trivial⟩, ⟨?_, hR, ?_, ?_, ?_, by simp only; omega⟩, by simp only; omega⟩
    · simpa [cat, mesCells] using St.reord [[_], [_], [_], LO, LB', LP, Lc, [_]] [2, 3, 4, 5, 6, 7] [0, 1] (by simpa [cat] using hs) rfl
    · simpa [emcells_append, emcells, Em.cells] using hO
    · intro y hy
      rcases List.mem_append.1 hy with hy | hy
      · exact RdS.mono' (hM y hy) fun q hq => by simp [hq]
      · obtain rfl := List.mem_singleton.1 hy; exact RdS.mono' hOc.rdS fun q hq => by simp [hq]
    · rw [ens_append, hys, List.take_add_one, hxi]; rfl
  · skip
    try simp only [decide_eq_true_eq, decide_eq_false_iff_not, gt_iff_lt, ge_iff_le, bne_iff_ne, ne_eq, bne_eq_false_iff_eq, Bool.not_eq_true', Bool.not_eq_false'] at hc33
    refine W_exit ?_
    refine x_then ?_
    refine x_then ?_
    refine exit_hit ?_
    refine n_then ?_
    refine W_seq ?_
    refine W_seq ?_
    refine W_region ?_
    refine s_move rfl rfl ?_
    have hiL : i = m.log.length := by omega
    rw [hiL, List.take_length] at hys
    rw [hiL, List.drop_length] at hR
    refine s_callL (M := [_]) (L1 := LO) (X := LB ++ (LP ++ [(b2, Blk 94 [.int .i64 0, .int .i64 0, .int .i64 0, .int .i64 0, .int .i64 0, .int .i64 0, .slice none 0 0])])) Try.call71 rfl rfl hs (fun h => rEnd_ok p _ LO w hR h) ?_
    clear hs; rintro v2 w L9 ⟨hL9, rfl⟩ - hs
    rw [hL9] at hs; clear hL9 L9
    obtain ⟨_, yc, ya, rfl, hyv⟩ := hO.form
    subst hyv
    simp only [List.cons_append, List.nil_append, mesCells] at hs
    refine s_neq rfl rfl rfl ?_
    refine s_move rfl rfl ?_
    refine WL_know (s := 53) (c := false) rfl (rfl) ?_
    refine WL_take rfl ?_
    refine s_fieldAddr rfl rfl (FA94_0 _ _) ?_
    refine WL_take rfl ?_
    first
      | refine s_load Try.isAgg3 rfl rfl (hs.cell (k := 0) rfl rfl) ?_
    refine WL_take rfl ?_
    refine s_lss rfl rfl rfl ?_
    refine s_pick_f rfl rfl rfl ?_
    refine s_move rfl rfl ?_
    refine WL_know (s := 58) (c := false) rfl ((decide_eq_false (by omega))) ?_
    refine WL_take rfl ?_
    refine s_fieldAddr rfl rfl (FA94_0 _ _) ?_
    refine WL_take rfl ?_
    first
      | refine s_load Try.isAgg3 rfl rfl (hs.cell (k := 0) rfl rfl) ?_
    refine WL_take rfl ?_
    refine s_geq rfl rfl rfl ?_
    refine s_pick_f rfl rfl rfl ?_
    refine s_move rfl rfl ?_
    refine WL_know (s := 63) (c := false) rfl ((decide_eq_false (by omega))) ?_
    refine WL_take rfl ?_
    refine s_fieldAddr rfl rfl (FA94_4 _ _) ?_
    refine WL_take rfl ?_
    first
      | refine s_load Try.isAgg3 rfl rfl (hs.cell (k := 0) rfl rfl) ?_
    refine WL_take rfl ?_
    refine s_lss rfl rfl rfl ?_
    refine s_pick_f rfl rfl rfl ?_
    refine s_move rfl rfl ?_
    refine WL_know (s := 68) (c := false) rfl ((decide_eq_false (by omega))) ?_
    refine WL_take rfl ?_
    refine s_fieldAddr rfl rfl (FA94_4 _ _) ?_
    refine WL_take rfl ?_
    first
      | refine s_load Try.isAgg3 rfl rfl (hs.cell (k := 0) rfl rfl) ?_
    refine WL_take rfl ?_
    refine s_move rfl rfl ?_
    refine WL_take rfl ?_
    refine s_gtr rfl rfl rfl ?_
    refine s_pick_f rfl rfl rfl ?_
    refine WL_nil ?_
    refine n_then ?_
    refine W_cond_kf rfl ((decide_eq_false (by omega))) ?_
    refine W_skip ?_
    refine n_then ?_
    refine W_seq ?_
    refine W_region ?_
    first
      | refine s_loadW Try.isAgg94 Try.sizeOf94 rfl rfl hs (kk := 0) rfl rfl ?_
    replace hs : St [] w0 w ([(b2, Blk 94 [.int .i64 0, .int .i64 0, .int .i64 0, .int .i64 0, .int .i64 0, .int .i64 0, .slice none 0 0])] ++ (LB ++ LP)) := by simpa [cat] using St.reord [[_], LO, LB, LP, [_]] [4, 2, 3] [0, 1] (by simpa [cat] using hs) rfl
    refine s_storeW Try.sizeOf94 rfl rfl rfl rfl hs (kk := 0) rfl rfl ?_
    clear hs; intro w hs; simp only [List.set_cons_zero, List.cons_append, List.nil_append] at hs
    refine s_assign rfl rfl ?_
    refine WL_nil ?_
    refine n_then ?_
    refine W_ret ?_
    exact end2 rfl (resOk_block Try.isAgg94 Try.sizeOf94 hs rfl (kk := 0) rfl rfl) rfl ⟨_, ys, LB, LP, rfl, ⟨hO, hM, hys⟩, hs.tail⟩
end Go.Proofs.Ytkobigdfijeajaa
