/- Contracts of package codec: Decode of what Encode wrote; the reference's comparison of claims. -/
import Derived.Test.YtbcdnpjcbchbjaaDoorCoE
set_option linter.unusedVariables false
set_option linter.unusedSimpArgs false
namespace Go.Proofs.YtbcdnpjcbchbjaaDoor
open Go.SL
/-- the four numbers that were read so far, the others 0 -/
def fourD (l : List Int) (j : Nat) : List Int := l.take j ++ List.replicate (4 - j) 0
theorem fourD_set (l : List Int) (j : Nat) (hl : l.length = 4) (hj : j < 4) : (fourD l j).set j (l.getD j 0) = fourD l (j + 1) := by
  match l, hl with
  | [a, b, c, d], _ =>
    match j, hj with
    | 0, _ => rfl
    | 1, _ => rfl
    | 2, _ => rfl
    | 3, _ => rfl
theorem fourD_length (l : List Int) (j : Nat) (hl : l.length = 4) (hj : j ≤ 4) : (fourD l j).length = 4 := by simp [fourD]; omega
theorem four_length (la be x : Cl) : (four la be x).length = 4 := rfl
theorem flat_split (l : List Int) (j : Nat) (hj : j < l.length) : l.flatMap code = (l.take j).flatMap code ++ (code (l.getD j 0) ++ (l.drop (j + 1)).flatMap code) := by
  have h1 : l = l.take j ++ l[j] :: l.drop (j + 1) := by rw [List.getElem_cons_drop, List.take_append_drop]
  refine (congrArg (List.flatMap code) h1).trans ?_
  rw [List.flatMap_append, List.flatMap_cons, List.getD_eq_getElem?_getD, List.getElem?_eq_getElem hj]; rfl
theorem take_flat (l : List Int) (j : Nat) (hj : j < l.length) : (l.take (j + 1)).flatMap code = (l.take j).flatMap code ++ code (l.getD j 0) := by
  rw [List.take_succ_eq_append_getElem hj, List.flatMap_append, List.getD_eq_getElem?_getD, List.getElem?_eq_getElem hj]; simp
structure DeS where
  i : Nat
  v : Value
  LR : Hp
  Lc : Hp
structure DeJ where
  j : Nat
  LR : Hp
set_option maxHeartbeats 2000000 in
theorem coDecode_ok (v : Value) (cl : List Cl) (w0 : World) (hg : Wd w0) (hv : Sl w0 v (pk (encB cl)).length (u8s (pk (encB cl)))) (hok : ∀ x ∈ cl, x.ok) (hl : cl.length ≤ 4096) :
    Ret Tryd.prog 17 [v].toArray w0 fun r w' => ∃ u Lr, r = .tuple #[u, .int .i64 0] ∧ OwnS 55 4 u cl.length (cls cl) Lr ∧ St [] w0 w' Lr := by
  obtain ⟨a, c, rfl, hc⟩ := hv.len_le
  have hbl := encB_length cl
  have hpl := pk_length (encB cl)
  have hisB : ∀ b ∈ pk (encB cl), isB b := by
    intro b hb
    obtain ⟨j, _, rfl⟩ := List.mem_map.1 hb
    have := byteAt_lt (encB cl) j
    unfold isB; omega
  refine Ret_start fun w hs => ?_
  refine Ret_of Tryd.func17 rfl Tryd.ntmps17 rfl ?_
  refine W_seq ?_
  refine W_region ?_
  refine s_assign rfl rfl ?_
  refine s_assign rfl rfl ?_
  refine WL_nil ?_
  refine n_then ?_
  refine W_seq ?_
  refine W_region ?_
  refine s_move rfl rfl ?_
  refine s_call Tryd.call34 rfl rfl (bRead_ok _ (pk (encB cl)) w (hv.fwd0 hs.fwd) (by omega) hisB) ?_
  rintro r w ⟨p, LR, rfl, hR, hst⟩
  replace hs := St.back0 hs hst
  simp only [List.append_nil] at hs
  clear hst
  refine s_assign rfl rfl ?_
  refine WL_nil ?_
  refine n_then ?_
  refine W_seq ?_
  refine W_region ?_
  refine s_move rfl rfl ?_
  refine s_callL (M := []) (L1 := LR) (X := []) Tryd.call35 rfl rfl (by simpa using hs) (fun h => coRead_ok p (encB cl) 0 (cl.length : Int) _ w (hg.st hs (by simp)) (hg.not hs) hR h (by unfold isI64; omega) ⟨encC .z .z cl, rfl⟩ (by omega)) ?_
  clear hs hR; rintro v w LR ⟨hR, rfl⟩ - hs
  simp only [List.nil_append, List.append_nil, Nat.zero_add] at hs hR
  refine s_move rfl rfl ?_
  refine s_extract rfl rfl rfl ?_
  refine s_extract rfl rfl rfl ?_
  refine s_assign rfl rfl ?_
  refine s_assign rfl rfl ?_
  refine WL_nil ?_
  refine n_then ?_
  refine W_seq ?_
  refine W_seq ?_
  refine W_region ?_
  refine s_move rfl rfl ?_
  refine s_not rfl rfl ?_
  refine s_move rfl rfl ?_
  refine WL_know (s := 22) (c := false) rfl (rfl) ?_
  refine WL_take rfl ?_
  refine s_move rfl rfl ?_
  refine WL_take rfl ?_
  refine s_lss rfl rfl rfl ?_
  refine s_pick_f rfl rfl rfl ?_
  refine s_move rfl rfl ?_
  refine WL_know (s := 26) (c := false) rfl ((by simp)) ?_
  refine WL_take rfl ?_
  refine s_move rfl rfl ?_
  refine WL_take rfl ?_
  refine s_gtr rfl rfl rfl ?_
  refine s_pick_f rfl rfl rfl ?_
  refine WL_nil ?_
  refine n_then ?_
  refine W_cond_kf rfl ((by simp; omega)) ?_
  refine W_skip ?_
  refine n_then ?_
  refine W_seq ?_
  refine W_region ?_
  refine s_assign rfl rfl ?_
  refine WL_nil ?_
  refine n_then ?_
  refine W_seq ?_
  refine W_region ?_
  refine s_alloc rfl AL55 hs ?_; clear hs; intro b8 w hs
  refine s_alloc rfl AL55 hs ?_; clear hs; intro b9 w hs
  refine WL_nil ?_
  refine n_then ?_
  refine W_seq ?_
  refine W_seq ?_
  refine W_region ?_
  refine s_move rfl rfl ?_
  refine s_move rfl rfl ?_
  refine WL_nil ?_
  refine n_then ?_
  refine W_block ?_
  refine W_loop (σ := DeS) (fun s => [(4, .pointer (some ⟨p, 0, none⟩)), (7, s.v), (8, .pointer (some ⟨b8, 0, none⟩)), (9, .pointer (some ⟨b9, 0, none⟩)), (30, .int .i64 (cl.length : Int)), (31, .int .i64 (s.i : Int))])
    (fun s w => St [] w0 w ((b9, Blk 55 (befC (cl.take s.i)).cells) :: (b8, Blk 55 (lastC (cl.take s.i)).cells) :: (s.LR ++ s.Lc)) ∧ RbAt p (pk (encB cl)) (code cl.length ++ encC .z .z (cl.take s.i)).length 0 s.LR ∧ OwnS 55 4 s.v s.i (cls (cl.take s.i)) s.Lc ∧ s.i ≤ cl.length) (fun s => cl.length - s.i) ⟨0, .slice none 0 0, LR, []⟩ ⟨rfl, rfl, rfl, rfl, rfl, rfl, trivial⟩ ⟨by simp only [List.append_nil]; exact hs, by simpa [encC] using hR, OwnS.nil _ _, Nat.zero_le _⟩ ?_
  clear hs hR LR
  rintro ⟨i, v7, LR, Lc⟩ w ⟨hs, hR, hO, hi⟩
  simp only at hs hR hO hi ⊢
  refine W_seq ?_
  refine W_region ?_
  refine s_lss rfl rfl rfl ?_
  refine WL_nil ?_
  refine n_then ?_
  refine W_seq ?_
  refine W_cond rfl (fun hc32 => ?_) (fun hc32 => ?_)
  · skip
    simp only [decide_eq_true_eq, decide_eq_false_iff_not, Bool.not_eq_true', Bool.not_eq_false'] at hc32
    have hil : i < cl.length := by omega
    have hxi : cl[i]? = some cl[i] := List.getElem?_eq_getElem hil
    have hxo : cl[i].ok := hok _ (List.getElem_mem hil)
    have htk : cl.take (i + 1) = cl.take i ++ [cl[i]] := List.take_succ_eq_append_getElem hil
    have hcl4 : cls (cl.take (i + 1)) = cls (cl.take i) ++ cl[i].cells := by rw [htk, cls_append]; simp [cls]
    have hao := lastC_mem Cl.z_ok (l := cl.take i) (P := Cl.ok) fun x hx => hok x (List.mem_of_mem_take hx)
    have hbo := befC_mem Cl.z_ok (l := cl.take i) (P := Cl.ok) fun x hx => hok x (List.mem_of_mem_take hx)
    have h4 := four_in hao hbo hxo
    have hsplit := encC_split (cl.take i) cl[i] []
    rw [← htk, encC, List.append_nil] at hsplit
    have hall := encC_split (cl.take i) cl[i] (cl.drop (i + 1))
    rw [List.getElem_cons_drop, List.take_append_drop] at hall
    have hAt : AtBits (encB cl) ((four (lastC (cl.take i)) (befC (cl.take i)) cl[i]).flatMap code) (code cl.length ++ encC .z .z (cl.take i)).length := by
      refine ⟨encC cl[i] (lastC (cl.take i)) (cl.drop (i + 1)), ?_⟩
      rw [encB, hall, ← List.append_assoc, List.drop_left]; rfl
    have hla : lastC (cl.take (i + 1)) = cl[i] := by rw [htk, lastC_snoc]
    have hbe : befC (cl.take (i + 1)) = lastC (cl.take i) := by rw [htk, befC_snoc]
    have hK : (code cl.length ++ encC .z .z (cl.take (i + 1))).length = (code cl.length ++ encC .z .z (cl.take i)).length + ((four (lastC (cl.take i)) (befC (cl.take i)) cl[i]).flatMap code).length := by
      rw [hsplit]; simp only [List.length_append, fourB]; omega
    generalize cl[i] = x at *
    generalize lastC (cl.take i) = la at *
    generalize befC (cl.take i) = be at *
    generalize (code cl.length ++ encC .z .z (cl.take i)).length = K at *
    obtain ⟨ha1, ha2, ha3, ha4⟩ := hao
    obtain ⟨hb1, hb2, hb3, hb4⟩ := hbo
    have hxok := hxo
    obtain ⟨hx1, hx2, hx3, hx4⟩ := hxo
    unfold inR at ha1 ha2 ha3 ha4 hb1 hb2 hb3 hb4 hx1 hx2 hx3 hx4
    have hf4 := four_length la be x
    refine W_skip ?_
    refine n_then ?_
    refine W_seq ?_
    refine W_block ?_
    refine W_seq ?_
    refine W_region ?_
    refine s_alloc rfl AL76 hs ?_; clear hs; intro b10 w hs
    refine WL_nil ?_
    refine n_then ?_
    refine W_seq ?_
    refine W_seq ?_
    refine W_region ?_
    refine s_move rfl rfl ?_
    refine WL_nil ?_
    refine n_then ?_
    refine W_block ?_
    refine W_loop (σ := DeJ) (fun s => [(4, .pointer (some ⟨p, 0, none⟩)), (7, v7), (8, .pointer (some ⟨b8, 0, none⟩)), (9, .pointer (some ⟨b9, 0, none⟩)), (10, .pointer (some ⟨b10, 0, none⟩)), (30, .int .i64 (cl.length : Int)), (31, .int .i64 (i : Int)), (33, .int .i64 (s.j : Int))])
      (fun s w => St [] w0 w ((b10, Blk 76 (i64s (fourD (four la be x) s.j))) :: (b9, Blk 55 be.cells) :: (b8, Blk 55 la.cells) :: (s.LR ++ Lc)) ∧ RbAt p (pk (encB cl)) (K + (((four la be x).take s.j).flatMap code).length) 0 s.LR ∧ s.j ≤ 4) (fun s => 4 - s.j) ⟨0, LR⟩ ⟨rfl, rfl, rfl, rfl, rfl, rfl, rfl, rfl, trivial⟩ ⟨hs, by simpa using hR, Nat.zero_le _⟩ ?_
    clear hs hR LR
    rintro ⟨j, LR⟩ w ⟨hs, hR, hj⟩
    simp only at hs hR hj ⊢
    refine W_seq ?_
    refine W_region ?_
    refine s_lss rfl rfl rfl ?_
    refine WL_nil ?_
    refine n_then ?_
    refine W_seq ?_
    refine W_cond rfl (fun hc34 => ?_) (fun hc34 => ?_)
    · skip
      simp only [decide_eq_true_eq, decide_eq_false_iff_not, Bool.not_eq_true', Bool.not_eq_false'] at hc34
      have hj4 : j < 4 := by omega
      have hm : (four la be x).getD j 0 ∈ four la be x := by rw [List.getD_eq_getElem?_getD, List.getElem?_eq_getElem (by omega)]; simp
      have hAj : AtBits (encB cl) (code ((four la be x).getD j 0)) (K + (((four la be x).take j).flatMap code).length) := by
        have h1 := hAt
        rw [flat_split _ j (by omega)] at h1
        exact h1.right.left
      have hset := fourD_set (four la be x) j hf4 hj4
      have htf := take_flat (four la be x) j (by omega)
      have hdl := fourD_length (four la be x) j hf4 (by omega)
      generalize (four la be x).getD j 0 = z at *
      refine W_skip ?_
      refine n_then ?_
      refine W_seq ?_
      refine W_block ?_
      refine W_seq ?_
      refine W_region ?_
      refine s_move rfl rfl ?_
      refine s_assign rfl rfl ?_
      refine WL_nil ?_
      refine n_then ?_
      refine W_seq ?_
      refine W_region ?_
      refine s_move rfl rfl ?_
      refine s_move rfl rfl ?_
      refine s_callL (M := [_, _, _]) (L1 := LR) (X := Lc) Tryd.call35 rfl rfl hs (fun h => coRead_ok p (encB cl) _ z LR w (hg.st hs (by simp)) (St.new0M (M := [_, _, _]) (X := Lc) hs hg.lt) hR h (h4 z hm) hAj (by omega)) ?_
      clear hs hR; rintro v w LR ⟨hR, rfl⟩ - hs
      simp only [List.cons_append, List.nil_append] at hs
      refine s_move rfl rfl ?_
      refine s_extract rfl rfl rfl ?_
      refine s_extract rfl rfl rfl ?_
      (refine s_indexAddrA Tryd.underlying76 Tryd.sizeOf3 rfl rfl rfl ?hx ?_; case hx => (constructor <;> omega))
      refine s_store Tryd.sizeOf3 rfl rfl rfl hs (kk := 0) rfl (by simp [hdl]; omega) ?_
      clear hs; intro w hs
      simp only [List.set_cons_zero] at hs
      have hmap : (i64s (fourD (four la be x) j)).set (0 + ((j : Nat) : Int).toNat) (.int .i64 z) = i64s (fourD (four la be x) (j + 1)) := by
        rw [← hset, i64s, i64s, List.map_set, Nat.zero_add, Int.toNat_natCast]
      rw [hmap] at hs
      refine s_assign rfl rfl ?_
      refine WL_nil ?_
      refine n_then ?_
      refine W_seq ?_
      refine W_region ?_
      refine s_move rfl rfl ?_
      refine s_not rfl rfl ?_
      refine WL_nil ?_
      refine n_then ?_
      refine W_cond_kf rfl (rfl) ?_
      refine W_skip ?_
      refine n_blk ?_
      refine n_then ?_
      refine W_region ?_
      first | (refine s_add' rfl rfl rfl ?hx ?_; case hx => (constructor <;> first | omega | (simp only; omega))) | refine s_add rfl rfl rfl ?_
      refine s_move rfl rfl ?_
      refine WL_nil ?_
      refine n_loop ?_
      exact ⟨⟨j + 1, LR⟩, ⟨rfl, rfl, rfl, rfl, rfl, rfl, rfl, rfl, trivial⟩, ⟨hs, by simp only; rw [htf, List.length_append, ← Nat.add_assoc]; exact hR, by simp only; omega⟩, by simp only; omega⟩
    · skip
      simp only [decide_eq_true_eq, decide_eq_false_iff_not, Bool.not_eq_true', Bool.not_eq_false'] at hc34
      refine W_exit ?_
      refine x_then ?_
      refine x_then ?_
      refine exit_hit ?_
      refine n_then ?_
      refine W_seq ?_
      refine W_region ?_
      have hj4 : j = 4 := by omega
      subst hj4
      rw [List.take_of_length_le (by omega), ← hK] at hR
      replace hs : St [] w0 w ((b10, Blk 76 [.int .i64 (x.a - 2 * la.a + be.a), .int .i64 ((x.b - x.a) - (la.b - la.a)), .int .i64 (x.c - la.c), .int .i64 ((x.d - x.c) - (la.d - la.c))]) :: (b9, Blk 55 be.cells) :: (b8, Blk 55 la.cells) :: (LR ++ Lc)) := hs
      refine s_alloc rfl AL55 hs ?_; clear hs; intro b12 w hs
      refine WL_nil ?_
      refine n_then ?_
      refine W_seq ?_
      refine W_region ?_
      (refine s_indexAddrA Tryd.underlying76 Tryd.sizeOf3 rfl rfl rfl ?hx ?_; case hx => (constructor <;> omega))
      first
        | refine s_load Tryd.isAgg3 rfl rfl (hs.cell (k := 0) rfl rfl) ?_
        | refine s_load Tryd.isAgg3 rfl rfl (hs.cell (k := 1) rfl rfl) ?_
        | refine s_load Tryd.isAgg3 rfl rfl (hs.cell (k := 2) rfl rfl) ?_
        | refine s_load Tryd.isAgg3 rfl rfl (hs.cell (k := 3) rfl rfl) ?_
        | refine s_load Tryd.isAgg3 rfl rfl (hs.cell (k := 4) rfl rfl) ?_
        | refine s_load Tryd.isAgg3 rfl rfl (hs.cell (k := 5) rfl rfl) ?_
      refine s_fieldAddr rfl rfl (FA55_0 _ _) ?_
      first
        | refine s_load Tryd.isAgg3 rfl rfl (hs.cell (k := 0) rfl rfl) ?_
        | refine s_load Tryd.isAgg3 rfl rfl (hs.cell (k := 1) rfl rfl) ?_
        | refine s_load Tryd.isAgg3 rfl rfl (hs.cell (k := 2) rfl rfl) ?_
        | refine s_load Tryd.isAgg3 rfl rfl (hs.cell (k := 3) rfl rfl) ?_
        | refine s_load Tryd.isAgg3 rfl rfl (hs.cell (k := 4) rfl rfl) ?_
        | refine s_load Tryd.isAgg3 rfl rfl (hs.cell (k := 5) rfl rfl) ?_
      first | (refine s_mul' rfl rfl rfl ?hx ?_; case hx => (constructor <;> first | omega | (simp only; omega))) | refine s_mul rfl rfl rfl ?_
      first | (refine s_add' rfl rfl rfl ?hx ?_; case hx => (constructor <;> first | omega | (simp only; omega))) | refine s_add rfl rfl rfl ?_
      refine s_fieldAddr rfl rfl (FA55_0 _ _) ?_
      first
        | refine s_load Tryd.isAgg3 rfl rfl (hs.cell (k := 0) rfl rfl) ?_
        | refine s_load Tryd.isAgg3 rfl rfl (hs.cell (k := 1) rfl rfl) ?_
        | refine s_load Tryd.isAgg3 rfl rfl (hs.cell (k := 2) rfl rfl) ?_
        | refine s_load Tryd.isAgg3 rfl rfl (hs.cell (k := 3) rfl rfl) ?_
        | refine s_load Tryd.isAgg3 rfl rfl (hs.cell (k := 4) rfl rfl) ?_
        | refine s_load Tryd.isAgg3 rfl rfl (hs.cell (k := 5) rfl rfl) ?_
      (refine s_sub' rfl rfl rfl ?hx ?_; case hx => (constructor <;> omega))
      rw [show x.a - 2 * la.a + be.a + 2 * la.a - be.a = x.a from by omega]
      refine s_fieldAddr rfl rfl (FA55_0 _ _) ?_
      first
        | refine s_storeB Tryd.sizeOf3 rfl rfl rfl hs (kk := 0) rfl rfl ?_
        | refine s_storeB Tryd.sizeOf3 rfl rfl rfl hs (kk := 1) rfl rfl ?_
        | refine s_storeB Tryd.sizeOf3 rfl rfl rfl hs (kk := 2) rfl rfl ?_
        | refine s_storeB Tryd.sizeOf3 rfl rfl rfl hs (kk := 3) rfl rfl ?_
        | refine s_storeB Tryd.sizeOf3 rfl rfl rfl hs (kk := 4) rfl rfl ?_
        | refine s_storeB Tryd.sizeOf3 rfl rfl rfl hs (kk := 5) rfl rfl ?_
      clear hs; intro w hs; try simp only [List.set_cons_zero, List.set_cons_succ, splice, List.take_succ_cons, List.take_zero, List.drop_succ_cons, List.drop_zero, List.nil_append, List.cons_append, List.length_cons, List.length_nil, Nat.reduceAdd, List.append_assoc] at hs
      refine WL_nil ?_
      refine n_then ?_
      refine W_seq ?_
      refine W_region ?_
      refine s_fieldAddr rfl rfl (FA55_0 _ _) ?_
      first
        | refine s_load Tryd.isAgg3 rfl rfl (hs.cell (k := 0) rfl rfl) ?_
        | refine s_load Tryd.isAgg3 rfl rfl (hs.cell (k := 1) rfl rfl) ?_
        | refine s_load Tryd.isAgg3 rfl rfl (hs.cell (k := 2) rfl rfl) ?_
        | refine s_load Tryd.isAgg3 rfl rfl (hs.cell (k := 3) rfl rfl) ?_
        | refine s_load Tryd.isAgg3 rfl rfl (hs.cell (k := 4) rfl rfl) ?_
        | refine s_load Tryd.isAgg3 rfl rfl (hs.cell (k := 5) rfl rfl) ?_
      (refine s_indexAddrA Tryd.underlying76 Tryd.sizeOf3 rfl rfl rfl ?hx ?_; case hx => (constructor <;> omega))
      first
        | refine s_load Tryd.isAgg3 rfl rfl (hs.cell (k := 0) rfl rfl) ?_
        | refine s_load Tryd.isAgg3 rfl rfl (hs.cell (k := 1) rfl rfl) ?_
        | refine s_load Tryd.isAgg3 rfl rfl (hs.cell (k := 2) rfl rfl) ?_
        | refine s_load Tryd.isAgg3 rfl rfl (hs.cell (k := 3) rfl rfl) ?_
        | refine s_load Tryd.isAgg3 rfl rfl (hs.cell (k := 4) rfl rfl) ?_
        | refine s_load Tryd.isAgg3 rfl rfl (hs.cell (k := 5) rfl rfl) ?_
      first | (refine s_add' rfl rfl rfl ?hx ?_; case hx => (constructor <;> first | omega | (simp only; omega))) | refine s_add rfl rfl rfl ?_
      refine s_fieldAddr rfl rfl (FA55_1 _ _) ?_
      first
        | refine s_load Tryd.isAgg3 rfl rfl (hs.cell (k := 0) rfl rfl) ?_
        | refine s_load Tryd.isAgg3 rfl rfl (hs.cell (k := 1) rfl rfl) ?_
        | refine s_load Tryd.isAgg3 rfl rfl (hs.cell (k := 2) rfl rfl) ?_
        | refine s_load Tryd.isAgg3 rfl rfl (hs.cell (k := 3) rfl rfl) ?_
        | refine s_load Tryd.isAgg3 rfl rfl (hs.cell (k := 4) rfl rfl) ?_
        | refine s_load Tryd.isAgg3 rfl rfl (hs.cell (k := 5) rfl rfl) ?_
      refine s_fieldAddr rfl rfl (FA55_0 _ _) ?_
      first
        | refine s_load Tryd.isAgg3 rfl rfl (hs.cell (k := 0) rfl rfl) ?_
        | refine s_load Tryd.isAgg3 rfl rfl (hs.cell (k := 1) rfl rfl) ?_
        | refine s_load Tryd.isAgg3 rfl rfl (hs.cell (k := 2) rfl rfl) ?_
        | refine s_load Tryd.isAgg3 rfl rfl (hs.cell (k := 3) rfl rfl) ?_
        | refine s_load Tryd.isAgg3 rfl rfl (hs.cell (k := 4) rfl rfl) ?_
        | refine s_load Tryd.isAgg3 rfl rfl (hs.cell (k := 5) rfl rfl) ?_
      first | (refine s_sub' rfl rfl rfl ?hx ?_; case hx => (constructor <;> first | omega | (simp only; omega))) | refine s_sub rfl rfl rfl ?_
      (refine s_add' rfl rfl rfl ?hx ?_; case hx => (constructor <;> omega))
      rw [show x.a + ((x.b - x.a) - (la.b - la.a)) + (la.b - la.a) = x.b from by omega]
      refine s_fieldAddr rfl rfl (FA55_1 _ _) ?_
      first
        | refine s_storeB Tryd.sizeOf3 rfl rfl rfl hs (kk := 0) rfl rfl ?_
        | refine s_storeB Tryd.sizeOf3 rfl rfl rfl hs (kk := 1) rfl rfl ?_
        | refine s_storeB Tryd.sizeOf3 rfl rfl rfl hs (kk := 2) rfl rfl ?_
        | refine s_storeB Tryd.sizeOf3 rfl rfl rfl hs (kk := 3) rfl rfl ?_
        | refine s_storeB Tryd.sizeOf3 rfl rfl rfl hs (kk := 4) rfl rfl ?_
        | refine s_storeB Tryd.sizeOf3 rfl rfl rfl hs (kk := 5) rfl rfl ?_
      clear hs; intro w hs; try simp only [List.set_cons_zero, List.set_cons_succ, splice, List.take_succ_cons, List.take_zero, List.drop_succ_cons, List.drop_zero, List.nil_append, List.cons_append, List.length_cons, List.length_nil, Nat.reduceAdd, List.append_assoc] at hs
      refine WL_nil ?_
      refine n_then ?_
      refine W_seq ?_
      refine W_region ?_
      (refine s_indexAddrA Tryd.underlying76 Tryd.sizeOf3 rfl rfl rfl ?hx ?_; case hx => (constructor <;> omega))
      first
        | refine s_load Tryd.isAgg3 rfl rfl (hs.cell (k := 0) rfl rfl) ?_
        | refine s_load Tryd.isAgg3 rfl rfl (hs.cell (k := 1) rfl rfl) ?_
        | refine s_load Tryd.isAgg3 rfl rfl (hs.cell (k := 2) rfl rfl) ?_
        | refine s_load Tryd.isAgg3 rfl rfl (hs.cell (k := 3) rfl rfl) ?_
        | refine s_load Tryd.isAgg3 rfl rfl (hs.cell (k := 4) rfl rfl) ?_
        | refine s_load Tryd.isAgg3 rfl rfl (hs.cell (k := 5) rfl rfl) ?_
      refine s_fieldAddr rfl rfl (FA55_2 _ _) ?_
      first
        | refine s_load Tryd.isAgg3 rfl rfl (hs.cell (k := 0) rfl rfl) ?_
        | refine s_load Tryd.isAgg3 rfl rfl (hs.cell (k := 1) rfl rfl) ?_
        | refine s_load Tryd.isAgg3 rfl rfl (hs.cell (k := 2) rfl rfl) ?_
        | refine s_load Tryd.isAgg3 rfl rfl (hs.cell (k := 3) rfl rfl) ?_
        | refine s_load Tryd.isAgg3 rfl rfl (hs.cell (k := 4) rfl rfl) ?_
        | refine s_load Tryd.isAgg3 rfl rfl (hs.cell (k := 5) rfl rfl) ?_
      (refine s_add' rfl rfl rfl ?hx ?_; case hx => (constructor <;> omega))
      rw [show x.c - la.c + la.c = x.c from by omega]
      refine s_fieldAddr rfl rfl (FA55_2 _ _) ?_
      first
        | refine s_storeB Tryd.sizeOf3 rfl rfl rfl hs (kk := 0) rfl rfl ?_
        | refine s_storeB Tryd.sizeOf3 rfl rfl rfl hs (kk := 1) rfl rfl ?_
        | refine s_storeB Tryd.sizeOf3 rfl rfl rfl hs (kk := 2) rfl rfl ?_
        | refine s_storeB Tryd.sizeOf3 rfl rfl rfl hs (kk := 3) rfl rfl ?_
        | refine s_storeB Tryd.sizeOf3 rfl rfl rfl hs (kk := 4) rfl rfl ?_
        | refine s_storeB Tryd.sizeOf3 rfl rfl rfl hs (kk := 5) rfl rfl ?_
      clear hs; intro w hs; try simp only [List.set_cons_zero, List.set_cons_succ, splice, List.take_succ_cons, List.take_zero, List.drop_succ_cons, List.drop_zero, List.nil_append, List.cons_append, List.length_cons, List.length_nil, Nat.reduceAdd, List.append_assoc] at hs
      refine WL_nil ?_
      refine n_then ?_
      refine W_seq ?_
      refine W_region ?_
      refine s_fieldAddr rfl rfl (FA55_2 _ _) ?_
      first
        | refine s_load Tryd.isAgg3 rfl rfl (hs.cell (k := 0) rfl rfl) ?_
        | refine s_load Tryd.isAgg3 rfl rfl (hs.cell (k := 1) rfl rfl) ?_
        | refine s_load Tryd.isAgg3 rfl rfl (hs.cell (k := 2) rfl rfl) ?_
        | refine s_load Tryd.isAgg3 rfl rfl (hs.cell (k := 3) rfl rfl) ?_
        | refine s_load Tryd.isAgg3 rfl rfl (hs.cell (k := 4) rfl rfl) ?_
        | refine s_load Tryd.isAgg3 rfl rfl (hs.cell (k := 5) rfl rfl) ?_
      (refine s_indexAddrA Tryd.underlying76 Tryd.sizeOf3 rfl rfl rfl ?hx ?_; case hx => (constructor <;> omega))
      first
        | refine s_load Tryd.isAgg3 rfl rfl (hs.cell (k := 0) rfl rfl) ?_
        | refine s_load Tryd.isAgg3 rfl rfl (hs.cell (k := 1) rfl rfl) ?_
        | refine s_load Tryd.isAgg3 rfl rfl (hs.cell (k := 2) rfl rfl) ?_
        | refine s_load Tryd.isAgg3 rfl rfl (hs.cell (k := 3) rfl rfl) ?_
        | refine s_load Tryd.isAgg3 rfl rfl (hs.cell (k := 4) rfl rfl) ?_
        | refine s_load Tryd.isAgg3 rfl rfl (hs.cell (k := 5) rfl rfl) ?_
      first | (refine s_add' rfl rfl rfl ?hx ?_; case hx => (constructor <;> first | omega | (simp only; omega))) | refine s_add rfl rfl rfl ?_
      refine s_fieldAddr rfl rfl (FA55_3 _ _) ?_
      first
        | refine s_load Tryd.isAgg3 rfl rfl (hs.cell (k := 0) rfl rfl) ?_
        | refine s_load Tryd.isAgg3 rfl rfl (hs.cell (k := 1) rfl rfl) ?_
        | refine s_load Tryd.isAgg3 rfl rfl (hs.cell (k := 2) rfl rfl) ?_
        | refine s_load Tryd.isAgg3 rfl rfl (hs.cell (k := 3) rfl rfl) ?_
        | refine s_load Tryd.isAgg3 rfl rfl (hs.cell (k := 4) rfl rfl) ?_
        | refine s_load Tryd.isAgg3 rfl rfl (hs.cell (k := 5) rfl rfl) ?_
      refine s_fieldAddr rfl rfl (FA55_2 _ _) ?_
      first
        | refine s_load Tryd.isAgg3 rfl rfl (hs.cell (k := 0) rfl rfl) ?_
        | refine s_load Tryd.isAgg3 rfl rfl (hs.cell (k := 1) rfl rfl) ?_
        | refine s_load Tryd.isAgg3 rfl rfl (hs.cell (k := 2) rfl rfl) ?_
        | refine s_load Tryd.isAgg3 rfl rfl (hs.cell (k := 3) rfl rfl) ?_
        | refine s_load Tryd.isAgg3 rfl rfl (hs.cell (k := 4) rfl rfl) ?_
        | refine s_load Tryd.isAgg3 rfl rfl (hs.cell (k := 5) rfl rfl) ?_
      first | (refine s_sub' rfl rfl rfl ?hx ?_; case hx => (constructor <;> first | omega | (simp only; omega))) | refine s_sub rfl rfl rfl ?_
      (refine s_add' rfl rfl rfl ?hx ?_; case hx => (constructor <;> omega))
      rw [show x.c + ((x.d - x.c) - (la.d - la.c)) + (la.d - la.c) = x.d from by omega]
      refine s_fieldAddr rfl rfl (FA55_3 _ _) ?_
      first
        | refine s_storeB Tryd.sizeOf3 rfl rfl rfl hs (kk := 0) rfl rfl ?_
        | refine s_storeB Tryd.sizeOf3 rfl rfl rfl hs (kk := 1) rfl rfl ?_
        | refine s_storeB Tryd.sizeOf3 rfl rfl rfl hs (kk := 2) rfl rfl ?_
        | refine s_storeB Tryd.sizeOf3 rfl rfl rfl hs (kk := 3) rfl rfl ?_
        | refine s_storeB Tryd.sizeOf3 rfl rfl rfl hs (kk := 4) rfl rfl ?_
        | refine s_storeB Tryd.sizeOf3 rfl rfl rfl hs (kk := 5) rfl rfl ?_
      clear hs; intro w hs; try simp only [List.set_cons_zero, List.set_cons_succ, splice, List.take_succ_cons, List.take_zero, List.drop_succ_cons, List.drop_zero, List.nil_append, List.cons_append, List.length_cons, List.length_nil, Nat.reduceAdd, List.append_assoc] at hs
      refine WL_nil ?_
      refine n_then ?_
      refine W_seq ?_
      refine W_seq ?_
      refine W_region ?_
      first
        | refine s_loadW Tryd.isAgg55 Tryd.sizeOf55 rfl rfl hs (kk := 0) rfl rfl ?_
        | refine s_loadW Tryd.isAgg55 Tryd.sizeOf55 rfl rfl hs (kk := 1) rfl rfl ?_
        | refine s_loadW Tryd.isAgg55 Tryd.sizeOf55 rfl rfl hs (kk := 2) rfl rfl ?_
        | refine s_loadW Tryd.isAgg55 Tryd.sizeOf55 rfl rfl hs (kk := 3) rfl rfl ?_
        | refine s_loadW Tryd.isAgg55 Tryd.sizeOf55 rfl rfl hs (kk := 4) rfl rfl ?_
        | refine s_loadW Tryd.isAgg55 Tryd.sizeOf55 rfl rfl hs (kk := 5) rfl rfl ?_
        | refine s_load_4 Tryd.isAgg55 Tryd.sizeOf55 rfl rfl (by first | exact hs.cell (k := 0) rfl rfl | exact hs.cell (k := 1) rfl rfl | exact hs.cell (k := 2) rfl rfl | exact hs.cell (k := 3) rfl rfl | exact hs.cell (k := 4) rfl rfl | exact hs.cell (k := 5) rfl rfl) (by first | exact hs.cell (k := 0) rfl rfl | exact hs.cell (k := 1) rfl rfl | exact hs.cell (k := 2) rfl rfl | exact hs.cell (k := 3) rfl rfl | exact hs.cell (k := 4) rfl rfl | exact hs.cell (k := 5) rfl rfl) (by first | exact hs.cell (k := 0) rfl rfl | exact hs.cell (k := 1) rfl rfl | exact hs.cell (k := 2) rfl rfl | exact hs.cell (k := 3) rfl rfl | exact hs.cell (k := 4) rfl rfl | exact hs.cell (k := 5) rfl rfl) (by first | exact hs.cell (k := 0) rfl rfl | exact hs.cell (k := 1) rfl rfl | exact hs.cell (k := 2) rfl rfl | exact hs.cell (k := 3) rfl rfl | exact hs.cell (k := 4) rfl rfl | exact hs.cell (k := 5) rfl rfl) ?_
      refine s_call Tryd.call25 rfl rfl (encodable_ok x w) ?_
      rintro r w ⟨hst, rfl⟩
      replace hs := hs.fwd1 hst
      clear hst
      refine s_not rfl rfl ?_
      refine WL_nil ?_
      refine n_then ?_
      refine W_cond_kf rfl ((by simp [hxok])) ?_
      refine W_skip ?_
      refine n_then ?_
      refine W_seq ?_
      refine W_region ?_
      refine s_move rfl rfl ?_
      first
        | refine s_loadW Tryd.isAgg55 Tryd.sizeOf55 rfl rfl hs (kk := 0) rfl rfl ?_
        | refine s_loadW Tryd.isAgg55 Tryd.sizeOf55 rfl rfl hs (kk := 1) rfl rfl ?_
        | refine s_loadW Tryd.isAgg55 Tryd.sizeOf55 rfl rfl hs (kk := 2) rfl rfl ?_
        | refine s_loadW Tryd.isAgg55 Tryd.sizeOf55 rfl rfl hs (kk := 3) rfl rfl ?_
        | refine s_loadW Tryd.isAgg55 Tryd.sizeOf55 rfl rfl hs (kk := 4) rfl rfl ?_
        | refine s_loadW Tryd.isAgg55 Tryd.sizeOf55 rfl rfl hs (kk := 5) rfl rfl ?_
        | refine s_load_4 Tryd.isAgg55 Tryd.sizeOf55 rfl rfl (by first | exact hs.cell (k := 0) rfl rfl | exact hs.cell (k := 1) rfl rfl | exact hs.cell (k := 2) rfl rfl | exact hs.cell (k := 3) rfl rfl | exact hs.cell (k := 4) rfl rfl | exact hs.cell (k := 5) rfl rfl) (by first | exact hs.cell (k := 0) rfl rfl | exact hs.cell (k := 1) rfl rfl | exact hs.cell (k := 2) rfl rfl | exact hs.cell (k := 3) rfl rfl | exact hs.cell (k := 4) rfl rfl | exact hs.cell (k := 5) rfl rfl) (by first | exact hs.cell (k := 0) rfl rfl | exact hs.cell (k := 1) rfl rfl | exact hs.cell (k := 2) rfl rfl | exact hs.cell (k := 3) rfl rfl | exact hs.cell (k := 4) rfl rfl | exact hs.cell (k := 5) rfl rfl) (by first | exact hs.cell (k := 0) rfl rfl | exact hs.cell (k := 1) rfl rfl | exact hs.cell (k := 2) rfl rfl | exact hs.cell (k := 3) rfl rfl | exact hs.cell (k := 4) rfl rfl | exact hs.cell (k := 5) rfl rfl) ?_
      refine s_buildSlice rfl rfl (BS27_1 _ _ _ _) hs ?_; clear hs; intro b91 w hs
      refine s_appendM (M := [_, _, _, _, _] ++ LR) (X := []) El27 rfl rfl rfl hO (by simpa using hs) (hs.sl (k := 0) (ds := x.cells) rfl (Nat.le_refl _) (by intro j u hj; rw [Nat.zero_add]; exact hj)) rfl (by intro u hu; simp only [Cl.cells, List.mem_cons, List.not_mem_nil, or_false] at hu; rcases hu with rfl | rfl | rfl | rfl <;> rfl) (by omega) ?_
      clear hs; intro v' w Lc' hO' hs
      simp only [List.cons_append, List.nil_append, List.append_nil] at hs
      rw [← hcl4] at hO'
      refine s_assign rfl rfl ?_
      refine WL_nil ?_
      refine n_then ?_
      refine W_region ?_
      first
        | refine s_loadW Tryd.isAgg55 Tryd.sizeOf55 rfl rfl hs (kk := 0) rfl rfl ?_
        | refine s_loadW Tryd.isAgg55 Tryd.sizeOf55 rfl rfl hs (kk := 1) rfl rfl ?_
        | refine s_loadW Tryd.isAgg55 Tryd.sizeOf55 rfl rfl hs (kk := 2) rfl rfl ?_
        | refine s_loadW Tryd.isAgg55 Tryd.sizeOf55 rfl rfl hs (kk := 3) rfl rfl ?_
        | refine s_loadW Tryd.isAgg55 Tryd.sizeOf55 rfl rfl hs (kk := 4) rfl rfl ?_
        | refine s_loadW Tryd.isAgg55 Tryd.sizeOf55 rfl rfl hs (kk := 5) rfl rfl ?_
        | refine s_load_4 Tryd.isAgg55 Tryd.sizeOf55 rfl rfl (by first | exact hs.cell (k := 0) rfl rfl | exact hs.cell (k := 1) rfl rfl | exact hs.cell (k := 2) rfl rfl | exact hs.cell (k := 3) rfl rfl | exact hs.cell (k := 4) rfl rfl | exact hs.cell (k := 5) rfl rfl) (by first | exact hs.cell (k := 0) rfl rfl | exact hs.cell (k := 1) rfl rfl | exact hs.cell (k := 2) rfl rfl | exact hs.cell (k := 3) rfl rfl | exact hs.cell (k := 4) rfl rfl | exact hs.cell (k := 5) rfl rfl) (by first | exact hs.cell (k := 0) rfl rfl | exact hs.cell (k := 1) rfl rfl | exact hs.cell (k := 2) rfl rfl | exact hs.cell (k := 3) rfl rfl | exact hs.cell (k := 4) rfl rfl | exact hs.cell (k := 5) rfl rfl) (by first | exact hs.cell (k := 0) rfl rfl | exact hs.cell (k := 1) rfl rfl | exact hs.cell (k := 2) rfl rfl | exact hs.cell (k := 3) rfl rfl | exact hs.cell (k := 4) rfl rfl | exact hs.cell (k := 5) rfl rfl) ?_
      first
        | refine s_loadW Tryd.isAgg55 Tryd.sizeOf55 rfl rfl hs (kk := 0) rfl rfl ?_
        | refine s_loadW Tryd.isAgg55 Tryd.sizeOf55 rfl rfl hs (kk := 1) rfl rfl ?_
        | refine s_loadW Tryd.isAgg55 Tryd.sizeOf55 rfl rfl hs (kk := 2) rfl rfl ?_
        | refine s_loadW Tryd.isAgg55 Tryd.sizeOf55 rfl rfl hs (kk := 3) rfl rfl ?_
        | refine s_loadW Tryd.isAgg55 Tryd.sizeOf55 rfl rfl hs (kk := 4) rfl rfl ?_
        | refine s_loadW Tryd.isAgg55 Tryd.sizeOf55 rfl rfl hs (kk := 5) rfl rfl ?_
        | refine s_load_4 Tryd.isAgg55 Tryd.sizeOf55 rfl rfl (by first | exact hs.cell (k := 0) rfl rfl | exact hs.cell (k := 1) rfl rfl | exact hs.cell (k := 2) rfl rfl | exact hs.cell (k := 3) rfl rfl | exact hs.cell (k := 4) rfl rfl | exact hs.cell (k := 5) rfl rfl) (by first | exact hs.cell (k := 0) rfl rfl | exact hs.cell (k := 1) rfl rfl | exact hs.cell (k := 2) rfl rfl | exact hs.cell (k := 3) rfl rfl | exact hs.cell (k := 4) rfl rfl | exact hs.cell (k := 5) rfl rfl) (by first | exact hs.cell (k := 0) rfl rfl | exact hs.cell (k := 1) rfl rfl | exact hs.cell (k := 2) rfl rfl | exact hs.cell (k := 3) rfl rfl | exact hs.cell (k := 4) rfl rfl | exact hs.cell (k := 5) rfl rfl) (by first | exact hs.cell (k := 0) rfl rfl | exact hs.cell (k := 1) rfl rfl | exact hs.cell (k := 2) rfl rfl | exact hs.cell (k := 3) rfl rfl | exact hs.cell (k := 4) rfl rfl | exact hs.cell (k := 5) rfl rfl) ?_
      first
        | refine s_storeW Tryd.sizeOf55 rfl rfl rfl rfl hs (kk := 0) rfl rfl ?_
        | refine s_storeW Tryd.sizeOf55 rfl rfl rfl rfl hs (kk := 1) rfl rfl ?_
        | refine s_storeW Tryd.sizeOf55 rfl rfl rfl rfl hs (kk := 2) rfl rfl ?_
        | refine s_storeW Tryd.sizeOf55 rfl rfl rfl rfl hs (kk := 3) rfl rfl ?_
        | refine s_storeW Tryd.sizeOf55 rfl rfl rfl rfl hs (kk := 4) rfl rfl ?_
        | refine s_storeW Tryd.sizeOf55 rfl rfl rfl rfl hs (kk := 5) rfl rfl ?_
        | refine s_storeAB Tryd.sizeOf55 rfl rfl rfl rfl hs (kk := 0) rfl rfl ?_
        | refine s_storeAB Tryd.sizeOf55 rfl rfl rfl rfl hs (kk := 1) rfl rfl ?_
        | refine s_storeAB Tryd.sizeOf55 rfl rfl rfl rfl hs (kk := 2) rfl rfl ?_
        | refine s_storeAB Tryd.sizeOf55 rfl rfl rfl rfl hs (kk := 3) rfl rfl ?_
        | refine s_storeAB Tryd.sizeOf55 rfl rfl rfl rfl hs (kk := 4) rfl rfl ?_
        | refine s_storeAB Tryd.sizeOf55 rfl rfl rfl rfl hs (kk := 5) rfl rfl ?_
      clear hs; intro w hs; try simp only [List.set_cons_zero, List.set_cons_succ, splice, List.take_succ_cons, List.take_zero, List.drop_succ_cons, List.drop_zero, List.nil_append, List.cons_append, List.length_cons, List.length_nil, Nat.reduceAdd, List.append_assoc] at hs
      first
        | refine s_storeW Tryd.sizeOf55 rfl rfl rfl rfl hs (kk := 0) rfl rfl ?_
        | refine s_storeW Tryd.sizeOf55 rfl rfl rfl rfl hs (kk := 1) rfl rfl ?_
        | refine s_storeW Tryd.sizeOf55 rfl rfl rfl rfl hs (kk := 2) rfl rfl ?_
        | refine s_storeW Tryd.sizeOf55 rfl rfl rfl rfl hs (kk := 3) rfl rfl ?_
        | refine s_storeW Tryd.sizeOf55 rfl rfl rfl rfl hs (kk := 4) rfl rfl ?_
        | refine s_storeW Tryd.sizeOf55 rfl rfl rfl rfl hs (kk := 5) rfl rfl ?_
        | refine s_storeAB Tryd.sizeOf55 rfl rfl rfl rfl hs (kk := 0) rfl rfl ?_
        | refine s_storeAB Tryd.sizeOf55 rfl rfl rfl rfl hs (kk := 1) rfl rfl ?_
        | refine s_storeAB Tryd.sizeOf55 rfl rfl rfl rfl hs (kk := 2) rfl rfl ?_
        | refine s_storeAB Tryd.sizeOf55 rfl rfl rfl rfl hs (kk := 3) rfl rfl ?_
        | refine s_storeAB Tryd.sizeOf55 rfl rfl rfl rfl hs (kk := 4) rfl rfl ?_
        | refine s_storeAB Tryd.sizeOf55 rfl rfl rfl rfl hs (kk := 5) rfl rfl ?_
      clear hs; intro w hs; try simp only [List.set_cons_zero, List.set_cons_succ, splice, List.take_succ_cons, List.take_zero, List.drop_succ_cons, List.drop_zero, List.nil_append, List.cons_append, List.length_cons, List.length_nil, Nat.reduceAdd, List.append_assoc] at hs
      refine WL_nil ?_
      refine n_blk ?_
      refine n_then ?_
      refine W_region ?_
      first | (refine s_add' rfl rfl rfl ?hx ?_; case hx => (constructor <;> first | omega | (simp only; omega))) | refine s_add rfl rfl rfl ?_
      refine s_move rfl rfl ?_
      refine WL_nil ?_
      refine n_loop ?_
      refine ⟨⟨i + 1, v', LR, Lc'⟩, ⟨rfl, rfl, rfl, rfl, rfl, rfl, trivial⟩, ⟨?_, hR, hO', by simp only; omega⟩, by simp only; omega⟩
      simp only; rw [hla, hbe]; exact hs.tail.tail.tail
  · skip
    simp only [decide_eq_true_eq, decide_eq_false_iff_not, Bool.not_eq_true', Bool.not_eq_false'] at hc32
    refine W_exit ?_
    refine x_then ?_
    refine x_then ?_
    refine exit_hit ?_
    refine n_then ?_
    refine W_seq ?_
    refine W_seq ?_
    refine W_region ?_
    refine s_move rfl rfl ?_
    have hib : i = cl.length := by omega
    rw [hib, List.take_of_length_le (Nat.le_refl _)] at hR hO
    replace hR : RbAt p (pk (encB cl)) (encB cl).length 0 LR := hR
    refine s_callL (M := [_, _]) (L1 := LR) (X := Lc) Tryd.call36 rfl rfl hs (fun h => bEnd_ok p _ _ _ LR w hR h) ?_
    rw [reV_end]
    clear hs; rintro v w L9 ⟨hL9, rfl⟩ - hs
    rw [hL9] at hs; clear hL9 L9
    simp only [List.cons_append, List.nil_append] at hs
    refine s_neq rfl rfl rfl ?_
    refine WL_nil ?_
    refine n_then ?_
    refine W_cond_kf rfl (rfl) ?_
    refine W_skip ?_
    refine n_then ?_
    refine W_seq ?_
    refine W_region ?_
    refine s_move rfl rfl ?_
    refine s_assign rfl rfl ?_
    refine s_assign rfl rfl ?_
    refine WL_nil ?_
    refine n_then ?_
    refine W_ret ?_
    exact end2 rfl rfl rfl ⟨v7, Lc, rfl, hO, St.right (M := LR) hs.tail.tail⟩
/-- the same claims in two slices -/
theorem clSame_ok (va vb : Value) (cl : List Cl) (w0 : World) (ha : Sl w0 va cl.length (cls cl)) (hb : Sl w0 vb cl.length (cls cl)) (hl : cl.length ≤ 4096) :
    Ret Tryd.prog 40 [va, vb].toArray w0 fun r w' => Fwd [] w0 w' ∧ r = .bool true := by
  obtain ⟨a, ca, rfl, _⟩ := ha.len_le
  obtain ⟨b, cb, rfl, _⟩ := hb.len_le
  refine Ret_start fun w hs => ?_
  refine Ret_of Tryd.func40 rfl Tryd.ntmps40 rfl ?_
  refine W_seq ?_
  refine W_region ?_
  refine s_assign rfl rfl ?_
  refine WL_nil ?_
  refine n_then ?_
  refine W_seq ?_
  refine W_seq ?_
  refine W_region ?_
  refine s_move rfl rfl ?_
  refine s_len rfl rfl (LN27 _ _ _ _) ?_
  refine s_move rfl rfl ?_
  refine s_len rfl rfl (LN27 _ _ _ _) ?_
  refine s_neq rfl rfl rfl ?_
  refine WL_nil ?_
  refine n_then ?_
  refine W_cond_kf rfl ((by simp)) ?_
  refine W_skip ?_
  refine n_then ?_
  refine W_seq ?_
  refine W_seq ?_
  refine W_region ?_
  refine s_assign rfl rfl ?_
  refine WL_nil ?_
  refine n_then ?_
  refine W_block ?_
  refine W_loop (σ := Nat) (fun s => [(0, .slice a cl.length ca), (1, .slice b cl.length cb), (5, .int .i64 (s : Int))]) (fun s w => St [] w0 w [] ∧ s ≤ cl.length) (fun s => cl.length - s) 0 ⟨rfl, rfl, rfl, trivial⟩ ⟨hs, Nat.zero_le _⟩ ?_
  clear hs
  rintro i w ⟨hs, hi⟩
  refine W_seq ?_
  refine W_seq ?_
  refine W_region ?_
  refine s_move rfl rfl ?_
  refine s_move rfl rfl ?_
  refine s_len rfl rfl (LN27 _ _ _ _) ?_
  refine s_lss rfl rfl rfl ?_
  refine WL_nil ?_
  refine n_then ?_
  refine W_cond rfl (fun hc14 => ?_) (fun hc14 => ?_)
  · skip
    simp only [decide_eq_true_eq, decide_eq_false_iff_not] at hc14
    have hil : i < cl.length := by omega
    have hxi : cl[i]? = some cl[i] := List.getElem?_eq_getElem hil
    obtain ⟨b1, o1, hA1, hB1, hc1⟩ := cl_at ha hxi
    obtain ⟨b2, o2, hA2, hB2, hc2⟩ := cl_at hb hxi
    generalize cl[i] = x at *
    refine W_skip ?_
    refine n_then ?_
    refine W_seq ?_
    refine W_block ?_
    refine W_seq ?_
    refine W_draw [(0, true, []), (1, true, []), (2, true, []), (3, true, []), (4, true, []), (5, true, []), (6, true, []), (7, true, []), (8, true, [])] [[], [], [0, 1], [0, 1, 2], [], [], [4, 5], [4, 5, 6], [0, 1, 2, 3, 4, 5, 6, 7]] MX (by kernel_rfl) ?_
    intro w1 hw1 hw2 hw3 hw4; replace hs := hs.redrawn hw1 hw2 hw3 hw4; clear hw1 hw2 hw3 hw4
    obtain ⟨w, rfl⟩ : ∃ w : World, w = w1 := ⟨_, rfl⟩
    refine D_q rfl rfl ?_
    refine s_move rfl rfl ?_
    refine D_qn ?_
    refine D_q rfl rfl ?_
    refine s_move rfl rfl ?_
    refine D_qn ?_
    refine D_q rfl rfl ?_
    (refine s_indexAddrP El27 rfl rfl rfl hA1 ?hx ?_; case hx => (constructor <;> omega))
    refine D_qn ?_
    refine D_q rfl rfl ?_
    refine s_load_4 Tryd.isAgg55 Tryd.sizeOf55 rfl rfl ((hs.oldcell (a := ⟨b1, _, none⟩) hB1 (by simp)).trans (hc1 0 _ (by omega) rfl)) ((hs.oldcell (a := ⟨b1, _, none⟩) hB1 (by simp)).trans (hc1 1 _ (by omega) rfl)) ((hs.oldcell (a := ⟨b1, _, none⟩) hB1 (by simp)).trans (hc1 2 _ (by omega) rfl)) ((hs.oldcell (a := ⟨b1, _, none⟩) hB1 (by simp)).trans (hc1 3 _ (by omega) rfl)) ?_
    refine D_qn ?_
    refine D_q rfl rfl ?_
    refine s_move rfl rfl ?_
    refine D_qn ?_
    refine D_q rfl rfl ?_
    refine s_move rfl rfl ?_
    refine D_qn ?_
    refine D_q rfl rfl ?_
    (refine s_indexAddrP El27 rfl rfl rfl hA2 ?hx ?_; case hx => (constructor <;> omega))
    refine D_qn ?_
    refine D_q rfl rfl ?_
    refine s_load_4 Tryd.isAgg55 Tryd.sizeOf55 rfl rfl ((hs.oldcell (a := ⟨b2, _, none⟩) hB2 (by simp)).trans (hc2 0 _ (by omega) rfl)) ((hs.oldcell (a := ⟨b2, _, none⟩) hB2 (by simp)).trans (hc2 1 _ (by omega) rfl)) ((hs.oldcell (a := ⟨b2, _, none⟩) hB2 (by simp)).trans (hc2 2 _ (by omega) rfl)) ((hs.oldcell (a := ⟨b2, _, none⟩) hB2 (by simp)).trans (hc2 3 _ (by omega) rfl)) ?_
    refine D_qn ?_
    refine D_q rfl rfl ?_
    refine s_neq_agg EG55 rfl rfl rfl (SE55 _ _ _ _ _ _ _ _) ?_
    refine D_qn ?_
    refine D_nil ?_
    refine n_then ?_
    refine W_cond_kf rfl ((by simp)) ?_
    refine W_skip ?_
    refine n_blk ?_
    refine n_then ?_
    refine W_region ?_
    refine s_move rfl rfl ?_
    first | (refine s_add' rfl rfl rfl ?hx ?_; case hx => (constructor <;> first | omega | (simp only; omega))) | refine s_add rfl rfl rfl ?_
    refine s_assign rfl rfl ?_
    refine WL_nil ?_
    refine n_loop ?_
    exact ⟨i + 1, ⟨rfl, rfl, rfl, trivial⟩, ⟨hs, by omega⟩, by omega⟩
  · skip
    simp only [decide_eq_true_eq, decide_eq_false_iff_not] at hc14
    refine W_exit ?_
    refine x_then ?_
    refine x_then ?_
    refine exit_hit ?_
    refine n_then ?_
    refine W_seq ?_
    refine W_region ?_
    refine s_assign rfl rfl ?_
    refine WL_nil ?_
    refine n_then ?_
    refine W_ret ?_
    exact end1 rfl rfl ⟨hs.fwd, rfl⟩
theorem clSame15_ok (va vb : Value) (cl : List Cl) (w0 : World) (ha : Sl w0 va cl.length (cls cl)) (hb : Sl w0 vb cl.length (cls cl)) (hl : cl.length ≤ 4096) :
    Ret Tryd.prog 20 [va, vb].toArray w0 fun r w' => Fwd [] w0 w' ∧ r = .bool true := by
  refine Ret_start fun w hs => ?_
  refine Ret_of Tryd.func20 rfl Tryd.ntmps20 rfl ?_
  refine W_seq ?_
  refine W_region ?_
  refine s_assign rfl rfl ?_
  refine WL_nil ?_
  refine n_then ?_
  refine W_seq ?_
  refine W_region ?_
  refine s_move rfl rfl ?_
  refine s_move rfl rfl ?_
  refine s_call Tryd.call40 rfl rfl (clSame_ok va vb cl w (ha.fwd0 hs.fwd) (hb.fwd0 hs.fwd) hl) ?_
  rintro r w ⟨hst, rfl⟩
  replace hs := hs.fwd1 hst
  clear hst
  refine s_assign rfl rfl ?_
  refine WL_nil ?_
  refine n_then ?_
  refine W_ret ?_
  exact end1 rfl rfl ⟨hs.fwd, rfl⟩
end Go.Proofs.YtbcdnpjcbchbjaaDoor
