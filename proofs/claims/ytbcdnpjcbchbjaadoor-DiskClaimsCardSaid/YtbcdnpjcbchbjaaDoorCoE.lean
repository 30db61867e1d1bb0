/- Contracts of package codec: Encode. -/
import Derived.Test.YtbcdnpjcbchbjaaDoorCoW
import Derived.Test.YtbcdnpjcbchbjaaDoorStr
set_option linter.unusedVariables false
set_option linter.unusedSimpArgs false
namespace Go.SL
theorem St.new0M {w0 w : World} {M L X : Hp} (hs : St [] w0 w (M ++ (L ++ X))) {b : Nat} (hb : b < w0.heap.size) : b ∉ ids L := fun h => hs.new0 hb (by rw [ids_append, ids_append]; simp [h])
end Go.SL
namespace Go.Proofs.YtbcdnpjcbchbjaaDoor
open Go.SL
theorem Cl.cells_length (x : Cl) : x.cells.length = 4 := rfl
/-- element i of a slice of claims -/
theorem cl_at {w : World} {a : Option Addr} {n m c i : Nat} {cl : List Cl} {x : Cl} (h : Sl w (.slice a n c) m (cls cl)) (hx : cl[i]? = some x) : ∃ b o, a = some ⟨b, o, none⟩ ∧ b < w.heap.size ∧ ∀ j u, j < 4 → x.cells[j]? = some u → w.cell? ⟨b, o + ((i : Nat) : Int).toNat * 4 + j, none⟩ = some u := by
  have hlt : i < cl.length := (List.getElem?_eq_some_iff.1 hx).1
  obtain ⟨b, o, h1, h2, h3⟩ := Sl_all h (by intro h0; have := cls_length cl; rw [h0] at this; simp at this; omega)
  refine ⟨b, o, h1, h2, fun j u hj hu => ?_⟩
  have := h3 (i * 4 + j) u (by rw [cls, flat_at Cl.cells_length hj hx]; exact hu)
  rw [Int.toNat_natCast, Nat.add_assoc]; exact this
/-- number i of a claim -/
def Cl.num (x : Cl) : Nat → Int
  | 0 => x.a
  | 1 => x.b
  | 2 => x.c
  | _ => x.d
theorem IXC0 (x : Cl) (w : World) : (Instr.index 76 (.agg #[.int .i64 x.a, .int .i64 x.b, .int .i64 x.c, .int .i64 x.d]) (.int .i64 0)).run Tryd.prog w = .ok (.int .i64 x.a) w := by kernel_rfl
theorem IXC1 (x : Cl) (w : World) : (Instr.index 76 (.agg #[.int .i64 x.a, .int .i64 x.b, .int .i64 x.c, .int .i64 x.d]) (.int .i64 1)).run Tryd.prog w = .ok (.int .i64 x.b) w := by kernel_rfl
theorem IXC2 (x : Cl) (w : World) : (Instr.index 76 (.agg #[.int .i64 x.a, .int .i64 x.b, .int .i64 x.c, .int .i64 x.d]) (.int .i64 2)).run Tryd.prog w = .ok (.int .i64 x.c) w := by kernel_rfl
theorem IXC3 (x : Cl) (w : World) : (Instr.index 76 (.agg #[.int .i64 x.a, .int .i64 x.b, .int .i64 x.c, .int .i64 x.d]) (.int .i64 3)).run Tryd.prog w = .ok (.int .i64 x.d) w := by kernel_rfl
theorem IXC (x : Cl) (i : Nat) (h : i < 4) (w : World) : (Instr.index 76 (.agg #[.int .i64 x.a, .int .i64 x.b, .int .i64 x.c, .int .i64 x.d]) (.int .i64 (i : Int))).run Tryd.prog w = .ok (.int .i64 (x.num i)) w := by
  match i, h with
  | 0, _ => exact IXC0 x w
  | 1, _ => exact IXC1 x w
  | 2, _ => exact IXC2 x w
  | 3, _ => exact IXC3 x w
theorem Cl.ok_num {x : Cl} : x.ok ↔ ∀ j, j < 4 → inR (x.num j) := by
  constructor
  · rintro ⟨h0, h1, h2, h3⟩ j hj
    match j, hj with
    | 0, _ => exact h0
    | 1, _ => exact h1
    | 2, _ => exact h2
    | 3, _ => exact h3
  · exact fun h => ⟨h 0 (by decide), h 1 (by decide), h 2 (by decide), h 3 (by decide)⟩
theorem encodable_ok (x : Cl) (w0 : World) : Ret Tryd.prog 25 [.agg x.cells.toArray].toArray w0 fun r w' => Fwd [] w0 w' ∧ r = .bool (decide x.ok) := by
  refine Ret_start fun w hs => ?_
  refine Ret_of Tryd.func25 rfl Tryd.ntmps25 rfl ?_
  refine W_seq ?_
  refine W_region ?_
  first | refine s_box rfl rfl hs ?_ | refine s_box1 rfl rfl rfl hs ?_
  clear hs; intro b1 w hs
  refine s_assign rfl rfl ?_
  refine WL_nil ?_
  refine n_then ?_
  refine W_seq ?_
  refine W_seq ?_
  refine W_region ?_
  refine s_fieldAddr rfl rfl (FA55_0 _ _) ?_
  first
    | refine s_load Tryd.isAgg3 rfl rfl (hs.cell (k := 0) rfl rfl) ?_
  refine s_fieldAddr rfl rfl (FA55_1 _ _) ?_
  first
    | refine s_load Tryd.isAgg3 rfl rfl (hs.cell (k := 0) rfl rfl) ?_
  refine s_fieldAddr rfl rfl (FA55_2 _ _) ?_
  first
    | refine s_load Tryd.isAgg3 rfl rfl (hs.cell (k := 0) rfl rfl) ?_
  refine s_fieldAddr rfl rfl (FA55_3 _ _) ?_
  first
    | refine s_load Tryd.isAgg3 rfl rfl (hs.cell (k := 0) rfl rfl) ?_
  refine s_build rfl rfl (BD76_0_1_2_3 _ _ _ _) ?_
  refine s_move rfl rfl ?_
  refine WL_nil ?_
  refine n_then ?_
  refine W_block ?_
  refine W_loop (σ := Nat) (fun s => [(13, .agg #[.int .i64 x.a, .int .i64 x.b, .int .i64 x.c, .int .i64 x.d]), (14, .int .i64 (s : Int))]) (fun s w => St [] w0 w [(b1, Blk 55 x.cells)] ∧ s ≤ 4 ∧ ∀ j, j < s → inR (x.num j)) (fun s => 4 - s) 0 ⟨rfl, rfl, trivial⟩ ⟨hs, Nat.zero_le _, fun j hj => absurd hj (Nat.not_lt_zero _)⟩ ?_
  clear hs
  rintro i w ⟨hs, hi, hj⟩
  refine W_seq ?_
  refine W_region ?_
  refine s_lss rfl rfl rfl ?_
  refine WL_nil ?_
  refine n_then ?_
  refine W_seq ?_
  refine W_cond rfl (fun hc15 => ?_) (fun hc15 => ?_)
  · skip
    simp only [decide_eq_true_eq, decide_eq_false_iff_not] at hc15
    refine W_skip ?_
    refine n_then ?_
    refine W_seq ?_
    refine W_block ?_
    refine W_seq ?_
    refine W_region ?_
    refine s_indexV rfl rfl rfl (IXC x i (by omega)) ?_
    refine s_assign rfl rfl ?_
    refine WL_nil ?_
    refine n_then ?_
    refine W_seq ?_
    refine W_region ?_
    refine s_move rfl rfl ?_
    refine s_lss rfl rfl rfl ?_
    refine s_move rfl rfl ?_
    refine WL_case (s := 19) rfl (fun hg19 => ?_) (fun hg19 => ?_)
    · skip
      simp only [decide_eq_true_eq, decide_eq_false_iff_not] at hg19
      refine WL_skip rfl rfl rfl ?_
      refine WL_skip rfl rfl rfl ?_
      refine s_pick_t rfl rfl rfl ?_
      refine WL_nil ?_
      refine n_then ?_
      refine W_cond_t rfl ?_
      refine W_seq ?_
      refine W_region ?_
      refine s_assign rfl rfl ?_
      refine WL_nil ?_
      refine n_then ?_
      refine W_ret ?_
      refine r_blk ?_
      refine r_then ?_
      refine r_then ?_
      refine r_blk ?_
      refine r_then ?_
      first
        | (refine end1 rfl rfl ⟨hs.tail.fwd, ?_⟩
           have : x.ok := Cl.ok_num.2 fun j hj4 => hj j (by omega)
           rw [decide_eq_true this]; done)
        | (refine end1 rfl rfl ⟨hs.tail.fwd, ?_⟩
           have : ¬ x.ok := fun h => by
             have := Cl.ok_num.1 h i (by omega)
             unfold inR at this; omega
           rw [decide_eq_false this])
    · skip
      simp only [decide_eq_true_eq, decide_eq_false_iff_not] at hg19
      refine WL_take rfl ?_
      refine s_move rfl rfl ?_
      refine WL_take rfl ?_
      refine s_gtr rfl rfl rfl ?_
      refine s_pick_f rfl rfl rfl ?_
      refine WL_nil ?_
      refine n_then ?_
      refine W_cond rfl (fun hc22 => ?_) (fun hc22 => ?_)
      · skip
        simp only [decide_eq_true_eq, decide_eq_false_iff_not] at hc22
        refine W_seq ?_
        refine W_region ?_
        refine s_assign rfl rfl ?_
        refine WL_nil ?_
        refine n_then ?_
        refine W_ret ?_
        refine r_blk ?_
        refine r_then ?_
        refine r_then ?_
        refine r_blk ?_
        refine r_then ?_
        first
          | (refine end1 rfl rfl ⟨hs.tail.fwd, ?_⟩
             have : x.ok := Cl.ok_num.2 fun j hj4 => hj j (by omega)
             rw [decide_eq_true this]; done)
          | (refine end1 rfl rfl ⟨hs.tail.fwd, ?_⟩
             have : ¬ x.ok := fun h => by
               have := Cl.ok_num.1 h i (by omega)
               unfold inR at this; omega
             rw [decide_eq_false this])
      · skip
        simp only [decide_eq_true_eq, decide_eq_false_iff_not] at hc22
        refine W_skip ?_
        refine n_blk ?_
        refine n_then ?_
        refine W_region ?_
        first | (refine s_add' rfl rfl rfl ?hx ?_; case hx => (constructor <;> first | omega | (simp only; omega))) | refine s_add rfl rfl rfl ?_
        refine s_move rfl rfl ?_
        refine WL_nil ?_
        refine n_loop ?_
        exact ⟨i + 1, ⟨rfl, rfl, trivial⟩, ⟨hs, by omega, fun j hji => by
          rcases Nat.lt_or_ge j i with h | h
          · exact hj j h
          · rw [show j = i by omega]; unfold inR; omega⟩, by omega⟩
  · skip
    simp only [decide_eq_true_eq, decide_eq_false_iff_not] at hc15
    refine W_exit ?_
    refine x_then ?_
    refine x_then ?_
    refine exit_hit ?_
    refine n_then ?_
    refine W_seq ?_
    refine W_region ?_
    refine s_assign rfl rfl ?_
    refine WL_nil ?_
    refine n_then ?_
    refine W_ret ?_
    first
      | (refine end1 rfl rfl ⟨hs.tail.fwd, ?_⟩
         have : x.ok := Cl.ok_num.2 fun j hj4 => hj j (by omega)
         rw [decide_eq_true this]; done)
      | (refine end1 rfl rfl ⟨hs.tail.fwd, ?_⟩
         have : ¬ x.ok := fun h => by
           have := Cl.ok_num.1 h i (by omega)
           unfold inR at this; omega
         rw [decide_eq_false this])
structure EnS where
  i : Nat
  L : Hp
set_option maxHeartbeats 1000000 in
theorem coEncode_ok (v : Value) (cl : List Cl) (w0 : World) (hg : Wd w0) (hv : Sl w0 v cl.length (cls cl)) (hok : ∀ x ∈ cl, x.ok) (hl : cl.length ≤ 4096) :
    Ret Tryd.prog 6 [v].toArray w0 fun r w' => ∃ u Lr, r = .tuple #[u, .int .i64 0] ∧ OwnS 5 1 u (pk (encB cl)).length (u8s (pk (encB cl))) Lr ∧ St [] w0 w' Lr := by
  obtain ⟨a, c, rfl, hc⟩ := hv.len_le
  have hbl := encB_length cl
  refine Ret_start fun w hs => ?_
  refine Ret_of Tryd.func6 rfl Tryd.ntmps6 rfl ?_
  refine W_seq ?_
  refine W_region ?_
  refine s_assign rfl rfl ?_
  refine s_assign rfl rfl ?_
  refine WL_nil ?_
  refine n_then ?_
  refine W_seq ?_
  refine W_seq ?_
  refine W_region ?_
  refine s_move rfl rfl ?_
  refine s_len rfl rfl (LN27 _ _ _ _) ?_
  refine s_gtr rfl rfl rfl ?_
  refine WL_nil ?_
  refine n_then ?_
  refine W_cond_kf rfl ((by simp; omega)) ?_
  refine W_skip ?_
  refine n_then ?_
  refine W_seq ?_
  refine W_seq ?_
  refine W_region ?_
  refine s_move rfl rfl ?_
  refine s_len rfl rfl (LN27 _ _ _ _) ?_
  refine s_move rfl rfl ?_
  refine WL_nil ?_
  refine n_then ?_
  refine W_block ?_
  refine W_loop (σ := Nat) (fun s => [(0, .slice a cl.length c), (14, .slice a cl.length c), (15, .int .i64 (cl.length : Int)), (16, .int .i64 (s : Int))]) (fun s w => St [] w0 w [] ∧ s ≤ cl.length) (fun s => cl.length - s) 0 ⟨rfl, rfl, rfl, rfl, trivial⟩ ⟨hs, Nat.zero_le _⟩ ?_
  clear hs
  rintro i w ⟨hs, hi⟩
  refine W_seq ?_
  refine W_region ?_
  refine s_lss rfl rfl rfl ?_
  refine WL_nil ?_
  refine n_then ?_
  refine W_seq ?_
  refine W_cond rfl (fun hc17 => ?_) (fun hc17 => ?_)
  · skip
    simp only [decide_eq_true_eq, decide_eq_false_iff_not, Bool.not_eq_true', Bool.not_eq_false'] at hc17
    have hil : i < cl.length := by omega
    have hxi : cl[i]? = some cl[i] := List.getElem?_eq_getElem hil
    have hxo : cl[i].ok := hok _ (List.getElem_mem hil)
    obtain ⟨b, o, hA, hB, hcc⟩ := cl_at hv hxi
    generalize cl[i] = x at hxi hxo hcc
    refine W_skip ?_
    refine n_then ?_
    refine W_seq ?_
    refine W_block ?_
    refine W_seq ?_
    refine W_region ?_
    (refine s_indexAddrP El27 rfl rfl rfl hA ?hx ?_; case hx => (constructor <;> omega))
    refine s_load_4 Tryd.isAgg55 Tryd.sizeOf55 rfl rfl ((hs.oldcell (a := ⟨b, _, none⟩) hB (by simp)).trans (hcc 0 _ (by omega) rfl)) ((hs.oldcell (a := ⟨b, _, none⟩) hB (by simp)).trans (hcc 1 _ (by omega) rfl)) ((hs.oldcell (a := ⟨b, _, none⟩) hB (by simp)).trans (hcc 2 _ (by omega) rfl)) ((hs.oldcell (a := ⟨b, _, none⟩) hB (by simp)).trans (hcc 3 _ (by omega) rfl)) ?_
    refine s_alloc rfl AL55 hs ?_; clear hs; intro b5 w hs
    first
      | refine s_storeW Tryd.sizeOf55 rfl rfl rfl rfl hs (kk := 0) rfl rfl ?_
      | refine s_storeW Tryd.sizeOf55 rfl rfl rfl rfl hs (kk := 1) rfl rfl ?_
      | refine s_storeW Tryd.sizeOf55 rfl rfl rfl rfl hs (kk := 2) rfl rfl ?_
      | refine s_storeAB Tryd.sizeOf55 rfl rfl rfl rfl hs (kk := 0) rfl rfl ?_
      | refine s_storeAB Tryd.sizeOf55 rfl rfl rfl rfl hs (kk := 1) rfl rfl ?_
      | refine s_storeAB Tryd.sizeOf55 rfl rfl rfl rfl hs (kk := 2) rfl rfl ?_
    clear hs; intro w hs; try simp only [List.set_cons_zero, List.set_cons_succ, splice, List.take_succ_cons, List.take_zero, List.drop_succ_cons, List.drop_zero, List.nil_append, List.cons_append, List.length_cons, List.length_nil, Nat.reduceAdd, List.append_assoc] at hs
    refine WL_nil ?_
    refine n_then ?_
    refine W_seq ?_
    refine W_region ?_
    first
      | refine s_loadW Tryd.isAgg55 Tryd.sizeOf55 rfl rfl hs (kk := 0) rfl rfl ?_
      | refine s_loadW Tryd.isAgg55 Tryd.sizeOf55 rfl rfl hs (kk := 1) rfl rfl ?_
      | refine s_loadW Tryd.isAgg55 Tryd.sizeOf55 rfl rfl hs (kk := 2) rfl rfl ?_
      | refine s_load_4 Tryd.isAgg55 Tryd.sizeOf55 rfl rfl (by first | exact hs.cell (k := 0) rfl rfl | exact hs.cell (k := 1) rfl rfl | exact hs.cell (k := 2) rfl rfl) (by first | exact hs.cell (k := 0) rfl rfl | exact hs.cell (k := 1) rfl rfl | exact hs.cell (k := 2) rfl rfl) (by first | exact hs.cell (k := 0) rfl rfl | exact hs.cell (k := 1) rfl rfl | exact hs.cell (k := 2) rfl rfl) (by first | exact hs.cell (k := 0) rfl rfl | exact hs.cell (k := 1) rfl rfl | exact hs.cell (k := 2) rfl rfl) ?_
    refine s_call Tryd.call25 rfl rfl (encodable_ok x w) ?_
    rintro r w ⟨hst, rfl⟩
    replace hs := hs.fwd1 hst
    clear hst
    refine s_not rfl rfl ?_
    refine WL_nil ?_
    refine n_then ?_
    refine W_cond_kf rfl ((by simp [hxo])) ?_
    refine W_skip ?_
    refine n_blk ?_
    refine n_then ?_
    refine W_region ?_
    first | (refine s_add' rfl rfl rfl ?hx ?_; case hx => (constructor <;> first | omega | (simp only; omega))) | refine s_add rfl rfl rfl ?_
    refine s_move rfl rfl ?_
    refine WL_nil ?_
    refine n_loop ?_
    exact ⟨i + 1, ⟨rfl, rfl, rfl, rfl, trivial⟩, ⟨hs.tail, by omega⟩, by omega⟩
  · skip
    simp only [decide_eq_true_eq, decide_eq_false_iff_not, Bool.not_eq_true', Bool.not_eq_false'] at hc17
    refine W_exit ?_
    refine x_then ?_
    refine x_then ?_
    refine exit_hit ?_
    refine n_then ?_
    refine W_seq ?_
    refine W_region ?_
    refine s_alloc rfl AL59 hs ?_; clear hs; intro b6 w hs
    refine WL_nil ?_
    refine n_then ?_
    refine W_seq ?_
    refine W_region ?_
    refine s_move rfl rfl ?_
    refine s_len rfl rfl (LN27 _ _ _ _) ?_
    refine s_callL (M := []) (L1 := [_]) (X := []) Tryd.call26 rfl rfl hs (fun h => coWrite_ok b6 [] (cl.length : Int) _ w (hg.st hs (by simp)) (hg.not hs) (wb_new b6) h (by unfold isI64; omega) (by simp)) ?_
    clear hs; rintro v w LW ⟨hW, rfl⟩ - hs
    simp only [List.nil_append, List.append_nil] at hs hW
    refine WL_nil ?_
    refine n_then ?_
    refine W_seq ?_
    refine W_region ?_
    refine s_alloc rfl AL55 hs ?_; clear hs; intro b7 w hs
    refine s_alloc rfl AL55 hs ?_; clear hs; intro b8 w hs
    refine WL_nil ?_
    refine n_then ?_
    refine W_seq ?_
    refine W_seq ?_
    refine W_region ?_
    refine s_move rfl rfl ?_
    refine s_len rfl rfl (LN27 _ _ _ _) ?_
    refine s_move rfl rfl ?_
    refine WL_nil ?_
    refine n_then ?_
    refine W_block ?_
    refine W_loop (σ := EnS) (fun s => [(6, .pointer (some ⟨b6, 0, none⟩)), (7, .pointer (some ⟨b7, 0, none⟩)), (8, .pointer (some ⟨b8, 0, none⟩)), (27, .slice a cl.length c), (28, .int .i64 (cl.length : Int)), (29, .int .i64 (s.i : Int))])
      (fun s w => St [] w0 w ((b8, Blk 55 (befC (cl.take s.i)).cells) :: (b7, Blk 55 (lastC (cl.take s.i)).cells) :: s.L) ∧ WbAt b6 (code cl.length ++ encC .z .z (cl.take s.i)) s.L ∧ s.i ≤ cl.length) (fun s => cl.length - s.i) ⟨0, LW⟩ ⟨rfl, rfl, rfl, rfl, rfl, rfl, trivial⟩ ⟨hs, by simpa [encC] using hW, Nat.zero_le _⟩ ?_
    clear hs hW LW
    rintro ⟨i, LW⟩ w ⟨hs, hW, hi⟩
    simp only at hs hW hi ⊢
    refine W_seq ?_
    refine W_region ?_
    refine s_lss rfl rfl rfl ?_
    refine WL_nil ?_
    refine n_then ?_
    refine W_seq ?_
    refine W_cond rfl (fun hc30 => ?_) (fun hc30 => ?_)
    · skip
      simp only [decide_eq_true_eq, decide_eq_false_iff_not, Bool.not_eq_true', Bool.not_eq_false'] at hc30
      have hil : i < cl.length := by omega
      have hxi : cl[i]? = some cl[i] := List.getElem?_eq_getElem hil
      have hxo : cl[i].ok := hok _ (List.getElem_mem hil)
      have htk : cl.take (i + 1) = cl.take i ++ [cl[i]] := List.take_succ_eq_append_getElem hil
      obtain ⟨b, o, hA, hB, hcc⟩ := cl_at hv hxi
      have hao := lastC_mem Cl.z_ok (l := cl.take i) (P := Cl.ok) fun x hx => hok x (List.mem_of_mem_take hx)
      have hbo := befC_mem Cl.z_ok (l := cl.take i) (P := Cl.ok) fun x hx => hok x (List.mem_of_mem_take hx)
      have h4 := four_in hao hbo hxo
      have hlen := encC_length (cl.take i) .z .z
      have hcl0 := code_len (cl.length : Int)
      have htl : (cl.take i).length = i := by simp; omega
      have hsplit := encC_split (cl.take i) cl[i] []
      rw [← htk, encC, List.append_nil] at hsplit
      have hla : lastC (cl.take (i + 1)) = cl[i] := by rw [htk, lastC_snoc]
      have hbe : befC (cl.take (i + 1)) = lastC (cl.take i) := by rw [htk, befC_snoc]
      rw [htl] at hlen
      generalize cl[i] = x at *
      generalize lastC (cl.take i) = la at *
      generalize befC (cl.take i) = be at *
      generalize encC .z .z (cl.take i) = bs at *
      have hcd := fun n => code_len n
      have e0 := h4 _ (show x.a - 2 * la.a + be.a ∈ four la be x by simp [four])
      have e1 := h4 _ (show (x.b - x.a) - (la.b - la.a) ∈ four la be x by simp [four])
      have e2 := h4 _ (show x.c - la.c ∈ four la be x by simp [four])
      have e3 := h4 _ (show (x.d - x.c) - (la.d - la.c) ∈ four la be x by simp [four])
      obtain ⟨ha1, ha2, ha3, ha4⟩ := hao
      obtain ⟨hb1, hb2, hb3, hb4⟩ := hbo
      obtain ⟨hx1, hx2, hx3, hx4⟩ := hxo
      unfold inR at ha1 ha2 ha3 ha4 hb1 hb2 hb3 hb4 hx1 hx2 hx3 hx4
      refine W_skip ?_
      refine n_then ?_
      refine W_seq ?_
      refine W_block ?_
      refine W_seq ?_
      refine W_region ?_
      (refine s_indexAddrP El27 rfl rfl rfl hA ?hx ?_; case hx => (constructor <;> omega))
      refine s_load_4 Tryd.isAgg55 Tryd.sizeOf55 rfl rfl ((hs.oldcell (a := ⟨b, _, none⟩) hB (by simp)).trans (hcc 0 _ (by omega) rfl)) ((hs.oldcell (a := ⟨b, _, none⟩) hB (by simp)).trans (hcc 1 _ (by omega) rfl)) ((hs.oldcell (a := ⟨b, _, none⟩) hB (by simp)).trans (hcc 2 _ (by omega) rfl)) ((hs.oldcell (a := ⟨b, _, none⟩) hB (by simp)).trans (hcc 3 _ (by omega) rfl)) ?_
      refine s_alloc rfl AL55 hs ?_; clear hs; intro b10 w hs
      first
        | refine s_storeW Tryd.sizeOf55 rfl rfl rfl rfl hs (kk := 0) rfl rfl ?_
        | refine s_storeW Tryd.sizeOf55 rfl rfl rfl rfl hs (kk := 1) rfl rfl ?_
        | refine s_storeW Tryd.sizeOf55 rfl rfl rfl rfl hs (kk := 2) rfl rfl ?_
        | refine s_storeAB Tryd.sizeOf55 rfl rfl rfl rfl hs (kk := 0) rfl rfl ?_
        | refine s_storeAB Tryd.sizeOf55 rfl rfl rfl rfl hs (kk := 1) rfl rfl ?_
        | refine s_storeAB Tryd.sizeOf55 rfl rfl rfl rfl hs (kk := 2) rfl rfl ?_
      clear hs; intro w hs; try simp only [List.set_cons_zero, List.set_cons_succ, splice, List.take_succ_cons, List.take_zero, List.drop_succ_cons, List.drop_zero, List.nil_append, List.cons_append, List.length_cons, List.length_nil, Nat.reduceAdd, List.append_assoc] at hs
      refine WL_nil ?_
      refine n_then ?_
      refine W_seq ?_
      refine W_region ?_
      refine s_fieldAddr rfl rfl (FA55_0 _ _) ?_
      first
        | refine s_load Tryd.isAgg3 rfl rfl (hs.cell (k := 0) rfl rfl) ?_
        | refine s_load Tryd.isAgg3 rfl rfl (hs.cell (k := 1) rfl rfl) ?_
        | refine s_load Tryd.isAgg3 rfl rfl (hs.cell (k := 2) rfl rfl) ?_
      refine s_fieldAddr rfl rfl (FA55_0 _ _) ?_
      first
        | refine s_load Tryd.isAgg3 rfl rfl (hs.cell (k := 0) rfl rfl) ?_
        | refine s_load Tryd.isAgg3 rfl rfl (hs.cell (k := 1) rfl rfl) ?_
        | refine s_load Tryd.isAgg3 rfl rfl (hs.cell (k := 2) rfl rfl) ?_
      first | (refine s_mul' rfl rfl rfl ?hx ?_; case hx => (constructor <;> first | omega | (simp only; omega))) | refine s_mul rfl rfl rfl ?_
      first | (refine s_sub' rfl rfl rfl ?hx ?_; case hx => (constructor <;> first | omega | (simp only; omega))) | refine s_sub rfl rfl rfl ?_
      refine s_fieldAddr rfl rfl (FA55_0 _ _) ?_
      first
        | refine s_load Tryd.isAgg3 rfl rfl (hs.cell (k := 0) rfl rfl) ?_
        | refine s_load Tryd.isAgg3 rfl rfl (hs.cell (k := 1) rfl rfl) ?_
        | refine s_load Tryd.isAgg3 rfl rfl (hs.cell (k := 2) rfl rfl) ?_
      first | (refine s_add' rfl rfl rfl ?hx ?_; case hx => (constructor <;> first | omega | (simp only; omega))) | refine s_add rfl rfl rfl ?_
      refine s_callL (M := [_, _, _]) (L1 := LW) (X := []) Tryd.call26 rfl rfl (by simpa using hs) (fun h => coWrite_ok b6 _ _ _ w (hg.st hs (by simp)) (St.new0M (M := [_, _, _]) (X := []) (by simpa using hs) hg.lt) hW h e0 (by simp; omega)) ?_
      clear hs hW; rintro v w LW ⟨hW, rfl⟩ - hs
      simp only [List.cons_append, List.nil_append, List.append_nil] at hs hW
      refine WL_nil ?_
      refine n_then ?_
      refine W_seq ?_
      refine W_region ?_
      refine s_fieldAddr rfl rfl (FA55_1 _ _) ?_
      first
        | refine s_load Tryd.isAgg3 rfl rfl (hs.cell (k := 0) rfl rfl) ?_
        | refine s_load Tryd.isAgg3 rfl rfl (hs.cell (k := 1) rfl rfl) ?_
        | refine s_load Tryd.isAgg3 rfl rfl (hs.cell (k := 2) rfl rfl) ?_
      refine s_fieldAddr rfl rfl (FA55_0 _ _) ?_
      first
        | refine s_load Tryd.isAgg3 rfl rfl (hs.cell (k := 0) rfl rfl) ?_
        | refine s_load Tryd.isAgg3 rfl rfl (hs.cell (k := 1) rfl rfl) ?_
        | refine s_load Tryd.isAgg3 rfl rfl (hs.cell (k := 2) rfl rfl) ?_
      first | (refine s_sub' rfl rfl rfl ?hx ?_; case hx => (constructor <;> first | omega | (simp only; omega))) | refine s_sub rfl rfl rfl ?_
      refine s_fieldAddr rfl rfl (FA55_1 _ _) ?_
      first
        | refine s_load Tryd.isAgg3 rfl rfl (hs.cell (k := 0) rfl rfl) ?_
        | refine s_load Tryd.isAgg3 rfl rfl (hs.cell (k := 1) rfl rfl) ?_
        | refine s_load Tryd.isAgg3 rfl rfl (hs.cell (k := 2) rfl rfl) ?_
      refine s_fieldAddr rfl rfl (FA55_0 _ _) ?_
      first
        | refine s_load Tryd.isAgg3 rfl rfl (hs.cell (k := 0) rfl rfl) ?_
        | refine s_load Tryd.isAgg3 rfl rfl (hs.cell (k := 1) rfl rfl) ?_
        | refine s_load Tryd.isAgg3 rfl rfl (hs.cell (k := 2) rfl rfl) ?_
      first | (refine s_sub' rfl rfl rfl ?hx ?_; case hx => (constructor <;> first | omega | (simp only; omega))) | refine s_sub rfl rfl rfl ?_
      first | (refine s_sub' rfl rfl rfl ?hx ?_; case hx => (constructor <;> first | omega | (simp only; omega))) | refine s_sub rfl rfl rfl ?_
      refine s_callL (M := [_, _, _]) (L1 := LW) (X := []) Tryd.call26 rfl rfl (by simpa using hs) (fun h => coWrite_ok b6 _ _ _ w (hg.st hs (by simp)) (St.new0M (M := [_, _, _]) (X := []) (by simpa using hs) hg.lt) hW h e1 (by simp; have := hcd (x.a - 2 * la.a + be.a); omega)) ?_
      clear hs hW; rintro v w LW ⟨hW, rfl⟩ - hs
      simp only [List.cons_append, List.nil_append, List.append_nil] at hs hW
      refine WL_nil ?_
      refine n_then ?_
      refine W_seq ?_
      refine W_region ?_
      refine s_fieldAddr rfl rfl (FA55_2 _ _) ?_
      first
        | refine s_load Tryd.isAgg3 rfl rfl (hs.cell (k := 0) rfl rfl) ?_
        | refine s_load Tryd.isAgg3 rfl rfl (hs.cell (k := 1) rfl rfl) ?_
        | refine s_load Tryd.isAgg3 rfl rfl (hs.cell (k := 2) rfl rfl) ?_
      refine s_fieldAddr rfl rfl (FA55_2 _ _) ?_
      first
        | refine s_load Tryd.isAgg3 rfl rfl (hs.cell (k := 0) rfl rfl) ?_
        | refine s_load Tryd.isAgg3 rfl rfl (hs.cell (k := 1) rfl rfl) ?_
        | refine s_load Tryd.isAgg3 rfl rfl (hs.cell (k := 2) rfl rfl) ?_
      first | (refine s_sub' rfl rfl rfl ?hx ?_; case hx => (constructor <;> first | omega | (simp only; omega))) | refine s_sub rfl rfl rfl ?_
      refine s_callL (M := [_, _, _]) (L1 := LW) (X := []) Tryd.call26 rfl rfl (by simpa using hs) (fun h => coWrite_ok b6 _ _ _ w (hg.st hs (by simp)) (St.new0M (M := [_, _, _]) (X := []) (by simpa using hs) hg.lt) hW h e2 (by simp; have := hcd (x.a - 2 * la.a + be.a); have := hcd ((x.b - x.a) - (la.b - la.a)); omega)) ?_
      clear hs hW; rintro v w LW ⟨hW, rfl⟩ - hs
      simp only [List.cons_append, List.nil_append, List.append_nil] at hs hW
      refine WL_nil ?_
      refine n_then ?_
      refine W_seq ?_
      refine W_region ?_
      refine s_fieldAddr rfl rfl (FA55_3 _ _) ?_
      first
        | refine s_load Tryd.isAgg3 rfl rfl (hs.cell (k := 0) rfl rfl) ?_
        | refine s_load Tryd.isAgg3 rfl rfl (hs.cell (k := 1) rfl rfl) ?_
        | refine s_load Tryd.isAgg3 rfl rfl (hs.cell (k := 2) rfl rfl) ?_
      refine s_fieldAddr rfl rfl (FA55_2 _ _) ?_
      first
        | refine s_load Tryd.isAgg3 rfl rfl (hs.cell (k := 0) rfl rfl) ?_
        | refine s_load Tryd.isAgg3 rfl rfl (hs.cell (k := 1) rfl rfl) ?_
        | refine s_load Tryd.isAgg3 rfl rfl (hs.cell (k := 2) rfl rfl) ?_
      first | (refine s_sub' rfl rfl rfl ?hx ?_; case hx => (constructor <;> first | omega | (simp only; omega))) | refine s_sub rfl rfl rfl ?_
      refine s_fieldAddr rfl rfl (FA55_3 _ _) ?_
      first
        | refine s_load Tryd.isAgg3 rfl rfl (hs.cell (k := 0) rfl rfl) ?_
        | refine s_load Tryd.isAgg3 rfl rfl (hs.cell (k := 1) rfl rfl) ?_
        | refine s_load Tryd.isAgg3 rfl rfl (hs.cell (k := 2) rfl rfl) ?_
      refine s_fieldAddr rfl rfl (FA55_2 _ _) ?_
      first
        | refine s_load Tryd.isAgg3 rfl rfl (hs.cell (k := 0) rfl rfl) ?_
        | refine s_load Tryd.isAgg3 rfl rfl (hs.cell (k := 1) rfl rfl) ?_
        | refine s_load Tryd.isAgg3 rfl rfl (hs.cell (k := 2) rfl rfl) ?_
      first | (refine s_sub' rfl rfl rfl ?hx ?_; case hx => (constructor <;> first | omega | (simp only; omega))) | refine s_sub rfl rfl rfl ?_
      first | (refine s_sub' rfl rfl rfl ?hx ?_; case hx => (constructor <;> first | omega | (simp only; omega))) | refine s_sub rfl rfl rfl ?_
      refine s_callL (M := [_, _, _]) (L1 := LW) (X := []) Tryd.call26 rfl rfl (by simpa using hs) (fun h => coWrite_ok b6 _ _ _ w (hg.st hs (by simp)) (St.new0M (M := [_, _, _]) (X := []) (by simpa using hs) hg.lt) hW h e3 (by simp; have := hcd (x.a - 2 * la.a + be.a); have := hcd ((x.b - x.a) - (la.b - la.a)); have := hcd (x.c - la.c); omega)) ?_
      clear hs hW; rintro v w LW ⟨hW, rfl⟩ - hs
      simp only [List.cons_append, List.nil_append, List.append_nil] at hs hW
      refine WL_nil ?_
      refine n_then ?_
      refine W_region ?_
      first
        | refine s_loadW Tryd.isAgg55 Tryd.sizeOf55 rfl rfl hs (kk := 0) rfl rfl ?_
        | refine s_loadW Tryd.isAgg55 Tryd.sizeOf55 rfl rfl hs (kk := 1) rfl rfl ?_
        | refine s_loadW Tryd.isAgg55 Tryd.sizeOf55 rfl rfl hs (kk := 2) rfl rfl ?_
        | refine s_load_4 Tryd.isAgg55 Tryd.sizeOf55 rfl rfl (by first | exact hs.cell (k := 0) rfl rfl | exact hs.cell (k := 1) rfl rfl | exact hs.cell (k := 2) rfl rfl) (by first | exact hs.cell (k := 0) rfl rfl | exact hs.cell (k := 1) rfl rfl | exact hs.cell (k := 2) rfl rfl) (by first | exact hs.cell (k := 0) rfl rfl | exact hs.cell (k := 1) rfl rfl | exact hs.cell (k := 2) rfl rfl) (by first | exact hs.cell (k := 0) rfl rfl | exact hs.cell (k := 1) rfl rfl | exact hs.cell (k := 2) rfl rfl) ?_
      first
        | refine s_loadW Tryd.isAgg55 Tryd.sizeOf55 rfl rfl hs (kk := 0) rfl rfl ?_
        | refine s_loadW Tryd.isAgg55 Tryd.sizeOf55 rfl rfl hs (kk := 1) rfl rfl ?_
        | refine s_loadW Tryd.isAgg55 Tryd.sizeOf55 rfl rfl hs (kk := 2) rfl rfl ?_
        | refine s_load_4 Tryd.isAgg55 Tryd.sizeOf55 rfl rfl (by first | exact hs.cell (k := 0) rfl rfl | exact hs.cell (k := 1) rfl rfl | exact hs.cell (k := 2) rfl rfl) (by first | exact hs.cell (k := 0) rfl rfl | exact hs.cell (k := 1) rfl rfl | exact hs.cell (k := 2) rfl rfl) (by first | exact hs.cell (k := 0) rfl rfl | exact hs.cell (k := 1) rfl rfl | exact hs.cell (k := 2) rfl rfl) (by first | exact hs.cell (k := 0) rfl rfl | exact hs.cell (k := 1) rfl rfl | exact hs.cell (k := 2) rfl rfl) ?_
      first
        | refine s_storeW Tryd.sizeOf55 rfl rfl rfl rfl hs (kk := 0) rfl rfl ?_
        | refine s_storeW Tryd.sizeOf55 rfl rfl rfl rfl hs (kk := 1) rfl rfl ?_
        | refine s_storeW Tryd.sizeOf55 rfl rfl rfl rfl hs (kk := 2) rfl rfl ?_
        | refine s_storeAB Tryd.sizeOf55 rfl rfl rfl rfl hs (kk := 0) rfl rfl ?_
        | refine s_storeAB Tryd.sizeOf55 rfl rfl rfl rfl hs (kk := 1) rfl rfl ?_
        | refine s_storeAB Tryd.sizeOf55 rfl rfl rfl rfl hs (kk := 2) rfl rfl ?_
      clear hs; intro w hs; try simp only [List.set_cons_zero, List.set_cons_succ, splice, List.take_succ_cons, List.take_zero, List.drop_succ_cons, List.drop_zero, List.nil_append, List.cons_append, List.length_cons, List.length_nil, Nat.reduceAdd, List.append_assoc] at hs
      first
        | refine s_storeW Tryd.sizeOf55 rfl rfl rfl rfl hs (kk := 0) rfl rfl ?_
        | refine s_storeW Tryd.sizeOf55 rfl rfl rfl rfl hs (kk := 1) rfl rfl ?_
        | refine s_storeW Tryd.sizeOf55 rfl rfl rfl rfl hs (kk := 2) rfl rfl ?_
        | refine s_storeAB Tryd.sizeOf55 rfl rfl rfl rfl hs (kk := 0) rfl rfl ?_
        | refine s_storeAB Tryd.sizeOf55 rfl rfl rfl rfl hs (kk := 1) rfl rfl ?_
        | refine s_storeAB Tryd.sizeOf55 rfl rfl rfl rfl hs (kk := 2) rfl rfl ?_
      clear hs; intro w hs; try simp only [List.set_cons_zero, List.set_cons_succ, splice, List.take_succ_cons, List.take_zero, List.drop_succ_cons, List.drop_zero, List.nil_append, List.cons_append, List.length_cons, List.length_nil, Nat.reduceAdd, List.append_assoc] at hs
      refine WL_nil ?_
      refine n_blk ?_
      refine n_then ?_
      refine W_region ?_
      first | (refine s_add' rfl rfl rfl ?hx ?_; case hx => (constructor <;> first | omega | (simp only; omega))) | refine s_add rfl rfl rfl ?_
      refine s_move rfl rfl ?_
      refine WL_nil ?_
      refine n_loop ?_
      refine ⟨⟨i + 1, LW⟩, ⟨rfl, rfl, rfl, rfl, rfl, rfl, trivial⟩, ⟨?_, ?_, by simp only; omega⟩, by simp only; omega⟩
      · simp only; rw [hla, hbe]; exact hs.tail
      · simp only; rw [hsplit, ← List.append_assoc]
        simpa [fourB, four] using hW
    · skip
      simp only [decide_eq_true_eq, decide_eq_false_iff_not, Bool.not_eq_true', Bool.not_eq_false'] at hc30
      refine W_exit ?_
      refine x_then ?_
      refine x_then ?_
      refine exit_hit ?_
      refine n_then ?_
      refine W_seq ?_
      refine W_region ?_
      have hib : i = cl.length := by omega
      rw [hib, List.take_of_length_le (Nat.le_refl _)] at hW
      replace hW : WbAt b6 (encB cl) LW := hW
      refine s_callL (M := [_, _]) (L1 := LW) (X := []) Tryd.call27 rfl rfl (by simpa using hs) (fun h => bDone_ok b6 _ LW w hW h (by omega)) ?_
      clear hs; rintro u w L9 ⟨Lr, rfl, hOr⟩ - hs
      simp only [List.cons_append, List.nil_append, List.append_nil] at hs
      refine s_assign rfl rfl ?_
      refine s_assign rfl rfl ?_
      refine WL_nil ?_
      refine n_then ?_
      refine W_ret ?_
      exact end2 rfl rfl rfl ⟨u, Lr, rfl, hOr, St.right (M := LW) hs.tail.tail⟩
end Go.Proofs.YtbcdnpjcbchbjaaDoor
