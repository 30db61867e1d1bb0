/- maps.Keys, slices.AppendSeq, slices.Collect, slices.Sorted over a map of files. -/
import Derived.Test.YtgppcfgnhahnaaaDoorMpI
import Derived.Test.YtgppcfgnhahnaaaDoorSor
import Derived.Test.YtgppcfgnhahnaaaDoorRng
set_option linter.unusedVariables false
set_option linter.unusedSimpArgs false
namespace Go.Proofs.YtgppcfgnhahnaaaDoor
open Go.SL
theorem keys_ok (m : Nat) (w0 : World) : Ret Tryd.prog 49 [.map (some m)].toArray w0 fun r w' => ∃ b, r = .func (.func 69) [].toArray [.pointer (some ⟨b, 0, none⟩)].toArray ∧ St [] w0 w' [(b, Blk 58 [.map (some m)])] := by
  refine Ret_start fun w hs => ?_
  refine Ret_of Tryd.func49 rfl Tryd.ntmps49 rfl ?_
  refine W_seq ?_
  refine W_region ?_
  first | refine s_box rfl rfl hs ?_ | refine s_box1 rfl rfl rfl hs ?_
  clear hs; intro b1 w hs
  refine s_assign rfl rfl ?_
  refine WL_nil ?_
  refine n_then ?_
  refine W_seq ?_
  refine W_region ?_
  refine s_makeFunc rfl rfl rfl ?_
  refine s_assign rfl rfl ?_
  refine WL_nil ?_
  refine n_then ?_
  refine W_ret ?_
  exact end1 rfl rfl ⟨b1, rfl, hs⟩
theorem perm_pick {k : Int} {v : Value} : ∀ {T : KVs}, (T.map Prod.fst).Nodup → (k, v) ∈ T → (T.map Prod.fst).Perm (k :: (T.filter fun e => !decide (e.1 = k)).map Prod.fst)
  | e :: r, hn, h => by
    rw [List.map_cons, List.nodup_cons] at hn
    by_cases he : e.1 = k
    · have hall : (r.filter fun e => !decide (e.1 = k)) = r := by
        refine List.filter_eq_self.2 fun a ha => ?_
        have : a.1 ≠ k := fun hk => hn.1 (by rw [he, ← hk]; exact List.mem_map_of_mem ha)
        simp [this]
      rw [List.filter_cons_of_neg (by simp [he]), hall, List.map_cons, he]
    · have hm : (k, v) ∈ r := by
        rcases List.mem_cons.1 h with h | h
        · exact absurd (by rw [← h]) he
        · exact h
      rw [List.filter_cons_of_pos (by simp [he]), List.map_cons, List.map_cons]
      exact ((perm_pick hn.2 hm).cons _).trans (List.Perm.swap _ _ _)
theorem nodup_filter {T : KVs} {p : Int × Value → Bool} (h : (T.map Prod.fst).Nodup) : ((T.filter p).map Prod.fst).Nodup := ((List.filter_sublist (p := p)).map _).nodup h
structure KyS where
  ks : List Int
  todo : KVs
  it : Obj
  LB : Hp
set_option maxHeartbeats 1000000 in
theorem keysIter_ok (lp b m : Nat) (o : Obj) (es : KVs) (hm : MapI o es) (F : List Nat) (w0 : World) (I : List Int → Hp → Prop)
    (hrd : ∀ ks LB, I ks LB → (b, Blk 58 [.map (some m)]) ∈ LB ∧ (m, o) ∈ LB)
    (round : ∀ ks w LO LB k, I ks LB → (∃ r, (ks ++ k :: r).Perm (es.map Prod.fst)) → St F w0 w (LO ++ LB) → YieldAt Fence.wide 0 Tryd.prog lp #[.int .i64 k] w (fun e w' => e = .returned (.bool true) ∧ ∃ LB', I (ks ++ [k]) LB' ∧ St F w0 w' (LO ++ LB')))
    (w : World) (LB0 : Hp) (h0 : I [] LB0) (hs : St F w0 w LB0) :
    Ret Tryd.prog 69 [.func (.yield lp) #[] #[], .pointer (some ⟨b, 0, none⟩)].toArray w fun _ w' => ∃ ks LB', I ks LB' ∧ St F w0 w' LB' ∧ ks.Perm (es.map Prod.fst) := by
  refine Ret_of Tryd.func69 rfl Tryd.ntmps69 rfl ?_
  refine W_seq ?_
  refine W_region ?_
  obtain ⟨kb, hkb⟩ := List.getElem?_of_mem (hrd _ _ h0).1
  obtain ⟨km, hkm⟩ := List.getElem?_of_mem (hrd _ _ h0).2
  refine s_load Tryd.isAgg58 rfl rfl (hs.cell (k := kb) (i := 0) hkb rfl) ?_
  refine s_rangeI Tryd.underlying58 rfl rfl hs hkm hm ?_
  clear hs; intro r5 it0 w hI0 hs
  clear hkb hkm kb km
  refine WL_nil ?_
  refine n_then ?_
  refine W_block ?_
  refine W_loop (σ := KyS) (fun s => [(0, .func (.yield lp) #[] #[]), (1, .pointer (some ⟨b, 0, none⟩)), (5, .pointer (some ⟨r5, 0, none⟩))]) (fun s w => St F w0 w ((r5, s.it) :: s.LB) ∧ ItI m o s.it s.todo ∧ I s.ks s.LB ∧ (s.ks ++ s.todo.map Prod.fst).Perm (es.map Prod.fst) ∧ (s.todo.map Prod.fst).Nodup) (fun s => s.todo.length) ⟨[], es, it0, LB0⟩ ⟨rfl, rfl, rfl, trivial⟩ ⟨hs, hI0, h0, List.Perm.refl _, hm.keys⟩ ?_
  clear hs h0 hI0
  rintro ⟨ks, todo, it, LB⟩ w ⟨hs, hIt, hI, hp, hnd⟩
  simp only at hs hIt hI hp hnd ⊢
  obtain ⟨km, hkm⟩ := List.getElem?_of_mem (hrd _ _ hI).2
  refine W_seq ?_
  refine W_region ?_
  refine s_nextI (km := km + 1) (kr := 0) rfl rfl hs (by simpa using hkm) rfl hIt ?_ ?_
  · skip
    intro ht
    refine s_extract rfl rfl rfl ?_
    refine WL_nil ?_
    refine n_then ?_
    refine W_seq ?_
    refine W_cond_kf rfl (rfl) ?_
    refine W_exit ?_
    refine x_then ?_
    refine x_then ?_
    refine exit_hit ?_
    subst ht
    rw [List.map_nil, List.append_nil] at hp
    exact end0' rfl ⟨ks, LB, hI, hs.tail, hp⟩
  · skip
    clear hs
    intro key v w it' hin hIt' hC hlt hs
    simp only [List.set_cons_zero] at hs
    refine s_extract rfl rfl rfl ?_
    refine WL_nil ?_
    refine n_then ?_
    refine W_seq ?_
    refine W_cond_kt rfl (rfl) ?_
    refine W_skip ?_
    refine n_then ?_
    refine W_block ?_
    refine W_seq ?_
    refine W_region ?_
    refine s_entryI (km := km + 1) (kr := 0) rfl rfl hs (by simpa using hkm) rfl hC ?_
    refine s_extract rfl rfl rfl ?_
    refine s_assign rfl rfl ?_
    refine WL_nil ?_
    refine n_then ?_
    refine W_seq ?_
    refine I_region ?_
    refine I_step rfl ?_
    refine s_move rfl rfl ?_
    refine I_next ?_
    refine I_step rfl ?_
    refine s_move rfl rfl ?_
    refine I_next ?_
    have hpp := perm_pick hnd hin
    refine I_yield (R := fun w' => ∃ LB', I (ks ++ [key]) LB' ∧ St F w0 w' ([(r5, it')] ++ LB')) rfl rfl rfl (round ks w [(r5, it')] LB key hI ⟨_, (hpp.symm.append_left ks).trans hp⟩ hs) ?_
    clear hs; rintro w ⟨LB', hI', hs⟩
    refine I_step rfl ?_
    refine s_not rfl rfl ?_
    refine I_next ?_
    refine I_nil ?_
    refine n_then ?_
    refine W_cond_f rfl ?_
    refine W_skip ?_
    refine n_blk ?_
    refine n_loop ?_
    refine ⟨⟨ks ++ [key], todo.filter (fun e => !decide (e.1 = key)), it', LB'⟩, ⟨rfl, rfl, rfl, trivial⟩, ⟨hs, hIt', hI', ?_, nodup_filter hnd⟩, hlt⟩
    rw [List.append_assoc]
    exact ((hpp.symm.append_left ks)).trans hp
set_option maxHeartbeats 1000000 in
theorem appendSeq_ok (b m : Nat) (o : Obj) (es : KVs) (hm : MapI o es) (hl : es.length ≤ 1000000) (L0 : Hp) (w0 : World) (hb : (b, Blk 58 [.map (some m)]) ∈ L0) (hmo : (m, o) ∈ L0) (hs : St (ids L0) w0 w0 L0) :
    Ret Tryd.prog 77 [.slice none 0 0, .func (.func 69) [].toArray [.pointer (some ⟨b, 0, none⟩)].toArray].toArray w0 fun r w' => ∃ L', St (ids L0) w0 w' L' ∧ ∃ ks Lv, L' = Lv ++ L0 ∧ OwnS 3 1 r ks.length (i64s ks) Lv ∧ ks.Perm (es.map Prod.fst) := by
  refine Ret_startL hs fun w hs => ?_
  refine Ret_ofM Tryd.func77 rfl Tryd.ntmps77 rfl ?_
  refine M_seq ?_
  refine M_W ?_
  refine W_region ?_
  first | refine s_box rfl rfl hs ?_ | refine s_box1 rfl rfl rfl hs ?_
  clear hs; intro b2 w hs
  refine s_assign rfl rfl ?_
  refine WL_nil ?_
  refine n_loop ?_
  refine M_seq ?_
  refine M_seq ?_
  refine M_W ?_
  refine W_region ?_
  refine s_move rfl rfl ?_
  refine WL_nil ?_
  refine n_loop ?_
  refine M_block ?_
  refine M_range Tryd.call69 rfl hs ?_
  clear hs; intro fn tm D w asg bo has hbo hA hs
  refine Ret.mono (keysIter_ok (D + 1) b m o es hm (ids L0) w0 (fun ks LB => ∃ v Lv, LB = (D + 1, .loop (lrec .ready fn tm #[7] asg bo D)) :: (D, .deferred (some [])) :: (b2, Blk 22 [v]) :: (Lv ++ L0) ∧ OwnS 3 1 v ks.length (i64s ks) Lv) ?hrd ?round w _ ?h0 hs) ?next
  case hrd => rintro ks LB ⟨v, Lv, rfl, _⟩; exact ⟨by simp [hb], by simp [hmo]⟩
  case h0 => exact ⟨.slice none 0 0, [], rfl, OwnS.nil _ _⟩
  case round =>
    clear hs; rintro ks w LO _ k ⟨v, Lv, rfl, hO⟩ ⟨r9, hp9⟩ hs
    have hkl : ks.length + 1 ≤ 1000000 := by
      have := hp9.length_eq
      simp only [List.length_append, List.length_cons, List.length_map] at this; omega
    replace hs : St (ids L0) w0 w ((D + 1, .loop (lrec .ready fn tm #[7] asg bo D)) :: (D, .deferred (some [])) :: (b2, Blk 22 [v]) :: (Lv ++ (LO ++ L0))) := by
      simpa [cat] using St.reord [LO, [_, _, _], Lv, L0] [1, 2, 0, 3] [] (by simpa [cat] using hs) rfl
    obtain ⟨_, tc, ta, rfl, hvl⟩ := hO.form
    subst hvl
    refine round_St hs rfl hA ?_
    refine R_eq has ?_
    refine R_region rfl ?_
    refine s_assign rfl rfl ?_
    refine WL_nil ?_
    refine q_n ?_
    refine ⟨hs, ?_⟩; clear hs; intro w hs
    refine R_eq hbo ?_
    refine R_block ?_
    refine R_region rfl ?_
    first
      | refine s_load Tryd.isAgg22 rfl rfl (hs.cell (k := 0) rfl rfl) ?_
      | refine s_load Tryd.isAgg22 rfl rfl (hs.cell (k := 1) rfl rfl) ?_
      | refine s_load Tryd.isAgg22 rfl rfl (hs.cell (k := 2) rfl rfl) ?_
      | refine s_load Tryd.isAgg22 rfl rfl (hs.cell (k := 3) rfl rfl) ?_
    refine s_move rfl rfl ?_
    refine s_buildSlice rfl rfl (BS22_1 _) hs ?_; clear hs; intro b10 w hs
    refine s_appendM (M := [_, _, _, _]) (X := LO ++ L0) El22 rfl rfl rfl hO hs (hs.sl (k := 0) (ds := [_]) rfl (Nat.le_refl _) (by intro j u hj; rw [Nat.zero_add]; exact hj)) rfl (by simp [Value.oneCell']) (by omega) ?_
    clear hs; intro v' w Lv' hO' hs
    obtain ⟨_, tc', ta', rfl, hvl'⟩ := hO'.form
    subst hvl'
    simp only [List.cons_append, List.nil_append] at hs
    first
      | refine s_storeB Tryd.sizeOf22 rfl rfl rfl hs (kk := 0) rfl rfl ?_
      | refine s_storeB Tryd.sizeOf22 rfl rfl rfl hs (kk := 1) rfl rfl ?_
      | refine s_storeB Tryd.sizeOf22 rfl rfl rfl hs (kk := 2) rfl rfl ?_
      | refine s_storeB Tryd.sizeOf22 rfl rfl rfl hs (kk := 3) rfl rfl ?_
    clear hs; intro w hs; try simp only [List.set_cons_zero, List.set_cons_succ, splice, List.take_succ_cons, List.take_zero, List.drop_succ_cons, List.drop_zero, List.nil_append, List.cons_append, List.length_cons, List.length_nil, Nat.reduceAdd, List.append_assoc] at hs
    refine WL_nil ?_
    refine q_n ?_
    refine ⟨_, hs.tail, fun w hs => ⟨_, ⟨.slice ta' (ks.length + 1) tc', Lv', rfl, ?_⟩, ?_⟩⟩
    · rw [List.length_append, i64s, List.map_append]; exact hO'
    · simpa [cat] using St.reord [[_, _, _], Lv', LO, L0] [2, 0, 1, 3] [] (by simpa [cat] using hs) rfl
  case next =>
    rintro _ w ⟨ks, _, ⟨v, Lv, rfl, hO⟩, hs, hp⟩
    obtain ⟨_, tc, ta, rfl, hvl⟩ := hO.form
    subst hvl
    refine ⟨_, hs, ?_⟩
    clear hs; intro w hs
    refine n_blk ?_
    refine n_loop ?_
    refine M_W ?_
    refine W_seq ?_
    refine W_region ?_
    first
      | refine s_load Tryd.isAgg22 rfl rfl (hs.cell (k := 0) rfl rfl) ?_
      | refine s_load Tryd.isAgg22 rfl rfl (hs.cell (k := 1) rfl rfl) ?_
      | refine s_load Tryd.isAgg22 rfl rfl (hs.cell (k := 2) rfl rfl) ?_
      | refine s_load Tryd.isAgg22 rfl rfl (hs.cell (k := 3) rfl rfl) ?_
    refine s_assign rfl rfl ?_
    refine WL_nil ?_
    refine n_then ?_
    refine W_ret ?_
    refine M_end hs ?_
    clear hs; intro w hs
    exact end1 rfl rfl ⟨_, hs.tail, ks, Lv, rfl, hO, hp⟩
theorem collect_ok (b m : Nat) (o : Obj) (es : KVs) (hm : MapI o es) (hl : es.length ≤ 1000000) (L0 : Hp) (w0 : World) (hb : (b, Blk 58 [.map (some m)]) ∈ L0) (hmo : (m, o) ∈ L0) (hs : St (ids L0) w0 w0 L0) :
    Ret Tryd.prog 67 [.func (.func 69) [].toArray [.pointer (some ⟨b, 0, none⟩)].toArray].toArray w0 fun r w' => ∃ L', St (ids L0) w0 w' L' ∧ ∃ ks Lv, L' = Lv ++ L0 ∧ OwnS 3 1 r ks.length (i64s ks) Lv ∧ ks.Perm (es.map Prod.fst) := by
  refine Ret_startL hs fun w hs => ?_
  refine Ret_of Tryd.func67 rfl Tryd.ntmps67 rfl ?_
  refine W_seq ?_
  refine W_region ?_
  refine s_assign rfl rfl ?_
  refine WL_nil ?_
  refine n_then ?_
  refine W_seq ?_
  refine W_region ?_
  refine s_move rfl rfl ?_
  refine s_callL (M := []) (L1 := L0) (X := []) Tryd.call77 rfl rfl (by simpa using hs) (fun h => appendSeq_ok b m o es hm hl L0 w hb hmo h) ?_
  clear hs; rintro v w L' ⟨ks, Lv, rfl, hO, hp⟩ - hs
  simp only [List.nil_append, List.append_nil] at hs
  refine s_assign rfl rfl ?_
  refine WL_nil ?_
  refine n_then ?_
  refine W_ret ?_
  exact end1 rfl rfl ⟨_, hs, ks, Lv, rfl, hO, hp⟩
theorem srt_perm (zs : List Int) : (srt zs).Perm zs := List.mergeSort_perm _ _
theorem srt_sorted (zs : List Int) : (srt zs).Pairwise (· ≤ ·) := by
  have := List.pairwise_mergeSort (le := fun x y : Int => decide (x ≤ y)) (by intro a b c h1 h2; simp at *; omega) (by intro a b; simp; omega) zs
  exact this.imp (by simp)
/-- two lists in order with the same members are one -/
theorem sorted_eq : ∀ {xs ys : List Int}, xs.Pairwise (· < ·) → ys.Pairwise (· < ·) → (∀ z, z ∈ xs ↔ z ∈ ys) → xs = ys
  | [], [], _, _, _ => rfl
  | [], y :: ys, _, _, h => by have := (h y).2 List.mem_cons_self; cases this
  | x :: xs, [], _, _, h => by have := (h x).1 List.mem_cons_self; cases this
  | x :: xs, y :: ys, hx, hy, h => by
    rw [List.pairwise_cons] at hx hy
    have hxy : x = y := by
      rcases List.mem_cons.1 ((h x).1 List.mem_cons_self) with h1 | h1
      · exact h1
      · rcases List.mem_cons.1 ((h y).2 List.mem_cons_self) with h2 | h2
        · exact h2.symm
        · have := hy.1 x h1; have := hx.1 y h2; omega
    subst hxy
    congr 1
    refine sorted_eq hx.2 hy.2 fun z => ⟨fun hz => ?_, fun hz => ?_⟩
    · rcases List.mem_cons.1 ((h z).1 (List.mem_cons_of_mem _ hz)) with h1 | h1
      · have := hx.1 z hz; omega
      · exact h1
    · rcases List.mem_cons.1 ((h z).2 (List.mem_cons_of_mem _ hz)) with h1 | h1
      · have := hy.1 z hz; omega
      · exact h1
theorem lt_of_le_nodup {xs : List Int} (h : xs.Pairwise (· ≤ ·)) (hn : xs.Nodup) : xs.Pairwise (· < ·) := by
  have := h.and hn
  exact this.imp (by rintro a b ⟨h1, h2⟩; omega)
theorem sorted_ok (b m : Nat) (o : Obj) (es : KVs) (hm : MapI o es) (hl : es.length ≤ 1000000) (L0 : Hp) (w0 : World) (hb : (b, Blk 58 [.map (some m)]) ∈ L0) (hmo : (m, o) ∈ L0) (hs : St (ids L0) w0 w0 L0) :
    Ret Tryd.prog 48 [.func (.func 69) [].toArray [.pointer (some ⟨b, 0, none⟩)].toArray].toArray w0 fun r w' => ∃ L', St (ids L0) w0 w' L' ∧ ∃ ks Lv, L' = Lv ++ L0 ∧ OwnS 3 1 r ks.length (i64s ks) Lv ∧ ks.Perm (es.map Prod.fst) ∧ ks.Pairwise (· < ·) := by
  refine Ret_startL hs fun w hs => ?_
  refine Ret_of Tryd.func48 rfl Tryd.ntmps48 rfl ?_
  refine W_seq ?_
  refine W_region ?_
  refine s_assign rfl rfl ?_
  refine WL_nil ?_
  refine n_then ?_
  refine W_seq ?_
  refine W_region ?_
  refine s_move rfl rfl ?_
  refine s_callL (M := []) (L1 := L0) (X := []) Tryd.call67 rfl rfl (by simpa using hs) (fun h => collect_ok b m o es hm hl L0 w hb hmo h) ?_
  clear hs; rintro v w L' ⟨ks, Lv, rfl, hO, hp⟩ - hs
  simp only [List.nil_append, List.append_nil] at hs
  have hkl : ks.length = es.length := by rw [hp.length_eq, List.length_map]
  refine s_assign rfl rfl ?_
  refine WL_nil ?_
  refine n_then ?_
  refine W_seq ?_
  refine W_region ?_
  refine s_move rfl rfl ?_
  refine s_callL (M := []) (L1 := Lv) (X := L0) Tryd.call68 rfl rfl hs (fun h => sort_ok v ks Lv w hO h (by omega)) ?_
  clear hs; rintro u w Lv' hO' - hs
  simp only [List.nil_append] at hs
  refine WL_nil ?_
  refine n_then ?_
  refine W_seq ?_
  refine W_region ?_
  refine s_move rfl rfl ?_
  refine s_assign rfl rfl ?_
  refine WL_nil ?_
  refine n_then ?_
  refine W_ret ?_
  refine end1 rfl rfl ⟨_, hs, srt ks, Lv', rfl, by rw [srt_length]; exact hO', (srt_perm ks).trans hp, lt_of_le_nodup (srt_sorted ks) ?_⟩
  exact ((srt_perm ks).trans hp).nodup_iff.2 hm.keys
end Go.Proofs.YtgppcfgnhahnaaaDoor
