/- decl.Decode. -/
import Derived.Test.YtmjjdcfakkaiiaaDeJ
set_option linter.unusedVariables false
set_option linter.unusedSimpArgs false
namespace Go.Proofs.Ytmjjdcfakkaiiaa
open Go.SL
/-! what is read: plain -/
def rdTs : List Nat → List Value → RS → List Value × RS
  | [], cs, s => (cs, s)
  | o :: os, cs, s => rdTs os (cs.set o (.string (strOf (rdRaw s).1))) (rdRaw s).2
theorem rdTs_snoc (o : Nat) : ∀ (os : List Nat) (cs : List Value) (s : RS), rdTs (os ++ [o]) cs s = ((rdTs os cs s).1.set o (.string (strOf (rdRaw (rdTs os cs s).2).1)), (rdRaw (rdTs os cs s).2).2)
  | [], _, _ => rfl
  | _ :: os, _, _ => rdTs_snoc o os _ _
theorem rdTs_len : ∀ (os : List Nat) (cs : List Value) (s : RS), (rdTs os cs s).1.length = cs.length
  | [], _, _ => rfl
  | _ :: os, cs, s => by rw [rdTs, rdTs_len os]; simp
def rdLs : Nat → RS → List Lb × RS
  | 0, s => ([], s)
  | n + 1, s => ((rdLs n s).1 ++ [(strOf (rdRaw (rdLs n s).2).1, strOf (rdRaw (rdRaw (rdLs n s).2).2).1)], (rdRaw (rdRaw (rdLs n s).2).2).2)
theorem rdLs_len : ∀ (n : Nat) (s : RS), (rdLs n s).1.length = n
  | 0, _ => rfl
  | n + 1, s => by simp [rdLs, rdLs_len n s]
def rdNs : Nat → RS → List Int × RS
  | 0, s => ([], s)
  | n + 1, s => ((rdNs n s).1 ++ [(rdI (rdNs n s).2).1], (rdI (rdNs n s).2).2)
theorem rdNs_len : ∀ (n : Nat) (s : RS), (rdNs n s).1.length = n
  | 0, _ => rfl
  | n + 1, s => by simp [rdNs, rdNs_len n s]
/-! the reader's closures -/
def PtrB (t b p : Nat) : Nat × Obj := (b, Blk t [.pointer (some ⟨p, 0, none⟩)])
theorem dec1_ok (b o e q p : Nat) (cs : List Value) (s : RS) (LR : Hp) (w0 : World) (hR : RdAt p s LR) (hs : St (ids ((b, Blk e cs) :: PtrB 44 q p :: LR)) w0 w0 ((b, Blk e cs) :: PtrB 44 q p :: LR)) (ho : o < cs.length) :
    Ret Try.prog 50 [.pointer (some ⟨b, o, none⟩), .pointer (some ⟨q, 0, none⟩)].toArray w0 fun _ w' => ∃ L', St (ids ((b, Blk e cs) :: PtrB 44 q p :: LR)) w0 w' L' ∧ ∃ LR', RdAt p (rdRaw s).2 LR' ∧ L' = (b, Blk e (cs.set o (.string (strOf (rdRaw s).1)))) :: PtrB 44 q p :: LR' := by
  refine Ret_startL hs fun w hs => ?_
  generalize ids ((b, Blk e cs) :: PtrB 44 q p :: LR) = F at *
  unfold PtrB at *
  refine Ret_of Try.func50 rfl Try.ntmps50 rfl ?_
  refine W_region ?_
  refine s_move rfl rfl ?_
  refine s_load Try.isAgg44 rfl rfl (hs.cell (k := 1) rfl rfl) ?_
  refine s_callL (M := [_, _]) (L1 := LR) (X := []) Try.call24 rfl rfl (by simpa using hs) (fun h => rText_ok p s LR _ hR h) ?_
  clear hs; rintro v w LR2 ⟨hR2, rfl⟩ - hs
  simp only [List.nil_append, List.append_nil, List.cons_append] at hs
  refine s_nilCheck rfl rfl ?_
  refine s_storeB Try.sizeOf9 rfl rfl rfl hs (kk := 0) rfl (by simpa [Nat.blt_eq] using ho) ?_
  clear hs; intro w hs; simp only [List.set_cons_zero] at hs
  refine WL_nil ?_
  exact end0' rfl ⟨_, hs, LR2, hR2, rfl⟩
theorem dec2_ok (b o e q p : Nat) (cs : List Value) (s : RS) (LR : Hp) (w0 : World) (hR : RdAt p s LR) (hs : St (ids ((b, Blk e cs) :: PtrB 44 q p :: LR)) w0 w0 ((b, Blk e cs) :: PtrB 44 q p :: LR)) (ho : o < cs.length) :
    Ret Try.prog 51 [.pointer (some ⟨b, o, none⟩), .pointer (some ⟨q, 0, none⟩)].toArray w0 fun _ w' => ∃ L', St (ids ((b, Blk e cs) :: PtrB 44 q p :: LR)) w0 w' L' ∧ ∃ LR', RdAt p (rdI s).2 LR' ∧ L' = (b, Blk e (cs.set o (.int .i64 (rdI s).1))) :: PtrB 44 q p :: LR' := by
  refine Ret_startL hs fun w hs => ?_
  generalize ids ((b, Blk e cs) :: PtrB 44 q p :: LR) = F at *
  unfold PtrB at *
  refine Ret_of Try.func51 rfl Try.ntmps51 rfl ?_
  refine W_region ?_
  refine s_move rfl rfl ?_
  refine s_load Try.isAgg44 rfl rfl (hs.cell (k := 1) rfl rfl) ?_
  refine s_callL (M := [_, _]) (L1 := LR) (X := []) Try.call25 rfl rfl (by simpa using hs) (fun h => rInt_ok p s LR _ hR h) ?_
  clear hs; rintro v w LR2 ⟨hR2, rfl⟩ - hs
  simp only [List.nil_append, List.append_nil, List.cons_append] at hs
  refine s_nilCheck rfl rfl ?_
  refine s_storeB Try.sizeOf3 rfl rfl rfl hs (kk := 0) rfl (by simpa [Nat.blt_eq] using ho) ?_
  clear hs; intro w hs; simp only [List.set_cons_zero] at hs
  refine WL_nil ?_
  exact end0' rfl ⟨_, hs, LR2, hR2, rfl⟩
theorem decEach_ok (v : Value) (os : List Nat) (b e q p : Nat) (cs : List Value) (s : RS) (LR : Hp) (w0 : World) (hR : RdAt p s LR) (hs : St (ids ((b, Blk e cs) :: PtrB 44 q p :: LR)) w0 w0 ((b, Blk e cs) :: PtrB 44 q p :: LR)) (hv : Sl w0 v os.length (os.map fun o => .pointer (some ⟨b, o, none⟩))) (hd : ∀ a m c, v = .slice (some a) m c → a.block ∉ ids ((b, Blk e cs) :: PtrB 44 q p :: LR)) (ho : ∀ o ∈ os, o < cs.length) (hn : os.length ≤ 100) :
    Ret Try.prog 43 [.func (.func 50) #[] #[.pointer (some ⟨q, 0, none⟩)], v].toArray w0 fun r w' => ∃ L', St (ids ((b, Blk e cs) :: PtrB 44 q p :: LR)) w0 w' L' ∧ (∃ LR', RdAt p (rdTs os cs s).2 LR' ∧ L' = (b, Blk e (rdTs os cs s).1) :: PtrB 44 q p :: LR') ∧ r = .tuple #[] := by
  have h := eachS_ok 50 [.pointer (some ⟨q, 0, none⟩)] Try.call50 v (os.map fun o => .pointer (some ⟨b, o, none⟩)) _ w0 (fun i L => ∃ LR', RdAt p (rdTs (os.take i) cs s).2 LR' ∧ L = (b, Blk e (rdTs (os.take i) cs s).1) :: PtrB 44 q p :: LR') (by rw [List.length_map]; exact hv) (fun a m c ha _ => hd a m c ha) (by rw [List.length_map]; exact hn) ⟨LR, by simpa [rdTs] using hR, by simp [rdTs]⟩ hs (fun i pp L w hp hI hf hst => by
    rw [List.getElem?_map] at hp
    obtain ⟨o, hoi, rfl⟩ : ∃ o, os[i]? = some o ∧ Value.pointer (some ⟨b, o, none⟩) = pp := by
      cases h : os[i]? with
      | none => rw [h] at hp; cases hp
      | some q => rw [h] at hp; exact ⟨q, rfl, by simpa using hp⟩
    obtain ⟨LR1, hR1, rfl⟩ := hI
    refine Ret.mono (dec1_ok b o e q p _ _ LR1 w hR1 hst (by rw [rdTs_len]; exact ho o (List.mem_of_getElem? hoi))) ?_
    rintro _ w' ⟨L', hst', LR', hR', hL'⟩
    refine ⟨L', hst', LR', ?_, ?_⟩
    · rw [List.take_add_one, hoi]; simp only [Option.toList]; rw [rdTs_snoc]; exact hR'
    · rw [List.take_add_one, hoi]; simp only [Option.toList]; rw [rdTs_snoc]; exact hL')
  refine Ret.mono h ?_
  rintro r w' ⟨L', hst, hI, hr⟩
  refine ⟨L', hst, ?_, hr⟩
  rw [List.length_map, List.take_length] at hI
  exact hI
def numCells (nm : ByteArray) (lv : Value) (i : Nat) (s : RS) : List Value := .string nm :: lv :: ((rdNs i s).1.map (Value.int .i64) ++ List.replicate (10 - i) (.int .i64 0))
theorem numCells_set (nm : ByteArray) (lv : Value) (i : Nat) (s : RS) (h : i < 10) : (numCells nm lv i s).set (2 + i) (.int .i64 (rdI (rdNs i s).2).1) = numCells nm lv (i + 1) s := by
  rw [numCells, numCells, show 2 + i = i + 1 + 1 by omega, List.set_cons_succ, List.set_cons_succ]
  congr 2
  rw [List.set_append_right _ _ (by simp [rdNs_len]), rdNs]
  simp only [List.length_map, rdNs_len, Nat.sub_self, List.map_append, List.map_cons, List.map_nil, List.append_assoc, List.cons_append, List.nil_append]
  rw [show 10 - i = (10 - (i + 1)) + 1 by omega, List.replicate_succ, List.set_cons_zero]
theorem decNums_ok (nm : ByteArray) (lv : Value) (b e q p : Nat) (s : RS) (LR : Hp) (w0 : World) (hR : RdAt p s LR) (hs : St (ids ((b, Blk e (numCells nm lv 0 s)) :: PtrB 44 q p :: LR)) w0 w0 ((b, Blk e (numCells nm lv 0 s)) :: PtrB 44 q p :: LR)) :
    Ret Try.prog 45 [.pointer (some ⟨b, 0, none⟩), .func (.func 51) #[] #[.pointer (some ⟨q, 0, none⟩)]].toArray w0 fun r w' => ∃ L', St (ids ((b, Blk e (numCells nm lv 0 s)) :: PtrB 44 q p :: LR)) w0 w' L' ∧ (∃ LR', RdAt p (rdNs 10 s).2 LR' ∧ L' = (b, Blk e (numCells nm lv 10 s)) :: PtrB 44 q p :: LR') ∧ r = .tuple #[] :=
  numbers_ok 51 [.pointer (some ⟨q, 0, none⟩)] Try.call51 b _ w0 (fun i L => ∃ LR', RdAt p (rdNs i s).2 LR' ∧ L = (b, Blk e (numCells nm lv i s)) :: PtrB 44 q p :: LR') ⟨LR, hR, rfl⟩ hs (fun i L w hi hI hf hst => by
    obtain ⟨LR1, hR1, rfl⟩ := hI
    refine Ret.mono (dec2_ok b (2 + i) e q p _ _ LR1 w hR1 hst (by simp [numCells, rdNs_len]; omega)) ?_
    rintro _ w' ⟨L', hst', LR', hR', hL'⟩
    exact ⟨L', hst', LR', hR', by rw [← numCells_set nm lv i s hi]; exact hL'⟩)
end Go.Proofs.Ytmjjdcfakkaiiaa
