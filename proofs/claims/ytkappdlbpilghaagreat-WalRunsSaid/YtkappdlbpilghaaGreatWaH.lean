/- The reference's Core. -/
import Derived.Test.YtkappdlbpilghaaGreatWaB
set_option linter.unusedVariables false
set_option linter.unusedSimpArgs false
namespace Go.Proofs.YtkappdlbpilghaaGreat
open Go.SL
theorem fCore_ok (n : Int) (v : Value) (x : List Int) (w0 : World) (hv : Sl w0 v x.length (u8s x)) (hn : isI64 n) (hx : x.length ≤ 1048576) :
    Ret Tryz.prog 51 [.int .i64 n, v].toArray w0 fun r w' => ∃ Lr, OwnS 5 1 r (coreV n x).length (u8s (coreV n x)) Lr ∧ St [] w0 w' Lr := by
  have hul := uvar_len10 (zz_lt hn)
  have hul2 := uvar_len10 (n := x.length) (by omega)
  refine Ret_start fun w hs => ?_
  refine Ret_of Tryz.func51 rfl Tryz.ntmps51 rfl ?_
  refine W_seq ?_
  refine W_region ?_
  refine s_assign rfl rfl ?_
  refine WL_nil ?_
  refine n_then ?_
  refine W_seq ?_
  refine W_region ?_
  refine s_move rfl rfl ?_
  refine s_call Tryz.call70 rfl rfl (fInt_ok n w hn) ?_
  rintro r w ⟨L1, hO1, hst⟩
  replace hs := St.back0 hs hst
  simp only [List.append_nil] at hs
  clear hst
  refine s_assign rfl rfl ?_
  refine WL_nil ?_
  refine n_then ?_
  refine W_seq ?_
  refine W_region ?_
  refine s_move rfl rfl ?_
  refine s_move rfl rfl ?_
  refine s_call Tryz.call52 rfl rfl (fRaw_ok v x w (hv.fwd0 hs.fwd) (by omega)) ?_
  rintro r w ⟨L2, hO2, hst⟩
  replace hs := St.back0 hs hst
  clear hst
  refine s_appendM (M := L2) (X := []) El39 rfl rfl rfl hO1 (by simp only [List.append_nil]; exact hs) (hO2.sl hs) (by rw [hO2.1]) (fun c hc => by simp only [u8s, List.mem_map] at hc; obtain ⟨z, _, rfl⟩ := hc; rfl) (by simp only [List.length_append]; omega) ?_
  clear hs; intro v' w Lv' hO' hs
  simp only [List.append_nil] at hs
  refine s_assign rfl rfl ?_
  refine WL_nil ?_
  refine n_then ?_
  refine W_ret ?_
  refine end1 rfl rfl ⟨Lv', ?_, hs.right⟩
  rw [coreV, List.append_assoc, List.length_append, u8s, List.map_append]; exact hO'
end Go.Proofs.YtkappdlbpilghaaGreat

/- The reference's mix, Words, Sum, Bytes. -/
namespace Go.Proofs.YtkappdlbpilghaaGreat
open Go.SL
theorem fMix_ok {mx : Nat → Nat → Nat} (hmx : IsMix mx) (s v : Nat) (w0 : World) (hs : s < 18446744073709551616) (hv : v < 18446744073709551616) : Ret Tryz.prog 86 [.int .u64 (s : Int), .int .u64 (v : Int)].toArray w0 fun r w' => w' = w0 ∧ r = .int .u64 (mx s v : Int) := by
  obtain ⟨m, hmd⟩ : ∃ m, m = (s ^^^ v) * 11400714819323198485 % 18446744073709551616 := ⟨_, rfl⟩
  have hm : m < 18446744073709551616 := by rw [hmd]; exact Nat.mod_lt _ (Nat.succ_pos _)
  have hm2 : m / 4294967296 < 18446744073709551616 := Nat.lt_of_le_of_lt (Nat.div_le_self _ _) hm
  rw [hmx, mixV_at hmd]
  have hmu := mulU _ _ hmd
  clear hmd
  have hq : IntKind.u64.wrap ((m : Int).tdiv 4294967296) = ((m / 4294967296 : Nat) : Int) := by
    rw [show (m : Int).tdiv 4294967296 = ((m / 4294967296 : Nat) : Int) by rw [Int.tdiv_eq_ediv_of_nonneg (by omega)]; omega, u64w hm2]
  refine Ret_of Tryz.func86 rfl Tryz.ntmps86 rfl ?_
  refine W_seq ?_
  refine W_region ?_
  refine s_assign rfl rfl ?_
  refine WL_nil ?_
  refine n_then ?_
  refine W_seq ?_
  refine W_region ?_
  refine s_move rfl rfl ?_
  refine s_move rfl rfl ?_
  refine s_xor rfl rfl rfl ?_
  rw [xor64 _ _ hs hv]
  refine s_mul rfl rfl rfl ?_
  rw [hmu]
  refine s_assign rfl rfl ?_
  refine WL_nil ?_
  refine n_then ?_
  refine W_seq ?_
  refine W_region ?_
  refine s_move rfl rfl ?_
  refine s_move rfl rfl ?_
  (refine s_quo rfl rfl rfl ?hx ?_; case hx => omega)
  refine s_xor rfl rfl rfl ?_
  rw [hq, xor64 _ _ hm hm2]
  refine s_assign rfl rfl ?_
  refine WL_nil ?_
  refine n_then ?_
  refine W_ret ?_
  exact end1 rfl rfl ⟨rfl, rfl⟩
end Go.Proofs.YtkappdlbpilghaaGreat

/- The reference's Words. -/
namespace Go.Proofs.YtkappdlbpilghaaGreat
open Go.SL
def wcells (ws : List Nat) : List Value := ws.map fun (m : Nat) => .int .u64 (m : Int)
theorem fWords_ok (v : Value) (bs : List Int) (w0 : World) (hv : Sl w0 v bs.length (u8s bs)) (hB : ∀ b ∈ bs, isB b) (hl : bs.length ≤ 4294967296) :
    Ret Tryz.prog 71 [v].toArray w0 fun r w' => ∃ Lr, OwnS 75 1 r (wordsOf bs).length (wcells (wordsOf bs)) Lr ∧ St [] w0 w' Lr := by
  obtain ⟨a, c, rfl, hac⟩ := hv.len_le
  refine Ret_start fun w hs => ?_
  refine Ret_of Tryz.func71 rfl Tryz.ntmps71 rfl ?_
  refine W_seq ?_
  refine W_region ?_
  refine s_assign rfl rfl ?_
  refine WL_nil ?_
  refine n_then ?_
  refine W_seq ?_
  refine W_region ?_
  refine s_assign rfl rfl ?_
  refine WL_nil ?_
  refine n_then ?_
  refine W_seq ?_
  refine W_seq ?_
  refine W_region ?_
  refine s_assign rfl rfl ?_
  refine WL_nil ?_
  refine n_then ?_
  refine W_block ?_
  refine W_loop (σ := Nat × Value × Hp) (fun s => [(0, .slice a bs.length c), (3, s.2.1), (4, .int .i64 ((8 * s.1 : Nat) : Int))]) (fun s w => St [] w0 w s.2.2 ∧ OwnS 75 1 s.2.1 s.1 (wcells ((List.range s.1).map (wordAt bs))) s.2.2 ∧ s.1 ≤ nWords bs) (fun s => nWords bs - s.1) (0, .slice none 0 0, []) ⟨rfl, rfl, rfl, trivial⟩ ⟨hs, OwnS.nil _ _, Nat.zero_le _⟩ ?_
  clear hs
  rintro ⟨k, v3, L3⟩ w ⟨hs, hO, hk⟩
  simp only at hs hO hk ⊢
  unfold nWords at hk
  obtain ⟨l3, c3, a3, rfl, rfl⟩ := hO.form
  refine W_seq ?_
  refine W_seq ?_
  refine W_region ?_
  refine s_move rfl rfl ?_
  refine s_move rfl rfl ?_
  refine s_len rfl rfl (LN39 _ _ _ _) ?_
  refine s_lss rfl rfl rfl ?_
  refine WL_nil ?_
  refine n_then ?_
  refine W_cond rfl (fun hc10 => ?_) (fun hc10 => ?_)
  · skip
    try simp only [decide_eq_true_eq, decide_eq_false_iff_not, ge_iff_le] at hc10
    refine W_skip ?_
    refine n_then ?_
    refine W_seq ?_
    refine W_block ?_
    refine W_seq ?_
    refine W_region ?_
    refine s_assign rfl rfl ?_
    refine WL_nil ?_
    refine n_then ?_
    refine W_seq ?_
    refine W_seq ?_
    refine W_region ?_
    refine s_move rfl rfl ?_
    first | (refine s_add' rfl rfl rfl ?hx ?_; case hx => (constructor <;> first | omega | (simp only; omega))) | refine s_add rfl rfl rfl ?_
    refine s_move rfl rfl ?_
    refine s_len rfl rfl (LN39 _ _ _ _) ?_
    refine s_min rfl rfl rfl ?_
    obtain ⟨e, he⟩ : ∃ e, e = min (8 * l3 + 8) bs.length := ⟨_, rfl⟩
    rw [show (if (bs.length : Int) < ((8 * l3 : Nat) : Int) + 8 then (bs.length : Int) else ((8 * l3 : Nat) : Int) + 8) = (e : Int) by rw [he]; split <;> omega]
    first | (refine s_sub' rfl rfl rfl ?hx ?_; case hx => (constructor <;> first | omega | (simp only; omega))) | refine s_sub rfl rfl rfl ?_
    refine s_assign rfl rfl ?_
    refine WL_nil ?_
    refine n_then ?_
    refine W_block ?_
    refine W_loop (σ := Nat) (fun m => [(0, .slice a bs.length c), (3, .slice a3 l3 c3), (4, .int .i64 ((8 * l3 : Nat) : Int)), (5, .int .u64 ((leV ((bs.drop m).take (e - m)) : Nat) : Int)), (6, .int .i64 ((m : Int) - 1))]) (fun m w => St [] w0 w L3 ∧ 8 * l3 ≤ m ∧ m ≤ e) (fun m => m) e ⟨rfl, rfl, rfl, by rw [Nat.sub_self, List.take_zero]; rfl, rfl, trivial⟩ ⟨hs, by omega, Nat.le_refl _⟩ ?_
    clear hs
    rintro m w ⟨hs, hm1, hm2⟩
    refine W_seq ?_
    refine W_seq ?_
    refine W_region ?_
    refine s_move rfl rfl ?_
    refine s_move rfl rfl ?_
    refine s_geq rfl rfl rfl ?_
    refine WL_nil ?_
    refine n_then ?_
    refine W_cond rfl (fun hc21 => ?_) (fun hc21 => ?_)
    · skip
      try simp only [decide_eq_true_eq, decide_eq_false_iff_not, ge_iff_le] at hc21
      obtain ⟨j, rfl⟩ : ∃ j, m = j + 1 := ⟨m - 1, by omega⟩
      have hjl : j < bs.length := by omega
      have hbj : bs[j]? = some bs[j] := List.getElem?_eq_getElem hjl
      have hdj : bs.drop j = bs[j] :: bs.drop (j + 1) := List.drop_eq_getElem_cons hjl
      generalize bs[j] = B at hbj hdj
      have hBB := hB B (List.mem_of_getElem? hbj)
      unfold isB at hBB
      have hnew : leV ((bs.drop j).take (e - j)) = B.toNat + 256 * leV ((bs.drop (j + 1)).take (e - (j + 1))) := by
        rw [hdj, show e - j = (e - (j + 1)) + 1 by omega, List.take_succ_cons, leV]
      have hWl : leV ((bs.drop (j + 1)).take (e - (j + 1))) < 72057594037927936 := by
        have h1 := leV_pre hB (j + 1) (e - (j + 1))
        refine Nat.lt_of_lt_of_le h1 (Nat.le_trans (Nat.pow_le_pow_right (by decide) (show 8 * (e - (j + 1)) ≤ 56 by omega)) (by decide))
      generalize leV ((bs.drop (j + 1)).take (e - (j + 1))) = W at hnew hWl
      rw [show (((j + 1 : Nat)) : Int) - 1 = (j : Int) by omega]
      obtain ⟨sb, so, hA, hcell⟩ := Sl.at (k := j) (u := .int .u8 B) (hv.fwd0 hs.fwd) (by rw [u8s, List.getElem?_map, hbj]; rfl)
      refine W_skip ?_
      refine n_then ?_
      refine W_seq ?_
      refine W_block ?_
      refine W_region ?_
      refine s_move rfl rfl ?_
      refine s_mul rfl rfl rfl ?_
      rw [show IntKind.u64.wrap ((256 : Int) * (W : Int)) = ((256 * W : Nat) : Int) by rw [show (256 : Int) * (W : Int) = ((256 * W : Nat) : Int) by omega, u64w (by omega)]]
      refine s_move rfl rfl ?_
      refine s_move rfl rfl ?_
      (refine s_indexAddrO El39 rfl rfl rfl hA ?hx ?_; case hx => (constructor <;> omega))
      refine s_load Tryz.isAgg5 rfl rfl hcell ?_
      refine s_convert rfl rfl (CV5_75 _) ?_
      rw [show IntKind.u64.wrap B = ((B.toNat : Nat) : Int) by rw [show B = ((B.toNat : Nat) : Int) by omega, u64w (by omega)]; omega]
      refine s_add rfl rfl rfl ?_
      rw [show IntKind.u64.wrap (((256 * W : Nat) : Int) + ((B.toNat : Nat) : Int)) = ((leV ((bs.drop j).take (e - j)) : Nat) : Int) by rw [hnew, show ((256 * W : Nat) : Int) + ((B.toNat : Nat) : Int) = ((B.toNat + 256 * W : Nat) : Int) by omega, u64w (by omega)]]
      refine s_assign rfl rfl ?_
      refine WL_nil ?_
      refine n_blk ?_
      refine n_then ?_
      refine W_region ?_
      refine s_move rfl rfl ?_
      first | (refine s_sub' rfl rfl rfl ?hx ?_; case hx => (constructor <;> first | omega | (simp only; omega))) | refine s_sub rfl rfl rfl ?_
      refine s_assign rfl rfl ?_
      refine WL_nil ?_
      refine n_loop ?_
      exact ⟨j, ⟨rfl, rfl, rfl, rfl, rfl, trivial⟩, ⟨hs, by omega, by omega⟩, by omega⟩
    · skip
      try simp only [decide_eq_true_eq, decide_eq_false_iff_not, ge_iff_le] at hc21
      refine W_exit ?_
      refine x_then ?_
      refine x_then ?_
      refine exit_hit ?_
      refine n_then ?_
      refine W_region ?_
      refine s_move rfl rfl ?_
      refine s_move rfl rfl ?_
      refine s_buildSlice rfl rfl (BS103_1 _) hs ?_; clear hs; intro b34 w hs
      have hme : m = 8 * l3 := by omega
      have hwd : leV ((bs.drop m).take (e - m)) = wordAt bs l3 := by
        rw [hme, wordAt]
        congr 1
        rw [he]
        rcases Nat.le_total (8 * l3 + 8) bs.length with h | h
        · rw [Nat.min_eq_left h, show 8 * l3 + 8 - 8 * l3 = 8 by omega]
        · rw [Nat.min_eq_right h, List.take_of_length_le (by simp), List.take_of_length_le (by simp; omega)]
      refine s_appendM (M := [_]) (X := []) El103 rfl rfl rfl hO (by simpa using hs) (hs.sl (k := 0) (ds := [_]) rfl (Nat.le_refl _) (by intro j u hj; rw [Nat.zero_add]; exact hj)) rfl (by simp [Value.oneCell']) (by omega) ?_
      clear hs; intro v' w Lv' hO' hs
      simp only [List.cons_append, List.nil_append, List.append_nil] at hs
      refine s_assign rfl rfl ?_
      refine WL_nil ?_
      refine n_blk ?_
      refine n_then ?_
      refine W_region ?_
      refine s_move rfl rfl ?_
      first | (refine s_add' rfl rfl rfl ?hx ?_; case hx => (constructor <;> first | omega | (simp only; omega))) | refine s_add rfl rfl rfl ?_
      refine s_assign rfl rfl ?_
      refine WL_nil ?_
      refine n_loop ?_
      refine ⟨(l3 + 1, v', Lv'), ⟨rfl, rfl, by simp only [SL.get]; congr 2, trivial⟩, ⟨hs.tail, ?_, by simp only [nWords]; omega⟩, by simp only [nWords]; omega⟩
      simp only
      rw [hwd] at hO'
      rw [List.range_succ, List.map_append, wcells, List.map_append]
      exact hO'
  · skip
    try simp only [decide_eq_true_eq, decide_eq_false_iff_not, ge_iff_le] at hc10
    refine W_exit ?_
    refine x_then ?_
    refine x_then ?_
    refine exit_hit ?_
    refine n_then ?_
    refine W_seq ?_
    refine W_region ?_
    refine s_move rfl rfl ?_
    refine s_assign rfl rfl ?_
    refine WL_nil ?_
    refine n_then ?_
    refine W_ret ?_
    have hke : l3 = nWords bs := by unfold nWords; omega
    refine end1 rfl rfl ⟨L3, ?_, hs⟩
    rw [wordsOf, List.length_map, List.length_range, ← hke]; exact hO
end Go.Proofs.YtkappdlbpilghaaGreat

/- The reference's Sum. -/
namespace Go.Proofs.YtkappdlbpilghaaGreat
open Go.SL
theorem fSum_ok {mx : Nat → Nat → Nat} (hmx : IsMix mx) (s : ByteArray) (v : Value) (xs : List Int) (w0 : World) (hv : Sl w0 v xs.length (i64s xs)) (hsz : s.size ≤ 4294967296) (hl : xs.length ≤ 4294967296) :
    Ret Tryz.prog 72 [.string s, v].toArray w0 fun r w' => Fwd [] w0 w' ∧ r = .int .u64 (sumV mx (bytesOf s) xs : Int) := by
  obtain ⟨a, c, rfl, hac⟩ := hv.len_le
  have hmlt := hmx.lt
  refine Ret_start fun w hs => ?_
  refine Ret_of Tryz.func72 rfl Tryz.ntmps72 rfl ?_
  refine W_seq ?_
  refine W_region ?_
  refine s_assign rfl rfl ?_
  refine WL_nil ?_
  refine n_then ?_
  refine W_seq ?_
  refine W_region ?_
  refine s_assign rfl rfl ?_
  refine WL_nil ?_
  refine n_then ?_
  refine W_seq ?_
  refine W_region ?_
  refine s_move rfl rfl ?_
  refine s_str_bytes Tryz.underlying9 Tryz.underlying39 Tryz.underlying5 rfl rfl hs ?_
  clear hs; intro sb sc so w hrd hs
  replace hrd : RdS (.slice (some ⟨sb, 0, none⟩) s.size sc) s.size (u8s (bytesOf s)) [(sb, so)] := by rw [u8s, u8s_bytesOf]; exact hrd
  refine s_call Tryz.call71 rfl rfl (fWords_ok _ (bytesOf s) w (by rw [bytesOf_length]; exact hrd.sl w (fun q hq => hs.own q hq)) (bytesOf_isB s) (by rw [bytesOf_length]; omega)) ?_
  rintro r w ⟨L2, hO2, hst⟩
  replace hs := (St.back0 hs hst).left
  clear hst hrd
  obtain ⟨l2, c2, a2, rfl, rfl⟩ := hO2.form
  have hwl : ∀ z ∈ wordsOf (bytesOf s), z < 18446744073709551616 := fun z hz => by
    obtain ⟨k, _, rfl⟩ := List.mem_map.1 hz
    exact wordAt_lt (bytesOf_isB s) k
  have hwn : (wordsOf (bytesOf s)).length ≤ 4294967296 := by
    rw [wordsOf, List.length_map, List.length_range, nWords, bytesOf_length]; omega
  generalize hWS : wordsOf (bytesOf s) = ws at hO2 hwl hwn
  refine s_assign rfl rfl ?_
  refine WL_nil ?_
  refine n_then ?_
  refine W_seq ?_
  refine W_seq ?_
  refine W_region ?_
  refine s_assign rfl rfl ?_
  refine WL_nil ?_
  refine n_then ?_
  refine W_block ?_
  refine W_loop (σ := Nat) (fun i => [(0, .string s), (1, .slice a xs.length c), (5, .int .u64 (((ws.take i).foldl mx 0 : Nat) : Int)), (6, .slice a2 ws.length c2), (7, .int .i64 (i : Int))]) (fun i w => St [] w0 w L2 ∧ i ≤ ws.length) (fun i => ws.length - i) 0 ⟨rfl, rfl, rfl, rfl, rfl, trivial⟩ ⟨hs, Nat.zero_le _⟩ ?_
  clear hs
  rintro i w ⟨hs, hi⟩
  have hac1 := foldl_mix_lt hmx (ws.take i) 0 (by decide)
  refine W_seq ?_
  refine W_seq ?_
  refine W_region ?_
  refine s_move rfl rfl ?_
  refine s_move rfl rfl ?_
  refine s_len rfl rfl (LN103 _ _ _ _) ?_
  refine s_lss rfl rfl rfl ?_
  refine WL_nil ?_
  refine n_then ?_
  refine W_cond rfl (fun hc15 => ?_) (fun hc15 => ?_)
  · skip
    try simp only [decide_eq_true_eq, decide_eq_false_iff_not, ge_iff_le] at hc15
    have hil : i < ws.length := by omega
    have hwi : ws[i]? = some ws[i] := List.getElem?_eq_getElem hil
    generalize ws[i] = z at hwi
    have hz := hwl z (List.mem_of_getElem? hwi)
    obtain ⟨sb, so, hA, hcell⟩ := Sl.at (k := i) (u := .int .u64 (z : Int)) (hO2.sl (M := []) (by simpa using hs)) (by rw [wcells, List.getElem?_map, hwi]; rfl)
    refine W_skip ?_
    refine n_then ?_
    refine W_seq ?_
    refine W_block ?_
    refine W_region ?_
    refine s_move rfl rfl ?_
    refine s_move rfl rfl ?_
    refine s_move rfl rfl ?_
    (refine s_indexAddrO El103 rfl rfl rfl hA ?hx ?_; case hx => (constructor <;> omega))
    refine s_load Tryz.isAgg75 rfl rfl hcell ?_
    refine s_call Tryz.call86 rfl rfl (fMix_ok hmx _ z w hac1 hz) ?_
    rintro r w1 ⟨hw1, rfl⟩
    rw [hw1]; clear hw1 w1
    refine s_assign rfl rfl ?_
    refine WL_nil ?_
    refine n_blk ?_
    refine n_then ?_
    refine W_region ?_
    refine s_move rfl rfl ?_
    first | (refine s_add' rfl rfl rfl ?hx ?_; case hx => (constructor <;> first | omega | (simp only; omega))) | refine s_add rfl rfl rfl ?_
    refine s_assign rfl rfl ?_
    refine WL_nil ?_
    refine n_loop ?_
    exact ⟨i + 1, ⟨rfl, rfl, by rw [List.take_add_one, hwi, List.foldl_append]; rfl, rfl, rfl, trivial⟩, ⟨hs, by omega⟩, by omega⟩
  · skip
    try simp only [decide_eq_true_eq, decide_eq_false_iff_not, ge_iff_le] at hc15
    refine W_exit ?_
    refine x_then ?_
    refine x_then ?_
    refine exit_hit ?_
    refine n_then ?_
    refine W_seq ?_
    refine W_region ?_
    refine s_move rfl rfl ?_
    refine s_move rfl rfl ?_
    refine s_len rfl rfl (LN9 _ _) ?_
    have hie : i = ws.length := by omega
    rw [hie, List.take_length] at hac1
    rw [hie, List.take_length]
    refine s_convert rfl rfl (CV3_75 _) ?_
    rw [u64w (by omega)]
    refine s_call Tryz.call86 rfl rfl (fMix_ok hmx _ s.size w hac1 (by omega)) ?_
    rintro r w1 ⟨hw1, rfl⟩
    rw [hw1]; clear hw1 w1
    refine s_assign rfl rfl ?_
    refine WL_nil ?_
    refine n_then ?_
    refine W_seq ?_
    refine W_region ?_
    refine s_move rfl rfl ?_
    refine s_move rfl rfl ?_
    refine s_len rfl rfl (LN22 _ _ _ _) ?_
    refine s_convert rfl rfl (CV3_75 _) ?_
    rw [u64w (by omega)]
    refine s_call Tryz.call86 rfl rfl (fMix_ok hmx _ xs.length w (hmlt _ _) (by omega)) ?_
    rintro r w1 ⟨hw1, rfl⟩
    rw [hw1]; clear hw1 w1
    obtain ⟨A, hA0⟩ : ∃ A, A = mx (mx (ws.foldl mx 0) s.size) xs.length := ⟨_, rfl⟩
    have hAl : A < 18446744073709551616 := by rw [hA0]; exact hmlt _ _
    rw [← hA0]
    refine s_assign rfl rfl ?_
    refine WL_nil ?_
    refine n_then ?_
    refine W_seq ?_
    refine W_seq ?_
    refine W_region ?_
    refine s_assign rfl rfl ?_
    refine WL_nil ?_
    refine n_then ?_
    refine W_block ?_
    refine W_loop (σ := Nat) (fun i => [(1, .slice a xs.length c), (5, .int .u64 ((((xs.take i).map toU).foldl mx A : Nat) : Int)), (8, .int .i64 (i : Int))]) (fun i w => St [] w0 w L2 ∧ i ≤ xs.length) (fun i => xs.length - i) 0 ⟨rfl, rfl, rfl, trivial⟩ ⟨hs, Nat.zero_le _⟩ ?_
    clear hs
    rintro i w ⟨hs, hi⟩
    have hac2 := foldl_mix_lt hmx ((xs.take i).map toU) A hAl
    refine W_seq ?_
    refine W_seq ?_
    refine W_region ?_
    refine s_move rfl rfl ?_
    refine s_move rfl rfl ?_
    refine s_len rfl rfl (LN22 _ _ _ _) ?_
    refine s_lss rfl rfl rfl ?_
    refine WL_nil ?_
    refine n_then ?_
    refine W_cond rfl (fun hc37 => ?_) (fun hc37 => ?_)
    · skip
      try simp only [decide_eq_true_eq, decide_eq_false_iff_not, ge_iff_le] at hc37
      have hil : i < xs.length := by omega
      have hwi : xs[i]? = some xs[i] := List.getElem?_eq_getElem hil
      generalize xs[i] = z at hwi
      obtain ⟨sb, so, hA, hcell⟩ := Sl.at (k := i) (u := .int .i64 z) (hv.fwd0 hs.fwd) (by rw [i64s, List.getElem?_map, hwi]; rfl)
      refine W_skip ?_
      refine n_then ?_
      refine W_seq ?_
      refine W_block ?_
      refine W_region ?_
      refine s_move rfl rfl ?_
      refine s_move rfl rfl ?_
      refine s_move rfl rfl ?_
      (refine s_indexAddrO El22 rfl rfl rfl hA ?hx ?_; case hx => (constructor <;> omega))
      refine s_load Tryz.isAgg3 rfl rfl hcell ?_
      refine s_convert rfl rfl (CV3_75 _) ?_
      rw [toU_wrap]
      refine s_call Tryz.call86 rfl rfl (fMix_ok hmx _ (toU z) w hac2 (toU_lt z)) ?_
      rintro r w1 ⟨hw1, rfl⟩
      rw [hw1]; clear hw1 w1
      refine s_assign rfl rfl ?_
      refine WL_nil ?_
      refine n_blk ?_
      refine n_then ?_
      refine W_region ?_
      refine s_move rfl rfl ?_
      first | (refine s_add' rfl rfl rfl ?hx ?_; case hx => (constructor <;> first | omega | (simp only; omega))) | refine s_add rfl rfl rfl ?_
      refine s_assign rfl rfl ?_
      refine WL_nil ?_
      refine n_loop ?_
      exact ⟨i + 1, ⟨rfl, by rw [List.take_add_one, hwi, List.map_append, List.foldl_append]; rfl, rfl, trivial⟩, ⟨hs, by omega⟩, by omega⟩
    · skip
      try simp only [decide_eq_true_eq, decide_eq_false_iff_not, ge_iff_le] at hc37
      refine W_exit ?_
      refine x_then ?_
      refine x_then ?_
      refine exit_hit ?_
      refine n_then ?_
      refine W_seq ?_
      refine W_region ?_
      refine s_move rfl rfl ?_
      have hie : i = xs.length := by omega
      rw [hie, List.take_length] at hac2
      rw [hie, List.take_length]
      refine s_call Tryz.call86 rfl rfl (fMix_ok hmx _ 0 w hac2 (by decide)) ?_
      rintro r w1 ⟨hw1, rfl⟩
      rw [hw1]; clear hw1 w1
      refine s_assign rfl rfl ?_
      refine WL_nil ?_
      refine n_then ?_
      refine W_ret ?_
      exact end1 rfl rfl ⟨hs.fwd, by rw [sumV, sumG, hWS, bytesOf_length, List.length_map, ← hA0]⟩
end Go.Proofs.YtkappdlbpilghaaGreat

/- The reference's Bytes and Frame. -/
namespace Go.Proofs.YtkappdlbpilghaaGreat
open Go.SL
def wI (ws : List Nat) : List Int := ws.map fun (m : Nat) => IntKind.i64.wrap (m : Int)
theorem fBytes_ok {mx : Nat → Nat → Nat} (hmx : IsMix mx) (s : ByteArray) (v : Value) (bs : List Int) (w0 : World) (hv : Sl w0 v bs.length (u8s bs)) (hB : ∀ b ∈ bs, isB b) (hsz : s.size ≤ 4294967296) (hl : bs.length ≤ 1073741824) :
    Ret Tryz.prog 54 [.string s, v].toArray w0 fun r w' => Fwd [] w0 w' ∧ r = .int .u64 (hashV mx (bytesOf s) bs : Int) := by
  obtain ⟨a, c, rfl, hac⟩ := hv.len_le
  refine Ret_start fun w hs => ?_
  refine Ret_of Tryz.func54 rfl Tryz.ntmps54 rfl ?_
  refine W_seq ?_
  refine W_region ?_
  refine s_assign rfl rfl ?_
  refine WL_nil ?_
  refine n_then ?_
  refine W_seq ?_
  refine W_region ?_
  refine s_move rfl rfl ?_
  refine s_call Tryz.call71 rfl rfl (fWords_ok _ bs w (hv.fwd0 hs.fwd) hB (by omega)) ?_
  rintro r w ⟨L2, hO2, hst⟩
  replace hs := (St.back0 hs hst).left
  clear hst
  obtain ⟨l2, c2, a2, rfl, rfl⟩ := hO2.form
  have hwn : (wordsOf bs).length ≤ 1073741824 := by
    rw [wordsOf, List.length_map, List.length_range, nWords]; omega
  generalize hWS : wordsOf bs = ws at hO2 hwn
  refine s_assign rfl rfl ?_
  refine WL_nil ?_
  refine n_then ?_
  refine W_seq ?_
  refine W_region ?_
  refine s_assign rfl rfl ?_
  refine WL_nil ?_
  refine n_then ?_
  refine W_seq ?_
  refine W_seq ?_
  refine W_region ?_
  refine s_assign rfl rfl ?_
  refine WL_nil ?_
  refine n_then ?_
  refine W_block ?_
  refine W_loop (σ := Nat × Value × Hp) (fun s' => [(0, .string s), (1, .slice a bs.length c), (5, .slice a2 ws.length c2), (6, s'.2.1), (7, .int .i64 (s'.1 : Int))]) (fun s' w => St [] w0 w (L2 ++ s'.2.2) ∧ OwnS 3 1 s'.2.1 s'.1 (i64s (wI (ws.take s'.1))) s'.2.2 ∧ s'.1 ≤ ws.length) (fun s' => ws.length - s'.1) (0, .slice none 0 0, []) ⟨rfl, rfl, rfl, rfl, rfl, trivial⟩ ⟨by simpa using hs, OwnS.nil _ _, Nat.zero_le _⟩ ?_
  clear hs
  rintro ⟨i, v6, L6⟩ w ⟨hs, hO6, hi⟩
  simp only at hs hO6 hi ⊢
  refine W_seq ?_
  refine W_seq ?_
  refine W_region ?_
  refine s_move rfl rfl ?_
  refine s_move rfl rfl ?_
  refine s_len rfl rfl (LN103 _ _ _ _) ?_
  refine s_lss rfl rfl rfl ?_
  refine WL_nil ?_
  refine n_then ?_
  refine W_cond rfl (fun hc13 => ?_) (fun hc13 => ?_)
  · skip
    try simp only [decide_eq_true_eq, decide_eq_false_iff_not] at hc13
    have hil : i < ws.length := by omega
    have hwi : ws[i]? = some ws[i] := List.getElem?_eq_getElem hil
    generalize ws[i] = z at hwi
    obtain ⟨sb, so, hA, hcell⟩ := Sl.at (k := i) (u := .int .u64 (z : Int)) (hO2.sl hs) (by rw [wcells, List.getElem?_map, hwi]; rfl)
    refine W_skip ?_
    refine n_then ?_
    refine W_seq ?_
    refine W_block ?_
    refine W_region ?_
    refine s_move rfl rfl ?_
    refine s_move rfl rfl ?_
    refine s_move rfl rfl ?_
    (refine s_indexAddrO El103 rfl rfl rfl hA ?hx ?_; case hx => (constructor <;> omega))
    refine s_load Tryz.isAgg75 rfl rfl hcell ?_
    refine s_convert rfl rfl (CV75_3 _) ?_
    refine s_buildSlice rfl rfl (BS22_1 _) hs ?_; clear hs; intro b22 w hs
    refine s_appendM (M := _ :: L2) (X := []) El22 rfl rfl rfl hO6 (by simp only [List.append_nil, List.cons_append]; exact hs) (hs.sl (k := 0) (ds := [_]) rfl (Nat.le_refl _) (by intro j u hj; rw [Nat.zero_add]; exact hj)) rfl (by simp [Value.oneCell']) (by omega) ?_
    clear hs; intro v' w Lv' hO' hs
    simp only [List.append_nil, List.cons_append] at hs
    refine s_assign rfl rfl ?_
    refine WL_nil ?_
    refine n_blk ?_
    refine n_then ?_
    refine W_region ?_
    refine s_move rfl rfl ?_
    first | (refine s_add' rfl rfl rfl ?hx ?_; case hx => (constructor <;> first | omega | (simp only; omega))) | refine s_add rfl rfl rfl ?_
    refine s_assign rfl rfl ?_
    refine WL_nil ?_
    refine n_loop ?_
    refine ⟨(i + 1, v', Lv'), ⟨rfl, rfl, rfl, rfl, rfl, trivial⟩, ⟨hs.tail, ?_, by simp only; omega⟩, by simp only; omega⟩
    simp only
    rw [List.take_add_one, hwi, wI, List.map_append, i64s, List.map_append]
    exact hO'
  · skip
    try simp only [decide_eq_true_eq, decide_eq_false_iff_not] at hc13
    refine W_exit ?_
    refine x_then ?_
    refine x_then ?_
    refine exit_hit ?_
    refine n_then ?_
    refine W_seq ?_
    refine W_region ?_
    refine s_move rfl rfl ?_
    refine s_move rfl rfl ?_
    refine s_move rfl rfl ?_
    refine s_len rfl rfl (LN39 _ _ _ _) ?_
    refine s_buildSlice rfl rfl (BS22_1 _) hs ?_; clear hs; intro b28 w hs
    have hie : i = ws.length := by omega
    rw [hie, List.take_length] at hO6
    refine s_appendM (M := _ :: L2) (X := []) El22 rfl rfl rfl hO6 (by simp only [List.append_nil, List.cons_append]; exact hs) (hs.sl (k := 0) (ds := [_]) rfl (Nat.le_refl _) (by intro j u hj; rw [Nat.zero_add]; exact hj)) rfl (by simp [Value.oneCell']) (by omega) ?_
    clear hs; intro v' w Lv' hO' hs
    simp only [List.append_nil, List.cons_append] at hs
    have hwl : (wI ws ++ [(bs.length : Int)]).length = ws.length + 1 := by simp [wI]
    refine s_call Tryz.call72 rfl rfl (fSum_ok hmx s _ (wI ws ++ [(bs.length : Int)]) w (by rw [hwl, i64s, List.map_append]; exact OwnS_slIn hO' fun y hy => hs.own y (by simp [hy])) hsz (by rw [hwl]; omega)) ?_
    rintro r w ⟨hst, rfl⟩
    replace hs := hs.fwd1 hst
    clear hst
    refine s_assign rfl rfl ?_
    refine WL_nil ?_
    refine n_then ?_
    refine W_ret ?_
    exact end1 rfl rfl ⟨hs.fwd, by rw [hashV, hWS]; rfl⟩
end Go.Proofs.YtkappdlbpilghaaGreat

/- The reference's Frame. -/
namespace Go.Proofs.YtkappdlbpilghaaGreat
open Go.SL
theorem fFrame_ok {mx : Nat → Nat → Nat} (hmx : IsMix mx) (n : Int) (v : Value) (x : List Int) (w0 : World) (hv : Sl w0 v x.length (u8s x)) (hn : isI64 n) (hB : ∀ b ∈ x, isB b) (hx : x.length ≤ 1048576) :
    Ret Tryz.prog 37 [.int .i64 n, v].toArray w0 fun r w' => ∃ Lr, OwnS 5 1 r (frameV mx n x).length (u8s (frameV mx n x)) Lr ∧ St [] w0 w' Lr := by
  have hcl := coreV_len hn hx
  have hcB := coreV_isB (n := n) hB
  have hhl := hashV_lt hmx (bytesOf sWal) (coreV n x)
  have hul := uvar_len10 (n := (coreV n x).length) (by omega)
  have huh := uvar_len10 hhl
  refine Ret_start fun w hs => ?_
  refine Ret_of Tryz.func37 rfl Tryz.ntmps37 rfl ?_
  refine W_seq ?_
  refine W_region ?_
  refine s_assign rfl rfl ?_
  refine WL_nil ?_
  refine n_then ?_
  refine W_seq ?_
  refine W_region ?_
  refine s_move rfl rfl ?_
  refine s_move rfl rfl ?_
  refine s_call Tryz.call51 rfl rfl (fCore_ok n v x w (hv.fwd0 hs.fwd) hn hx) ?_
  rintro r w ⟨L1, hO1, hst⟩
  replace hs := (St.back0 hs hst).left
  clear hst
  refine s_assign rfl rfl ?_
  refine WL_nil ?_
  refine n_then ?_
  refine W_seq ?_
  refine W_region ?_
  refine s_move rfl rfl ?_
  refine s_call Tryz.call52 rfl rfl (fRaw_ok _ (coreV n x) w (OwnS_slIn hO1 fun y hy => hs.own y hy) (by omega)) ?_
  rintro r w ⟨L2, hO2, hst⟩
  replace hs := St.back0 hs hst
  clear hst
  refine s_assign rfl rfl ?_
  refine WL_nil ?_
  refine n_then ?_
  refine W_seq ?_
  refine W_region ?_
  refine s_move rfl rfl ?_
  refine s_move rfl rfl ?_
  refine s_call Tryz.call54 rfl rfl (fBytes_ok hmx sWal _ (coreV n x) w (OwnS_slIn hO1 fun y hy => hs.own y (List.mem_append_right _ hy)) hcB (by decide +kernel) (by omega)) ?_
  rintro r w ⟨hst, rfl⟩
  replace hs := hs.fwd1 hst
  clear hst
  refine s_call Tryz.call53 rfl rfl (fUint_ok _ w hhl) ?_
  rintro r w ⟨L3, hO3, hst⟩
  replace hs := St.back0 hs hst
  clear hst
  refine s_appendM (M := L3) (X := L1) El39 rfl rfl rfl hO2 hs (hO3.sl hs) (by rw [hO3.1]) (fun c hc => by simp only [u8s, List.mem_map] at hc; obtain ⟨z, _, rfl⟩ := hc; rfl) (by simp only [List.length_append]; omega) ?_
  clear hs; intro v' w Lv' hO' hs
  refine s_assign rfl rfl ?_
  refine WL_nil ?_
  refine n_then ?_
  refine W_ret ?_
  refine end1 rfl rfl ⟨Lv', ?_, (hs.right (M := L3)).left⟩
  rw [frameV, List.length_append, u8s, List.map_append]; exact hO'
end Go.Proofs.YtkappdlbpilghaaGreat
