/- The reference's generator of operations; operations on both disks. -/
import Derived.Test.YthfcdjbkbmhjgaaRdC
import Derived.Test.YthfcdjbkbmhjgaaDkI
import Derived.Test.YthfcdjbkbmhjgaaApp
set_option linter.unusedVariables false
set_option linter.unusedSimpArgs false
namespace Go.Proofs.Ythfcdjbkbmhjgaa
open Go.SL
theorem wrap_isI64 (z : Int) : isI64 (IntKind.i64.wrap z) := by unfold isI64; rw [IntKind.wrap_i64]; omega
theorem wrap_isB (z : Int) : isB (IntKind.u8.wrap z) := by unfold isB; rw [IntKind.wrap_u8]; omega
structure OpV where
  kind : Int
  file : Int
  n : Int
  bv : Value
  b : List Int
  kv : Value
  keep : List Int
def OpV.cells (o : OpV) : List Value := [.int .i64 o.kind, .int .i64 o.file, .int .i64 o.n, o.bv, o.kv]
structure OpOk (o : OpV) (L : Hp) : Prop where
  b : RdS o.bv o.b.length (u8s o.b) L
  k : RdS o.kv o.keep.length (i64s o.keep) L
  byt : ∀ z ∈ o.b, isB z
  len : o.b.length ≤ 8
  file : isI64 o.file
  n : isI64 o.n
theorem OpOk.mono {o : OpV} {L L' : Hp} (h : OpOk o L) (hs : ∀ p ∈ L, p ∈ L') : OpOk o L' := ⟨h.b.mono' hs, h.k.mono' hs, h.byt, h.len, h.file, h.n⟩
abbrev OpVs := List OpV
def ocells (os : List OpV) : List Value := os.flatMap OpV.cells
theorem ocells_length (os : List OpV) : (ocells os).length = os.length * 5 := by
  induction os with
  | nil => rfl
  | cons o r ih => rw [ocells, List.flatMap_cons, List.length_append, List.length_cons]; rw [ocells] at ih; rw [ih]; simp [OpV.cells]; omega
theorem ocells_at {os : List OpV} {i : Nat} {o : OpV} (h : os[i]? = some o) : ∀ j u, (OpV.cells o)[j]? = some u → (ocells os)[i * 5 + j]? = some u := by
  induction os generalizing i with
  | nil => simp at h
  | cons a r ih =>
    intro j u hj
    have hjl : j < 5 := (List.getElem?_eq_some_iff.1 hj).1
    rw [ocells, List.flatMap_cons]
    cases i with
    | zero =>
      simp at h; subst h
      rw [List.getElem?_append_left (by simp [OpV.cells]; omega)]; simpa using hj
    | succ i =>
      rw [List.getElem?_append_right (by simp [OpV.cells]; omega)]
      have := ih (i := i) (by simpa using h) j u hj
      rw [ocells] at this
      rw [← this]; congr 1; simp [OpV.cells]; omega
def Dk.op (D : Dk) (o : OpV) : Dk × Int :=
  if o.kind = 0 then D.app o.file o.b else if o.kind = 1 then D.sync else if o.kind = 2 then D.trunc o.file o.n else if o.kind = 3 then (D.arm o.n, 0) else (D.crash o.keep o.n, 0)
theorem RdS.apart {v : Value} {n : Nat} {cs : List Value} {L L0 : Hp} (h : RdS v n cs L) (hd : ∀ b ∈ ids L, b ∉ ids L0) : ∀ a m c, v = .slice (some a) m c → cs ≠ [] → a.block ∉ ids L0 := fun a m c he hne => hd _ (h.inL a m c he hne)
set_option maxHeartbeats 1000000 in
theorem do_ok (p : Nat) (D : Dk) (o : OpV) (Lx L0 : Hp) (w0 : World) (hD : DiskAt p D L0) (ho : OpOk o Lx) (hx : ∀ q ∈ Lx, w0.heap[q.1]? = some q.2) (hd : ∀ b ∈ ids Lx, b ∉ ids L0) (hs : St (ids L0) w0 w0 L0) :
    Ret Try.prog 28 [.pointer (some ⟨p, 0, none⟩), .agg o.cells.toArray].toArray w0 fun r w' => ∃ L', St (ids L0) w0 w' L' ∧ DiskAt p (D.op o).1 L' ∧ r = .int .i64 (D.op o).2 := by
  have hSb := ho.b.sl w0 hx
  have hSk := ho.k.sl w0 hx
  have hab := RdS.apart ho.b hd
  have hak := RdS.apart ho.k hd
  obtain ⟨_, cb, ab, hbv, hbl⟩ := ho.b.form w0 hx
  subst hbl
  obtain ⟨_, ck, ak, hkv, hkl⟩ := ho.k.form w0 hx
  subst hkl
  unfold OpV.cells
  rw [hbv] at hSb hab ⊢
  rw [hkv] at hSk hak ⊢
  refine Ret_startL hs fun w hs => ?_
  refine Ret_of Try.func28 rfl Try.ntmps28 rfl ?_
  refine W_seq ?_
  refine W_region ?_
  first | refine s_box rfl rfl hs ?_ | refine s_box1 rfl rfl rfl hs ?_
  clear hs; intro b3 w hs
  refine s_assign rfl rfl ?_
  refine WL_nil ?_
  refine n_then ?_
  refine W_seq ?_
  refine W_seq ?_
  refine W_region ?_
  refine s_fieldAddr rfl rfl (FA56_0 _ _) ?_
  first
    | refine s_load Try.isAgg3 rfl rfl (hs.cell (k := 0) rfl rfl) ?_
  refine WL_nil ?_
  refine n_then ?_
  refine W_block ?_
  refine W_seq ?_
  refine W_region ?_
  refine s_eql rfl rfl rfl ?_
  refine s_assign rfl rfl ?_
  refine WL_nil ?_
  refine n_then ?_
  refine W_cond rfl (fun hc13 => ?_) (fun hc13 => ?_)
  · skip
    try simp only [beq_iff_eq, beq_eq_false_iff_ne, ne_eq] at hc13
    refine W_seq ?_
    refine W_region ?_
    refine s_move rfl rfl ?_
    refine s_fieldAddr rfl rfl (FA56_1 _ _) ?_
    first
      | refine s_load Try.isAgg3 rfl rfl (hs.cell (k := 0) rfl rfl) ?_
    refine s_fieldAddr rfl rfl (FA56_3 _ _) ?_
    first
      | refine s_load Try.isAgg27 rfl rfl (hs.cell (k := 0) rfl rfl) ?_
    refine s_callL (M := [_]) (L1 := L0) (X := []) Try.call13 rfl rfl (by simpa using hs) (fun h => dAppend_ok p D o.file _ o.b L0 w hD (hSb.fwd hs.fwd hab) hab ho.byt h) ?_
    clear hs; rintro u w L9 ⟨hD9, rfl⟩ - hs
    simp only [List.append_nil, List.cons_append, List.nil_append] at hs
    refine s_assign rfl rfl ?_
    refine WL_nil ?_
    refine n_then ?_
    refine W_ret ?_
    refine r_blk ?_
    refine r_then ?_
    refine end1 rfl rfl ⟨L9, hs.tail, ?_⟩
    first
      | (rw [Dk.op, if_pos (by assumption)]; exact ⟨hD9, rfl⟩)
      | (rw [Dk.op, if_neg (by assumption), if_pos (by assumption)]; exact ⟨hD9, rfl⟩)
      | (rw [Dk.op, if_neg (by assumption), if_neg (by assumption), if_pos (by assumption)]; exact ⟨hD9, rfl⟩)
      | (rw [Dk.op, if_neg (by assumption), if_neg (by assumption), if_neg (by assumption), if_pos (by assumption)]; exact ⟨hD9, rfl⟩)
      | (rw [Dk.op, if_neg (by assumption), if_neg (by assumption), if_neg (by assumption), if_neg (by assumption)]; exact ⟨hD9, rfl⟩)
  · skip
    try simp only [beq_iff_eq, beq_eq_false_iff_ne, ne_eq] at hc13
    refine W_seq ?_
    refine W_region ?_
    refine s_eql rfl rfl rfl ?_
    refine s_assign rfl rfl ?_
    refine WL_nil ?_
    refine n_then ?_
    refine W_cond rfl (fun hc21 => ?_) (fun hc21 => ?_)
    · skip
      try simp only [beq_iff_eq, beq_eq_false_iff_ne, ne_eq] at hc21
      refine W_seq ?_
      refine W_region ?_
      refine s_move rfl rfl ?_
      refine s_callL (M := [_]) (L1 := L0) (X := []) Try.call14 rfl rfl (by simpa using hs) (fun h => dSync_ok p D L0 w hD h) ?_
      clear hs; rintro u w L9 ⟨hD9, rfl⟩ - hs
      simp only [List.append_nil, List.cons_append, List.nil_append] at hs
      refine s_assign rfl rfl ?_
      refine WL_nil ?_
      refine n_then ?_
      refine W_ret ?_
      refine r_blk ?_
      refine r_then ?_
      refine end1 rfl rfl ⟨L9, hs.tail, ?_⟩
      first
        | (rw [Dk.op, if_pos (by assumption)]; exact ⟨hD9, rfl⟩)
        | (rw [Dk.op, if_neg (by assumption), if_pos (by assumption)]; exact ⟨hD9, rfl⟩)
        | (rw [Dk.op, if_neg (by assumption), if_neg (by assumption), if_pos (by assumption)]; exact ⟨hD9, rfl⟩)
        | (rw [Dk.op, if_neg (by assumption), if_neg (by assumption), if_neg (by assumption), if_pos (by assumption)]; exact ⟨hD9, rfl⟩)
        | (rw [Dk.op, if_neg (by assumption), if_neg (by assumption), if_neg (by assumption), if_neg (by assumption)]; exact ⟨hD9, rfl⟩)
    · skip
      try simp only [beq_iff_eq, beq_eq_false_iff_ne, ne_eq] at hc21
      refine W_seq ?_
      refine W_region ?_
      refine s_eql rfl rfl rfl ?_
      refine s_assign rfl rfl ?_
      refine WL_nil ?_
      refine n_then ?_
      refine W_cond rfl (fun hc25 => ?_) (fun hc25 => ?_)
      · skip
        try simp only [beq_iff_eq, beq_eq_false_iff_ne, ne_eq] at hc25
        refine W_seq ?_
        refine W_region ?_
        refine s_move rfl rfl ?_
        refine s_fieldAddr rfl rfl (FA56_1 _ _) ?_
        first
          | refine s_load Try.isAgg3 rfl rfl (hs.cell (k := 0) rfl rfl) ?_
        refine s_fieldAddr rfl rfl (FA56_2 _ _) ?_
        first
          | refine s_load Try.isAgg3 rfl rfl (hs.cell (k := 0) rfl rfl) ?_
        refine s_callL (M := [_]) (L1 := L0) (X := []) Try.call19 rfl rfl (by simpa using hs) (fun h => dTrunc_ok p D o.file o.n L0 w hD ho.n h) ?_
        clear hs; rintro u w L9 ⟨hD9, rfl⟩ - hs
        simp only [List.append_nil, List.cons_append, List.nil_append] at hs
        refine s_assign rfl rfl ?_
        refine WL_nil ?_
        refine n_then ?_
        refine W_ret ?_
        refine r_blk ?_
        refine r_then ?_
        refine end1 rfl rfl ⟨L9, hs.tail, ?_⟩
        first
          | (rw [Dk.op, if_pos (by assumption)]; exact ⟨hD9, rfl⟩)
          | (rw [Dk.op, if_neg (by assumption), if_pos (by assumption)]; exact ⟨hD9, rfl⟩)
          | (rw [Dk.op, if_neg (by assumption), if_neg (by assumption), if_pos (by assumption)]; exact ⟨hD9, rfl⟩)
          | (rw [Dk.op, if_neg (by assumption), if_neg (by assumption), if_neg (by assumption), if_pos (by assumption)]; exact ⟨hD9, rfl⟩)
          | (rw [Dk.op, if_neg (by assumption), if_neg (by assumption), if_neg (by assumption), if_neg (by assumption)]; exact ⟨hD9, rfl⟩)
      · skip
        try simp only [beq_iff_eq, beq_eq_false_iff_ne, ne_eq] at hc25
        refine W_seq ?_
        refine W_region ?_
        refine s_eql rfl rfl rfl ?_
        refine s_assign rfl rfl ?_
        refine WL_nil ?_
        refine n_then ?_
        refine W_cond rfl (fun hc33 => ?_) (fun hc33 => ?_)
        · skip
          try simp only [beq_iff_eq, beq_eq_false_iff_ne, ne_eq] at hc33
          refine W_region ?_
          refine s_move rfl rfl ?_
          refine s_fieldAddr rfl rfl (FA56_2 _ _) ?_
          first
            | refine s_load Try.isAgg3 rfl rfl (hs.cell (k := 0) rfl rfl) ?_
          refine s_callL (M := [_]) (L1 := L0) (X := []) Try.call22 rfl rfl (by simpa using hs) (fun h => arm_ok p D o.n L0 w hD ho.n h) ?_
          clear hs; rintro u w L9 hD9 - hs
          simp only [List.append_nil, List.cons_append, List.nil_append] at hs
          refine WL_nil ?_
          refine n_blk ?_
          refine n_then ?_
          refine W_seq ?_
          refine W_region ?_
          refine s_assign rfl rfl ?_
          refine WL_nil ?_
          refine n_then ?_
          refine W_ret ?_
          refine end1 rfl rfl ⟨L9, hs.tail, ?_⟩
          first
            | (rw [Dk.op, if_pos (by assumption)]; exact ⟨hD9, rfl⟩)
            | (rw [Dk.op, if_neg (by assumption), if_pos (by assumption)]; exact ⟨hD9, rfl⟩)
            | (rw [Dk.op, if_neg (by assumption), if_neg (by assumption), if_pos (by assumption)]; exact ⟨hD9, rfl⟩)
            | (rw [Dk.op, if_neg (by assumption), if_neg (by assumption), if_neg (by assumption), if_pos (by assumption)]; exact ⟨hD9, rfl⟩)
            | (rw [Dk.op, if_neg (by assumption), if_neg (by assumption), if_neg (by assumption), if_neg (by assumption)]; exact ⟨hD9, rfl⟩)
        · skip
          try simp only [beq_iff_eq, beq_eq_false_iff_ne, ne_eq] at hc33
          refine W_region ?_
          refine s_move rfl rfl ?_
          refine s_fieldAddr rfl rfl (FA56_4 _ _) ?_
          first
            | refine s_load Try.isAgg33 rfl rfl (hs.cell (k := 0) rfl rfl) ?_
          refine s_fieldAddr rfl rfl (FA56_2 _ _) ?_
          first
            | refine s_load Try.isAgg3 rfl rfl (hs.cell (k := 0) rfl rfl) ?_
          refine s_callL (M := [_]) (L1 := L0) (X := []) Try.call15 rfl rfl (by simpa using hs) (fun h => dCrash_ok p D _ o.keep o.n L0 w hD (hSk.fwd hs.fwd hak) hak ho.n h) ?_
          clear hs; rintro u w L9 hD9 - hs
          simp only [List.append_nil, List.cons_append, List.nil_append] at hs
          refine WL_nil ?_
          refine n_blk ?_
          refine n_then ?_
          refine W_seq ?_
          refine W_region ?_
          refine s_assign rfl rfl ?_
          refine WL_nil ?_
          refine n_then ?_
          refine W_ret ?_
          refine end1 rfl rfl ⟨L9, hs.tail, ?_⟩
          first
            | (rw [Dk.op, if_pos (by assumption)]; exact ⟨hD9, rfl⟩)
            | (rw [Dk.op, if_neg (by assumption), if_pos (by assumption)]; exact ⟨hD9, rfl⟩)
            | (rw [Dk.op, if_neg (by assumption), if_neg (by assumption), if_pos (by assumption)]; exact ⟨hD9, rfl⟩)
            | (rw [Dk.op, if_neg (by assumption), if_neg (by assumption), if_neg (by assumption), if_pos (by assumption)]; exact ⟨hD9, rfl⟩)
            | (rw [Dk.op, if_neg (by assumption), if_neg (by assumption), if_neg (by assumption), if_neg (by assumption)]; exact ⟨hD9, rfl⟩)
set_option maxHeartbeats 1000000 in
theorem rDo_ok (p : Nat) (D : Dk) (o : OpV) (Lx L0 : Hp) (w0 : World) (hfo : firmOk D) (hD : RefAt p D L0) (ho : OpOk o Lx) (hx : ∀ q ∈ Lx, w0.heap[q.1]? = some q.2) (hd : ∀ b ∈ ids Lx, b ∉ ids L0) (hs : St (ids L0) w0 w0 L0) :
    Ret Try.prog 29 [.pointer (some ⟨p, 0, none⟩), .agg o.cells.toArray].toArray w0 fun r w' => ∃ L', St (ids L0) w0 w' L' ∧ RefAt p (D.op o).1 L' ∧ r = .int .i64 (D.op o).2 := by
  have hSb := ho.b.sl w0 hx
  have hSk := ho.k.sl w0 hx
  have hab := RdS.apart ho.b hd
  have hak := RdS.apart ho.k hd
  have hlen := ho.len
  obtain ⟨_, cb, ab, hbv, hbl⟩ := ho.b.form w0 hx
  subst hbl
  obtain ⟨_, ck, ak, hkv, hkl⟩ := ho.k.form w0 hx
  subst hkl
  unfold OpV.cells
  rw [hbv] at hSb hab ⊢
  rw [hkv] at hSk hak ⊢
  refine Ret_startL hs fun w hs => ?_
  refine Ret_of Try.func29 rfl Try.ntmps29 rfl ?_
  refine W_seq ?_
  refine W_region ?_
  first | refine s_box rfl rfl hs ?_ | refine s_box1 rfl rfl rfl hs ?_
  clear hs; intro b3 w hs
  refine s_assign rfl rfl ?_
  refine WL_nil ?_
  refine n_then ?_
  refine W_seq ?_
  refine W_seq ?_
  refine W_region ?_
  refine s_fieldAddr rfl rfl (FA56_0 _ _) ?_
  first
    | refine s_load Try.isAgg3 rfl rfl (hs.cell (k := 0) rfl rfl) ?_
  refine WL_nil ?_
  refine n_then ?_
  refine W_block ?_
  refine W_seq ?_
  refine W_region ?_
  refine s_eql rfl rfl rfl ?_
  refine s_assign rfl rfl ?_
  refine WL_nil ?_
  refine n_then ?_
  refine W_cond rfl (fun hc13 => ?_) (fun hc13 => ?_)
  · skip
    try simp only [beq_iff_eq, beq_eq_false_iff_ne, ne_eq] at hc13
    refine W_seq ?_
    refine W_region ?_
    refine s_move rfl rfl ?_
    refine s_fieldAddr rfl rfl (FA56_1 _ _) ?_
    first
      | refine s_load Try.isAgg3 rfl rfl (hs.cell (k := 0) rfl rfl) ?_
    refine s_fieldAddr rfl rfl (FA56_3 _ _) ?_
    first
      | refine s_load Try.isAgg27 rfl rfl (hs.cell (k := 0) rfl rfl) ?_
    refine s_callL (M := [_]) (L1 := L0) (X := []) Try.call37 rfl rfl (by simpa using hs) (fun h => rAppend_ok p D o.file _ o.b L0 w hD (hSb.fwd hs.fwd hab) hab ho.byt (by omega) h) ?_
    clear hs; rintro u w L9 ⟨hD9, rfl⟩ - hs
    simp only [List.append_nil, List.cons_append, List.nil_append] at hs
    refine s_assign rfl rfl ?_
    refine WL_nil ?_
    refine n_then ?_
    refine W_ret ?_
    refine r_blk ?_
    refine r_then ?_
    refine end1 rfl rfl ⟨L9, hs.tail, ?_⟩
    first
      | (rw [Dk.op, if_pos (by assumption)]; exact ⟨hD9, rfl⟩)
      | (rw [Dk.op, if_neg (by assumption), if_pos (by assumption)]; exact ⟨hD9, rfl⟩)
      | (rw [Dk.op, if_neg (by assumption), if_neg (by assumption), if_pos (by assumption)]; exact ⟨hD9, rfl⟩)
      | (rw [Dk.op, if_neg (by assumption), if_neg (by assumption), if_neg (by assumption), if_pos (by assumption)]; exact ⟨hD9, rfl⟩)
      | (rw [Dk.op, if_neg (by assumption), if_neg (by assumption), if_neg (by assumption), if_neg (by assumption)]; exact ⟨hD9, rfl⟩)
  · skip
    try simp only [beq_iff_eq, beq_eq_false_iff_ne, ne_eq] at hc13
    refine W_seq ?_
    refine W_region ?_
    refine s_eql rfl rfl rfl ?_
    refine s_assign rfl rfl ?_
    refine WL_nil ?_
    refine n_then ?_
    refine W_cond rfl (fun hc21 => ?_) (fun hc21 => ?_)
    · skip
      try simp only [beq_iff_eq, beq_eq_false_iff_ne, ne_eq] at hc21
      refine W_seq ?_
      refine W_region ?_
      refine s_move rfl rfl ?_
      refine s_callL (M := [_]) (L1 := L0) (X := []) Try.call38 rfl rfl (by simpa using hs) (fun h => rSync_ok p D L0 w hD h) ?_
      clear hs; rintro u w L9 ⟨hD9, rfl⟩ - hs
      simp only [List.append_nil, List.cons_append, List.nil_append] at hs
      refine s_assign rfl rfl ?_
      refine WL_nil ?_
      refine n_then ?_
      refine W_ret ?_
      refine r_blk ?_
      refine r_then ?_
      refine end1 rfl rfl ⟨L9, hs.tail, ?_⟩
      first
        | (rw [Dk.op, if_pos (by assumption)]; exact ⟨hD9, rfl⟩)
        | (rw [Dk.op, if_neg (by assumption), if_pos (by assumption)]; exact ⟨hD9, rfl⟩)
        | (rw [Dk.op, if_neg (by assumption), if_neg (by assumption), if_pos (by assumption)]; exact ⟨hD9, rfl⟩)
        | (rw [Dk.op, if_neg (by assumption), if_neg (by assumption), if_neg (by assumption), if_pos (by assumption)]; exact ⟨hD9, rfl⟩)
        | (rw [Dk.op, if_neg (by assumption), if_neg (by assumption), if_neg (by assumption), if_neg (by assumption)]; exact ⟨hD9, rfl⟩)
    · skip
      try simp only [beq_iff_eq, beq_eq_false_iff_ne, ne_eq] at hc21
      refine W_seq ?_
      refine W_region ?_
      refine s_eql rfl rfl rfl ?_
      refine s_assign rfl rfl ?_
      refine WL_nil ?_
      refine n_then ?_
      refine W_cond rfl (fun hc25 => ?_) (fun hc25 => ?_)
      · skip
        try simp only [beq_iff_eq, beq_eq_false_iff_ne, ne_eq] at hc25
        refine W_seq ?_
        refine W_region ?_
        refine s_move rfl rfl ?_
        refine s_fieldAddr rfl rfl (FA56_1 _ _) ?_
        first
          | refine s_load Try.isAgg3 rfl rfl (hs.cell (k := 0) rfl rfl) ?_
        refine s_fieldAddr rfl rfl (FA56_2 _ _) ?_
        first
          | refine s_load Try.isAgg3 rfl rfl (hs.cell (k := 0) rfl rfl) ?_
        refine s_callL (M := [_]) (L1 := L0) (X := []) Try.call39 rfl rfl (by simpa using hs) (fun h => rTrunc_ok p D o.file o.n L0 w hD ho.n h) ?_
        clear hs; rintro u w L9 ⟨hD9, rfl⟩ - hs
        simp only [List.append_nil, List.cons_append, List.nil_append] at hs
        refine s_assign rfl rfl ?_
        refine WL_nil ?_
        refine n_then ?_
        refine W_ret ?_
        refine r_blk ?_
        refine r_then ?_
        refine end1 rfl rfl ⟨L9, hs.tail, ?_⟩
        first
          | (rw [Dk.op, if_pos (by assumption)]; exact ⟨hD9, rfl⟩)
          | (rw [Dk.op, if_neg (by assumption), if_pos (by assumption)]; exact ⟨hD9, rfl⟩)
          | (rw [Dk.op, if_neg (by assumption), if_neg (by assumption), if_pos (by assumption)]; exact ⟨hD9, rfl⟩)
          | (rw [Dk.op, if_neg (by assumption), if_neg (by assumption), if_neg (by assumption), if_pos (by assumption)]; exact ⟨hD9, rfl⟩)
          | (rw [Dk.op, if_neg (by assumption), if_neg (by assumption), if_neg (by assumption), if_neg (by assumption)]; exact ⟨hD9, rfl⟩)
      · skip
        try simp only [beq_iff_eq, beq_eq_false_iff_ne, ne_eq] at hc25
        refine W_seq ?_
        refine W_region ?_
        refine s_eql rfl rfl rfl ?_
        refine s_assign rfl rfl ?_
        refine WL_nil ?_
        refine n_then ?_
        refine W_cond rfl (fun hc33 => ?_) (fun hc33 => ?_)
        · skip
          try simp only [beq_iff_eq, beq_eq_false_iff_ne, ne_eq] at hc33
          refine W_region ?_
          refine s_move rfl rfl ?_
          refine s_fieldAddr rfl rfl (FA56_2 _ _) ?_
          first
            | refine s_load Try.isAgg3 rfl rfl (hs.cell (k := 0) rfl rfl) ?_
          refine s_callL (M := [_]) (L1 := L0) (X := []) Try.call40 rfl rfl (by simpa using hs) (fun h => rArm_ok p D o.n L0 w hD ho.n h) ?_
          clear hs; rintro u w L9 hD9 - hs
          simp only [List.append_nil, List.cons_append, List.nil_append] at hs
          refine WL_nil ?_
          refine n_blk ?_
          refine n_then ?_
          refine W_seq ?_
          refine W_region ?_
          refine s_assign rfl rfl ?_
          refine WL_nil ?_
          refine n_then ?_
          refine W_ret ?_
          refine end1 rfl rfl ⟨L9, hs.tail, ?_⟩
          first
            | (rw [Dk.op, if_pos (by assumption)]; exact ⟨hD9, rfl⟩)
            | (rw [Dk.op, if_neg (by assumption), if_pos (by assumption)]; exact ⟨hD9, rfl⟩)
            | (rw [Dk.op, if_neg (by assumption), if_neg (by assumption), if_pos (by assumption)]; exact ⟨hD9, rfl⟩)
            | (rw [Dk.op, if_neg (by assumption), if_neg (by assumption), if_neg (by assumption), if_pos (by assumption)]; exact ⟨hD9, rfl⟩)
            | (rw [Dk.op, if_neg (by assumption), if_neg (by assumption), if_neg (by assumption), if_neg (by assumption)]; exact ⟨hD9, rfl⟩)
        · skip
          try simp only [beq_iff_eq, beq_eq_false_iff_ne, ne_eq] at hc33
          refine W_region ?_
          refine s_move rfl rfl ?_
          refine s_fieldAddr rfl rfl (FA56_4 _ _) ?_
          first
            | refine s_load Try.isAgg33 rfl rfl (hs.cell (k := 0) rfl rfl) ?_
          refine s_fieldAddr rfl rfl (FA56_2 _ _) ?_
          first
            | refine s_load Try.isAgg3 rfl rfl (hs.cell (k := 0) rfl rfl) ?_
          refine s_callL (M := [_]) (L1 := L0) (X := []) Try.call41 rfl rfl (by simpa using hs) (fun h => rCrash_ok p D _ o.keep o.n L0 w hfo hD (hSk.fwd hs.fwd hak) hak ho.n h) ?_
          clear hs; rintro u w L9 hD9 - hs
          simp only [List.append_nil, List.cons_append, List.nil_append] at hs
          refine WL_nil ?_
          refine n_blk ?_
          refine n_then ?_
          refine W_seq ?_
          refine W_region ?_
          refine s_assign rfl rfl ?_
          refine WL_nil ?_
          refine n_then ?_
          refine W_ret ?_
          refine end1 rfl rfl ⟨L9, hs.tail, ?_⟩
          first
            | (rw [Dk.op, if_pos (by assumption)]; exact ⟨hD9, rfl⟩)
            | (rw [Dk.op, if_neg (by assumption), if_pos (by assumption)]; exact ⟨hD9, rfl⟩)
            | (rw [Dk.op, if_neg (by assumption), if_neg (by assumption), if_pos (by assumption)]; exact ⟨hD9, rfl⟩)
            | (rw [Dk.op, if_neg (by assumption), if_neg (by assumption), if_neg (by assumption), if_pos (by assumption)]; exact ⟨hD9, rfl⟩)
            | (rw [Dk.op, if_neg (by assumption), if_neg (by assumption), if_neg (by assumption), if_neg (by assumption)]; exact ⟨hD9, rfl⟩)
structure OgS where
  i : Nat
  os : List OpV
  v : Value
  Lv : Hp
  LX : Hp
structure OgT where
  o : OpV
  LX : Hp
structure OgU where
  k : Nat
  v : Value
  b : List Int
  L : Hp
theorem isI64_small {z : Int} (h : -1000000 ≤ z ∧ z ≤ 1000000) : isI64 z := by unfold isI64; omega
theorem RdS.nilA (L : Hp) : RdS (.slice none 0 0) 0 [] L := ⟨fun _ _ => ⟨none, 0, rfl, Nat.le_refl _, .inl rfl⟩, fun a m c h => by cases h⟩
theorem RdS.lit {g : Nat} {e : TypeId} {cs ds : List Value} {n c : Nat} {L : Hp} (hm : (g, Blk e cs) ∈ L) (hn : n ≤ c) (h : ∀ (j : Nat) (u : Value), ds[j]? = some u → cs[j]? = some u) : RdS (.slice (some ⟨g, 0, none⟩) n c) n ds L := by
  refine ⟨fun w hw => ⟨_, c, rfl, hn, .inr ⟨g, 0, rfl, fun j u hj => ?_⟩⟩, fun a m c' he _ => by cases he; exact mem_ids_of hm⟩
  rw [Nat.zero_add, cell_of_row w g j cs.toArray e (0, 0) (hw _ hm)]
  simpa using h j u hj
set_option maxHeartbeats 4000000 in
theorem ops_ok (vl : Value) (ls : List Int) (w0 : World) (hl : Sl w0 vl ls.length (i64s ls)) (hli : ∀ z ∈ ls, isI64 z) :
    Ret Try.prog 27 [vl].toArray w0 fun r w' => ∃ (os : List OpV) (Lv LX : Hp), OwnS 56 5 r os.length (ocells os) Lv ∧ St [] w0 w' (Lv ++ LX) ∧ (∀ o ∈ os, OpOk o LX) ∧ os.length ≤ 16 := by
  obtain ⟨la, lc, rfl, hlc⟩ := hl.len_le
  refine Ret_start fun w hs => ?_
  refine Ret_of Try.func27 rfl Try.ntmps27 rfl ?_
  refine W_seq ?_
  refine W_region ?_
  refine s_assign rfl rfl ?_
  refine WL_nil ?_
  refine n_then ?_
  refine W_seq ?_
  refine W_region ?_
  refine s_assign rfl rfl ?_
  refine WL_nil ?_
  refine n_then ?_
  refine W_seq ?_
  refine W_seq ?_
  refine W_region ?_
  refine s_assign rfl rfl ?_
  refine WL_nil ?_
  refine n_then ?_
  refine W_block ?_
  refine W_loop (σ := OgS) (fun s => [(0, .slice la ls.length lc), (3, s.v), (4, .int .i64 (s.i : Int))]) (fun s w => St [] w0 w (s.Lv ++ s.LX) ∧ OwnS 56 5 s.v s.os.length (ocells s.os) s.Lv ∧ (∀ o ∈ s.os, OpOk o s.LX) ∧ s.os.length = s.i ∧ s.i ≤ 16) (fun s => 16 - s.i) ⟨0, [], .slice none 0 0, [], []⟩ ⟨rfl, rfl, rfl, trivial⟩ ⟨hs, OwnS.nil _ _, fun o ho => (by cases ho), rfl, Nat.zero_le _⟩ ?_
  clear hs
  rintro ⟨i, os, v, Lv, LX⟩ w ⟨hs, hO, hok, hosl, hi⟩
  simp only at hs hO hok hosl hi ⊢
  obtain ⟨_, cv, av, rfl, hvl⟩ := hO.form
  subst hvl
  refine W_seq ?_
  refine W_seq ?_
  refine W_region ?_
  refine s_move rfl rfl ?_
  refine s_move rfl rfl ?_
  refine s_len rfl rfl (LN33 _ _ _ _) ?_
  refine s_lss rfl rfl rfl ?_
  refine s_move rfl rfl ?_
  refine WL_case (s := 12) rfl (fun hg12 => ?_) (fun hg12 => ?_)
  · skip
    try simp only [decide_eq_true_eq, decide_eq_false_iff_not, gt_iff_lt, beq_iff_eq, beq_eq_false_iff_ne, ne_eq] at hg12
    refine WL_take rfl ?_
    refine s_move rfl rfl ?_
    refine WL_take rfl ?_
    refine s_lss rfl rfl rfl ?_
    refine s_pick_t rfl rfl rfl ?_
    refine WL_nil ?_
    refine n_then ?_
    refine W_cond rfl (fun hc15 => ?_) (fun hc15 => ?_)
    · skip
      try simp only [decide_eq_true_eq, decide_eq_false_iff_not, gt_iff_lt, beq_iff_eq, beq_eq_false_iff_ne, ne_eq] at hc15
      have hil : i < ls.length := by omega
      have hi16 : i < 16 := by omega
      obtain ⟨z, hz⟩ : ∃ z, ls[i]? = some z := ⟨_, List.getElem?_eq_getElem hil⟩
      have hzI := hli z (List.mem_of_getElem? hz)
      refine W_skip ?_
      refine n_then ?_
      refine W_seq ?_
      refine W_block ?_
      refine W_seq ?_
      refine W_region ?_
      refine s_move rfl rfl ?_
      refine s_move rfl rfl ?_
      obtain ⟨b1, o1, hA1, hc1⟩ := (hl.fwd0 hs.fwd).at (k := i) (u := .int .i64 z) (by rw [List.getElem?_map, hz]; rfl)
      (refine s_indexAddrO El33 rfl rfl rfl hA1 ?hx ?_; case hx => (constructor <;> omega))
      refine s_load Try.isAgg3 rfl rfl (by rw [Int.toNat_natCast]; exact hc1) ?_
      refine s_quo rfl rfl rfl (by omega) ?_
      obtain ⟨z16, hz16⟩ : ∃ z16, z16 = IntKind.i64.wrap (z.tdiv 16) := ⟨_, rfl⟩
      have hz16I : isI64 z16 := by rw [hz16]; exact wrap_isI64 _
      rw [← hz16]
      refine s_call Try.call11 rfl rfl (around_ok z16 4096 _ (by omega) hz16I) ?_
      rintro r w ⟨rfl, rfl⟩
      have hnr := aroundV_range (m := z16) (q := 4096) (by omega)
      obtain ⟨nn, hnn⟩ : ∃ nn, nn = aroundV z16 4096 := ⟨_, rfl⟩
      rw [← hnn] at hnr ⊢
      refine s_assign rfl rfl ?_
      refine WL_nil ?_
      refine n_then ?_
      refine W_seq ?_
      refine W_region ?_
      refine s_move rfl rfl ?_
      first | (refine s_rem' rfl rfl rfl ?hx ?_; case hx => (refine ⟨?_, ?_⟩ <;> omega)) | (refine s_rem rfl rfl rfl ?hx ?_; case hx => omega)
      refine s_build rfl rfl (BD56_1 _) ?_
      refine s_alloc rfl AL56 hs ?_; clear hs; intro b6 w hs
      first
        | refine s_storeW Try.sizeOf56 rfl rfl rfl rfl hs (kk := 0) rfl rfl ?_
        | refine s_storeW Try.sizeOf56 rfl rfl rfl rfl hs (kk := 1) rfl rfl ?_
        | refine s_storeAB Try.sizeOf56 rfl rfl rfl rfl hs (kk := 0) rfl rfl ?_
        | refine s_storeAB Try.sizeOf56 rfl rfl rfl rfl hs (kk := 1) rfl rfl ?_
      clear hs; intro w hs; try simp only [List.set_cons_zero, List.set_cons_succ, splice, List.take_succ_cons, List.take_zero, List.drop_succ_cons, List.drop_zero, List.nil_append, List.cons_append, List.length_cons, List.length_nil, Nat.reduceAdd, List.append_assoc] at hs
      refine WL_nil ?_
      refine n_then ?_
      refine W_cut (σ := OgT) (fun s => [(0, .slice la ls.length lc), (3, .slice av os.length cv), (4, .int .i64 (i : Int)), (6, .pointer (some ⟨b6, 0, none⟩))]) (fun s w => St [] w0 w ((b6, Blk 56 s.o.cells) :: (Lv ++ s.LX)) ∧ OpOk s.o s.LX ∧ (∀ p ∈ LX, p ∈ s.LX)) ?_ ?_
      · skip
        refine W_seq ?_
        refine W_region ?_
        refine s_move rfl rfl ?_
        refine s_move rfl rfl ?_
        obtain ⟨b1, o1, hA1, hc1⟩ := (hl.fwd0 hs.fwd).at (k := i) (u := .int .i64 z) (by rw [List.getElem?_map, hz]; rfl)
        (refine s_indexAddrO El33 rfl rfl rfl hA1 ?hx ?_; case hx => (constructor <;> omega))
        refine s_load Try.isAgg3 rfl rfl (by rw [Int.toNat_natCast]; exact hc1) ?_
        refine s_call Try.call11 rfl rfl (around_ok z 16 _ (by omega) hzI) ?_
        rintro r w ⟨rfl, rfl⟩
        have hkr := aroundV_range (m := z) (q := 16) (by omega)
        obtain ⟨kk, hkk⟩ : ∃ kk, kk = aroundV z 16 := ⟨_, rfl⟩
        rw [← hkk] at hkr ⊢
        have hfb : -1000000 ≤ nn % 3 ∧ nn % 3 ≤ 1000000 := by omega
        refine WL_nil ?_
        refine n_then ?_
        refine W_block ?_
        refine W_seq ?_
        refine W_seq ?_
        refine W_region ?_
        refine s_eql rfl rfl rfl ?_
        refine s_assign rfl rfl ?_
        refine WL_nil ?_
        refine n_then ?_
        refine W_cond rfl (fun hc52 => ?_) (fun hc52 => ?_)
        · skip
          try simp only [decide_eq_true_eq, decide_eq_false_iff_not, gt_iff_lt, beq_iff_eq, beq_eq_false_iff_ne, ne_eq] at hc52
          refine W_skip ?_
          refine n_then ?_
          refine W_cond rfl (fun hc52 => ?_) (fun hc52 => ?_)
          · skip
            try simp only [decide_eq_true_eq, decide_eq_false_iff_not, gt_iff_lt, beq_iff_eq, beq_eq_false_iff_ne, ne_eq] at hc52
            refine W_region ?_
            refine s_fieldAddr rfl rfl (FA56_0 _ _) ?_
            first
              | refine s_storeB Try.sizeOf3 rfl rfl rfl hs (kk := 0) rfl rfl ?_
              | refine s_storeB Try.sizeOf3 rfl rfl rfl hs (kk := 1) rfl rfl ?_
            clear hs; intro w hs; try simp only [List.set_cons_zero, List.set_cons_succ, splice, List.take_succ_cons, List.take_zero, List.drop_succ_cons, List.drop_zero, List.nil_append, List.cons_append, List.length_cons, List.length_nil, Nat.reduceAdd, List.append_assoc] at hs
            refine WL_nil ?_
            refine n_blk ?_
            refine n_loop ?_
            first
              | (refine ⟨⟨⟨0, nn % 3, 0, .slice ab bb.length cb, bb, .slice none 0 0, []⟩, Lb ++ LX⟩, ⟨rfl, rfl, rfl, rfl, trivial⟩, ?_, ⟨(hOb.rdS).mono' fun p hp => List.mem_append_left _ hp, RdS.nilA _, hbB, by simp only; omega, isI64_small hfb, isI64_small (by first | (simp only; done) | (simp only; omega) | omega)⟩, fun p hp => List.mem_append_right _ hp⟩
                 have h9 := St.reord [[_], Lb, Lv, LX] [0, 2, 1, 3] [] hs rfl
                 exact h9)
              | exact ⟨⟨⟨_, _, _, .slice none 0 0, [], .slice none 0 0, []⟩, LX⟩, ⟨rfl, rfl, rfl, rfl, trivial⟩, hs, ⟨RdS.nilA _, RdS.nilA _, by simp, by simp, isI64_small hfb, isI64_small (by first | (simp only; done) | (simp only; omega) | omega)⟩, fun p hp => hp⟩
              | (refine ⟨⟨⟨4, nn % 3, nn / 4 % 40 - 4, .slice none 0 0, [], .slice (some ⟨b90, 0, none⟩) (nn / 125 % 4).toNat 3, [nn % 5 - 1, nn / 5 % 5, nn / 25 % 5].take (nn / 125 % 4).toNat⟩, [(b90, Blk 3 [.int .i64 (nn % 5 - 1), .int .i64 (nn / 5 % 5), .int .i64 (nn / 25 % 5)])] ++ LX⟩, ⟨rfl, rfl, rfl, rfl, trivial⟩, ?_, ⟨RdS.nilA _, ?_, by simp, by simp, isI64_small hfb, isI64_small (by first | (simp only; done) | (simp only; omega) | omega)⟩, fun p hp => List.mem_append_right _ hp⟩
                 · have h9 := St.reord [[_], [_], Lv, LX] [1, 2, 0, 3] [] hs rfl
                   exact h9
                 · have hlen : ([nn % 5 - 1, nn / 5 % 5, nn / 25 % 5].take (nn / 125 % 4).toNat).length = (nn / 125 % 4).toNat := by rw [List.length_take]; simp; omega
                   simp only
                   rw [hlen]
                   refine RdS.lit (e := 3) (cs := [.int .i64 (nn % 5 - 1), .int .i64 (nn / 5 % 5), .int .i64 (nn / 25 % 5)]) (by simp) (by omega) fun j u hj => ?_
                   rw [i64s, List.map_take, List.getElem?_take] at hj
                   split at hj
                   · exact hj
                   · cases hj)
              | (refine ⟨⟨⟨0, nn % 70 - 3, 0, .slice (some ⟨b105, 0, none⟩) 1 1, [1], .slice none 0 0, []⟩, [(b105, Blk 5 [.int .u8 1])] ++ LX⟩, ⟨rfl, rfl, rfl, rfl, trivial⟩, ?_, ⟨RdS.lit (e := 5) (cs := [.int .u8 1]) (by simp) (Nat.le_refl _) (fun j u hj => hj), RdS.nilA _, fun z hz => (show isB z from by rw [List.mem_singleton.1 hz]; exact ⟨by decide, by decide⟩), by simp, isI64_small (by first | (simp only; done) | (simp only; omega) | omega), isI64_small (by first | (simp only; done) | (simp only; omega) | omega)⟩, fun p hp => List.mem_append_right _ hp⟩
                 have h9 := St.reord [[_], [_], Lv, LX] [1, 2, 0, 3] [] hs rfl
                 exact h9)
          · skip
            try simp only [decide_eq_true_eq, decide_eq_false_iff_not, gt_iff_lt, beq_iff_eq, beq_eq_false_iff_ne, ne_eq] at hc52
            refine W_seq ?_
            refine W_region ?_
            refine s_eql rfl rfl rfl ?_
            refine s_assign rfl rfl ?_
            refine WL_nil ?_
            refine n_then ?_
            refine W_cond rfl (fun hc56 => ?_) (fun hc56 => ?_)
            · skip
              try simp only [decide_eq_true_eq, decide_eq_false_iff_not, gt_iff_lt, beq_iff_eq, beq_eq_false_iff_ne, ne_eq] at hc56
              refine W_seq ?_
              refine W_region ?_
              refine s_fieldAddr rfl rfl (FA56_0 _ _) ?_
              first
                | refine s_storeB Try.sizeOf3 rfl rfl rfl hs (kk := 0) rfl rfl ?_
                | refine s_storeB Try.sizeOf3 rfl rfl rfl hs (kk := 1) rfl rfl ?_
              clear hs; intro w hs; try simp only [List.set_cons_zero, List.set_cons_succ, splice, List.take_succ_cons, List.take_zero, List.drop_succ_cons, List.drop_zero, List.nil_append, List.cons_append, List.length_cons, List.length_nil, Nat.reduceAdd, List.append_assoc] at hs
              refine WL_nil ?_
              refine n_then ?_
              refine W_region ?_
              refine s_move rfl rfl ?_
              first | (refine s_quo' rfl rfl rfl ?hx ?_; case hx => (refine ⟨?_, ?_, ?_⟩ <;> omega)) | (refine s_quo rfl rfl rfl ?hx ?_; case hx => omega)
              first | (refine s_rem' rfl rfl rfl ?hx ?_; case hx => (refine ⟨?_, ?_⟩ <;> omega)) | (refine s_rem rfl rfl rfl ?hx ?_; case hx => omega)
              first | (refine s_sub' rfl rfl rfl ?hx ?_; case hx => (constructor <;> first | omega | (simp only; omega))) | refine s_sub rfl rfl rfl ?_
              refine s_fieldAddr rfl rfl (FA56_2 _ _) ?_
              first
                | refine s_storeB Try.sizeOf3 rfl rfl rfl hs (kk := 0) rfl rfl ?_
                | refine s_storeB Try.sizeOf3 rfl rfl rfl hs (kk := 1) rfl rfl ?_
              clear hs; intro w hs; try simp only [List.set_cons_zero, List.set_cons_succ, splice, List.take_succ_cons, List.take_zero, List.drop_succ_cons, List.drop_zero, List.nil_append, List.cons_append, List.length_cons, List.length_nil, Nat.reduceAdd, List.append_assoc] at hs
              refine WL_nil ?_
              refine n_blk ?_
              refine n_loop ?_
              first
                | (refine ⟨⟨⟨0, nn % 3, 0, .slice ab bb.length cb, bb, .slice none 0 0, []⟩, Lb ++ LX⟩, ⟨rfl, rfl, rfl, rfl, trivial⟩, ?_, ⟨(hOb.rdS).mono' fun p hp => List.mem_append_left _ hp, RdS.nilA _, hbB, by simp only; omega, isI64_small hfb, isI64_small (by first | (simp only; done) | (simp only; omega) | omega)⟩, fun p hp => List.mem_append_right _ hp⟩
                   have h9 := St.reord [[_], Lb, Lv, LX] [0, 2, 1, 3] [] hs rfl
                   exact h9)
                | exact ⟨⟨⟨_, _, _, .slice none 0 0, [], .slice none 0 0, []⟩, LX⟩, ⟨rfl, rfl, rfl, rfl, trivial⟩, hs, ⟨RdS.nilA _, RdS.nilA _, by simp, by simp, isI64_small hfb, isI64_small (by first | (simp only; done) | (simp only; omega) | omega)⟩, fun p hp => hp⟩
                | (refine ⟨⟨⟨4, nn % 3, nn / 4 % 40 - 4, .slice none 0 0, [], .slice (some ⟨b90, 0, none⟩) (nn / 125 % 4).toNat 3, [nn % 5 - 1, nn / 5 % 5, nn / 25 % 5].take (nn / 125 % 4).toNat⟩, [(b90, Blk 3 [.int .i64 (nn % 5 - 1), .int .i64 (nn / 5 % 5), .int .i64 (nn / 25 % 5)])] ++ LX⟩, ⟨rfl, rfl, rfl, rfl, trivial⟩, ?_, ⟨RdS.nilA _, ?_, by simp, by simp, isI64_small hfb, isI64_small (by first | (simp only; done) | (simp only; omega) | omega)⟩, fun p hp => List.mem_append_right _ hp⟩
                   · have h9 := St.reord [[_], [_], Lv, LX] [1, 2, 0, 3] [] hs rfl
                     exact h9
                   · have hlen : ([nn % 5 - 1, nn / 5 % 5, nn / 25 % 5].take (nn / 125 % 4).toNat).length = (nn / 125 % 4).toNat := by rw [List.length_take]; simp; omega
                     simp only
                     rw [hlen]
                     refine RdS.lit (e := 3) (cs := [.int .i64 (nn % 5 - 1), .int .i64 (nn / 5 % 5), .int .i64 (nn / 25 % 5)]) (by simp) (by omega) fun j u hj => ?_
                     rw [i64s, List.map_take, List.getElem?_take] at hj
                     split at hj
                     · exact hj
                     · cases hj)
                | (refine ⟨⟨⟨0, nn % 70 - 3, 0, .slice (some ⟨b105, 0, none⟩) 1 1, [1], .slice none 0 0, []⟩, [(b105, Blk 5 [.int .u8 1])] ++ LX⟩, ⟨rfl, rfl, rfl, rfl, trivial⟩, ?_, ⟨RdS.lit (e := 5) (cs := [.int .u8 1]) (by simp) (Nat.le_refl _) (fun j u hj => hj), RdS.nilA _, fun z hz => (show isB z from by rw [List.mem_singleton.1 hz]; exact ⟨by decide, by decide⟩), by simp, isI64_small (by first | (simp only; done) | (simp only; omega) | omega), isI64_small (by first | (simp only; done) | (simp only; omega) | omega)⟩, fun p hp => List.mem_append_right _ hp⟩
                   have h9 := St.reord [[_], [_], Lv, LX] [1, 2, 0, 3] [] hs rfl
                   exact h9)
            · skip
              try simp only [decide_eq_true_eq, decide_eq_false_iff_not, gt_iff_lt, beq_iff_eq, beq_eq_false_iff_ne, ne_eq] at hc56
              refine W_seq ?_
              refine W_region ?_
              refine s_eql rfl rfl rfl ?_
              refine s_assign rfl rfl ?_
              refine WL_nil ?_
              refine n_then ?_
              refine W_cond rfl (fun hc64 => ?_) (fun hc64 => ?_)
              · skip
                try simp only [decide_eq_true_eq, decide_eq_false_iff_not, gt_iff_lt, beq_iff_eq, beq_eq_false_iff_ne, ne_eq] at hc64
                refine W_seq ?_
                refine W_region ?_
                refine s_fieldAddr rfl rfl (FA56_0 _ _) ?_
                first
                  | refine s_storeB Try.sizeOf3 rfl rfl rfl hs (kk := 0) rfl rfl ?_
                  | refine s_storeB Try.sizeOf3 rfl rfl rfl hs (kk := 1) rfl rfl ?_
                clear hs; intro w hs; try simp only [List.set_cons_zero, List.set_cons_succ, splice, List.take_succ_cons, List.take_zero, List.drop_succ_cons, List.drop_zero, List.nil_append, List.cons_append, List.length_cons, List.length_nil, Nat.reduceAdd, List.append_assoc] at hs
                refine WL_nil ?_
                refine n_then ?_
                refine W_region ?_
                refine s_move rfl rfl ?_
                first | (refine s_quo' rfl rfl rfl ?hx ?_; case hx => (refine ⟨?_, ?_, ?_⟩ <;> omega)) | (refine s_quo rfl rfl rfl ?hx ?_; case hx => omega)
                first | (refine s_rem' rfl rfl rfl ?hx ?_; case hx => (refine ⟨?_, ?_⟩ <;> omega)) | (refine s_rem rfl rfl rfl ?hx ?_; case hx => omega)
                first | (refine s_sub' rfl rfl rfl ?hx ?_; case hx => (constructor <;> first | omega | (simp only; omega))) | refine s_sub rfl rfl rfl ?_
                refine s_fieldAddr rfl rfl (FA56_2 _ _) ?_
                first
                  | refine s_storeB Try.sizeOf3 rfl rfl rfl hs (kk := 0) rfl rfl ?_
                  | refine s_storeB Try.sizeOf3 rfl rfl rfl hs (kk := 1) rfl rfl ?_
                clear hs; intro w hs; try simp only [List.set_cons_zero, List.set_cons_succ, splice, List.take_succ_cons, List.take_zero, List.drop_succ_cons, List.drop_zero, List.nil_append, List.cons_append, List.length_cons, List.length_nil, Nat.reduceAdd, List.append_assoc] at hs
                refine WL_nil ?_
                refine n_blk ?_
                refine n_loop ?_
                first
                  | (refine ⟨⟨⟨0, nn % 3, 0, .slice ab bb.length cb, bb, .slice none 0 0, []⟩, Lb ++ LX⟩, ⟨rfl, rfl, rfl, rfl, trivial⟩, ?_, ⟨(hOb.rdS).mono' fun p hp => List.mem_append_left _ hp, RdS.nilA _, hbB, by simp only; omega, isI64_small hfb, isI64_small (by first | (simp only; done) | (simp only; omega) | omega)⟩, fun p hp => List.mem_append_right _ hp⟩
                     have h9 := St.reord [[_], Lb, Lv, LX] [0, 2, 1, 3] [] hs rfl
                     exact h9)
                  | exact ⟨⟨⟨_, _, _, .slice none 0 0, [], .slice none 0 0, []⟩, LX⟩, ⟨rfl, rfl, rfl, rfl, trivial⟩, hs, ⟨RdS.nilA _, RdS.nilA _, by simp, by simp, isI64_small hfb, isI64_small (by first | (simp only; done) | (simp only; omega) | omega)⟩, fun p hp => hp⟩
                  | (refine ⟨⟨⟨4, nn % 3, nn / 4 % 40 - 4, .slice none 0 0, [], .slice (some ⟨b90, 0, none⟩) (nn / 125 % 4).toNat 3, [nn % 5 - 1, nn / 5 % 5, nn / 25 % 5].take (nn / 125 % 4).toNat⟩, [(b90, Blk 3 [.int .i64 (nn % 5 - 1), .int .i64 (nn / 5 % 5), .int .i64 (nn / 25 % 5)])] ++ LX⟩, ⟨rfl, rfl, rfl, rfl, trivial⟩, ?_, ⟨RdS.nilA _, ?_, by simp, by simp, isI64_small hfb, isI64_small (by first | (simp only; done) | (simp only; omega) | omega)⟩, fun p hp => List.mem_append_right _ hp⟩
                     · have h9 := St.reord [[_], [_], Lv, LX] [1, 2, 0, 3] [] hs rfl
                       exact h9
                     · have hlen : ([nn % 5 - 1, nn / 5 % 5, nn / 25 % 5].take (nn / 125 % 4).toNat).length = (nn / 125 % 4).toNat := by rw [List.length_take]; simp; omega
                       simp only
                       rw [hlen]
                       refine RdS.lit (e := 3) (cs := [.int .i64 (nn % 5 - 1), .int .i64 (nn / 5 % 5), .int .i64 (nn / 25 % 5)]) (by simp) (by omega) fun j u hj => ?_
                       rw [i64s, List.map_take, List.getElem?_take] at hj
                       split at hj
                       · exact hj
                       · cases hj)
                  | (refine ⟨⟨⟨0, nn % 70 - 3, 0, .slice (some ⟨b105, 0, none⟩) 1 1, [1], .slice none 0 0, []⟩, [(b105, Blk 5 [.int .u8 1])] ++ LX⟩, ⟨rfl, rfl, rfl, rfl, trivial⟩, ?_, ⟨RdS.lit (e := 5) (cs := [.int .u8 1]) (by simp) (Nat.le_refl _) (fun j u hj => hj), RdS.nilA _, fun z hz => (show isB z from by rw [List.mem_singleton.1 hz]; exact ⟨by decide, by decide⟩), by simp, isI64_small (by first | (simp only; done) | (simp only; omega) | omega), isI64_small (by first | (simp only; done) | (simp only; omega) | omega)⟩, fun p hp => List.mem_append_right _ hp⟩
                     have h9 := St.reord [[_], [_], Lv, LX] [1, 2, 0, 3] [] hs rfl
                     exact h9)
              · skip
                try simp only [decide_eq_true_eq, decide_eq_false_iff_not, gt_iff_lt, beq_iff_eq, beq_eq_false_iff_ne, ne_eq] at hc64
                refine W_seq ?_
                refine W_seq ?_
                refine W_region ?_
                refine s_eql rfl rfl rfl ?_
                refine s_assign rfl rfl ?_
                refine WL_nil ?_
                refine n_then ?_
                refine W_cond rfl (fun hc72 => ?_) (fun hc72 => ?_)
                · skip
                  try simp only [decide_eq_true_eq, decide_eq_false_iff_not, gt_iff_lt, beq_iff_eq, beq_eq_false_iff_ne, ne_eq] at hc72
                  refine W_skip ?_
                  refine n_then ?_
                  refine W_cond rfl (fun hc72 => ?_) (fun hc72 => ?_)
                  · skip
                    try simp only [decide_eq_true_eq, decide_eq_false_iff_not, gt_iff_lt, beq_iff_eq, beq_eq_false_iff_ne, ne_eq] at hc72
                    refine W_seq ?_
                    refine W_region ?_
                    refine s_fieldAddr rfl rfl (FA56_0 _ _) ?_
                    first
                      | refine s_storeB Try.sizeOf3 rfl rfl rfl hs (kk := 0) rfl rfl ?_
                      | refine s_storeB Try.sizeOf3 rfl rfl rfl hs (kk := 1) rfl rfl ?_
                    clear hs; intro w hs; try simp only [List.set_cons_zero, List.set_cons_succ, splice, List.take_succ_cons, List.take_zero, List.drop_succ_cons, List.drop_zero, List.nil_append, List.cons_append, List.length_cons, List.length_nil, Nat.reduceAdd, List.append_assoc] at hs
                    refine WL_nil ?_
                    refine n_then ?_
                    refine W_seq ?_
                    refine W_region ?_
                    refine s_move rfl rfl ?_
                    first | (refine s_quo' rfl rfl rfl ?hx ?_; case hx => (refine ⟨?_, ?_, ?_⟩ <;> omega)) | (refine s_quo rfl rfl rfl ?hx ?_; case hx => omega)
                    first | (refine s_rem' rfl rfl rfl ?hx ?_; case hx => (refine ⟨?_, ?_⟩ <;> omega)) | (refine s_rem rfl rfl rfl ?hx ?_; case hx => omega)
                    first | (refine s_sub' rfl rfl rfl ?hx ?_; case hx => (constructor <;> first | omega | (simp only; omega))) | refine s_sub rfl rfl rfl ?_
                    refine s_fieldAddr rfl rfl (FA56_2 _ _) ?_
                    first
                      | refine s_storeB Try.sizeOf3 rfl rfl rfl hs (kk := 0) rfl rfl ?_
                      | refine s_storeB Try.sizeOf3 rfl rfl rfl hs (kk := 1) rfl rfl ?_
                    clear hs; intro w hs; try simp only [List.set_cons_zero, List.set_cons_succ, splice, List.take_succ_cons, List.take_zero, List.drop_succ_cons, List.drop_zero, List.nil_append, List.cons_append, List.length_cons, List.length_nil, Nat.reduceAdd, List.append_assoc] at hs
                    refine WL_nil ?_
                    refine n_then ?_
                    refine W_seq ?_
                    refine W_region ?_
                    refine s_move rfl rfl ?_
                    first | (refine s_rem' rfl rfl rfl ?hx ?_; case hx => (refine ⟨?_, ?_⟩ <;> omega)) | (refine s_rem rfl rfl rfl ?hx ?_; case hx => omega)
                    first | (refine s_sub' rfl rfl rfl ?hx ?_; case hx => (constructor <;> first | omega | (simp only; omega))) | refine s_sub rfl rfl rfl ?_
                    refine s_move rfl rfl ?_
                    first | (refine s_quo' rfl rfl rfl ?hx ?_; case hx => (refine ⟨?_, ?_, ?_⟩ <;> omega)) | (refine s_quo rfl rfl rfl ?hx ?_; case hx => omega)
                    first | (refine s_rem' rfl rfl rfl ?hx ?_; case hx => (refine ⟨?_, ?_⟩ <;> omega)) | (refine s_rem rfl rfl rfl ?hx ?_; case hx => omega)
                    refine s_move rfl rfl ?_
                    first | (refine s_quo' rfl rfl rfl ?hx ?_; case hx => (refine ⟨?_, ?_, ?_⟩ <;> omega)) | (refine s_quo rfl rfl rfl ?hx ?_; case hx => omega)
                    first | (refine s_rem' rfl rfl rfl ?hx ?_; case hx => (refine ⟨?_, ?_⟩ <;> omega)) | (refine s_rem rfl rfl rfl ?hx ?_; case hx => omega)
                    refine s_buildSlice rfl rfl (BS33_3 _ _ _) hs ?_; clear hs; intro b90 w hs
                    refine s_fieldAddr rfl rfl (FA56_4 _ _) ?_
                    first
                      | refine s_storeB Try.sizeOf33 rfl rfl rfl hs (kk := 0) rfl rfl ?_
                      | refine s_storeB Try.sizeOf33 rfl rfl rfl hs (kk := 1) rfl rfl ?_
                    clear hs; intro w hs; try simp only [List.set_cons_zero, List.set_cons_succ, splice, List.take_succ_cons, List.take_zero, List.drop_succ_cons, List.drop_zero, List.nil_append, List.cons_append, List.length_cons, List.length_nil, Nat.reduceAdd, List.append_assoc] at hs
                    refine WL_nil ?_
                    refine n_then ?_
                    refine W_region ?_
                    refine s_fieldAddr rfl rfl (FA56_4 _ _) ?_
                    first
                      | refine s_load Try.isAgg33 rfl rfl (hs.cell (k := 0) rfl rfl) ?_
                      | refine s_load Try.isAgg33 rfl rfl (hs.cell (k := 1) rfl rfl) ?_
                    refine s_move rfl rfl ?_
                    first | (refine s_quo' rfl rfl rfl ?hx ?_; case hx => (refine ⟨?_, ?_, ?_⟩ <;> omega)) | (refine s_quo rfl rfl rfl ?hx ?_; case hx => omega)
                    first | (refine s_rem' rfl rfl rfl ?hx ?_; case hx => (refine ⟨?_, ?_⟩ <;> omega)) | (refine s_rem rfl rfl rfl ?hx ?_; case hx => omega)
                    (refine s_slice_hi El33 rfl rfl rfl ?hx ?_; case hx => (constructor <;> omega))
                    refine s_fieldAddr rfl rfl (FA56_4 _ _) ?_
                    first
                      | refine s_storeB Try.sizeOf33 rfl rfl rfl hs (kk := 0) rfl rfl ?_
                      | refine s_storeB Try.sizeOf33 rfl rfl rfl hs (kk := 1) rfl rfl ?_
                    clear hs; intro w hs; try simp only [List.set_cons_zero, List.set_cons_succ, splice, List.take_succ_cons, List.take_zero, List.drop_succ_cons, List.drop_zero, List.nil_append, List.cons_append, List.length_cons, List.length_nil, Nat.reduceAdd, List.append_assoc] at hs
                    refine WL_nil ?_
                    refine n_blk ?_
                    refine n_loop ?_
                    first
                      | (refine ⟨⟨⟨0, nn % 3, 0, .slice ab bb.length cb, bb, .slice none 0 0, []⟩, Lb ++ LX⟩, ⟨rfl, rfl, rfl, rfl, trivial⟩, ?_, ⟨(hOb.rdS).mono' fun p hp => List.mem_append_left _ hp, RdS.nilA _, hbB, by simp only; omega, isI64_small hfb, isI64_small (by first | (simp only; done) | (simp only; omega) | omega)⟩, fun p hp => List.mem_append_right _ hp⟩
                         have h9 := St.reord [[_], Lb, Lv, LX] [0, 2, 1, 3] [] hs rfl
                         exact h9)
                      | exact ⟨⟨⟨_, _, _, .slice none 0 0, [], .slice none 0 0, []⟩, LX⟩, ⟨rfl, rfl, rfl, rfl, trivial⟩, hs, ⟨RdS.nilA _, RdS.nilA _, by simp, by simp, isI64_small hfb, isI64_small (by first | (simp only; done) | (simp only; omega) | omega)⟩, fun p hp => hp⟩
                      | (refine ⟨⟨⟨4, nn % 3, nn / 4 % 40 - 4, .slice none 0 0, [], .slice (some ⟨b90, 0, none⟩) (nn / 125 % 4).toNat 3, [nn % 5 - 1, nn / 5 % 5, nn / 25 % 5].take (nn / 125 % 4).toNat⟩, [(b90, Blk 3 [.int .i64 (nn % 5 - 1), .int .i64 (nn / 5 % 5), .int .i64 (nn / 25 % 5)])] ++ LX⟩, ⟨rfl, rfl, rfl, rfl, trivial⟩, ?_, ⟨RdS.nilA _, ?_, by simp, by simp, isI64_small hfb, isI64_small (by first | (simp only; done) | (simp only; omega) | omega)⟩, fun p hp => List.mem_append_right _ hp⟩
                         · have h9 := St.reord [[_], [_], Lv, LX] [1, 2, 0, 3] [] hs rfl
                           exact h9
                         · have hlen : ([nn % 5 - 1, nn / 5 % 5, nn / 25 % 5].take (nn / 125 % 4).toNat).length = (nn / 125 % 4).toNat := by rw [List.length_take]; simp; omega
                           simp only
                           rw [hlen]
                           refine RdS.lit (e := 3) (cs := [.int .i64 (nn % 5 - 1), .int .i64 (nn / 5 % 5), .int .i64 (nn / 25 % 5)]) (by simp) (by omega) fun j u hj => ?_
                           rw [i64s, List.map_take, List.getElem?_take] at hj
                           split at hj
                           · exact hj
                           · cases hj)
                      | (refine ⟨⟨⟨0, nn % 70 - 3, 0, .slice (some ⟨b105, 0, none⟩) 1 1, [1], .slice none 0 0, []⟩, [(b105, Blk 5 [.int .u8 1])] ++ LX⟩, ⟨rfl, rfl, rfl, rfl, trivial⟩, ?_, ⟨RdS.lit (e := 5) (cs := [.int .u8 1]) (by simp) (Nat.le_refl _) (fun j u hj => hj), RdS.nilA _, fun z hz => (show isB z from by rw [List.mem_singleton.1 hz]; exact ⟨by decide, by decide⟩), by simp, isI64_small (by first | (simp only; done) | (simp only; omega) | omega), isI64_small (by first | (simp only; done) | (simp only; omega) | omega)⟩, fun p hp => List.mem_append_right _ hp⟩
                         have h9 := St.reord [[_], [_], Lv, LX] [1, 2, 0, 3] [] hs rfl
                         exact h9)
                  · skip
                    try simp only [decide_eq_true_eq, decide_eq_false_iff_not, gt_iff_lt, beq_iff_eq, beq_eq_false_iff_ne, ne_eq] at hc72
                    refine W_seq ?_
                    refine W_region ?_
                    refine s_eql rfl rfl rfl ?_
                    refine s_assign rfl rfl ?_
                    refine WL_nil ?_
                    refine n_then ?_
                    refine W_cond rfl (fun hc99 => ?_) (fun hc99 => ?_)
                    · skip
                      try simp only [decide_eq_true_eq, decide_eq_false_iff_not, gt_iff_lt, beq_iff_eq, beq_eq_false_iff_ne, ne_eq] at hc99
                      refine W_seq ?_
                      refine W_region ?_
                      refine s_move rfl rfl ?_
                      first | (refine s_rem' rfl rfl rfl ?hx ?_; case hx => (refine ⟨?_, ?_⟩ <;> omega)) | (refine s_rem rfl rfl rfl ?hx ?_; case hx => omega)
                      first | (refine s_sub' rfl rfl rfl ?hx ?_; case hx => (constructor <;> first | omega | (simp only; omega))) | refine s_sub rfl rfl rfl ?_
                      refine s_fieldAddr rfl rfl (FA56_1 _ _) ?_
                      first
                        | refine s_storeB Try.sizeOf3 rfl rfl rfl hs (kk := 0) rfl rfl ?_
                        | refine s_storeB Try.sizeOf3 rfl rfl rfl hs (kk := 1) rfl rfl ?_
                      clear hs; intro w hs; try simp only [List.set_cons_zero, List.set_cons_succ, splice, List.take_succ_cons, List.take_zero, List.drop_succ_cons, List.drop_zero, List.nil_append, List.cons_append, List.length_cons, List.length_nil, Nat.reduceAdd, List.append_assoc] at hs
                      refine WL_nil ?_
                      refine n_then ?_
                      refine W_region ?_
                      refine s_buildSlice rfl rfl (BS27_1 _) hs ?_; clear hs; intro b105 w hs
                      refine s_fieldAddr rfl rfl (FA56_3 _ _) ?_
                      first
                        | refine s_storeB Try.sizeOf27 rfl rfl rfl hs (kk := 0) rfl rfl ?_
                        | refine s_storeB Try.sizeOf27 rfl rfl rfl hs (kk := 1) rfl rfl ?_
                      clear hs; intro w hs; try simp only [List.set_cons_zero, List.set_cons_succ, splice, List.take_succ_cons, List.take_zero, List.drop_succ_cons, List.drop_zero, List.nil_append, List.cons_append, List.length_cons, List.length_nil, Nat.reduceAdd, List.append_assoc] at hs
                      refine WL_nil ?_
                      refine n_blk ?_
                      refine n_loop ?_
                      first
                        | (refine ⟨⟨⟨0, nn % 3, 0, .slice ab bb.length cb, bb, .slice none 0 0, []⟩, Lb ++ LX⟩, ⟨rfl, rfl, rfl, rfl, trivial⟩, ?_, ⟨(hOb.rdS).mono' fun p hp => List.mem_append_left _ hp, RdS.nilA _, hbB, by simp only; omega, isI64_small hfb, isI64_small (by first | (simp only; done) | (simp only; omega) | omega)⟩, fun p hp => List.mem_append_right _ hp⟩
                           have h9 := St.reord [[_], Lb, Lv, LX] [0, 2, 1, 3] [] hs rfl
                           exact h9)
                        | exact ⟨⟨⟨_, _, _, .slice none 0 0, [], .slice none 0 0, []⟩, LX⟩, ⟨rfl, rfl, rfl, rfl, trivial⟩, hs, ⟨RdS.nilA _, RdS.nilA _, by simp, by simp, isI64_small hfb, isI64_small (by first | (simp only; done) | (simp only; omega) | omega)⟩, fun p hp => hp⟩
                        | (refine ⟨⟨⟨4, nn % 3, nn / 4 % 40 - 4, .slice none 0 0, [], .slice (some ⟨b90, 0, none⟩) (nn / 125 % 4).toNat 3, [nn % 5 - 1, nn / 5 % 5, nn / 25 % 5].take (nn / 125 % 4).toNat⟩, [(b90, Blk 3 [.int .i64 (nn % 5 - 1), .int .i64 (nn / 5 % 5), .int .i64 (nn / 25 % 5)])] ++ LX⟩, ⟨rfl, rfl, rfl, rfl, trivial⟩, ?_, ⟨RdS.nilA _, ?_, by simp, by simp, isI64_small hfb, isI64_small (by first | (simp only; done) | (simp only; omega) | omega)⟩, fun p hp => List.mem_append_right _ hp⟩
                           · have h9 := St.reord [[_], [_], Lv, LX] [1, 2, 0, 3] [] hs rfl
                             exact h9
                           · have hlen : ([nn % 5 - 1, nn / 5 % 5, nn / 25 % 5].take (nn / 125 % 4).toNat).length = (nn / 125 % 4).toNat := by rw [List.length_take]; simp; omega
                             simp only
                             rw [hlen]
                             refine RdS.lit (e := 3) (cs := [.int .i64 (nn % 5 - 1), .int .i64 (nn / 5 % 5), .int .i64 (nn / 25 % 5)]) (by simp) (by omega) fun j u hj => ?_
                             rw [i64s, List.map_take, List.getElem?_take] at hj
                             split at hj
                             · exact hj
                             · cases hj)
                        | (refine ⟨⟨⟨0, nn % 70 - 3, 0, .slice (some ⟨b105, 0, none⟩) 1 1, [1], .slice none 0 0, []⟩, [(b105, Blk 5 [.int .u8 1])] ++ LX⟩, ⟨rfl, rfl, rfl, rfl, trivial⟩, ?_, ⟨RdS.lit (e := 5) (cs := [.int .u8 1]) (by simp) (Nat.le_refl _) (fun j u hj => hj), RdS.nilA _, fun z hz => (show isB z from by rw [List.mem_singleton.1 hz]; exact ⟨by decide, by decide⟩), by simp, isI64_small (by first | (simp only; done) | (simp only; omega) | omega), isI64_small (by first | (simp only; done) | (simp only; omega) | omega)⟩, fun p hp => List.mem_append_right _ hp⟩
                           have h9 := St.reord [[_], [_], Lv, LX] [1, 2, 0, 3] [] hs rfl
                           exact h9)
                    · skip
                      try simp only [decide_eq_true_eq, decide_eq_false_iff_not, gt_iff_lt, beq_iff_eq, beq_eq_false_iff_ne, ne_eq] at hc99
                      refine W_seq ?_
                      refine W_region ?_
                      refine s_assign rfl rfl ?_
                      refine WL_nil ?_
                      refine n_then ?_
                      refine W_block ?_
                      refine W_loop (σ := OgU) (fun s => [(0, .slice la ls.length lc), (3, .slice av os.length cv), (4, .int .i64 (i : Int)), (5, .int .i64 nn), (6, .pointer (some ⟨b6, 0, none⟩)), (7, .int .i64 (s.k : Int))]) (fun s w => St [] w0 w ((b6, Blk 56 [.int .i64 0, .int .i64 (nn % 3), .int .i64 0, s.v, .slice none 0 0]) :: (s.L ++ (Lv ++ LX))) ∧ OwnS 5 1 s.v s.b.length (u8s s.b) s.L ∧ s.b.length = s.k ∧ s.k ≤ 6 ∧ ∀ z ∈ s.b, isB z) (fun s => 6 - s.k) ⟨0, .slice none 0 0, [], []⟩ ⟨rfl, rfl, rfl, rfl, rfl, rfl, trivial⟩ ⟨hs, OwnS.nil _ _, rfl, Nat.zero_le _, by simp⟩ ?_
                      clear hs
                      rintro ⟨k, v2, bb, Lb⟩ w ⟨hs, hOb, hbl, hk6, hbB⟩
                      simp only at hs hOb hbl hk6 hbB ⊢
                      obtain ⟨_, cb, ab, rfl, hbvl⟩ := hOb.form
                      subst hbvl
                      refine W_seq ?_
                      refine W_seq ?_
                      refine W_region ?_
                      refine s_move rfl rfl ?_
                      refine s_move rfl rfl ?_
                      first | (refine s_quo' rfl rfl rfl ?hx ?_; case hx => (refine ⟨?_, ?_, ?_⟩ <;> omega)) | (refine s_quo rfl rfl rfl ?hx ?_; case hx => omega)
                      first | (refine s_rem' rfl rfl rfl ?hx ?_; case hx => (refine ⟨?_, ?_⟩ <;> omega)) | (refine s_rem rfl rfl rfl ?hx ?_; case hx => omega)
                      refine s_lss rfl rfl rfl ?_
                      refine WL_nil ?_
                      refine n_then ?_
                      refine W_cond rfl (fun hc36 => ?_) (fun hc36 => ?_)
                      · skip
                        try simp only [decide_eq_true_eq, decide_eq_false_iff_not, gt_iff_lt, beq_iff_eq, beq_eq_false_iff_ne, ne_eq] at hc36
                        refine W_skip ?_
                        refine n_then ?_
                        refine W_seq ?_
                        refine W_block ?_
                        refine W_draw [(0, true, []), (1, true, []), (2, true, []), (3, true, []), (4, true, []), (5, true, []), (6, true, []), (7, true, []), (8, true, []), (9, true, []), (10, false, [0, 1]), (11, false, []), (12, true, []), (13, false, [])] [[], [0], [], [], [2, 3], [2, 3, 4], [], [6], [2, 3, 4, 5, 6, 7], [2, 3, 4, 5, 6, 7, 8], [2, 3, 4, 5, 6, 7, 8, 9], [0, 1, 2, 3, 4, 5, 6, 7, 8, 9, 10], [0, 1, 2, 3, 4, 5, 6, 7, 8, 9, 10, 11], [0, 1, 2, 3, 4, 5, 6, 7, 8, 9, 10, 11, 12]] MX (by kernel_rfl) ?_
                        intro w1 hw1 hw2 hw3 hw4; replace hs := hs.redrawn hw1 hw2 hw3 hw4; clear hw1 hw2 hw3 hw4
                        obtain ⟨w, rfl⟩ : ∃ w : World, w = w1 := ⟨_, rfl⟩
                        refine D_q rfl rfl ?_
                        refine s_fieldAddr rfl rfl (FA56_3 _ _) ?_
                        refine D_qn ?_
                        refine D_q rfl rfl ?_
                        first
                          | refine s_load Try.isAgg27 rfl rfl (hs.cell (k := 0) rfl rfl) ?_
                          | refine s_load Try.isAgg27 rfl rfl (hs.cell (k := 1) rfl rfl) ?_
                        refine D_qn ?_
                        refine D_q rfl rfl ?_
                        refine s_move rfl rfl ?_
                        refine D_qn ?_
                        refine D_q rfl rfl ?_
                        refine s_move rfl rfl ?_
                        refine D_qn ?_
                        refine D_q rfl rfl ?_
                        obtain ⟨b1, o1, hA1, hc1⟩ := (hl.fwd0 hs.fwd).at (k := i) (u := .int .i64 z) (by rw [List.getElem?_map, hz]; rfl)
                        (refine s_indexAddrO El33 rfl rfl rfl hA1 ?hx ?_; case hx => (constructor <;> omega))
                        refine D_qn ?_
                        refine D_q rfl rfl ?_
                        refine s_load Try.isAgg3 rfl rfl (by rw [Int.toNat_natCast]; exact hc1) ?_
                        refine D_qn ?_
                        refine D_q rfl rfl ?_
                        refine s_move rfl rfl ?_
                        refine D_qn ?_
                        refine D_q rfl rfl ?_
                        refine s_convert rfl rfl (CV3_72 _) ?_
                        rw [show IntKind.u64.wrap (k : Int) = (k : Int) from u64w (by omega)]
                        refine D_qn ?_
                        refine D_q rfl rfl ?_
                        (refine s_shr rfl rfl rfl ?hx ?_; case hx => omega)
                        refine D_qn ?_
                        refine D_q rfl rfl ?_
                        refine s_convert rfl rfl (CV3_5 _) ?_
                        obtain ⟨zb, hzb⟩ : ∃ zb, zb = IntKind.u8.wrap (z.fdiv (2 ^ (min (k : Int).toNat IntKind.i64.bits))) := ⟨_, rfl⟩
                        have hzbB : isB zb := by rw [hzb]; exact wrap_isB _
                        rw [← hzb]
                        refine D_qn ?_
                        refine D_e rfl ?_
                        refine s_buildSlice rfl rfl (BS27_1 _) hs ?_; clear hs; intro b49 w hs
                        refine D_en ?re ?_
                        case re =>
                          refine Reks_cons rfl rfl rfl rfl ?_ ?_
                          · skip
                            refine s_fieldAddr rfl rfl (FA56_3 _ _) ?_
                            exact Rek_end rfl
                          refine Reks_cons rfl rfl rfl rfl ?_ ?_
                          · skip
                            first
                              | refine s_load Try.isAgg27 rfl rfl (hs.cell (k := 0) rfl rfl) ?_
                              | refine s_load Try.isAgg27 rfl rfl (hs.cell (k := 1) rfl rfl) ?_
                            exact Rek_end rfl
                          exact Reks_nil
                        refine D_e rfl ?_
                        refine s_appendM (M := [_, _]) (X := Lv ++ LX) El27 rfl rfl rfl hOb hs (Sl_lit hs rfl) rfl (by simp [Value.oneCell']) (by simp only [List.length_cons, List.length_nil]; omega) ?_
                        clear hs; intro v' w Lb' hOb' hs
                        obtain ⟨_, cb', ab', rfl, hbvl'⟩ := hOb'.form
                        subst hbvl'
                        simp only [List.cons_append, List.nil_append] at hs
                        replace hs := hs.tail
                        refine D_en ?re ?_
                        case re =>
                          exact Reks_nil
                        refine D_q rfl rfl ?_
                        refine s_fieldAddr rfl rfl (FA56_3 _ _) ?_
                        refine D_qn ?_
                        refine D_e rfl ?_
                        first
                          | refine s_storeB Try.sizeOf27 rfl rfl rfl hs (kk := 0) rfl rfl ?_
                          | refine s_storeB Try.sizeOf27 rfl rfl rfl hs (kk := 1) rfl rfl ?_
                        clear hs; intro w hs; try simp only [List.set_cons_zero, List.set_cons_succ, splice, List.take_succ_cons, List.take_zero, List.drop_succ_cons, List.drop_zero, List.nil_append, List.cons_append, List.length_cons, List.length_nil, Nat.reduceAdd, List.append_assoc] at hs
                        refine D_en ?re ?_
                        case re =>
                          exact Reks_nil
                        refine D_nil ?_
                        refine n_blk ?_
                        refine n_then ?_
                        refine W_region ?_
                        refine s_move rfl rfl ?_
                        first | (refine s_add' rfl rfl rfl ?hx ?_; case hx => (constructor <;> first | omega | (simp only; omega))) | refine s_add rfl rfl rfl ?_
                        refine s_assign rfl rfl ?_
                        refine WL_nil ?_
                        refine n_loop ?_
                        refine ⟨⟨k + 1, _, bb ++ [zb], Lb'⟩, ⟨rfl, rfl, rfl, rfl, rfl, rfl, trivial⟩, ⟨hs, ?_, by simp [hbl], by simp only; omega, ?_⟩, by simp only; omega⟩
                        · simp only
                          rw [List.length_append, u8s, List.map_append]; exact hOb'
                        · intro y hy
                          rcases List.mem_append.1 hy with hy | hy
                          · exact hbB y hy
                          · rw [List.mem_singleton.1 hy]; exact hzbB
                      · skip
                        try simp only [decide_eq_true_eq, decide_eq_false_iff_not, gt_iff_lt, beq_iff_eq, beq_eq_false_iff_ne, ne_eq] at hc36
                        refine W_exit ?_
                        refine x_then ?_
                        refine x_then ?_
                        refine exit_hit ?_
                        refine n_blk ?_
                        refine n_loop ?_
                        first
                          | (refine ⟨⟨⟨0, nn % 3, 0, .slice ab bb.length cb, bb, .slice none 0 0, []⟩, Lb ++ LX⟩, ⟨rfl, rfl, rfl, rfl, trivial⟩, ?_, ⟨(hOb.rdS).mono' fun p hp => List.mem_append_left _ hp, RdS.nilA _, hbB, by simp only; omega, isI64_small hfb, isI64_small (by first | (simp only; done) | (simp only; omega) | omega)⟩, fun p hp => List.mem_append_right _ hp⟩
                             have h9 := St.reord [[_], Lb, Lv, LX] [0, 2, 1, 3] [] hs rfl
                             exact h9)
                          | exact ⟨⟨⟨_, _, _, .slice none 0 0, [], .slice none 0 0, []⟩, LX⟩, ⟨rfl, rfl, rfl, rfl, trivial⟩, hs, ⟨RdS.nilA _, RdS.nilA _, by simp, by simp, isI64_small hfb, isI64_small (by first | (simp only; done) | (simp only; omega) | omega)⟩, fun p hp => hp⟩
                          | (refine ⟨⟨⟨4, nn % 3, nn / 4 % 40 - 4, .slice none 0 0, [], .slice (some ⟨b90, 0, none⟩) (nn / 125 % 4).toNat 3, [nn % 5 - 1, nn / 5 % 5, nn / 25 % 5].take (nn / 125 % 4).toNat⟩, [(b90, Blk 3 [.int .i64 (nn % 5 - 1), .int .i64 (nn / 5 % 5), .int .i64 (nn / 25 % 5)])] ++ LX⟩, ⟨rfl, rfl, rfl, rfl, trivial⟩, ?_, ⟨RdS.nilA _, ?_, by simp, by simp, isI64_small hfb, isI64_small (by first | (simp only; done) | (simp only; omega) | omega)⟩, fun p hp => List.mem_append_right _ hp⟩
                             · have h9 := St.reord [[_], [_], Lv, LX] [1, 2, 0, 3] [] hs rfl
                               exact h9
                             · have hlen : ([nn % 5 - 1, nn / 5 % 5, nn / 25 % 5].take (nn / 125 % 4).toNat).length = (nn / 125 % 4).toNat := by rw [List.length_take]; simp; omega
                               simp only
                               rw [hlen]
                               refine RdS.lit (e := 3) (cs := [.int .i64 (nn % 5 - 1), .int .i64 (nn / 5 % 5), .int .i64 (nn / 25 % 5)]) (by simp) (by omega) fun j u hj => ?_
                               rw [i64s, List.map_take, List.getElem?_take] at hj
                               split at hj
                               · exact hj
                               · cases hj)
                          | (refine ⟨⟨⟨0, nn % 70 - 3, 0, .slice (some ⟨b105, 0, none⟩) 1 1, [1], .slice none 0 0, []⟩, [(b105, Blk 5 [.int .u8 1])] ++ LX⟩, ⟨rfl, rfl, rfl, rfl, trivial⟩, ?_, ⟨RdS.lit (e := 5) (cs := [.int .u8 1]) (by simp) (Nat.le_refl _) (fun j u hj => hj), RdS.nilA _, fun z hz => (show isB z from by rw [List.mem_singleton.1 hz]; exact ⟨by decide, by decide⟩), by simp, isI64_small (by first | (simp only; done) | (simp only; omega) | omega), isI64_small (by first | (simp only; done) | (simp only; omega) | omega)⟩, fun p hp => List.mem_append_right _ hp⟩
                             have h9 := St.reord [[_], [_], Lv, LX] [1, 2, 0, 3] [] hs rfl
                             exact h9)
                · skip
                  try simp only [decide_eq_true_eq, decide_eq_false_iff_not, gt_iff_lt, beq_iff_eq, beq_eq_false_iff_ne, ne_eq] at hc72
                  refine W_region ?_
                  refine s_eql rfl rfl rfl ?_
                  refine s_assign rfl rfl ?_
                  refine WL_nil ?_
                  refine n_then ?_
                  refine W_cond rfl (fun hc72 => ?_) (fun hc72 => ?_)
                  · skip
                    try simp only [decide_eq_true_eq, decide_eq_false_iff_not, gt_iff_lt, beq_iff_eq, beq_eq_false_iff_ne, ne_eq] at hc72
                    refine W_seq ?_
                    refine W_region ?_
                    refine s_fieldAddr rfl rfl (FA56_0 _ _) ?_
                    first
                      | refine s_storeB Try.sizeOf3 rfl rfl rfl hs (kk := 0) rfl rfl ?_
                      | refine s_storeB Try.sizeOf3 rfl rfl rfl hs (kk := 1) rfl rfl ?_
                    clear hs; intro w hs; try simp only [List.set_cons_zero, List.set_cons_succ, splice, List.take_succ_cons, List.take_zero, List.drop_succ_cons, List.drop_zero, List.nil_append, List.cons_append, List.length_cons, List.length_nil, Nat.reduceAdd, List.append_assoc] at hs
                    refine WL_nil ?_
                    refine n_then ?_
                    refine W_seq ?_
                    refine W_region ?_
                    refine s_move rfl rfl ?_
                    first | (refine s_quo' rfl rfl rfl ?hx ?_; case hx => (refine ⟨?_, ?_, ?_⟩ <;> omega)) | (refine s_quo rfl rfl rfl ?hx ?_; case hx => omega)
                    first | (refine s_rem' rfl rfl rfl ?hx ?_; case hx => (refine ⟨?_, ?_⟩ <;> omega)) | (refine s_rem rfl rfl rfl ?hx ?_; case hx => omega)
                    first | (refine s_sub' rfl rfl rfl ?hx ?_; case hx => (constructor <;> first | omega | (simp only; omega))) | refine s_sub rfl rfl rfl ?_
                    refine s_fieldAddr rfl rfl (FA56_2 _ _) ?_
                    first
                      | refine s_storeB Try.sizeOf3 rfl rfl rfl hs (kk := 0) rfl rfl ?_
                      | refine s_storeB Try.sizeOf3 rfl rfl rfl hs (kk := 1) rfl rfl ?_
                    clear hs; intro w hs; try simp only [List.set_cons_zero, List.set_cons_succ, splice, List.take_succ_cons, List.take_zero, List.drop_succ_cons, List.drop_zero, List.nil_append, List.cons_append, List.length_cons, List.length_nil, Nat.reduceAdd, List.append_assoc] at hs
                    refine WL_nil ?_
                    refine n_then ?_
                    refine W_seq ?_
                    refine W_region ?_
                    refine s_move rfl rfl ?_
                    first | (refine s_rem' rfl rfl rfl ?hx ?_; case hx => (refine ⟨?_, ?_⟩ <;> omega)) | (refine s_rem rfl rfl rfl ?hx ?_; case hx => omega)
                    first | (refine s_sub' rfl rfl rfl ?hx ?_; case hx => (constructor <;> first | omega | (simp only; omega))) | refine s_sub rfl rfl rfl ?_
                    refine s_move rfl rfl ?_
                    first | (refine s_quo' rfl rfl rfl ?hx ?_; case hx => (refine ⟨?_, ?_, ?_⟩ <;> omega)) | (refine s_quo rfl rfl rfl ?hx ?_; case hx => omega)
                    first | (refine s_rem' rfl rfl rfl ?hx ?_; case hx => (refine ⟨?_, ?_⟩ <;> omega)) | (refine s_rem rfl rfl rfl ?hx ?_; case hx => omega)
                    refine s_move rfl rfl ?_
                    first | (refine s_quo' rfl rfl rfl ?hx ?_; case hx => (refine ⟨?_, ?_, ?_⟩ <;> omega)) | (refine s_quo rfl rfl rfl ?hx ?_; case hx => omega)
                    first | (refine s_rem' rfl rfl rfl ?hx ?_; case hx => (refine ⟨?_, ?_⟩ <;> omega)) | (refine s_rem rfl rfl rfl ?hx ?_; case hx => omega)
                    refine s_buildSlice rfl rfl (BS33_3 _ _ _) hs ?_; clear hs; intro b90 w hs
                    refine s_fieldAddr rfl rfl (FA56_4 _ _) ?_
                    first
                      | refine s_storeB Try.sizeOf33 rfl rfl rfl hs (kk := 0) rfl rfl ?_
                      | refine s_storeB Try.sizeOf33 rfl rfl rfl hs (kk := 1) rfl rfl ?_
                    clear hs; intro w hs; try simp only [List.set_cons_zero, List.set_cons_succ, splice, List.take_succ_cons, List.take_zero, List.drop_succ_cons, List.drop_zero, List.nil_append, List.cons_append, List.length_cons, List.length_nil, Nat.reduceAdd, List.append_assoc] at hs
                    refine WL_nil ?_
                    refine n_then ?_
                    refine W_region ?_
                    refine s_fieldAddr rfl rfl (FA56_4 _ _) ?_
                    first
                      | refine s_load Try.isAgg33 rfl rfl (hs.cell (k := 0) rfl rfl) ?_
                      | refine s_load Try.isAgg33 rfl rfl (hs.cell (k := 1) rfl rfl) ?_
                    refine s_move rfl rfl ?_
                    first | (refine s_quo' rfl rfl rfl ?hx ?_; case hx => (refine ⟨?_, ?_, ?_⟩ <;> omega)) | (refine s_quo rfl rfl rfl ?hx ?_; case hx => omega)
                    first | (refine s_rem' rfl rfl rfl ?hx ?_; case hx => (refine ⟨?_, ?_⟩ <;> omega)) | (refine s_rem rfl rfl rfl ?hx ?_; case hx => omega)
                    (refine s_slice_hi El33 rfl rfl rfl ?hx ?_; case hx => (constructor <;> omega))
                    refine s_fieldAddr rfl rfl (FA56_4 _ _) ?_
                    first
                      | refine s_storeB Try.sizeOf33 rfl rfl rfl hs (kk := 0) rfl rfl ?_
                      | refine s_storeB Try.sizeOf33 rfl rfl rfl hs (kk := 1) rfl rfl ?_
                    clear hs; intro w hs; try simp only [List.set_cons_zero, List.set_cons_succ, splice, List.take_succ_cons, List.take_zero, List.drop_succ_cons, List.drop_zero, List.nil_append, List.cons_append, List.length_cons, List.length_nil, Nat.reduceAdd, List.append_assoc] at hs
                    refine WL_nil ?_
                    refine n_blk ?_
                    refine n_loop ?_
                    first
                      | (refine ⟨⟨⟨0, nn % 3, 0, .slice ab bb.length cb, bb, .slice none 0 0, []⟩, Lb ++ LX⟩, ⟨rfl, rfl, rfl, rfl, trivial⟩, ?_, ⟨(hOb.rdS).mono' fun p hp => List.mem_append_left _ hp, RdS.nilA _, hbB, by simp only; omega, isI64_small hfb, isI64_small (by first | (simp only; done) | (simp only; omega) | omega)⟩, fun p hp => List.mem_append_right _ hp⟩
                         have h9 := St.reord [[_], Lb, Lv, LX] [0, 2, 1, 3] [] hs rfl
                         exact h9)
                      | exact ⟨⟨⟨_, _, _, .slice none 0 0, [], .slice none 0 0, []⟩, LX⟩, ⟨rfl, rfl, rfl, rfl, trivial⟩, hs, ⟨RdS.nilA _, RdS.nilA _, by simp, by simp, isI64_small hfb, isI64_small (by first | (simp only; done) | (simp only; omega) | omega)⟩, fun p hp => hp⟩
                      | (refine ⟨⟨⟨4, nn % 3, nn / 4 % 40 - 4, .slice none 0 0, [], .slice (some ⟨b90, 0, none⟩) (nn / 125 % 4).toNat 3, [nn % 5 - 1, nn / 5 % 5, nn / 25 % 5].take (nn / 125 % 4).toNat⟩, [(b90, Blk 3 [.int .i64 (nn % 5 - 1), .int .i64 (nn / 5 % 5), .int .i64 (nn / 25 % 5)])] ++ LX⟩, ⟨rfl, rfl, rfl, rfl, trivial⟩, ?_, ⟨RdS.nilA _, ?_, by simp, by simp, isI64_small hfb, isI64_small (by first | (simp only; done) | (simp only; omega) | omega)⟩, fun p hp => List.mem_append_right _ hp⟩
                         · have h9 := St.reord [[_], [_], Lv, LX] [1, 2, 0, 3] [] hs rfl
                           exact h9
                         · have hlen : ([nn % 5 - 1, nn / 5 % 5, nn / 25 % 5].take (nn / 125 % 4).toNat).length = (nn / 125 % 4).toNat := by rw [List.length_take]; simp; omega
                           simp only
                           rw [hlen]
                           refine RdS.lit (e := 3) (cs := [.int .i64 (nn % 5 - 1), .int .i64 (nn / 5 % 5), .int .i64 (nn / 25 % 5)]) (by simp) (by omega) fun j u hj => ?_
                           rw [i64s, List.map_take, List.getElem?_take] at hj
                           split at hj
                           · exact hj
                           · cases hj)
                      | (refine ⟨⟨⟨0, nn % 70 - 3, 0, .slice (some ⟨b105, 0, none⟩) 1 1, [1], .slice none 0 0, []⟩, [(b105, Blk 5 [.int .u8 1])] ++ LX⟩, ⟨rfl, rfl, rfl, rfl, trivial⟩, ?_, ⟨RdS.lit (e := 5) (cs := [.int .u8 1]) (by simp) (Nat.le_refl _) (fun j u hj => hj), RdS.nilA _, fun z hz => (show isB z from by rw [List.mem_singleton.1 hz]; exact ⟨by decide, by decide⟩), by simp, isI64_small (by first | (simp only; done) | (simp only; omega) | omega), isI64_small (by first | (simp only; done) | (simp only; omega) | omega)⟩, fun p hp => List.mem_append_right _ hp⟩
                         have h9 := St.reord [[_], [_], Lv, LX] [1, 2, 0, 3] [] hs rfl
                         exact h9)
                  · skip
                    try simp only [decide_eq_true_eq, decide_eq_false_iff_not, gt_iff_lt, beq_iff_eq, beq_eq_false_iff_ne, ne_eq] at hc72
                    refine W_seq ?_
                    refine W_region ?_
                    refine s_eql rfl rfl rfl ?_
                    refine s_assign rfl rfl ?_
                    refine WL_nil ?_
                    refine n_then ?_
                    refine W_cond rfl (fun hc99 => ?_) (fun hc99 => ?_)
                    · skip
                      try simp only [decide_eq_true_eq, decide_eq_false_iff_not, gt_iff_lt, beq_iff_eq, beq_eq_false_iff_ne, ne_eq] at hc99
                      refine W_seq ?_
                      refine W_region ?_
                      refine s_move rfl rfl ?_
                      first | (refine s_rem' rfl rfl rfl ?hx ?_; case hx => (refine ⟨?_, ?_⟩ <;> omega)) | (refine s_rem rfl rfl rfl ?hx ?_; case hx => omega)
                      first | (refine s_sub' rfl rfl rfl ?hx ?_; case hx => (constructor <;> first | omega | (simp only; omega))) | refine s_sub rfl rfl rfl ?_
                      refine s_fieldAddr rfl rfl (FA56_1 _ _) ?_
                      first
                        | refine s_storeB Try.sizeOf3 rfl rfl rfl hs (kk := 0) rfl rfl ?_
                        | refine s_storeB Try.sizeOf3 rfl rfl rfl hs (kk := 1) rfl rfl ?_
                      clear hs; intro w hs; try simp only [List.set_cons_zero, List.set_cons_succ, splice, List.take_succ_cons, List.take_zero, List.drop_succ_cons, List.drop_zero, List.nil_append, List.cons_append, List.length_cons, List.length_nil, Nat.reduceAdd, List.append_assoc] at hs
                      refine WL_nil ?_
                      refine n_then ?_
                      refine W_region ?_
                      refine s_buildSlice rfl rfl (BS27_1 _) hs ?_; clear hs; intro b105 w hs
                      refine s_fieldAddr rfl rfl (FA56_3 _ _) ?_
                      first
                        | refine s_storeB Try.sizeOf27 rfl rfl rfl hs (kk := 0) rfl rfl ?_
                        | refine s_storeB Try.sizeOf27 rfl rfl rfl hs (kk := 1) rfl rfl ?_
                      clear hs; intro w hs; try simp only [List.set_cons_zero, List.set_cons_succ, splice, List.take_succ_cons, List.take_zero, List.drop_succ_cons, List.drop_zero, List.nil_append, List.cons_append, List.length_cons, List.length_nil, Nat.reduceAdd, List.append_assoc] at hs
                      refine WL_nil ?_
                      refine n_blk ?_
                      refine n_loop ?_
                      first
                        | (refine ⟨⟨⟨0, nn % 3, 0, .slice ab bb.length cb, bb, .slice none 0 0, []⟩, Lb ++ LX⟩, ⟨rfl, rfl, rfl, rfl, trivial⟩, ?_, ⟨(hOb.rdS).mono' fun p hp => List.mem_append_left _ hp, RdS.nilA _, hbB, by simp only; omega, isI64_small hfb, isI64_small (by first | (simp only; done) | (simp only; omega) | omega)⟩, fun p hp => List.mem_append_right _ hp⟩
                           have h9 := St.reord [[_], Lb, Lv, LX] [0, 2, 1, 3] [] hs rfl
                           exact h9)
                        | exact ⟨⟨⟨_, _, _, .slice none 0 0, [], .slice none 0 0, []⟩, LX⟩, ⟨rfl, rfl, rfl, rfl, trivial⟩, hs, ⟨RdS.nilA _, RdS.nilA _, by simp, by simp, isI64_small hfb, isI64_small (by first | (simp only; done) | (simp only; omega) | omega)⟩, fun p hp => hp⟩
                        | (refine ⟨⟨⟨4, nn % 3, nn / 4 % 40 - 4, .slice none 0 0, [], .slice (some ⟨b90, 0, none⟩) (nn / 125 % 4).toNat 3, [nn % 5 - 1, nn / 5 % 5, nn / 25 % 5].take (nn / 125 % 4).toNat⟩, [(b90, Blk 3 [.int .i64 (nn % 5 - 1), .int .i64 (nn / 5 % 5), .int .i64 (nn / 25 % 5)])] ++ LX⟩, ⟨rfl, rfl, rfl, rfl, trivial⟩, ?_, ⟨RdS.nilA _, ?_, by simp, by simp, isI64_small hfb, isI64_small (by first | (simp only; done) | (simp only; omega) | omega)⟩, fun p hp => List.mem_append_right _ hp⟩
                           · have h9 := St.reord [[_], [_], Lv, LX] [1, 2, 0, 3] [] hs rfl
                             exact h9
                           · have hlen : ([nn % 5 - 1, nn / 5 % 5, nn / 25 % 5].take (nn / 125 % 4).toNat).length = (nn / 125 % 4).toNat := by rw [List.length_take]; simp; omega
                             simp only
                             rw [hlen]
                             refine RdS.lit (e := 3) (cs := [.int .i64 (nn % 5 - 1), .int .i64 (nn / 5 % 5), .int .i64 (nn / 25 % 5)]) (by simp) (by omega) fun j u hj => ?_
                             rw [i64s, List.map_take, List.getElem?_take] at hj
                             split at hj
                             · exact hj
                             · cases hj)
                        | (refine ⟨⟨⟨0, nn % 70 - 3, 0, .slice (some ⟨b105, 0, none⟩) 1 1, [1], .slice none 0 0, []⟩, [(b105, Blk 5 [.int .u8 1])] ++ LX⟩, ⟨rfl, rfl, rfl, rfl, trivial⟩, ?_, ⟨RdS.lit (e := 5) (cs := [.int .u8 1]) (by simp) (Nat.le_refl _) (fun j u hj => hj), RdS.nilA _, fun z hz => (show isB z from by rw [List.mem_singleton.1 hz]; exact ⟨by decide, by decide⟩), by simp, isI64_small (by first | (simp only; done) | (simp only; omega) | omega), isI64_small (by first | (simp only; done) | (simp only; omega) | omega)⟩, fun p hp => List.mem_append_right _ hp⟩
                           have h9 := St.reord [[_], [_], Lv, LX] [1, 2, 0, 3] [] hs rfl
                           exact h9)
                    · skip
                      try simp only [decide_eq_true_eq, decide_eq_false_iff_not, gt_iff_lt, beq_iff_eq, beq_eq_false_iff_ne, ne_eq] at hc99
                      refine W_seq ?_
                      refine W_region ?_
                      refine s_assign rfl rfl ?_
                      refine WL_nil ?_
                      refine n_then ?_
                      refine W_block ?_
                      refine W_loop (σ := OgU) (fun s => [(0, .slice la ls.length lc), (3, .slice av os.length cv), (4, .int .i64 (i : Int)), (5, .int .i64 nn), (6, .pointer (some ⟨b6, 0, none⟩)), (7, .int .i64 (s.k : Int))]) (fun s w => St [] w0 w ((b6, Blk 56 [.int .i64 0, .int .i64 (nn % 3), .int .i64 0, s.v, .slice none 0 0]) :: (s.L ++ (Lv ++ LX))) ∧ OwnS 5 1 s.v s.b.length (u8s s.b) s.L ∧ s.b.length = s.k ∧ s.k ≤ 6 ∧ ∀ z ∈ s.b, isB z) (fun s => 6 - s.k) ⟨0, .slice none 0 0, [], []⟩ ⟨rfl, rfl, rfl, rfl, rfl, rfl, trivial⟩ ⟨hs, OwnS.nil _ _, rfl, Nat.zero_le _, by simp⟩ ?_
                      clear hs
                      rintro ⟨k, v2, bb, Lb⟩ w ⟨hs, hOb, hbl, hk6, hbB⟩
                      simp only at hs hOb hbl hk6 hbB ⊢
                      obtain ⟨_, cb, ab, rfl, hbvl⟩ := hOb.form
                      subst hbvl
                      refine W_seq ?_
                      refine W_seq ?_
                      refine W_region ?_
                      refine s_move rfl rfl ?_
                      refine s_move rfl rfl ?_
                      first | (refine s_quo' rfl rfl rfl ?hx ?_; case hx => (refine ⟨?_, ?_, ?_⟩ <;> omega)) | (refine s_quo rfl rfl rfl ?hx ?_; case hx => omega)
                      first | (refine s_rem' rfl rfl rfl ?hx ?_; case hx => (refine ⟨?_, ?_⟩ <;> omega)) | (refine s_rem rfl rfl rfl ?hx ?_; case hx => omega)
                      refine s_lss rfl rfl rfl ?_
                      refine WL_nil ?_
                      refine n_then ?_
                      refine W_cond rfl (fun hc36 => ?_) (fun hc36 => ?_)
                      · skip
                        try simp only [decide_eq_true_eq, decide_eq_false_iff_not, gt_iff_lt, beq_iff_eq, beq_eq_false_iff_ne, ne_eq] at hc36
                        refine W_skip ?_
                        refine n_then ?_
                        refine W_seq ?_
                        refine W_block ?_
                        refine W_draw [(0, true, []), (1, true, []), (2, true, []), (3, true, []), (4, true, []), (5, true, []), (6, true, []), (7, true, []), (8, true, []), (9, true, []), (10, false, [0, 1]), (11, false, []), (12, true, []), (13, false, [])] [[], [0], [], [], [2, 3], [2, 3, 4], [], [6], [2, 3, 4, 5, 6, 7], [2, 3, 4, 5, 6, 7, 8], [2, 3, 4, 5, 6, 7, 8, 9], [0, 1, 2, 3, 4, 5, 6, 7, 8, 9, 10], [0, 1, 2, 3, 4, 5, 6, 7, 8, 9, 10, 11], [0, 1, 2, 3, 4, 5, 6, 7, 8, 9, 10, 11, 12]] MX (by kernel_rfl) ?_
                        intro w1 hw1 hw2 hw3 hw4; replace hs := hs.redrawn hw1 hw2 hw3 hw4; clear hw1 hw2 hw3 hw4
                        obtain ⟨w, rfl⟩ : ∃ w : World, w = w1 := ⟨_, rfl⟩
                        refine D_q rfl rfl ?_
                        refine s_fieldAddr rfl rfl (FA56_3 _ _) ?_
                        refine D_qn ?_
                        refine D_q rfl rfl ?_
                        first
                          | refine s_load Try.isAgg27 rfl rfl (hs.cell (k := 0) rfl rfl) ?_
                          | refine s_load Try.isAgg27 rfl rfl (hs.cell (k := 1) rfl rfl) ?_
                        refine D_qn ?_
                        refine D_q rfl rfl ?_
                        refine s_move rfl rfl ?_
                        refine D_qn ?_
                        refine D_q rfl rfl ?_
                        refine s_move rfl rfl ?_
                        refine D_qn ?_
                        refine D_q rfl rfl ?_
                        obtain ⟨b1, o1, hA1, hc1⟩ := (hl.fwd0 hs.fwd).at (k := i) (u := .int .i64 z) (by rw [List.getElem?_map, hz]; rfl)
                        (refine s_indexAddrO El33 rfl rfl rfl hA1 ?hx ?_; case hx => (constructor <;> omega))
                        refine D_qn ?_
                        refine D_q rfl rfl ?_
                        refine s_load Try.isAgg3 rfl rfl (by rw [Int.toNat_natCast]; exact hc1) ?_
                        refine D_qn ?_
                        refine D_q rfl rfl ?_
                        refine s_move rfl rfl ?_
                        refine D_qn ?_
                        refine D_q rfl rfl ?_
                        refine s_convert rfl rfl (CV3_72 _) ?_
                        rw [show IntKind.u64.wrap (k : Int) = (k : Int) from u64w (by omega)]
                        refine D_qn ?_
                        refine D_q rfl rfl ?_
                        (refine s_shr rfl rfl rfl ?hx ?_; case hx => omega)
                        refine D_qn ?_
                        refine D_q rfl rfl ?_
                        refine s_convert rfl rfl (CV3_5 _) ?_
                        obtain ⟨zb, hzb⟩ : ∃ zb, zb = IntKind.u8.wrap (z.fdiv (2 ^ (min (k : Int).toNat IntKind.i64.bits))) := ⟨_, rfl⟩
                        have hzbB : isB zb := by rw [hzb]; exact wrap_isB _
                        rw [← hzb]
                        refine D_qn ?_
                        refine D_e rfl ?_
                        refine s_buildSlice rfl rfl (BS27_1 _) hs ?_; clear hs; intro b49 w hs
                        refine D_en ?re ?_
                        case re =>
                          refine Reks_cons rfl rfl rfl rfl ?_ ?_
                          · skip
                            refine s_fieldAddr rfl rfl (FA56_3 _ _) ?_
                            exact Rek_end rfl
                          refine Reks_cons rfl rfl rfl rfl ?_ ?_
                          · skip
                            first
                              | refine s_load Try.isAgg27 rfl rfl (hs.cell (k := 0) rfl rfl) ?_
                              | refine s_load Try.isAgg27 rfl rfl (hs.cell (k := 1) rfl rfl) ?_
                            exact Rek_end rfl
                          exact Reks_nil
                        refine D_e rfl ?_
                        refine s_appendM (M := [_, _]) (X := Lv ++ LX) El27 rfl rfl rfl hOb hs (Sl_lit hs rfl) rfl (by simp [Value.oneCell']) (by simp only [List.length_cons, List.length_nil]; omega) ?_
                        clear hs; intro v' w Lb' hOb' hs
                        obtain ⟨_, cb', ab', rfl, hbvl'⟩ := hOb'.form
                        subst hbvl'
                        simp only [List.cons_append, List.nil_append] at hs
                        replace hs := hs.tail
                        refine D_en ?re ?_
                        case re =>
                          exact Reks_nil
                        refine D_q rfl rfl ?_
                        refine s_fieldAddr rfl rfl (FA56_3 _ _) ?_
                        refine D_qn ?_
                        refine D_e rfl ?_
                        first
                          | refine s_storeB Try.sizeOf27 rfl rfl rfl hs (kk := 0) rfl rfl ?_
                          | refine s_storeB Try.sizeOf27 rfl rfl rfl hs (kk := 1) rfl rfl ?_
                        clear hs; intro w hs; try simp only [List.set_cons_zero, List.set_cons_succ, splice, List.take_succ_cons, List.take_zero, List.drop_succ_cons, List.drop_zero, List.nil_append, List.cons_append, List.length_cons, List.length_nil, Nat.reduceAdd, List.append_assoc] at hs
                        refine D_en ?re ?_
                        case re =>
                          exact Reks_nil
                        refine D_nil ?_
                        refine n_blk ?_
                        refine n_then ?_
                        refine W_region ?_
                        refine s_move rfl rfl ?_
                        first | (refine s_add' rfl rfl rfl ?hx ?_; case hx => (constructor <;> first | omega | (simp only; omega))) | refine s_add rfl rfl rfl ?_
                        refine s_assign rfl rfl ?_
                        refine WL_nil ?_
                        refine n_loop ?_
                        refine ⟨⟨k + 1, _, bb ++ [zb], Lb'⟩, ⟨rfl, rfl, rfl, rfl, rfl, rfl, trivial⟩, ⟨hs, ?_, by simp [hbl], by simp only; omega, ?_⟩, by simp only; omega⟩
                        · simp only
                          rw [List.length_append, u8s, List.map_append]; exact hOb'
                        · intro y hy
                          rcases List.mem_append.1 hy with hy | hy
                          · exact hbB y hy
                          · rw [List.mem_singleton.1 hy]; exact hzbB
                      · skip
                        try simp only [decide_eq_true_eq, decide_eq_false_iff_not, gt_iff_lt, beq_iff_eq, beq_eq_false_iff_ne, ne_eq] at hc36
                        refine W_exit ?_
                        refine x_then ?_
                        refine x_then ?_
                        refine exit_hit ?_
                        refine n_blk ?_
                        refine n_loop ?_
                        first
                          | (refine ⟨⟨⟨0, nn % 3, 0, .slice ab bb.length cb, bb, .slice none 0 0, []⟩, Lb ++ LX⟩, ⟨rfl, rfl, rfl, rfl, trivial⟩, ?_, ⟨(hOb.rdS).mono' fun p hp => List.mem_append_left _ hp, RdS.nilA _, hbB, by simp only; omega, isI64_small hfb, isI64_small (by first | (simp only; done) | (simp only; omega) | omega)⟩, fun p hp => List.mem_append_right _ hp⟩
                             have h9 := St.reord [[_], Lb, Lv, LX] [0, 2, 1, 3] [] hs rfl
                             exact h9)
                          | exact ⟨⟨⟨_, _, _, .slice none 0 0, [], .slice none 0 0, []⟩, LX⟩, ⟨rfl, rfl, rfl, rfl, trivial⟩, hs, ⟨RdS.nilA _, RdS.nilA _, by simp, by simp, isI64_small hfb, isI64_small (by first | (simp only; done) | (simp only; omega) | omega)⟩, fun p hp => hp⟩
                          | (refine ⟨⟨⟨4, nn % 3, nn / 4 % 40 - 4, .slice none 0 0, [], .slice (some ⟨b90, 0, none⟩) (nn / 125 % 4).toNat 3, [nn % 5 - 1, nn / 5 % 5, nn / 25 % 5].take (nn / 125 % 4).toNat⟩, [(b90, Blk 3 [.int .i64 (nn % 5 - 1), .int .i64 (nn / 5 % 5), .int .i64 (nn / 25 % 5)])] ++ LX⟩, ⟨rfl, rfl, rfl, rfl, trivial⟩, ?_, ⟨RdS.nilA _, ?_, by simp, by simp, isI64_small hfb, isI64_small (by first | (simp only; done) | (simp only; omega) | omega)⟩, fun p hp => List.mem_append_right _ hp⟩
                             · have h9 := St.reord [[_], [_], Lv, LX] [1, 2, 0, 3] [] hs rfl
                               exact h9
                             · have hlen : ([nn % 5 - 1, nn / 5 % 5, nn / 25 % 5].take (nn / 125 % 4).toNat).length = (nn / 125 % 4).toNat := by rw [List.length_take]; simp; omega
                               simp only
                               rw [hlen]
                               refine RdS.lit (e := 3) (cs := [.int .i64 (nn % 5 - 1), .int .i64 (nn / 5 % 5), .int .i64 (nn / 25 % 5)]) (by simp) (by omega) fun j u hj => ?_
                               rw [i64s, List.map_take, List.getElem?_take] at hj
                               split at hj
                               · exact hj
                               · cases hj)
                          | (refine ⟨⟨⟨0, nn % 70 - 3, 0, .slice (some ⟨b105, 0, none⟩) 1 1, [1], .slice none 0 0, []⟩, [(b105, Blk 5 [.int .u8 1])] ++ LX⟩, ⟨rfl, rfl, rfl, rfl, trivial⟩, ?_, ⟨RdS.lit (e := 5) (cs := [.int .u8 1]) (by simp) (Nat.le_refl _) (fun j u hj => hj), RdS.nilA _, fun z hz => (show isB z from by rw [List.mem_singleton.1 hz]; exact ⟨by decide, by decide⟩), by simp, isI64_small (by first | (simp only; done) | (simp only; omega) | omega), isI64_small (by first | (simp only; done) | (simp only; omega) | omega)⟩, fun p hp => List.mem_append_right _ hp⟩
                             have h9 := St.reord [[_], [_], Lv, LX] [1, 2, 0, 3] [] hs rfl
                             exact h9)
        · skip
          try simp only [decide_eq_true_eq, decide_eq_false_iff_not, gt_iff_lt, beq_iff_eq, beq_eq_false_iff_ne, ne_eq] at hc52
          refine W_region ?_
          refine s_eql rfl rfl rfl ?_
          refine s_assign rfl rfl ?_
          refine WL_nil ?_
          refine n_then ?_
          refine W_cond rfl (fun hc52 => ?_) (fun hc52 => ?_)
          · skip
            try simp only [decide_eq_true_eq, decide_eq_false_iff_not, gt_iff_lt, beq_iff_eq, beq_eq_false_iff_ne, ne_eq] at hc52
            refine W_region ?_
            refine s_fieldAddr rfl rfl (FA56_0 _ _) ?_
            first
              | refine s_storeB Try.sizeOf3 rfl rfl rfl hs (kk := 0) rfl rfl ?_
              | refine s_storeB Try.sizeOf3 rfl rfl rfl hs (kk := 1) rfl rfl ?_
            clear hs; intro w hs; try simp only [List.set_cons_zero, List.set_cons_succ, splice, List.take_succ_cons, List.take_zero, List.drop_succ_cons, List.drop_zero, List.nil_append, List.cons_append, List.length_cons, List.length_nil, Nat.reduceAdd, List.append_assoc] at hs
            refine WL_nil ?_
            refine n_blk ?_
            refine n_loop ?_
            first
              | (refine ⟨⟨⟨0, nn % 3, 0, .slice ab bb.length cb, bb, .slice none 0 0, []⟩, Lb ++ LX⟩, ⟨rfl, rfl, rfl, rfl, trivial⟩, ?_, ⟨(hOb.rdS).mono' fun p hp => List.mem_append_left _ hp, RdS.nilA _, hbB, by simp only; omega, isI64_small hfb, isI64_small (by first | (simp only; done) | (simp only; omega) | omega)⟩, fun p hp => List.mem_append_right _ hp⟩
                 have h9 := St.reord [[_], Lb, Lv, LX] [0, 2, 1, 3] [] hs rfl
                 exact h9)
              | exact ⟨⟨⟨_, _, _, .slice none 0 0, [], .slice none 0 0, []⟩, LX⟩, ⟨rfl, rfl, rfl, rfl, trivial⟩, hs, ⟨RdS.nilA _, RdS.nilA _, by simp, by simp, isI64_small hfb, isI64_small (by first | (simp only; done) | (simp only; omega) | omega)⟩, fun p hp => hp⟩
              | (refine ⟨⟨⟨4, nn % 3, nn / 4 % 40 - 4, .slice none 0 0, [], .slice (some ⟨b90, 0, none⟩) (nn / 125 % 4).toNat 3, [nn % 5 - 1, nn / 5 % 5, nn / 25 % 5].take (nn / 125 % 4).toNat⟩, [(b90, Blk 3 [.int .i64 (nn % 5 - 1), .int .i64 (nn / 5 % 5), .int .i64 (nn / 25 % 5)])] ++ LX⟩, ⟨rfl, rfl, rfl, rfl, trivial⟩, ?_, ⟨RdS.nilA _, ?_, by simp, by simp, isI64_small hfb, isI64_small (by first | (simp only; done) | (simp only; omega) | omega)⟩, fun p hp => List.mem_append_right _ hp⟩
                 · have h9 := St.reord [[_], [_], Lv, LX] [1, 2, 0, 3] [] hs rfl
                   exact h9
                 · have hlen : ([nn % 5 - 1, nn / 5 % 5, nn / 25 % 5].take (nn / 125 % 4).toNat).length = (nn / 125 % 4).toNat := by rw [List.length_take]; simp; omega
                   simp only
                   rw [hlen]
                   refine RdS.lit (e := 3) (cs := [.int .i64 (nn % 5 - 1), .int .i64 (nn / 5 % 5), .int .i64 (nn / 25 % 5)]) (by simp) (by omega) fun j u hj => ?_
                   rw [i64s, List.map_take, List.getElem?_take] at hj
                   split at hj
                   · exact hj
                   · cases hj)
              | (refine ⟨⟨⟨0, nn % 70 - 3, 0, .slice (some ⟨b105, 0, none⟩) 1 1, [1], .slice none 0 0, []⟩, [(b105, Blk 5 [.int .u8 1])] ++ LX⟩, ⟨rfl, rfl, rfl, rfl, trivial⟩, ?_, ⟨RdS.lit (e := 5) (cs := [.int .u8 1]) (by simp) (Nat.le_refl _) (fun j u hj => hj), RdS.nilA _, fun z hz => (show isB z from by rw [List.mem_singleton.1 hz]; exact ⟨by decide, by decide⟩), by simp, isI64_small (by first | (simp only; done) | (simp only; omega) | omega), isI64_small (by first | (simp only; done) | (simp only; omega) | omega)⟩, fun p hp => List.mem_append_right _ hp⟩
                 have h9 := St.reord [[_], [_], Lv, LX] [1, 2, 0, 3] [] hs rfl
                 exact h9)
          · skip
            try simp only [decide_eq_true_eq, decide_eq_false_iff_not, gt_iff_lt, beq_iff_eq, beq_eq_false_iff_ne, ne_eq] at hc52
            refine W_seq ?_
            refine W_region ?_
            refine s_eql rfl rfl rfl ?_
            refine s_assign rfl rfl ?_
            refine WL_nil ?_
            refine n_then ?_
            refine W_cond rfl (fun hc56 => ?_) (fun hc56 => ?_)
            · skip
              try simp only [decide_eq_true_eq, decide_eq_false_iff_not, gt_iff_lt, beq_iff_eq, beq_eq_false_iff_ne, ne_eq] at hc56
              refine W_seq ?_
              refine W_region ?_
              refine s_fieldAddr rfl rfl (FA56_0 _ _) ?_
              first
                | refine s_storeB Try.sizeOf3 rfl rfl rfl hs (kk := 0) rfl rfl ?_
                | refine s_storeB Try.sizeOf3 rfl rfl rfl hs (kk := 1) rfl rfl ?_
              clear hs; intro w hs; try simp only [List.set_cons_zero, List.set_cons_succ, splice, List.take_succ_cons, List.take_zero, List.drop_succ_cons, List.drop_zero, List.nil_append, List.cons_append, List.length_cons, List.length_nil, Nat.reduceAdd, List.append_assoc] at hs
              refine WL_nil ?_
              refine n_then ?_
              refine W_region ?_
              refine s_move rfl rfl ?_
              first | (refine s_quo' rfl rfl rfl ?hx ?_; case hx => (refine ⟨?_, ?_, ?_⟩ <;> omega)) | (refine s_quo rfl rfl rfl ?hx ?_; case hx => omega)
              first | (refine s_rem' rfl rfl rfl ?hx ?_; case hx => (refine ⟨?_, ?_⟩ <;> omega)) | (refine s_rem rfl rfl rfl ?hx ?_; case hx => omega)
              first | (refine s_sub' rfl rfl rfl ?hx ?_; case hx => (constructor <;> first | omega | (simp only; omega))) | refine s_sub rfl rfl rfl ?_
              refine s_fieldAddr rfl rfl (FA56_2 _ _) ?_
              first
                | refine s_storeB Try.sizeOf3 rfl rfl rfl hs (kk := 0) rfl rfl ?_
                | refine s_storeB Try.sizeOf3 rfl rfl rfl hs (kk := 1) rfl rfl ?_
              clear hs; intro w hs; try simp only [List.set_cons_zero, List.set_cons_succ, splice, List.take_succ_cons, List.take_zero, List.drop_succ_cons, List.drop_zero, List.nil_append, List.cons_append, List.length_cons, List.length_nil, Nat.reduceAdd, List.append_assoc] at hs
              refine WL_nil ?_
              refine n_blk ?_
              refine n_loop ?_
              first
                | (refine ⟨⟨⟨0, nn % 3, 0, .slice ab bb.length cb, bb, .slice none 0 0, []⟩, Lb ++ LX⟩, ⟨rfl, rfl, rfl, rfl, trivial⟩, ?_, ⟨(hOb.rdS).mono' fun p hp => List.mem_append_left _ hp, RdS.nilA _, hbB, by simp only; omega, isI64_small hfb, isI64_small (by first | (simp only; done) | (simp only; omega) | omega)⟩, fun p hp => List.mem_append_right _ hp⟩
                   have h9 := St.reord [[_], Lb, Lv, LX] [0, 2, 1, 3] [] hs rfl
                   exact h9)
                | exact ⟨⟨⟨_, _, _, .slice none 0 0, [], .slice none 0 0, []⟩, LX⟩, ⟨rfl, rfl, rfl, rfl, trivial⟩, hs, ⟨RdS.nilA _, RdS.nilA _, by simp, by simp, isI64_small hfb, isI64_small (by first | (simp only; done) | (simp only; omega) | omega)⟩, fun p hp => hp⟩
                | (refine ⟨⟨⟨4, nn % 3, nn / 4 % 40 - 4, .slice none 0 0, [], .slice (some ⟨b90, 0, none⟩) (nn / 125 % 4).toNat 3, [nn % 5 - 1, nn / 5 % 5, nn / 25 % 5].take (nn / 125 % 4).toNat⟩, [(b90, Blk 3 [.int .i64 (nn % 5 - 1), .int .i64 (nn / 5 % 5), .int .i64 (nn / 25 % 5)])] ++ LX⟩, ⟨rfl, rfl, rfl, rfl, trivial⟩, ?_, ⟨RdS.nilA _, ?_, by simp, by simp, isI64_small hfb, isI64_small (by first | (simp only; done) | (simp only; omega) | omega)⟩, fun p hp => List.mem_append_right _ hp⟩
                   · have h9 := St.reord [[_], [_], Lv, LX] [1, 2, 0, 3] [] hs rfl
                     exact h9
                   · have hlen : ([nn % 5 - 1, nn / 5 % 5, nn / 25 % 5].take (nn / 125 % 4).toNat).length = (nn / 125 % 4).toNat := by rw [List.length_take]; simp; omega
                     simp only
                     rw [hlen]
                     refine RdS.lit (e := 3) (cs := [.int .i64 (nn % 5 - 1), .int .i64 (nn / 5 % 5), .int .i64 (nn / 25 % 5)]) (by simp) (by omega) fun j u hj => ?_
                     rw [i64s, List.map_take, List.getElem?_take] at hj
                     split at hj
                     · exact hj
                     · cases hj)
                | (refine ⟨⟨⟨0, nn % 70 - 3, 0, .slice (some ⟨b105, 0, none⟩) 1 1, [1], .slice none 0 0, []⟩, [(b105, Blk 5 [.int .u8 1])] ++ LX⟩, ⟨rfl, rfl, rfl, rfl, trivial⟩, ?_, ⟨RdS.lit (e := 5) (cs := [.int .u8 1]) (by simp) (Nat.le_refl _) (fun j u hj => hj), RdS.nilA _, fun z hz => (show isB z from by rw [List.mem_singleton.1 hz]; exact ⟨by decide, by decide⟩), by simp, isI64_small (by first | (simp only; done) | (simp only; omega) | omega), isI64_small (by first | (simp only; done) | (simp only; omega) | omega)⟩, fun p hp => List.mem_append_right _ hp⟩
                   have h9 := St.reord [[_], [_], Lv, LX] [1, 2, 0, 3] [] hs rfl
                   exact h9)
            · skip
              try simp only [decide_eq_true_eq, decide_eq_false_iff_not, gt_iff_lt, beq_iff_eq, beq_eq_false_iff_ne, ne_eq] at hc56
              refine W_seq ?_
              refine W_region ?_
              refine s_eql rfl rfl rfl ?_
              refine s_assign rfl rfl ?_
              refine WL_nil ?_
              refine n_then ?_
              refine W_cond rfl (fun hc64 => ?_) (fun hc64 => ?_)
              · skip
                try simp only [decide_eq_true_eq, decide_eq_false_iff_not, gt_iff_lt, beq_iff_eq, beq_eq_false_iff_ne, ne_eq] at hc64
                refine W_seq ?_
                refine W_region ?_
                refine s_fieldAddr rfl rfl (FA56_0 _ _) ?_
                first
                  | refine s_storeB Try.sizeOf3 rfl rfl rfl hs (kk := 0) rfl rfl ?_
                  | refine s_storeB Try.sizeOf3 rfl rfl rfl hs (kk := 1) rfl rfl ?_
                clear hs; intro w hs; try simp only [List.set_cons_zero, List.set_cons_succ, splice, List.take_succ_cons, List.take_zero, List.drop_succ_cons, List.drop_zero, List.nil_append, List.cons_append, List.length_cons, List.length_nil, Nat.reduceAdd, List.append_assoc] at hs
                refine WL_nil ?_
                refine n_then ?_
                refine W_region ?_
                refine s_move rfl rfl ?_
                first | (refine s_quo' rfl rfl rfl ?hx ?_; case hx => (refine ⟨?_, ?_, ?_⟩ <;> omega)) | (refine s_quo rfl rfl rfl ?hx ?_; case hx => omega)
                first | (refine s_rem' rfl rfl rfl ?hx ?_; case hx => (refine ⟨?_, ?_⟩ <;> omega)) | (refine s_rem rfl rfl rfl ?hx ?_; case hx => omega)
                first | (refine s_sub' rfl rfl rfl ?hx ?_; case hx => (constructor <;> first | omega | (simp only; omega))) | refine s_sub rfl rfl rfl ?_
                refine s_fieldAddr rfl rfl (FA56_2 _ _) ?_
                first
                  | refine s_storeB Try.sizeOf3 rfl rfl rfl hs (kk := 0) rfl rfl ?_
                  | refine s_storeB Try.sizeOf3 rfl rfl rfl hs (kk := 1) rfl rfl ?_
                clear hs; intro w hs; try simp only [List.set_cons_zero, List.set_cons_succ, splice, List.take_succ_cons, List.take_zero, List.drop_succ_cons, List.drop_zero, List.nil_append, List.cons_append, List.length_cons, List.length_nil, Nat.reduceAdd, List.append_assoc] at hs
                refine WL_nil ?_
                refine n_blk ?_
                refine n_loop ?_
                first
                  | (refine ⟨⟨⟨0, nn % 3, 0, .slice ab bb.length cb, bb, .slice none 0 0, []⟩, Lb ++ LX⟩, ⟨rfl, rfl, rfl, rfl, trivial⟩, ?_, ⟨(hOb.rdS).mono' fun p hp => List.mem_append_left _ hp, RdS.nilA _, hbB, by simp only; omega, isI64_small hfb, isI64_small (by first | (simp only; done) | (simp only; omega) | omega)⟩, fun p hp => List.mem_append_right _ hp⟩
                     have h9 := St.reord [[_], Lb, Lv, LX] [0, 2, 1, 3] [] hs rfl
                     exact h9)
                  | exact ⟨⟨⟨_, _, _, .slice none 0 0, [], .slice none 0 0, []⟩, LX⟩, ⟨rfl, rfl, rfl, rfl, trivial⟩, hs, ⟨RdS.nilA _, RdS.nilA _, by simp, by simp, isI64_small hfb, isI64_small (by first | (simp only; done) | (simp only; omega) | omega)⟩, fun p hp => hp⟩
                  | (refine ⟨⟨⟨4, nn % 3, nn / 4 % 40 - 4, .slice none 0 0, [], .slice (some ⟨b90, 0, none⟩) (nn / 125 % 4).toNat 3, [nn % 5 - 1, nn / 5 % 5, nn / 25 % 5].take (nn / 125 % 4).toNat⟩, [(b90, Blk 3 [.int .i64 (nn % 5 - 1), .int .i64 (nn / 5 % 5), .int .i64 (nn / 25 % 5)])] ++ LX⟩, ⟨rfl, rfl, rfl, rfl, trivial⟩, ?_, ⟨RdS.nilA _, ?_, by simp, by simp, isI64_small hfb, isI64_small (by first | (simp only; done) | (simp only; omega) | omega)⟩, fun p hp => List.mem_append_right _ hp⟩
                     · have h9 := St.reord [[_], [_], Lv, LX] [1, 2, 0, 3] [] hs rfl
                       exact h9
                     · have hlen : ([nn % 5 - 1, nn / 5 % 5, nn / 25 % 5].take (nn / 125 % 4).toNat).length = (nn / 125 % 4).toNat := by rw [List.length_take]; simp; omega
                       simp only
                       rw [hlen]
                       refine RdS.lit (e := 3) (cs := [.int .i64 (nn % 5 - 1), .int .i64 (nn / 5 % 5), .int .i64 (nn / 25 % 5)]) (by simp) (by omega) fun j u hj => ?_
                       rw [i64s, List.map_take, List.getElem?_take] at hj
                       split at hj
                       · exact hj
                       · cases hj)
                  | (refine ⟨⟨⟨0, nn % 70 - 3, 0, .slice (some ⟨b105, 0, none⟩) 1 1, [1], .slice none 0 0, []⟩, [(b105, Blk 5 [.int .u8 1])] ++ LX⟩, ⟨rfl, rfl, rfl, rfl, trivial⟩, ?_, ⟨RdS.lit (e := 5) (cs := [.int .u8 1]) (by simp) (Nat.le_refl _) (fun j u hj => hj), RdS.nilA _, fun z hz => (show isB z from by rw [List.mem_singleton.1 hz]; exact ⟨by decide, by decide⟩), by simp, isI64_small (by first | (simp only; done) | (simp only; omega) | omega), isI64_small (by first | (simp only; done) | (simp only; omega) | omega)⟩, fun p hp => List.mem_append_right _ hp⟩
                     have h9 := St.reord [[_], [_], Lv, LX] [1, 2, 0, 3] [] hs rfl
                     exact h9)
              · skip
                try simp only [decide_eq_true_eq, decide_eq_false_iff_not, gt_iff_lt, beq_iff_eq, beq_eq_false_iff_ne, ne_eq] at hc64
                refine W_seq ?_
                refine W_seq ?_
                refine W_region ?_
                refine s_eql rfl rfl rfl ?_
                refine s_assign rfl rfl ?_
                refine WL_nil ?_
                refine n_then ?_
                refine W_cond rfl (fun hc72 => ?_) (fun hc72 => ?_)
                · skip
                  try simp only [decide_eq_true_eq, decide_eq_false_iff_not, gt_iff_lt, beq_iff_eq, beq_eq_false_iff_ne, ne_eq] at hc72
                  refine W_skip ?_
                  refine n_then ?_
                  refine W_cond rfl (fun hc72 => ?_) (fun hc72 => ?_)
                  · skip
                    try simp only [decide_eq_true_eq, decide_eq_false_iff_not, gt_iff_lt, beq_iff_eq, beq_eq_false_iff_ne, ne_eq] at hc72
                    refine W_seq ?_
                    refine W_region ?_
                    refine s_fieldAddr rfl rfl (FA56_0 _ _) ?_
                    first
                      | refine s_storeB Try.sizeOf3 rfl rfl rfl hs (kk := 0) rfl rfl ?_
                      | refine s_storeB Try.sizeOf3 rfl rfl rfl hs (kk := 1) rfl rfl ?_
                    clear hs; intro w hs; try simp only [List.set_cons_zero, List.set_cons_succ, splice, List.take_succ_cons, List.take_zero, List.drop_succ_cons, List.drop_zero, List.nil_append, List.cons_append, List.length_cons, List.length_nil, Nat.reduceAdd, List.append_assoc] at hs
                    refine WL_nil ?_
                    refine n_then ?_
                    refine W_seq ?_
                    refine W_region ?_
                    refine s_move rfl rfl ?_
                    first | (refine s_quo' rfl rfl rfl ?hx ?_; case hx => (refine ⟨?_, ?_, ?_⟩ <;> omega)) | (refine s_quo rfl rfl rfl ?hx ?_; case hx => omega)
                    first | (refine s_rem' rfl rfl rfl ?hx ?_; case hx => (refine ⟨?_, ?_⟩ <;> omega)) | (refine s_rem rfl rfl rfl ?hx ?_; case hx => omega)
                    first | (refine s_sub' rfl rfl rfl ?hx ?_; case hx => (constructor <;> first | omega | (simp only; omega))) | refine s_sub rfl rfl rfl ?_
                    refine s_fieldAddr rfl rfl (FA56_2 _ _) ?_
                    first
                      | refine s_storeB Try.sizeOf3 rfl rfl rfl hs (kk := 0) rfl rfl ?_
                      | refine s_storeB Try.sizeOf3 rfl rfl rfl hs (kk := 1) rfl rfl ?_
                    clear hs; intro w hs; try simp only [List.set_cons_zero, List.set_cons_succ, splice, List.take_succ_cons, List.take_zero, List.drop_succ_cons, List.drop_zero, List.nil_append, List.cons_append, List.length_cons, List.length_nil, Nat.reduceAdd, List.append_assoc] at hs
                    refine WL_nil ?_
                    refine n_then ?_
                    refine W_seq ?_
                    refine W_region ?_
                    refine s_move rfl rfl ?_
                    first | (refine s_rem' rfl rfl rfl ?hx ?_; case hx => (refine ⟨?_, ?_⟩ <;> omega)) | (refine s_rem rfl rfl rfl ?hx ?_; case hx => omega)
                    first | (refine s_sub' rfl rfl rfl ?hx ?_; case hx => (constructor <;> first | omega | (simp only; omega))) | refine s_sub rfl rfl rfl ?_
                    refine s_move rfl rfl ?_
                    first | (refine s_quo' rfl rfl rfl ?hx ?_; case hx => (refine ⟨?_, ?_, ?_⟩ <;> omega)) | (refine s_quo rfl rfl rfl ?hx ?_; case hx => omega)
                    first | (refine s_rem' rfl rfl rfl ?hx ?_; case hx => (refine ⟨?_, ?_⟩ <;> omega)) | (refine s_rem rfl rfl rfl ?hx ?_; case hx => omega)
                    refine s_move rfl rfl ?_
                    first | (refine s_quo' rfl rfl rfl ?hx ?_; case hx => (refine ⟨?_, ?_, ?_⟩ <;> omega)) | (refine s_quo rfl rfl rfl ?hx ?_; case hx => omega)
                    first | (refine s_rem' rfl rfl rfl ?hx ?_; case hx => (refine ⟨?_, ?_⟩ <;> omega)) | (refine s_rem rfl rfl rfl ?hx ?_; case hx => omega)
                    refine s_buildSlice rfl rfl (BS33_3 _ _ _) hs ?_; clear hs; intro b90 w hs
                    refine s_fieldAddr rfl rfl (FA56_4 _ _) ?_
                    first
                      | refine s_storeB Try.sizeOf33 rfl rfl rfl hs (kk := 0) rfl rfl ?_
                      | refine s_storeB Try.sizeOf33 rfl rfl rfl hs (kk := 1) rfl rfl ?_
                    clear hs; intro w hs; try simp only [List.set_cons_zero, List.set_cons_succ, splice, List.take_succ_cons, List.take_zero, List.drop_succ_cons, List.drop_zero, List.nil_append, List.cons_append, List.length_cons, List.length_nil, Nat.reduceAdd, List.append_assoc] at hs
                    refine WL_nil ?_
                    refine n_then ?_
                    refine W_region ?_
                    refine s_fieldAddr rfl rfl (FA56_4 _ _) ?_
                    first
                      | refine s_load Try.isAgg33 rfl rfl (hs.cell (k := 0) rfl rfl) ?_
                      | refine s_load Try.isAgg33 rfl rfl (hs.cell (k := 1) rfl rfl) ?_
                    refine s_move rfl rfl ?_
                    first | (refine s_quo' rfl rfl rfl ?hx ?_; case hx => (refine ⟨?_, ?_, ?_⟩ <;> omega)) | (refine s_quo rfl rfl rfl ?hx ?_; case hx => omega)
                    first | (refine s_rem' rfl rfl rfl ?hx ?_; case hx => (refine ⟨?_, ?_⟩ <;> omega)) | (refine s_rem rfl rfl rfl ?hx ?_; case hx => omega)
                    (refine s_slice_hi El33 rfl rfl rfl ?hx ?_; case hx => (constructor <;> omega))
                    refine s_fieldAddr rfl rfl (FA56_4 _ _) ?_
                    first
                      | refine s_storeB Try.sizeOf33 rfl rfl rfl hs (kk := 0) rfl rfl ?_
                      | refine s_storeB Try.sizeOf33 rfl rfl rfl hs (kk := 1) rfl rfl ?_
                    clear hs; intro w hs; try simp only [List.set_cons_zero, List.set_cons_succ, splice, List.take_succ_cons, List.take_zero, List.drop_succ_cons, List.drop_zero, List.nil_append, List.cons_append, List.length_cons, List.length_nil, Nat.reduceAdd, List.append_assoc] at hs
                    refine WL_nil ?_
                    refine n_blk ?_
                    refine n_loop ?_
                    first
                      | (refine ⟨⟨⟨0, nn % 3, 0, .slice ab bb.length cb, bb, .slice none 0 0, []⟩, Lb ++ LX⟩, ⟨rfl, rfl, rfl, rfl, trivial⟩, ?_, ⟨(hOb.rdS).mono' fun p hp => List.mem_append_left _ hp, RdS.nilA _, hbB, by simp only; omega, isI64_small hfb, isI64_small (by first | (simp only; done) | (simp only; omega) | omega)⟩, fun p hp => List.mem_append_right _ hp⟩
                         have h9 := St.reord [[_], Lb, Lv, LX] [0, 2, 1, 3] [] hs rfl
                         exact h9)
                      | exact ⟨⟨⟨_, _, _, .slice none 0 0, [], .slice none 0 0, []⟩, LX⟩, ⟨rfl, rfl, rfl, rfl, trivial⟩, hs, ⟨RdS.nilA _, RdS.nilA _, by simp, by simp, isI64_small hfb, isI64_small (by first | (simp only; done) | (simp only; omega) | omega)⟩, fun p hp => hp⟩
                      | (refine ⟨⟨⟨4, nn % 3, nn / 4 % 40 - 4, .slice none 0 0, [], .slice (some ⟨b90, 0, none⟩) (nn / 125 % 4).toNat 3, [nn % 5 - 1, nn / 5 % 5, nn / 25 % 5].take (nn / 125 % 4).toNat⟩, [(b90, Blk 3 [.int .i64 (nn % 5 - 1), .int .i64 (nn / 5 % 5), .int .i64 (nn / 25 % 5)])] ++ LX⟩, ⟨rfl, rfl, rfl, rfl, trivial⟩, ?_, ⟨RdS.nilA _, ?_, by simp, by simp, isI64_small hfb, isI64_small (by first | (simp only; done) | (simp only; omega) | omega)⟩, fun p hp => List.mem_append_right _ hp⟩
                         · have h9 := St.reord [[_], [_], Lv, LX] [1, 2, 0, 3] [] hs rfl
                           exact h9
                         · have hlen : ([nn % 5 - 1, nn / 5 % 5, nn / 25 % 5].take (nn / 125 % 4).toNat).length = (nn / 125 % 4).toNat := by rw [List.length_take]; simp; omega
                           simp only
                           rw [hlen]
                           refine RdS.lit (e := 3) (cs := [.int .i64 (nn % 5 - 1), .int .i64 (nn / 5 % 5), .int .i64 (nn / 25 % 5)]) (by simp) (by omega) fun j u hj => ?_
                           rw [i64s, List.map_take, List.getElem?_take] at hj
                           split at hj
                           · exact hj
                           · cases hj)
                      | (refine ⟨⟨⟨0, nn % 70 - 3, 0, .slice (some ⟨b105, 0, none⟩) 1 1, [1], .slice none 0 0, []⟩, [(b105, Blk 5 [.int .u8 1])] ++ LX⟩, ⟨rfl, rfl, rfl, rfl, trivial⟩, ?_, ⟨RdS.lit (e := 5) (cs := [.int .u8 1]) (by simp) (Nat.le_refl _) (fun j u hj => hj), RdS.nilA _, fun z hz => (show isB z from by rw [List.mem_singleton.1 hz]; exact ⟨by decide, by decide⟩), by simp, isI64_small (by first | (simp only; done) | (simp only; omega) | omega), isI64_small (by first | (simp only; done) | (simp only; omega) | omega)⟩, fun p hp => List.mem_append_right _ hp⟩
                         have h9 := St.reord [[_], [_], Lv, LX] [1, 2, 0, 3] [] hs rfl
                         exact h9)
                  · skip
                    try simp only [decide_eq_true_eq, decide_eq_false_iff_not, gt_iff_lt, beq_iff_eq, beq_eq_false_iff_ne, ne_eq] at hc72
                    refine W_seq ?_
                    refine W_region ?_
                    refine s_eql rfl rfl rfl ?_
                    refine s_assign rfl rfl ?_
                    refine WL_nil ?_
                    refine n_then ?_
                    refine W_cond rfl (fun hc99 => ?_) (fun hc99 => ?_)
                    · skip
                      try simp only [decide_eq_true_eq, decide_eq_false_iff_not, gt_iff_lt, beq_iff_eq, beq_eq_false_iff_ne, ne_eq] at hc99
                      refine W_seq ?_
                      refine W_region ?_
                      refine s_move rfl rfl ?_
                      first | (refine s_rem' rfl rfl rfl ?hx ?_; case hx => (refine ⟨?_, ?_⟩ <;> omega)) | (refine s_rem rfl rfl rfl ?hx ?_; case hx => omega)
                      first | (refine s_sub' rfl rfl rfl ?hx ?_; case hx => (constructor <;> first | omega | (simp only; omega))) | refine s_sub rfl rfl rfl ?_
                      refine s_fieldAddr rfl rfl (FA56_1 _ _) ?_
                      first
                        | refine s_storeB Try.sizeOf3 rfl rfl rfl hs (kk := 0) rfl rfl ?_
                        | refine s_storeB Try.sizeOf3 rfl rfl rfl hs (kk := 1) rfl rfl ?_
                      clear hs; intro w hs; try simp only [List.set_cons_zero, List.set_cons_succ, splice, List.take_succ_cons, List.take_zero, List.drop_succ_cons, List.drop_zero, List.nil_append, List.cons_append, List.length_cons, List.length_nil, Nat.reduceAdd, List.append_assoc] at hs
                      refine WL_nil ?_
                      refine n_then ?_
                      refine W_region ?_
                      refine s_buildSlice rfl rfl (BS27_1 _) hs ?_; clear hs; intro b105 w hs
                      refine s_fieldAddr rfl rfl (FA56_3 _ _) ?_
                      first
                        | refine s_storeB Try.sizeOf27 rfl rfl rfl hs (kk := 0) rfl rfl ?_
                        | refine s_storeB Try.sizeOf27 rfl rfl rfl hs (kk := 1) rfl rfl ?_
                      clear hs; intro w hs; try simp only [List.set_cons_zero, List.set_cons_succ, splice, List.take_succ_cons, List.take_zero, List.drop_succ_cons, List.drop_zero, List.nil_append, List.cons_append, List.length_cons, List.length_nil, Nat.reduceAdd, List.append_assoc] at hs
                      refine WL_nil ?_
                      refine n_blk ?_
                      refine n_loop ?_
                      first
                        | (refine ⟨⟨⟨0, nn % 3, 0, .slice ab bb.length cb, bb, .slice none 0 0, []⟩, Lb ++ LX⟩, ⟨rfl, rfl, rfl, rfl, trivial⟩, ?_, ⟨(hOb.rdS).mono' fun p hp => List.mem_append_left _ hp, RdS.nilA _, hbB, by simp only; omega, isI64_small hfb, isI64_small (by first | (simp only; done) | (simp only; omega) | omega)⟩, fun p hp => List.mem_append_right _ hp⟩
                           have h9 := St.reord [[_], Lb, Lv, LX] [0, 2, 1, 3] [] hs rfl
                           exact h9)
                        | exact ⟨⟨⟨_, _, _, .slice none 0 0, [], .slice none 0 0, []⟩, LX⟩, ⟨rfl, rfl, rfl, rfl, trivial⟩, hs, ⟨RdS.nilA _, RdS.nilA _, by simp, by simp, isI64_small hfb, isI64_small (by first | (simp only; done) | (simp only; omega) | omega)⟩, fun p hp => hp⟩
                        | (refine ⟨⟨⟨4, nn % 3, nn / 4 % 40 - 4, .slice none 0 0, [], .slice (some ⟨b90, 0, none⟩) (nn / 125 % 4).toNat 3, [nn % 5 - 1, nn / 5 % 5, nn / 25 % 5].take (nn / 125 % 4).toNat⟩, [(b90, Blk 3 [.int .i64 (nn % 5 - 1), .int .i64 (nn / 5 % 5), .int .i64 (nn / 25 % 5)])] ++ LX⟩, ⟨rfl, rfl, rfl, rfl, trivial⟩, ?_, ⟨RdS.nilA _, ?_, by simp, by simp, isI64_small hfb, isI64_small (by first | (simp only; done) | (simp only; omega) | omega)⟩, fun p hp => List.mem_append_right _ hp⟩
                           · have h9 := St.reord [[_], [_], Lv, LX] [1, 2, 0, 3] [] hs rfl
                             exact h9
                           · have hlen : ([nn % 5 - 1, nn / 5 % 5, nn / 25 % 5].take (nn / 125 % 4).toNat).length = (nn / 125 % 4).toNat := by rw [List.length_take]; simp; omega
                             simp only
                             rw [hlen]
                             refine RdS.lit (e := 3) (cs := [.int .i64 (nn % 5 - 1), .int .i64 (nn / 5 % 5), .int .i64 (nn / 25 % 5)]) (by simp) (by omega) fun j u hj => ?_
                             rw [i64s, List.map_take, List.getElem?_take] at hj
                             split at hj
                             · exact hj
                             · cases hj)
                        | (refine ⟨⟨⟨0, nn % 70 - 3, 0, .slice (some ⟨b105, 0, none⟩) 1 1, [1], .slice none 0 0, []⟩, [(b105, Blk 5 [.int .u8 1])] ++ LX⟩, ⟨rfl, rfl, rfl, rfl, trivial⟩, ?_, ⟨RdS.lit (e := 5) (cs := [.int .u8 1]) (by simp) (Nat.le_refl _) (fun j u hj => hj), RdS.nilA _, fun z hz => (show isB z from by rw [List.mem_singleton.1 hz]; exact ⟨by decide, by decide⟩), by simp, isI64_small (by first | (simp only; done) | (simp only; omega) | omega), isI64_small (by first | (simp only; done) | (simp only; omega) | omega)⟩, fun p hp => List.mem_append_right _ hp⟩
                           have h9 := St.reord [[_], [_], Lv, LX] [1, 2, 0, 3] [] hs rfl
                           exact h9)
                    · skip
                      try simp only [decide_eq_true_eq, decide_eq_false_iff_not, gt_iff_lt, beq_iff_eq, beq_eq_false_iff_ne, ne_eq] at hc99
                      refine W_seq ?_
                      refine W_region ?_
                      refine s_assign rfl rfl ?_
                      refine WL_nil ?_
                      refine n_then ?_
                      refine W_block ?_
                      refine W_loop (σ := OgU) (fun s => [(0, .slice la ls.length lc), (3, .slice av os.length cv), (4, .int .i64 (i : Int)), (5, .int .i64 nn), (6, .pointer (some ⟨b6, 0, none⟩)), (7, .int .i64 (s.k : Int))]) (fun s w => St [] w0 w ((b6, Blk 56 [.int .i64 0, .int .i64 (nn % 3), .int .i64 0, s.v, .slice none 0 0]) :: (s.L ++ (Lv ++ LX))) ∧ OwnS 5 1 s.v s.b.length (u8s s.b) s.L ∧ s.b.length = s.k ∧ s.k ≤ 6 ∧ ∀ z ∈ s.b, isB z) (fun s => 6 - s.k) ⟨0, .slice none 0 0, [], []⟩ ⟨rfl, rfl, rfl, rfl, rfl, rfl, trivial⟩ ⟨hs, OwnS.nil _ _, rfl, Nat.zero_le _, by simp⟩ ?_
                      clear hs
                      rintro ⟨k, v2, bb, Lb⟩ w ⟨hs, hOb, hbl, hk6, hbB⟩
                      simp only at hs hOb hbl hk6 hbB ⊢
                      obtain ⟨_, cb, ab, rfl, hbvl⟩ := hOb.form
                      subst hbvl
                      refine W_seq ?_
                      refine W_seq ?_
                      refine W_region ?_
                      refine s_move rfl rfl ?_
                      refine s_move rfl rfl ?_
                      first | (refine s_quo' rfl rfl rfl ?hx ?_; case hx => (refine ⟨?_, ?_, ?_⟩ <;> omega)) | (refine s_quo rfl rfl rfl ?hx ?_; case hx => omega)
                      first | (refine s_rem' rfl rfl rfl ?hx ?_; case hx => (refine ⟨?_, ?_⟩ <;> omega)) | (refine s_rem rfl rfl rfl ?hx ?_; case hx => omega)
                      refine s_lss rfl rfl rfl ?_
                      refine WL_nil ?_
                      refine n_then ?_
                      refine W_cond rfl (fun hc36 => ?_) (fun hc36 => ?_)
                      · skip
                        try simp only [decide_eq_true_eq, decide_eq_false_iff_not, gt_iff_lt, beq_iff_eq, beq_eq_false_iff_ne, ne_eq] at hc36
                        refine W_skip ?_
                        refine n_then ?_
                        refine W_seq ?_
                        refine W_block ?_
                        refine W_draw [(0, true, []), (1, true, []), (2, true, []), (3, true, []), (4, true, []), (5, true, []), (6, true, []), (7, true, []), (8, true, []), (9, true, []), (10, false, [0, 1]), (11, false, []), (12, true, []), (13, false, [])] [[], [0], [], [], [2, 3], [2, 3, 4], [], [6], [2, 3, 4, 5, 6, 7], [2, 3, 4, 5, 6, 7, 8], [2, 3, 4, 5, 6, 7, 8, 9], [0, 1, 2, 3, 4, 5, 6, 7, 8, 9, 10], [0, 1, 2, 3, 4, 5, 6, 7, 8, 9, 10, 11], [0, 1, 2, 3, 4, 5, 6, 7, 8, 9, 10, 11, 12]] MX (by kernel_rfl) ?_
                        intro w1 hw1 hw2 hw3 hw4; replace hs := hs.redrawn hw1 hw2 hw3 hw4; clear hw1 hw2 hw3 hw4
                        obtain ⟨w, rfl⟩ : ∃ w : World, w = w1 := ⟨_, rfl⟩
                        refine D_q rfl rfl ?_
                        refine s_fieldAddr rfl rfl (FA56_3 _ _) ?_
                        refine D_qn ?_
                        refine D_q rfl rfl ?_
                        first
                          | refine s_load Try.isAgg27 rfl rfl (hs.cell (k := 0) rfl rfl) ?_
                          | refine s_load Try.isAgg27 rfl rfl (hs.cell (k := 1) rfl rfl) ?_
                        refine D_qn ?_
                        refine D_q rfl rfl ?_
                        refine s_move rfl rfl ?_
                        refine D_qn ?_
                        refine D_q rfl rfl ?_
                        refine s_move rfl rfl ?_
                        refine D_qn ?_
                        refine D_q rfl rfl ?_
                        obtain ⟨b1, o1, hA1, hc1⟩ := (hl.fwd0 hs.fwd).at (k := i) (u := .int .i64 z) (by rw [List.getElem?_map, hz]; rfl)
                        (refine s_indexAddrO El33 rfl rfl rfl hA1 ?hx ?_; case hx => (constructor <;> omega))
                        refine D_qn ?_
                        refine D_q rfl rfl ?_
                        refine s_load Try.isAgg3 rfl rfl (by rw [Int.toNat_natCast]; exact hc1) ?_
                        refine D_qn ?_
                        refine D_q rfl rfl ?_
                        refine s_move rfl rfl ?_
                        refine D_qn ?_
                        refine D_q rfl rfl ?_
                        refine s_convert rfl rfl (CV3_72 _) ?_
                        rw [show IntKind.u64.wrap (k : Int) = (k : Int) from u64w (by omega)]
                        refine D_qn ?_
                        refine D_q rfl rfl ?_
                        (refine s_shr rfl rfl rfl ?hx ?_; case hx => omega)
                        refine D_qn ?_
                        refine D_q rfl rfl ?_
                        refine s_convert rfl rfl (CV3_5 _) ?_
                        obtain ⟨zb, hzb⟩ : ∃ zb, zb = IntKind.u8.wrap (z.fdiv (2 ^ (min (k : Int).toNat IntKind.i64.bits))) := ⟨_, rfl⟩
                        have hzbB : isB zb := by rw [hzb]; exact wrap_isB _
                        rw [← hzb]
                        refine D_qn ?_
                        refine D_e rfl ?_
                        refine s_buildSlice rfl rfl (BS27_1 _) hs ?_; clear hs; intro b49 w hs
                        refine D_en ?re ?_
                        case re =>
                          refine Reks_cons rfl rfl rfl rfl ?_ ?_
                          · skip
                            refine s_fieldAddr rfl rfl (FA56_3 _ _) ?_
                            exact Rek_end rfl
                          refine Reks_cons rfl rfl rfl rfl ?_ ?_
                          · skip
                            first
                              | refine s_load Try.isAgg27 rfl rfl (hs.cell (k := 0) rfl rfl) ?_
                              | refine s_load Try.isAgg27 rfl rfl (hs.cell (k := 1) rfl rfl) ?_
                            exact Rek_end rfl
                          exact Reks_nil
                        refine D_e rfl ?_
                        refine s_appendM (M := [_, _]) (X := Lv ++ LX) El27 rfl rfl rfl hOb hs (Sl_lit hs rfl) rfl (by simp [Value.oneCell']) (by simp only [List.length_cons, List.length_nil]; omega) ?_
                        clear hs; intro v' w Lb' hOb' hs
                        obtain ⟨_, cb', ab', rfl, hbvl'⟩ := hOb'.form
                        subst hbvl'
                        simp only [List.cons_append, List.nil_append] at hs
                        replace hs := hs.tail
                        refine D_en ?re ?_
                        case re =>
                          exact Reks_nil
                        refine D_q rfl rfl ?_
                        refine s_fieldAddr rfl rfl (FA56_3 _ _) ?_
                        refine D_qn ?_
                        refine D_e rfl ?_
                        first
                          | refine s_storeB Try.sizeOf27 rfl rfl rfl hs (kk := 0) rfl rfl ?_
                          | refine s_storeB Try.sizeOf27 rfl rfl rfl hs (kk := 1) rfl rfl ?_
                        clear hs; intro w hs; try simp only [List.set_cons_zero, List.set_cons_succ, splice, List.take_succ_cons, List.take_zero, List.drop_succ_cons, List.drop_zero, List.nil_append, List.cons_append, List.length_cons, List.length_nil, Nat.reduceAdd, List.append_assoc] at hs
                        refine D_en ?re ?_
                        case re =>
                          exact Reks_nil
                        refine D_nil ?_
                        refine n_blk ?_
                        refine n_then ?_
                        refine W_region ?_
                        refine s_move rfl rfl ?_
                        first | (refine s_add' rfl rfl rfl ?hx ?_; case hx => (constructor <;> first | omega | (simp only; omega))) | refine s_add rfl rfl rfl ?_
                        refine s_assign rfl rfl ?_
                        refine WL_nil ?_
                        refine n_loop ?_
                        refine ⟨⟨k + 1, _, bb ++ [zb], Lb'⟩, ⟨rfl, rfl, rfl, rfl, rfl, rfl, trivial⟩, ⟨hs, ?_, by simp [hbl], by simp only; omega, ?_⟩, by simp only; omega⟩
                        · simp only
                          rw [List.length_append, u8s, List.map_append]; exact hOb'
                        · intro y hy
                          rcases List.mem_append.1 hy with hy | hy
                          · exact hbB y hy
                          · rw [List.mem_singleton.1 hy]; exact hzbB
                      · skip
                        try simp only [decide_eq_true_eq, decide_eq_false_iff_not, gt_iff_lt, beq_iff_eq, beq_eq_false_iff_ne, ne_eq] at hc36
                        refine W_exit ?_
                        refine x_then ?_
                        refine x_then ?_
                        refine exit_hit ?_
                        refine n_blk ?_
                        refine n_loop ?_
                        first
                          | (refine ⟨⟨⟨0, nn % 3, 0, .slice ab bb.length cb, bb, .slice none 0 0, []⟩, Lb ++ LX⟩, ⟨rfl, rfl, rfl, rfl, trivial⟩, ?_, ⟨(hOb.rdS).mono' fun p hp => List.mem_append_left _ hp, RdS.nilA _, hbB, by simp only; omega, isI64_small hfb, isI64_small (by first | (simp only; done) | (simp only; omega) | omega)⟩, fun p hp => List.mem_append_right _ hp⟩
                             have h9 := St.reord [[_], Lb, Lv, LX] [0, 2, 1, 3] [] hs rfl
                             exact h9)
                          | exact ⟨⟨⟨_, _, _, .slice none 0 0, [], .slice none 0 0, []⟩, LX⟩, ⟨rfl, rfl, rfl, rfl, trivial⟩, hs, ⟨RdS.nilA _, RdS.nilA _, by simp, by simp, isI64_small hfb, isI64_small (by first | (simp only; done) | (simp only; omega) | omega)⟩, fun p hp => hp⟩
                          | (refine ⟨⟨⟨4, nn % 3, nn / 4 % 40 - 4, .slice none 0 0, [], .slice (some ⟨b90, 0, none⟩) (nn / 125 % 4).toNat 3, [nn % 5 - 1, nn / 5 % 5, nn / 25 % 5].take (nn / 125 % 4).toNat⟩, [(b90, Blk 3 [.int .i64 (nn % 5 - 1), .int .i64 (nn / 5 % 5), .int .i64 (nn / 25 % 5)])] ++ LX⟩, ⟨rfl, rfl, rfl, rfl, trivial⟩, ?_, ⟨RdS.nilA _, ?_, by simp, by simp, isI64_small hfb, isI64_small (by first | (simp only; done) | (simp only; omega) | omega)⟩, fun p hp => List.mem_append_right _ hp⟩
                             · have h9 := St.reord [[_], [_], Lv, LX] [1, 2, 0, 3] [] hs rfl
                               exact h9
                             · have hlen : ([nn % 5 - 1, nn / 5 % 5, nn / 25 % 5].take (nn / 125 % 4).toNat).length = (nn / 125 % 4).toNat := by rw [List.length_take]; simp; omega
                               simp only
                               rw [hlen]
                               refine RdS.lit (e := 3) (cs := [.int .i64 (nn % 5 - 1), .int .i64 (nn / 5 % 5), .int .i64 (nn / 25 % 5)]) (by simp) (by omega) fun j u hj => ?_
                               rw [i64s, List.map_take, List.getElem?_take] at hj
                               split at hj
                               · exact hj
                               · cases hj)
                          | (refine ⟨⟨⟨0, nn % 70 - 3, 0, .slice (some ⟨b105, 0, none⟩) 1 1, [1], .slice none 0 0, []⟩, [(b105, Blk 5 [.int .u8 1])] ++ LX⟩, ⟨rfl, rfl, rfl, rfl, trivial⟩, ?_, ⟨RdS.lit (e := 5) (cs := [.int .u8 1]) (by simp) (Nat.le_refl _) (fun j u hj => hj), RdS.nilA _, fun z hz => (show isB z from by rw [List.mem_singleton.1 hz]; exact ⟨by decide, by decide⟩), by simp, isI64_small (by first | (simp only; done) | (simp only; omega) | omega), isI64_small (by first | (simp only; done) | (simp only; omega) | omega)⟩, fun p hp => List.mem_append_right _ hp⟩
                             have h9 := St.reord [[_], [_], Lv, LX] [1, 2, 0, 3] [] hs rfl
                             exact h9)
                · skip
                  try simp only [decide_eq_true_eq, decide_eq_false_iff_not, gt_iff_lt, beq_iff_eq, beq_eq_false_iff_ne, ne_eq] at hc72
                  refine W_region ?_
                  refine s_eql rfl rfl rfl ?_
                  refine s_assign rfl rfl ?_
                  refine WL_nil ?_
                  refine n_then ?_
                  refine W_cond rfl (fun hc72 => ?_) (fun hc72 => ?_)
                  · skip
                    try simp only [decide_eq_true_eq, decide_eq_false_iff_not, gt_iff_lt, beq_iff_eq, beq_eq_false_iff_ne, ne_eq] at hc72
                    refine W_seq ?_
                    refine W_region ?_
                    refine s_fieldAddr rfl rfl (FA56_0 _ _) ?_
                    first
                      | refine s_storeB Try.sizeOf3 rfl rfl rfl hs (kk := 0) rfl rfl ?_
                      | refine s_storeB Try.sizeOf3 rfl rfl rfl hs (kk := 1) rfl rfl ?_
                    clear hs; intro w hs; try simp only [List.set_cons_zero, List.set_cons_succ, splice, List.take_succ_cons, List.take_zero, List.drop_succ_cons, List.drop_zero, List.nil_append, List.cons_append, List.length_cons, List.length_nil, Nat.reduceAdd, List.append_assoc] at hs
                    refine WL_nil ?_
                    refine n_then ?_
                    refine W_seq ?_
                    refine W_region ?_
                    refine s_move rfl rfl ?_
                    first | (refine s_quo' rfl rfl rfl ?hx ?_; case hx => (refine ⟨?_, ?_, ?_⟩ <;> omega)) | (refine s_quo rfl rfl rfl ?hx ?_; case hx => omega)
                    first | (refine s_rem' rfl rfl rfl ?hx ?_; case hx => (refine ⟨?_, ?_⟩ <;> omega)) | (refine s_rem rfl rfl rfl ?hx ?_; case hx => omega)
                    first | (refine s_sub' rfl rfl rfl ?hx ?_; case hx => (constructor <;> first | omega | (simp only; omega))) | refine s_sub rfl rfl rfl ?_
                    refine s_fieldAddr rfl rfl (FA56_2 _ _) ?_
                    first
                      | refine s_storeB Try.sizeOf3 rfl rfl rfl hs (kk := 0) rfl rfl ?_
                      | refine s_storeB Try.sizeOf3 rfl rfl rfl hs (kk := 1) rfl rfl ?_
                    clear hs; intro w hs; try simp only [List.set_cons_zero, List.set_cons_succ, splice, List.take_succ_cons, List.take_zero, List.drop_succ_cons, List.drop_zero, List.nil_append, List.cons_append, List.length_cons, List.length_nil, Nat.reduceAdd, List.append_assoc] at hs
                    refine WL_nil ?_
                    refine n_then ?_
                    refine W_seq ?_
                    refine W_region ?_
                    refine s_move rfl rfl ?_
                    first | (refine s_rem' rfl rfl rfl ?hx ?_; case hx => (refine ⟨?_, ?_⟩ <;> omega)) | (refine s_rem rfl rfl rfl ?hx ?_; case hx => omega)
                    first | (refine s_sub' rfl rfl rfl ?hx ?_; case hx => (constructor <;> first | omega | (simp only; omega))) | refine s_sub rfl rfl rfl ?_
                    refine s_move rfl rfl ?_
                    first | (refine s_quo' rfl rfl rfl ?hx ?_; case hx => (refine ⟨?_, ?_, ?_⟩ <;> omega)) | (refine s_quo rfl rfl rfl ?hx ?_; case hx => omega)
                    first | (refine s_rem' rfl rfl rfl ?hx ?_; case hx => (refine ⟨?_, ?_⟩ <;> omega)) | (refine s_rem rfl rfl rfl ?hx ?_; case hx => omega)
                    refine s_move rfl rfl ?_
                    first | (refine s_quo' rfl rfl rfl ?hx ?_; case hx => (refine ⟨?_, ?_, ?_⟩ <;> omega)) | (refine s_quo rfl rfl rfl ?hx ?_; case hx => omega)
                    first | (refine s_rem' rfl rfl rfl ?hx ?_; case hx => (refine ⟨?_, ?_⟩ <;> omega)) | (refine s_rem rfl rfl rfl ?hx ?_; case hx => omega)
                    refine s_buildSlice rfl rfl (BS33_3 _ _ _) hs ?_; clear hs; intro b90 w hs
                    refine s_fieldAddr rfl rfl (FA56_4 _ _) ?_
                    first
                      | refine s_storeB Try.sizeOf33 rfl rfl rfl hs (kk := 0) rfl rfl ?_
                      | refine s_storeB Try.sizeOf33 rfl rfl rfl hs (kk := 1) rfl rfl ?_
                    clear hs; intro w hs; try simp only [List.set_cons_zero, List.set_cons_succ, splice, List.take_succ_cons, List.take_zero, List.drop_succ_cons, List.drop_zero, List.nil_append, List.cons_append, List.length_cons, List.length_nil, Nat.reduceAdd, List.append_assoc] at hs
                    refine WL_nil ?_
                    refine n_then ?_
                    refine W_region ?_
                    refine s_fieldAddr rfl rfl (FA56_4 _ _) ?_
                    first
                      | refine s_load Try.isAgg33 rfl rfl (hs.cell (k := 0) rfl rfl) ?_
                      | refine s_load Try.isAgg33 rfl rfl (hs.cell (k := 1) rfl rfl) ?_
                    refine s_move rfl rfl ?_
                    first | (refine s_quo' rfl rfl rfl ?hx ?_; case hx => (refine ⟨?_, ?_, ?_⟩ <;> omega)) | (refine s_quo rfl rfl rfl ?hx ?_; case hx => omega)
                    first | (refine s_rem' rfl rfl rfl ?hx ?_; case hx => (refine ⟨?_, ?_⟩ <;> omega)) | (refine s_rem rfl rfl rfl ?hx ?_; case hx => omega)
                    (refine s_slice_hi El33 rfl rfl rfl ?hx ?_; case hx => (constructor <;> omega))
                    refine s_fieldAddr rfl rfl (FA56_4 _ _) ?_
                    first
                      | refine s_storeB Try.sizeOf33 rfl rfl rfl hs (kk := 0) rfl rfl ?_
                      | refine s_storeB Try.sizeOf33 rfl rfl rfl hs (kk := 1) rfl rfl ?_
                    clear hs; intro w hs; try simp only [List.set_cons_zero, List.set_cons_succ, splice, List.take_succ_cons, List.take_zero, List.drop_succ_cons, List.drop_zero, List.nil_append, List.cons_append, List.length_cons, List.length_nil, Nat.reduceAdd, List.append_assoc] at hs
                    refine WL_nil ?_
                    refine n_blk ?_
                    refine n_loop ?_
                    first
                      | (refine ⟨⟨⟨0, nn % 3, 0, .slice ab bb.length cb, bb, .slice none 0 0, []⟩, Lb ++ LX⟩, ⟨rfl, rfl, rfl, rfl, trivial⟩, ?_, ⟨(hOb.rdS).mono' fun p hp => List.mem_append_left _ hp, RdS.nilA _, hbB, by simp only; omega, isI64_small hfb, isI64_small (by first | (simp only; done) | (simp only; omega) | omega)⟩, fun p hp => List.mem_append_right _ hp⟩
                         have h9 := St.reord [[_], Lb, Lv, LX] [0, 2, 1, 3] [] hs rfl
                         exact h9)
                      | exact ⟨⟨⟨_, _, _, .slice none 0 0, [], .slice none 0 0, []⟩, LX⟩, ⟨rfl, rfl, rfl, rfl, trivial⟩, hs, ⟨RdS.nilA _, RdS.nilA _, by simp, by simp, isI64_small hfb, isI64_small (by first | (simp only; done) | (simp only; omega) | omega)⟩, fun p hp => hp⟩
                      | (refine ⟨⟨⟨4, nn % 3, nn / 4 % 40 - 4, .slice none 0 0, [], .slice (some ⟨b90, 0, none⟩) (nn / 125 % 4).toNat 3, [nn % 5 - 1, nn / 5 % 5, nn / 25 % 5].take (nn / 125 % 4).toNat⟩, [(b90, Blk 3 [.int .i64 (nn % 5 - 1), .int .i64 (nn / 5 % 5), .int .i64 (nn / 25 % 5)])] ++ LX⟩, ⟨rfl, rfl, rfl, rfl, trivial⟩, ?_, ⟨RdS.nilA _, ?_, by simp, by simp, isI64_small hfb, isI64_small (by first | (simp only; done) | (simp only; omega) | omega)⟩, fun p hp => List.mem_append_right _ hp⟩
                         · have h9 := St.reord [[_], [_], Lv, LX] [1, 2, 0, 3] [] hs rfl
                           exact h9
                         · have hlen : ([nn % 5 - 1, nn / 5 % 5, nn / 25 % 5].take (nn / 125 % 4).toNat).length = (nn / 125 % 4).toNat := by rw [List.length_take]; simp; omega
                           simp only
                           rw [hlen]
                           refine RdS.lit (e := 3) (cs := [.int .i64 (nn % 5 - 1), .int .i64 (nn / 5 % 5), .int .i64 (nn / 25 % 5)]) (by simp) (by omega) fun j u hj => ?_
                           rw [i64s, List.map_take, List.getElem?_take] at hj
                           split at hj
                           · exact hj
                           · cases hj)
                      | (refine ⟨⟨⟨0, nn % 70 - 3, 0, .slice (some ⟨b105, 0, none⟩) 1 1, [1], .slice none 0 0, []⟩, [(b105, Blk 5 [.int .u8 1])] ++ LX⟩, ⟨rfl, rfl, rfl, rfl, trivial⟩, ?_, ⟨RdS.lit (e := 5) (cs := [.int .u8 1]) (by simp) (Nat.le_refl _) (fun j u hj => hj), RdS.nilA _, fun z hz => (show isB z from by rw [List.mem_singleton.1 hz]; exact ⟨by decide, by decide⟩), by simp, isI64_small (by first | (simp only; done) | (simp only; omega) | omega), isI64_small (by first | (simp only; done) | (simp only; omega) | omega)⟩, fun p hp => List.mem_append_right _ hp⟩
                         have h9 := St.reord [[_], [_], Lv, LX] [1, 2, 0, 3] [] hs rfl
                         exact h9)
                  · skip
                    try simp only [decide_eq_true_eq, decide_eq_false_iff_not, gt_iff_lt, beq_iff_eq, beq_eq_false_iff_ne, ne_eq] at hc72
                    refine W_seq ?_
                    refine W_region ?_
                    refine s_eql rfl rfl rfl ?_
                    refine s_assign rfl rfl ?_
                    refine WL_nil ?_
                    refine n_then ?_
                    refine W_cond rfl (fun hc99 => ?_) (fun hc99 => ?_)
                    · skip
                      try simp only [decide_eq_true_eq, decide_eq_false_iff_not, gt_iff_lt, beq_iff_eq, beq_eq_false_iff_ne, ne_eq] at hc99
                      refine W_seq ?_
                      refine W_region ?_
                      refine s_move rfl rfl ?_
                      first | (refine s_rem' rfl rfl rfl ?hx ?_; case hx => (refine ⟨?_, ?_⟩ <;> omega)) | (refine s_rem rfl rfl rfl ?hx ?_; case hx => omega)
                      first | (refine s_sub' rfl rfl rfl ?hx ?_; case hx => (constructor <;> first | omega | (simp only; omega))) | refine s_sub rfl rfl rfl ?_
                      refine s_fieldAddr rfl rfl (FA56_1 _ _) ?_
                      first
                        | refine s_storeB Try.sizeOf3 rfl rfl rfl hs (kk := 0) rfl rfl ?_
                        | refine s_storeB Try.sizeOf3 rfl rfl rfl hs (kk := 1) rfl rfl ?_
                      clear hs; intro w hs; try simp only [List.set_cons_zero, List.set_cons_succ, splice, List.take_succ_cons, List.take_zero, List.drop_succ_cons, List.drop_zero, List.nil_append, List.cons_append, List.length_cons, List.length_nil, Nat.reduceAdd, List.append_assoc] at hs
                      refine WL_nil ?_
                      refine n_then ?_
                      refine W_region ?_
                      refine s_buildSlice rfl rfl (BS27_1 _) hs ?_; clear hs; intro b105 w hs
                      refine s_fieldAddr rfl rfl (FA56_3 _ _) ?_
                      first
                        | refine s_storeB Try.sizeOf27 rfl rfl rfl hs (kk := 0) rfl rfl ?_
                        | refine s_storeB Try.sizeOf27 rfl rfl rfl hs (kk := 1) rfl rfl ?_
                      clear hs; intro w hs; try simp only [List.set_cons_zero, List.set_cons_succ, splice, List.take_succ_cons, List.take_zero, List.drop_succ_cons, List.drop_zero, List.nil_append, List.cons_append, List.length_cons, List.length_nil, Nat.reduceAdd, List.append_assoc] at hs
                      refine WL_nil ?_
                      refine n_blk ?_
                      refine n_loop ?_
                      first
                        | (refine ⟨⟨⟨0, nn % 3, 0, .slice ab bb.length cb, bb, .slice none 0 0, []⟩, Lb ++ LX⟩, ⟨rfl, rfl, rfl, rfl, trivial⟩, ?_, ⟨(hOb.rdS).mono' fun p hp => List.mem_append_left _ hp, RdS.nilA _, hbB, by simp only; omega, isI64_small hfb, isI64_small (by first | (simp only; done) | (simp only; omega) | omega)⟩, fun p hp => List.mem_append_right _ hp⟩
                           have h9 := St.reord [[_], Lb, Lv, LX] [0, 2, 1, 3] [] hs rfl
                           exact h9)
                        | exact ⟨⟨⟨_, _, _, .slice none 0 0, [], .slice none 0 0, []⟩, LX⟩, ⟨rfl, rfl, rfl, rfl, trivial⟩, hs, ⟨RdS.nilA _, RdS.nilA _, by simp, by simp, isI64_small hfb, isI64_small (by first | (simp only; done) | (simp only; omega) | omega)⟩, fun p hp => hp⟩
                        | (refine ⟨⟨⟨4, nn % 3, nn / 4 % 40 - 4, .slice none 0 0, [], .slice (some ⟨b90, 0, none⟩) (nn / 125 % 4).toNat 3, [nn % 5 - 1, nn / 5 % 5, nn / 25 % 5].take (nn / 125 % 4).toNat⟩, [(b90, Blk 3 [.int .i64 (nn % 5 - 1), .int .i64 (nn / 5 % 5), .int .i64 (nn / 25 % 5)])] ++ LX⟩, ⟨rfl, rfl, rfl, rfl, trivial⟩, ?_, ⟨RdS.nilA _, ?_, by simp, by simp, isI64_small hfb, isI64_small (by first | (simp only; done) | (simp only; omega) | omega)⟩, fun p hp => List.mem_append_right _ hp⟩
                           · have h9 := St.reord [[_], [_], Lv, LX] [1, 2, 0, 3] [] hs rfl
                             exact h9
                           · have hlen : ([nn % 5 - 1, nn / 5 % 5, nn / 25 % 5].take (nn / 125 % 4).toNat).length = (nn / 125 % 4).toNat := by rw [List.length_take]; simp; omega
                             simp only
                             rw [hlen]
                             refine RdS.lit (e := 3) (cs := [.int .i64 (nn % 5 - 1), .int .i64 (nn / 5 % 5), .int .i64 (nn / 25 % 5)]) (by simp) (by omega) fun j u hj => ?_
                             rw [i64s, List.map_take, List.getElem?_take] at hj
                             split at hj
                             · exact hj
                             · cases hj)
                        | (refine ⟨⟨⟨0, nn % 70 - 3, 0, .slice (some ⟨b105, 0, none⟩) 1 1, [1], .slice none 0 0, []⟩, [(b105, Blk 5 [.int .u8 1])] ++ LX⟩, ⟨rfl, rfl, rfl, rfl, trivial⟩, ?_, ⟨RdS.lit (e := 5) (cs := [.int .u8 1]) (by simp) (Nat.le_refl _) (fun j u hj => hj), RdS.nilA _, fun z hz => (show isB z from by rw [List.mem_singleton.1 hz]; exact ⟨by decide, by decide⟩), by simp, isI64_small (by first | (simp only; done) | (simp only; omega) | omega), isI64_small (by first | (simp only; done) | (simp only; omega) | omega)⟩, fun p hp => List.mem_append_right _ hp⟩
                           have h9 := St.reord [[_], [_], Lv, LX] [1, 2, 0, 3] [] hs rfl
                           exact h9)
                    · skip
                      try simp only [decide_eq_true_eq, decide_eq_false_iff_not, gt_iff_lt, beq_iff_eq, beq_eq_false_iff_ne, ne_eq] at hc99
                      refine W_seq ?_
                      refine W_region ?_
                      refine s_assign rfl rfl ?_
                      refine WL_nil ?_
                      refine n_then ?_
                      refine W_block ?_
                      refine W_loop (σ := OgU) (fun s => [(0, .slice la ls.length lc), (3, .slice av os.length cv), (4, .int .i64 (i : Int)), (5, .int .i64 nn), (6, .pointer (some ⟨b6, 0, none⟩)), (7, .int .i64 (s.k : Int))]) (fun s w => St [] w0 w ((b6, Blk 56 [.int .i64 0, .int .i64 (nn % 3), .int .i64 0, s.v, .slice none 0 0]) :: (s.L ++ (Lv ++ LX))) ∧ OwnS 5 1 s.v s.b.length (u8s s.b) s.L ∧ s.b.length = s.k ∧ s.k ≤ 6 ∧ ∀ z ∈ s.b, isB z) (fun s => 6 - s.k) ⟨0, .slice none 0 0, [], []⟩ ⟨rfl, rfl, rfl, rfl, rfl, rfl, trivial⟩ ⟨hs, OwnS.nil _ _, rfl, Nat.zero_le _, by simp⟩ ?_
                      clear hs
                      rintro ⟨k, v2, bb, Lb⟩ w ⟨hs, hOb, hbl, hk6, hbB⟩
                      simp only at hs hOb hbl hk6 hbB ⊢
                      obtain ⟨_, cb, ab, rfl, hbvl⟩ := hOb.form
                      subst hbvl
                      refine W_seq ?_
                      refine W_seq ?_
                      refine W_region ?_
                      refine s_move rfl rfl ?_
                      refine s_move rfl rfl ?_
                      first | (refine s_quo' rfl rfl rfl ?hx ?_; case hx => (refine ⟨?_, ?_, ?_⟩ <;> omega)) | (refine s_quo rfl rfl rfl ?hx ?_; case hx => omega)
                      first | (refine s_rem' rfl rfl rfl ?hx ?_; case hx => (refine ⟨?_, ?_⟩ <;> omega)) | (refine s_rem rfl rfl rfl ?hx ?_; case hx => omega)
                      refine s_lss rfl rfl rfl ?_
                      refine WL_nil ?_
                      refine n_then ?_
                      refine W_cond rfl (fun hc36 => ?_) (fun hc36 => ?_)
                      · skip
                        try simp only [decide_eq_true_eq, decide_eq_false_iff_not, gt_iff_lt, beq_iff_eq, beq_eq_false_iff_ne, ne_eq] at hc36
                        refine W_skip ?_
                        refine n_then ?_
                        refine W_seq ?_
                        refine W_block ?_
                        refine W_draw [(0, true, []), (1, true, []), (2, true, []), (3, true, []), (4, true, []), (5, true, []), (6, true, []), (7, true, []), (8, true, []), (9, true, []), (10, false, [0, 1]), (11, false, []), (12, true, []), (13, false, [])] [[], [0], [], [], [2, 3], [2, 3, 4], [], [6], [2, 3, 4, 5, 6, 7], [2, 3, 4, 5, 6, 7, 8], [2, 3, 4, 5, 6, 7, 8, 9], [0, 1, 2, 3, 4, 5, 6, 7, 8, 9, 10], [0, 1, 2, 3, 4, 5, 6, 7, 8, 9, 10, 11], [0, 1, 2, 3, 4, 5, 6, 7, 8, 9, 10, 11, 12]] MX (by kernel_rfl) ?_
                        intro w1 hw1 hw2 hw3 hw4; replace hs := hs.redrawn hw1 hw2 hw3 hw4; clear hw1 hw2 hw3 hw4
                        obtain ⟨w, rfl⟩ : ∃ w : World, w = w1 := ⟨_, rfl⟩
                        refine D_q rfl rfl ?_
                        refine s_fieldAddr rfl rfl (FA56_3 _ _) ?_
                        refine D_qn ?_
                        refine D_q rfl rfl ?_
                        first
                          | refine s_load Try.isAgg27 rfl rfl (hs.cell (k := 0) rfl rfl) ?_
                          | refine s_load Try.isAgg27 rfl rfl (hs.cell (k := 1) rfl rfl) ?_
                        refine D_qn ?_
                        refine D_q rfl rfl ?_
                        refine s_move rfl rfl ?_
                        refine D_qn ?_
                        refine D_q rfl rfl ?_
                        refine s_move rfl rfl ?_
                        refine D_qn ?_
                        refine D_q rfl rfl ?_
                        obtain ⟨b1, o1, hA1, hc1⟩ := (hl.fwd0 hs.fwd).at (k := i) (u := .int .i64 z) (by rw [List.getElem?_map, hz]; rfl)
                        (refine s_indexAddrO El33 rfl rfl rfl hA1 ?hx ?_; case hx => (constructor <;> omega))
                        refine D_qn ?_
                        refine D_q rfl rfl ?_
                        refine s_load Try.isAgg3 rfl rfl (by rw [Int.toNat_natCast]; exact hc1) ?_
                        refine D_qn ?_
                        refine D_q rfl rfl ?_
                        refine s_move rfl rfl ?_
                        refine D_qn ?_
                        refine D_q rfl rfl ?_
                        refine s_convert rfl rfl (CV3_72 _) ?_
                        rw [show IntKind.u64.wrap (k : Int) = (k : Int) from u64w (by omega)]
                        refine D_qn ?_
                        refine D_q rfl rfl ?_
                        (refine s_shr rfl rfl rfl ?hx ?_; case hx => omega)
                        refine D_qn ?_
                        refine D_q rfl rfl ?_
                        refine s_convert rfl rfl (CV3_5 _) ?_
                        obtain ⟨zb, hzb⟩ : ∃ zb, zb = IntKind.u8.wrap (z.fdiv (2 ^ (min (k : Int).toNat IntKind.i64.bits))) := ⟨_, rfl⟩
                        have hzbB : isB zb := by rw [hzb]; exact wrap_isB _
                        rw [← hzb]
                        refine D_qn ?_
                        refine D_e rfl ?_
                        refine s_buildSlice rfl rfl (BS27_1 _) hs ?_; clear hs; intro b49 w hs
                        refine D_en ?re ?_
                        case re =>
                          refine Reks_cons rfl rfl rfl rfl ?_ ?_
                          · skip
                            refine s_fieldAddr rfl rfl (FA56_3 _ _) ?_
                            exact Rek_end rfl
                          refine Reks_cons rfl rfl rfl rfl ?_ ?_
                          · skip
                            first
                              | refine s_load Try.isAgg27 rfl rfl (hs.cell (k := 0) rfl rfl) ?_
                              | refine s_load Try.isAgg27 rfl rfl (hs.cell (k := 1) rfl rfl) ?_
                            exact Rek_end rfl
                          exact Reks_nil
                        refine D_e rfl ?_
                        refine s_appendM (M := [_, _]) (X := Lv ++ LX) El27 rfl rfl rfl hOb hs (Sl_lit hs rfl) rfl (by simp [Value.oneCell']) (by simp only [List.length_cons, List.length_nil]; omega) ?_
                        clear hs; intro v' w Lb' hOb' hs
                        obtain ⟨_, cb', ab', rfl, hbvl'⟩ := hOb'.form
                        subst hbvl'
                        simp only [List.cons_append, List.nil_append] at hs
                        replace hs := hs.tail
                        refine D_en ?re ?_
                        case re =>
                          exact Reks_nil
                        refine D_q rfl rfl ?_
                        refine s_fieldAddr rfl rfl (FA56_3 _ _) ?_
                        refine D_qn ?_
                        refine D_e rfl ?_
                        first
                          | refine s_storeB Try.sizeOf27 rfl rfl rfl hs (kk := 0) rfl rfl ?_
                          | refine s_storeB Try.sizeOf27 rfl rfl rfl hs (kk := 1) rfl rfl ?_
                        clear hs; intro w hs; try simp only [List.set_cons_zero, List.set_cons_succ, splice, List.take_succ_cons, List.take_zero, List.drop_succ_cons, List.drop_zero, List.nil_append, List.cons_append, List.length_cons, List.length_nil, Nat.reduceAdd, List.append_assoc] at hs
                        refine D_en ?re ?_
                        case re =>
                          exact Reks_nil
                        refine D_nil ?_
                        refine n_blk ?_
                        refine n_then ?_
                        refine W_region ?_
                        refine s_move rfl rfl ?_
                        first | (refine s_add' rfl rfl rfl ?hx ?_; case hx => (constructor <;> first | omega | (simp only; omega))) | refine s_add rfl rfl rfl ?_
                        refine s_assign rfl rfl ?_
                        refine WL_nil ?_
                        refine n_loop ?_
                        refine ⟨⟨k + 1, _, bb ++ [zb], Lb'⟩, ⟨rfl, rfl, rfl, rfl, rfl, rfl, trivial⟩, ⟨hs, ?_, by simp [hbl], by simp only; omega, ?_⟩, by simp only; omega⟩
                        · simp only
                          rw [List.length_append, u8s, List.map_append]; exact hOb'
                        · intro y hy
                          rcases List.mem_append.1 hy with hy | hy
                          · exact hbB y hy
                          · rw [List.mem_singleton.1 hy]; exact hzbB
                      · skip
                        try simp only [decide_eq_true_eq, decide_eq_false_iff_not, gt_iff_lt, beq_iff_eq, beq_eq_false_iff_ne, ne_eq] at hc36
                        refine W_exit ?_
                        refine x_then ?_
                        refine x_then ?_
                        refine exit_hit ?_
                        refine n_blk ?_
                        refine n_loop ?_
                        first
                          | (refine ⟨⟨⟨0, nn % 3, 0, .slice ab bb.length cb, bb, .slice none 0 0, []⟩, Lb ++ LX⟩, ⟨rfl, rfl, rfl, rfl, trivial⟩, ?_, ⟨(hOb.rdS).mono' fun p hp => List.mem_append_left _ hp, RdS.nilA _, hbB, by simp only; omega, isI64_small hfb, isI64_small (by first | (simp only; done) | (simp only; omega) | omega)⟩, fun p hp => List.mem_append_right _ hp⟩
                             have h9 := St.reord [[_], Lb, Lv, LX] [0, 2, 1, 3] [] hs rfl
                             exact h9)
                          | exact ⟨⟨⟨_, _, _, .slice none 0 0, [], .slice none 0 0, []⟩, LX⟩, ⟨rfl, rfl, rfl, rfl, trivial⟩, hs, ⟨RdS.nilA _, RdS.nilA _, by simp, by simp, isI64_small hfb, isI64_small (by first | (simp only; done) | (simp only; omega) | omega)⟩, fun p hp => hp⟩
                          | (refine ⟨⟨⟨4, nn % 3, nn / 4 % 40 - 4, .slice none 0 0, [], .slice (some ⟨b90, 0, none⟩) (nn / 125 % 4).toNat 3, [nn % 5 - 1, nn / 5 % 5, nn / 25 % 5].take (nn / 125 % 4).toNat⟩, [(b90, Blk 3 [.int .i64 (nn % 5 - 1), .int .i64 (nn / 5 % 5), .int .i64 (nn / 25 % 5)])] ++ LX⟩, ⟨rfl, rfl, rfl, rfl, trivial⟩, ?_, ⟨RdS.nilA _, ?_, by simp, by simp, isI64_small hfb, isI64_small (by first | (simp only; done) | (simp only; omega) | omega)⟩, fun p hp => List.mem_append_right _ hp⟩
                             · have h9 := St.reord [[_], [_], Lv, LX] [1, 2, 0, 3] [] hs rfl
                               exact h9
                             · have hlen : ([nn % 5 - 1, nn / 5 % 5, nn / 25 % 5].take (nn / 125 % 4).toNat).length = (nn / 125 % 4).toNat := by rw [List.length_take]; simp; omega
                               simp only
                               rw [hlen]
                               refine RdS.lit (e := 3) (cs := [.int .i64 (nn % 5 - 1), .int .i64 (nn / 5 % 5), .int .i64 (nn / 25 % 5)]) (by simp) (by omega) fun j u hj => ?_
                               rw [i64s, List.map_take, List.getElem?_take] at hj
                               split at hj
                               · exact hj
                               · cases hj)
                          | (refine ⟨⟨⟨0, nn % 70 - 3, 0, .slice (some ⟨b105, 0, none⟩) 1 1, [1], .slice none 0 0, []⟩, [(b105, Blk 5 [.int .u8 1])] ++ LX⟩, ⟨rfl, rfl, rfl, rfl, trivial⟩, ?_, ⟨RdS.lit (e := 5) (cs := [.int .u8 1]) (by simp) (Nat.le_refl _) (fun j u hj => hj), RdS.nilA _, fun z hz => (show isB z from by rw [List.mem_singleton.1 hz]; exact ⟨by decide, by decide⟩), by simp, isI64_small (by first | (simp only; done) | (simp only; omega) | omega), isI64_small (by first | (simp only; done) | (simp only; omega) | omega)⟩, fun p hp => List.mem_append_right _ hp⟩
                             have h9 := St.reord [[_], [_], Lv, LX] [1, 2, 0, 3] [] hs rfl
                             exact h9)
      · skip
        clear hs
        rintro ⟨o, LX'⟩ w ⟨hs, hoo, hsub⟩
        simp only at hs hoo hsub ⊢
        refine W_region ?_
        refine s_move rfl rfl ?_
        refine s_loadW Try.isAgg56 Try.sizeOf56 rfl rfl hs (kk := 0) rfl rfl ?_
        refine s_buildSlice rfl rfl (BS52_1 _ _ _ _ _) hs ?_; clear hs; intro b109 w hs
        refine s_appendM (M := [_, _]) (X := LX') El52 rfl rfl rfl hO hs (hs.sl (k := 0) (n := 1) (ds := o.cells) rfl (Nat.le_refl _) (by intro j u hj; rw [Nat.zero_add]; exact hj)) rfl (by
          have h1 := hoo.b.form w fun p hp => hs.own p (by simp [hp])
          have h2 := hoo.k.form w fun p hp => hs.own p (by simp [hp])
          obtain ⟨_, _, _, h1, _⟩ := h1
          obtain ⟨_, _, _, h2, _⟩ := h2
          intro c hc
          simp only [OpV.cells, List.mem_cons, List.not_mem_nil, or_false] at hc
          rcases hc with rfl | rfl | rfl | rfl | rfl
          · rfl
          · rfl
          · rfl
          · rw [h1]; rfl
          · rw [h2]; rfl) (by omega) ?_
        clear hs; intro v' w Lv' hO' hs
        simp only [List.cons_append, List.nil_append] at hs
        replace hs := hs.tail.tail
        refine s_assign rfl rfl ?_
        refine WL_nil ?_
        refine n_blk ?_
        refine n_then ?_
        refine W_region ?_
        refine s_move rfl rfl ?_
        first | (refine s_add' rfl rfl rfl ?hx ?_; case hx => (constructor <;> first | omega | (simp only; omega))) | refine s_add rfl rfl rfl ?_
        refine s_assign rfl rfl ?_
        refine WL_nil ?_
        refine n_loop ?_
        refine ⟨⟨i + 1, os ++ [o], v', Lv', LX'⟩, ⟨rfl, rfl, rfl, trivial⟩, ⟨hs, ?_, ?_, by simp [hosl], by simp only; omega⟩, by simp only; omega⟩
        · simp only
          rw [List.length_append, show ocells (os ++ [o]) = ocells os ++ o.cells by simp [ocells]]; exact hO'
        · intro q hq
          rcases List.mem_append.1 hq with hq | hq
          · exact (hok q hq).mono hsub
          · rw [List.mem_singleton.1 hq]; exact hoo
    · skip
      try simp only [decide_eq_true_eq, decide_eq_false_iff_not, gt_iff_lt, beq_iff_eq, beq_eq_false_iff_ne, ne_eq] at hc15
      refine W_exit ?_
      refine x_then ?_
      refine x_then ?_
      refine exit_hit ?_
      refine n_then ?_
      refine W_seq ?_
      refine W_region ?_
      refine s_move rfl rfl ?_
      refine s_assign rfl rfl ?_
      refine WL_nil ?_
      refine n_then ?_
      refine W_ret ?_
      exact end1 rfl rfl ⟨os, Lv, LX, hO, hs, hok, by omega⟩
  · skip
    try simp only [decide_eq_true_eq, decide_eq_false_iff_not, gt_iff_lt, beq_iff_eq, beq_eq_false_iff_ne, ne_eq] at hg12
    refine WL_skip rfl rfl rfl ?_
    refine WL_skip rfl rfl rfl ?_
    refine s_pick_f rfl rfl rfl ?_
    refine WL_nil ?_
    refine n_then ?_
    refine W_cond_f rfl ?_
    refine W_exit ?_
    refine x_then ?_
    refine x_then ?_
    refine exit_hit ?_
    refine n_then ?_
    refine W_seq ?_
    refine W_region ?_
    refine s_move rfl rfl ?_
    refine s_assign rfl rfl ?_
    refine WL_nil ?_
    refine n_then ?_
    refine W_ret ?_
    exact end1 rfl rfl ⟨os, Lv, LX, hO, hs, hok, by omega⟩
end Go.Proofs.Ythfcdjbkbmhjgaa
