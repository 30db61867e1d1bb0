/- A replica in memory; messages; what only reads. -/
import Derived.Test.YtkobigdfijeajaaRpA
set_option linter.unusedVariables false
set_option linter.unusedSimpArgs false
namespace Go.Proofs.Ytkobigdfijeajaa
open Go.SL
/-- a message; as it lies in memory -/
structure Ms where
  frm : Nat
  to : Nat
  m : Mg
structure Mm where
  s : Ms
  v : Value
def Mm.cells (m : Mm) : List Value := [.int .i64 (m.s.frm : Int), .int .i64 (m.s.to : Int), m.v]
theorem Mm.cells_length (m : Mm) : m.cells.length = 3 := rfl
def mmcells (ms : List Mm) : List Value := ms.flatMap Mm.cells
theorem mmcells_length (ms : List Mm) : (mmcells ms).length = ms.length * 3 := flat_length Mm.cells_length ms
theorem mmcells_append (a b : List Mm) : mmcells (a ++ b) = mmcells a ++ mmcells b := by simp [mmcells]
def MmsIn (ms : List Mm) (L : Hp) : Prop := ∀ m ∈ ms, RdS m.v (mesB m.s.m).length (u8s (mesB m.s.m)) L
theorem MmsIn.mono {ms : List Mm} {L L' : Hp} (h : MmsIn ms L) (hs : ∀ p ∈ L, p ∈ L') : MmsIn ms L' := fun m hm => RdS.mono' (h m hm) hs
theorem MmsIn.append {a b : List Mm} {L : Hp} (ha : MmsIn a L) (hb : MmsIn b L) : MmsIn (a ++ b) L := fun m hm => by rcases List.mem_append.1 hm with h | h; exact ha m h; exact hb m h
theorem MmsIn.one {ms : List Mm} {L : Hp} (h : MmsIn ms L) (w : World) (hw : ∀ p ∈ L, w.heap[p.1]? = some p.2) : ∀ c ∈ mmcells ms, c.oneCell' = true := by
  intro c hc
  obtain ⟨m, hm, hx⟩ := List.mem_flatMap.1 hc
  obtain ⟨tl, tc, ta, hv, _⟩ := (h m hm).form w hw
  simp only [Mm.cells, List.mem_cons, List.not_mem_nil, or_false] at hx
  rcases hx with rfl | rfl | rfl <;> first | rfl | (rw [hv]; rfl)
/-- a slice of messages that is one's own -/
def MsAt (r : Value) (ms : List Ms) (L : Hp) : Prop :=
  ∃ mm LB LP, L = LB ++ LP ∧ OwnS 56 3 r mm.length (mmcells mm) LB ∧ MmsIn mm LP ∧ mm.map (·.s) = ms
theorem MsAt.nil : MsAt (.slice none 0 0) [] [] := ⟨[], [], [], rfl, OwnS.nil _ _, nofun, rfl⟩
/-- a replica -/
structure Rp where
  id : Nat
  mem : Nat
  term : Nat
  lterm : Nat
  role : Nat
  log : List En
  n : Nat
  acks : Nat → Nat
structure Rp.ok (R : Rp) : Prop where
  m1 : 1 ≤ R.mem
  m3 : R.mem ≤ 3
  id : R.id < R.mem
  term : R.term ≤ 1073741824
  lterm : R.lterm ≤ 1073741824
  role : R.role ≤ 2
  log : R.log.length ≤ 1000
  n : R.n ≤ R.log.length
  es : ∀ e ∈ R.log, e.ok
def rpCells (R : Rp) (lv vv av : Value) : List Value := [.int .i64 (R.id : Int), .int .i64 (R.mem : Int), .int .i64 (R.term : Int), .int .i64 (R.lterm : Int), .int .i64 (R.role : Int), lv, .int .i64 (R.n : Int), vv, av]
def LogAt (l : List En) (lv : Value) (es : List Em) (LB LP : Hp) : Prop := OwnS 35 6 lv es.length (emcells es) LB ∧ EmsIn es LP ∧ ens es = l
def isMes (v : Value) : Prop := ∃ (k f t l n e : Int) (a : Option Addr) (len c : Nat), v = .agg #[.int .i64 k, .int .i64 f, .int .i64 t, .int .i64 l, .int .i64 n, .int .i64 e, .slice a len c]
def VotesAt (role : Nat) (vv : Value) (LV : Hp) : Prop := (vv = .map none ∧ LV = [] ∧ role ≠ 1) ∨ ∃ b o kvs, vv = .map (some b) ∧ LV = [(b, o)] ∧ MapI o kvs ∧ (∀ e ∈ kvs, isMes e.2) ∧ (role = 1 → kvs = [])
/-- the acknowledged numbers -/
structure AcksOk (R : Rp) (kvs : KVs) : Prop where
  mem : ∀ k v, (k, v) ∈ kvs → ∃ j : Nat, k = (j : Int) ∧ j < R.mem ∧ j ≠ R.id ∧ v = .int .i64 (R.acks j : Int)
  none : ∀ j : Nat, lookI (j : Int) kvs = none → R.acks j = 0
def AcksAt (R : Rp) (av : Value) (LA : Hp) : Prop := ∃ b o kvs, av = .map (some b) ∧ LA = [(b, o)] ∧ MapI o kvs ∧ AcksOk R kvs
def RepAt (p : Nat) (R : Rp) (L : Hp) : Prop :=
  ∃ lv vv av es LB LP LV LA, L = (p, Blk 89 (rpCells R lv vv av)) :: (LB ++ (LP ++ (LV ++ LA))) ∧ LogAt R.log lv es LB LP ∧ VotesAt R.role vv LV ∧ (R.role = 2 → AcksAt R av LA) ∧ (∃ x, av = .map x) ∧ R.ok
def Rp.tos (R : Rp) (i : Nat) : List Nat := (List.range i).filter fun j => decide (j ≠ R.id)
def Rp.others (R : Rp) (m : Mg) : List Ms := (R.tos R.mem).map fun j => ⟨R.id, j, m⟩
def Rp.spreadM (R : Rp) : Mg := ⟨2, R.term, 0, R.n, 0, R.log⟩
theorem Rp.ok.spread {R : Rp} (h : R.ok) : R.spreadM.ok := ⟨by simp [spreadM], h.term, by simp [spreadM], h.n, by simp [spreadM], h.log, h.es⟩
theorem Rp.tos_succ (R : Rp) (i : Nat) : R.tos (i + 1) = if i = R.id then R.tos i else R.tos i ++ [i] := by
  rw [tos, List.range_succ, List.filter_append]
  by_cases h : i = R.id <;> simp [h, tos, List.filter_cons]
theorem Rp.tos_len (R : Rp) (i : Nat) : (R.tos i).length ≤ i := by
  have := List.length_filter_le (fun j => decide (j ≠ R.id)) (List.range i)
  rw [List.length_range] at this; exact this
theorem leader_ok (p : Nat) (cs : List Value) (role : Nat) (w0 : World) (hp : w0.heap[p]? = some (Blk 89 cs)) (hr : cs[4]? = some (.int .i64 (role : Int))) :
    Ret Try.prog 21 [.pointer (some ⟨p, 0, none⟩)].toArray w0 fun r w' => St [] w0 w' [] ∧ r = .bool (decide (role = 2)) := by
  have hc := cell_blk hp hr
  have hB := (Array.getElem?_eq_some_iff.1 hp).1
  refine Ret_start fun w hs => ?_
  refine Ret_of Try.func21 rfl Try.ntmps21 rfl ?_
  refine W_seq ?_
  refine W_region ?_
  refine s_assign rfl rfl ?_
  refine WL_nil ?_
  refine n_then ?_
  refine W_seq ?_
  refine W_region ?_
  refine s_move rfl rfl ?_
  refine s_nilCheck rfl rfl ?_
  refine s_fieldAddr rfl rfl (FA89_4 _ _) ?_
  refine s_load Try.isAgg3 rfl rfl ((hs.oldcell (a := ⟨p, 4, none⟩) hB (by simp)).trans hc) ?_
  refine s_eql rfl rfl rfl ?_
  refine s_assign rfl rfl ?_
  refine WL_nil ?_
  refine n_then ?_
  refine W_ret ?_
  refine end1 rfl rfl ⟨hs, ?_⟩; congr 1; apply Bool.eq_iff_iff.2; simp; omega
theorem term_ok (p : Nat) (cs : List Value) (term : Nat) (w0 : World) (hp : w0.heap[p]? = some (Blk 89 cs)) (hr : cs[2]? = some (.int .i64 (term : Int))) :
    Ret Try.prog 20 [.pointer (some ⟨p, 0, none⟩)].toArray w0 fun r w' => St [] w0 w' [] ∧ r = .int .i64 (term : Int) := by
  have hc := cell_blk hp hr
  have hB := (Array.getElem?_eq_some_iff.1 hp).1
  refine Ret_start fun w hs => ?_
  refine Ret_of Try.func20 rfl Try.ntmps20 rfl ?_
  refine W_seq ?_
  refine W_region ?_
  refine s_assign rfl rfl ?_
  refine WL_nil ?_
  refine n_then ?_
  refine W_seq ?_
  refine W_region ?_
  refine s_move rfl rfl ?_
  refine s_nilCheck rfl rfl ?_
  refine s_fieldAddr rfl rfl (FA89_2 _ _) ?_
  refine s_load Try.isAgg3 rfl rfl ((hs.oldcell (a := ⟨p, 2, none⟩) hB (by simp)).trans hc) ?_
  refine s_assign rfl rfl ?_
  refine WL_nil ?_
  refine n_then ?_
  refine W_ret ?_
  exact end1 rfl rfl ⟨hs, rfl⟩
theorem majority_ok (p : Nat) (cs : List Value) (mem n : Nat) (w0 : World) (hp : w0.heap[p]? = some (Blk 89 cs)) (hr : cs[1]? = some (.int .i64 (mem : Int))) (hn : n ≤ 1000) :
    Ret Try.prog 38 [.pointer (some ⟨p, 0, none⟩), .int .i64 (n : Int)].toArray w0 fun r w' => St [] w0 w' [] ∧ r = .bool (decide (mem < 2 * n)) := by
  have hc := cell_blk hp hr
  have hB := (Array.getElem?_eq_some_iff.1 hp).1
  refine Ret_start fun w hs => ?_
  refine Ret_of Try.func38 rfl Try.ntmps38 rfl ?_
  refine W_seq ?_
  refine W_region ?_
  refine s_assign rfl rfl ?_
  refine WL_nil ?_
  refine n_then ?_
  refine W_seq ?_
  refine W_region ?_
  refine s_move rfl rfl ?_
  first | (refine s_mul' rfl rfl rfl ?hx ?_; case hx => (constructor <;> first | omega | (simp only; omega)))
  refine s_move rfl rfl ?_
  refine s_nilCheck rfl rfl ?_
  refine s_fieldAddr rfl rfl (FA89_1 _ _) ?_
  refine s_load Try.isAgg3 rfl rfl ((hs.oldcell (a := ⟨p, 1, none⟩) hB (by simp)).trans hc) ?_
  refine s_gtr rfl rfl rfl ?_
  refine s_assign rfl rfl ?_
  refine WL_nil ?_
  refine n_then ?_
  refine W_ret ?_
  refine end1 rfl rfl ⟨hs, ?_⟩; congr 1; apply Bool.eq_iff_iff.2; simp; omega
structure OtS where
  i : Nat
  mm : List Mm
  v : Value
  LB : Hp
  LP : Hp
set_option maxHeartbeats 2000000 in
theorem others_ok (p : Nat) (R : Rp) (cs : List Value) (m : Mg) (lv : Value) (es : List Em) (LR : Hp) (w0 : World) (hp : w0.heap[p]? = some (Blk 89 cs)) (h0 : cs[0]? = some (.int .i64 (R.id : Int))) (h1 : cs[1]? = some (.int .i64 (R.mem : Int))) (hmem : R.mem ≤ 3)
    (hv : Sl w0 lv es.length (emcells es)) (hin : EmsIn es LR) (hR : ∀ q ∈ LR, w0.heap[q.1]? = some q.2) (hl : ens es = m.log) (hm : m.ok) :
    Ret Try.prog 40 [.pointer (some ⟨p, 0, none⟩), .agg (mesCells m 0 lv).toArray].toArray w0 fun r w' => ∃ Lr, MsAt r (R.others m) Lr ∧ St [] w0 w' Lr := by
  have c0 := cell_blk hp h0
  have c1 := cell_blk hp h1
  have hB := (Array.getElem?_eq_some_iff.1 hp).1
  obtain ⟨a, c, rfl, hac⟩ := hv.len_le
  refine Ret_start fun w hs => ?_
  refine Ret_of Try.func40 rfl Try.ntmps40 rfl ?_
  refine W_seq ?_
  refine W_region ?_
  first | refine s_box rfl rfl hs ?_
  clear hs; intro b3 w hs
  refine s_assign rfl rfl ?_
  refine WL_nil ?_
  refine n_then ?_
  refine W_seq ?_
  refine W_region ?_
  refine s_assign rfl rfl ?_
  refine WL_nil ?_
  refine n_then ?_
  refine W_seq ?_
  refine W_seq ?_
  refine W_region ?_
  refine s_move rfl rfl ?_
  refine s_nilCheck rfl rfl ?_
  refine s_fieldAddr rfl rfl (FA89_1 _ _) ?_
  refine s_load Try.isAgg3 rfl rfl ((hs.oldcell (a := ⟨p, 1, none⟩) hB (by simp)).trans c1) ?_
  refine s_move rfl rfl ?_
  refine WL_nil ?_
  refine n_then ?_
  refine W_block ?_
  refine W_loop (σ := OtS) (fun s => [(0, .pointer (some ⟨p, 0, none⟩)), (3, .pointer (some ⟨b3, 0, none⟩)), (5, s.v), (10, .int .i64 (R.mem : Int)), (11, .int .i64 (s.i : Int))])
    (fun s w => St [] w0 w ([(b3, Blk 94 (mesCells m 0 (.slice a es.length c)))] ++ (s.LB ++ s.LP)) ∧ OwnS 56 3 s.v s.mm.length (mmcells s.mm) s.LB ∧ MmsIn s.mm s.LP ∧ s.mm.map (·.s) = (R.tos s.i).map (fun j => ⟨R.id, j, m⟩) ∧ s.i ≤ R.mem) (fun s => R.mem - s.i) ⟨0, [], .slice none 0 0, [], []⟩ ⟨rfl, rfl, rfl, rfl, rfl, trivial⟩ ⟨hs, OwnS.nil _ _, nofun, rfl, Nat.zero_le _⟩ ?_
  clear hs
  rintro ⟨i, mm, v, LB, LP⟩ w ⟨hs, hO, hM, hmm, hi⟩
  simp only at hs hO hM hmm hi ⊢
  refine W_seq ?_
  refine W_region ?_
  refine s_lss rfl rfl rfl ?_
  refine WL_nil ?_
  refine n_then ?_
  refine W_seq ?_
  refine W_cond rfl (fun hc12 => ?_) (fun hc12 => ?_)
  · skip
    try simp only [decide_eq_true_eq, decide_eq_false_iff_not, bne_iff_ne, ne_eq, bne_eq_false_iff_eq, Bool.not_eq_true', Bool.not_eq_false', Int.natCast_inj] at hc12
    have hil : i < R.mem := by omega
    refine W_skip ?_
    refine n_then ?_
    refine W_seq ?_
    refine W_block ?_
    refine W_seq ?_
    refine W_region ?_
    refine s_move rfl rfl ?_
    refine s_assign rfl rfl ?_
    refine WL_nil ?_
    refine n_then ?_
    refine W_seq ?_
    refine W_region ?_
    refine s_move rfl rfl ?_
    refine s_move rfl rfl ?_
    refine s_nilCheck rfl rfl ?_
    refine s_fieldAddr rfl rfl (FA89_0 _ _) ?_
    refine s_load Try.isAgg3 rfl rfl ((hs.oldcell (a := ⟨p, 0, none⟩) hB (by simp)).trans c0) ?_
    refine s_neq rfl rfl rfl ?_
    refine WL_nil ?_
    refine n_then ?_
    refine W_cond rfl (fun hc19 => ?_) (fun hc19 => ?_)
    · skip
      try simp only [decide_eq_true_eq, decide_eq_false_iff_not, bne_iff_ne, ne_eq, bne_eq_false_iff_eq, Bool.not_eq_true', Bool.not_eq_false', Int.natCast_inj] at hc19
      refine W_draw [(0, true, []), (1, true, []), (2, true, []), (3, true, []), (4, true, []), (5, true, []), (6, true, []), (7, false, [0, 1, 2, 3, 4, 5]), (8, true, []), (9, false, [0]), (10, false, []), (11, true, [])] [[], [], [1], [1, 2], [1, 2, 3], [], [], [6], [1, 2, 3, 4, 5, 6, 7], [1, 2, 3, 4, 5, 6, 7, 8], [0, 1, 2, 3, 4, 5, 6, 7, 8, 9], [0, 1, 2, 3, 4, 5, 6, 7, 8, 9, 10]] MX (by kernel_rfl) ?_
      intro w1 hw1 hw2 hw3 hw4; replace hs := hs.redrawn hw1 hw2 hw3 hw4; clear hw1 hw2 hw3 hw4
      obtain ⟨w, rfl⟩ : ∃ w : World, w = w1 := ⟨_, rfl⟩
      refine D_q rfl rfl ?_
      refine s_move rfl rfl ?_
      refine D_qn ?_
      refine D_q rfl rfl ?_
      refine s_move rfl rfl ?_
      refine D_qn ?_
      refine D_q rfl rfl ?_
      refine s_nilCheck rfl rfl ?_
      refine D_qn ?_
      refine D_q rfl rfl ?_
      refine s_fieldAddr rfl rfl (FA89_0 _ _) ?_
      refine D_qn ?_
      refine D_q rfl rfl ?_
      refine s_load Try.isAgg3 rfl rfl ((hs.oldcell (a := ⟨p, 0, none⟩) hB (by simp)).trans c0) ?_
      refine D_qn ?_
      refine D_q rfl rfl ?_
      refine s_move rfl rfl ?_
      refine D_qn ?_
      refine D_q rfl rfl ?_
      first
        | refine s_loadW Try.isAgg94 Try.sizeOf94 rfl rfl hs (kk := 0) rfl rfl ?_
      refine D_qn ?_
      refine D_e rfl ?_
      refine s_call Try.call64 rfl rfl (mEncode_ok m 0 _ es LR w (hv.fwd0 hs.fwd) hin (hs.oldH hR (by simp)) hl hm) ?_
      rintro r w ⟨Lr, hOr, hst⟩
      replace hs := St.back0 hs hst
      clear hst
      obtain ⟨_, rc, ra, rfl, hrl⟩ := hOr.form
      subst hrl
      refine D_en ?re ?_
      case re =>
        refine Reks_cons rfl rfl rfl rfl ?_ ?_
        · skip
          refine s_move rfl rfl ?_
          exact Rek_end rfl
        refine Reks_cons rfl rfl rfl rfl ?_ ?_
        · skip
          refine s_move rfl rfl ?_
          exact Rek_end rfl
        refine Reks_cons rfl rfl rfl rfl ?_ ?_
        · skip
          refine s_nilCheck rfl rfl ?_
          exact Rek_end rfl
        refine Reks_cons rfl rfl rfl rfl ?_ ?_
        · skip
          refine s_fieldAddr rfl rfl (FA89_0 _ _) ?_
          exact Rek_end rfl
        refine Reks_cons rfl rfl rfl rfl ?_ ?_
        · skip
          refine s_load Try.isAgg3 rfl rfl ((hs.oldcell (a := ⟨p, 0, none⟩) hB (by simp)).trans c0) ?_
          exact Rek_end rfl
        refine Reks_cons rfl rfl rfl rfl ?_ ?_
        · skip
          refine s_move rfl rfl ?_
          exact Rek_end rfl
        exact Reks_nil
      refine D_q rfl rfl ?_
      refine s_build rfl rfl (BD56_0_1_2 _ _ _ _ _) ?_
      refine D_qn ?_
      refine D_e rfl ?_
      refine s_buildSlice rfl rfl (BS29_1 _ _ _) hs ?_; clear hs; intro b29 w hs
      refine D_en ?re ?_
      case re =>
        refine Reks_cons rfl rfl rfl rfl ?_ ?_
        · skip
          refine s_move rfl rfl ?_
          exact Rek_end rfl
        exact Reks_nil
      refine D_e rfl ?_
      have hmml : mm.length ≤ 3 := by have := R.tos_len i; have h9 := congrArg List.length hmm; simp only [List.length_map] at h9; omega
      refine s_appendM (M := (b29, Blk 56 [.int .i64 (R.id : Int), .int .i64 (i : Int), .slice ra (mesB m).length rc]) :: (Lr ++ [_])) (X := LP) El29 rfl rfl rfl hO (by simpa using hs) (hs.sl (k := 0) (ds := [_, _, _]) rfl (Nat.le_refl _) (by intro j u hj; rw [Nat.zero_add]; exact hj)) rfl (by simp [Value.oneCell']) (by omega) ?_
      clear hs hO; intro v' w LB' hO hs
      replace hs : St [] w0 w ([(b3, Blk 94 (mesCells m 0 (.slice a es.length c)))] ++ (LB' ++ (LP ++ Lr))) := by simpa [cat] using St.reord [[_], Lr, [_], LB', LP] [2, 3, 4, 1] [0] (by simpa [cat] using hs) rfl
      refine D_en ?re ?_
      case re =>
        exact Reks_nil
      refine D_q rfl rfl ?_
      refine s_assign rfl rfl ?_
      refine D_qn ?_
      refine D_nil ?_
      refine n_blk ?_
      refine n_then ?_
      refine W_region ?_
      first | (refine s_add' rfl rfl rfl ?hx ?_; case hx => (constructor <;> first | omega | (simp only; omega)))
      refine s_move rfl rfl ?_
      refine WL_nil ?_
      refine n_loop ?_
      first
        | (refine ⟨⟨i + 1, mm ++ [⟨⟨R.id, i, m⟩, .slice ra (mesB m).length rc⟩], v', LB', LP ++ Lr⟩, ⟨rfl, rfl, rfl, rfl, rfl, trivial⟩, ⟨hs, ?_, ?_, ?_, by simp only; omega⟩, by simp only; omega⟩
           · simpa [mmcells_append, mmcells, Mm.cells] using hO
           · exact MmsIn.append (hM.mono fun q hq => by simp [hq]) (fun x hx => by obtain rfl := List.mem_singleton.1 hx; exact RdS.mono' hOr.rdS fun q hq => by simp [hq])
           · rw [List.map_append, hmm, Rp.tos_succ, if_neg (by omega), List.map_append]; rfl)
    · skip
      try simp only [decide_eq_true_eq, decide_eq_false_iff_not, bne_iff_ne, ne_eq, bne_eq_false_iff_eq, Bool.not_eq_true', Bool.not_eq_false', Int.natCast_inj] at hc19
      refine W_skip ?_
      refine n_blk ?_
      refine n_then ?_
      refine W_region ?_
      first | (refine s_add' rfl rfl rfl ?hx ?_; case hx => (constructor <;> first | omega | (simp only; omega)))
      refine s_move rfl rfl ?_
      refine WL_nil ?_
      refine n_loop ?_
      first
        | (refine ⟨⟨i + 1, mm, v, LB, LP⟩, ⟨rfl, rfl, rfl, rfl, rfl, trivial⟩, ⟨hs, hO, hM, ?_, by simp only; omega⟩, by simp only; omega⟩
           rw [hmm, Rp.tos_succ, if_pos (by omega)])
  · skip
    try simp only [decide_eq_true_eq, decide_eq_false_iff_not, bne_iff_ne, ne_eq, bne_eq_false_iff_eq, Bool.not_eq_true', Bool.not_eq_false', Int.natCast_inj] at hc12
    refine W_exit ?_
    refine x_then ?_
    refine x_then ?_
    refine exit_hit ?_
    refine n_then ?_
    refine W_seq ?_
    refine W_region ?_
    refine s_move rfl rfl ?_
    refine s_assign rfl rfl ?_
    refine WL_nil ?_
    refine n_then ?_
    refine W_ret ?_
    obtain rfl : i = R.mem := by omega
    exact end1 rfl rfl ⟨LB ++ LP, ⟨mm, LB, LP, rfl, hO, hM, hmm⟩, hs.right⟩
end Go.Proofs.Ytkobigdfijeajaa
