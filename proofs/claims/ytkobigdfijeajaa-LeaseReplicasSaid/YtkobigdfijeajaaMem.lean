/- Memory: the assertion 'St' (owned blocks, everything else as it was), and rules of the operations that read, write or make memory. No program in sight. -/
import Derived.Test.YtkobigdfijeajaaOps
import Derived.Maps.AppendAt
set_option linter.unusedVariables false
set_option linter.unusedSimpArgs false
namespace Go.SL
abbrev Hp := List (Nat × Obj)
abbrev Blk (e : TypeId) (cs : List Value) : Obj := .cells cs.toArray e (0, 0)
def ids : Hp → List Nat
  | [] => []
  | p :: r => p.1 :: ids r
theorem ids_append (L M : Hp) : ids (L ++ M) = ids L ++ ids M := by induction L <;> simp_all [ids]
theorem mem_ids {L : Hp} {k : Nat} : k ∈ ids L ↔ ∃ o, (k, o) ∈ L := by
  induction L with
  | nil => simp [ids]
  | cons p r ih =>
    obtain ⟨b, o⟩ := p
    simp only [ids, List.mem_cons, ih, Prod.mk.injEq]
    constructor
    · rintro (rfl | ⟨o', h⟩)
      · exact ⟨o, .inl ⟨rfl, rfl⟩⟩
      · exact ⟨o', .inr h⟩
    · rintro ⟨o', ⟨rfl, _⟩ | h⟩
      · exact .inl rfl
      · exact .inr ⟨o', h⟩
theorem mem_ids_of {L : Hp} {p : Nat × Obj} (h : p ∈ L) : p.1 ∈ ids L := mem_ids.2 ⟨p.2, h⟩

/-- w' is w but for the blocks F and for new blocks -/
structure Fwd (F : List Nat) (w w' : World) : Prop where
  os : w'.os = w.os
  tape : w'.tape = w.tape
  output : w'.output = w.output
  size : w.heap.size ≤ w'.heap.size
  block : ∀ k, k < w.heap.size → k ∉ F → w'.heap[k]? = w.heap[k]?
theorem Fwd.refl (F : List Nat) (w : World) : Fwd F w w := ⟨rfl, rfl, rfl, Nat.le_refl _, fun _ _ _ => rfl⟩
theorem Fwd.trans {F : List Nat} {a b c : World} (h : Fwd F a b) (k : Fwd F b c) : Fwd F a c :=
  ⟨k.os.trans h.os, k.tape.trans h.tape, k.output.trans h.output, Nat.le_trans h.size k.size, fun i hi hF => (k.block i (Nat.lt_of_lt_of_le hi h.size) hF).trans (h.block i hi hF)⟩

/-- the blocks L are owned, read as said, and lie among F or are new since w0; all else is as it was in w0 -/
structure St (F : List Nat) (w0 w : World) (L : Hp) : Prop where
  fwd : Fwd F w0 w
  nodup : (ids L).Nodup
  own : ∀ p ∈ L, w.heap[p.1]? = some p.2
  new : ∀ p ∈ L, p.1 ∈ F ∨ w0.heap.size ≤ p.1
section
variable {F : List Nat} {w0 w w' : World} {L : Hp}
theorem St.nil (w : World) : St [] w w [] := ⟨Fwd.refl _ _, List.nodup_nil, by simp, by simp⟩
theorem Ret_start {P : Program} {f : FuncId} {args : Array Value} {R : Value → World → Prop} (h : ∀ w, St [] w0 w [] → Ret P f args w R) : Ret P f args w0 R := h w0 (St.nil w0)
theorem Ret_startL {P : Program} {f : FuncId} {args : Array Value} {R : Value → World → Prop} (hs : St F w0 w0 L) (h : ∀ w, St F w0 w L → Ret P f args w R) : Ret P f args w0 R := h w0 hs
theorem St.lt (h : St F w0 w L) {b : Nat} (hb : b ∈ ids L) : b < w.heap.size := by
  obtain ⟨o, ho⟩ := mem_ids.1 hb
  exact (Array.getElem?_eq_some_iff.1 (h.own _ ho)).1
theorem St.at (h : St F w0 w L) {k b : Nat} {o : Obj} (hk : L[k]? = some (b, o)) : w.heap[b]? = some o := h.own (b, o) (List.mem_of_getElem? hk)
theorem St.cell (h : St F w0 w L) {k b i : Nat} {e : TypeId} {fz : Nat × Nat} {cs : List Value} {v : Value} (hk : L[k]? = some (b, .cells cs.toArray e fz)) (hi : cs[i]? = some v) : w.cell? ⟨b, i, none⟩ = some v := by
  rw [cell_of_row w b i cs.toArray e fz (h.at hk)]; simpa using hi
theorem St.old (h : St F w0 w L) {b : Nat} (hb : b < w0.heap.size) (hF : b ∉ F) : w.heap[b]? = w0.heap[b]? := h.fwd.block b hb hF
theorem St.oldcell (h : St F w0 w L) {a : Addr} (hb : a.block < w0.heap.size) (hF : a.block ∉ F) : w.cell? a = w0.cell? a := World.cell?_of_block (h.old hb hF)
theorem St.alloc (h : St F w0 w L) (o : Obj) : St F w0 (w.alloc o) ((w.heap.size, o) :: L) := by
  refine ⟨⟨h.fwd.os, h.fwd.tape, h.fwd.output, by have := h.fwd.size; simp; omega, fun k hk hF => ?_⟩, ?_, ?_, ?_⟩
  · rw [heap_alloc_old w o k (Nat.lt_of_lt_of_le hk h.fwd.size)]; exact h.fwd.block k hk hF
  · simp only [ids, List.nodup_cons]
    exact ⟨fun hm => Nat.lt_irrefl _ (h.lt hm), h.nodup⟩
  · intro p hp
    rcases List.mem_cons.1 hp with rfl | hp
    · exact heap_alloc_new w o
    · rw [heap_alloc_old w o p.1 (h.lt (mem_ids_of hp))]; exact h.own p hp
  · intro p hp
    rcases List.mem_cons.1 hp with rfl | hp
    · exact .inr h.fwd.size
    · exact h.new p hp
theorem St.drew (h : St F w0 w L) : St F w0 w.drew L := ⟨⟨h.fwd.os, h.fwd.tape, h.fwd.output, h.fwd.size, h.fwd.block⟩, h.nodup, h.own, h.new⟩
theorem ids_set {L : Hp} {k b : Nat} {o o' : Obj} (hk : L[k]? = some (b, o)) : ids (L.set k (b, o')) = ids L := by
  induction L generalizing k with
  | nil => simp at hk
  | cons p r ih =>
    cases k with
    | zero => simp at hk; subst hk; simp [ids]
    | succ k => simp [ids, ih (by simpa using hk)]
/-- block k is written: the world w' has o' there, and is as w was elsewhere -/
theorem St.write (h : St F w0 w L) {k b : Nat} {o o' : Obj} (hk : L[k]? = some (b, o)) (hos : w'.os = w.os) (htape : w'.tape = w.tape) (hout : w'.output = w.output)
    (hsize : w'.heap.size = w.heap.size) (hb : w'.heap[b]? = some o') (hoth : ∀ j, j ≠ b → w'.heap[j]? = w.heap[j]?) : St F w0 w' (L.set k (b, o')) := by
  have hmem : (b, o) ∈ L := List.mem_of_getElem? hk
  refine ⟨⟨hos.trans h.fwd.os, htape.trans h.fwd.tape, hout.trans h.fwd.output, by rw [hsize]; exact h.fwd.size, fun j hj hF => ?_⟩, by rw [ids_set hk]; exact h.nodup, ?_, ?_⟩
  · have hne : j ≠ b := by
      rintro rfl
      rcases h.new _ hmem with h1 | h1
      · exact hF h1
      · simp at h1; omega
    rw [hoth j hne]; exact h.fwd.block j hj hF
  · have key : ∀ (L : Hp) (k : Nat), L[k]? = some (b, o) → (ids L).Nodup → (∀ p ∈ L, w.heap[p.1]? = some p.2) → ∀ p ∈ L.set k (b, o'), w'.heap[p.1]? = some p.2 := by
      intro L
      induction L with
      | nil => intro k hk; simp at hk
      | cons q r ih =>
        intro k hk hnd hown p hp
        simp only [ids, List.nodup_cons] at hnd
        cases k with
        | zero =>
          simp at hk; subst hk
          rw [List.set_cons_zero] at hp
          rcases List.mem_cons.1 hp with rfl | hp
          · exact hb
          · have : p.1 ≠ b := fun e => hnd.1 (by show b ∈ ids r; rw [← e]; exact mem_ids_of hp)
            rw [hoth _ this]; exact hown p (List.mem_cons_of_mem _ hp)
        | succ k =>
          rw [List.set_cons_succ] at hp
          have hk' : r[k]? = some (b, o) := by simpa using hk
          rcases List.mem_cons.1 hp with rfl | hp
          · have : p.1 ≠ b := fun e => hnd.1 (by rw [e]; exact mem_ids_of (List.mem_of_getElem? hk'))
            rw [hoth _ this]; exact hown _ (List.mem_cons_self)
          · exact ih k hk' hnd.2 (fun p hp => hown p (List.mem_cons_of_mem _ hp)) p hp
    exact key L k hk h.nodup h.own
  · intro p hp
    have : p.1 ∈ ids (L.set k (b, o')) := mem_ids_of hp
    rw [ids_set hk] at this
    obtain ⟨o2, ho2⟩ := mem_ids.1 this
    exact (h.new (p.1, o2) ho2 : _)
theorem St.setRow (h : St F w0 w L) {k b : Nat} {e : TypeId} {cs : Array Value} {fz : Nat × Nat} (hk : L[k]? = some (b, .cells cs e fz)) (cs' : Array Value) : St F w0 (w.setRow b cs') (L.set k (b, .cells cs' e fz)) :=
  h.write hk rfl rfl rfl (by simp [World.setRow]) (setRow_heap w b cs cs' e fz (h.at hk)) (fun j hj => setRow_other w b j cs' hj)
theorem St.perm {L' : Hp} (h : St F w0 w L) (hp : L.Perm L') : St F w0 w L' := by
  have hi : (ids L).Perm (ids L') := by
    have e : ∀ M : Hp, ids M = M.map Prod.fst := fun M => by induction M <;> simp_all [ids]
    rw [e, e]; exact hp.map _
  exact ⟨h.fwd, hi.nodup_iff.1 h.nodup, fun p hm => h.own p (hp.mem_iff.2 hm), fun p hm => h.new p (hp.mem_iff.2 hm)⟩
theorem St.left {M : Hp} (h : St F w0 w (L ++ M)) : St F w0 w L :=
  ⟨h.fwd, by have := h.nodup; rw [ids_append] at this; exact (List.nodup_append.1 this).1, fun p hp => h.own p (List.mem_append_left _ hp), fun p hp => h.new p (List.mem_append_left _ hp)⟩
theorem St.right {M : Hp} (h : St F w0 w (M ++ L)) : St F w0 w L :=
  ⟨h.fwd, by have := h.nodup; rw [ids_append] at this; exact (List.nodup_append.1 this).2.1, fun p hp => h.own p (List.mem_append_right _ hp), fun p hp => h.new p (List.mem_append_right _ hp)⟩
theorem St.tail {p : Nat × Obj} (h : St F w0 w (p :: L)) : St F w0 w L := St.right (M := [p]) h
/-- what a callee is handed: the blocks L, in the world of the call -/
theorem St.lend {M : Hp} (h : St F w0 w (L ++ M)) : St (ids L) w w L :=
  ⟨Fwd.refl _ _, h.left.nodup, h.left.own, fun p hp => .inl (mem_ids_of hp)⟩
/-- what comes back from it -/
theorem St.back {L' M : Hp} (h : St F w0 w (L ++ M)) (hc : St (ids L) w w' L') : St F w0 w' (L' ++ M) := by
  have hdis : ∀ b, b ∈ ids L → b ∉ ids M := by
    have := h.nodup; rw [ids_append] at this
    exact fun b h1 h2 => (List.nodup_append.1 this).2.2 b h1 b h2 rfl
  have hM : ∀ p ∈ M, w'.heap[p.1]? = some p.2 := fun p hp => by
    have hid := mem_ids_of hp
    rw [hc.fwd.block p.1 (h.right.lt hid) (fun hl => hdis _ hl hid)]
    exact h.own p (List.mem_append_right _ hp)
  refine ⟨⟨hc.fwd.os.trans h.fwd.os, hc.fwd.tape.trans h.fwd.tape, hc.fwd.output.trans h.fwd.output, Nat.le_trans h.fwd.size hc.fwd.size, fun k hk hF => ?_⟩, ?_, ?_, ?_⟩
  · rw [hc.fwd.block k (Nat.lt_of_lt_of_le hk h.fwd.size) ?_, h.fwd.block k hk hF]
    intro hl
    obtain ⟨o, ho⟩ := mem_ids.1 hl
    rcases h.left.new _ ho with h1 | h1
    · exact hF h1
    · simp at h1; omega
  · rw [ids_append]
    refine List.nodup_append.2 ⟨hc.nodup, h.right.nodup, ?_⟩
    rintro b h1 c h2 rfl
    obtain ⟨o, ho⟩ := mem_ids.1 h1
    rcases hc.new _ ho with h3 | h3
    · exact hdis _ h3 h2
    · have := h.right.lt h2; simp at h3; omega
  · intro p hp
    rcases List.mem_append.1 hp with hp | hp
    · exact hc.own p hp
    · exact hM p hp
  · intro p hp
    rcases List.mem_append.1 hp with hp | hp
    · rcases hc.new p hp with h3 | h3
      · obtain ⟨o, ho⟩ := mem_ids.1 h3
        exact (h.left.new (p.1, o) ho : _)
      · exact .inr (Nat.le_trans h.fwd.size h3)
    · exact h.new p (List.mem_append_right _ hp)
/-- a callee that owns nothing of ours -/
theorem St.back0 {L' : Hp} (h : St F w0 w L) (hc : St [] w w' L') : St F w0 w' (L' ++ L) := St.back (L := []) (M := L) h hc
end
end Go.SL
