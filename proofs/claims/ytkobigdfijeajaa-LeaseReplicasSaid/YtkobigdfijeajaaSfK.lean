/- The protocol's safety: ghosts, leader completeness. No program in sight. -/
import Derived.Test.YtkobigdfijeajaaRpO
set_option linter.unusedVariables false
set_option linter.unusedSimpArgs false
namespace Go.Proofs.Ytkobigdfijeajaa
open Go.SL
/-- what is remembered of every term -/
structure Gh where
  led : Nat → Prop
  IL : Nat → List En
  LL : Nat → List En
  clt : Nat → Nat
  qv : Nat → Nat
def lexLe (a b c d : Nat) : Prop := a < c ∨ (a = c ∧ b ≤ d)
theorem lexLe.refl (a b : Nat) : lexLe a b a b := .inr ⟨rfl, Nat.le_refl _⟩
theorem lexLe.trans {a b c d e f : Nat} (h : lexLe a b c d) (g : lexLe c d e f) : lexLe a b e f := by unfold lexLe at *; omega
def AckOf (M : Ms → Prop) (i t n : Nat) : Prop := ∃ x, M x ∧ x.frm = i ∧ x.m.kind = 3 ∧ x.m.term = t ∧ n ≤ x.m.ents
def accd (k : Nat) (G : Gh) (M : Ms → Prop) (i t n : Nat) : Prop := AckOf M i t n ∨ (t % k = i ∧ G.led t ∧ n ≤ (G.LL t).length)
def LogOk (G : Gh) (t : Nat) (l : List En) : Prop := (t = 0 ∧ l = []) ∨ (G.led t ∧ G.IL t <+: l ∧ l <+: G.LL t)
def Acked (k : Nat) (G : Gh) (M : Ms → Prop) (t n : Nat) : Prop := G.led t ∧ (G.IL t).length ≤ n ∧ n ≤ (G.LL t).length ∧ (k = 1 ∨ ∃ j, j < k ∧ j ≠ t % k ∧ AckOf M j t n)
def Com (k : Nat) (G : Gh) (M : Ms → Prop) (T : Nat) (l : List En) : Prop := l = [] ∨ ∃ t n, t ≤ T ∧ Acked k G M t n ∧ l <+: (G.LL t).take n
structure RepInv (k : Nat) (G : Gh) (M : Ms → Prop) (i : Nat) (R : Rp) : Prop where
  ok : R.ok
  id : R.id = i
  mem : R.mem = k
  lt : R.lterm ≤ R.term
  log : LogOk G R.lterm R.log
  com : Com k G M R.lterm (R.log.take R.n)
  lead : R.role = 2 → R.lterm = R.term ∧ G.led R.term ∧ R.log = G.LL R.term ∧ R.term % k = i
  cand : R.role = 1 → R.term % k = i ∧ 1 ≤ R.term ∧ ¬ G.led R.term
  own : 1 ≤ R.term → R.term % k = i → R.role ≠ 0
  acks : R.role = 2 → ∀ j, R.acks j = 0 ∨ (j < k ∧ j ≠ i ∧ ∃ x, M x ∧ x.frm = j ∧ x.m.kind = 3 ∧ x.m.term = R.term ∧ x.m.ents = R.acks j)
structure MsgInv (k : Nat) (G : Gh) (M : Ms → Prop) (R : Nat → Rp) (x : Ms) : Prop where
  ok : x.m.ok
  frm : x.frm < k
  to : x.to < k
  ne : x.frm ≠ x.to
  term : x.m.term ≤ (R x.frm).term
  ask : x.m.kind = 0 → x.m.term % k = x.frm ∧ 1 ≤ x.m.term
  vote : x.m.kind = 1 → x.m.lterm ≤ x.m.term ∧ LogOk G x.m.lterm x.m.log ∧ Com k G M x.m.lterm (x.m.log.take x.m.n) ∧ ∀ t n, accd k G M x.frm t n → t < x.m.term → lexLe t n x.m.lterm x.m.log.length
  write : x.m.kind = 2 → G.led x.m.term ∧ LogOk G x.m.term x.m.log ∧ Com k G M x.m.term (x.m.log.take x.m.n) ∧ x.m.term % k = x.frm ∧ 1 ≤ x.m.term
  ack : x.m.kind = 3 → G.led x.m.term ∧ (G.IL x.m.term).length ≤ x.m.ents ∧ x.m.ents ≤ (G.LL x.m.term).length ∧ x.frm ≠ x.m.term % k
structure LedInv (k : Nat) (G : Gh) (M : Ms → Prop) (R : Nat → Rp) (t : Nat) : Prop where
  one : 1 ≤ t
  term : t ≤ (R (t % k)).term
  grow : G.IL t <+: G.LL t
  clt : G.clt t < t
  log : LogOk G (G.clt t) (G.IL t)
  qv : k ≠ 1 → G.qv t < k ∧ G.qv t ≠ t % k ∧ t ≤ (R (G.qv t)).term
  acc : ∀ i, (i = t % k ∨ (k ≠ 1 ∧ i = G.qv t)) → ∀ t0 n, accd k G M i t0 n → t0 < t → lexLe t0 n (G.clt t) (G.IL t).length
structure Inv (k : Nat) (G : Gh) (M : Ms → Prop) (R : Nat → Rp) : Prop where
  k1 : 1 ≤ k
  k3 : k ≤ 3
  rep : ∀ i, i < k → RepInv k G M i (R i)
  msg : ∀ x, M x → MsgInv k G M R x
  led : ∀ t, G.led t → LedInv k G M R t
  acc : ∀ i t n, i < k → accd k G M i t n → t ≤ (R i).term ∧ lexLe t n (R i).lterm (R i).log.length
theorem take_pre {l L : List En} {n : Nat} (h : l <+: L) (hn : n ≤ l.length) : L.take n <+: l := by
  have := List.prefix_iff_eq_take.1 h
  rw [this]
  rw [show L.take n = (L.take l.length).take n from by rw [List.take_take, Nat.min_eq_left hn]]
  exact List.take_prefix _ _
/-- leader completeness -/
theorem LC {k : Nat} {G : Gh} {M : Ms → Prop} {R : Nat → Rp} (h : Inv k G M R) {t n : Nat} (hA : Acked k G M t n) : ∀ t', G.led t' → t < t' → (G.LL t).take n <+: G.IL t' := by
  intro t'
  induction t' using Nat.strongRecOn with
  | _ t' ih =>
    intro hl ht
    have L := h.led t' hl
    obtain ⟨hA1, hA2, hA3, hA4⟩ := hA
    have hk1 := h.k1
    have hk3 := h.k3
    have hself : accd k G M (t % k) t n := .inr ⟨rfl, hA1, hA3⟩
    have hlex : lexLe t n (G.clt t') (G.IL t').length := by
      rcases hA4 with h1 | ⟨j, hj1, hj2, hj3⟩
      · exact L.acc (t % k) (.inl (by rw [h1, Nat.mod_one, Nat.mod_one])) t n hself ht
      · have hm := Nat.mod_lt t (show 0 < k by omega)
        have hm' := Nat.mod_lt t' (show 0 < k by omega)
        have hk : k ≠ 1 := by omega
        obtain ⟨q1, q2, _⟩ := L.qv hk
        have : t % k = t' % k ∨ t % k = G.qv t' ∨ j = t' % k ∨ j = G.qv t' := by omega
        rcases this with e | e | e | e
        · exact L.acc _ (.inl e) t n hself ht
        · exact L.acc _ (.inr ⟨hk, e⟩) t n hself ht
        · exact L.acc _ (.inl e) t n (.inl hj3) ht
        · exact L.acc _ (.inr ⟨hk, e⟩) t n (.inl hj3) ht
    rcases L.log with ⟨e1, e2⟩ | ⟨e1, e2, e3⟩
    · rcases hlex with h1 | ⟨h1, h2⟩
      · omega
      · rw [e2] at h2
        have : n = 0 := by simpa using h2
        rw [this]; simp
    · rcases hlex with h1 | ⟨h1, h2⟩
      · exact (ih (G.clt t') L.clt e1 h1).trans e2
      · rw [← h1] at e3
        exact take_pre e3 h2
end Go.Proofs.Ytkobigdfijeajaa

/- The protocol's safety: what a step must show. -/
namespace Go.Proofs.Ytkobigdfijeajaa
open Go.SL
structure Ext (G G' : Gh) (M M' : Ms → Prop) : Prop where
  led : ∀ t, G.led t → G'.led t
  IL : ∀ t, G.led t → G'.IL t = G.IL t
  LL : ∀ t, G.led t → G.LL t <+: G'.LL t
  clt : ∀ t, G.led t → G'.clt t = G.clt t
  qv : ∀ t, G.led t → G'.qv t = G.qv t
  msg : ∀ x, M x → M' x
section
variable {k : Nat} {G G' : Gh} {M M' : Ms → Prop}
theorem Ext.refl (G : Gh) (hm : ∀ x, M x → M' x) : Ext G G M M' := ⟨fun _ h => h, fun _ _ => rfl, fun _ _ => List.prefix_refl _, fun _ _ => rfl, fun _ _ => rfl, hm⟩
theorem Ext.logOk (h : Ext G G' M M') {t : Nat} {l : List En} (hl : LogOk G t l) : LogOk G' t l := by
  rcases hl with hl | ⟨a, b, c⟩
  · exact .inl hl
  · exact .inr ⟨h.led t a, by rw [h.IL t a]; exact b, c.trans (h.LL t a)⟩
theorem Ext.ackOf (h : Ext G G' M M') {i t n : Nat} (ha : AckOf M i t n) : AckOf M' i t n := by
  obtain ⟨x, h1, h2⟩ := ha; exact ⟨x, h.msg x h1, h2⟩
theorem Ext.acked (h : Ext G G' M M') {t n : Nat} (ha : Acked k G M t n) : Acked k G' M' t n := by
  obtain ⟨a, b, c, d⟩ := ha
  refine ⟨h.led t a, by rw [h.IL t a]; exact b, Nat.le_trans c (h.LL t a).length_le, ?_⟩
  rcases d with d | ⟨j, d1, d2, d3⟩
  · exact .inl d
  · exact .inr ⟨j, d1, d2, h.ackOf d3⟩
theorem take_grow {L L' : List En} (h : L <+: L') {n : Nat} (hn : n ≤ L.length) : L'.take n = L.take n := by
  obtain ⟨s, rfl⟩ := h
  exact List.take_append_of_le_length hn
theorem Ext.com (h : Ext G G' M M') {T : Nat} {l : List En} (hc : Com k G M T l) : Com k G' M' T l := by
  rcases hc with hc | ⟨t, n, h1, h2, h3⟩
  · exact .inl hc
  · refine .inr ⟨t, n, h1, h.acked h2, ?_⟩
    rw [take_grow (h.LL t h2.1) h2.2.2.1]; exact h3
theorem Com.le {T T' : Nat} {l : List En} (h : Com k G M T l) (ht : T ≤ T') : Com k G M T' l := by
  rcases h with h | ⟨t, n, h1, h2⟩
  · exact .inl h
  · exact .inr ⟨t, n, Nat.le_trans h1 ht, h2⟩
theorem Com.pre {T : Nat} {l l' : List En} (h : Com k G M T l) (hl : l' <+: l) : Com k G M T l' := by
  rcases h with h | ⟨t, n, h1, h2, h3⟩
  · rw [h] at hl; exact .inl (List.prefix_nil.1 hl)
  · exact .inr ⟨t, n, h1, h2, hl.trans h3⟩
theorem Inv.step {R : Nat → Rp} (h : Inv k G M R) {a : Nat} (ha : a < k) (R' : Rp) (R2 : Nat → Rp) (hRa : R2 a = R') (hRo : ∀ j, j ≠ a → R2 j = R j)
    (he : Ext G G' M M') (hterm : (R a).term ≤ R'.term) (hpos : lexLe (R a).lterm (R a).log.length R'.lterm R'.log.length)
    (hrep : RepInv k G' M' a R') (hmsg : ∀ x, M' x → M x ∨ MsgInv k G' M' R2 x) (hled : ∀ t, G'.led t → G.led t ∨ LedInv k G' M' R2 t)
    (hLL : ∀ t, t % k ≠ a → (G'.led t → G.led t) ∧ (G.led t → G'.LL t = G.LL t))
    (hacc : ∀ i t n, i < k → accd k G' M' i t n → accd k G M i t n ∨ (i = a ∧ t = R'.term ∧ lexLe t n R'.lterm R'.log.length)) : Inv k G' M' R2 := by
  have hmono : ∀ i, (R i).term ≤ (R2 i).term := fun i => by
    by_cases hi : i = a
    · rw [hi, hRa]; exact hterm
    · rw [hRo i hi]; exact Nat.le_refl _
  have hk := h.k1
  refine ⟨h.k1, h.k3, fun j hj => ?_, fun x hx => ?_, fun t ht => ?_, fun i t n hi hx => ?_⟩
  · by_cases hja : j = a
    · rw [hja, hRa]; exact hrep
    · rw [hRo j hja]
      have r := h.rep j hj
      refine ⟨r.ok, r.id, r.mem, r.lt, he.logOk r.log, he.com r.com, fun h2 => ?_, fun h1 => ?_, r.own, fun h2 i => ?_⟩
      · obtain ⟨b1, b2, b3, b4⟩ := r.lead h2
        exact ⟨b1, he.led _ b2, by rw [(hLL _ (by rw [b4]; exact hja)).2 b2]; exact b3, b4⟩
      · obtain ⟨b1, b2, b3⟩ := r.cand h1
        exact ⟨b1, b2, fun hl => b3 ((hLL _ (by rw [b1]; exact hja)).1 hl)⟩
      · rcases r.acks h2 i with b | ⟨b1, b2, x, b3, b4⟩
        · exact .inl b
        · exact .inr ⟨b1, b2, x, he.msg x b3, b4⟩
  · rcases hmsg x hx with hold | hnew
    · have q := h.msg x hold
      refine ⟨q.ok, q.frm, q.to, q.ne, Nat.le_trans q.term (hmono _), q.ask, fun h1 => ?_, fun h2 => ?_, fun h3 => ?_⟩
      · obtain ⟨b1, b2, b3, b4⟩ := q.vote h1
        refine ⟨b1, he.logOk b2, he.com b3, fun t n hx ht => ?_⟩
        rcases hacc _ t n q.frm hx with c | ⟨c1, c2, _⟩
        · exact b4 t n c ht
        · have := q.term; rw [c1] at this; omega
      · obtain ⟨b1, b2, b3, b4⟩ := q.write h2
        exact ⟨he.led _ b1, he.logOk b2, he.com b3, b4⟩
      · obtain ⟨b1, b2, b3, b4⟩ := q.ack h3
        exact ⟨he.led _ b1, by rw [he.IL _ b1]; exact b2, Nat.le_trans b3 (he.LL _ b1).length_le, b4⟩
    · exact hnew
  · rcases hled t ht with hold | hnew
    · have q := h.led t hold
      refine ⟨q.one, Nat.le_trans q.term (hmono _), by rw [he.IL t hold]; exact q.grow.trans (he.LL t hold), by rw [he.clt t hold]; exact q.clt, by rw [he.clt t hold, he.IL t hold]; exact he.logOk q.log, fun h1 => ?_, fun i hi t0 n hx ht0 => ?_⟩
      · obtain ⟨b1, b2, b3⟩ := q.qv h1
        rw [he.qv t hold]
        exact ⟨b1, b2, Nat.le_trans b3 (hmono _)⟩
      · rw [he.clt t hold, he.IL t hold]
        rw [he.qv t hold] at hi
        have hik : i < k ∧ t ≤ (R i).term := by
          rcases hi with hi | ⟨h1, hi⟩
          · rw [hi]; exact ⟨Nat.mod_lt _ (by omega), q.term⟩
          · rw [hi]; exact ⟨(q.qv h1).1, (q.qv h1).2.2⟩
        rcases hacc i t0 n hik.1 hx with c | ⟨c1, c2, _⟩
        · exact q.acc i hi t0 n c ht0
        · have := hik.2; rw [c1] at this; omega
    · exact hnew
  · rcases hacc i t n hi hx with c | ⟨c1, c2, c3⟩
    · obtain ⟨b1, b2⟩ := h.acc i t n hi c
      refine ⟨Nat.le_trans b1 (hmono _), ?_⟩
      by_cases hia : i = a
      · rw [hia, hRa]; rw [hia] at b2; exact b2.trans hpos
      · rw [hRo i hia]; exact b2
    · rw [c1, hRa]; exact ⟨by omega, c3⟩
end
end Go.Proofs.Ytkobigdfijeajaa

/- The protocol's safety: quiet steps, Elect without a lead. -/
namespace Go.Proofs.Ytkobigdfijeajaa
open Go.SL
def addM (M : Ms → Prop) (l : List Ms) : Ms → Prop := fun x => M x ∨ x ∈ l
def updR (R : Nat → Rp) (a : Nat) (r : Rp) : Nat → Rp := fun j => if j = a then r else R j
section
variable {k : Nat} {G : Gh} {M : Ms → Prop} {R : Nat → Rp} {a : Nat}
theorem updR_a (r : Rp) : updR R a r a = r := if_pos rfl
theorem updR_o (r : Rp) {j : Nat} (h : j ≠ a) : updR R a r j = R j := if_neg h
theorem others_mem {r : Rp} {m : Mg} {x : Ms} (h : x ∈ r.others m) : ∃ j, j < r.mem ∧ j ≠ r.id ∧ x = ⟨r.id, j, m⟩ := by
  obtain ⟨j, hj, rfl⟩ := List.mem_map.1 h
  have := List.mem_filter.1 hj
  exact ⟨j, List.mem_range.1 this.1, by simpa using this.2, rfl⟩
theorem ackOf_add {l : List Ms} (hl : ∀ x ∈ l, x.m.kind ≠ 3) {i t n : Nat} (h : AckOf (addM M l) i t n) : AckOf M i t n := by
  obtain ⟨x, h1 | h1, h2, h3, h4⟩ := h
  · exact ⟨x, h1, h2, h3, h4⟩
  · exact absurd h3 (hl x h1)
theorem accd_add {l : List Ms} (hl : ∀ x ∈ l, x.m.kind ≠ 3) {i t n : Nat} (h : accd k G (addM M l) i t n) : accd k G M i t n := by
  rcases h with h | h
  · exact .inl (ackOf_add hl h)
  · exact .inr h
theorem Inv.quiet (h : Inv k G M R) (ha : a < k) (R' : Rp) (l : List Ms) (hterm : (R a).term ≤ R'.term) (hpos : lexLe (R a).lterm (R a).log.length R'.lterm R'.log.length)
    (hrep : RepInv k G (addM M l) a R') (hmsg : ∀ x ∈ l, MsgInv k G (addM M l) (updR R a R') x) (hl : ∀ x ∈ l, x.m.kind ≠ 3) : Inv k G (addM M l) (updR R a R') :=
  h.step ha R' _ (updR_a R') (fun j hj => updR_o R' hj) (Ext.refl G fun _ hx => .inl hx) hterm hpos hrep (fun x hx => hx.elim .inl fun hx => .inr (hmsg x hx)) (fun t ht => .inl ht) (fun t _ => ⟨fun h => h, fun _ => rfl⟩) (fun i t n _ hx => .inl (accd_add hl hx))
theorem RepInv.add (h : RepInv k G M a (R a)) (l : List Ms) : RepInv k G (addM M l) a (R a) := by
  have he : Ext G G M (addM M l) := Ext.refl G fun _ hx => .inl hx
  exact ⟨h.ok, h.id, h.mem, h.lt, h.log, he.com h.com, h.lead, h.cand, h.own, fun h2 j => (h.acks h2 j).imp (fun h => h) fun ⟨b1, b2, x, b3, b4⟩ => ⟨b1, b2, x, .inl b3, b4⟩⟩
/-- what a leader spreads -/
theorem spread_inv {R2 : Nat → Rp} {r : Rp} (h : RepInv k G M a r) (ha : a < k) (h2 : r.role = 2) (h1 : 1 ≤ r.term) (hR : R2 a = r) : ∀ x ∈ r.others r.spreadM, MsgInv k G M R2 x := by
  intro x hx
  obtain ⟨j, hj1, hj2, rfl⟩ := others_mem hx
  obtain ⟨b1, b2, b3, b4⟩ := h.lead h2
  have hl := h.log
  have hc := h.com
  rw [b1] at hl hc
  refine ⟨h.ok.spread, by show r.id < k; rw [h.id]; exact ha, by show j < k; rw [← h.mem]; exact hj1, fun e => hj2 e.symm, by show r.term ≤ (R2 r.id).term; rw [h.id, hR]; exact Nat.le_refl _, fun e => (by cases e), fun e => (by cases e), fun _ => ⟨b2, hl, hc, by show r.term % k = r.id; rw [h.id]; exact b4, h1⟩, fun e => (by cases e)⟩
theorem spread_kind {r : Rp} : ∀ x ∈ r.others r.spreadM, x.m.kind ≠ 3 := by
  intro x hx
  obtain ⟨j, _, _, rfl⟩ := others_mem hx
  show (2 : Nat) ≠ 3; decide
/-- an election that a leader answers by writing again -/
theorem inv_again (h : Inv k G M R) (ha : a < k) (h2 : (R a).role = 2) : Inv k G (addM M ((R a).others (R a).spreadM)) (updR R a (R a)) := by
  have r := h.rep a ha
  have h1 := (h.led _ (r.lead h2).2.1).one
  exact h.quiet ha (R a) _ (Nat.le_refl _) (lexLe.refl _ _) (r.add _) (spread_inv (r.add _) ha h2 h1 (updR_a _)) spread_kind
/-- an election -/
theorem inv_cand (h : Inv k G M R) (ha : a < k) {t : Nat} (h1 : 1 ≤ t) (ht : t ≤ 1073741824) (hm : t % k = a) (hge : (R a).term ≤ t) (hno : ¬ ((R a).role = 2 ∧ t = (R a).term)) :
    Inv k G (addM M (((R a).cand t).others (askM t))) (updR R a ((R a).cand t)) := by
  have r := (h.rep a ha).add (((R a).cand t).others (askM t))
  have hnl : ¬ G.led t := fun hl => by
    have q := h.led t hl
    have e : t = (R a).term := by have := q.term; rw [hm] at this; omega
    have r0 := h.rep a ha
    have h3 := r0.ok.role
    have h4 := r0.own (by omega) (by rw [← e]; exact hm)
    rcases (show (R a).role = 0 ∨ (R a).role = 1 ∨ (R a).role = 2 by omega) with e2 | e2 | e2
    · exact h4 e2
    · exact (r0.cand e2).2.2 (by rw [← e]; exact hl)
    · exact hno ⟨e2, e⟩
  refine h.quiet ha _ _ hge (lexLe.refl _ _) ⟨r.ok.cand ht, r.id, r.mem, Nat.le_trans r.lt hge, r.log, r.com, fun e => (by cases e), fun _ => ⟨hm, h1, hnl⟩, fun _ _ => (by show (1 : Nat) ≠ 0; decide), fun e => (by cases e)⟩ ?_ ?_
  · intro x hx
    obtain ⟨j, hj1, hj2, rfl⟩ := others_mem hx
    refine ⟨askM_ok ht, by show (R a).id < k; rw [r.id]; exact ha, by show j < k; rw [← r.mem]; exact hj1, fun e => hj2 e.symm, ?_, fun _ => ⟨by show t % k = (R a).id; rw [r.id]; exact hm, h1⟩, fun e => (by cases e), fun e => (by cases e), fun e => (by cases e)⟩
    show t ≤ (updR R a ((R a).cand t) (R a).id).term
    rw [r.id, updR_a]; exact Nat.le_refl _
  · intro x hx
    obtain ⟨j, _, _, rfl⟩ := others_mem hx
    show (0 : Nat) ≠ 3; decide
end
end Go.Proofs.Ytkobigdfijeajaa

/- The protocol's safety: ask, write. -/
namespace Go.Proofs.Ytkobigdfijeajaa
open Go.SL
section
variable {k : Nat} {G : Gh} {M : Ms → Prop} {R : Nat → Rp} {a : Nat}
/-- a replica that follows -/
theorem follow_inv (h : Inv k G M R) (ha : a < k) {t : Nat} (ht : t ≤ 1073741824) (hge : (R a).term ≤ t) (hm : t % k ≠ a) : RepInv k G M a ((R a).follow t) := by
  have r := h.rep a ha
  unfold Rp.follow
  split
  · rename_i hlt
    refine ⟨{ r.ok with term := ht, role := by simp }, r.id, r.mem, Nat.le_trans r.lt hge, r.log, r.com, fun e => (by cases e), fun e => (by cases e), fun _ e => absurd e hm, fun e => (by cases e)⟩
  · exact r
theorem follow_term {r : Rp} {t : Nat} (h : r.term ≤ t) : (r.follow t).term = t := by
  unfold Rp.follow; split
  · rfl
  · omega
/-- a message that asks for a vote is answered -/
theorem inv_ask (h : Inv k G M R) (ha : a < k) {x : Ms} (hx : M x) (hk : x.m.kind = 0) (hto : x.to = a) (hge : (R a).term ≤ x.m.term) :
    Inv k G (addM M [⟨(R a).id, x.frm, ((R a).follow x.m.term).voteM⟩]) (updR R a ((R a).follow x.m.term)) := by
  have q := h.msg x hx
  obtain ⟨q1, q2⟩ := q.ask hk
  have hm : x.m.term % k ≠ a := by rw [q1, ← hto]; exact q.ne
  obtain ⟨o1, o2, o3, o4, o5, o6, o7⟩ := q.ok
  have rf := follow_inv h ha o2 hge hm
  have r := h.rep a ha
  obtain ⟨e1, e2, e3, e4, e5⟩ := (R a).follow_same x.m.term
  have et := follow_term hge
  have hex : Ext G G M (addM M [⟨(R a).id, x.frm, ((R a).follow x.m.term).voteM⟩]) := Ext.refl G fun _ hx => .inl hx
  have hkd : ∀ y ∈ [(⟨(R a).id, x.frm, ((R a).follow x.m.term).voteM⟩ : Ms)], y.m.kind ≠ 3 := by
    intro y hy
    obtain rfl := List.mem_singleton.1 hy
    show (1 : Nat) ≠ 3; decide
  refine h.quiet ha _ _ (by rw [et]; exact hge) (by rw [e3, e4]; exact lexLe.refl _ _) ⟨rf.ok, rf.id, rf.mem, rf.lt, rf.log, hex.com rf.com, rf.lead, rf.cand, rf.own, fun h2 j => (rf.acks h2 j).imp (fun h => h) fun ⟨b1, b2, y, b3, b4⟩ => ⟨b1, b2, y, .inl b3, b4⟩⟩ ?_ hkd
  intro y hy
  obtain rfl := List.mem_singleton.1 hy
  have hid : (R a).id = a := r.id
  refine ⟨rf.ok.voteM, by show (R a).id < k; rw [hid]; exact ha, q.frm, by show (R a).id ≠ x.frm; rw [hid, ← hto]; exact fun e => q.ne e.symm, ?_, fun e => (by cases e), fun _ => ⟨rf.lt, rf.log, hex.com rf.com, ?_⟩, fun e => (by cases e), fun e => (by cases e)⟩
  · show ((R a).follow x.m.term).term ≤ (updR R a ((R a).follow x.m.term) (R a).id).term
    rw [hid, updR_a]; exact Nat.le_refl _
  · intro t n hac htl
    have hac' : accd k G M a t n := by
      have := accd_add hkd hac
      rw [show ((⟨(R a).id, x.frm, ((R a).follow x.m.term).voteM⟩ : Ms)).frm = a from hid] at this
      exact this
    have := (h.acc a t n ha hac').2
    show lexLe t n ((R a).follow x.m.term).lterm ((R a).follow x.m.term).log.length
    rw [e3, e4]; exact this
/-- two lists that count as committed: when a log is replaced, the old committed list is a prefix of the new log -/
theorem com_keep (h : Inv k G M R) {T t : Nat} {l L : List En} (hc : Com k G M T l) (hl : LogOk G t L) (hT : T ≤ t) (hlen : t = T → l.length ≤ L.length ∧ l <+: G.LL t) : l <+: L := by
  rcases hc with rfl | ⟨t1, n1, h1, h2, h3⟩
  · exact List.nil_prefix
  · rcases hl with ⟨rfl, rfl⟩ | ⟨b1, b2, b3⟩
    · have := (h.led t1 h2.1).one; omega
    · rcases Nat.lt_or_ge t1 t with hlt | hge
      · exact h3.trans ((LC h h2 t b1 hlt).trans b2)
      · obtain ⟨c1, c2⟩ := hlen (by omega)
        exact List.prefix_of_prefix_length_le c2 b3 c1
end
end Go.Proofs.Ytkobigdfijeajaa

/- The protocol's safety: write. -/
namespace Go.Proofs.Ytkobigdfijeajaa
open Go.SL
theorem wrote_facts (A : Rp) (m : Mg) (hlt : A.lterm ≤ m.term) :
    (A.wrote m).lterm = m.term ∧ (((A.lterm < m.term ∨ (A.lterm = m.term ∧ A.log.length < m.log.length)) ∧ (A.wrote m).log = m.log) ∨ (A.lterm = m.term ∧ m.log.length ≤ A.log.length ∧ (A.wrote m).log = A.log)) ∧ (A.wrote m).n = min (max A.n m.n) (A.wrote m).log.length := by
  by_cases ht : Rp.takes { A with role := 0 } m.term m.log
  · have e : A.wrote m = Rp.clamp { A with role := 0, log := m.log, lterm := m.term } m.n := by rw [Rp.wrote, Rp.adopt, if_pos ht]
    rw [e]
    refine ⟨rfl, .inl ⟨?_, rfl⟩, rfl⟩
    unfold Rp.takes at ht
    simp only at ht
    omega
  · have e : A.wrote m = Rp.clamp { A with role := 0 } m.n := by rw [Rp.wrote, Rp.adopt, if_neg ht]
    rw [e]
    unfold Rp.takes at ht
    simp only at ht
    have h1 : A.lterm = m.term := by omega
    exact ⟨h1, .inr ⟨h1, by omega, rfl⟩, rfl⟩
theorem take_of_pre {l L : List En} (h : l <+: L) : L.take l.length = l := (List.prefix_iff_eq_take.1 h).symm
section
variable {k : Nat} {G : Gh} {M : Ms → Prop} {R : Nat → Rp} {a : Nat}
/-- two committed lists in front of one log: the longer one counts too -/
theorem com_max {T : Nat} {L l1 l2 : List En} (h1 : Com k G M T l1) (h2 : Com k G M T l2) (p1 : l1 <+: L) (p2 : l2 <+: L) : Com k G M T (L.take (max l1.length l2.length)) := by
  rcases Nat.le_total l1.length l2.length with h | h
  · rw [Nat.max_eq_right h, take_of_pre p2]; exact h2
  · rw [Nat.max_eq_left h, take_of_pre p1]; exact h1
/-- what a write leaves: the numbers are not cut -/
theorem wrote_inv (h : Inv k G M R) (ha : a < k) {x : Ms} (hx : M x) (hk : x.m.kind = 2) (hto : x.to = a) (hge : (R a).term ≤ x.m.term) :
    RepInv k G M a (((R a).follow x.m.term).wrote x.m) ∧ (((R a).follow x.m.term).wrote x.m).n = max (R a).n x.m.n ∧ (((R a).follow x.m.term).wrote x.m).term = x.m.term ∧ (((R a).follow x.m.term).wrote x.m).lterm = x.m.term ∧ LogOk G x.m.term (((R a).follow x.m.term).wrote x.m).log ∧ lexLe (R a).lterm (R a).log.length x.m.term (((R a).follow x.m.term).wrote x.m).log.length := by
  have q := h.msg x hx
  obtain ⟨w1, w2, w3, w4, w5⟩ := q.write hk
  have hm : x.m.term % k ≠ a := by rw [w4, ← hto]; exact q.ne
  have rf := follow_inv h ha q.ok.2.1 hge hm
  obtain ⟨e1, e2, e3, e4, e5⟩ := (R a).follow_same x.m.term
  have et := follow_term hge
  rw [← e3, ← e4, ← e5]
  generalize (R a).follow x.m.term = A at rf et ⊢
  have hlt : A.lterm ≤ x.m.term := by rw [← et]; exact rf.lt
  obtain ⟨f1, f2, f3⟩ := wrote_facts A x.m hlt
  obtain ⟨s1, s2, s3, s4⟩ := A.wrote_same x.m
  have hok := rf.ok.wrote q.ok
  have hn1 := rf.ok.n
  have hn2 := q.ok.2.2.2.1
  have hl1 : (A.log.take A.n).length = A.n := by rw [List.length_take]; omega
  have hl2 : (x.m.log.take x.m.n).length = x.m.n := by rw [List.length_take]; omega
  have hLog : LogOk G x.m.term (A.wrote x.m).log := by
    rcases f2 with ⟨_, g2⟩ | ⟨g1, _, g3⟩
    · rw [g2]; exact w2
    · rw [g3, ← g1]; exact rf.log
  have hp1 : A.log.take A.n <+: (A.wrote x.m).log := by
    rcases f2 with ⟨g1, g2⟩ | ⟨_, _, g3⟩
    · rw [g2]
      refine com_keep h rf.com w2 hlt fun e => ?_
      have hll : A.log <+: G.LL x.m.term := by
        rcases rf.log with ⟨b1, b2⟩ | ⟨_, _, b3⟩
        · rw [b2]; exact List.nil_prefix
        · rw [e]; exact b3
      exact ⟨by rw [hl1]; omega, (List.take_prefix _ _).trans hll⟩
    · rw [g3]; exact List.take_prefix _ _
  have hp2 : x.m.log.take x.m.n <+: (A.wrote x.m).log := by
    rcases f2 with ⟨_, g2⟩ | ⟨g1, g2, g3⟩
    · rw [g2]; exact List.take_prefix _ _
    · rw [g3]
      rcases w2 with ⟨b1, b2⟩ | ⟨_, _, b3⟩
      · omega
      · have hll : A.log <+: G.LL x.m.term := by
          rcases rf.log with ⟨c1, c2⟩ | ⟨_, _, c3⟩
          · omega
          · rw [← g1]; exact c3
        exact List.prefix_of_prefix_length_le ((List.take_prefix _ _).trans b3) hll (by rw [hl2]; omega)
  have hnn : (A.wrote x.m).n = max A.n x.m.n := by
    have a1 := hp1.length_le
    have a2 := hp2.length_le
    rw [hl1] at a1
    rw [hl2] at a2
    rw [f3]; omega
  refine ⟨⟨hok, by rw [s1]; exact rf.id, by rw [s2]; exact rf.mem, by rw [f1, s3, et]; exact Nat.le_refl _, by rw [f1]; exact hLog, ?_, fun e => (by rw [s4] at e; cases e), fun e => (by rw [s4] at e; cases e), fun _ e => absurd (by rw [← et, ← s3]; exact e) hm, fun e => (by rw [s4] at e; cases e)⟩, hnn, by rw [s3, et], f1, hLog, ?_⟩
  · rw [f1, hnn]
    have := com_max (rf.com.le hlt) w3 hp1 hp2
    rw [hl1, hl2] at this; exact this
  · rcases f2 with ⟨g1 | ⟨g1, g2⟩, g3⟩ | ⟨g1, g2, g3⟩
    · exact .inl g1
    · exact .inr ⟨g1, by rw [g3]; omega⟩
    · exact .inr ⟨g1, by rw [g3]; exact Nat.le_refl _⟩
/-- a write is answered -/
theorem inv_write (h : Inv k G M R) (ha : a < k) {x : Ms} (hx : M x) (hk : x.m.kind = 2) (hto : x.to = a) (hge : (R a).term ≤ x.m.term) :
    Inv k G (addM M [⟨(R a).id, x.frm, (((R a).follow x.m.term).wrote x.m).ackM⟩]) (updR R a (((R a).follow x.m.term).wrote x.m)) := by
  have q := h.msg x hx
  obtain ⟨w1, w2, w3, w4, w5⟩ := q.write hk
  have hm : x.m.term % k ≠ a := by rw [w4, ← hto]; exact q.ne
  obtain ⟨rw1, _, ht, hlt, hL, hpos⟩ := wrote_inv h ha hx hk hto hge
  have hid := (h.rep a ha).id
  generalize ((R a).follow x.m.term).wrote x.m = W at rw1 ht hlt hL hpos
  have hex : Ext G G M (addM M [⟨(R a).id, x.frm, W.ackM⟩]) := Ext.refl G fun _ hx => .inl hx
  refine h.step ha W _ (updR_a W) (fun j hj => updR_o W hj) hex (by rw [ht]; exact hge) (by rw [hlt]; exact hpos)
    ⟨rw1.ok, rw1.id, rw1.mem, rw1.lt, rw1.log, hex.com rw1.com, rw1.lead, rw1.cand, rw1.own, fun h2 j => (rw1.acks h2 j).imp (fun h => h) fun ⟨b1, b2, y, b3, b4⟩ => ⟨b1, b2, y, .inl b3, b4⟩⟩ ?_ (fun t ht => .inl ht) (fun t _ => ⟨fun h => h, fun _ => rfl⟩) ?_
  · rintro y (hy | hy)
    · exact .inl hy
    · obtain rfl := List.mem_singleton.1 hy
      refine .inr ⟨rw1.ok.ackM, by show (R a).id < k; rw [hid]; exact ha, q.frm, by show (R a).id ≠ x.frm; rw [hid, ← hto]; exact fun e => q.ne e.symm, ?_, fun e => (by cases e), fun e => (by cases e), fun e => (by cases e), fun _ => ?_⟩
      · show W.term ≤ (updR R a W (R a).id).term
        rw [hid, updR_a]; exact Nat.le_refl _
      · show G.led W.term ∧ (G.IL W.term).length ≤ W.log.length ∧ W.log.length ≤ (G.LL W.term).length ∧ (R a).id ≠ W.term % k
        rw [ht, hid]
        rcases hL with ⟨b1, _⟩ | ⟨b1, b2, b3⟩
        · omega
        · exact ⟨b1, b2.length_le, b3.length_le, fun e => hm e.symm⟩
  · rintro i t n hi (⟨y, hy | hy, y2, y3, y4, y5⟩ | hac)
    · exact .inl (.inl ⟨y, hy, y2, y3, y4, y5⟩)
    · obtain rfl := List.mem_singleton.1 hy
      right
      have y4' : W.term = t := y4
      have y5' : n ≤ W.log.length := y5
      have y2' : (R a).id = i := y2
      exact ⟨by rw [← y2', hid], y4'.symm, .inr ⟨by rw [hlt, ← y4', ht], y5'⟩⟩
    · exact .inl (.inr hac)
end
end Go.Proofs.Ytkobigdfijeajaa

/- The protocol's safety: a candidate leads. -/
namespace Go.Proofs.Ytkobigdfijeajaa
open Go.SL
def Gh.put (G : Gh) (t : Nat) (l : List En) (c q : Nat) : Gh :=
  ⟨fun s => G.led s ∨ s = t, fun s => if s = t then l else G.IL s, fun s => if s = t then l else G.LL s, fun s => if s = t then c else G.clt s, fun s => if s = t then q else G.qv s⟩
section
variable {k : Nat} {G : Gh} {M : Ms → Prop} {R : Nat → Rp} {a : Nat}
theorem Gh.put_ext {t : Nat} {l : List En} {c q : Nat} (h : ¬ G.led t) (M' : Ms → Prop) (hm : ∀ x, M x → M' x) : Ext G (G.put t l c q) M M' := by
  have hne : ∀ s, G.led s → s ≠ t := fun s hs e => h (by rw [← e]; exact hs)
  exact ⟨fun s hs => .inl hs, fun s hs => if_neg (hne s hs), fun s hs => by show G.LL s <+: if s = t then l else G.LL s; rw [if_neg (hne s hs)]; exact List.prefix_refl _, fun s hs => if_neg (hne s hs), fun s hs => if_neg (hne s hs), hm⟩
theorem inv_crown (h : Inv k G M R) (ha : a < k) (R' : Rp) {t c qv : Nat} (hok : R'.ok) (hid : R'.id = a) (hmem : R'.mem = k) (hr : R'.role = 2) (ht : R'.term = t) (hlt : R'.lterm = t) (hak : ∀ j, R'.acks j = 0)
    (hm : t % k = a) (h1 : 1 ≤ t) (hnl : ¬ G.led t) (hge : (R a).term ≤ t) (hc : c < t) (hlog : LogOk G c R'.log)
    (hcom : Com k (G.put t R'.log c qv) (addM M (R'.others R'.spreadM)) t (R'.log.take R'.n)) (hq : k ≠ 1 → qv < k ∧ qv ≠ a ∧ t ≤ (R qv).term)
    (hacc : ∀ i, (i = a ∨ (k ≠ 1 ∧ i = qv)) → ∀ t0 n, accd k G M i t0 n → t0 < t → lexLe t0 n c R'.log.length) :
    Inv k (G.put t R'.log c qv) (addM M (R'.others R'.spreadM)) (updR R a R') := by
  have hext := Gh.put_ext (l := R'.log) (c := c) (q := qv) hnl (addM M (R'.others R'.spreadM)) (fun _ hx => .inl hx)
  have r := h.rep a ha
  have hl0 : (R a).lterm < t := by
    have := r.lt
    rcases r.log with ⟨b1, _⟩ | ⟨b1, _⟩
    · omega
    · have : (R a).lterm ≠ t := fun e => hnl (by rw [← e]; exact b1)
      omega
  have hLt : (G.put t R'.log c qv).LL t = R'.log := if_pos rfl
  have hIt : (G.put t R'.log c qv).IL t = R'.log := if_pos rfl
  have hCt : (G.put t R'.log c qv).clt t = c := if_pos rfl
  have hQt : (G.put t R'.log c qv).qv t = qv := if_pos rfl
  have hold : ∀ i s n, s ≠ t → accd k (G.put t R'.log c qv) (addM M (R'.others R'.spreadM)) i s n → accd k G M i s n := by
    rintro i s n hs (hx | ⟨b1, b2, b3⟩)
    · exact .inl (ackOf_add spread_kind hx)
    · refine .inr ⟨b1, ?_, ?_⟩
      · rcases b2 with b2 | b2
        · exact b2
        · exact absurd b2 hs
      · have e : (G.put t R'.log c qv).LL s = G.LL s := if_neg hs
        rw [e] at b3; exact b3
  have hrep : RepInv k (G.put t R'.log c qv) (addM M (R'.others R'.spreadM)) a R' :=
    ⟨hok, hid, hmem, by rw [hlt, ht]; exact Nat.le_refl _, by rw [hlt]; exact .inr ⟨.inr rfl, by rw [hIt]; exact List.prefix_refl _, by rw [hLt]; exact List.prefix_refl _⟩, by rw [hlt]; exact hcom,
      fun _ => ⟨by rw [hlt, ht], .inr ht, by rw [ht, hLt], by rw [ht]; exact hm⟩, fun e => (by rw [hr] at e; cases e), fun _ _ => (by rw [hr]; decide), fun _ j => .inl (hak j)⟩
  refine h.step ha R' _ (updR_a R') (fun j hj => updR_o R' hj) hext (by rw [ht]; exact hge) (by rw [hlt]; exact .inl hl0) hrep ?_ ?_ ?_ ?_
  · rintro x (hx | hx)
    · exact .inl hx
    · exact .inr (spread_inv hrep ha hr (by rw [ht]; exact h1) (updR_a R') x hx)
  · rintro s (hs | hs)
    · exact .inl hs
    · right
      rw [hs]
      refine ⟨h1, by rw [hm, updR_a, ht]; exact Nat.le_refl _, by rw [hIt, hLt]; exact List.prefix_refl _, by rw [hCt]; exact hc, by rw [hCt, hIt]; exact hext.logOk hlog, fun hk => ?_, fun i hi t0 n hx ht0 => ?_⟩
      · obtain ⟨b1, b2, b3⟩ := hq hk
        rw [hQt]
        exact ⟨b1, by rw [hm]; exact b2, by rw [updR_o R' b2]; exact b3⟩
      · rw [hCt, hIt]
        rw [hQt, hm] at hi
        exact hacc i hi t0 n (hold i t0 n (by omega) hx) ht0
  · intro s hs
    have hst : s ≠ t := fun e => hs (by rw [e]; exact hm)
    exact ⟨fun hl => hl.elim (fun h => h) fun e => absurd e hst, fun _ => if_neg hst⟩
  · intro i s n hi hx
    by_cases hst : s = t
    · rcases hx with hx | ⟨b1, b2, b3⟩
      · exact .inl (.inl (ackOf_add spread_kind hx))
      · right
        rw [hst] at b1 b3
        rw [hLt] at b3
        exact ⟨by rw [← b1, hm], by rw [hst, ht], .inr ⟨by rw [hst, hlt], b3⟩⟩
    · exact .inl (hold i s n hst hx)
end
end Go.Proofs.Ytkobigdfijeajaa

/- The protocol's safety: a vote; an election in a group of one. -/
namespace Go.Proofs.Ytkobigdfijeajaa
open Go.SL
theorem heard_facts (R : Rp) (m : Mg) : ((R.heard m).id = R.id ∧ (R.heard m).mem = R.mem ∧ (R.heard m).term = R.term) ∧ (R.heard m).n = max R.n m.n ∧
    (((R.lterm < m.lterm ∨ (R.lterm = m.lterm ∧ R.log.length < m.log.length)) ∧ (R.heard m).log = m.log ∧ (R.heard m).lterm = m.lterm) ∨ ((m.lterm < R.lterm ∨ (m.lterm = R.lterm ∧ m.log.length ≤ R.log.length)) ∧ (R.heard m).log = R.log ∧ (R.heard m).lterm = R.lterm)) := by
  obtain ⟨h1, h2, h3, _⟩ := R.heard_same m
  refine ⟨⟨h1, h2, h3⟩, rfl, ?_⟩
  unfold Rp.heard Rp.adopt
  by_cases ht : R.takes m.lterm m.log
  · rw [if_pos ht]
    unfold Rp.takes at ht
    exact .inl ⟨by omega, rfl, rfl⟩
  · rw [if_neg ht]
    unfold Rp.takes at ht
    exact .inr ⟨by omega, rfl, rfl⟩
section
variable {k : Nat} {G : Gh} {M : Ms → Prop} {R : Nat → Rp} {a : Nat}
/-- the first vote makes a candidate the leader; the number is not cut -/
theorem inv_vote (h : Inv k G M R) (ha : a < k) {x : Ms} (hx : M x) (hk : x.m.kind = 1) (hto : x.to = a) (hr : (R a).role = 1) (ht : x.m.term = (R a).term) :
    (((R a).lead (some x.m)).n = if k < 2 then ((R a).heard x.m).log.length else max (R a).n x.m.n) ∧
    ∃ G', Ext G G' M (addM M (((R a).lead (some x.m)).others ((R a).lead (some x.m)).spreadM)) ∧ Inv k G' (addM M (((R a).lead (some x.m)).others ((R a).lead (some x.m)).spreadM)) (updR R a ((R a).lead (some x.m))) := by
  have q := h.msg x hx
  have r := h.rep a ha
  obtain ⟨v1, v2, v3, v4⟩ := q.vote hk
  obtain ⟨c1, c2, c3⟩ := r.cand hr
  have hk1 := h.k1
  have hne := q.ne
  have hfk := q.frm
  have htk := q.to
  have hk2 : ¬ k < 2 := by omega
  obtain ⟨⟨f1, f2, f3⟩, f4, f5⟩ := heard_facts (R a) x.m
  have hcok : ((R a).lead (some x.m)).ok := by
    have := crown_ok (f := 0) (i := 1) r.ok q.ok
    rw [rA, if_pos (by omega)] at this
    exact this
  have hn1 := r.ok.n
  have hn2 := q.ok.2.2.2.1
  have hl1 : ((R a).log.take (R a).n).length = (R a).n := by rw [List.length_take]; omega
  have hl2 : (x.m.log.take x.m.n).length = x.m.n := by rw [List.length_take]; omega
  rw [show (R a).lead (some x.m) = ((R a).heard x.m).crown from rfl] at hcok ⊢
  generalize (R a).heard x.m = H at *
  have hLog : LogOk G H.lterm H.log := by
    rcases f5 with ⟨_, g1, g2⟩ | ⟨_, g1, g2⟩
    · rw [g1, g2]; exact v2
    · rw [g1, g2]; exact r.log
  have hle : H.lterm ≤ (R a).term := by
    rcases f5 with ⟨_, g1, g2⟩ | ⟨_, g1, g2⟩
    · rw [g2, ← ht]; exact v1
    · rw [g2]; exact r.lt
  have hc : H.lterm < (R a).term := by
    rcases hLog with ⟨b1, _⟩ | ⟨b1, _⟩
    · omega
    · have : H.lterm ≠ (R a).term := fun e => c3 (by rw [← e]; exact b1)
      omega
  have hpre : ∀ {t : Nat} {l : List En}, LogOk G t l → l <+: G.LL t := by
    rintro t l (⟨_, rfl⟩ | ⟨_, _, b3⟩)
    · exact List.nil_prefix
    · exact b3
  have hp1 : (R a).log.take (R a).n <+: H.log := by
    rcases f5 with ⟨g0, g1, g2⟩ | ⟨_, g1, g2⟩
    · rw [g1]
      refine com_keep h r.com v2 (by omega) fun e => ⟨by rw [hl1]; omega, ?_⟩
      rw [e]; exact (List.take_prefix _ _).trans (hpre r.log)
    · rw [g1]; exact List.take_prefix _ _
  have hp2 : x.m.log.take x.m.n <+: H.log := by
    rcases f5 with ⟨_, g1, g2⟩ | ⟨g0, g1, g2⟩
    · rw [g1]; exact List.take_prefix _ _
    · rw [g1]
      refine com_keep h v3 r.log (by omega) fun e => ⟨by rw [hl2]; omega, ?_⟩
      rw [e]; exact (List.take_prefix _ _).trans (hpre v2)
  have hnn : H.crown.n = max (R a).n x.m.n := by
    have a1 := hp1.length_le
    have a2 := hp2.length_le
    rw [hl1] at a1
    rw [hl2] at a2
    show (if H.mem < 2 then H.log.length else min H.n H.log.length) = _
    rw [if_neg (by rw [f2, r.mem]; exact hk2), f4]; omega
  refine ⟨by rw [if_neg hk2]; exact hnn, G.put (R a).term H.log H.lterm x.frm, Gh.put_ext c3 _ fun _ hx => .inl hx, ?_⟩
  have hmax : Com k G M H.lterm (H.log.take (max (R a).n x.m.n)) := by
    have e1 : (R a).lterm ≤ H.lterm ∧ x.m.lterm ≤ H.lterm := by
      rcases f5 with ⟨g0, _, g2⟩ | ⟨g0, _, g2⟩ <;> rw [g2] <;> omega
    have := com_max (r.com.le e1.1) (v3.le e1.2) hp1 hp2
    rw [hl1, hl2] at this; exact this
  refine inv_crown h ha H.crown hcok (by show H.id = a; rw [f1, r.id]) (by show H.mem = k; rw [f2, r.mem]) rfl f3 f3 (fun _ => rfl) c1 c2 c3 (Nat.le_refl _) hc hLog ?_ (fun _ => ⟨hfk, by rw [← hto]; exact hne, by rw [← ht]; exact q.term⟩) ?_
  · have hext := Gh.put_ext (l := H.crown.log) (c := H.lterm) (q := x.frm) c3 (addM M (H.crown.others H.crown.spreadM)) (fun _ hx => .inl hx)
    rw [hnn]
    exact (hext.com hmax).le hle
  · rintro i (rfl | ⟨_, rfl⟩) t0 n hac ht0
    · refine (h.acc i t0 n ha hac).2.trans ?_
      show lexLe _ _ H.lterm H.log.length
      rcases f5 with ⟨g0, g1, g2⟩ | ⟨g0, g1, g2⟩
      · rw [g1, g2]; rcases g0 with g0 | ⟨g0, g3⟩
        · exact .inl g0
        · exact .inr ⟨g0, by omega⟩
      · rw [g1, g2]; exact lexLe.refl _ _
    · refine (v4 t0 n hac (by rw [ht]; exact ht0)).trans ?_
      show lexLe _ _ H.lterm H.log.length
      rcases f5 with ⟨g0, g1, g2⟩ | ⟨g0, g1, g2⟩
      · rw [g1, g2]; exact lexLe.refl _ _
      · rw [g1, g2]; rcases g0 with g0 | ⟨g0, g3⟩
        · exact .inl g0
        · exact .inr ⟨g0, by omega⟩
end
end Go.Proofs.Ytkobigdfijeajaa

/- The protocol's safety: an election in a group of one; acknowledgements; proposals; the start. -/
namespace Go.Proofs.Ytkobigdfijeajaa
open Go.SL
section
variable {k : Nat} {G : Gh} {M : Ms → Prop} {R : Nat → Rp} {a : Nat}
theorem not_led (h : Inv k G M R) (ha : a < k) {t : Nat} (h1 : 1 ≤ t) (hm : t % k = a) (hge : (R a).term ≤ t) (hno : ¬ ((R a).role = 2 ∧ t = (R a).term)) : ¬ G.led t := fun hl => by
  have q := h.led t hl
  have e : t = (R a).term := by have := q.term; rw [hm] at this; omega
  have r0 := h.rep a ha
  have h3 := r0.ok.role
  have h4 := r0.own (by omega) (by rw [← e]; exact hm)
  rcases (show (R a).role = 0 ∨ (R a).role = 1 ∨ (R a).role = 2 by omega) with e2 | e2 | e2
  · exact h4 e2
  · exact (r0.cand e2).2.2 (by rw [← e]; exact hl)
  · exact hno ⟨e2, e⟩
theorem inv_one (h : Inv k G M R) (ha : a < k) (hk : k < 2) {t : Nat} (h1 : 1 ≤ t) (ht : t ≤ 1073741824) (hm : t % k = a) (hge : (R a).term ≤ t) (hno : ¬ ((R a).role = 2 ∧ t = (R a).term)) :
    ∃ G', Ext G G' M (addM M (((R a).cand t).crown.others ((R a).cand t).crown.spreadM)) ∧ Inv k G' (addM M (((R a).cand t).crown.others ((R a).cand t).crown.spreadM)) (updR R a ((R a).cand t).crown) := by
  have r := h.rep a ha
  have hnl := not_led h ha h1 hm hge hno
  have hk1 := h.k1
  have hc : (R a).lterm < t := by
    have := r.lt
    rcases r.log with ⟨b1, _⟩ | ⟨b1, _⟩
    · omega
    · have : (R a).lterm ≠ t := fun e => hnl (by rw [← e]; exact b1)
      omega
  have hn : ((R a).cand t).crown.n = (R a).log.length := by
    show (if (R a).mem < 2 then (R a).log.length else min (R a).n (R a).log.length) = _
    rw [if_pos (by rw [r.mem]; exact hk)]
  have hok : ((R a).cand t).crown.ok := by
    have o := r.ok
    exact ⟨o.m1, o.m3, o.id, ht, ht, Nat.le_refl _, o.log, by rw [hn]; exact Nat.le_refl _, o.es⟩
  refine ⟨G.put t (R a).log (R a).lterm a, Gh.put_ext hnl _ fun _ hx => .inl hx, ?_⟩
  refine inv_crown h ha ((R a).cand t).crown hok r.id r.mem rfl rfl rfl (fun _ => rfl) hm h1 hnl hge hc r.log ?_ (fun e => absurd (by omega) e) ?_
  · rw [hn]
    refine .inr ⟨t, (R a).log.length, Nat.le_refl _, ⟨.inr rfl, ?_, ?_, .inl (by omega)⟩, ?_⟩
    · show (if t = t then (R a).log else _).length ≤ _; rw [if_pos rfl]; exact Nat.le_refl _
    · show _ ≤ (if t = t then (R a).log else _).length; rw [if_pos rfl]; exact Nat.le_refl _
    · show (R a).log.take _ <+: (if t = t then (R a).log else _).take _; rw [if_pos rfl]; exact List.prefix_refl _
  · rintro i (rfl | ⟨e, _⟩) t0 n hac _
    · exact (h.acc i t0 n ha hac).2
    · exact absurd (by omega) e
theorem take_pre_take (L : List En) {m n : Nat} (h : n ≤ m) : L.take n <+: L.take m := by
  rw [show L.take n = (L.take m).take n from by rw [List.take_take, Nat.min_eq_left h]]
  exact List.take_prefix _ _
theorem acked_inv (h : Inv k G M R) (ha : a < k) {x : Ms} (hx : M x) (hk : x.m.kind = 3) (hto : x.to = a) (hr : (R a).role = 2) (ht : x.m.term = (R a).term) : RepInv k G M a ((R a).acked x.m x.frm) := by
  have q := h.msg x hx
  have r := h.rep a ha
  refine ⟨{ r.ok with }, r.id, r.mem, r.lt, r.log, r.com, r.lead, r.cand, r.own, fun _ j => ?_⟩
  show (if j = x.frm then max ((R a).acks x.frm) x.m.ents else (R a).acks j) = 0 ∨ _
  by_cases hj : j = x.frm
  · rw [if_pos hj]
    rcases Nat.le_total ((R a).acks x.frm) x.m.ents with hle | hle
    · right
      refine ⟨by rw [hj]; exact q.frm, by rw [hj, ← hto]; exact q.ne, x, hx, hj.symm, hk, ht, ?_⟩
      show x.m.ents = if j = x.frm then max ((R a).acks x.frm) x.m.ents else _
      rw [if_pos hj, Nat.max_eq_right hle]
    · rw [Nat.max_eq_left hle]
      rcases r.acks hr x.frm with b | ⟨b1, b2, y, b3, b4, b5, b6, b7⟩
      · exact .inl b
      · right
        refine ⟨by rw [hj]; exact b1, by rw [hj]; exact b2, y, b3, by rw [hj]; exact b4, b5, b6, ?_⟩
        show y.m.ents = if j = x.frm then max ((R a).acks x.frm) x.m.ents else _
        rw [if_pos hj, Nat.max_eq_left hle]; exact b7
  · rw [if_neg hj]
    rcases r.acks hr j with b | ⟨b1, b2, y, b3, b4, b5, b6, b7⟩
    · exact .inl b
    · right
      refine ⟨b1, b2, y, b3, b4, b5, b6, ?_⟩
      show y.m.ents = if j = x.frm then _ else (R a).acks j
      rw [if_neg hj]; exact b7
theorem best_cnt (A : Rp) : ∀ {m n : Nat}, A.best m = some n → A.mem < 2 * (1 + A.cnt n)
  | m + 1, n, h => by
    rw [Rp.best] at h
    split at h
    · split at h
      · rename_i h2; cases h; exact h2
      · exact best_cnt A h
    · cases h
/-- an acknowledgement -/
theorem inv_ack (h : Inv k G M R) (ha : a < k) {x : Ms} (hx : M x) (hk : x.m.kind = 3) (hto : x.to = a) (hr : (R a).role = 2) (ht : x.m.term = (R a).term) :
    Inv k G (addM M ((R a).ack x.m x.frm).2) (updR R a ((R a).ack x.m x.frm).1) ∧ (R a).n ≤ ((R a).ack x.m x.frm).1.n := by
  have q := h.msg x hx
  have r := h.rep a ha
  have rA := acked_inv h ha hx hk hto hr ht
  obtain ⟨l1, l2, l3, l4⟩ := r.lead hr
  have hone := (h.led _ l2).one
  rw [Rp.ack, if_neg (by omega)]
  cases hb : ((R a).acked x.m x.frm).best (R a).log.length with
  | none =>
    simp only
    refine ⟨h.quiet ha _ [] (Nat.le_refl _) (lexLe.refl _ _) ?_ (by simp) (by simp), Nat.le_refl _⟩
    have hex : Ext G G M (addM M []) := Ext.refl G fun _ hx => .inl hx
    exact ⟨rA.ok, rA.id, rA.mem, rA.lt, rA.log, hex.com rA.com, rA.lead, rA.cand, rA.own, fun h2 j => (rA.acks h2 j).imp (fun h => h) fun ⟨b1, b2, y, b3, b4⟩ => ⟨b1, b2, y, .inl b3, b4⟩⟩
  | some n =>
    simp only
    have hbl := Rp.best_le _ hb
    have hbc := best_cnt _ hb
    have hn0 : (R a).n < n := hbl.1
    generalize hAe : (R a).acked x.m x.frm = A at rA hb hbc hbl
    have e1 : A.term = (R a).term := by rw [← hAe]; rfl
    have e2 : A.log = (R a).log := by rw [← hAe]; rfl
    have e3 : A.role = 2 := by rw [← hAe]; exact hr
    have e4 : A.lterm = (R a).lterm := by rw [← hAe]; rfl
    have e5 : A.id = a := rA.id
    have e6 : A.mem = k := rA.mem
    have hfk := q.frm
    have htk := q.to
    have hne := q.ne
    have hcnt : 0 < A.cnt n := by omega
    obtain ⟨j, hj⟩ : ∃ j, j ∈ (List.range A.mem).filter fun j => decide (j ≠ A.id ∧ n ≤ A.acks j) := by
      cases hl : (List.range A.mem).filter fun j => decide (j ≠ A.id ∧ n ≤ A.acks j) with
      | nil => rw [Rp.cnt, hl] at hcnt; simp at hcnt
      | cons b bs => exact ⟨b, List.mem_cons_self⟩
    have hj2 := List.mem_filter.1 hj
    simp only [List.mem_range, decide_eq_true_eq] at hj2
    obtain ⟨hj3, hj4, hj5⟩ := hj2
    rcases rA.acks e3 j with b | ⟨b1, b2, y, b3, b4, b5, b6, b7⟩
    · omega
    have qy := (h.msg y b3).ack b5
    rw [b6, e1, b7] at qy
    have hAk : Acked k G M (R a).term (A.acks j) := ⟨l2, qy.2.1, qy.2.2.1, .inr ⟨j, b1, by rw [l4]; exact b2, y, b3, b4, b5, by rw [b6, e1], by rw [b7]; exact Nat.le_refl _⟩⟩
    have hcom : Com k G M A.lterm (A.log.take n) := by
      refine .inr ⟨(R a).term, A.acks j, by rw [e4, l1]; exact Nat.le_refl _, hAk, ?_⟩
      rw [e2, l3]; exact take_pre_take _ hj5
    have hrep : RepInv k G M a { A with n := n } := ⟨rA.ok.atN (by rw [e2]; exact hbl.2), rA.id, rA.mem, rA.lt, rA.log, hcom, rA.lead, rA.cand, rA.own, rA.acks⟩
    have hex : Ext G G M (addM M (Rp.others { A with n := n } (Rp.spreadM { A with n := n }))) := Ext.refl G fun _ hx => .inl hx
    have hrep' : RepInv k G (addM M (Rp.others { A with n := n } (Rp.spreadM { A with n := n }))) a { A with n := n } := ⟨hrep.ok, hrep.id, hrep.mem, hrep.lt, hrep.log, hex.com hrep.com, hrep.lead, hrep.cand, hrep.own, fun h2 j => (hrep.acks h2 j).imp (fun h => h) fun ⟨b1, b2, y, b3, b4⟩ => ⟨b1, b2, y, .inl b3, b4⟩⟩
    exact ⟨h.quiet ha _ _ (by show (R a).term ≤ A.term; rw [e1]; exact Nat.le_refl _) (by show lexLe _ _ A.lterm A.log.length; rw [e4, e2]; exact lexLe.refl _ _) hrep' (spread_inv hrep' ha e3 (by show 1 ≤ A.term; rw [e1]; exact hone) (updR_a _)) spread_kind, Nat.le_of_lt hn0⟩
end
end Go.Proofs.Ytkobigdfijeajaa

/- The protocol's safety: proposals, the start, agreement. -/
namespace Go.Proofs.Ytkobigdfijeajaa
open Go.SL
def Gh.grow (G : Gh) (t : Nat) (l : List En) : Gh := ⟨G.led, G.IL, fun s => if s = t then l else G.LL s, G.clt, G.qv⟩
section
variable {k : Nat} {G : Gh} {M : Ms → Prop} {R : Nat → Rp} {a : Nat}
/-- a proposal -/
theorem inv_propose (h : Inv k G M R) (ha : a < k) (hr : (R a).role = 2) {e : En} (he : e.ok) (hl : (R a).log.length < 1000) :
    ∃ G', Ext G G' M (addM M (((R a).push e).others ((R a).push e).spreadM)) ∧ Inv k G' (addM M (((R a).push e).others ((R a).push e).spreadM)) (updR R a ((R a).push e)) ∧ (R a).n ≤ ((R a).push e).n := by
  have r := h.rep a ha
  obtain ⟨l1, l2, l3, l4⟩ := r.lead hr
  have q := h.led _ l2
  have hn := r.ok.n
  have hpn : (R a).n ≤ ((R a).push e).n := by simp only [Rp.push]; split <;> omega
  obtain ⟨t, ht⟩ : ∃ t, t = (R a).term := ⟨_, rfl⟩
  obtain ⟨L, hL⟩ : ∃ L, L = (R a).log ++ [e] := ⟨_, rfl⟩
  have hpl : ((R a).push e).log = L := hL.symm
  have hLp : (R a).log <+: L := by rw [hL]; exact List.prefix_append _ _
  have hgt : (G.grow t L).LL t = L := if_pos rfl
  have hgo : ∀ s, s ≠ t → (G.grow t L).LL s = G.LL s := fun s hs => if_neg hs
  have hext : Ext G (G.grow t L) M (addM M (((R a).push e).others ((R a).push e).spreadM)) := by
    refine ⟨fun s hs => hs, fun _ _ => rfl, fun s _ => ?_, fun _ _ => rfl, fun _ _ => rfl, fun _ hx => .inl hx⟩
    by_cases hs : s = t
    · rw [hs, hgt, ht, ← l3]; exact hLp
    · rw [hgo s hs]; exact List.prefix_refl _
  have hlog : LogOk (G.grow t L) t L := .inr ⟨by rw [ht]; exact l2, by show G.IL t <+: L; rw [ht]; refine (q.grow.trans ?_); rw [← l3]; exact hLp, by rw [hgt]; exact List.prefix_refl _⟩
  have hrep : RepInv k (G.grow t L) (addM M (((R a).push e).others ((R a).push e).spreadM)) a ((R a).push e) := by
    refine ⟨r.ok.push he hl, r.id, r.mem, r.lt, ?_, ?_, fun _ => ⟨l1, l2, by rw [hpl, show ((R a).push e).term = t from ht.symm, hgt], l4⟩, fun e2 => (by rw [show ((R a).push e).role = (R a).role from rfl, hr] at e2; cases e2), r.own, fun h2 j => (r.acks h2 j).imp (fun h => h) fun ⟨b1, b2, y, b3, b4⟩ => ⟨b1, b2, y, .inl b3, b4⟩⟩
    · rw [hpl, show ((R a).push e).lterm = t from by rw [ht]; exact l1]; exact hlog
    · rw [hpl, show ((R a).push e).lterm = t from by rw [ht]; exact l1]
      by_cases hk : (R a).mem < 2
      · have hk1 := h.k1
        have hpn : ((R a).push e).n = L.length := by rw [hL]; simp only [Rp.push]; rw [if_pos hk]; simp
        rw [hpn]
        refine .inr ⟨t, L.length, Nat.le_refl _, ⟨by rw [ht]; exact l2, ?_, by rw [hgt]; exact Nat.le_refl _, .inl (by rw [r.mem] at hk; omega)⟩, by rw [hgt]; exact List.prefix_refl _⟩
        rcases hlog with ⟨b1, _⟩ | ⟨_, b2, _⟩
        · have := q.one; omega
        · exact b2.length_le
      · have hpn : ((R a).push e).n = (R a).n := by simp only [Rp.push]; rw [if_neg hk]
        rw [hpn, take_grow hLp hn]
        have := hext.com r.com
        rw [show (R a).lterm = t from by rw [ht]; exact l1] at this; exact this
  refine ⟨G.grow t L, hext, ?_, hpn⟩
  refine h.step ha _ _ (updR_a _) (fun j hj => updR_o _ hj) hext (Nat.le_refl _) (.inr ⟨rfl, by rw [hpl]; exact hLp.length_le⟩) hrep ?_ (fun t ht => .inl ht) ?_ ?_
  · rintro x (hx | hx)
    · exact .inl hx
    · exact .inr (spread_inv hrep ha hr (by show 1 ≤ (R a).term; exact q.one) (updR_a _) x hx)
  · intro s hs
    refine ⟨fun h => h, fun _ => hgo s ?_⟩
    intro e2
    exact hs (by rw [e2, ht]; exact l4)
  · intro i s n hi hx
    rcases hx with hx | ⟨b1, b2, b3⟩
    · exact .inl (.inl (ackOf_add spread_kind hx))
    · by_cases hs : s = t
      · right
        rw [hs] at b1 b3
        rw [hgt] at b3
        refine ⟨by rw [← b1, ht]; exact l4, by rw [hs, ht]; rfl, .inr ⟨by rw [hs, ht]; exact l1.symm, by rw [hpl]; exact b3⟩⟩
      · rw [hgo s hs] at b3
        exact .inl (.inr ⟨b1, b2, b3⟩)
/-- the start -/
theorem inv_start (hk1 : 1 ≤ k) (hk3 : k ≤ 3) : Inv k ⟨fun _ => False, fun _ => [], fun _ => [], fun _ => 0, fun _ => 0⟩ (fun _ => False) (fun i => ⟨i, k, 0, 0, 0, [], 0, fun _ => 0⟩) := by
  refine ⟨hk1, hk3, fun i hi => ⟨⟨hk1, hk3, hi, by simp, by simp, by simp, by simp, by simp, by simp⟩, rfl, rfl, Nat.le_refl _, .inl ⟨rfl, rfl⟩, .inl rfl, fun e => (by cases e), fun e => (by cases e), fun e => (by simp at e), fun e => (by cases e)⟩, fun x hx => hx.elim, fun t ht => ht.elim, ?_⟩
  rintro i t n hi (⟨x, hx, _⟩ | ⟨_, hx, _⟩) <;> exact hx.elim
end
end Go.Proofs.Ytkobigdfijeajaa

/- The protocol's safety: the three ways in which a replica moves. -/
namespace Go.Proofs.Ytkobigdfijeajaa
open Go.SL
section
variable {k : Nat} {G : Gh} {M : Ms → Prop} {R : Nat → Rp} {a : Nat}
theorem exR {G : Gh} {M : Ms → Prop} (l : List Ms) : Ext G G M (addM M l) := Ext.refl G fun _ h => .inl h
theorem inv_same (h : Inv k G M R) (ha : a < k) : Inv k G (addM M []) (updR R a (R a)) :=
  h.quiet ha (R a) [] (Nat.le_refl _) (lexLe.refl _ _) ((h.rep a ha).add []) (by simp) (by simp)
theorem inv_elect (h : Inv k G M R) (ha : a < k) (t : Int) : (∃ G', Ext G G' M (addM M ((R a).elect t).2.1) ∧ Inv k G' (addM M ((R a).elect t).2.1) (updR R a ((R a).elect t).1)) ∧ (R a).n ≤ ((R a).elect t).1.n := by
  have r := h.rep a ha
  have hk1 := h.k1
  rw [Rp.elect]
  split
  · exact ⟨⟨G, exR _, inv_same h ha⟩, Nat.le_refl _⟩
  · rename_i h1
    split
    · exact ⟨⟨G, exR _, inv_same h ha⟩, Nat.le_refl _⟩
    · rename_i h2
      split
      · rename_i h3
        exact ⟨⟨G, exR _, inv_again h ha h3.1⟩, Nat.le_refl _⟩
      · rename_i h3
        obtain ⟨tn, rfl⟩ : ∃ tn : Nat, t = (tn : Int) := ⟨t.toNat, by omega⟩
        rw [Int.toNat_natCast]
        have hm : tn % k = a := by
          have h4 : (tn : Int) % ((R a).mem : Int) = ((R a).id : Int) := Decidable.byContradiction fun h => h1 (.inr (.inr h))
          rw [r.mem, r.id] at h4
          exact_mod_cast h4
        have hno : ¬ ((R a).role = 2 ∧ tn = (R a).term) := fun ⟨b1, b2⟩ => h3 ⟨b1, by rw [b2]⟩
        split
        · rename_i h4
          rw [r.mem] at h4
          obtain ⟨G', hE, hG⟩ := inv_one h ha h4 (by omega) (by omega) hm (by omega) hno
          refine ⟨⟨G', hE, hG⟩, ?_⟩
          show (R a).n ≤ (if (R a).mem < 2 then (R a).log.length else min (R a).n (R a).log.length)
          rw [if_pos (by rw [r.mem]; exact h4)]; exact r.ok.n
        · exact ⟨⟨G, exR _, inv_cand h ha (by omega) (by omega) hm (by omega) hno⟩, Nat.le_refl _⟩
theorem inv_prop (h : Inv k G M R) (ha : a < k) (e : En) (hB : ∀ b ∈ e.bs, isB b) : (∃ G', Ext G G' M (addM M ((R a).propose e).2.1) ∧ Inv k G' (addM M ((R a).propose e).2.1) (updR R a ((R a).propose e).1)) ∧ (R a).n ≤ ((R a).propose e).1.n := by
  rw [Rp.propose]
  split
  · exact ⟨⟨G, exR _, inv_same h ha⟩, Nat.le_refl _⟩
  · rename_i h1
    split
    · exact ⟨⟨G, exR _, inv_same h ha⟩, Nat.le_refl _⟩
    · rename_i h2
      split
      · exact ⟨⟨G, exR _, inv_same h ha⟩, Nat.le_refl _⟩
      · rename_i h3
        obtain ⟨G', hE, hG, hn⟩ := inv_propose h ha (by omega) (e := e) ⟨Decidable.not_not.1 h2, hB⟩ (by omega)
        exact ⟨⟨G', hE, hG⟩, hn⟩
theorem inv_recv (h : Inv k G M R) (ha : a < k) {x : Ms} (hx : M x) (hto : x.to = a) : (∃ G', Ext G G' M (addM M ((R a).recv x.m x.frm).2) ∧ Inv k G' (addM M ((R a).recv x.m x.frm).2) (updR R a ((R a).recv x.m x.frm).1)) ∧ (R a).n ≤ ((R a).recv x.m x.frm).1.n := by
  have hk4 := (h.msg x hx).ok.1
  rw [Rp.recv]
  split
  · rename_i h0
    rw [Rp.ask]
    split
    · exact ⟨⟨G, exR _, inv_same h ha⟩, Nat.le_refl _⟩
    · exact ⟨⟨G, exR _, inv_ask h ha hx h0 hto (by omega)⟩, by rw [((R a).follow_same x.m.term).2.2.2.2]; exact Nat.le_refl _⟩
  · split
    · rename_i h1
      rw [Rp.vote]
      split
      · exact ⟨⟨G, exR _, inv_same h ha⟩, Nat.le_refl _⟩
      · rename_i h2
        obtain ⟨hn, G', hE, hG⟩ := inv_vote h ha hx h1 hto (by omega) (by omega)
        refine ⟨⟨G', hE, hG⟩, ?_⟩
        have hne := (h.msg x hx).ne
        have hf := (h.msg x hx).frm
        show (R a).n ≤ ((R a).lead (some x.m)).n
        rw [hn, if_neg (by omega)]; exact Nat.le_max_left _ _
    · split
      · rename_i h2
        rw [Rp.write]
        split
        · exact ⟨⟨G, exR _, inv_same h ha⟩, Nat.le_refl _⟩
        · exact ⟨⟨G, exR _, inv_write h ha hx h2 hto (by omega)⟩, by rw [(wrote_inv h ha hx h2 hto (by omega)).2.1]; exact Nat.le_max_left _ _⟩
      · have h3 : x.m.kind = 3 := by omega
        by_cases hq : (R a).role ≠ 2 ∨ x.m.term ≠ (R a).term
        · rw [Rp.ack, if_pos hq]; exact ⟨⟨G, exR _, inv_same h ha⟩, Nat.le_refl _⟩
        · obtain ⟨q1, q2⟩ := inv_ack h ha hx h3 hto (by omega) (by omega)
          exact ⟨⟨G, exR _, q1⟩, q2⟩
end
end Go.Proofs.Ytkobigdfijeajaa

/- The protocol: where the entries of logs come from. -/
namespace Go.Proofs.Ytkobigdfijeajaa
open Go.SL
theorem others_log {r : Rp} {m : Mg} {x : Ms} (h : x ∈ r.others m) : x.m = m := by
  obtain ⟨j, _, _, rfl⟩ := others_mem h; rfl
theorem elect_logs (r : Rp) (t : Int) : (r.elect t).1.log = r.log ∧ ∀ x ∈ (r.elect t).2.1, x.m.log = r.log ∨ x.m.log = [] := by
  rw [Rp.elect]
  split
  · exact ⟨rfl, by simp⟩
  · split
    · exact ⟨rfl, by simp⟩
    · split
      · exact ⟨rfl, fun x hx => .inl (by rw [others_log hx]; rfl)⟩
      · split
        · exact ⟨rfl, fun x hx => .inl (by rw [others_log hx]; rfl)⟩
        · exact ⟨rfl, fun x hx => .inr (by rw [others_log hx]; rfl)⟩
theorem propose_logs (r : Rp) (e : En) : ((r.propose e).1.log = r.log ∨ ((r.propose e).2.2 = 0 ∧ (r.propose e).1.log = r.log ++ [e])) ∧ ∀ x ∈ (r.propose e).2.1, x.m.log = (r.propose e).1.log := by
  rw [Rp.propose]
  split
  · exact ⟨.inl rfl, by simp⟩
  · split
    · exact ⟨.inl rfl, by simp⟩
    · split
      · exact ⟨.inl rfl, by simp⟩
      · exact ⟨.inr ⟨rfl, rfl⟩, fun x hx => by rw [others_log hx]; rfl⟩
theorem follow_log (r : Rp) (t : Nat) : (r.follow t).log = r.log := (r.follow_same t).2.2.2.1
theorem wrote_log (A : Rp) (m : Mg) : (A.wrote m).log = A.log ∨ (A.wrote m).log = m.log := by
  unfold Rp.wrote Rp.adopt Rp.clamp
  split
  · exact .inr rfl
  · exact .inl rfl
theorem heard_log (r : Rp) (m : Mg) : (r.heard m).log = r.log ∨ (r.heard m).log = m.log := by
  rcases (heard_facts r m).2.2 with ⟨_, h, _⟩ | ⟨_, h, _⟩
  · exact .inr h
  · exact .inl h
theorem recv_logs (r : Rp) (m : Mg) (frm : Nat) : ((r.recv m frm).1.log = r.log ∨ (r.recv m frm).1.log = m.log) ∧ ∀ x ∈ (r.recv m frm).2, x.m.log = (r.recv m frm).1.log ∨ x.m.log = [] := by
  rw [Rp.recv]
  split
  · rw [Rp.ask]
    split
    · exact ⟨.inl rfl, by simp⟩
    · refine ⟨.inl (follow_log r _), fun x hx => ?_⟩
      obtain rfl := List.mem_singleton.1 hx
      exact .inl rfl
  · split
    · rw [Rp.vote]
      split
      · exact ⟨.inl rfl, by simp⟩
      · exact ⟨heard_log r m, fun x hx => .inl (by rw [others_log hx]; rfl)⟩
    · split
      · rw [Rp.write]
        split
        · exact ⟨.inl rfl, by simp⟩
        · refine ⟨?_, fun x hx => ?_⟩
          · rcases wrote_log (r.follow m.term) m with h | h
            · exact .inl (by show ((r.follow m.term).wrote m).log = _; rw [h, follow_log])
            · exact .inr h
          · obtain rfl := List.mem_singleton.1 hx
            exact .inr rfl
      · rw [Rp.ack]
        split
        · exact ⟨.inl rfl, by simp⟩
        · split
          · exact ⟨.inl rfl, by simp⟩
          · exact ⟨.inl rfl, fun x hx => .inl (by rw [others_log hx]; rfl)⟩
end Go.Proofs.Ytkobigdfijeajaa
