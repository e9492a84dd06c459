/-
  WoodF: Walk of the reference's node.
-/
import Derived.Test.YtdbonlpkmncggaaKWoodE
import Derived.Test.YtdbonlpkmncggaaJ0a
import Derived.Test.YtdbonlpkmncggaaKForW
namespace Go.Proofs.Ytdbonlpkmncggaa
open Go.RowKit

/-- Nodes under way in the reference: a row from B on; what is read lies below B; all lies below K. -/
structure RN (B K : Nat) (v : Value) (l : List Int) (U : World) (ov : Value) (ps : List (NodeP × Value)) : Prop where
  hK : B ≤ K ∧ K ≤ U.heap.size
  vi : Ints .u8 U v l
  vb : l ≠ [] → ∀ g, AtB v g → g < B
  ou : U.ownsRow B 85 5 ov ps.length (ps.flatMap rowN)
  ok : ∀ g, ov.ownBlock = some g → g < K
  cf : ∀ p ∈ ps, Ints .i64 U p.2 p.1.coef ∧ (p.1.coef ≠ [] → ∀ g, AtB p.2 g → B ≤ g ∧ g < K ∧ ov.ownBlock ≠ some g)

theorem ints_kept8 {k : IntKind} {w w' : World} {v : Value} {l : List Int} (h : Ints k w v l) (hk : l ≠ [] → ∀ g, AtB v g → w'.heap[g]? = w.heap[g]?) (hz : w.heap.size ≤ w'.heap.size) : Ints k w' v l := by
  obtain ⟨a, c, rfl, h1, h2, h3, h4⟩ := h
  refine ⟨a, c, rfl, h1, h2, h3, fun i x hi => ?_⟩
  obtain ⟨b, o, rfl, hb, hc⟩ := h4 i x hi
  exact ⟨b, o, rfl, Nat.lt_of_lt_of_le hb hz, (World.cell?_of_block (a := ⟨b, _, none⟩) (hk (fun e => by rw [e] at hi; simp at hi) b ⟨o, _, _, rfl⟩)).trans hc⟩

section
variable {B K : Nat} {v ov : Value} {l : List Int} {U U' : World} {ps : List (NodeP × Value)}

theorem RN.over (S : RN B K v l U ov ps) (hb : ∀ b, b < K → U'.heap[b]? = U.heap[b]?) (hz : U.heap.size ≤ U'.heap.size) : RN B K v l U' ov ps := by
  have hK := S.hK
  refine ⟨⟨hK.1, Nat.le_trans hK.2 hz⟩, ints_kept8 S.vi (fun h g hg => hb g (by have := S.vb h g hg; omega)) hz, S.vb, own_at S.ou fun g hg => hb g (S.ok g hg), S.ok, fun p hp => ?_⟩
  obtain ⟨g1, g2⟩ := S.cf p hp
  exact ⟨ints_kept' g1 (fun h g hgo => hb g (g2 h g hgo).2.1) hz, g2⟩

theorem RN.later (S : RN B K v l U ov ps) (h : Below K U U') : RN B K v l U' ov ps := S.over (fun b hb => h.block b hb) h.size

theorem RN.up (S : RN B K v l U ov ps) {K' : Nat} (h : K ≤ K') (h' : K' ≤ U.heap.size) : RN B K' v l U ov ps :=
  ⟨⟨Nat.le_trans S.hK.1 h, h'⟩, S.vi, S.vb, S.ou, fun g hg => Nat.lt_of_lt_of_le (S.ok g hg) h, fun p hp => ⟨(S.cf p hp).1, fun hh g hg => by obtain ⟨q1, q2, q3⟩ := (S.cf p hp).2 hh g hg; exact ⟨q1, by omega, q3⟩⟩⟩

theorem RN.ub {g : Nat} (S : RN B K v l U ov ps) (h : ov.ownBlock = some g) : B ≤ g ∧ g < K := ⟨(S.ou.lt g h).1, S.ok g h⟩

theorem RN.add {ov' cv : Value} {n : NodeP} (S : RN B K v l U ov ps) (hi : Ints .i64 U cv n.coef) (hc : n.coef ≠ [] → ∀ g, AtB cv g → B ≤ g ∧ g < U.heap.size ∧ ov.ownBlock ≠ some g)
    (ho : U'.ownsRow B 85 5 ov' (ps.length + 1) (ps.flatMap rowN ++ rowN (n, cv))) (hg : U.grownBy U' ov.ownBlock) (hn : NewB U ov ov') : RN B U'.heap.size v l U' ov' (ps ++ [(n, cv)]) := by
  have hK := S.hK
  have hz := hg.size
  have keep : ∀ b, b < U.heap.size → ov.ownBlock ≠ some b → U'.heap[b]? = U.heap[b]? := fun b h1 h2 => hg.block b h1 (fun e => h2 e.symm)
  have hno : ∀ g, g < U.heap.size → ov.ownBlock ≠ some g → ov'.ownBlock ≠ some g := fun g h1 h2 => by
    rcases hn with h | ⟨b, h, hb⟩
    · rw [h]; exact h2
    · rw [h]; intro e; injection e with e; omega
  refine ⟨⟨by omega, Nat.le_refl _⟩, ints_kept8 S.vi (fun h g hgo => keep g (by have := S.vb h g hgo; omega) (fun e => by have := S.vb h g hgo; have := (S.ub e).1; omega)) hz, S.vb, ?_, fun g h => (ho.lt g h).2, fun p hp => ?_⟩
  · rw [List.length_append, List.flatMap_append]
    simpa using ho
  · rcases List.mem_append.1 hp with hp | hp
    · obtain ⟨g1, g2⟩ := S.cf p hp
      refine ⟨ints_kept' g1 (fun h g hgo => keep g (by have := (g2 h g hgo).2.1; omega) (g2 h g hgo).2.2) hz, fun h g hgo => ?_⟩
      obtain ⟨q1, q2, q3⟩ := g2 h g hgo
      exact ⟨q1, by omega, hno g (by omega) q3⟩
    · obtain rfl : p = (n, cv) := by simpa using hp
      refine ⟨ints_kept' hi (fun h g hgo => keep g (hc h g hgo).2.1 (hc h g hgo).2.2) hz, fun h g hgo => ?_⟩
      obtain ⟨q1, q2, q3⟩ := hc h g hgo
      exact ⟨q1, by omega, hno g q2 q3⟩

/-- A number of a node is stored: which is what it is told by f. -/
theorem RN.store {g n c : Nat} {qs : List (NodeP × Value)} {k : Nat} {u : Value} (S : RN B K v l U (.slice (some ⟨g, 0, none⟩) n c) ps) (hl : qs.length = ps.length) (hs : (ps.flatMap rowN).set k u = qs.flatMap rowN) (hm : ∀ p ∈ qs, ∃ q ∈ ps, q.2 = p.2 ∧ q.1.coef = p.1.coef) :
    RN B K v l (U.setCell ⟨g, k, none⟩ u) (.slice (some ⟨g, 0, none⟩) n c) qs := by
  have hK := S.hK
  have hnc : n = ps.length := by
    have h := S.ou
    rcases h.2 with ⟨h1, _⟩ | ⟨g', cap, cur, h1, _⟩
    · cases h1
    · injection h1 with _ h1
  subst hnc
  have hgl : B ≤ g ∧ g < K := S.ub rfl
  have keep : ∀ b, b ≠ g → (U.setCell ⟨g, k, none⟩ u).heap[b]? = U.heap[b]? := fun b hb => Below.heap_setCell _ _ _ _ hb
  refine ⟨⟨hK.1, by simpa using hK.2⟩, ints_kept8 S.vi (fun h b hb => keep b (by have := S.vb h b hb; omega)) (by simp), S.vb, ?_, S.ok, fun p hp => ?_⟩
  · rw [hl, ← hs]
    exact own_setAt S.ou _ _
  · obtain ⟨q, hq, e1, e2⟩ := hm p hp
    obtain ⟨g1, g2⟩ := S.cf q hq
    rw [e1, e2] at g1
    rw [e1, e2] at g2
    exact ⟨ints_kept' g1 (fun h b hb => keep b (fun e => (g2 h b hb).2.2 (by rw [e]; rfl))) (by simp), g2⟩
end

/-- A row of the call's own has grown. -/
structure Grew (w : World) (ov : Value) (W : World) (ov' : Value) : Prop where
  gr : w.grownBy W ov.ownBlock
  nb : NewB w ov ov'

theorem Grew.refl (w : World) (ov : Value) : Grew w ov w ov := ⟨⟨rfl, rfl, rfl, Nat.le_refl _, fun _ _ _ => rfl⟩, .inl rfl⟩

theorem Grew.trans {w W W2 : World} {ov ov' ov2 : Value} (h : Grew w ov W ov') (k : Grew W ov' W2 ov2) : Grew w ov W2 ov2 := by
  have hz := h.gr.size
  have kz := k.gr.size
  refine ⟨⟨k.gr.os.trans h.gr.os, k.gr.tape.trans h.gr.tape, k.gr.output.trans h.gr.output, Nat.le_trans hz kz, fun b h1 h2 => (k.gr.block b (by omega) (fun e => ?_)).trans (h.gr.block b h1 h2)⟩, ?_⟩
  · rcases h.nb with e2 | ⟨q, e2, hq⟩
    · exact h2 (e.trans e2)
    · rw [e2] at e
      injection e with e
      omega
  · rcases k.nb with e2 | ⟨q, e2, hq⟩
    · rcases h.nb with e3 | ⟨q, e3, hq⟩
      · exact .inl (e2.trans e3)
      · exact .inr ⟨q, e2.trans e3, hq⟩
    · exact .inr ⟨q, e2, by omega⟩

theorem Grew.below {w W W2 : World} {ov ov' : Value} (h : Grew w ov W ov') (k : Below W.heap.size W W2) : Grew w ov W2 ov' :=
  h.trans ⟨⟨k.os, k.tape, k.output, k.size, fun b hb _ => k.block b hb⟩, .inl rfl⟩

theorem Grew.new {w W : World} {ov ov' : Value} (h : Grew w ov W ov') (x : Obj) : Grew w ov (W.alloc x) ov' := h.below ((Below.refl _ _).alloc (Nat.le_refl _) x)

theorem Grew.drew {w W : World} {ov ov' : Value} (h : Grew w ov W ov') : Grew w ov W.drew ov' := h.below (Below.refl _ _).drew

theorem Grew.ofBelow {w W : World} {ov : Value} (h : Below w.heap.size w W) : Grew w ov W ov := (Grew.refl w ov).below h

theorem Grew.set {w W : World} {ov ov' : Value} (N o : Nat) (u : Value) (hN : w.heap.size ≤ N ∨ ov'.ownBlock = some N) (h : Grew w ov W ov') : Grew w ov (W.setCell ⟨N, o, none⟩ u) ov' := by
  refine ⟨⟨h.gr.os, h.gr.tape, h.gr.output, by simpa using h.gr.size, fun b h1 h2 => (Below.heap_setCell _ _ _ _ (show b ≠ N from fun e => ?_)).trans (h.gr.block b h1 h2)⟩, h.nb⟩
  subst e
  rcases hN with hN | hN
  · omega
  · rcases h.nb with e2 | ⟨q, e2, hq⟩
    · exact h2 (hN.symm.trans e2)
    · rw [e2] at hN
      injection hN with hN
      omega

/-- No list of numbers lies in the block X. -/
def OffB (X : Nat) (ps : List (NodeP × Value)) : Prop := ∀ p ∈ ps, p.1.coef ≠ [] → ∀ g, AtB p.2 g → g ≠ X

/-- All lists of numbers lie from M on. -/
def FromB (M : Nat) (ps : List (NodeP × Value)) : Prop := ∀ p ∈ ps, p.1.coef ≠ [] → ∀ g, AtB p.2 g → M ≤ g

theorem FromB.off {M X : Nat} {ps : List (NodeP × Value)} (h : FromB M ps) (hX : X < M) : OffB X ps := fun p hp hc g hg => by have := h p hp hc g hg; omega

theorem OffB.app {X : Nat} {ps qs : List (NodeP × Value)} (h : OffB X ps) (k : OffB X qs) : OffB X (ps ++ qs) := fun p hp => (List.mem_append.1 hp).elim (h p) (k p)

theorem FromB.app {X : Nat} {ps qs : List (NodeP × Value)} (h : FromB X ps) (k : FromB X qs) : FromB X (ps ++ qs) := fun p hp => (List.mem_append.1 hp).elim (h p) (k p)

theorem FromB.low {X Y : Nat} {ps : List (NodeP × Value)} (h : FromB X ps) (k : Y ≤ X) : FromB Y ps := fun p hp hc g hg => Nat.le_trans k (h p hp hc g hg)

section
variable {B K : Nat} {v ov : Value} {l : List Int} {U U' : World} {ps : List (NodeP × Value)}
theorem RN.new (S : RN B K v l U ov ps) (x : Obj) : RN B K v l (U.alloc x) ov ps := S.later ((Below.refl _ _).alloc S.hK.2 x)
theorem RN.drew (S : RN B K v l U ov ps) : RN B K v l U.drew ov ps := S.later (Below.refl _ _).drew
theorem RN.here (S : RN B K v l U ov ps) : RN B U.heap.size v l U ov ps := S.up S.hK.2 (Nat.le_refl _)
theorem RN.offK (S : RN B K v l U ov ps) {X : Nat} (h : K ≤ X) : OffB X ps := fun p hp hc g hg => by have := (S.cf p hp).2 hc g hg; omega
theorem RN.setX (X o : Nat) (u : Value) (hB : B ≤ X) (ho : ov.ownBlock ≠ some X) (hc : OffB X ps) (S : RN B K v l U ov ps) : RN B K v l (U.setCell ⟨X, o, none⟩ u) ov ps := by
  have hK := S.hK
  have keep : ∀ b, b ≠ X → (U.setCell ⟨X, o, none⟩ u).heap[b]? = U.heap[b]? := fun b hb => Below.heap_setCell _ _ _ _ hb
  refine ⟨⟨hK.1, by simpa using hK.2⟩, ints_kept8 S.vi (fun h g hg => keep g (by have := S.vb h g hg; omega)) (by simp), S.vb, own_at S.ou fun g hg => keep g (fun e => ho (by rw [hg, e])), S.ok, fun p hp => ?_⟩
  obtain ⟨g1, g2⟩ := S.cf p hp
  exact ⟨ints_kept' g1 (fun h g hgo => keep g (hc p hp h g hgo)) (by simp), g2⟩
end

theorem gr3f (b : Nat) (v0 v1 v2 : Value) {r : Option Nat} {m w : World} (k : m.grownBy w r) (e : m.cell? ⟨b, 0, none⟩ = some v0 ∧ m.frozen? ⟨b, 0, none⟩ = false ∧ m.cell? ⟨b, 1, none⟩ = some v1 ∧ m.frozen? ⟨b, 1, none⟩ = false ∧ m.cell? ⟨b, 2, none⟩ = some v2 ∧ m.frozen? ⟨b, 2, none⟩ = false) (h : b < m.heap.size) (hn : r ≠ some b) : w.cell? ⟨b, 0, none⟩ = some v0 ∧ w.frozen? ⟨b, 0, none⟩ = false ∧ w.cell? ⟨b, 1, none⟩ = some v1 ∧ w.frozen? ⟨b, 1, none⟩ = false ∧ w.cell? ⟨b, 2, none⟩ = some v2 ∧ w.frozen? ⟨b, 2, none⟩ = false := by
  obtain ⟨e0, f0, e1, f1, e2, f2⟩ := e
  exact ⟨(gcell k h hn).trans e0, (gfroz k h hn).trans f0, (gcell k h hn).trans e1, (gfroz k h hn).trans f1, (gcell k h hn).trans e2, (gfroz k h hn).trans f2⟩

theorem below_grown {B : Nat} {a m w : World} {r : Option Nat} (h : Below B a m) (g : m.grownBy w r) (hr : ∀ x, r = some x → B ≤ x) (hB : B ≤ m.heap.size) : Below B a w :=
  below_tr h ⟨g.os, g.tape, g.output, g.size, fun k hk => g.block k (by omega) (fun e => by have := hr k e.symm; omega)⟩

theorem rdB_n0 {l : List Int} {d h a p p1 p2 : Nat} {c : List Int} {e1 e2 x : Int} (h1 : rdN' l a 0 64 = (0, p, 0)) (h2 : rdXs l d p 0 = (c, p1, e1)) (h3 : rdI' l p1 e1 = (x, p2, e2)) (he : e2 ≠ 0) : rdB l d (h + 1) a = (none, p2, e2) := by
  rw [rdB_node h1 h2 h3, if_pos he]

theorem rdB_n1 {l : List Int} {d h a p p1 p2 p3 : Nat} {c : List Int} {e1 x e3 : Int} (h1 : rdN' l a 0 64 = (0, p, 0)) (h2 : rdXs l d p 0 = (c, p1, e1)) (h3 : rdI' l p1 e1 = (x, p2, 0)) (h4 : rdB l d h p2 = (none, p3, e3)) : rdB l d (h + 1) a = (none, p3, e3) := by
  rw [rdB_node h1 h2 h3, if_neg (by simp), h4]

theorem rdB_n2 {l : List Int} {d h a p p1 p2 p3 p4 : Nat} {c : List Int} {e1 x e3 e4 : Int} {L : BT} (h1 : rdN' l a 0 64 = (0, p, 0)) (h2 : rdXs l d p 0 = (c, p1, e1)) (h3 : rdI' l p1 e1 = (x, p2, 0)) (h4 : rdB l d h p2 = (some L, p3, e3)) (h5 : rdB l d h p3 = (none, p4, e4)) : rdB l d (h + 1) a = (none, p4, e4) := by
  rw [rdB_node h1 h2 h3, if_neg (by simp), h4]
  show (match rdB l d h p3 with | (none, p', e) => _ | (some R, p', _) => _) = _
  rw [h5]

theorem rdB_n3 {l : List Int} {d h a p p1 p2 p3 p4 : Nat} {c : List Int} {e1 x e3 e4 : Int} {L R : BT} (h1 : rdN' l a 0 64 = (0, p, 0)) (h2 : rdXs l d p 0 = (c, p1, e1)) (h3 : rdI' l p1 e1 = (x, p2, 0)) (h4 : rdB l d h p2 = (some L, p3, e3)) (h5 : rdB l d h p3 = (some R, p4, e4)) : rdB l d (h + 1) a = (some (.node c x L R), p4, 0) := by
  rw [rdB_node h1 h2 h3, if_neg (by simp), h4]
  show (match rdB l d h p3 with | (none, p', e) => _ | (some R, p', _) => _) = _
  rw [h5]

theorem dcell {W : World} {A : Addr} {u : Value} (h : W.cell? A = some u) : W.drew.cell? A = some u := h
theorem dfroz {W : World} {A : Addr} (h : W.frozen? A = false) : W.drew.frozen? A = false := h
theorem scell {W : World} {b o N o' : Nat} {u u' : Value} (h : W.cell? ⟨b, o, none⟩ = some u) (hb : b ≠ N) : (W.setCell ⟨N, o', none⟩ u').cell? ⟨b, o, none⟩ = some u := (World.cell?_of_block (a := ⟨b, o, none⟩) (Below.heap_setCell W ⟨N, o', none⟩ u' b hb)).trans h
theorem sfroz {W : World} {b o N o' : Nat} {u' : Value} (h : W.frozen? ⟨b, o, none⟩ = false) (hb : b ≠ N) : (W.setCell ⟨N, o', none⟩ u').frozen? ⟨b, o, none⟩ = false := (World.frozen?_of_block (a := ⟨b, o, none⟩) (Below.heap_setCell W ⟨N, o', none⟩ u' b hb)).trans h

theorem new5d (c : Value) (i1 i2 i3 i4 : Int) (W : World) (T : TypeId) (b : Nat) (hb : b = W.heap.size) : ∀ (j : Nat) (u : Value), [c, .int .i64 i1, .int .i64 i2, .int .i64 i3, .int .i64 i4][j]? = some u → ∃ b' o, (some ⟨b, 0, none⟩ : Option Addr) = some ⟨b', o, none⟩ ∧ (W.alloc (.cells #[c, .int .i64 i1, .int .i64 i2, .int .i64 i3, .int .i64 i4] T)).drew.cell? ⟨b', o + j, none⟩ = some u := by
  intro j u hu
  subst hb
  refine ⟨_, _, rfl, ?_⟩
  have hb := heap_alloc_new W (.cells #[c, .int .i64 i1, .int .i64 i2, .int .i64 i3, .int .i64 i4] T)
  rw [Nat.zero_add]
  show (W.alloc (.cells #[c, .int .i64 i1, .int .i64 i2, .int .i64 i3, .int .i64 i4] T)).cell? ⟨W.heap.size, j, none⟩ = some u
  simp only [World.cell?, hb]
  simpa using hu

theorem Grew.off {w W : World} {ov ov' : Value} (h : Grew w ov W ov') {X : Nat} (h1 : ov.ownBlock ≠ some X) (h2 : X < w.heap.size) : ov'.ownBlock ≠ some X := by
  rcases h.nb with e | ⟨q, e, hq⟩
  · rw [e]; exact h1
  · rw [e]; intro e2; injection e2 with e2; omega

theorem leaf_off (X : Nat) (s : Nat) (cv : Value) : OffB X [(leafN s, cv)] := fun p hp hc => by
  obtain rfl : p = (leafN s, cv) := by simpa using hp
  exact absurd rfl hc

theorem leaf_from (X : Nat) (s : Nat) (cv : Value) : FromB X [(leafN s, cv)] := fun p hp hc => by
  obtain rfl : p = (leafN s, cv) := by simpa using hp
  exact absurd rfl hc

theorem modify_midG {α : Type} (post : List α) (n : α) (f : α → α) : ∀ pre : List α, (pre ++ n :: post).modify pre.length f = pre ++ f n :: post
  | [] => rfl
  | a :: pre => by rw [List.cons_append, List.length_cons, List.modify_succ_cons, modify_midG post n f pre]; rfl

theorem set_mid (ps qs : List (NodeP × Value)) (n : NodeP) (cv : Value) (k : Nat) (hk : ps.length = k) (r s : Int) : setSV (setRV (ps ++ (n, cv) :: qs) k r) k s = ps ++ ({ n with right := r, size := s }, cv) :: qs := by
  subst hk
  have h1 : setRV (ps ++ (n, cv) :: qs) ps.length r = ps ++ ({ n with right := r }, cv) :: qs := by
    unfold setRV
    rw [modify_midG]
  rw [h1]
  unfold setSV
  rw [modify_midG]

theorem OffB.same {X : Nat} {ps qs : List (NodeP × Value)} (h : OffB X ps) (hm : ∀ p ∈ qs, ∃ q ∈ ps, q.2 = p.2 ∧ q.1.coef = p.1.coef) : OffB X qs := fun p hp hc g hg => by
  obtain ⟨q, hq, e1, e2⟩ := hm p hp
  exact h q hq (by rw [e2]; exact hc) g (by rw [e1]; exact hg)

theorem mid_at (ps qs : List (NodeP × Value)) (j : Nat) : (ps ++ qs)[ps.length + j]? = qs[j]? := by
  rw [List.getElem?_append_right (by omega), Nat.add_sub_cancel_left]

/-- What the reference's node gives back. -/
def RNTo (B : Nat) (v : Value) (l : List Int) (w : World) (ov : Value) (ps : List (NodeP × Value)) (r : Option BT × Nat × Int) (e : Ending) (w' : World) : Prop :=
  ∃ oa n c, e = .returned (.tuple #[.agg #[v, .int .i64 (r.2.1 : Int), .int .i64 r.2.2], .slice oa n c]) ∧ w.grownBy w' ov.ownBlock ∧
    ∀ T, r.1 = some T → ∃ qs, n = (ps ++ qs).length ∧ qs.map (·.1) = T.flat ps.length ∧ NewB w ov (.slice oa n c) ∧ RN B w'.heap.size v l w' (.slice oa n c) (ps ++ qs) ∧ FromB w.heap.size qs

def RNodeC (v : Value) (l : List Int) (d h : Nat) : Prop := ∀ (s : Int), s + 1 = (h : Int) → h ≤ 7 → ∀ (B : Nat) (w : World) (ov : Value) (ps : List (NodeP × Value)) (a : Nat), RN B w.heap.size v l w ov ps → a ≤ l.length → ps.length + 2 ^ h ≤ 1000 →
    Calls Try.prog 77 #[.agg #[v, .int .i64 (a : Int), .int .i64 0], .int .i64 (d : Int), .int .i64 s, ov] w fun e w' => RNTo B v l w ov ps (rdB l d h a) e w'

set_option maxRecDepth 100000 in
set_option maxHeartbeats 16000000 in
theorem rnode_zero (v : Value) (l : List Int) (d : Nat) : RNodeC v l d 0 := by
  intro s hs _ B w ov ps a h ha hp
  have H := Lib.hid h
  obtain ⟨va, vc, rfl⟩ := h.vi.shape
  obtain ⟨oa, oc, rfl⟩ := own_shapeN h.ou
  obtain rfl : s = -1 := by omega
  clear h
  go_enter Try.func77, Try.ntmps77
  go_wp2_with fail
  (with_reducible refine (rFail_all (.slice va l.length vc) va l.length vc rfl (a : Int) 0 211 _).mono ?_); rintro e w2 ⟨rfl, b2⟩; have s2 : w.heap.size + 1 + 1 ≤ w2.heap.size := sz b2; have B2 := Lib.hid (Bc (B := w.heap.size) (a := w) (by (repeat (first | with_reducible exact Below.refl _ _ | with_reducible refine Bs ?_ | with_reducible refine Ba ?_ | with_reducible refine Bd ?_ | with_reducible refine Bn ?_))) b2); obtain ⟨c2_0, f2_0, c2_1, f2_1, c2_2, f2_2⟩ := k3f (w.heap.size + 1) (.slice none 0 0) (.int .i64 0) (.int .i64 0) b2 (by and_intros <;> go_simp); obtain ⟨l2_0, n2_0, m2_0⟩ := lnm (show w.heap.size + 1 < w2.heap.size by omega); clear b2
  go_wp2_with fail
  exact bodyPost_ret (v := .tuple #[.agg #[.slice va l.length vc, .int .i64 (a : Int), .int .i64 211], .slice oa ps.length oc]) (by simp [results, Try.results77, go_sem, failE, *]) rfl ⟨_, _, _, rfl, (Grew.ofBelow (by (repeat (first | with_reducible exact Below.refl _ _ | with_reducible refine Bs ?_ | with_reducible refine Ba ?_ | with_reducible refine Bd ?_ | with_reducible refine Bn ?_ | with_reducible refine Bt B2.out ?_)))).gr, fun T hT => by cases hT⟩

end Go.Proofs.Ytdbonlpkmncggaa
