/-
  How trees lie in memory.
-/
import Derived.Test.YtopodhcgfmpphaaTreeP
namespace Go.Proofs.Ytopodhcgfmpphaa
open Go.RowKit

/-- A node lies from (b, o) on. -/
def NodeAt (w : World) (b o : Nat) (n : NodeP) : Prop :=
  ∃ cv, Ints .i64 w cv n.coef ∧ w.cell? ⟨b, o, none⟩ = some cv ∧ w.cell? ⟨b, o + 1, none⟩ = some (.int .i64 n.at_) ∧ w.cell? ⟨b, o + 2, none⟩ = some (.int .i64 n.left) ∧
    w.cell? ⟨b, o + 3, none⟩ = some (.int .i64 n.right) ∧ w.cell? ⟨b, o + 4, none⟩ = some (.int .i64 n.size)

/-- v is a slice of nodes. -/
def NodesR (w : World) (v : Value) (l : List NodeP) : Prop :=
  ∃ a c, v = .slice a l.length c ∧ l.length ≤ c ∧ c ≤ 9223372036854775807 ∧ l.length ≤ 140737488351232 ∧
    ∀ (i : Nat) (n : NodeP), l[i]? = some n → ∃ b o, a = some ⟨b, o, none⟩ ∧ b < w.heap.size ∧ NodeAt w b (o + i * 5) n

/-- v is a tree. -/
def TreeR (w : World) (v : Value) (t : TreeP) : Prop := ∃ nv, v = .agg #[.int .i64 t.dim, nv] ∧ NodesR w nv t.nodes

/-- v is a node. -/
def NodeV (w : World) (v : Value) (n : NodeP) : Prop := ∃ cv, v = .agg #[cv, .int .i64 n.at_, .int .i64 n.left, .int .i64 n.right, .int .i64 n.size] ∧ Ints .i64 w cv n.coef

theorem NodeAt.below {w w' : World} {b o : Nat} {n : NodeP} (h : NodeAt w b o n) (hb : b < w.heap.size) (B : Below w.heap.size w w') : NodeAt w' b o n := by
  obtain ⟨cv, h0, h1, h2, h3, h4, h5⟩ := h
  exact ⟨cv, h0.below B, (B.cell (p := ⟨b, _, none⟩) hb).trans h1, (B.cell (p := ⟨b, _, none⟩) hb).trans h2, (B.cell (p := ⟨b, _, none⟩) hb).trans h3, (B.cell (p := ⟨b, _, none⟩) hb).trans h4, (B.cell (p := ⟨b, _, none⟩) hb).trans h5⟩

theorem NodesR.below {w w' : World} {v : Value} {l : List NodeP} (h : NodesR w v l) (B : Below w.heap.size w w') : NodesR w' v l := by
  obtain ⟨a, c, e, h1, h2, h3, h⟩ := h
  refine ⟨a, c, e, h1, h2, h3, fun i n hi => ?_⟩
  obtain ⟨b, o, e, hb, hn⟩ := h i n hi
  exact ⟨b, o, e, Nat.lt_of_lt_of_le hb B.size, hn.below hb B⟩

theorem TreeR.below {w w' : World} {v : Value} {t : TreeP} (h : TreeR w v t) (B : Below w.heap.size w w') : TreeR w' v t := by
  obtain ⟨nv, e, h⟩ := h
  exact ⟨nv, e, h.below B⟩

theorem NodeV.below {w w' : World} {v : Value} {n : NodeP} (h : NodeV w v n) (B : Below w.heap.size w w') : NodeV w' v n := by
  obtain ⟨cv, e, h⟩ := h
  exact ⟨cv, e, h.below B⟩

theorem NodeAt.val {w : World} {b o : Nat} {n : NodeP} (h : NodeAt w b o n) : ∃ ad cc, Ints .i64 w (.slice ad n.coef.length cc) n.coef ∧ w.cell? ⟨b, o, none⟩ = some (.slice ad n.coef.length cc) ∧ w.cell? ⟨b, o + 1, none⟩ = some (.int .i64 n.at_) ∧ w.cell? ⟨b, o + 2, none⟩ = some (.int .i64 n.left) ∧
    w.cell? ⟨b, o + 3, none⟩ = some (.int .i64 n.right) ∧ w.cell? ⟨b, o + 4, none⟩ = some (.int .i64 n.size) := by
  obtain ⟨cv, h0, h1, h2, h3, h4, h5⟩ := h
  obtain ⟨ad, cc, rfl⟩ := h0.shape
  exact ⟨ad, cc, h0, h1, h2, h3, h4, h5⟩

theorem TreeR.node {w : World} {d : Int} {b o n cc : Nat} {t : TreeP} (h : TreeR w (.agg #[.int .i64 d, .slice (some ⟨b, o, none⟩) n cc]) t) {i : Nat} {nd : NodeP} (hn : t.nodes[i]? = some nd) : b < w.heap.size ∧ NodeAt w b (o + i * 5) nd := by
  obtain ⟨nv, e, a, c, rfl, _, _, _, h⟩ := h
  injection e with e
  injection e with e
  simp at e
  obtain ⟨b', o', e', hb, hat⟩ := h i nd hn
  rw [← e.2.1] at e'
  injection e' with e'
  injection e' with e1 e2 e3
  subst e1 e2
  exact ⟨hb, hat⟩

theorem TreeR.addr {w : World} {d : Int} {ad : Option Addr} {n cc : Nat} {t : TreeP} (h : TreeR w (.agg #[.int .i64 d, .slice ad n cc]) t) {i : Nat} (hn : i < t.nodes.length) : ∃ b o, ad = some ⟨b, o, none⟩ := by
  obtain ⟨nv, e, a, c, rfl, _, _, _, h⟩ := h
  injection e with e
  injection e with e
  simp at e
  obtain ⟨nd, hnd⟩ := getElem?_ex hn
  obtain ⟨b', o', e', _⟩ := h i nd hnd
  exact ⟨b', o', e.2.1.trans e'⟩
end Go.Proofs.Ytopodhcgfmpphaa
