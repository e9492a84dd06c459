/-
  PathE: Walk of path.Sum.
-/
import Derived.Test.YtgobbecpnjelmaaGreatJ1a
namespace Go.Proofs.YtgobbecpnjelmaaGreat
open Go.RowKit

/-- v is a slice of trees. -/
def TreesR (w : World) (v : Value) (l : List TreeP) : Prop :=
 ∃ a c, v = .slice a l.length c ∧ l.length ≤ c ∧ c ≤ 9223372036854775807 ∧ l.length ≤ 140737488351232 ∧
  ∀ (i : Nat) (t : TreeP), l[i]? = some t → ∃ b o nv, a = some ⟨b, o, none⟩ ∧ b < w.heap.size ∧ w.cell? ⟨b, o + i * 2, none⟩ = some (.int .i64 t.dim) ∧ w.cell? ⟨b, o + i * 2 + 1, none⟩ = some nv ∧ NodesR w nv t.nodes

theorem TreesR.below {w w' : World} {v : Value} {l : List TreeP} (h : TreesR w v l) (B : Below w.heap.size w w') : TreesR w' v l := by
 obtain ⟨a, c, e, h1, h2, h3, h⟩ := h
 refine ⟨a, c, e, h1, h2, h3, fun i t hi => ?_⟩
 obtain ⟨b, o, nv, e, hb, c0, c1, hn⟩ := h i t hi
 exact ⟨b, o, nv, e, Nat.lt_of_lt_of_le hb B.size, (B.cell (p := ⟨b, _, none⟩) hb).trans c0, (B.cell (p := ⟨b, _, none⟩) hb).trans c1, hn.below B⟩

def dim0 (l : List TreeP) : Int := (l[0]?).elim 0 TreeP.dim

noncomputable def okT (l : List TreeP) (t : TreeP) : Bool := treeB t && decide (t.dim = dim0 l)

noncomputable def allT (l : List TreeP) : Bool := l.all (okT l)

theorem allT_not {l : List TreeP} {i : Nat} {t : TreeP} (hi : l[i]? = some t) (h : okT l t = false) : allT l = false := by
 cases hA : allT l with
 | false => rfl
 | true =>
  unfold allT at hA
  rw [List.all_eq_true] at hA
  rw [hA t (List.mem_of_getElem? hi)] at h
  cases h

end Go.Proofs.YtgobbecpnjelmaaGreat
