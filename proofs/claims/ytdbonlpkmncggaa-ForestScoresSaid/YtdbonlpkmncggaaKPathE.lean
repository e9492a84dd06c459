/-
  PathE: Walk of path.Sum.
-/
import Derived.Test.YtdbonlpkmncggaaJ1a
namespace Go.Proofs.Ytdbonlpkmncggaa
open Go.RowKit

/-- v is a slice of trees. -/
def TreesR (w : World) (v : Value) (l : List TreeP) : Prop :=
  ∃ a c, v = .slice a l.length c ∧ l.length ≤ c ∧ c ≤ 9223372036854775807 ∧ l.length ≤ 140737488351232 ∧
    ∀ (i : Nat) (t : TreeP), l[i]? = some t → ∃ b o nv, a = some ⟨b, o, none⟩ ∧ b < w.heap.size ∧ w.cell? ⟨b, o + i * 2, none⟩ = some (.int .i64 t.dim) ∧ w.cell? ⟨b, o + i * 2 + 1, none⟩ = some nv ∧ NodesR w nv t.nodes

theorem TreesR.below {w w' : World} {v : Value} {l : List TreeP} (h : TreesR w v l) (B : Below w.heap.size w w') : TreesR w' v l := by
  obtain ⟨a, c, e, h1, h2, h3, h⟩ := h
  refine ⟨a, c, e, h1, h2, h3, fun i t hi => ?_⟩
  obtain ⟨b, o, nv, e, hb, c0, c1, hn⟩ := h i t hi
  exact ⟨b, o, nv, e, Nat.lt_of_lt_of_le hb B.size, (B.cell (p := ⟨b, _, none⟩) hb).trans c0, (B.cell (p := ⟨b, _, none⟩) hb).trans c1, hn.below B⟩

def dim0 (l : List TreeP) : Int := (l[0]?).elim 0 TreeP.dim
noncomputable def okT (l : List TreeP) (t : TreeP) : Bool := treeB t && decide (t.dim = dim0 l)
noncomputable def allT (l : List TreeP) : Bool := l.all (okT l)
noncomputable def sumE (l : List TreeP) (x : List Int) : Int :=
  if 16 < l.length then 3 else if l.length = 0 then 100 else if allT l = false then 100 else if vecB x (dim0 l) = false then 80 else 0
noncomputable def sumV (l : List TreeP) (x : List Int) : Int := sumI (l.map fun t => lenV t x)

theorem lenV_bd {t : TreeP} {x : List Int} (h : treeB t = true) : 0 ≤ lenV t x ∧ lenV t x ≤ 556198264832 := by
  obtain ⟨j, nd, g1, g2, g3, g4, g5, g6⟩ := way_facts (x := x) h
  have hb := norm_bd nd.size
  have e2 : normI nd.size = (loN (heldN nd.size) + hiN (heldN nd.size)) / 2 := rfl
  unfold lenV
  rw [g1]
  simp only []
  rw [g2]
  show 0 ≤ _ * 1073741824 + normI nd.size ∧ _ * 1073741824 + normI nd.size ≤ 556198264832
  omega

theorem allT_at {l : List TreeP} (h : allT l = true) {i : Nat} {t : TreeP} (hi : l[i]? = some t) : treeB t = true ∧ t.dim = dim0 l := by
  unfold allT at h
  rw [List.all_eq_true] at h
  have := h t (List.mem_of_getElem? hi)
  unfold okT at this
  simpa using this

theorem sum_take_bd {l : List TreeP} {x : List Int} (h : allT l = true) (hl : l.length ≤ 16) (k : Nat) : 0 ≤ sumI ((l.take k).map fun t => lenV t x) ∧ sumI ((l.take k).map fun t => lenV t x) ≤ 8899172237312 := by
  have := sumI_bd (l := (l.take k).map fun t => lenV t x) (b := 556198264832) (by
    intro y hy
    rw [List.mem_map] at hy
    obtain ⟨t, ht, rfl⟩ := hy
    obtain ⟨i, hi⟩ := List.getElem?_of_mem (List.mem_of_mem_take ht)
    exact lenV_bd (allT_at h hi).1)
  have hlen : ((l.take k).map fun t => lenV t x).length ≤ 16 := by simp; omega
  omega

theorem allT_not {l : List TreeP} {i : Nat} {t : TreeP} (hi : l[i]? = some t) (h : okT l t = false) : allT l = false := by
  cases hA : allT l with
  | false => rfl
  | true =>
    unfold allT at hA
    rw [List.all_eq_true] at hA
    rw [hA t (List.mem_of_getElem? hi)] at h
    cases h

end Go.Proofs.Ytdbonlpkmncggaa
