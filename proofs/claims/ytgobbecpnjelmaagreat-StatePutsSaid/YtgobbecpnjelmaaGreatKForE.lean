/-
  ForE: Walks of forest.Oldest and forest.Ages.
-/
import Derived.Test.YtgobbecpnjelmaaGreatKForA
import Derived.Test.YtgobbecpnjelmaaGreatJ0b
namespace Go.Proofs.YtgobbecpnjelmaaGreat
open Go.RowKit

theorem growns_at {w : World} {ad : Option Addr} {n c : Nat} {l : List (TreeP × Int)} (h : GrownsR w (.slice ad n c) l) {i : Nat} {p : TreeP × Int} (hi : l[i]? = some p) :
  ∃ b o na nc, ad = some ⟨b, o, none⟩ ∧ b < w.heap.size ∧ w.cell? ⟨b, o + i * 3, none⟩ = some (.int .i64 p.1.dim) ∧ w.cell? ⟨b, o + i * 3 + 1, none⟩ = some (.slice na p.1.nodes.length nc) ∧ w.cell? ⟨b, o + i * 3 + 2, none⟩ = some (.int .i64 p.2) ∧ Ok64 p.2 ∧ NodesR w (.slice na p.1.nodes.length nc) p.1.nodes := by
 obtain ⟨a, cc, e, _, _, _, h⟩ := h
 injection e with e1 e2 e3
 subst e1
 obtain ⟨b, o, nv, g1, g2, g3, g4, g5, g6, g7⟩ := h i p hi
 have g7' := g7
 obtain ⟨na, nc, rfl, _⟩ := g7'
 exact ⟨b, o, na, nc, g1, g2, g3, g4, g5, g6, g7⟩

end Go.Proofs.YtgobbecpnjelmaaGreat
