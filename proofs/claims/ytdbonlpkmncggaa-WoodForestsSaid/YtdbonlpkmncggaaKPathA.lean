/-
  PathA: Walk of path.way: down a tree with a vector, each node told.
-/
import Derived.Test.YtdbonlpkmncggaaKTreeA
import Derived.Test.YtdbonlpkmncggaaJ0b
namespace Go.Proofs.Ytdbonlpkmncggaa
open Go.RowKit

theorem cell_of_block {w w' : World} {b o : Nat} (h : w'.heap[b]? = w.heap[b]?) : w'.cell? ⟨b, o, none⟩ = w.cell? ⟨b, o, none⟩ := World.cell?_of_block (a := ⟨b, o, none⟩) h

end Go.Proofs.Ytdbonlpkmncggaa
