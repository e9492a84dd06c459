/-
  ItemC: Walk of the reference's GetScore.
-/
import Derived.Test.YtgobbecpnjelmaaGreatJ0c
namespace Go.Proofs.YtgobbecpnjelmaaGreat
open Go.RowKit

end Go.Proofs.YtgobbecpnjelmaaGreat
