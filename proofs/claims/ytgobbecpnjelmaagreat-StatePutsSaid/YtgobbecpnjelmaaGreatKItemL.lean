/-
  ItemL: Walks for what must come of every program: a reader that is not there, an alert.
-/
import Derived.Test.YtgobbecpnjelmaaGreatJ0c
import Derived.Test.YtgobbecpnjelmaaGreatJ0b
namespace Go.Proofs.YtgobbecpnjelmaaGreat
open Go.RowKit

end Go.Proofs.YtgobbecpnjelmaaGreat
