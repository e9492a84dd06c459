/-
  ItemD: Walks of item.names, item.few, item.RightAsk.
-/
import Derived.Test.YtgobbecpnjelmaaGreatKItemC
import Derived.Test.YtgobbecpnjelmaaGreatJ0b
namespace Go.Proofs.YtgobbecpnjelmaaGreat
open Go.RowKit

end Go.Proofs.YtgobbecpnjelmaaGreat
