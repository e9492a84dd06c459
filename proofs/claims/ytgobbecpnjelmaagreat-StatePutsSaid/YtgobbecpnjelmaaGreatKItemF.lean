/-
  ItemF: Walks of the reference's names, RightAsk and Ask.
-/
import Derived.Test.YtgobbecpnjelmaaGreatJ1a
namespace Go.Proofs.YtgobbecpnjelmaaGreat
open Go.RowKit

end Go.Proofs.YtgobbecpnjelmaaGreat
