/-
  Laws15a: The walk of FlatPacks.
-/
import Derived.Test.YtjmjnkilgoelbaaKLaws15
import Derived.Test.YtjmjnkilgoelbaaKFlatY
import Derived.Test.YtjmjnkilgoelbaaJ2b
namespace Go.Proofs.Ytjmjnkilgoelbaa
open Go.RowKit

theorem ofR_C (l : List TreeP) : ofR l = ofC l := rfl

end Go.Proofs.Ytjmjnkilgoelbaa
