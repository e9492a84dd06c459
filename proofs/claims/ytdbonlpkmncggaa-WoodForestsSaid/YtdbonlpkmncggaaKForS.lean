/-
  ForS: Walk of tree.Same.
-/
import Derived.Test.YtdbonlpkmncggaaKSameU
import Derived.Test.YtdbonlpkmncggaaJ1a
namespace Go.Proofs.Ytdbonlpkmncggaa
open Go.RowKit

end Go.Proofs.Ytdbonlpkmncggaa
