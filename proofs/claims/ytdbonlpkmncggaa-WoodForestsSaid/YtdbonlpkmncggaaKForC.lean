/-
  ForC: Walks of forest.copied and forest.Trees.
-/
import Derived.Test.YtdbonlpkmncggaaJ2a
namespace Go.Proofs.Ytdbonlpkmncggaa
open Go.RowKit

end Go.Proofs.Ytdbonlpkmncggaa
