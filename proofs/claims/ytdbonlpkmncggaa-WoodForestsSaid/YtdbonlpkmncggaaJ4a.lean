/-
  ForU: Walks of copseref14.With and copseref14.Put.
  ForV: Walk of copseref14.Put.
-/
import Derived.Test.YtdbonlpkmncggaaKForG
import Derived.Test.YtdbonlpkmncggaaJ2a
namespace Go.Proofs.Ytdbonlpkmncggaa
open Go.RowKit

theorem eiGrown : EI Try.prog 41 (.agg #[.int .i64 0, .slice none 0 0, .int .i64 0]) 3 40 := .of (by kernel_rfl) rfl (by decide) (by decide)

end Go.Proofs.Ytdbonlpkmncggaa

namespace Go.Proofs.Ytdbonlpkmncggaa
open Go.RowKit

theorem growns_nil (w : World) (c : Nat) (hc : c ≤ 9223372036854775807) : GrownsR w (.slice none 0 c) [] := ⟨none, c, rfl, by simp, hc, by simp, fun i p hi => by simp at hi⟩

end Go.Proofs.Ytdbonlpkmncggaa
