/-
  ItemX: Walk of item.GetSeen.
-/
import Derived.Test.YtgobbecpnjelmaaGreatJ3a
namespace Go.Proofs.YtgobbecpnjelmaaGreat
open Go.RowKit

def GotN (w : World) (R : Nat) (v : Value) (l : List Int) (r : SeenT × Nat × Int) (e : Ending) (w' : World) : Prop :=
  ∃ vx, e = .returned (.agg #[.int .i64 r.1.1, vx, .int .i64 r.1.2.2.1, .int .i64 r.1.2.2.2.1, .bool r.1.2.2.2.2]) ∧ Ints .i64 w' vx r.1.2.1 ∧ RdTo w R v l w' r.2.1 r.2.2 ∧ Fresh w.heap.size vx

theorem GotN.zero {w : World} {R : Nat} {v : Value} {l : List Int} {a : Nat} {e : Int} {w' : World} (h : RdTo w R v l w' a e) : GotN w R v l (seenT0, a, e) (.returned (.agg #[.int .i64 0, .slice none 0 0, .int .i64 0, .int .i64 0, .bool false])) w' :=
  ⟨_, rfl, ints_nil _ _ _ _ (by omega), h, fresh_nil _ _ _⟩

end Go.Proofs.YtgobbecpnjelmaaGreat
