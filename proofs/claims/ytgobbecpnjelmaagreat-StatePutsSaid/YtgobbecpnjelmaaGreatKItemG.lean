/-
  ItemG: Walks of item.checked (an ask) and of item.GetAsk.
-/
import Derived.Test.YtgobbecpnjelmaaGreatJ2b
import Derived.Test.YtgobbecpnjelmaaGreatJ0c
namespace Go.Proofs.YtgobbecpnjelmaaGreat
open Go.RowKit

def GotA (w : World) (R : Nat) (v : Value) (l : List Int) (r : AskT × Nat × Int) (e : Ending) (w' : World) : Prop :=
 ∃ vx, e = .returned (.agg #[.int .i64 r.1.1, .int .i64 r.1.2.1, vx, .int .i64 r.1.2.2.2.1, .int .i64 r.1.2.2.2.2]) ∧ Ints .i64 w' vx r.1.2.2.1 ∧ RdTo w R v l w' r.2.1 r.2.2 ∧ Fresh w.heap.size vx

theorem GotA.zero {w : World} {R : Nat} {v : Value} {l : List Int} {a : Nat} {e : Int} {w' : World} (h : RdTo w R v l w' a e) : GotA w R v l (askT0, a, e) (.returned (.agg #[.int .i64 0, .int .i64 0, .slice none 0 0, .int .i64 0, .int .i64 0])) w' :=
 ⟨_, rfl, ints_nil _ _ _ _ (by omega), h, fresh_nil _ _ _⟩

theorem rdN_call {w : World} {R : Nat} {v : Value} {l : List Int} {a : Nat} {e0 : Int} (hb : AllB l) (ha : a ≤ l.length) (hl : l.length ≤ 100000) (most : Int) (hm : Ok64 most) (n a' : Nat) (e' : Int) (hr : rdN' l a e0 most = (n, a', e')) (h : Rd w R v l a e0) :
  Calls Tryz.prog 61 #[.pointer (some ⟨R, 0, none⟩), .int .i64 most] w fun e w' => e = .returned (.int .i64 n) ∧ RdTo w R v l w' a' e' := by
 have := readN_all h hb ha hl most hm
 rw [hr] at this
 exact this

theorem Ints.stores5 {k : IntKind} {w : World} {v : Value} {l : List Int} {B b : Nat} (h : Ints k w v l) (hf : Fresh B v) (hb : b < B) {u0 u1 u2 u3 u4 : Value} :
  Ints k (((((w.setCell ⟨b, 0, none⟩ u0).setCell ⟨b, 1, none⟩ u1).setCell ⟨b, 2, none⟩ u2).setCell ⟨b, 3, none⟩ u3).setCell ⟨b, 4, none⟩ u4) v l :=
 ((((h.setCell hf hb u0).setCell hf hb u1).setCell hf hb u2).setCell hf hb u3).setCell hf hb u4

end Go.Proofs.YtgobbecpnjelmaaGreat
