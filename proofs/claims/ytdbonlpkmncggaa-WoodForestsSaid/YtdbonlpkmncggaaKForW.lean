/-
  ForW: Walk of forest.Put.
-/
import Derived.Test.YtdbonlpkmncggaaJ4a
import Derived.Test.YtdbonlpkmncggaaJ3a
namespace Go.Proofs.Ytdbonlpkmncggaa
open Go.RowKit

/-- v is a slice of nodes that lies in blocks from B on, but for the block r. -/
def ApartB (B : Nat) (r : Option Nat) (w : World) (v : Value) (l : List NodeP) : Prop := ∀ W : World, (∀ b, B ≤ b → r ≠ some b → b < w.heap.size → W.heap[b]? = w.heap[b]?) → w.heap.size ≤ W.heap.size → NodesR W v l

theorem NodesF.apartB {B C : Nat} {w : World} {v : Value} {l : List NodeP} (h : NodesF B w v l) {r : Option Nat} (hC : C ≤ B) (hr : ∀ b, r = some b → b < B) : ApartB C r w v l := fun W hW hz => h W (fun b h1 h2 => hW b (by omega) (fun e => by have := hr b e; omega) h2) hz

theorem ApartB.now {B : Nat} {r : Option Nat} {w : World} {v : Value} {l : List NodeP} (h : ApartB B r w v l) : NodesR w v l := h w (fun _ _ _ _ => rfl) (Nat.le_refl _)

theorem ApartB.later {B C : Nat} {r : Option Nat} {w w1 : World} {v : Value} {l : List NodeP} (h : ApartB B r w v l) (hb : Below C w w1) (hC : w.heap.size ≤ C) : ApartB B r w1 v l := fun W hW hz =>
  h W (fun b h0 h1 h2 => (hW b h0 h1 (Nat.lt_of_lt_of_le h2 hb.size)).trans (hb.block b (by omega))) (Nat.le_trans hb.size hz)

theorem ApartB.grown {B : Nat} {w w1 : World} {u u' v : Value} {l : List NodeP} (h : ApartB B u.ownBlock w v l) (hg : w.grownBy w1 u.ownBlock) (hn : NewB w u u') : ApartB B u'.ownBlock w1 v l := fun W hW hz =>
  h W (fun b h0 h1 h2 => (hW b h0 (fun e => by
    rcases hn with e2 | ⟨q, e2, hq⟩
    · exact h1 (by rw [← e2]; exact e)
    · rw [e2] at e
      injection e with e
      omega) (Nat.lt_of_lt_of_le h2 hg.size)).trans (hg.block b h2 (fun e => h1 e.symm))) (Nat.le_trans hg.size hz)

theorem ApartB.set {B : Nat} {r : Option Nat} {w : World} {v : Value} {l : List NodeP} (h : ApartB B r w v l) (b o : Nat) (u : Value) (hb : b < B ∨ r = some b) : ApartB B r (w.setCell ⟨b, o, none⟩ u) v l := fun W hW hz =>
  h W (fun q h0 h1 h2 => (hW q h0 h1 (by simpa using h2)).trans (Below.heap_setCell _ _ _ _ (fun e => by
    have e' : q = b := e
    subst e'
    rcases hb with h | h
    · omega
    · exact h1 h))) (by simpa using hz)

end Go.Proofs.Ytdbonlpkmncggaa
