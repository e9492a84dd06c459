/-
  PathB: Walks of path.length, Length and Trail.
  PathC: Walk of path.leaves: each leaf told, with its length.
  PathD: Walks of path.Ends and Weight.
  SameT: Walks of copseref09.Same and copseref10.Same.
  RefPathA: Walks of copseref10.Down, Leaf, of copseref11.Above and of copseref12.Length, Trail.
  RefPathB: Walks of copseref11.Above and of copseref12.Length, Trail.
  RefPathE: Walks of copseref11.Leaves, Parents, Depths.
  ForR: Walks of slices.Equal of integers and of cut.Same.
-/
import Derived.Test.YtdbonlpkmncggaaKPathA
import Derived.Test.YtdbonlpkmncggaaJ0b
import Derived.BigRegion
import Derived.Test.YtdbonlpkmncggaaKTreeA
import Derived.Test.YtdbonlpkmncggaaKRefTreeA
namespace Go.Proofs.Ytdbonlpkmncggaa
open Go.RowKit

/-- What Length's closure has written, behind k nodes. -/
def LenI (l : List Nat) (B k : Nat) (w : World) : Prop :=
  B + 2 < w.heap.size ∧ w.cell? ⟨B + 1, 0, none⟩ = some (.int .i64 ((l.getD (k - 1) 0 : Nat) : Int)) ∧ w.cell? ⟨B + 2, 0, none⟩ = some (.int .i64 ((k - 1 : Nat) : Int)) ∧ w.frozen? ⟨B + 1, 0, none⟩ = false ∧ w.frozen? ⟨B + 2, 0, none⟩ = false

theorem LenI.stable {l : List Nat} {B k : Nat} {w w' : World} (h : LenI l B k w) (b : Below w.heap.size w w') : LenI l B k w' := by
  obtain ⟨h1, h2, h3, h4, h5⟩ := h
  refine ⟨Nat.lt_of_lt_of_le h1 b.size, (b.cell (p := ⟨B + 1, 0, none⟩) (by simp; omega)).trans h2, (b.cell (p := ⟨B + 2, 0, none⟩) (by simp; omega)).trans h3, (b.frozen (p := ⟨B + 1, 0, none⟩) (by simp; omega)).trans h4, (b.frozen (p := ⟨B + 2, 0, none⟩) (by simp; omega)).trans h5⟩

/-- What Trail's closure has written, behind k nodes. -/
def TrailI (l : List Nat) (B k : Nat) (w : World) : Prop :=
  ∃ v, B + 1 < w.heap.size ∧ w.cell? ⟨B + 1, 0, none⟩ = some v ∧ w.frozen? ⟨B + 1, 0, none⟩ = false ∧ w.ownsRow (B + 3) 3 1 v k ((l.take k).map fun (j : Nat) => .int .i64 (j : Int))

theorem TrailI.stable {l : List Nat} {B k : Nat} {w w' : World} (h : TrailI l B k w) (b : Below w.heap.size w w') : TrailI l B k w' := by
  obtain ⟨v, h1, h2, h3, h4⟩ := h
  exact ⟨v, Nat.lt_of_lt_of_le h1 b.size, (b.cell (p := ⟨B + 1, 0, none⟩) (by simp; omega)).trans h2, (b.frozen (p := ⟨B + 1, 0, none⟩) (by simp; omega)).trans h3, own_keep h4 fun g _ hg => b.block g hg⟩

end Go.Proofs.Ytdbonlpkmncggaa

namespace Go.Proofs.Ytdbonlpkmncggaa
open Go.RowKit

def DepOk (t : TreeP) (k : Nat) (ds : List Int) : Prop :=
  ds.length = t.nodes.length ∧ ∀ (j : Nat) (d : Int), ds[j]? = some d → (j = 0 ∨ ∃ k' nd, k' < k ∧ t.nodes[k']? = some nd ∧ leafB nd = false ∧ (nd.left = (j : Int) ∨ nd.right = (j : Int))) → d = (depOf t j : Int)

theorem DepOk.leaf {t : TreeP} {k : Nat} {ds : List Int} {n : NodeP} (h : DepOk t k ds) (hn : t.nodes[k]? = some n) (hl : leafB n = true) : DepOk t (k + 1) ds := by
  refine ⟨h.1, fun j d hd hj => h.2 j d hd ?_⟩
  rcases hj with hj | ⟨k', nd, g1, g2, g3, g4⟩
  · exact .inl hj
  · refine .inr ⟨k', nd, ?_, g2, g3, g4⟩
    rcases Nat.lt_or_ge k' k with h1 | h1
    · exact h1
    · obtain rfl : k' = k := by omega
      rw [hn] at g2
      injection g2 with g2
      subst g2
      rw [hl] at g3
      cases g3

theorem DepOk.node {t : TreeP} {k m : Nat} {ds : List Int} {n : NodeP} {v : Int} (h : DepOk t k ds) (hn : t.nodes[k]? = some n) (h1 : n.left = (k : Int) + 1) (h2 : n.right = (m : Int))
    (v1 : v = (depOf t (k + 1) : Int)) (v2 : v = (depOf t m : Int)) : DepOk t (k + 1) ((ds.set (k + 1) v).set m v) := by
  refine ⟨by simp [h.1], fun j d hd hj => ?_⟩
  by_cases e1 : j = m
  · subst e1
    rw [List.getElem?_set] at hd
    simp at hd
    rw [← hd.2, v2]
  · rw [List.getElem?_set_ne (by omega)] at hd
    by_cases e2 : j = k + 1
    · subst e2
      rw [List.getElem?_set] at hd
      simp at hd
      rw [← hd.2, v1]
    · rw [List.getElem?_set_ne (by omega)] at hd
      refine h.2 j d hd ?_
      rcases hj with hj | ⟨k', nd, g1, g2, g3, g4⟩
      · exact .inl hj
      · refine .inr ⟨k', nd, ?_, g2, g3, g4⟩
        rcases Nat.lt_or_ge k' k with h3 | h3
        · exact h3
        · obtain rfl : k' = k := by omega
          rw [hn] at g2
          injection g2 with g2
          subst g2
          omega

end Go.Proofs.Ytdbonlpkmncggaa

namespace Go.Proofs.Ytdbonlpkmncggaa
open Go.RowKit

def EndsI (l : List Int) (B k : Nat) (w : World) : Prop :=
  B + 2 < w.heap.size ∧ w.cell? ⟨B + 1, 0, none⟩ = some (.int .i64 ((l.take k).foldl min 4611686018427387904)) ∧ w.cell? ⟨B + 2, 0, none⟩ = some (.int .i64 ((l.take k).foldl max 0)) ∧ w.frozen? ⟨B + 1, 0, none⟩ = false ∧ w.frozen? ⟨B + 2, 0, none⟩ = false

theorem EndsI.stable {l : List Int} {B k : Nat} {w w' : World} (h : EndsI l B k w) (b : Below (B + 3) w w') : EndsI l B k w' := by
  obtain ⟨h1, h2, h3, h4, h5⟩ := h
  exact ⟨Nat.lt_of_lt_of_le h1 b.size, (b.cell (p := ⟨B + 1, 0, none⟩) (by simp)).trans h2, (b.cell (p := ⟨B + 2, 0, none⟩) (by simp)).trans h3, (b.frozen (p := ⟨B + 1, 0, none⟩) (by simp)).trans h4, (b.frozen (p := ⟨B + 2, 0, none⟩) (by simp)).trans h5⟩

def sumI : List Int → Int
  | [] => 0
  | x :: l => x + sumI l

def WtI (l : List Int) (B k : Nat) (w : World) : Prop :=
  B + 1 < w.heap.size ∧ w.cell? ⟨B + 1, 0, none⟩ = some (.int .i64 (sumI (l.take k))) ∧ w.frozen? ⟨B + 1, 0, none⟩ = false

theorem WtI.stable {l : List Int} {B k : Nat} {w w' : World} (h : WtI l B k w) (b : Below (B + 2) w w') : WtI l B k w' := by
  obtain ⟨h1, h2, h4⟩ := h
  exact ⟨Nat.lt_of_lt_of_le h1 b.size, (b.cell (p := ⟨B + 1, 0, none⟩) (by simp)).trans h2, (b.frozen (p := ⟨B + 1, 0, none⟩) (by simp)).trans h4⟩

end Go.Proofs.Ytdbonlpkmncggaa

namespace Go.Proofs.Ytdbonlpkmncggaa
open Go.RowKit

def sameN (a b : NodeP) : Bool := decide (a.coef = b.coef) && decide (a.at_ = b.at_) && decide (a.left = b.left) && decide (a.right = b.right) && decide (a.size = b.size)

theorem sameN_eq {a b : NodeP} : sameN a b = true ↔ a = b := by
  obtain ⟨a1, a2, a3, a4, a5⟩ := a
  obtain ⟨b1, b2, b3, b4, b5⟩ := b
  unfold sameN
  simp [and_assoc]

instance (a b : NodeP) : Decidable (a = b) := decidable_of_iff (sameN a b = true) sameN_eq

def sameT (a b : TreeP) : Bool := decide (a.dim = b.dim) && decide (a.nodes = b.nodes)

set_option maxRecDepth 100000 in
theorem r09same_any (v v2 : Value) (c c2 : List Int) (a a2 : Int) (w : World) (h : Ints .i64 w v c) (h2 : Ints .i64 w v2 c2) :
    Calls Try.prog 53 #[.agg #[v, .int .i64 a], .agg #[v2, .int .i64 a2]] w fun e w' => e = .returned (.bool (decide (a = a2) && decide (c = c2))) ∧ Below w.heap.size w w' := by
  have HS := Lib.hid (fun W (hW : Below w.heap.size w W) => same_any v v2 c c2 W (h.below hW) (h2.below hW))
  obtain ⟨x, k, rfl⟩ := h.shape
  obtain ⟨x2, k2, rfl⟩ := h2.shape
  obtain ⟨B, hB⟩ : ∃ B, decide (c = c2) = B := ⟨_, rfl⟩
  rw [hB] at HS ⊢
  clear h h2 hB
  by_cases ha : a = a2
  · subst ha
    have j : (a == a) = true := by simp
    rw [decide_eq_true rfl, Bool.true_and]
    go_enter Try.func53, Try.ntmps53
    go_wp2_with fail
    (with_reducible refine (HS.out _ (by (repeat (first | with_reducible exact Below.refl _ _ | with_reducible refine Bs ?_ | with_reducible refine Ba ?_ | with_reducible refine Bd ?_ | with_reducible refine Bn ?_)))).mono ?_)
    rintro e w1 ⟨rfl, d, rfl⟩
    go_wp2_with fail
    go_ret
    exact ⟨rfl, by (repeat (first | with_reducible exact Below.refl _ _ | with_reducible refine Bs ?_ | with_reducible refine Ba ?_ | with_reducible refine Bd ?_ | with_reducible refine Bn ?_))⟩
  · have j : (a == a2) = false := by simp [ha]
    rw [decide_eq_false ha, Bool.false_and]
    clear ha
    go_enter Try.func53, Try.ntmps53
    go_wp2_with fail
    go_ret
    exact ⟨rfl, by (repeat (first | with_reducible exact Below.refl _ _ | with_reducible refine Bs ?_ | with_reducible refine Ba ?_ | with_reducible refine Bd ?_ | with_reducible refine Bn ?_))⟩
end Go.Proofs.Ytdbonlpkmncggaa

namespace Go.Proofs.Ytdbonlpkmncggaa
open Go.RowKit

end Go.Proofs.Ytdbonlpkmncggaa

namespace Go.Proofs.Ytdbonlpkmncggaa
open Go.RowKit

end Go.Proofs.Ytdbonlpkmncggaa

namespace Go.Proofs.Ytdbonlpkmncggaa
open Go.RowKit

end Go.Proofs.Ytdbonlpkmncggaa

namespace Go.Proofs.Ytdbonlpkmncggaa
open Go.RowKit

end Go.Proofs.Ytdbonlpkmncggaa
