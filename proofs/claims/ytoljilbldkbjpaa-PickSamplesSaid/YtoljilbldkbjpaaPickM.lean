/-
  A map from numbers to numbers, read as a row of which some numbers have changed places.
-/
import Derived.Test.YtoljilbldkbjpaaPickP
import Derived.Maps.OwnSet
import Derived.Maps.OwnOps
namespace Go.Proofs.Ytoljilbldkbjpaa
open Go.RowKit Go.Maps

theorem lawI : Keyed Try.prog 3 := int_keyed Try.underlying3
theorem zeroI (w : World) : (zeroValue 3).run Try.prog w = .ok (.int .i64 0) w := by kernel_rfl

theorem wf_nat {j : Nat} (h : j < 9223372036854775808) : (Lit.int .i64 (j : Int)).wf = true := WalkArith.wf_i64 (by omega)

/-- Block b is a map that reads as the row f: what is not in it stands at its own place. -/
def MapR (w : World) (b m : Nat) (f : Nat → Nat) : Prop :=
  ∃ D : DataW Unit, w.ownsMap Try.prog 3 (plainElem Try.prog 3) b m D ∧ ∀ j : Nat,
    (Maps.has D (.int .i64 (j : Int)) = true → D.atKey (.int .i64 (j : Int)) (.lit (.int .i64 0)) = .lit (.int .i64 (f j : Int))) ∧ (Maps.has D (.int .i64 (j : Int)) = false → f j = j)

theorem MapR.made (w : World) : MapR (w.alloc (.map #[] 0)) w.heap.size 0 id :=
  ⟨_, World.ownsMap_made w _ _ _, fun j => ⟨fun h => by simp [Maps.has] at h, fun _ => rfl⟩⟩

theorem MapR.lt {w : World} {b m : Nat} {f : Nat → Nat} (h : MapR w b m f) : b < w.heap.size := by
  obtain ⟨D, h, _⟩ := h
  exact h.lt

theorem MapR.keep {w w' : World} {b m : Nat} {f : Nat → Nat} (h : MapR w b m f) (hk : w'.heap[b]? = w.heap[b]?) : MapR w' b m f := by
  obtain ⟨D, ⟨es, clock, hb, F⟩, g⟩ := h
  exact ⟨D, ⟨es, clock, hk.trans hb, F⟩, g⟩

theorem MapR.below {w w' : World} {b m : Nat} {f : Nat → Nat} (h : MapR w b m f) (B : Below w.heap.size w w') : MapR w' b m f := h.keep (B.block b h.lt)

theorem lit_ne {i j : Nat} (h : i ≠ j) : (Lit.int .i64 (i : Int)) ≠ Lit.int .i64 (j : Int) := by
  intro e
  injection e with _ e
  omega

theorem put_row {D : DataW Unit} {f : Nat → Nat} (hD : IsMap D)
    (g : ∀ j : Nat, (Maps.has D (.int .i64 (j : Int)) = true → D.atKey (.int .i64 (j : Int)) (.lit (.int .i64 0)) = .lit (.int .i64 (f j : Int))) ∧ (Maps.has D (.int .i64 (j : Int)) = false → f j = j)) (k v : Nat) :
    ∀ j : Nat, (Maps.has (D.put (.int .i64 (k : Int)) (.lit (.int .i64 (v : Int)))) (.int .i64 (j : Int)) = true → (D.put (.int .i64 (k : Int)) (.lit (.int .i64 (v : Int)))).atKey (.int .i64 (j : Int)) (.lit (.int .i64 0)) = .lit (.int .i64 ((if j = k then v else f j : Nat) : Int))) ∧
      (Maps.has (D.put (.int .i64 (k : Int)) (.lit (.int .i64 (v : Int)))) (.int .i64 (j : Int)) = false → (if j = k then v else f j) = j) := by
  intro j
  by_cases e : j = k
  · subst e
    rw [if_pos rfl, atKey_put_same hD (by trivial), has_put_same hD (by trivial)]
    exact ⟨fun _ => rfl, fun h => by cases h⟩
  · rw [if_neg e, atKey_put_other (lit_ne e), has_put_other (lit_ne e)]
    exact g j
end Go.Proofs.Ytoljilbldkbjpaa
