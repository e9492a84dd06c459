/-
  Walk of path.leaves: each leaf told, with its length.
-/
import Derived.Test.YtopodhcgfmpphaaPathB
import Derived.Test.YtopodhcgfmpphaaTreeQ
import Derived.BigRegion
namespace Go.Proofs.Ytopodhcgfmpphaa
open Go.RowKit

theorem made_intsC (k : IntKind) (n : Nat) : (madeCells #[Value.int k 0] n).toList = (List.replicate n (0 : Int)).map (Value.int k) := by
  have h := made_ints k n
  rw [Nat.mul_one] at h
  exact h

def DepOk (t : TreeP) (k : Nat) (ds : List Int) : Prop :=
  ds.length = t.nodes.length ∧ ∀ (j : Nat) (d : Int), ds[j]? = some d → (j = 0 ∨ ∃ k' nd, k' < k ∧ t.nodes[k']? = some nd ∧ leafB nd = false ∧ (nd.left = (j : Int) ∨ nd.right = (j : Int))) → d = (depOf t j : Int)

theorem DepOk.leaf {t : TreeP} {k : Nat} {ds : List Int} {n : NodeP} (h : DepOk t k ds) (hn : t.nodes[k]? = some n) (hl : leafB n = true) : DepOk t (k + 1) ds := by
  refine ⟨h.1, fun j d hd hj => h.2 j d hd ?_⟩
  rcases hj with hj | ⟨k', nd, g1, g2, g3, g4⟩
  · exact .inl hj
  · refine .inr ⟨k', nd, ?_, g2, g3, g4⟩
    rcases Nat.lt_or_ge k' k with h1 | h1
    · exact h1
    · obtain rfl : k' = k := by omega
      rw [hn] at g2
      injection g2 with g2
      subst g2
      rw [hl] at g3
      cases g3

theorem DepOk.node {t : TreeP} {k m : Nat} {ds : List Int} {n : NodeP} {v : Int} (h : DepOk t k ds) (hn : t.nodes[k]? = some n) (h1 : n.left = (k : Int) + 1) (h2 : n.right = (m : Int))
    (v1 : v = (depOf t (k + 1) : Int)) (v2 : v = (depOf t m : Int)) : DepOk t (k + 1) ((ds.set (k + 1) v).set m v) := by
  refine ⟨by simp [h.1], fun j d hd hj => ?_⟩
  by_cases e1 : j = m
  · subst e1
    rw [List.getElem?_set] at hd
    simp at hd
    rw [← hd.2, v2]
  · rw [List.getElem?_set_ne (by omega)] at hd
    by_cases e2 : j = k + 1
    · subst e2
      rw [List.getElem?_set] at hd
      simp at hd
      rw [← hd.2, v1]
    · rw [List.getElem?_set_ne (by omega)] at hd
      refine h.2 j d hd ?_
      rcases hj with hj | ⟨k', nd, g1, g2, g3, g4⟩
      · exact .inl hj
      · refine .inr ⟨k', nd, ?_, g2, g3, g4⟩
        rcases Nat.lt_or_ge k' k with h3 | h3
        · exact h3
        · obtain rfl : k' = k := by omega
          rw [hn] at g2
          injection g2 with g2
          subst g2
          omega

/-- What a tree's own places say. -/
theorem dep_place {t : TreeP} (h : IsTree t) {k : Nat} {ds : List Int} (hd : DepOk t k ds) (hk : k < t.nodes.length) : ds[k]? = some (depOf t k : Int) ∧ depOf t k ≤ 6 := by
  obtain ⟨_, _, g, s, q, h1, h2⟩ := h
  have h6 : g ≤ 6 := Nat.le_trans h2 (logI_le h1)
  obtain ⟨d, hdd⟩ := getElem?_ex (l := ds) (k := k) (by rw [hd.1]; exact hk)
  have e := hd.2 k d hdd (by
    rcases Nat.eq_zero_or_pos k with h0 | h0
    · exact .inl h0
    · obtain ⟨k', nd, _, g2, g3, g4, g5⟩ := q.parent k h0 hk
      exact .inr ⟨k', nd, g2, g3, g4, g5⟩)
  have := q.dep 6 h6 k (by omega) hk
  exact ⟨by rw [hdd, e], by unfold depOf; omega⟩

theorem dep_kids {t : TreeP} (h : IsTree t) {k : Nat} {n : NodeP} (hn : t.nodes[k]? = some n) (hl : leafB n = false) :
    ∃ m : Nat, n.left = (k : Int) + 1 ∧ n.right = (m : Int) ∧ k + 1 < m ∧ m < t.nodes.length ∧ depOf t (k + 1) = depOf t k + 1 ∧ depOf t m = depOf t k + 1 := by
  obtain ⟨_, _, g, s, q, h1, h2⟩ := h
  have h6 : g ≤ 6 := Nat.le_trans h2 (logI_le h1)
  have hk := (List.getElem?_eq_some_iff.1 hn).1
  obtain ⟨m, g1, g2, g3, g4, g5, g6⟩ := q.kids k n (by omega) hk hn hl
  have e1 := (q.dep 6 h6 k (by omega) hk).1
  have e2 := (q.dep 6 h6 (k + 1) (by omega) (by omega)).1
  have e3 := (q.dep 6 h6 m (by omega) g4).1
  exact ⟨m, g1, g2, g3, g4, by unfold depOf; omega, by unfold depOf; omega⟩

end Go.Proofs.Ytopodhcgfmpphaa
