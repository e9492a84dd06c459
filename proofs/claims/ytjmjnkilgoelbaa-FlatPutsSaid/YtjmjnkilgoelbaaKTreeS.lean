/-
  TreeS: Plain laws of sums over trees: in whichever order they stand; a row of trees of the call's own.
-/
import Derived.Test.YtjmjnkilgoelbaaJ2b
namespace Go.Proofs.Ytjmjnkilgoelbaa
open Go.RowKit

def rowF (p : TreeP × Value) : List Value := [.int .i64 p.1.dim, p.2]

theorem rowF_at : ∀ (ps : List (TreeP × Value)) (i : Nat) (p : TreeP × Value), ps[i]? = some p → (ps.flatMap rowF)[i * 2]? = some (.int .i64 p.1.dim) ∧ (ps.flatMap rowF)[i * 2 + 1]? = some p.2
  | [], i, p, h => by simp at h
  | q :: ps, 0, p, h => by
    obtain rfl : q = p := by simpa using h
    exact ⟨rfl, rfl⟩
  | q :: ps, i + 1, p, h => by
    have := rowF_at ps i p (by simpa using h)
    rw [List.flatMap_cons]
    have e1 : (i + 1) * 2 = i * 2 + 1 + 1 := by omega
    rw [e1]
    exact this

theorem own_trees {w : World} {base e n : Nat} {v : Value} {ps : List (TreeP × Value)} (h : w.ownsRow base e 2 v n (ps.flatMap rowF)) (hn : n = ps.length) (hs : n ≤ 1000)
    (hp : ∀ p ∈ ps, NodesR w p.2 p.1.nodes) : TreesR w v (ps.map (·.1)) := by
  subst hn
  rcases h.2 with ⟨rfl, h0⟩ | ⟨g, cap, cur, rfl, hb, hg, h1, h2, h3, h4⟩
  · have : ps = [] := List.eq_nil_of_length_eq_zero h0
    subst this
    exact ⟨none, 0, rfl, by simp, by omega, by simp, fun i x hi => by simp at hi⟩
  · refine ⟨some ⟨g, 0, none⟩, cap, by rw [List.length_map], by rw [List.length_map]; exact h1, by simpa [maxLen] using h2, by rw [List.length_map]; omega, fun i t hi => ?_⟩
    rw [List.getElem?_map] at hi
    cases hpi : ps[i]? with
    | none => rw [hpi] at hi; cases hi
    | some p =>
      rw [hpi] at hi
      obtain rfl : p.1 = t := by simpa using hi
      have hlt : i < ps.length := (List.getElem?_eq_some_iff.1 hpi).1
      obtain ⟨r0, r1⟩ := rowF_at ps i p hpi
      have c0 := (h.cellAt (i * 2) (by omega)).trans r0
      have c1 := (h.cellAt (i * 2 + 1) (by omega)).trans r1
      exact ⟨g, 0, p.2, rfl, (Array.getElem?_eq_some_iff.1 hg).1, by rw [Nat.zero_add]; exact c0, by rw [Nat.zero_add]; exact c1, hp p (List.mem_of_getElem? hpi)⟩
end Go.Proofs.Ytjmjnkilgoelbaa
