/-
  Plain laws of trees: how deep nodes are, the leaves in their order, how long paths are.
-/
import Derived.Test.YtopodhcgfmpphaaHarmA
import Derived.Test.YtopodhcgfmpphaaMemT
namespace Go.Proofs.Ytopodhcgfmpphaa
open Go.RowKit

/-- How deep a node is, seen from one above. -/
def depT (t : TreeP) : Nat → Nat → Nat → Nat
  | 0, _, _ => 0
  | f + 1, i, j => if j = i then 0 else match t.nodes[i]? with
    | none => 0
    | some n => if (j : Int) < n.right then depT t f (i + 1) j + 1 else depT t f n.right.toNat j + 1

theorem depT_self (t : TreeP) (f i : Nat) : depT t f i i = 0 := by
  cases f with
  | zero => rfl
  | succ f => simp [depT]

theorem depT_left {t : TreeP} {f i j : Nat} {n : NodeP} (hn : t.nodes[i]? = some n) (hj : j ≠ i) (hr : (j : Int) < n.right) : depT t (f + 1) i j = depT t f (i + 1) j + 1 := by
  rw [depT, if_neg hj, hn]; simp [hr]
theorem depT_right {t : TreeP} {f i j : Nat} {n : NodeP} (hn : t.nodes[i]? = some n) (hj : j ≠ i) (hr : ¬ (j : Int) < n.right) : depT t (f + 1) i j = depT t f n.right.toNat j + 1 := by
  rw [depT, if_neg hj, hn]; simp [hr]

theorem Sub.dep {t : TreeP} {i e h : Nat} {s : Int} (q : Sub t i e h s) : ∀ f, h ≤ f → ∀ j, i ≤ j → j < e → depT t f i j = depT t h i j ∧ depT t h i j ≤ h := by
  induction q with
  | @leaf i n hn hl =>
    intro f hf j h1 h2
    obtain rfl : j = i := by omega
    rw [depT_self, depT_self]
    exact ⟨rfl, Nat.le_refl _⟩
  | @node i m e a b x y n hn hl hc q1 hr q2 hs ih1 ih2 =>
    intro f hf j h1 h2
    obtain ⟨f, rfl⟩ : ∃ g, f = g + 1 := ⟨f - 1, by omega⟩
    rw [Nat.add_comm 1 (max a b)]
    have l1 := q1.lt; have l2 := q2.lt
    rcases Nat.lt_or_ge i j with h3 | h3
    · by_cases h4 : j < m
      · rw [depT_left hn (by omega) (by omega), depT_left hn (by omega) (by omega)]
        have g1 := ih1 f (by omega) j (by omega) h4
        have g2 := ih1 (max a b) (by omega) j (by omega) h4
        omega
      · rw [depT_right hn (by omega) (by omega), depT_right hn (by omega) (by omega), show n.right.toNat = m by omega]
        have g1 := ih2 f (by omega) j (by omega) h2
        have g2 := ih2 (max a b) (by omega) j (by omega) h2
        omega
    · obtain rfl : j = i := by omega
      rw [depT_self, depT_self]
      exact ⟨rfl, by omega⟩

/-- Those who come of a node are one deeper, and lie behind it. -/
theorem Sub.kids {t : TreeP} {i e h : Nat} {s : Int} (q : Sub t i e h s) : ∀ k n, i ≤ k → k < e → t.nodes[k]? = some n → leafB n = false →
    ∃ m : Nat, n.left = (k : Int) + 1 ∧ n.right = (m : Int) ∧ k + 1 < m ∧ m < e ∧ depT t h i (k + 1) = depT t h i k + 1 ∧ depT t h i m = depT t h i k + 1 := by
  induction q with
  | @leaf i n hn hl =>
    intro k nk h1 h2 hk hlk
    obtain rfl : k = i := by omega
    rw [hn] at hk
    injection hk with hk
    subst hk
    rw [hl] at hlk
    cases hlk
  | @node i m e a b x y n hn hl hc q1 hr q2 hs ih1 ih2 =>
    intro k nk h1 h2 hk hlk
    have l1 := q1.lt; have l2 := q2.lt
    rw [Nat.add_comm 1 (max a b)]
    rcases Nat.lt_or_ge i k with h3 | h3
    · by_cases h4 : k < m
      · obtain ⟨m', g1, g2, g3, g4, g5, g6⟩ := ih1 k nk (by omega) h4 hk hlk
        refine ⟨m', g1, g2, g3, by omega, ?_, ?_⟩
        · rw [depT_left hn (by omega) (by omega), depT_left hn (by omega) (by omega), (q1.dep _ (Nat.le_max_left a b) _ (by omega) (by omega)).1, (q1.dep _ (Nat.le_max_left a b) _ (by omega) (by omega)).1, g5]
        · rw [depT_left hn (by omega) (by omega), depT_left hn (by omega) (by omega), (q1.dep _ (Nat.le_max_left a b) _ (by omega) (by omega)).1, (q1.dep _ (Nat.le_max_left a b) _ (by omega) (by omega)).1, g6]
      · obtain ⟨m', g1, g2, g3, g4, g5, g6⟩ := ih2 k nk (by omega) h2 hk hlk
        refine ⟨m', g1, g2, g3, g4, ?_, ?_⟩
        · rw [depT_right hn (by omega) (by omega), depT_right hn (by omega) (by omega), show n.right.toNat = m by omega, (q2.dep _ (Nat.le_max_right a b) _ (by omega) (by omega)).1, (q2.dep _ (Nat.le_max_right a b) _ (by omega) (by omega)).1, g5]
        · rw [depT_right hn (by omega) (by omega), depT_right hn (by omega) (by omega), show n.right.toNat = m by omega, (q2.dep _ (Nat.le_max_right a b) _ (by omega) (by omega)).1, (q2.dep _ (Nat.le_max_right a b) _ (by omega) (by omega)).1, g6]
    · obtain rfl : k = i := by omega
      rw [hn] at hk
      injection hk with hk
      subst hk
      refine ⟨m, hl, hr, by omega, by omega, ?_, ?_⟩
      · rw [depT_left hn (by omega) (by omega), depT_self, depT_self]
      · rw [depT_right hn (by omega) (by omega), show n.right.toNat = m by omega, depT_self, depT_self]

/-- Each node but the first comes of one ahead of it. -/
theorem Sub.parent {t : TreeP} {i e h : Nat} {s : Int} (q : Sub t i e h s) : ∀ j, i < j → j < e → ∃ k n, i ≤ k ∧ k < j ∧ t.nodes[k]? = some n ∧ leafB n = false ∧ (n.left = (j : Int) ∨ n.right = (j : Int)) := by
  induction q with
  | @leaf i n hn hl => intro j h1 h2; omega
  | @node i m e a b x y n hn hl hc q1 hr q2 hs ih1 ih2 =>
    intro j h1 h2
    have hlf : leafB n = false := by
      cases h : leafB n with
      | false => rfl
      | true => have := (leafB_is h).1; omega
    rcases Nat.lt_or_ge (i + 1) j with h3 | h3
    · rcases Nat.lt_trichotomy j m with h4 | h4 | h4
      · obtain ⟨k, nk, g1, g2, g3⟩ := ih1 j h3 h4
        exact ⟨k, nk, by omega, g2, g3⟩
      · exact ⟨i, n, by omega, by omega, hn, hlf, .inr (by omega)⟩
      · obtain ⟨k, nk, g1, g2, g3⟩ := ih2 j h4 h2
        exact ⟨k, nk, by have := q1.lt; omega, g2, g3⟩
    · exact ⟨i, n, by omega, by omega, hn, hlf, .inl (by omega)⟩

/-- A node that has no left part is a leaf. -/
theorem Sub.leafAt {t : TreeP} {i e h : Nat} {s : Int} (q : Sub t i e h s) {k : Nat} {n : NodeP} (h1 : i ≤ k) (h2 : k < e) (hk : t.nodes[k]? = some n) : leafB n = decide (n.left = 0) := by
  obtain ⟨e', h', s', q', _⟩ := q.parts k h1 h2
  rcases q'.inv hk with ⟨hl, _⟩ | ⟨m, a, b, x, y, g, _⟩
  · rw [hl]; simp [(leafB_is hl).1]
  · cases hl : leafB n with
    | true => have := (leafB_is hl).1; omega
    | false => simp; omega

def isLeafAt (t : TreeP) (i : Nat) : Bool := match t.nodes[i]? with | some n => leafB n | none => false
/-- The leaves among the first so many nodes, in their order. -/
def leavesT (t : TreeP) (k : Nat) : List Nat := (List.range k).filter (isLeafAt t)
def depOf (t : TreeP) (i : Nat) : Nat := depT t 6 0 i
def sizeOf' (t : TreeP) (i : Nat) : Int := (t.nodes[i]?).elim 0 NodeP.size
def lenOf (t : TreeP) (i : Nat) : Int := (depOf t i : Int) * 1073741824 + normI (sizeOf' t i)
/-- How long the paths to the leaves are, in their order. -/
def lenL (t : TreeP) : List Int := (leavesT t t.nodes.length).map (lenOf t)

theorem leavesT_succ (t : TreeP) (k : Nat) : leavesT t (k + 1) = leavesT t k ++ if isLeafAt t k then [k] else [] := by
  unfold leavesT
  rw [List.range_succ, List.filter_append]
  cases h : isLeafAt t k <;> simp [h]

theorem leavesT_pre (t : TreeP) {k n : Nat} (h : k ≤ n) : ∃ r, leavesT t n = leavesT t k ++ r := by
  induction n with
  | zero => obtain rfl : k = 0 := by omega
            exact ⟨[], by simp⟩
  | succ n ih =>
    rcases Nat.lt_or_ge k (n + 1) with h1 | h1
    · obtain ⟨r, hr⟩ := ih (by omega)
      exact ⟨r ++ if isLeafAt t n then [n] else [], by rw [leavesT_succ, hr, List.append_assoc]⟩
    · obtain rfl : k = n + 1 := by omega
      exact ⟨[], by simp⟩

theorem leavesT_at {t : TreeP} {k n : Nat} (h : k < n) (hl : isLeafAt t k = true) : (leavesT t n)[(leavesT t k).length]? = some k := by
  obtain ⟨r, hr⟩ := leavesT_pre t (show k + 1 ≤ n by omega)
  rw [hr, leavesT_succ, hl, if_pos rfl, List.append_assoc, List.getElem?_append_right (Nat.le_refl _), Nat.sub_self]
  rfl
end Go.Proofs.Ytopodhcgfmpphaa
