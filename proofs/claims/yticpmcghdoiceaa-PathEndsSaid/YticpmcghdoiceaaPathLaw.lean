/-
  Plain laws of paths: each vector's path is between the shortest and the longest one; so is the weight.
-/
import Derived.Test.YticpmcghdoiceaaRefPathH
import Derived.Test.YticpmcghdoiceaaRefPathB
namespace Go.Proofs.Yticpmcghdoiceaa
open Go.RowKit

theorem Sub.wayDep {t : TreeP} {i e h : Nat} {s : Int} (q : Sub t i e h s) (x : List Int) : ∀ j, (wayT t x h i).getLast? = some j → depT t h i j + 1 = (wayT t x h i).length := by
  induction q with
  | @leaf i n hn hl =>
    intro j hj
    rw [wayT_leaf hn (leafB_is hl).1] at hj ⊢
    obtain rfl : i = j := by simpa using hj
    rw [depT_self]; rfl
  | @node i m e a b x' y n hn hl hc q1 hr q2 hs ih1 ih2 =>
    intro j hj
    have hl0 : ¬ n.left = 0 := by omega
    have hmt : n.right.toNat = m := by omega
    have l1 := q1.lt; have l2 := q2.lt
    rw [Nat.add_comm 1 (max a b), wayT_node hn hl0, hmt] at hj ⊢
    obtain ⟨j1, n1, g1, g2, g3, _⟩ := q1.wayLeaf x
    obtain ⟨j2, n2, k1, k2, k3, _⟩ := q2.wayLeaf x
    by_cases hb : leftB n x = true
    · rw [if_pos hb, (q1.way x (max a b) (by omega)).1] at hj ⊢
      rw [List.getLast?_cons, g1] at hj
      obtain rfl : j1 = j := by simpa using hj
      have := ih1 j1 g1
      rw [depT_left hn (by omega) (by omega), (q1.dep _ (Nat.le_max_left a b) _ (by omega) g3).1, List.length_cons, ← this]
    · rw [if_neg hb, (q2.way x (max a b) (by omega)).1] at hj ⊢
      rw [List.getLast?_cons, k1] at hj
      obtain rfl : j2 = j := by simpa using hj
      have := ih2 j2 k1
      rw [depT_right hn (by omega) (by omega), hmt, (q2.dep _ (Nat.le_max_right a b) _ (by omega) k3).1, List.length_cons, ← this]

theorem lenV_mem {t : TreeP} (x : List Int) (h : IsTree t) : lenV t x ∈ lenL t := by
  have hB := treeB_true.2 h
  obtain ⟨j, nd, g1, g2, g3, g4, g5, g6, g7⟩ := lastW_way (x := x) hB
  obtain ⟨_, _, g, s, q, h1, h2⟩ := h
  have h6 : g ≤ 6 := Nat.le_trans h2 (logI_le h1)
  have ew : wayL t x = wayT t x g 0 := (q.way x 6 h6).1
  obtain ⟨j', n', k1, _, k3, k4, k5⟩ := q.wayLeaf x
  rw [ew] at g1
  rw [k1] at g1
  obtain rfl : j' = j := by simpa using g1
  rw [g3] at k4
  injection k4 with k4
  subst k4
  have hd := q.wayDep x j' k1
  have hdf := (q.dep 6 h6 j' (by omega) k3).1
  rw [g4]
  unfold lenL
  rw [List.mem_map]
  refine ⟨j', ?_, ?_⟩
  · unfold leavesT
    rw [List.mem_filter, List.mem_range]
    exact ⟨k3, by unfold isLeafAt; rw [g3]; exact k5⟩
  · unfold lenOf sizeOf' depOf
    rw [g3, hdf, ew]
    have : depT t g 0 j' = (wayT t x g 0).length - 1 := by omega
    rw [this]
    rfl

theorem lo_le {l : List Int} {x : Int} (h : x ∈ l) : l.foldl min 4611686018427387904 ≤ x := (min_le_of l _ x).2 (.inr ⟨x, h, Int.le_refl x⟩)
theorem le_hi {l : List Int} {x : Int} (h : x ∈ l) : x ≤ l.foldl max 0 := (le_max_of l _ x).2 (.inr ⟨x, h, Int.le_refl x⟩)

/-- The leaves of a part. -/
def lvs (t : TreeP) (i k : Nat) : List Nat := (List.range' i k).filter (isLeafAt t)

theorem lvs_append (t : TreeP) (i a b : Nat) : lvs t i (a + b) = lvs t i a ++ lvs t (i + a) b := by
  unfold lvs
  rw [← List.filter_append, List.range'_append_1]

theorem Sub.sizes {t : TreeP} {i e h : Nat} {s : Int} (q : Sub t i e h s) : sumI ((lvs t i (e - i)).map (sizeOf' t)) = s := by
  induction q with
  | @leaf i n hn hl =>
    have e1 : i + 1 - i = 1 := by omega
    have e2 : isLeafAt t i = true := by unfold isLeafAt; rw [hn]; exact hl
    rw [e1]
    have : lvs t i 1 = [i] := by unfold lvs; simp [List.range'_succ, e2]
    rw [this]
    show sizeOf' t i + 0 = n.size
    unfold sizeOf'
    rw [hn]
    show n.size + 0 = n.size
    omega
  | @node i m e a b x y n hn hl hc q1 hr q2 hs ih1 ih2 =>
    have l1 := q1.lt; have l2 := q2.lt
    have hlf : isLeafAt t i = false := by
      unfold isLeafAt
      rw [hn]
      show leafB n = false
      cases h : leafB n with
      | false => rfl
      | true => have := (leafB_is h).1; omega
    have e1 : e - i = 1 + ((m - (i + 1)) + (e - m)) := by omega
    rw [e1, lvs_append, lvs_append, show i + 1 + (m - (i + 1)) = m by omega]
    have e2 : lvs t i 1 = [] := by unfold lvs; simp [List.range'_succ, hlf]
    rw [e2, List.nil_append, List.map_append, sumI_app, ih1, ih2, hs]
where
  sumI_app (a b : List Int) : sumI (a ++ b) = sumI a + sumI b := by
    induction a with
    | nil => simp [sumI]
    | cons x a ih => simp [sumI, ih]; omega

theorem wt_between {lo hi : Int} {t : TreeP} : ∀ (l : List Nat), (∀ j ∈ l, lo ≤ lenOf t j ∧ lenOf t j ≤ hi ∧ 0 ≤ sizeOf' t j) →
    lo * sumI (l.map (sizeOf' t)) ≤ sumI (l.map fun i => sizeOf' t i * lenOf t i) ∧ sumI (l.map fun i => sizeOf' t i * lenOf t i) ≤ hi * sumI (l.map (sizeOf' t))
  | [], _ => by simp [sumI]
  | j :: l, h => by
    obtain ⟨h1, h2, h3⟩ := h j (by simp)
    obtain ⟨g1, g2⟩ := wt_between l fun j' hj => h j' (by simp [hj])
    simp only [List.map_cons, sumI]
    have a1 := Int.mul_le_mul_of_nonneg_left h1 h3
    have a2 := Int.mul_le_mul_of_nonneg_left h2 h3
    rw [Int.mul_add, Int.mul_add, Int.mul_comm lo, Int.mul_comm hi (sizeOf' t j)]
    omega

theorem tree_between {t : TreeP} (h : IsTree t) {r : NodeP} (hr : t.nodes[0]? = some r) :
    (lenL t).foldl min 4611686018427387904 * r.size ≤ sumI (wtL t) ∧ sumI (wtL t) ≤ (lenL t).foldl max 0 * r.size := by
  have hf : ∀ j ∈ leavesT t t.nodes.length, (lenL t).foldl min 4611686018427387904 ≤ lenOf t j ∧ lenOf t j ≤ (lenL t).foldl max 0 ∧ 0 ≤ sizeOf' t j := by
    intro j hj
    have hm : lenOf t j ∈ lenL t := by unfold lenL; exact List.mem_map_of_mem hj
    obtain ⟨k, hk⟩ := List.getElem?_of_mem hj
    obtain ⟨nd, _, _, h1, _, _, _, h5⟩ := leafAt_facts h hk
    exact ⟨lo_le hm, le_hi hm, by omega⟩
  have hb := wt_between _ hf
  obtain ⟨_, _, g, s, q, h1, h2⟩ := h
  obtain ⟨r', hr', hs⟩ := q.at_
  rw [hr] at hr'
  injection hr' with hr'
  subst hr'
  have hz := q.sizes
  have e : lvs t 0 (t.nodes.length - 0) = leavesT t t.nodes.length := by unfold lvs leavesT; rw [Nat.sub_zero, List.range_eq_range']
  rw [e] at hz
  rw [hz, ← hs] at hb
  exact hb

theorem ends_bd {t : TreeP} (h : IsTree t) : 0 ≤ (lenL t).foldl min 4611686018427387904 ∧ (lenL t).foldl min 4611686018427387904 ≤ 556198264832 ∧ 0 ≤ (lenL t).foldl max 0 ∧ (lenL t).foldl max 0 ≤ 556198264832 := by
  obtain ⟨x, l, e⟩ := lenL_ne h
  have hx : x ∈ lenL t := by rw [e]; simp
  have b := lenL_bd h hx
  refine ⟨?_, Int.le_trans (lo_le hx) b.2, Int.le_trans b.1 (le_hi hx), ?_⟩
  · refine Int.not_lt.1 fun hc => ?_
    rcases (min_le_of (lenL t) 4611686018427387904 (-1)).1 (by omega) with h' | ⟨y, hy, h'⟩
    · omega
    · have := lenL_bd h hy; omega
  · refine Int.not_lt.1 fun hc => ?_
    rcases (le_max_of (lenL t) 0 556198264833).1 (by omega) with h' | ⟨y, hy, h'⟩
    · omega
    · have := lenL_bd h hy; omega
end Go.Proofs.Yticpmcghdoiceaa
