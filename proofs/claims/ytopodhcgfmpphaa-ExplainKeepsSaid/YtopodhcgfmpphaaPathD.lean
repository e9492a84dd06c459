/-
  Walks of path.Ends and Weight.
-/
import Derived.Test.YtopodhcgfmpphaaPathC
namespace Go.Proofs.Ytopodhcgfmpphaa
open Go.RowKit

theorem leafAt_facts {t : TreeP} (h : IsTree t) {k j : Nat} (hj : (leavesT t t.nodes.length)[k]? = some j) :
    ∃ nd, t.nodes[j]? = some nd ∧ leafB nd = true ∧ 1 ≤ nd.size ∧ nd.size ≤ 64 ∧ 0 ≤ lenOf t j ∧ lenOf t j ≤ 556198264832 ∧ sizeOf' t j = nd.size := by
  have hm := List.mem_of_getElem? hj
  unfold leavesT at hm
  rw [List.mem_filter, List.mem_range] at hm
  obtain ⟨h1, h2⟩ := hm
  obtain ⟨nd, hnd⟩ := getElem?_ex h1
  unfold isLeafAt at h2
  rw [hnd] at h2
  obtain ⟨_, _, g, s, q, g1, g2⟩ := h
  have h6 : g ≤ 6 := Nat.le_trans g2 (logI_le g1)
  obtain ⟨e', h', s', q', p1, p2, p3⟩ := q.parts j (by omega) h1
  obtain ⟨n', hn', hs'⟩ := q'.at_
  rw [hnd] at hn'
  injection hn' with hn'
  subst hn'
  have hp := q'.pos
  have hd := q.dep 6 h6 j (by omega) h1
  have hb := norm_bd nd.size
  have e1 : sizeOf' t j = nd.size := by unfold sizeOf'; rw [hnd]; rfl
  have e2 : normI nd.size = (loN (heldN nd.size) + hiN (heldN nd.size)) / 2 := rfl
  have e3 : depOf t j = depT t 6 0 j := rfl
  refine ⟨nd, hnd, h2, by omega, by omega, ?_, ?_, e1⟩ <;> unfold lenOf <;> rw [e1, e2] <;> omega

theorem lenL_at {t : TreeP} {k j : Nat} (hj : (leavesT t t.nodes.length)[k]? = some j) : (lenL t)[k]? = some (lenOf t j) := by
  unfold lenL; rw [List.getElem?_map, hj]; rfl

def EndsI (l : List Int) (B k : Nat) (w : World) : Prop :=
  B + 2 < w.heap.size ∧ w.cell? ⟨B + 1, 0, none⟩ = some (.int .i64 ((l.take k).foldl min 4611686018427387904)) ∧ w.cell? ⟨B + 2, 0, none⟩ = some (.int .i64 ((l.take k).foldl max 0)) ∧ w.frozen? ⟨B + 1, 0, none⟩ = false ∧ w.frozen? ⟨B + 2, 0, none⟩ = false

theorem EndsI.stable {l : List Int} {B k : Nat} {w w' : World} (h : EndsI l B k w) (b : Below (B + 3) w w') : EndsI l B k w' := by
  obtain ⟨h1, h2, h3, h4, h5⟩ := h
  exact ⟨Nat.lt_of_lt_of_le h1 b.size, (b.cell (p := ⟨B + 1, 0, none⟩) (by simp)).trans h2, (b.cell (p := ⟨B + 2, 0, none⟩) (by simp)).trans h3, (b.frozen (p := ⟨B + 1, 0, none⟩) (by simp)).trans h4, (b.frozen (p := ⟨B + 2, 0, none⟩) (by simp)).trans h5⟩

/-- What Weight's closure has written, behind k leaves: their lengths, as often as they have points. -/
def wtL (t : TreeP) : List Int := (leavesT t t.nodes.length).map fun i => sizeOf' t i * lenOf t i

def sumI : List Int → Int
  | [] => 0
  | x :: l => x + sumI l

theorem sumI_snoc (l : List Int) (x : Int) : sumI (l ++ [x]) = sumI l + x := by
  induction l with
  | nil => simp [sumI]
  | cons y l ih => simp [sumI, ih]; omega

theorem sumI_bd {l : List Int} {b : Int} (h : ∀ x ∈ l, 0 ≤ x ∧ x ≤ b) : 0 ≤ sumI l ∧ sumI l ≤ b * (l.length : Int) := by
  induction l with
  | nil => simp [sumI]
  | cons x l ih =>
    have h1 := h x (by simp)
    have h2 := ih fun y hy => h y (by simp [hy])
    simp only [sumI, List.length_cons]
    rw [Int.natCast_add, Int.mul_add]
    omega

theorem wtL_at {t : TreeP} (h : IsTree t) {k j : Nat} {nd : NodeP} (hj : (leavesT t t.nodes.length)[k]? = some j) (hn : t.nodes[j]? = some nd) :
    (wtL t)[k]? = some (nd.size * lenOf t j) ∧ 0 ≤ nd.size * lenOf t j ∧ nd.size * lenOf t j ≤ 35596688949248 := by
  obtain ⟨nd', hn', _, h1, h2, h3, h4, h5⟩ := leafAt_facts h hj
  rw [hn] at hn'
  injection hn' with hn'
  subst hn'
  refine ⟨by unfold wtL; rw [List.getElem?_map, hj]; simp [h5], Int.mul_nonneg (by omega) h3, ?_⟩
  calc nd.size * lenOf t j ≤ 64 * lenOf t j := Int.mul_le_mul_of_nonneg_right h2 h3
    _ ≤ 64 * 556198264832 := Int.mul_le_mul_of_nonneg_left h4 (by omega)
    _ = 35596688949248 := by decide

theorem wtL_bd {t : TreeP} (h : IsTree t) (k : Nat) : 0 ≤ sumI ((wtL t).take k) ∧ sumI ((wtL t).take k) ≤ 4520779496554496 := by
  have hl := h.len
  have hb : ∀ x ∈ (wtL t).take k, 0 ≤ x ∧ x ≤ 35596688949248 := by
    intro x hx
    obtain ⟨i, hi⟩ := List.getElem?_of_mem (List.mem_of_mem_take hx)
    have hi2 := hi
    unfold wtL at hi2
    rw [List.getElem?_map] at hi2
    cases hj : (leavesT t t.nodes.length)[i]? with
    | none => rw [hj] at hi2; cases hi2
    | some j =>
      obtain ⟨nd, hn, _⟩ := leafAt_facts h hj
      have := wtL_at h hj hn
      rw [hi] at this
      have e := this.1
      injection e with e
      omega
  have := sumI_bd hb
  have hlen : ((wtL t).take k).length ≤ 127 := by
    have : (leavesT t t.nodes.length).length ≤ t.nodes.length := by unfold leavesT; have := List.length_filter_le (isLeafAt t) (List.range t.nodes.length); simpa using this
    simp [wtL]; omega
  omega

def WtI (l : List Int) (B k : Nat) (w : World) : Prop :=
  B + 1 < w.heap.size ∧ w.cell? ⟨B + 1, 0, none⟩ = some (.int .i64 (sumI (l.take k))) ∧ w.frozen? ⟨B + 1, 0, none⟩ = false

theorem WtI.stable {l : List Int} {B k : Nat} {w w' : World} (h : WtI l B k w) (b : Below (B + 2) w w') : WtI l B k w' := by
  obtain ⟨h1, h2, h4⟩ := h
  exact ⟨Nat.lt_of_lt_of_le h1 b.size, (b.cell (p := ⟨B + 1, 0, none⟩) (by simp)).trans h2, (b.frozen (p := ⟨B + 1, 0, none⟩) (by simp)).trans h4⟩

end Go.Proofs.Ytopodhcgfmpphaa
