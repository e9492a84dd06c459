/-
  Plain laws of layer 16: how columns bear on the score.
-/
import Derived.Test.YtopodhcgfmpphaaExplP
import Derived.Test.YtopodhcgfmpphaaPathE
namespace Go.Proofs.Ytopodhcgfmpphaa
open Go.RowKit

noncomputable def whyS (l : List TreeP) (x : List Int) (k : Nat) : Int := sumI (l.map fun t => cntI t x k)
noncomputable def whyLo (l : List TreeP) (x : List Int) (k : Nat) : Int := l.foldl (fun a t => max a (roomP t x k).1) (-2147483648)
noncomputable def whyHi (l : List TreeP) (x : List Int) (k : Nat) : Int := l.foldl (fun a t => min a (roomP t x k).2) 2147483647

theorem max_le_of (f : TreeP → Int) (v : Int) : ∀ (l : List TreeP) (a : Int), l.foldl (fun a t => max a (f t)) a ≤ v ↔ a ≤ v ∧ ∀ t ∈ l, f t ≤ v
  | [], a => by simp
  | t :: l, a => by
    rw [List.foldl_cons, max_le_of f v l]
    simp only [List.mem_cons, forall_eq_or_imp]
    constructor
    · rintro ⟨h1, h2⟩; exact ⟨by omega, by omega, h2⟩
    · rintro ⟨h1, h2, h3⟩; exact ⟨by omega, h3⟩

theorem le_min_of (f : TreeP → Int) (v : Int) : ∀ (l : List TreeP) (a : Int), v ≤ l.foldl (fun a t => min a (f t)) a ↔ v ≤ a ∧ ∀ t ∈ l, v ≤ f t
  | [], a => by simp
  | t :: l, a => by
    rw [List.foldl_cons, le_min_of f v l]
    simp only [List.mem_cons, forall_eq_or_imp]
    constructor
    · rintro ⟨h1, h2⟩; exact ⟨by omega, by omega, h2⟩
    · rintro ⟨h1, h2, h3⟩; exact ⟨by omega, h3⟩

theorem why_in {l : List TreeP} {x : List Int} {k : Nat} {v : Int} (h1 : whyLo l x k ≤ v) (h2 : v ≤ whyHi l x k) :
    (-2147483648 ≤ v ∧ v ≤ 2147483647) ∧ ∀ t ∈ l, (roomP t x k).1 ≤ v ∧ v ≤ (roomP t x k).2 := by
  obtain ⟨a, b⟩ := (max_le_of _ v l _).1 h1
  obtain ⟨c, d⟩ := (le_min_of _ v l _).1 h2
  exact ⟨⟨a, c⟩, fun t ht => ⟨b t ht, d t ht⟩⟩

theorem sumE_zero {l : List TreeP} {x : List Int} (h : sumE l x = 0) : l.length ≤ 16 ∧ l ≠ [] ∧ allT l = true ∧ vecB x (dim0 l) = true := by
  unfold sumE at h
  split at h
  · omega
  · split at h
    · omega
    · split at h
      · omega
      · split at h
        · omega
        · next h1 h2 h3 h4 =>
          exact ⟨by omega, fun h => h2 (by rw [h]; rfl), by simpa using h3, by simpa using h4⟩

theorem sumE_of {l : List TreeP} {x : List Int} (h1 : l.length ≤ 16) (h2 : l ≠ []) (h3 : allT l = true) (h4 : vecB x (dim0 l) = true) : sumE l x = 0 := by
  unfold sumE
  rw [if_neg (by omega), if_neg (by intro h; exact h2 (List.eq_nil_of_length_eq_zero h)), if_neg (by rw [h3]; decide), if_neg (by rw [h4]; decide)]

theorem allT_mem {l : List TreeP} (h : allT l = true) {t : TreeP} (ht : t ∈ l) : treeB t = true ∧ t.dim = dim0 l := by
  obtain ⟨i, hi⟩ := List.getElem?_of_mem ht
  exact allT_at h hi

/-- The score stays: with any value of the room of a column the lengths are, together, what they are. -/
theorem keeps {l : List TreeP} {x : List Int} {k : Nat} {v : Int} (h : sumE l x = 0) (hk : k < x.length) (h1 : whyLo l x k ≤ v) (h2 : v ≤ whyHi l x k) :
    sumE l (x.set k v) = 0 ∧ sumV l (x.set k v) = sumV l x := by
  obtain ⟨a, b, c, d⟩ := sumE_zero h
  obtain ⟨hv, hin⟩ := why_in h1 h2
  refine ⟨sumE_of a b c (vec_set d k hv.1 hv.2), ?_⟩
  unfold sumV
  congr 1
  apply List.map_congr_left
  intro t ht
  obtain ⟨ht1, ht2⟩ := allT_mem c ht
  exact (lenV_same ((room_in ht1 (by rw [ht2]; exact d) hk v).1 (hin t ht)).2).symm

/-- The column of the most steps. -/
def mostAt (s : List Int) : Nat := (List.range s.length).foldl (fun at_ k => if s.getD at_ 0 < s.getD k 0 then k else at_) 0
def mostUp (s : List Int) (n : Nat) : Nat := (List.range n).foldl (fun at_ k => if s.getD at_ 0 < s.getD k 0 then k else at_) 0
theorem mostUp_succ (s : List Int) (n : Nat) : mostUp s (n + 1) = if s.getD (mostUp s n) 0 < s.getD n 0 then n else mostUp s n := by
  unfold mostUp
  rw [List.range_succ, List.foldl_append]
  rfl
theorem mostUp_lt (s : List Int) (n : Nat) : mostUp s n = 0 ∨ mostUp s n < n := by
  induction n with
  | zero => exact .inl rfl
  | succ n ih => rw [mostUp_succ]; split <;> omega
end Go.Proofs.Ytopodhcgfmpphaa
