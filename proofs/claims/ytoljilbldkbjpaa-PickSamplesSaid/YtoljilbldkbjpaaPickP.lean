/-
  Plain laws of layer 7: rows of numbers of which some have changed places; picks, and the way back.
-/
import Derived.Test.YtoljilbldkbjpaaKit
namespace Go.Proofs.Ytoljilbldkbjpaa
open Go.RowKit

/-- Two places changed. -/
def swapF (f : Nat → Nat) (i k : Nat) : Nat → Nat := fun j => if j = k then f i else if j = i then f k else f j

theorem swapF_at (f : Nat → Nat) (i k : Nat) : swapF f i k i = f k := by
  unfold swapF
  by_cases h : i = k
  · subst h; simp
  · rw [if_neg h, if_pos rfl]
theorem swapF_other (f : Nat → Nat) {i k j : Nat} (h1 : j ≠ i) (h2 : j ≠ k) : swapF f i k j = f j := by
  unfold swapF
  rw [if_neg h2, if_neg h1]

/-- How the numbers stand behind so many picks. -/
def stepF (P : List Int) : Nat → Nat → Nat
  | 0 => id
  | i + 1 => swapF (stepF P i) i (i + (P.getD i 0).toNat)

def pickAt (P : List Int) (i : Nat) : Nat := stepF P i (i + (P.getD i 0).toNat)

theorem stepF_snoc (P : List Int) (q : List Int) : ∀ i, i ≤ P.length → stepF (P ++ q) i = stepF P i
  | 0, _ => rfl
  | i + 1, h => by
    have e : (P ++ q).getD i 0 = P.getD i 0 := by
      rw [List.getD_eq_getElem?_getD, List.getD_eq_getElem?_getD, List.getElem?_append_left (by omega)]
    simp only [stepF]
    rw [stepF_snoc P q i (by omega), e]

theorem pickAt_snoc (P : List Int) (q : List Int) (i : Nat) (h : i < P.length) : pickAt (P ++ q) i = pickAt P i := by
  have e : (P ++ q).getD i 0 = P.getD i 0 := by
    rw [List.getD_eq_getElem?_getD, List.getD_eq_getElem?_getD, List.getElem?_append_left h]
  unfold pickAt
  rw [stepF_snoc P q i (by omega), e]

theorem getD_snoc (P : List Int) (p : Int) : (P ++ [p]).getD P.length 0 = p := by
  rw [List.getD_eq_getElem?_getD, List.getElem?_append_right (Nat.le_refl _)]
  simp

/-- A place that is picked stays. -/
theorem stepF_done (P : List Int) : ∀ i j, j < i → stepF P i j = pickAt P j
  | 0, j, h => by omega
  | i + 1, j, h => by
    simp only [stepF]
    by_cases e : j = i
    · subst e
      rw [swapF_at]
      rfl
    · rw [swapF_other _ e (by omega)]
      exact stepF_done P i j (by omega)

/-- Picks that may be. -/
def PickOk (n : Nat) (P : List Int) (m : Nat) : Prop := ∀ i, i < m → 0 ≤ P.getD i 0 ∧ P.getD i 0 < (n : Int) - i

/-- A row of all numbers below n. -/
def PermF (n : Nat) (f : Nat → Nat) : Prop := (∀ j, j < n → f j < n) ∧ ∀ i j, i < n → j < n → f i = f j → i = j

theorem PermF.id (n : Nat) : PermF n id := ⟨fun j h => h, fun i j _ _ h => h⟩

theorem PermF.swap {n : Nat} {f : Nat → Nat} (h : PermF n f) {i k : Nat} (hi : i < n) (hk : k < n) : PermF n (swapF f i k) := by
  obtain ⟨h1, h2⟩ := h
  refine ⟨fun j hj => ?_, fun a b ha hb e => ?_⟩
  · unfold swapF
    split
    · exact h1 i hi
    · split
      · exact h1 k hk
      · exact h1 j hj
  · unfold swapF at e
    by_cases a1 : a = k
    · rw [if_pos a1] at e
      by_cases b1 : b = k
      · omega
      · rw [if_neg b1] at e
        by_cases b2 : b = i
        · rw [if_pos b2] at e
          have := h2 i k hi hk e; omega
        · rw [if_neg b2] at e
          have := h2 i b hi hb e; omega
    · rw [if_neg a1] at e
      by_cases a2 : a = i
      · rw [if_pos a2] at e
        by_cases b1 : b = k
        · rw [if_pos b1] at e
          have := h2 k i hk hi e; omega
        · rw [if_neg b1] at e
          by_cases b2 : b = i
          · omega
          · rw [if_neg b2] at e
            have := h2 k b hk hb e; omega
      · rw [if_neg a2] at e
        by_cases b1 : b = k
        · rw [if_pos b1] at e
          have := h2 a i ha hi e; omega
        · rw [if_neg b1] at e
          by_cases b2 : b = i
          · rw [if_pos b2] at e
            have := h2 a k ha hk e; omega
          · rw [if_neg b2] at e
            exact h2 a b ha hb e

theorem PickOk.perm {n : Nat} {P : List Int} {m : Nat} (h : PickOk n P m) : ∀ i, i ≤ m → PermF n (stepF P i)
  | 0, _ => PermF.id n
  | i + 1, hi => by
    have := h i (by omega)
    simp only [stepF]
    exact (PickOk.perm h i (by omega)).swap (by omega) (by omega)

theorem PickOk.at_lt {n : Nat} {P : List Int} {m : Nat} (h : PickOk n P m) {i : Nat} (hi : i < m) : pickAt P i < n := by
  have := h i hi
  exact (h.perm i (by omega)).1 _ (by omega)

theorem PickOk.unlike {n : Nat} {P : List Int} {m : Nat} (h : PickOk n P m) (hm : m ≤ n) {i j : Nat} (hi : i < m) (hj : j < m) (e : pickAt P i = pickAt P j) : i = j := by
  rw [← stepF_done P m i hi, ← stepF_done P m j hj] at e
  exact (h.perm m (Nat.le_refl _)).2 i j (by omega) (by omega) e

def playL (P : List Int) (m : Nat) : List Int := (List.range m).map fun i => (pickAt P i : Int)

theorem playL_len (P : List Int) (m : Nat) : (playL P m).length = m := by simp [playL]
theorem playL_at (P : List Int) {m i : Nat} (h : i < m) : (playL P m)[i]? = some (pickAt P i : Int) := by
  unfold playL
  rw [List.getElem?_map, List.getElem?_range h]
  rfl
theorem playL_succ (P : List Int) (m : Nat) : playL P (m + 1) = playL P m ++ [(pickAt P m : Int)] := by
  unfold playL
  rw [List.range_succ, List.map_append]
  rfl
theorem playL_snoc (P q : List Int) {m : Nat} (h : m ≤ P.length) : playL (P ++ q) m = playL P m := by
  unfold playL
  apply List.map_congr_left
  intro i hi
  rw [pickAt_snoc P q i (by have := List.mem_range.1 hi; omega)]

/-- What stands where, as a list. -/
def rowL (f : Nat → Nat) (n : Nat) : List Int := (List.range n).map fun j => (f j : Int)

theorem rowL_len (f : Nat → Nat) (n : Nat) : (rowL f n).length = n := by simp [rowL]
theorem rowL_at (f : Nat → Nat) {n i : Nat} (h : i < n) : (rowL f n)[i]? = some (f i : Int) := by
  unfold rowL
  rw [List.getElem?_map, List.getElem?_range h]
  rfl
theorem rowL_swap (f : Nat → Nat) {n i k : Nat} (hi : i < n) (hk : k < n) : ((rowL f n).set k (f i : Int)).set i (f k : Int) = rowL (swapF f i k) n := by
  apply List.ext_getElem?
  intro j
  by_cases hj : j < n
  · rw [rowL_at _ hj, List.getElem?_set, List.length_set, rowL_len]
    unfold swapF
    by_cases e : i = j
    · subst e
      rw [if_pos rfl, if_pos hj]
      by_cases e2 : i = k
      · rw [if_pos e2, e2]
      · rw [if_neg e2, if_pos rfl]
    · rw [if_neg e, List.getElem?_set, rowL_len]
      by_cases e2 : k = j
      · subst e2
        rw [if_pos rfl, if_pos hj, if_pos rfl]
      · rw [if_neg e2, if_neg (by omega), if_neg (by omega), rowL_at _ hj]
  · rw [List.getElem?_eq_none (by simp [rowL_len]; omega), List.getElem?_eq_none (by simp [rowL_len]; omega)]
theorem rowL_take (P : List Int) {m n : Nat} (h : m ≤ n) : (rowL (stepF P m) n).take m = playL P m := by
  apply List.ext_getElem?
  intro j
  by_cases hj : j < m
  · rw [List.getElem?_take, if_pos hj, rowL_at _ (by omega), playL_at _ hj, stepF_done P m j hj]
  · rw [List.getElem?_eq_none (by rw [List.length_take, rowL_len]; omega), List.getElem?_eq_none (by rw [playL_len]; omega)]

/-! ### the way back -/
/-- What stands where, and where each number stands, behind so many of the numbers of a row. -/
def backF (s : List Int) : Nat → (Nat → Nat) × (Nat → Nat)
  | 0 => (id, id)
  | i + 1 =>
    (swapF (backF s i).1 i ((backF s i).2 (s.getD i 0).toNat),
      fun j => if j = (s.getD i 0).toNat then i else if j = (backF s i).1 i then (backF s i).2 (s.getD i 0).toNat else (backF s i).2 j)

def backAt (s : List Int) (i : Nat) : Nat := (backF s i).2 (s.getD i 0).toNat

def BackOk (n : Nat) (s : List Int) (m : Nat) : Prop := ∀ i, i < m → (0 ≤ s.getD i 0 ∧ s.getD i 0 < n) ∧ i ≤ backAt s i

/-- g tells where each number stands. -/
def InvF (n : Nat) (f g : Nat → Nat) : Prop := (∀ j, j < n → f j < n ∧ g (f j) = j) ∧ ∀ v, v < n → g v < n ∧ f (g v) = v

theorem InvF.id (n : Nat) : InvF n id id := ⟨fun j h => ⟨h, rfl⟩, fun j h => ⟨h, rfl⟩⟩

theorem InvF.step {n : Nat} {f g : Nat → Nat} (h : InvF n f g) {i v : Nat} (hi : i < n) (hv : v < n) :
    InvF n (swapF f i (g v)) (fun j => if j = v then i else if j = f i then g v else g j) := by
  obtain ⟨h1, h2⟩ := h
  obtain ⟨a1, a2⟩ := h1 i hi
  obtain ⟨b1, b2⟩ := h2 v hv
  refine ⟨fun j hj => ?_, fun u hu => ?_⟩
  · obtain ⟨c1, c2⟩ := h1 j hj
    unfold swapF
    dsimp only
    by_cases e1 : j = g v
    · rw [if_pos e1]
      refine ⟨a1, ?_⟩
      by_cases e2 : f i = v
      · rw [if_pos e2, e1, ← e2, a2]
      · rw [if_neg e2, if_pos rfl, e1]
    · rw [if_neg e1]
      by_cases e2 : j = i
      · rw [if_pos e2, b2]
        exact ⟨hv, by rw [if_pos rfl, e2]⟩
      · rw [if_neg e2]
        refine ⟨c1, ?_⟩
        have n1 : f j ≠ v := fun e => e1 (by rw [← e, c2])
        have n2 : f j ≠ f i := fun e => e2 (by rw [← c2, e, a2])
        rw [if_neg n1, if_neg n2, c2]
  · obtain ⟨d1, d2⟩ := h2 u hu
    dsimp only
    by_cases e1 : u = v
    · rw [if_pos e1]
      refine ⟨hi, ?_⟩
      rw [swapF_at, b2, e1]
    · rw [if_neg e1]
      by_cases e2 : u = f i
      · rw [if_pos e2]
        refine ⟨b1, ?_⟩
        unfold swapF
        rw [if_pos rfl, e2]
      · rw [if_neg e2]
        refine ⟨d1, ?_⟩
        have n1 : g u ≠ i := fun e => e2 (by rw [← e, d2])
        have n2 : g u ≠ g v := fun e => e1 (by rw [← d2, e, b2])
        rw [swapF_other _ n1 n2, d2]

theorem BackOk.inv {n : Nat} {s : List Int} {m : Nat} (h : BackOk n s m) (hm : m ≤ n) : ∀ i, i ≤ m → InvF n (backF s i).1 (backF s i).2
  | 0, _ => InvF.id n
  | i + 1, hi => by
    have := h i (by omega)
    exact (BackOk.inv h hm i (by omega)).step (by omega) (by omega)

def backL (s : List Int) (m : Nat) : List Int := (List.range m).map fun i => (backAt s i : Int) - i

theorem backL_len (s : List Int) (m : Nat) : (backL s m).length = m := by simp [backL]
theorem backL_at (s : List Int) {m i : Nat} (h : i < m) : (backL s m)[i]? = some ((backAt s i : Int) - i) := by
  unfold backL
  rw [List.getElem?_map, List.getElem?_range h]
  rfl
theorem backL_succ (s : List Int) (m : Nat) : backL s (m + 1) = backL s m ++ [(backAt s m : Int) - m] := by
  unfold backL
  rw [List.range_succ, List.map_append]
  rfl

theorem back_step {n : Nat} {s : List Int} {m : Nat} (h : BackOk n s m) : ∀ i, i ≤ m → stepF (backL s m) i = (backF s i).1
  | 0, _ => rfl
  | i + 1, hi => by
    have h1 := (h i (by omega)).2
    simp only [stepF, backF]
    rw [back_step h i (by omega), getD_of (backL_at s (by omega)), show i + ((backAt s i : Int) - i).toNat = backAt s i by omega]
    rfl

/-- What is told back is played as the row. -/
theorem back_plays {n : Nat} {s : List Int} (h : BackOk n s s.length) (hn : s.length ≤ n) : PickOk n (backL s s.length) s.length ∧ playL (backL s s.length) s.length = s := by
  refine ⟨fun i hi => ?_, ?_⟩
  · obtain ⟨⟨h1, h2⟩, h3⟩ := h i hi
    have h4 := ((h.inv hn i (by omega)).2 (s.getD i 0).toNat (by omega)).1
    rw [getD_of (backL_at s hi)]
    unfold backAt at *
    omega
  · apply List.ext_getElem?
    intro i
    by_cases hi : i < s.length
    · obtain ⟨⟨h1, h2⟩, h3⟩ := h i hi
      obtain ⟨x, hx⟩ := getElem?_ex hi
      have h4 := ((h.inv hn i (by omega)).2 (s.getD i 0).toNat (by omega)).2
      rw [playL_at _ hi, hx]
      unfold pickAt
      rw [back_step h i (by omega), getD_of (backL_at s hi), show i + ((backAt s i : Int) - i).toNat = backAt s i by omega]
      unfold backAt
      rw [h4]
      rw [getD_of hx] at h1 ⊢
      rw [Int.toNat_of_nonneg h1]
    · rw [List.getElem?_eq_none (by rw [playL_len]; omega), List.getElem?_eq_none (by omega)]

/-- What is played is told back. -/
theorem plays_back {n : Nat} {P : List Int} (h : PickOk n P P.length) (hn : P.length ≤ n) : BackOk n (playL P P.length) P.length ∧ backL (playL P P.length) P.length = P := by
  have key : ∀ i, i ≤ P.length → (backF (playL P P.length) i).1 = stepF P i ∧ InvF n (backF (playL P P.length) i).1 (backF (playL P P.length) i).2 := by
    intro i
    induction i with
    | zero => exact fun _ => ⟨rfl, InvF.id n⟩
    | succ i ih =>
      intro hi
      obtain ⟨i1, i2⟩ := ih (by omega)
      obtain ⟨p1, p2⟩ := h i (by omega)
      have hv := h.at_lt (i := i) (by omega)
      have e1 : (playL P P.length).getD i 0 = (pickAt P i : Int) := getD_of (playL_at P (by omega))
      have e2 : (backF (playL P P.length) i).2 (pickAt P i) = i + (P.getD i 0).toNat := by
        have := (i2.1 (i + (P.getD i 0).toNat) (by omega)).2
        rw [i1] at this
        exact this
      refine ⟨?_, ?_⟩
      · simp only [backF, stepF]
        rw [e1, Int.toNat_natCast, e2, i1]
      · simp only [backF]
        rw [e1, Int.toNat_natCast]
        exact i2.step (by omega) hv
  have hat : ∀ i, i < P.length → backAt (playL P P.length) i = i + (P.getD i 0).toNat := by
    intro i hi
    obtain ⟨i1, i2⟩ := key i (by omega)
    obtain ⟨p1, p2⟩ := h i hi
    have e1 : (playL P P.length).getD i 0 = (pickAt P i : Int) := getD_of (playL_at P hi)
    unfold backAt
    rw [e1, Int.toNat_natCast]
    have := (i2.1 (i + (P.getD i 0).toNat) (by omega)).2
    rw [i1] at this
    exact this
  refine ⟨fun i hi => ?_, ?_⟩
  · have e1 : (playL P P.length).getD i 0 = (pickAt P i : Int) := getD_of (playL_at P hi)
    have hv := h.at_lt hi
    rw [e1, hat i hi]
    omega
  · apply List.ext_getElem?
    intro i
    by_cases hi : i < P.length
    · obtain ⟨p1, p2⟩ := h i hi
      obtain ⟨x, hx⟩ := getElem?_ex hi
      rw [backL_at _ hi, hat i hi, hx]
      rw [getD_of hx] at p1 ⊢
      congr 1
      omega
    · rw [List.getElem?_eq_none (by rw [backL_len]; omega), List.getElem?_eq_none (by omega)]
end Go.Proofs.Ytoljilbldkbjpaa
