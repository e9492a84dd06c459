/-
  Plain laws of layer 7: what is picked from draws.
-/
import Derived.Test.YtoljilbldkbjpaaPickP
import Derived.Test.YtoljilbldkbjpaaDrawB
namespace Go.Proofs.Ytoljilbldkbjpaa
open Go.RowKit

/-- k picks from the i-th on, of draws from a place on: the picks, the place behind them, how it failed. -/
def sampL (l : List Int) (n : Nat) (t : Int) : Nat → Nat → Int → List Int × Int × Int
  | 0, _, a => ([], a, 0)
  | k + 1, i, a => if (boundB l a (n - i) t).2.2 = 0 then ((boundB l a (n - i) t).1 :: (sampL l n t k (i + 1) (boundB l a (n - i) t).2.1).1, (sampL l n t k (i + 1) (boundB l a (n - i) t).2.1).2) else ([], 0, (boundB l a (n - i) t).2.2)

theorem boundL_in {l : List Int} {n : Nat} (hu : AllU l) (hn : 0 < n) : ∀ (t a : Nat), (boundL l n t a).2.2 = 0 → (0 ≤ (boundL l n t a).1 ∧ (boundL l n t a).1 < n) ∧ (a : Int) + 1 ≤ (boundL l n t a).2.1 ∧ (boundL l n t a).2.1 ≤ (a : Int) + t ∧ (boundL l n t a).2.1 ≤ l.length
  | 0, a, h => by simp [boundL] at h
  | t + 1, a, h => by
    unfold boundL at h ⊢
    cases hx : l[a]? with
    | none => rw [hx] at h; simp at h
    | some x =>
      rw [hx] at h
      have hlt : a < l.length := (List.getElem?_eq_some_iff.1 hx).1
      have hxu := hu x (List.mem_of_getElem? hx)
      simp only at h ⊢
      by_cases hle : x ≤ (topN n : Int)
      · rw [if_pos hle]
        have h1 := Int.emod_nonneg x (show (n : Int) ≠ 0 by omega)
        have h2 := Int.emod_lt_of_pos x (show (0 : Int) < n by omega)
        refine ⟨⟨h1, h2⟩, ?_, ?_, ?_⟩ <;> simp only <;> omega
      · rw [if_neg hle] at h ⊢
        obtain ⟨h1, h2, h3, h4⟩ := boundL_in hu hn t (a + 1) h
        refine ⟨h1, ?_, ?_, h4⟩ <;> omega

theorem boundB_in {l : List Int} {n : Nat} {a t : Int} (hu : AllU l) (h : (boundB l a n t).2.2 = 0) : (0 ≤ (boundB l a n t).1 ∧ (boundB l a n t).1 < n) ∧ a + 1 ≤ (boundB l a n t).2.1 ∧ (boundB l a n t).2.1 ≤ a + t ∧ (boundB l a n t).2.1 ≤ l.length := by
  unfold boundB at h ⊢
  by_cases hb : n = 0 ∨ a < 0 ∨ t < 1 ∨ 64 < t
  · rw [if_pos hb] at h; simp at h
  · rw [if_neg hb] at h ⊢
    obtain ⟨h1, h2, h3, h4⟩ := boundL_in hu (by omega) _ _ h
    refine ⟨h1, ?_, ?_, h4⟩ <;> omega

theorem sampL_in {l : List Int} {n : Nat} {t : Int} (hu : AllU l) : ∀ (k i : Nat) (a : Int), (sampL l n t k i a).2.2 = 0 → i + k ≤ n →
    (sampL l n t k i a).1.length = k ∧ (∀ (j : Nat) (p : Int), (sampL l n t k i a).1[j]? = some p → 0 ≤ p ∧ p < (n : Int) - (i + j)) ∧ a + k ≤ (sampL l n t k i a).2.1 ∧ (sampL l n t k i a).2.1 ≤ a + k * t
  | 0, i, a, _, _ => ⟨rfl, fun j p h => by simp [sampL] at h, by simp [sampL], by simp [sampL]⟩
  | k + 1, i, a, h, hn => by
    unfold sampL at h ⊢
    by_cases h0 : (boundB l a (n - i) t).2.2 = 0
    · rw [if_pos h0] at h ⊢
      obtain ⟨b1, b2, b3, b4⟩ := boundB_in hu h0
      obtain ⟨c1, c2, c3, c4⟩ := sampL_in hu k (i + 1) _ h (by omega)
      refine ⟨by simp [c1], fun j p hj => ?_, ?_, ?_⟩
      · cases j with
        | zero =>
          injection hj with hj
          omega
        | succ j =>
          have := c2 j p (by simpa using hj)
          omega
      · dsimp only; omega
      · dsimp only
        have : ((k + 1 : Nat) : Int) * t = k * t + t := by rw [Int.natCast_succ, Int.add_mul, Int.one_mul]
        omega
    · rw [if_neg h0] at h
      exact absurd h h0

theorem sampL_step {l : List Int} {n : Nat} {t : Int} {k i : Nat} {a : Int} (h : (boundB l a (n - i) t).2.2 = 0) :
    sampL l n t (k + 1) i a = ((boundB l a (n - i) t).1 :: (sampL l n t k (i + 1) (boundB l a (n - i) t).2.1).1, (sampL l n t k (i + 1) (boundB l a (n - i) t).2.1).2) := by
  conv => lhs; unfold sampL
  rw [if_pos h]
theorem sampL_stop {l : List Int} {n : Nat} {t : Int} {k i : Nat} {a : Int} (h : ¬ (boundB l a (n - i) t).2.2 = 0) :
    sampL l n t (k + 1) i a = ([], 0, (boundB l a (n - i) t).2.2) := by
  conv => lhs; unfold sampL
  rw [if_neg h]

/-- What a sample tells. -/
def sampBad (a : Int) (n k t : Int) : Prop := n < 0 ∨ 256 < n ∨ k < 0 ∨ n < k ∨ a < 0 ∨ t < 1 ∨ 64 < t
instance (a n k t : Int) : Decidable (sampBad a n k t) := by unfold sampBad; infer_instance

def sampE (l : List Int) (a n k t : Int) : Int := if sampBad a n k t then 1 else (sampL l n.toNat t k.toNat 0 a).2.2
def sampA (l : List Int) (a n k t : Int) : Int := if sampE l a n k t = 0 then (sampL l n.toNat t k.toNat 0 a).2.1 else 0
def sampV (l : List Int) (a n k t : Int) : List Int := if sampE l a n k t = 0 then playL (sampL l n.toNat t k.toNat 0 a).1 k.toNat else []

theorem samp_ok {l : List Int} {a n k t : Int} (hu : AllU l) (h : sampE l a n k t = 0) :
    (0 ≤ n ∧ n ≤ 256 ∧ 0 ≤ k ∧ k ≤ n ∧ 1 ≤ t ∧ t ≤ 64) ∧ (sampV l a n k t).length = k.toNat ∧ (∀ x ∈ sampV l a n k t, 0 ≤ x ∧ x < n) ∧
    (∀ (i j : Nat) (x : Int), (sampV l a n k t)[i]? = some x → (sampV l a n k t)[j]? = some x → i = j) ∧ k ≤ sampA l a n k t - a ∧ sampA l a n k t - a ≤ k * t := by
  have hE := h
  unfold sampE at h
  by_cases hb : sampBad a n k t
  · rw [if_pos hb] at h; omega
  · rw [if_neg hb] at h
    unfold sampBad at hb
    obtain ⟨h1, h2, h3, h4⟩ := sampL_in hu k.toNat 0 a h (by omega)
    have hp : PickOk n.toNat (sampL l n.toNat t k.toNat 0 a).1 k.toNat := fun i hi => by
      obtain ⟨p, hp⟩ := getElem?_ex (l := (sampL l n.toNat t k.toNat 0 a).1) (k := i) (by omega)
      rw [getD_of hp]
      have := h2 i p hp
      omega
    unfold sampV sampA
    rw [if_pos hE, if_pos hE]
    refine ⟨by omega, playL_len _ _, fun x hx => ?_, fun i j x hi hj => ?_, by omega, ?_⟩
    · obtain ⟨i, hi⟩ := List.getElem?_of_mem hx
      have hlt : i < k.toNat := by have := (List.getElem?_eq_some_iff.1 hi).1; rwa [playL_len] at this
      rw [playL_at _ hlt] at hi
      injection hi with hi
      have := hp.at_lt hlt
      omega
    · have hi' : i < k.toNat := by have := (List.getElem?_eq_some_iff.1 hi).1; rwa [playL_len] at this
      have hj' : j < k.toNat := by have := (List.getElem?_eq_some_iff.1 hj).1; rwa [playL_len] at this
      rw [playL_at _ hi'] at hi
      rw [playL_at _ hj'] at hj
      injection hi with hi
      injection hj with hj
      exact hp.unlike (by omega) hi' hj' (by omega)
    · rw [Int.toNat_of_nonneg (by omega)] at h4
      omega

/-- The parts of a plane, one row of so many: the parts, the place behind them, how it failed. -/
def partL (l : List Int) (t : Int) : Nat → Int → List Int × Int × Int
  | 0, a => ([], a, 0)
  | d + 1, a => if (rangeB l a (-4) 4 t).2.2 = 0 then ((rangeB l a (-4) 4 t).1 :: (partL l t d (rangeB l a (-4) 4 t).2.1).1, (partL l t d (rangeB l a (-4) 4 t).2.1).2) else ([], 0, (rangeB l a (-4) 4 t).2.2)

def coefL (l : List Int) (t : Int) (d : Nat) : Nat → Int → List Int × Int × Int
  | 0, _ => ([], 0, 61)
  | f + 1, a => if (partL l t d a).2.2 = 0 then (if (partL l t d a).1.any (fun x => x != 0) then ((partL l t d a).1, (partL l t d a).2.1, 0) else coefL l t d f (partL l t d a).2.1) else ([], 0, (partL l t d a).2.2)

def coefBad (a d t : Int) : Prop := d < 1 ∨ 8 < d ∨ a < 0 ∨ t < 1 ∨ 64 < t
instance (a d t : Int) : Decidable (coefBad a d t) := by unfold coefBad; infer_instance

def coefV (l : List Int) (a d t : Int) : List Int × Int × Int := if coefBad a d t then ([], 0, 1) else coefL l t d.toNat t.toNat a

theorem rangeB_in {l : List Int} {a t : Int} (hu : AllU l) (h : (rangeB l a (-4) 4 t).2.2 = 0) : (-4 ≤ (rangeB l a (-4) 4 t).1 ∧ (rangeB l a (-4) 4 t).1 ≤ 4) ∧ 0 ≤ (rangeB l a (-4) 4 t).2.1 ∧ (rangeB l a (-4) 4 t).2.1 ≤ l.length := by
  unfold rangeB at h ⊢
  by_cases hb : (4 : Int) < -4 ∨ a < 0 ∨ t < 1 ∨ 64 < t
  · rw [if_pos hb] at h; simp at h
  · rw [if_neg hb, if_neg (by decide)] at h ⊢
    by_cases h0 : (boundL l ((4 : Int) - (-4) + 1).toNat t.toNat a.toNat).2.2 ≠ 0
    · rw [if_pos h0] at h; exact absurd h h0
    · rw [if_neg h0] at h ⊢
      obtain ⟨⟨h1, h2⟩, h3, h4, h5⟩ := boundL_in hu (by decide) _ _ (Decidable.not_not.1 h0)
      have e : (((4 : Int) - (-4) + 1).toNat : Int) = 9 := by decide
      rw [e] at h2
      refine ⟨⟨?_, ?_⟩, ?_, h5⟩ <;> dsimp only <;> omega

theorem partL_in {l : List Int} {t : Int} (hu : AllU l) : ∀ (d : Nat) (a : Int), (partL l t d a).2.2 = 0 → (partL l t d a).1.length = d ∧ (∀ x ∈ (partL l t d a).1, -4 ≤ x ∧ x ≤ 4)
  | 0, a, _ => ⟨rfl, fun x h => by simp [partL] at h⟩
  | d + 1, a, h => by
    unfold partL at h ⊢
    by_cases h0 : (rangeB l a (-4) 4 t).2.2 = 0
    · rw [if_pos h0] at h ⊢
      obtain ⟨b1, b2, b3⟩ := rangeB_in hu h0
      obtain ⟨c1, c2⟩ := partL_in hu d _ h
      refine ⟨by simp [c1], fun x hx => ?_⟩
      rcases List.mem_cons.1 hx with rfl | hx
      · exact b1
      · exact c2 x hx
    · rw [if_neg h0] at h
      exact absurd h h0

theorem coefL_in {l : List Int} {t : Int} {d : Nat} (hu : AllU l) : ∀ (f : Nat) (a : Int), ((coefL l t d f a).2.2 = 0 → (coefL l t d f a).1.length = d ∧ (coefL l t d f a).1.any (fun x => x != 0) = true) ∧ ∀ x ∈ (coefL l t d f a).1, -4 ≤ x ∧ x ≤ 4
  | 0, a => ⟨fun h => by simp [coefL] at h, fun x h => by simp [coefL] at h⟩
  | f + 1, a => by
    unfold coefL
    by_cases h0 : (partL l t d a).2.2 = 0
    · rw [if_pos h0]
      obtain ⟨c1, c2⟩ := partL_in hu d a h0
      by_cases h1 : (partL l t d a).1.any (fun x => x != 0) = true
      · rw [if_pos h1]
        exact ⟨fun _ => ⟨c1, h1⟩, c2⟩
      · rw [if_neg h1]
        exact coefL_in hu f _
    · rw [if_neg h0]
      exact ⟨fun h => absurd h h0, fun x h => by simp at h⟩

/-- The place that a number tells by weights. -/
def atW : List Int → Int → Nat → Option Nat
  | [], _, _ => none
  | w :: ws, x, i => if x < w then some i else atW ws (x - w) (i + 1)

theorem atW_in : ∀ (ws : List Int) (x : Int) (i k : Nat), 0 ≤ x → atW ws x i = some k → i ≤ k ∧ ∃ w, ws[k - i]? = some w ∧ 0 < w
  | [], x, i, k, _, h => by simp [atW] at h
  | w :: ws, x, i, k, hx, h => by
    unfold atW at h
    by_cases h1 : x < w
    · rw [if_pos h1] at h
      injection h with h
      subst h
      exact ⟨Nat.le_refl _, w, by simp, by omega⟩
    · rw [if_neg h1] at h
      obtain ⟨g1, v, g2, g3⟩ := atW_in ws _ _ _ (by omega) h
      refine ⟨by omega, v, ?_, g3⟩
      rw [show k - i = (k - (i + 1)) + 1 by omega]
      simpa using g2

def sumW : List Int → Int
  | [] => 0
  | w :: ws => w + sumW ws

theorem sumW_append (a b : List Int) : sumW (a ++ b) = sumW a + sumW b := by
  induction a with
  | nil => simp [sumW]
  | cons x a ih => simp only [List.cons_append, sumW, ih]; omega

theorem sumW_bd : ∀ (ws : List Int) (b : Int), (∀ w ∈ ws, 0 ≤ w ∧ w ≤ b) → 0 ≤ sumW ws ∧ sumW ws ≤ b * ws.length
  | [], b, _ => by simp [sumW]
  | w :: ws, b, h => by
    have h1 := h w (by simp)
    have h2 := sumW_bd ws b (fun v hv => h v (by simp [hv]))
    simp only [sumW, List.length_cons]
    have : b * ((ws.length + 1 : Nat) : Int) = b * ws.length + b := by rw [Int.natCast_succ, Int.mul_add, Int.mul_one]
    omega

theorem atW_some : ∀ (ws : List Int) (x : Int) (i : Nat), 0 ≤ x → x < sumW ws → ∃ k, atW ws x i = some k
  | [], x, i, h0, h => by
    unfold sumW at h
    omega
  | w :: ws, x, i, h0, h => by
    unfold atW
    by_cases h1 : x < w
    · exact ⟨i, by rw [if_pos h1]⟩
    · rw [if_neg h1]
      exact atW_some ws _ _ (by omega) (by simp only [sumW] at h; omega)

def weighBad (a : Int) (ws : List Int) (t : Int) : Prop := 256 < ws.length ∨ a < 0 ∨ t < 1 ∨ 64 < t ∨ ws.any (fun w => decide (w < 0 ∨ 1099511627776 < w)) = true ∨ sumW ws = 0
instance (a : Int) (ws : List Int) (t : Int) : Decidable (weighBad a ws t) := by unfold weighBad; infer_instance

def weighK (A : Int) : Option Nat → Int × Int × Int
  | some i => ((i : Int), A, 0)
  | none => (0, 0, 1)

def weighV (l : List Int) (a : Int) (ws : List Int) (t : Int) : Int × Int × Int :=
  if weighBad a ws t then (0, 0, 1) else if (boundB l a (sumW ws).toNat t).2.2 = 0 then weighK (boundB l a (sumW ws).toNat t).2.1 (atW ws (boundB l a (sumW ws).toNat t).1 0) else (0, 0, (boundB l a (sumW ws).toNat t).2.2)

/-- A place that is told has a weight. -/
theorem weigh_ok {l : List Int} {a : Int} {ws : List Int} {t : Int} (hu : AllU l) (h : (weighV l a ws t).2.2 = 0) : ∃ (k : Nat) (w : Int), (weighV l a ws t).1 = (k : Int) ∧ k < ws.length ∧ ws[k]? = some w ∧ 0 < w := by
  unfold weighV at h ⊢
  by_cases hb : weighBad a ws t
  · rw [if_pos hb] at h; simp at h
  · rw [if_neg hb] at h ⊢
    by_cases h0 : (boundB l a (sumW ws).toNat t).2.2 = 0
    · rw [if_pos h0] at h ⊢
      obtain ⟨⟨p0, _⟩, _⟩ := boundB_in hu h0
      cases hk : atW ws (boundB l a (sumW ws).toNat t).1 0 with
      | none => rw [hk] at h; simp [weighK] at h
      | some k =>
        obtain ⟨_, w, g2, g3⟩ := atW_in ws _ 0 k p0 hk
        rw [Nat.sub_zero] at g2
        exact ⟨k, w, rfl, (List.getElem?_eq_some_iff.1 g2).1, g2, g3⟩
    · rw [if_neg h0] at h
      exact absurd h h0
end Go.Proofs.Ytoljilbldkbjpaa
