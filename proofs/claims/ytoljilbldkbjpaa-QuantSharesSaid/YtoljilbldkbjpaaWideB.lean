/-
  Walks of package wide: quotients, roots.
-/
import Derived.Test.YtoljilbldkbjpaaWideA
import Derived.Laws.Bits64b
namespace Go.Proofs.Ytoljilbldkbjpaa
open Go.RowKit

theorem wide_div {ah al d : Nat} (h2 : (al : Int) ≤ 18446744073709551615) (h0 : 0 < d) :
    (ah * 18446744073709551616 + al) / d = ah / d * 18446744073709551616 + (ah % d * 18446744073709551616 + al) / d ∧ (ah * 18446744073709551616 + al) % d = (ah % d * 18446744073709551616 + al) % d ∧ (ah % d * 18446744073709551616 + al) / d < 18446744073709551616 := by
  have e : ah * 18446744073709551616 + al = (ah % d * 18446744073709551616 + al) + d * (ah / d * 18446744073709551616) := by
    have := Nat.mod_add_div ah d
    calc ah * 18446744073709551616 + al = (ah % d + d * (ah / d)) * 18446744073709551616 + al := by rw [this]
      _ = _ := by rw [Nat.add_mul, Nat.mul_assoc]; omega
  refine ⟨?_, ?_, ?_⟩
  · rw [e, Nat.add_mul_div_left _ _ h0, Nat.add_comm]
  · rw [e, Nat.add_mul_mod_self_left]
  · rw [Nat.div_lt_iff_lt_mul h0]
    have h3 : ah % d + 1 ≤ d := Nat.mod_lt _ h0
    calc ah % d * 18446744073709551616 + al < (ah % d + 1) * 18446744073709551616 := by omega
      _ ≤ d * 18446744073709551616 := Nat.mul_le_mul_right _ h3
      _ = 18446744073709551616 * d := Nat.mul_comm _ _

/-- The root, bit by bit. -/
def rootF (a : Nat) : Nat → Nat → Nat
  | 0, r => r
  | k + 1, r => if (r + 2 ^ k) * (r + 2 ^ k) ≤ a then rootF a k (r + 2 ^ k) else rootF a k r

theorem rootF_law (a : Nat) : ∀ (k r : Nat), r * r ≤ a → a < (r + 2 ^ k) * (r + 2 ^ k) → rootF a k r * rootF a k r ≤ a ∧ a < (rootF a k r + 1) * (rootF a k r + 1) := by
  intro k
  induction k with
  | zero => intro r h1 h2; exact ⟨h1, h2⟩
  | succ k ih =>
    intro r h1 h2
    rw [rootF]
    split
    · rename_i h
      refine ih _ h ?_
      rw [show r + 2 ^ k + 2 ^ k = r + 2 ^ (k + 1) by rw [Nat.pow_succ]; omega]
      exact h2
    · rename_i h
      exact ih _ h1 (by omega)

theorem rootF_le (a : Nat) : ∀ (k r : Nat), rootF a k r < r + 2 ^ k + (if k = 0 then 1 else 0) := by
  intro k
  induction k with
  | zero => intro r; simp [rootF]; omega
  | succ k ih =>
    intro r
    rw [rootF, if_neg (show ¬ k + 1 = 0 by omega)]
    have h2 : 0 < 2 ^ k := Nat.pow_pos (by omega)
    have h3 : 2 ^ (k + 1) = 2 ^ k + 2 ^ k := by rw [Nat.pow_succ]; omega
    rcases Nat.eq_zero_or_pos k with h0 | h0
    · subst h0
      split <;> simp [rootF]
    · have e : (if k = 0 then 1 else 0) = 0 := if_neg (by omega)
      split
      · have := ih (r + 2 ^ k); omega
      · have := ih r; omega

theorem sq_lt {t : Nat} (h : (t : Int) ≤ 18446744073709551615) : t * t < T128 := by
  unfold T128
  have h1 : t ≤ 18446744073709551615 := by omega
  exact Nat.lt_of_le_of_lt (Nat.mul_le_mul h1 h1) (by decide)

def rootN (a : Nat) : Nat := rootF a 64 0

theorem or_pow {r k : Nat} (h : r % 2 ^ (k + 1) = 0) : r ||| 2 ^ k = r + 2 ^ k := by
  obtain ⟨q, hq⟩ : ∃ q, r = 2 ^ (k + 1) * q := ⟨r / 2 ^ (k + 1), by rw [Nat.mul_div_cancel' (Nat.dvd_of_mod_eq_zero h)]⟩
  have := Nat.two_pow_add_eq_or_of_lt (i := k + 1) (b := 2 ^ k) (Nat.pow_lt_pow_right (by omega) (by omega)) q
  rw [hq, this]

end Go.Proofs.Ytoljilbldkbjpaa
