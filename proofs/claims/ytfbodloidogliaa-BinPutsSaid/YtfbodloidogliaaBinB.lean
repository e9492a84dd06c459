/-
  The bytes of a number (layer 21), in plain Lean.
-/
import Derived.Test.YtfbodloidogliaaBinA
import Derived.Lib.ItoaNum
namespace Go.Proofs.Ytfbodloidogliaa

def upF : Nat → Nat → List Int
  | 0, _ => []
  | f + 1, n => if n = 0 then [] else upF f (n / 256) ++ [((n % 256 : Nat) : Int)]

/-- The digits of a number to the base 256, the greatest first. -/
def up (n : Nat) : List Int := upF 8 n

theorem upF_succ : ∀ (f n : Nat), n < 256 ^ f → upF (f + 1) n = upF f n := by
  intro f
  induction f with
  | zero => intro n h; have : n = 0 := by simpa using h
            subst this; simp [upF]
  | succ f ih =>
    intro n h
    by_cases h0 : n = 0
    · subst h0; simp [upF]
    · rw [upF, if_neg h0, ih (n / 256) (by rw [Nat.pow_succ] at h; exact Nat.div_lt_of_lt_mul (by rw [Nat.mul_comm]; exact h)), upF, if_neg h0]

theorem up_zero : up 0 = [] := rfl
theorem up_pos {n : Nat} (h : 0 < n) (hn : n < 18446744073709551616) : up n = up (n / 256) ++ [((n % 256 : Nat) : Int)] := by
  rw [up, upF, if_neg (by omega), up, upF_succ 7 (n / 256) (by show _ < 72057594037927936; omega)]

/-- The digits from the k-th on, the greatest first. -/
def down (n : Nat) : Nat → List Int
  | 0 => []
  | k + 1 => ((n / 256 ^ k % 256 : Nat) : Int) :: down n k

theorem down_snoc (n : Nat) : ∀ k, down n (k + 1) = down (n / 256) k ++ [((n % 256 : Nat) : Int)] := by
  intro k
  induction k with
  | zero => simp [down]
  | succ k ih =>
    rw [down, ih, down, List.cons_append, Nat.div_div_eq_div_mul, Nat.pow_succ, Nat.mul_comm]

theorem down_length (n : Nat) : ∀ k, (down n k).length = k := by
  intro k
  induction k with
  | zero => rfl
  | succ k ih => simp [down, ih]

theorem upF_down : ∀ (f n : Nat), upF f n = down n (upF f n).length := by
  intro f
  induction f with
  | zero => intro n; rfl
  | succ f ih =>
    intro n
    by_cases h0 : n = 0
    · subst h0; simp [upF, down]
    · rw [upF, if_neg h0, List.length_append, List.length_singleton, down_snoc, ← ih]

theorem up_down (n : Nat) : up n = down n (up n).length := upF_down 8 n

/-- The bytes of a number. -/
def putsU (n : Nat) : List Int := if n < 240 then [(n : Int)] else (239 + ((up n).length : Int)) :: up n

theorem upF_length : ∀ (f n : Nat), (upF f n).length ≤ f := by
  intro f
  induction f with
  | zero => intro n; simp [upF]
  | succ f ih =>
    intro n
    rw [upF]
    split
    · simp
    · have := ih (n / 256); simp; omega

theorem up_byte (n : Nat) : ∀ x ∈ up n, 0 ≤ x ∧ x ≤ 255 := by
  rw [up_down]
  generalize (up n).length = k
  induction k with
  | zero => intro x hx; simp [down] at hx
  | succ k ih =>
    intro x hx
    simp only [down, List.mem_cons] at hx
    rcases hx with rfl | hx
    · have := Nat.mod_lt (n / 256 ^ k) (show 0 < 256 by omega)
      generalize n / 256 ^ k % 256 = z at *
      omega
    · exact ih x hx

theorem up_bound : ∀ (f n : Nat), n < 256 ^ f → n < 18446744073709551616 → n < 256 ^ (up n).length ∧ (0 < n → 0 < (up n).length ∧ 256 ^ ((up n).length - 1) ≤ n) := by
  intro f
  induction f with
  | zero => intro n h _; have : n = 0 := by simpa using h
            subst this; simp [up_zero]
  | succ f ih =>
    intro n h hn
    rcases Nat.eq_zero_or_pos n with h0 | h0
    · subst h0; simp [up_zero]
    · have h1 : n / 256 < 256 ^ f := by rw [Nat.pow_succ] at h; exact Nat.div_lt_of_lt_mul (by rw [Nat.mul_comm]; exact h)
      obtain ⟨h2, h3⟩ := ih (n / 256) h1 (by omega)
      rw [up_pos h0 hn, List.length_append, List.length_singleton]
      rcases Nat.eq_zero_or_pos (n / 256) with h4 | h4
      · rw [h4, up_zero]
        simp
        omega
      · obtain ⟨h5, h6⟩ := h3 h4
        generalize (up (n / 256)).length = k at *
        obtain ⟨k, rfl⟩ : ∃ j, k = j + 1 := ⟨k - 1, by omega⟩
        rw [Nat.add_sub_cancel] at h6
        refine ⟨by rw [Nat.pow_succ]; omega, fun _ => ⟨by omega, ?_⟩⟩
        rw [Nat.add_sub_cancel, Nat.pow_succ]
        omega

theorem many_up {n : Nat} (h0 : 0 < n) (hn : n < 18446744073709551616) : (Lib.bitLen n + 7) / 8 = (up n).length := by
  obtain ⟨h1, h2⟩ := up_bound 8 n (by show _ < 18446744073709551616; exact hn) hn
  obtain ⟨h3, h4⟩ := h2 h0
  obtain ⟨g1, g2, g3⟩ := Lib.bitLenAux_bounds 64 n (by show _ < 18446744073709551616; exact hn) (by omega)
  have hb : Lib.bitLen n = Lib.bitLenAux 64 n := rfl
  rw [hb]
  generalize Lib.bitLenAux 64 n = B at *
  generalize (up n).length = k at *
  rw [show (256 : Nat) = 2 ^ 8 by rfl, ← Nat.pow_mul] at h1 h4
  have a1 : B - 1 < 8 * k := (Nat.pow_lt_pow_iff_right (a := 2) (by omega)).1 (Nat.lt_of_le_of_lt (by first | exact g1 | exact g2 | exact g3) h1)
  have a2 : 8 * (k - 1) < B := (Nat.pow_lt_pow_iff_right (a := 2) (by omega)).1 (Nat.lt_of_le_of_lt h4 (by first | exact g1 | exact g2 | exact g3))
  omega
end Go.Proofs.Ytfbodloidogliaa
