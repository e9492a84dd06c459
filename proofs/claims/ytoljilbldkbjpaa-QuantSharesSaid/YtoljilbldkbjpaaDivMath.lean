/-
  Plain laws: a long division of two words by one, digit by digit.
-/
namespace Go.Proofs.Ytoljilbldkbjpaa.DivM

/-- What holds of a digit that is guessed, and of what it leaves: the guess is not below the true digit. -/
structure Guess (U d y1 y0 q r : Nat) : Prop where
  sum : q * y1 + r = U
  low : (U * 4294967296 + d) / (y1 * 4294967296 + y0) ≤ q
  top : q ≤ 4294967296 + 1

theorem prod_eq (U y1 y0 q r : Nat) (h : q * y1 + r = U) : q * (y1 * 4294967296 + y0) + r * 4294967296 = U * 4294967296 + q * y0 := by
  rw [← h, Nat.mul_add, Nat.add_mul, Nat.mul_assoc]; omega

theorem digit_lt {U d y1 y0 : Nat} (hU : U < y1 * 4294967296 + y0) (hd : d < 4294967296) : (U * 4294967296 + d) / (y1 * 4294967296 + y0) < 4294967296 := by
  apply Nat.div_lt_of_lt_mul
  have h1 : (U + 1) * 4294967296 ≤ (y1 * 4294967296 + y0) * 4294967296 := Nat.mul_le_mul_right 4294967296 hU
  rw [Nat.add_mul] at h1
  omega

theorem guess_first {U d y1 y0 : Nat} (hU : U < y1 * 4294967296 + y0) (hd : d < 4294967296) (hy0 : y0 < 4294967296) (hy1 : 2147483648 ≤ y1) : Guess U d y1 y0 (U / y1) (U % y1) := by
  have hpos : 0 < y1 := by omega
  have h1 : U / y1 * y1 + U % y1 = U := by rw [Nat.mul_comm]; exact Nat.div_add_mod U y1
  refine ⟨h1, ?_, ?_⟩
  · have h2 := Nat.mod_lt U hpos
    refine Nat.le_of_lt_succ ((Nat.div_lt_iff_lt_mul (by omega)).2 ?_)
    generalize U / y1 = q at *
    generalize U % y1 = r at *
    have e : (q + 1) * (y1 * 4294967296 + y0) = q * y1 * 4294967296 + y1 * 4294967296 + (q + 1) * y0 := by
      rw [Nat.mul_add, Nat.add_mul, Nat.one_mul, Nat.mul_assoc]
    show _ < (q + 1) * _
    rw [e]
    generalize q * y1 = p at *
    omega
  · have h3 := (Nat.div_lt_iff_lt_mul hpos).2 (show U < 4294967298 * y1 by omega)
    omega

/-- The test of the guess: it is above the true digit. -/
theorem guess_over {U d y1 y0 q r : Nat} (g : Guess U d y1 y0 q r) (hp : 0 < y1 * 4294967296 + y0) (h : 4294967296 * r + d < q * y0) : (U * 4294967296 + d) / (y1 * 4294967296 + y0) < q := by
  have e := prod_eq U y1 y0 q r g.sum
  apply (Nat.div_lt_iff_lt_mul hp).2
  omega

theorem guess_right {U d y1 y0 q r : Nat} (g : Guess U d y1 y0 q r) (hp : 0 < y1 * 4294967296 + y0) (h : q * y0 ≤ 4294967296 * r + d) : q = (U * 4294967296 + d) / (y1 * 4294967296 + y0) := by
  have e := prod_eq U y1 y0 q r g.sum
  have : q ≤ (U * 4294967296 + d) / (y1 * 4294967296 + y0) := (Nat.le_div_iff_mul_le hp).2 (by omega)
  have := g.low
  omega

theorem guess_down {U d y1 y0 q r : Nat} (g : Guess U d y1 y0 q r) (h : (U * 4294967296 + d) / (y1 * 4294967296 + y0) < q) : Guess U d y1 y0 (q - 1) (r + y1) := by
  obtain ⟨p, rfl⟩ : ∃ p, q = p + 1 := ⟨q - 1, (Nat.sub_add_cancel (Nat.lt_of_le_of_lt (Nat.zero_le _) h)).symm⟩
  have h1 := g.sum
  have h3 := g.top
  rw [Nat.add_mul] at h1
  have h4 := Nat.le_of_lt_succ h
  clear h
  exact ⟨by simp only [Nat.add_sub_cancel]; omega, by simpa using h4, by simp only [Nat.add_sub_cancel]; omega⟩

/-- What is left is a digit's room: the guess is right. -/
theorem guess_end {U d y1 y0 q r : Nat} (g : Guess U d y1 y0 q r) (hp : 0 < y1 * 4294967296 + y0) (hy0 : y0 < 4294967296) (hq : q ≤ 4294967296) (hr : 4294967296 ≤ r) : q = (U * 4294967296 + d) / (y1 * 4294967296 + y0) := by
  refine guess_right g hp ?_
  have h1 : q * y0 ≤ 4294967296 * (4294967296 - 1) := Nat.mul_le_mul hq (by omega)
  have h2 : 4294967296 * (4294967296 - 1) ≤ 4294967296 * r := Nat.mul_le_mul_left 4294967296 (by omega)
  omega

/-- One digit's rest, as it is reckoned modulo 2^64. -/
theorem rest_eq {U d y1 y0 q : Nat} (hp : 0 < y1 * 4294967296 + y0) (hq : q = (U * 4294967296 + d) / (y1 * 4294967296 + y0)) :
    (U * 4294967296 + d) = q * (y1 * 4294967296 + y0) + (U * 4294967296 + d) % (y1 * 4294967296 + y0) ∧ (U * 4294967296 + d) % (y1 * 4294967296 + y0) < y1 * 4294967296 + y0 := by
  refine ⟨?_, Nat.mod_lt _ hp⟩
  rw [hq]
  have := Nat.div_add_mod (U * 4294967296 + d) (y1 * 4294967296 + y0)
  rw [Nat.mul_comm] at this
  exact this.symm

theorem lin_digits {a b t r M K d0 u : Nat} (e1 : a + t = M) (hK : t * 4294967296 + d0 = K) (e0 : b + r = K) (hu : u = M * 4294967296 + d0) : u = a * 4294967296 + b + r := by
  rw [hu, ← e1, Nat.add_mul, Nat.add_assoc (a * 4294967296), hK, ← e0, ← Nat.add_assoc]

/-- Two digits make the quotient. -/
theorem two_digits {u v q1 q0 d1 d0 U : Nat} (hu : u = (U * 4294967296 + d1) * 4294967296 + d0) (hv : 0 < v) (h1 : q1 = (U * 4294967296 + d1) / v) (h0 : q0 = ((U * 4294967296 + d1) % v * 4294967296 + d0) / v) :
    u / v = q1 * 4294967296 + q0 ∧ u % v = ((U * 4294967296 + d1) % v * 4294967296 + d0) % v := by
  obtain ⟨M, hM⟩ : ∃ M, U * 4294967296 + d1 = M := ⟨_, rfl⟩
  rw [hM] at hu h1 h0 ⊢
  have e1 := Nat.div_add_mod M v
  rw [← h1] at e1
  generalize M % v = t at *
  obtain ⟨K, hK⟩ : ∃ K, t * 4294967296 + d0 = K := ⟨_, rfl⟩
  rw [hK] at h0 ⊢
  have e0 := Nat.div_add_mod K v
  rw [← h0] at e0
  have hr := Nat.mod_lt K hv
  generalize K % v = r at *
  have e : u = v * (q1 * 4294967296 + q0) + r := by
    have e3 : v * (q1 * 4294967296 + q0) = v * q1 * 4294967296 + v * q0 := by rw [Nat.mul_add, ← Nat.mul_assoc]
    rw [e3]
    exact lin_digits e1 hK e0 hu
  rw [e]
  exact ⟨by rw [Nat.mul_add_div hv, Nat.div_eq_of_lt hr, Nat.add_zero], by rw [Nat.mul_add_mod, Nat.mod_eq_of_lt hr]⟩

/-- A division by what is shifted. -/
theorem div_shift (u y s : Nat) : (u * 2 ^ s) / (y * 2 ^ s) = u / y ∧ (u * 2 ^ s) % (y * 2 ^ s) / 2 ^ s = u % y := by
  have hp := Nat.two_pow_pos s
  exact ⟨Nat.mul_div_mul_right _ _ hp, by rw [Nat.mul_mod_mul_right, Nat.mul_div_cancel _ hp]⟩

end Go.Proofs.Ytoljilbldkbjpaa.DivM
