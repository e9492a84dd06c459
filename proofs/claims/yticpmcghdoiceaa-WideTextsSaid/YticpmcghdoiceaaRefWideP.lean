/-
  Walk of copseref02.Prods: how two products lie.
-/
import Derived.Test.YticpmcghdoiceaaRefWideG
import Derived.Test.YticpmcghdoiceaaRefTurn
namespace Go.Proofs.Yticpmcghdoiceaa
open Go.RowKit

theorem whole_pos {w : World} {neg : Bool} {vb : Value} {z : Int} (h : WholeR w (.agg #[.bool neg, vb]) z) : Ints .i64 w vb (digs z.natAbs) ∧ (neg = true → z ≤ 0) ∧ (neg = false → 0 ≤ z) := by
  obtain ⟨n, v, e, h1, h2, h3⟩ := h
  injection e with e
  have e0 : (#[Value.bool neg, vb] : Array Value).toList = #[Value.bool n, v].toList := by rw [e]
  simp at e0
  obtain ⟨rfl, rfl⟩ := e0
  exact ⟨h1, h2, h3⟩

theorem digs_ne {n : Nat} (h : 0 < n) : 0 < (digs n).length := by rw [digs_pos h]; simp

set_option maxRecDepth 100000 in
set_option maxHeartbeats 2000000 in
theorem rProds_any (a b c d : Int) (w : World) (ha : Ok64 a) (hb : Ok64 b) (hc : Ok64 c) (hd : Ok64 d) :
    Calls Try.prog 28 #[.int .i64 a, .int .i64 b, .int .i64 c, .int .i64 d] w fun e w' => e = .returned (.int .i64 (prodsI a b c d)) ∧ Below w.heap.size w w' := by
  have hint := fun (x : Int) W (h : Ok64 x) => int_any x W h.1 h.2
  have hlen : ∀ x, Ok64 x → (digs x.natAbs).length ≤ 4 := fun x h => digs_64 (by unfold Ok64 at h; omega)
  have l1 := hlen a ha; have l2 := hlen b hb; have l3 := hlen c hc; have l4 := hlen d hd
  have hsm : ∀ x y, Ok64 x → Ok64 y → Sm (x * y).natAbs := fun x y h1 h2 => by
    rw [Int.natAbs_mul]
    refine Sm.of (k := 8) ?_ (by omega)
    unfold Ok64 at h1 h2
    exact Nat.lt_of_le_of_lt (Nat.mul_le_mul (show x.natAbs ≤ 9223372036854775808 by omega) (show y.natAbs ≤ 9223372036854775808 by omega)) (by decide)
  have s1 := hsm a b ha hb
  have s2 : Sm (-(c * d)).natAbs := by rw [Int.natAbs_neg]; exact hsm c d hc hd
  have HI := Lib.hid hint
  have OA := Lib.hid ha; have OB := Lib.hid hb; have OC := Lib.hid hc; have OD := Lib.hid hd
  have HS1 := Lib.hid s1; have HS2 := Lib.hid s2
  unfold prodsI
  have hz : a * b - c * d = a * b + -(c * d) := by omega
  rw [hz]
  obtain ⟨z, hzz⟩ : ∃ z, a * b + -(c * d) = z := ⟨_, rfl⟩
  rw [hzz]
  have HZ := Lib.hid hzz
  clear hint hlen hsm s1 s2 ha hb hc hd hz hzz
  go_enter Try.func28, Try.ntmps28
  go_wp2_with fail
  refine (HI.out a _ OA.out).mono ?_
  rintro e w1 ⟨v1, rfl, i1, _, b1⟩
  have I1 := Lib.hid i1; have B1 := Lib.hid b1
  clear i1 b1
  go_wp2_with fail
  refine (HI.out b _ OB.out).mono ?_
  rintro e w2 ⟨v2, rfl, i1, _, b1⟩
  have I1 := Lib.hid (I1.out.below b1); have I2 := Lib.hid i1; have B2 := Lib.hid (B1.out.trans (b1.mono B1.out.size))
  clear i1 b1
  go_wp2_with fail
  refine (product_any v1 v2 a b _ I1.out I2.out (by omega) (by omega)).mono ?_
  rintro e w3 ⟨v3, rfl, i1, _, b1⟩
  have I3 := Lib.hid i1; have B3 := Lib.hid (B2.out.trans (b1.mono B2.out.size))
  clear i1 b1
  go_wp2_with fail
  refine (HI.out c _ OC.out).mono ?_
  rintro e w4 ⟨v4, rfl, i1, _, b1⟩
  have I3 := Lib.hid (I3.out.below b1); have I4 := Lib.hid i1; have B4 := Lib.hid (B3.out.trans (b1.mono B3.out.size))
  clear i1 b1
  go_wp2_with fail
  refine (HI.out d _ OD.out).mono ?_
  rintro e w5 ⟨v5, rfl, i1, _, b1⟩
  have I3 := Lib.hid (I3.out.below b1); have I4 := Lib.hid (I4.out.below b1); have I5 := Lib.hid i1; have B5 := Lib.hid (B4.out.trans (b1.mono B4.out.size))
  clear i1 b1
  go_wp2_with fail
  refine (product_any v4 v5 c d _ I4.out I5.out (by omega) (by omega)).mono ?_
  rintro e w6 ⟨v6, rfl, i1, _, b1⟩
  have I3 := Lib.hid (I3.out.below b1); have I6 := Lib.hid i1; have B6 := Lib.hid (B5.out.trans (b1.mono B5.out.size))
  clear i1 b1
  go_wp2_with fail
  refine (turn_any v6 _ _ I6.out).mono ?_
  rintro e w7 ⟨v7, rfl, i1, b1⟩
  have I3 := Lib.hid (I3.out.below b1); have I7 := Lib.hid i1; have B7 := Lib.hid (B6.out.trans (b1.mono B6.out.size))
  clear i1 b1
  go_wp2_with fail
  refine (both_any v3 v7 _ _ _ I3.out I7.out HS1.out HS2.out).mono ?_
  rw [HZ.out]
  rintro e w8 ⟨v8, rfl, i1, _, b1⟩
  have B8 := Lib.hid (B7.out.trans (b1.mono B7.out.size))
  obtain ⟨neg, ad, n, cc, rfl⟩ := shape_agg i1
  obtain ⟨g1, g2, g3⟩ := whole_pos i1
  obtain ⟨ad', cc', e1, _⟩ := g1
  have hn : n = (digs z.natAbs).length := by injection e1
  have G2 := Lib.hid g2; have G3 := Lib.hid g3; have HN := Lib.hid hn
  clear i1 b1 e1 g2 g3 hn
  by_cases h0 : n = 0
  · have hz0 : z = 0 := by
      have := HN.out
      rcases Nat.eq_zero_or_pos z.natAbs with h | h
      · omega
      · have := digs_ne h; omega
    have HZ0 := Lib.hid hz0
    subst h0
    clear hz0
    go_wp2
    go_ret
    exact ⟨ret_int (by rw [HZ0.out]; rfl), by have := B8.out.size; (repeat (first | with_reducible exact Below.refl _ _ | ((with_reducible refine Below.setCell ?_ ?_ _); rotate_left; (focus (first | omega | (simp; done) | (simp; omega)))) | ((with_reducible refine Below.alloc ?_ ?_ _); rotate_left; (focus (first | omega | (simp; done) | (simp; omega)))) | (with_reducible refine Below.drew ?_) | (with_reducible refine below_drewN ?_ _) | ((with_reducible refine Below.trans ?_ (Below.mono B8.out ?_)); rotate_left; (focus (first | omega | (simp; done) | (simp; omega))))))⟩
  · have hne : ((n : Int) == 0) = false := by simp; omega
    have hz0 : z ≠ 0 := by
      intro hc
      have := HN.out
      rw [hc] at this
      simp [digs_zero] at this
      exact h0 this
    have HZ0 := Lib.hid hz0
    clear hz0 h0
    cases neg
    · have hs : sgn z = 1 := by have := G3.out rfl; have := HZ0.out; unfold sgn; rw [if_neg (by omega), if_pos (by omega)]
      have HS := Lib.hid hs
      clear hs
      go_wp2
      go_ret
      exact ⟨ret_int HS.out.symm, by have := B8.out.size; (repeat (first | with_reducible exact Below.refl _ _ | ((with_reducible refine Below.setCell ?_ ?_ _); rotate_left; (focus (first | omega | (simp; done) | (simp; omega)))) | ((with_reducible refine Below.alloc ?_ ?_ _); rotate_left; (focus (first | omega | (simp; done) | (simp; omega)))) | (with_reducible refine Below.drew ?_) | (with_reducible refine below_drewN ?_ _) | ((with_reducible refine Below.trans ?_ (Below.mono B8.out ?_)); rotate_left; (focus (first | omega | (simp; done) | (simp; omega))))))⟩
    · have hs : sgn z = -1 := by have := G2.out rfl; have := HZ0.out; unfold sgn; rw [if_pos (by omega)]
      have HS := Lib.hid hs
      clear hs
      go_wp2
      go_ret
      exact ⟨ret_int HS.out.symm, by have := B8.out.size; (repeat (first | with_reducible exact Below.refl _ _ | ((with_reducible refine Below.setCell ?_ ?_ _); rotate_left; (focus (first | omega | (simp; done) | (simp; omega)))) | ((with_reducible refine Below.alloc ?_ ?_ _); rotate_left; (focus (first | omega | (simp; done) | (simp; omega)))) | (with_reducible refine Below.drew ?_) | (with_reducible refine below_drewN ?_ _) | ((with_reducible refine Below.trans ?_ (Below.mono B8.out ?_)); rotate_left; (focus (first | omega | (simp; done) | (simp; omega))))))⟩
end Go.Proofs.Yticpmcghdoiceaa
