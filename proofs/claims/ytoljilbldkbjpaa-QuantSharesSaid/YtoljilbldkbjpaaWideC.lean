/-
  Walks of package wide: how products lie.
-/
import Derived.Test.YtoljilbldkbjpaaWideB
namespace Go.Proofs.Ytoljilbldkbjpaa
open Go.RowKit

theorem wsize_any (a : Int) (w : World) (h : Ok64 a) : Calls Try.prog 112 #[.int .i64 a] w fun e w' => e = .returned (.int .u64 (a.natAbs : Int)) ∧ w = w' := by
  unfold Ok64 at h
  by_cases hn : a < 0
  · have hw : IntKind.u64.wrap (-IntKind.u64.wrap a) = (a.natAbs : Int) := by simp only [IntKind.wrap_u64]; omega
    go_enter Try.func112, Try.ntmps112
    go_wp2
    go_ret
    exact ⟨rfl, rfl⟩
  · have hw : IntKind.u64.wrap a = (a.natAbs : Int) := by simp only [IntKind.wrap_u64]; omega
    go_enter Try.func112, Try.ntmps112
    go_wp2
    go_ret
    exact ⟨ret_int (by omega), rfl⟩

def sgn (a : Int) : Int := if a < 0 then -1 else if 0 < a then 1 else 0

theorem cmpi_any (x y : Int) (w : World) : Calls Try.prog 109 #[.int .i64 x, .int .i64 y] w fun e w' => e = .returned (.int .i64 (if x < y then -1 else if y < x then 1 else 0)) ∧ w = w' := by
  by_cases h1 : x < y
  · rw [if_pos h1]
    go_enter Try.func109, Try.ntmps109
    go_wp2
    go_ret
    exact ⟨rfl, rfl⟩
  · rw [if_neg h1]
    by_cases h2 : y < x
    · rw [if_pos h2]
      go_enter Try.func109, Try.ntmps109
      go_wp2
      go_ret
      exact ⟨rfl, rfl⟩
    · rw [if_neg h2]
      go_enter Try.func109, Try.ntmps109
      go_wp2
      go_ret
      exact ⟨rfl, rfl⟩

theorem sgn_bd (a : Int) : -1 ≤ sgn a ∧ sgn a ≤ 1 := by unfold sgn; repeat' split <;> omega

theorem wsign_any (a b : Int) (w : World) : Calls Try.prog 108 #[.int .i64 a, .int .i64 b] w fun e w' => e = .returned (.int .i64 (sgn a * sgn b)) ∧ w = w' := by
  have h1 := fun x W => cmpi_any x 0 W
  have ea : (if a < 0 then (-1 : Int) else if 0 < a then 1 else 0) = sgn a := rfl
  have eb : (if b < 0 then (-1 : Int) else if 0 < b then 1 else 0) = sgn b := rfl
  have ha := h1 a; have hb := h1 b
  rw [ea] at ha; rw [eb] at hb
  have b1 := sgn_bd a; have b2 := sgn_bd b
  generalize sgn a = x at *
  generalize sgn b = y at *
  have hw : wrap64 (x * y) = x * y := by
    have : x = -1 ∨ x = 0 ∨ x = 1 := by omega
    rcases this with rfl | rfl | rfl <;> exact IntWalk.wrap64_in _ (by omega)
  have HA := Lib.hid ha; have HB := Lib.hid hb; have HW := Lib.hid hw
  clear h1 ha hb ea eb hw
  go_enter Try.func108, Try.ntmps108
  go_wp2_with fail
  refine (HA.out _).mono ?_
  rintro e w1 ⟨rfl, rfl⟩
  go_wp2_with fail
  refine (HB.out _).mono ?_
  rintro e w1 ⟨rfl, rfl⟩
  go_wp2
  go_ret
  exact ⟨ret_int HW.out, rfl⟩

/-- How two products lie. -/
def prodsI (a b c d : Int) : Int := sgn (a * b - c * d)

theorem sgn_mul (a b : Int) : sgn (a * b) = sgn a * sgn b := by
  unfold sgn
  rcases Int.lt_trichotomy a 0 with h1 | h1 | h1 <;> rcases Int.lt_trichotomy b 0 with h2 | h2 | h2
  · have := Int.mul_pos_of_neg_of_neg h1 h2
    rw [if_neg (show ¬ a * b < 0 by omega), if_pos this, if_pos h1, if_pos h2]; rfl
  · subst h2; simp
  · have := Int.mul_neg_of_neg_of_pos h1 h2
    rw [if_pos this, if_pos h1, if_neg (show ¬ b < 0 by omega), if_pos h2]; rfl
  · subst h1; simp
  · subst h1; simp
  · subst h1; simp
  · have := Int.mul_neg_of_pos_of_neg h1 h2
    rw [if_pos this, if_neg (show ¬ a < 0 by omega), if_pos h1, if_pos h2]; rfl
  · subst h2; simp
  · have := Int.mul_pos h1 h2
    rw [if_neg (show ¬ a * b < 0 by omega), if_pos this, if_neg (show ¬ a < 0 by omega), if_pos h1, if_neg (show ¬ b < 0 by omega), if_pos h2]; rfl

theorem sgn_diff (x y : Int) (h : sgn x ≠ sgn y) : sgn (x - y) = if sgn x < sgn y then -1 else if sgn y < sgn x then 1 else 0 := by
  unfold sgn at *
  repeat' split at h
  all_goals (repeat' split) <;> omega
theorem sgn_same (x y : Int) (h : sgn x = sgn y) : sgn (x - y) = sgn x * cmpN x.natAbs y.natAbs := by
  unfold sgn cmpN at *
  repeat' split at h
  all_goals (repeat' split) <;> omega

set_option maxRecDepth 100000 in
set_option maxHeartbeats 1000000 in
theorem wProds_any (a b c d : Int) (w : World) (ha : Ok64 a) (hb : Ok64 b) (hc : Ok64 c) (hd : Ok64 d) :
    Calls Try.prog 100 #[.int .i64 a, .int .i64 b, .int .i64 c, .int .i64 d] w fun e w' => e = .returned (.int .i64 (prodsI a b c d)) ∧ Below w.heap.size w w' := by
  have hs := fun W => wsign_any a b W
  have ht := fun W => wsign_any c d W
  rw [← sgn_mul] at hs ht
  have hsz : ∀ x, Ok64 x → ((x.natAbs : Nat) : Int) ≤ 18446744073709551615 := fun x h => by unfold Ok64 at h; omega
  have ka := hsz a ha; have kb := hsz b hb; have kc := hsz c hc; have kd := hsz d hd
  have g1 := fun W => wsize_any a W ha; have g2 := fun W => wsize_any b W hb; have g3 := fun W => wsize_any c W hc; have g4 := fun W => wsize_any d W hd
  have hm1 : (a * b).natAbs = a.natAbs * b.natAbs := Int.natAbs_mul a b
  have hm2 : (c * d).natAbs = c.natAbs * d.natAbs := Int.natAbs_mul c d
  have t1 : ∀ {x y : Nat}, (x : Int) ≤ 18446744073709551615 → (y : Int) ≤ 18446744073709551615 → x * y < T128 := fun {x y} h1 h2 => by
    unfold T128
    exact Nat.lt_of_le_of_lt (Nat.mul_le_mul (show x ≤ 18446744073709551615 by omega) (show y ≤ 18446744073709551615 by omega)) (by decide)
  have hq := fun W => wCmp_any (a.natAbs * b.natAbs) (c.natAbs * d.natAbs) W (t1 ka kb) (t1 kc kd)
  have e1 := sgn_diff (a * b) (c * d)
  have e2 := sgn_same (a * b) (c * d)
  rw [hm1, hm2] at e2
  have b1 := sgn_bd (a * b); have b2 := sgn_bd (c * d)
  unfold prodsI
  have b3 : -1 ≤ cmpN (a.natAbs * b.natAbs) (c.natAbs * d.natAbs) ∧ cmpN (a.natAbs * b.natAbs) (c.natAbs * d.natAbs) ≤ 1 := by unfold cmpN; repeat' split <;> omega
  generalize sgn (a * b) = x at *
  generalize sgn (c * d) = y at *
  generalize sgn (a * b - c * d) = z at *
  have m1 := fun W => wMul_any a.natAbs b.natAbs W ka kb
  have m2 := fun W => wMul_any c.natAbs d.natAbs W kc kd
  generalize cmpN (a.natAbs * b.natAbs) (c.natAbs * d.natAbs) = r at *
  have HS := Lib.hid hs; have HT := Lib.hid ht; have G1 := Lib.hid g1; have G2 := Lib.hid g2; have G3 := Lib.hid g3; have G4 := Lib.hid g4; have HQ := Lib.hid hq; have M1 := Lib.hid m1; have M2 := Lib.hid m2
  clear hs ht g1 g2 g3 g4 hq m1 m2 ka kb kc kd t1 hsz hm1 hm2 ha hb hc hd
  by_cases hxy : x = y
  · have hz := e2 hxy
    have hq : (x != y) = false := by simp [hxy]
    have hw : wrap64 (x * r) = x * r := by
      have : x = -1 ∨ x = 0 ∨ x = 1 := by omega
      rcases this with h | h | h <;> rw [h] <;> exact IntWalk.wrap64_in _ (by omega)
    have HZ := Lib.hid hz; have HXY := Lib.hid hxy; have HW := Lib.hid hw
    clear e1 e2 hz hxy hw
    go_enter Try.func100, Try.ntmps100
    go_wp2_with fail
    refine (HS.out _).mono ?_
    rintro e w1 ⟨rfl, rfl⟩
    go_wp2_with fail
    refine (HT.out _).mono ?_
    rintro e w1 ⟨rfl, rfl⟩
    go_wp2_with fail
    refine (G1.out _).mono ?_
    rintro e w1 ⟨rfl, rfl⟩
    go_wp2_with fail
    refine (G2.out _).mono ?_
    rintro e w1 ⟨rfl, rfl⟩
    go_wp2_with fail
    refine (M1.out _).mono ?_
    rintro e w1 ⟨rfl, b1⟩
    have B1 := Lib.hid b1
    clear b1
    go_wp2_with fail
    refine (G3.out _).mono ?_
    rintro e w2 ⟨rfl, rfl⟩
    go_wp2_with fail
    refine (G4.out _).mono ?_
    rintro e w2 ⟨rfl, rfl⟩
    go_wp2_with fail
    refine (M2.out _).mono ?_
    rintro e w2 ⟨rfl, b2⟩
    have B2 := Lib.hid (B1.out.trans (b2.mono B1.out.size))
    clear b2
    go_wp2_with fail
    refine (HQ.out _).mono ?_
    rintro e w3 ⟨rfl, b3⟩
    have B3 := Lib.hid (B2.out.trans (b3.mono B2.out.size))
    clear b3
    go_wp2
    go_ret
    exact ⟨ret_int (HW.out.trans HZ.out.symm), B3.out⟩
  · have hz := e1 hxy
    have hq : (x != y) = true := by simpa using hxy
    have hcp := fun W => cmpi_any x y W
    rw [← hz] at hcp
    have HC := Lib.hid hcp
    clear e1 e2 hz hxy hcp
    go_enter Try.func100, Try.ntmps100
    go_wp2_with fail
    refine (HS.out _).mono ?_
    rintro e w1 ⟨rfl, rfl⟩
    go_wp2_with fail
    refine (HT.out _).mono ?_
    rintro e w1 ⟨rfl, rfl⟩
    go_wp2_with fail
    refine (HC.out _).mono ?_
    rintro e w1 ⟨rfl, rfl⟩
    go_wp2
    go_ret
    exact ⟨rfl, Below.refl _ _⟩
end Go.Proofs.Ytoljilbldkbjpaa
