/-
  Walks of package num: quotients, products, the greatest divisor.
-/
import Derived.Test.YtoljilbldkbjpaaNumA
namespace Go.Proofs.Ytoljilbldkbjpaa
open Go.RowKit

theorem div_tell (a b : Int) (hb : b ≠ 0) :
    (0 ≤ a.tmod b → a / b = a.tdiv b ∧ a % b = a.tmod b) ∧ (a.tmod b < 0 → 0 < b → a / b = a.tdiv b - 1 ∧ a % b = a.tmod b + b) ∧ (a.tmod b < 0 → b < 0 → a / b = a.tdiv b + 1 ∧ a % b = a.tmod b - b) := by
  have h0 := Int.emod_nonneg a hb
  have h1 := Int.emod_lt a hb
  rw [Int.tdiv_eq_ediv, Int.tmod_eq_emod]
  split
  · refine ⟨fun _ => ⟨by omega, by omega⟩, fun h => ?_, fun h => ?_⟩ <;> omega
  · rcases Int.lt_or_gt_of_ne hb with h | h
    · rw [Int.sign_eq_neg_one_of_neg h]
      exact ⟨fun _ => ⟨by omega, by omega⟩, fun _ _ => ⟨by omega, by omega⟩, fun _ _ => ⟨by omega, by omega⟩⟩
    · rw [Int.sign_eq_one_of_pos h]
      exact ⟨fun _ => ⟨by omega, by omega⟩, fun _ _ => ⟨by omega, by omega⟩, fun _ _ => ⟨by omega, by omega⟩⟩

def least64 : Int := -9223372036854775808
def divQ (a b : Int) : Int := if b = 0 ∨ (a = least64 ∧ b = -1) then 0 else a / b
def divR (a b : Int) : Int := if b = 0 ∨ (a = least64 ∧ b = -1) then 0 else a % b
def divE (a b : Int) : Int := if b = 0 then 11 else if a = least64 ∧ b = -1 then 10 else 0

theorem tdiv_ok {a b : Int} (ha : Ok64 a) (hb : b ≠ 0) (h : ¬ (a = least64 ∧ b = -1)) : Ok64 (a.tdiv b) := by
  unfold Ok64 least64 at *
  have h2 : (a.tdiv b).natAbs = a.natAbs / b.natAbs := Int.natAbs_tdiv a b
  have h3 : a.natAbs / b.natAbs ≤ a.natAbs := Nat.div_le_self _ _
  by_cases hb1 : b.natAbs = 1
  · rcases (show b = 1 ∨ b = -1 by omega) with rfl | rfl
    · simp only [Int.tdiv_one] at *; omega
    · have e : a.tdiv (-1) = -a := by rw [Int.tdiv_neg, Int.tdiv_one]
      rw [e]; omega
  · have h4 : a.natAbs / b.natAbs ≤ a.natAbs / 2 := Nat.div_le_div_left (by omega) (by omega)
    omega

theorem tmod_bd {a b : Int} (h0 : b ≠ 0) : a.tmod b < b.natAbs ∧ -(b.natAbs : Int) < a.tmod b := by
  have h1 := Int.emod_nonneg a h0
  have h2 := Int.emod_lt a h0
  rw [Int.tmod_eq_emod]
  split
  · omega
  · have h3 : a % b ≠ 0 := fun h => by
      have := Int.dvd_of_emod_eq_zero h
      simp_all
    omega

theorem ediv_ok {a b : Int} (ha : Ok64 a) (h0 : b ≠ 0) (h : ¬ (a = least64 ∧ b = -1)) : Ok64 (a / b) := by
  obtain ⟨t1, t2, t3⟩ := div_tell a b h0
  have k1 := tdiv_ok ha h0 h
  have hb := tmod_bd (a := a) h0
  by_cases hs : 0 ≤ a.tmod b
  · rw [(t1 hs).1]; exact k1
  · have h2 : (a.tdiv b).natAbs = a.natAbs / b.natAbs := Int.natAbs_tdiv a b
    have h4 : a.natAbs / b.natAbs ≤ a.natAbs / 2 := Nat.div_le_div_left (by omega) (by omega)
    unfold Ok64 at *
    rcases Int.lt_or_gt_of_ne h0 with h | h
    · rw [(t3 (by omega) h).1]; omega
    · rw [(t2 (by omega) h).1]; omega

theorem ceil_step {a b : Int} (hb : 0 < b) : 0 < a.tmod b ↔ (a / b = a.tdiv b ∧ 0 < a % b) := by
  obtain ⟨t1, t2, _⟩ := div_tell a b (by omega)
  constructor
  · intro h; have := t1 (by omega); omega
  · intro h
    by_cases h0 : 0 ≤ a.tmod b
    · have := t1 h0; omega
    · have := t2 (by omega) hb; omega

def ceilV (a b : Int) : Int := if b < 1 then 0 else if 0 < a % b then a / b + 1 else a / b
def ceilE (b : Int) : Int := if b < 1 then 1 else 0

theorem ceil_eq {a b : Int} (hb : 0 < b) : ceilV a b = if 0 < a.tmod b then a.tdiv b + 1 else a.tdiv b := by
  obtain ⟨t1, t2, _⟩ := div_tell a b (by omega)
  have h0 := Int.emod_nonneg a (show b ≠ 0 by omega)
  have h1 := Int.emod_lt a (show b ≠ 0 by omega)
  have h2 := tmod_bd (a := a) (show b ≠ 0 by omega)
  unfold ceilV
  rw [if_neg (by omega)]
  by_cases hs : 0 ≤ a.tmod b
  · obtain ⟨e1, e2⟩ := t1 hs
    rw [e1, e2]
  · obtain ⟨e1, e2⟩ := t2 (by omega) hb
    rw [if_pos (by omega), if_neg (by omega)]; omega

set_option maxHeartbeats 400000 in
theorem ceil_any (a b : Int) (w : World) (ha : Ok64 a) (hb : Ok64 b) :
    Calls Try.prog 53 #[.int .i64 a, .int .i64 b] w fun e w' => e = .returned (.tuple #[.int .i64 (ceilV a b), .int .i64 (ceilE b)]) ∧ w = w' := by
  by_cases h1 : b < 1
  · go_enter Try.func53, Try.ntmps53
    go_wp2
    go_ret2
    exact ⟨ret2 (by rw [ceilV, if_pos h1]) (by rw [ceilE, if_pos h1]), rfl⟩
  · have hp : 0 < b := by omega
    have e1 := ceil_eq (a := a) hp
    have e2 : ceilE b = 0 := if_neg h1
    have k1 := tdiv_ok ha (show b ≠ 0 by omega) (by omega)
    have k4 := tmod_bd (a := a) (show b ≠ 0 by omega)
    have k5 : 0 < a.tmod b → a.tdiv b < 9223372036854775807 := by
      intro h
      have h2 : (a.tdiv b).natAbs = a.natAbs / b.natAbs := Int.natAbs_tdiv a b
      have h4 : a.natAbs / b.natAbs ≤ a.natAbs / 2 := Nat.div_le_div_left (by omega) (by omega)
      unfold Ok64 at ha
      omega
    unfold Ok64 at ha hb k1
    have E1 := Lib.hid e1
    have E2 := Lib.hid e2
    have b0 : (b == 0) = false := by simp; omega
    clear e1 e2
    by_cases hs : 0 < a.tmod b
    · have k6 := k5 hs
      go_enter Try.func53, Try.ntmps53
      go_wp2
      go_ret2
      refine ⟨ret2 ?_ E2.out.symm, rfl⟩
      rw [E1.out, if_pos hs]
    · go_enter Try.func53, Try.ntmps53
      go_wp2
      go_ret2
      refine ⟨ret2 ?_ E2.out.symm, rfl⟩
      rw [E1.out, if_neg (by omega)]
end Go.Proofs.Ytoljilbldkbjpaa
