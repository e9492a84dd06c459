/-
  Walks of package num: products and the greatest divisor.
-/
import Derived.Test.YtoljilbldkbjpaaNumB
namespace Go.Proofs.Ytoljilbldkbjpaa
open Go.RowKit

theorem mul_neg {a b : Int} (h : (!decide (a < 0) == decide (b < 0)) = true) : a * b = -((a.natAbs * b.natAbs : Nat) : Int) := by
  rw [Int.natCast_mul]
  by_cases h1 : a < 0 <;> by_cases h2 : b < 0 <;> simp [h1, h2] at h
  · rw [show (a.natAbs : Int) = -a by omega, show (b.natAbs : Int) = b by omega, Int.neg_mul, Int.neg_neg]
  · rw [show (a.natAbs : Int) = a by omega, show (b.natAbs : Int) = -b by omega, Int.mul_neg, Int.neg_neg]
theorem mul_pos' {a b : Int} (h : (!decide (a < 0) == decide (b < 0)) = false) : a * b = ((a.natAbs * b.natAbs : Nat) : Int) := by
  rw [Int.natCast_mul]
  by_cases h1 : a < 0 <;> by_cases h2 : b < 0 <;> simp [h1, h2] at h
  · rw [show (a.natAbs : Int) = -a by omega, show (b.natAbs : Int) = -b by omega, Int.neg_mul_neg]
  · rw [show (a.natAbs : Int) = a by omega, show (b.natAbs : Int) = b by omega]

def gcdZ (a b : Int) : Int := (Nat.gcd a.natAbs b.natAbs : Int)

theorem gcd_step (x y : Nat) : Nat.gcd x y = Nat.gcd y (x % y) := by
  rw [Nat.gcd_comm x y, Nat.gcd_rec, Nat.gcd_comm]

set_option maxHeartbeats 400000 in
theorem gcd_any (a b : Int) (w : World) (ha : Ok64 a) (hb : Ok64 b) :
    Calls Try.prog 76 #[.int .i64 a, .int .i64 b] w fun e w' => e = .returned (.tuple #[.int .i64 (fitV (gcdZ a b)), .int .i64 (fitE (gcdZ a b))]) ∧ ∃ n, w' = w.drewN n := by
  have hxa : (a.natAbs : Int) ≤ 18446744073709551615 := by have := ha.1; have := ha.2; omega
  have hxb : (b.natAbs : Int) ≤ 18446744073709551615 := by have := hb.1; have := hb.2; omega
  go_enter Try.func76, Try.ntmps76
  go_wp2_with (go_at_call 94; refine (size_any _ _ (by assumption)).mono ?_; rintro e w' ⟨rfl, rfl⟩)
  go_loopw [6, 7] (fun x y wr => ∃ (p q : Nat), x = .int .u64 p ∧ y = .int .u64 q ∧ (p : Int) ≤ 18446744073709551615 ∧ (q : Int) ≤ 18446744073709551615 ∧ Nat.gcd p q = Nat.gcd a.natAbs b.natAbs ∧ ∃ n, wr = w.drewN n) (fun _ y _ => (intOf y).toNat)
  case atStart => exact ⟨_, _, rfl, rfl, hxa, hxb, rfl, 0, rfl⟩
  case round =>
    obtain ⟨p, q, rfl, rfl, hp, hq, hg, n, rfl⟩ := hrel
    have HG := Lib.hid hg; clear hg
    by_cases h0 : 0 < q
    · have h0' : (q : Int) ≠ 0 := by omega
      go_wp2
      go_quiet (fail)
      go_wp2
      go_roundw
      case rel => exact ⟨q, p % q, rfl, by go_num, hq, by have := Nat.mod_lt p h0; omega, by rw [← gcd_step, HG.out], _, World.drewN_drewN _ _ _⟩
      case measure => have := Nat.mod_lt p h0; simp [intOf]; omega
    · obtain rfl : q = 0 := by omega
      have hz : gcdZ a b = p := by unfold gcdZ; rw [← HG.out]; simp
      by_cases hb : p ≤ 9223372036854775807
      · have HZ : Hid (Ok64 (gcdZ a b) ∧ gcdZ a b = p) := ⟨by unfold Ok64; omega, hz⟩
        clear hz
        go_wp2
        go_ret2
        exact ⟨ret2 (by rw [fitV_yes HZ.out.1, HZ.out.2]) (fitE_yes HZ.out.1).symm, _, rfl⟩
      · have HZ : Hid (¬ Ok64 (gcdZ a b)) := by show ¬ _; unfold Ok64; omega
        clear hz
        go_wp2
        go_ret2
        exact ⟨ret2 (fitV_no HZ.out).symm (fitE_no HZ.out).symm, _, rfl⟩
end Go.Proofs.Ytoljilbldkbjpaa
