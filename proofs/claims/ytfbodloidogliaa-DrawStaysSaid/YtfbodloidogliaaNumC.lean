/-
  Walks of package num: products and the greatest divisor.
-/
import Derived.Test.YtfbodloidogliaaNumB
namespace Go.Proofs.Ytfbodloidogliaa
open Go.RowKit

theorem mul_neg {a b : Int} (h : (!decide (a < 0) == decide (b < 0)) = true) : a * b = -((a.natAbs * b.natAbs : Nat) : Int) := by
  rw [Int.natCast_mul]
  by_cases h1 : a < 0 <;> by_cases h2 : b < 0 <;> simp [h1, h2] at h
  · rw [show (a.natAbs : Int) = -a by omega, show (b.natAbs : Int) = b by omega, Int.neg_mul, Int.neg_neg]
  · rw [show (a.natAbs : Int) = a by omega, show (b.natAbs : Int) = -b by omega, Int.mul_neg, Int.neg_neg]
theorem mul_pos' {a b : Int} (h : (!decide (a < 0) == decide (b < 0)) = false) : a * b = ((a.natAbs * b.natAbs : Nat) : Int) := by
  rw [Int.natCast_mul]
  by_cases h1 : a < 0 <;> by_cases h2 : b < 0 <;> simp [h1, h2] at h
  · rw [show (a.natAbs : Int) = -a by omega, show (b.natAbs : Int) = -b by omega, Int.neg_mul_neg]
  · rw [show (a.natAbs : Int) = a by omega, show (b.natAbs : Int) = b by omega]

set_option maxRecDepth 100000 in
set_option maxHeartbeats 800000 in
theorem mul_any (a b : Int) (w : World) (ha : Ok64 a) (hb : Ok64 b) :
    Calls Try.prog 25 #[.int .i64 a, .int .i64 b] w fun e w' => Fit w e w' (a * b) := by
  have hm := fun W => Try.bits_Mul64 a.natAbs b.natAbs (by have := ha.1; have := ha.2; omega) (by have := hb.1; have := hb.2; omega) W
  obtain ⟨hi, hhi⟩ : ∃ hi, a.natAbs * b.natAbs / 18446744073709551616 = hi := ⟨_, rfl⟩
  obtain ⟨lo, hlo⟩ : ∃ lo, a.natAbs * b.natAbs % 18446744073709551616 = lo := ⟨_, rfl⟩
  have hlt : (lo : Int) ≤ 18446744073709551615 := by omega
  simp only [hhi, hlo] at hm
  have HM := Lib.hid hm; clear hm
  have HHI := Lib.hid hhi
  have HLO := Lib.hid hlo
  clear hhi hlo
  by_cases hs : (!decide (a < 0) == decide (b < 0)) = true
  · have hv := mul_neg hs
    have HV := Lib.hid hv
    clear hv
    by_cases h1 : 0 < hi ∨ 9223372036854775808 < lo
    · have hno : ¬ Ok64 (a * b) := by
        have := HHI.out; have := HLO.out; have := HV.out; unfold Ok64; omega
      have HNO := Lib.hid hno; clear hno
      rcases Nat.eq_zero_or_pos hi with h2 | h2
      · subst h2
        have h3 : 9223372036854775808 < lo := by omega
        clear h1
        go_enter Try.func25, Try.ntmps25
        go_wp2_with (first | (go_at_call 76; refine (size_any _ _ (by assumption)).mono ?_; rintro e w' ⟨rfl, rfl⟩) | (go_at_call 81; refine (HM.out _).mono ?_; rintro e w' ⟨rfl, rfl⟩))
        go_ret2
        exact ⟨ret2 (fitV_no HNO.out).symm (fitE_no HNO.out).symm, rfl⟩
      · clear h1
        go_enter Try.func25, Try.ntmps25
        go_wp2_with (first | (go_at_call 76; refine (size_any _ _ (by assumption)).mono ?_; rintro e w' ⟨rfl, rfl⟩) | (go_at_call 81; refine (HM.out _).mono ?_; rintro e w' ⟨rfl, rfl⟩))
        go_ret2
        exact ⟨ret2 (fitV_no HNO.out).symm (fitE_no HNO.out).symm, rfl⟩
    · obtain ⟨h2, h3⟩ : hi = 0 ∧ lo ≤ 9223372036854775808 := by omega
      subst h2
      have hy : Ok64 (a * b) ∧ a * b = -(lo : Int) := by
        have := HHI.out; have := HLO.out; have := HV.out; unfold Ok64; omega
      have HY := Lib.hid hy; clear hy
      clear h1
      go_enter Try.func25, Try.ntmps25
      go_wp2_with (first | (go_at_call 76; refine (size_any _ _ (by assumption)).mono ?_; rintro e w' ⟨rfl, rfl⟩) | (go_at_call 81; refine (HM.out _).mono ?_; rintro e w' ⟨rfl, rfl⟩))
      all_goals go_ret2
      all_goals refine ⟨ret2 ?_ (fitE_yes HY.out.1).symm, rfl⟩
      all_goals rw [fitV_yes HY.out.1, HY.out.2]
      all_goals (simp only [IntKind.wrap_u64, wrap64]; omega)
  · have hs' : (!decide (a < 0) == decide (b < 0)) = false := by simpa using hs
    clear hs
    have hv := mul_pos' hs'
    have HV := Lib.hid hv
    clear hv
    by_cases h1 : 0 < hi ∨ 9223372036854775808 ≤ lo
    · have hno : ¬ Ok64 (a * b) := by
        have := HHI.out; have := HLO.out; have := HV.out; unfold Ok64; omega
      have HNO := Lib.hid hno; clear hno
      rcases Nat.eq_zero_or_pos hi with h2 | h2
      · subst h2
        have h3 : 9223372036854775808 ≤ lo := by omega
        clear h1
        go_enter Try.func25, Try.ntmps25
        go_wp2_with (first | (go_at_call 76; refine (size_any _ _ (by assumption)).mono ?_; rintro e w' ⟨rfl, rfl⟩) | (go_at_call 81; refine (HM.out _).mono ?_; rintro e w' ⟨rfl, rfl⟩))
        all_goals go_ret2
        all_goals exact ⟨ret2 (fitV_no HNO.out).symm (fitE_no HNO.out).symm, rfl⟩
      · clear h1
        go_enter Try.func25, Try.ntmps25
        go_wp2_with (first | (go_at_call 76; refine (size_any _ _ (by assumption)).mono ?_; rintro e w' ⟨rfl, rfl⟩) | (go_at_call 81; refine (HM.out _).mono ?_; rintro e w' ⟨rfl, rfl⟩))
        all_goals go_ret2
        all_goals exact ⟨ret2 (fitV_no HNO.out).symm (fitE_no HNO.out).symm, rfl⟩
    · obtain ⟨h2, h3⟩ : hi = 0 ∧ lo < 9223372036854775808 := by omega
      subst h2
      have hy : Ok64 (a * b) ∧ a * b = (lo : Int) := by
        have := HHI.out; have := HLO.out; have := HV.out; unfold Ok64; omega
      have HY := Lib.hid hy; clear hy
      clear h1
      go_enter Try.func25, Try.ntmps25
      go_wp2_with (first | (go_at_call 76; refine (size_any _ _ (by assumption)).mono ?_; rintro e w' ⟨rfl, rfl⟩) | (go_at_call 81; refine (HM.out _).mono ?_; rintro e w' ⟨rfl, rfl⟩))
      all_goals go_ret2
      all_goals refine ⟨ret2 ?_ (fitE_yes HY.out.1).symm, rfl⟩
      all_goals rw [fitV_yes HY.out.1, HY.out.2]

def gcdZ (a b : Int) : Int := (Nat.gcd a.natAbs b.natAbs : Int)

theorem gcd_step (x y : Nat) : Nat.gcd x y = Nat.gcd y (x % y) := by
  rw [Nat.gcd_comm x y, Nat.gcd_rec, Nat.gcd_comm]

set_option maxHeartbeats 400000 in
theorem gcd_any (a b : Int) (w : World) (ha : Ok64 a) (hb : Ok64 b) :
    Calls Try.prog 52 #[.int .i64 a, .int .i64 b] w fun e w' => e = .returned (.tuple #[.int .i64 (fitV (gcdZ a b)), .int .i64 (fitE (gcdZ a b))]) ∧ ∃ n, w' = w.drewN n := by
  have hxa : (a.natAbs : Int) ≤ 18446744073709551615 := by have := ha.1; have := ha.2; omega
  have hxb : (b.natAbs : Int) ≤ 18446744073709551615 := by have := hb.1; have := hb.2; omega
  go_enter Try.func52, Try.ntmps52
  go_wp2_with (go_at_call 76; refine (size_any _ _ (by assumption)).mono ?_; rintro e w' ⟨rfl, rfl⟩)
  go_loopw [6, 7] (fun x y wr => ∃ (p q : Nat), x = .int .u64 p ∧ y = .int .u64 q ∧ (p : Int) ≤ 18446744073709551615 ∧ (q : Int) ≤ 18446744073709551615 ∧ Nat.gcd p q = Nat.gcd a.natAbs b.natAbs ∧ ∃ n, wr = w.drewN n) (fun _ y _ => (intOf y).toNat)
  case atStart => exact ⟨_, _, rfl, rfl, hxa, hxb, rfl, 0, rfl⟩
  case round =>
    obtain ⟨p, q, rfl, rfl, hp, hq, hg, n, rfl⟩ := hrel
    have HG := Lib.hid hg; clear hg
    by_cases h0 : 0 < q
    · have h0' : (q : Int) ≠ 0 := by omega
      go_wp2
      go_quiet (fail)
      go_wp2
      go_roundw
      case rel => exact ⟨q, p % q, rfl, by go_num, hq, by have := Nat.mod_lt p h0; omega, by rw [← gcd_step, HG.out], _, World.drewN_drewN _ _ _⟩
      case measure => have := Nat.mod_lt p h0; simp [intOf]; omega
    · obtain rfl : q = 0 := by omega
      have hz : gcdZ a b = p := by unfold gcdZ; rw [← HG.out]; simp
      by_cases hb : p ≤ 9223372036854775807
      · have HZ : Hid (Ok64 (gcdZ a b) ∧ gcdZ a b = p) := ⟨by unfold Ok64; omega, hz⟩
        clear hz
        go_wp2
        go_ret2
        exact ⟨ret2 (by rw [fitV_yes HZ.out.1, HZ.out.2]) (fitE_yes HZ.out.1).symm, _, rfl⟩
      · have HZ : Hid (¬ Ok64 (gcdZ a b)) := by show ¬ _; unfold Ok64; omega
        clear hz
        go_wp2
        go_ret2
        exact ⟨ret2 (fitV_no HZ.out).symm (fitE_no HZ.out).symm, _, rfl⟩
end Go.Proofs.Ytfbodloidogliaa
