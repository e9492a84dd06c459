/-
  Walks of copseref01: quotients, the greatest divisor, doublings.
-/
import Derived.Test.YtoljilbldkbjpaaRefCalc
import Derived.Lib.ItoaNum
namespace Go.Proofs.Ytoljilbldkbjpaa
open Go.RowKit

theorem gcdZ_step (x y : Int) : gcdZ x y = gcdZ y (x.tmod y) := by
  unfold gcdZ
  rw [Int.natAbs_tmod, gcd_step]

set_option maxHeartbeats 800000 in
theorem rgcd_any (a b : Int) (w : World) (ha : Ok64 a) (hb : Ok64 b) :
    Calls Try.prog 59 #[.int .i64 a, .int .i64 b] w fun e w' => e = .returned (.tuple #[.int .i64 (fitV (gcdZ a b)), .int .i64 (fitE (gcdZ a b))]) ∧ Below w.heap.size w w' := by
  go_enter Try.func59, Try.ntmps59
  go_wp2
  go_loopw [6, 7] (fun x y wr => ∃ (p q : Int), x = .int .i64 p ∧ y = .int .i64 q ∧ Ok64 p ∧ Ok64 q ∧ gcdZ p q = gcdZ a b ∧ ∃ n, wr = w.drewN n) (fun _ y _ => (intOf y).natAbs)
  case atStart => exact ⟨_, _, rfl, rfl, ha, hb, rfl, 0, rfl⟩
  case round =>
    obtain ⟨p, q, rfl, rfl, hp, hq, hg, n, rfl⟩ := hrel
    have HG := Lib.hid hg; clear hg
    have HP := Lib.hid hp
    have HQ := Lib.hid hq
    unfold Ok64 at hp hq
    by_cases h0 : q = 0
    · subst h0
      have hz : gcdZ a b = p.natAbs := by rw [← HG.out]; simp [gcdZ]
      have HZ := Lib.hid hz; clear hz
      by_cases hn : p < 0
      · have hs : ∀ W : World, Calls Try.prog 79 #[.int .i64 0, .int .i64 p] W fun e w' => FitB W e w' (gcdZ a b) := fun W => by
          have := rsub_any 0 p W (by unfold Ok64; omega) HP.out
          rwa [show 0 - p = gcdZ a b by rw [HZ.out]; omega] at this
        have HS := Lib.hid hs; clear hs
        go_wp2_with (go_at_call 79; refine (HS.out _).mono ?_; rintro e w1 ⟨rfl, hbw⟩)
        go_ret2
        exact ⟨rfl, (below_drewN (Below.refl _ _) n).trans hbw⟩
      · have hok : Ok64 (gcdZ a b) := by rw [HZ.out]; unfold Ok64; omega
        have HOK := Lib.hid hok; clear hok
        go_wp2
        go_ret2
        exact ⟨ret2 (by rw [fitV_yes HOK.out, HZ.out]; omega) (fitE_yes HOK.out).symm, by (repeat (first | with_reducible exact Below.refl _ _ | ((with_reducible refine Below.setCell ?_ ?_ _); rotate_left; (focus (first | omega | (simp; done) | (simp; omega)))) | ((with_reducible refine Below.alloc ?_ ?_ _); rotate_left; (focus (first | omega | (simp; done) | (simp; omega)))) | (with_reducible refine Below.drew ?_) | (with_reducible refine below_drewN ?_ _)))⟩
    · have hnb : (q != 0) = true := by simp [h0]
      by_cases h1 : q = -1
      · subst h1
        have hz : gcdZ a b = 1 := by rw [← HG.out]; simp [gcdZ]
        have hok : Ok64 (gcdZ a b) := by rw [hz]; unfold Ok64; omega
        have HZ := Lib.hid hz; clear hz
        have HOK := Lib.hid hok; clear hok
        go_wp2
        go_ret2
        exact ⟨ret2 (by rw [fitV_yes HOK.out, HZ.out]) (fitE_yes HOK.out).symm, by (repeat (first | with_reducible exact Below.refl _ _ | ((with_reducible refine Below.setCell ?_ ?_ _); rotate_left; (focus (first | omega | (simp; done) | (simp; omega)))) | ((with_reducible refine Below.alloc ?_ ?_ _); rotate_left; (focus (first | omega | (simp; done) | (simp; omega)))) | (with_reducible refine Below.drew ?_) | (with_reducible refine below_drewN ?_ _)))⟩
      · have hqb : (q == -1) = false := by simp [h1]
        have k2 := tmod_bd (a := p) h0
        have K2 := Lib.hid k2
        have hok : Ok64 (p.tmod q) := by unfold Ok64; omega
        have HOK := Lib.hid hok; clear hok
        go_wp2
        go_quiet (fail)
        go_wp2
        go_roundw
        case rel => exact ⟨q, p.tmod q, rfl, rfl, HQ.out, HOK.out, by rw [← gcdZ_step, HG.out], _, World.drewN_drewN _ _ _⟩
        case measure => have := Nat.mod_lt p.natAbs (show 0 < q.natAbs by omega); simp [intOf, Int.natAbs_tmod]; omega

theorem bitLen_is {m k : Nat} (h : m < 2 ^ k) (h' : k = 0 ∨ 2 ^ (k - 1) ≤ m) (hm : m < 2 ^ 64) : Lib.bitLen m = k := by
  rcases Nat.eq_zero_or_pos m with h0 | h0
  · subst h0
    have : Lib.bitLen 0 = 0 := Lib.bitLenAux_zero 64
    rcases h' with h' | h'
    · omega
    · have := Nat.two_pow_pos (k - 1); omega
  · obtain ⟨h1, h2, h3⟩ := Lib.bitLenAux_bounds 64 m hm (by omega)
    show Lib.bitLenAux 64 m = k
    generalize Lib.bitLenAux 64 m = j at *
    rcases h' with h' | h'
    · subst h'; omega
    · rcases Nat.lt_trichotomy j k with h4 | h4 | h4
      · have := Nat.pow_le_pow_right (show 0 < 2 by omega) (show j ≤ k - 1 by omega); omega
      · exact h4
      · have := Nat.pow_le_pow_right (show 0 < 2 by omega) (show k ≤ j - 1 by omega); omega

end Go.Proofs.Ytoljilbldkbjpaa
