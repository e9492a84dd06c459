/-
  Walk of copseref01.Log.
-/
import Derived.Test.YtopodhcgfmpphaaNumA
import Derived.Lib.ItoaNum
namespace Go.Proofs.Ytopodhcgfmpphaa
open Go.RowKit

theorem bitLen_is {m k : Nat} (h : m < 2 ^ k) (h' : k = 0 ∨ 2 ^ (k - 1) ≤ m) (hm : m < 2 ^ 64) : Lib.bitLen m = k := by
  rcases Nat.eq_zero_or_pos m with h0 | h0
  · subst h0
    have : Lib.bitLen 0 = 0 := Lib.bitLenAux_zero 64
    rcases h' with h' | h'
    · omega
    · have := Nat.two_pow_pos (k - 1); omega
  · obtain ⟨h1, h2, h3⟩ := Lib.bitLenAux_bounds 64 m hm (by omega)
    show Lib.bitLenAux 64 m = k
    generalize Lib.bitLenAux 64 m = j at *
    rcases h' with h' | h'
    · subst h'; omega
    · rcases Nat.lt_trichotomy j k with h4 | h4 | h4
      · have := Nat.pow_le_pow_right (show 0 < 2 by omega) (show j ≤ k - 1 by omega); omega
      · exact h4
      · have := Nat.pow_le_pow_right (show 0 < 2 by omega) (show k ≤ j - 1 by omega); omega

set_option maxRecDepth 100000 in
set_option maxHeartbeats 800000 in
theorem rlog_any (n : Int) (w : World) (hn : Ok64 n) :
    Calls Try.prog 71 #[.int .i64 n] w fun e w' => e = .returned (.int .i64 (Lib.bitLen (n.toNat - 1))) ∧ w = w' := by
  have HN := Lib.hid hn
  unfold Ok64 at hn
  go_enter Try.func71, Try.ntmps71
  go_wp2
  go_loop [3, 4] (fun k p => ∃ (j q : Nat), k = .int .i64 j ∧ p = .int .i64 q ∧ q = 2 ^ j ∧ q ≤ 4611686018427387904 ∧ j ≤ 62 ∧ (j = 0 ∨ 2 ^ (j - 1) ≤ n.toNat - 1)) (fun k _ => 63 - (intOf k).toNat)
  case atStart => exact ⟨0, 1, rfl, rfl, rfl, by omega, by omega, .inl rfl⟩
  case round =>
    obtain ⟨j, q, rfl, rfl, hq, hq2, hj, hlow⟩ := hrel
    have HQ := Lib.hid hq; clear hq
    have HLOW := Lib.hid hlow; clear hlow
    by_cases hlt : (q : Int) < n
    · by_cases h62 : j = 62
      · subst h62
        have hq3 : (q : Int) = 4611686018427387904 := by have := HQ.out; omega
        have hneg : wrap64 ((q : Int) * 2) < 0 := by rw [hq3]; unfold wrap64; omega
        have HQ3 := Lib.hid hq3; clear hq3
        go_wp2
        go_ret
        refine ⟨ret_int ?_, rfl⟩
        rw [bitLen_is (k := 63) (m := n.toNat - 1) (by omega) (.inr (by have := HQ3.out; show 2 ^ 62 ≤ _; omega)) (by omega)]
        rfl
      · have hq4 : (q : Int) ≤ 2305843009213693952 := by
          have : 2 ^ j ≤ 2 ^ 61 := Nat.pow_le_pow_right (by omega) (by omega)
          rw [← HQ.out] at this; omega
        go_wp2
        go_round
        case rel => exact ⟨j + 1, q * 2, by go_num, by go_num, by rw [HQ.out, Nat.pow_succ], by omega, by omega, .inr (by rw [Nat.add_sub_cancel, ← HQ.out]; omega)⟩
        case measure => simp [intOf]; omega
    · go_wp2
      go_ret
      refine ⟨ret_int ?_, rfl⟩
      rw [bitLen_is (k := j) (m := n.toNat - 1) (by rw [← HQ.out]; have := Nat.two_pow_pos j; have := HQ.out; omega) HLOW.out (by omega)]
end Go.Proofs.Ytopodhcgfmpphaa
