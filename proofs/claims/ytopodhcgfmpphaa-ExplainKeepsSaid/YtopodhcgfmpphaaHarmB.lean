/-
  Walks of copseref05: the average of a number of points.
-/
import Derived.Test.YtopodhcgfmpphaaHarmA
namespace Go.Proofs.Ytopodhcgfmpphaa
open Go.RowKit

theorem rheld_any (n : Int) (w : World) : Calls Try.prog 153 #[.int .i64 n] w fun e w' => e = .returned (.int .i64 (heldN n)) ∧ w = w' := by
  have e := heldN_is n
  unfold clampI at e
  by_cases h1 : n < 0
  · rw [if_pos h1] at e
    rw [← e]
    clear e
    go_enter Try.func153, Try.ntmps153
    go_wp2
    go_ret
    exact ⟨rfl, rfl⟩
  · rw [if_neg h1] at e
    by_cases h2 : 256 < n
    · rw [if_pos h2] at e
      rw [← e]
      clear e
      go_enter Try.func153, Try.ntmps153
      go_wp2
      go_ret
      exact ⟨rfl, rfl⟩
    · rw [if_neg h2] at e
      rw [← e]
      clear e
      go_enter Try.func153, Try.ntmps153
      go_wp2
      go_ret
      exact ⟨rfl, rfl⟩

set_option maxRecDepth 100000 in
set_option maxHeartbeats 1000000 in
theorem rlow_any (n : Int) (w : World) : Calls Try.prog 154 #[.int .i64 n] w fun e w' => e = .returned (.int .i64 (lowN (heldN n))) ∧ w = w' := by
  have hc := fun W => rheld_any n W
  have hK := heldN_le n
  obtain ⟨K, hk⟩ : ∃ K, heldN n = K := ⟨_, rfl⟩
  rw [hk] at hc hK ⊢
  have HC := Lib.hid hc
  clear hc hk
  go_enter Try.func154, Try.ntmps154
  go_wp2_with fail
  go_loopw [3, 4] (fun a i wr => ∃ k : Nat, i = .int .i64 ((k : Int) + 1) ∧ k ≤ K ∧ a = .int .i64 (lowN k) ∧ w = wr) (fun _ i _ => K + 1 - (intOf i).toNat)
  case atStart => exact ⟨0, rfl, by omega, rfl, rfl⟩
  case round =>
    obtain ⟨k, rfl, hk, rfl, rfl⟩ := hrel
    by_cases hlt : k < K
    · have h1 := lowN_le k
      have h3 : (k : Int) + 1 ≤ K := by omega
      have h4 := Nat.div_le_self 1073741824 (k + 1)
      have e1 : lowN (k + 1) = lowN k + 1073741824 / (k + 1) := rfl
      obtain ⟨L, hL⟩ : ∃ L, lowN k = L := ⟨_, rfl⟩
      obtain ⟨q, hq⟩ : ∃ q, 1073741824 / (k + 1) = q := ⟨_, rfl⟩
      have hquo : Int.tdiv 1073741824 ((k : Int) + 1) = q := by rw [← hq]; rfl
      rw [hL] at h1 e1 ⊢
      rw [hq] at h4 e1
      have HE1 := Lib.hid e1
      have hk1 : ¬ (k : Int) + 1 = 0 := by omega
      have hkb : (k : Int) ≤ 256 := by omega
      have hLb : (L : Int) ≤ 274877906944 := by have : k * 1073741824 ≤ 256 * 1073741824 := Nat.mul_le_mul_right _ (by omega); omega
      have hqb : (q : Int) ≤ 1073741824 := by omega
      clear e1 hL hq h1 h4
      go_wp2_with fail
      refine (HC.out _).mono ?_
      rintro e w1 ⟨rfl, rfl⟩
      go_wp2_with fail
      go_roundw
      case rel => exact ⟨k + 1, by go_num, by omega, by rw [HE1.out]; go_num, trivial⟩
      case measure => simp [intOf] <;> omega
    · obtain rfl : k = K := by omega
      have h3 : ¬ (k : Int) + 1 ≤ k := by omega
      have hkb : (k : Int) ≤ 256 := by omega
      go_wp2_with fail
      refine (HC.out _).mono ?_
      rintro e w1 ⟨rfl, rfl⟩
      go_wp2_with fail
      go_ret
      exact ⟨rfl, rfl⟩

set_option maxRecDepth 100000 in
set_option maxHeartbeats 1000000 in
theorem rhigh_any (n : Int) (w : World) : Calls Try.prog 155 #[.int .i64 n] w fun e w' => e = .returned (.int .i64 ((lowN (heldN n) + brokN (heldN n) : Nat))) ∧ w = w' := by
  have hc := fun W => rheld_any n W
  have hK := heldN_le n
  obtain ⟨K, hk⟩ : ∃ K, heldN n = K := ⟨_, rfl⟩
  rw [hk] at hc hK ⊢
  have HC := Lib.hid hc
  clear hc hk
  go_enter Try.func155, Try.ntmps155
  go_wp2_with fail
  go_loopw [3, 4] (fun a i wr => ∃ k : Nat, i = .int .i64 ((k : Int) + 1) ∧ k ≤ K ∧ a = .int .i64 ((lowN k + brokN k : Nat) : Int) ∧ w = wr) (fun _ i _ => K + 1 - (intOf i).toNat)
  case atStart => exact ⟨0, rfl, by omega, rfl, rfl⟩
  case round =>
    obtain ⟨k, rfl, hk, rfl, rfl⟩ := hrel
    by_cases hlt : k < K
    · have h1 := lowN_le k
      have h2 := brokN_le k
      have h3 : (k : Int) + 1 ≤ K := by omega
      have h4 := ceil_is k
      have h5 := Nat.div_le_self 1073741824 (k + 1)
      have e1 : lowN (k + 1) + brokN (k + 1) = lowN k + brokN k + (1073741824 + (k + 1) - 1) / (k + 1) := by
        rw [h4, lowN, brokN]; omega
      obtain ⟨L, hL⟩ : ∃ L, lowN k + brokN k = L := ⟨_, rfl⟩
      obtain ⟨q, hq⟩ : ∃ q, (1073741824 + (k + 1) - 1) / (k + 1) = q := ⟨_, rfl⟩
      have hquo : Int.tdiv (1073741824 + ((k : Int) + 1) - 1) ((k : Int) + 1) = q := by
        rw [← hq, show (1073741824 : Int) + ((k : Int) + 1) - 1 = ((1073741824 + (k + 1) - 1 : Nat) : Int) by omega]; rfl
      have hqb : (q : Int) ≤ 1073741825 := by rw [hq] at h4; split at h4 <;> omega
      rw [hL] at e1 ⊢
      rw [hq] at e1
      have HE1 := Lib.hid e1
      have hk1 : ¬ (k : Int) + 1 = 0 := by omega
      have hkb : (k : Int) ≤ 256 := by omega
      have hLb : (L : Int) ≤ 374877906944 := by have : k * 1073741824 ≤ 256 * 1073741824 := Nat.mul_le_mul_right _ (by omega); omega
      clear e1 hL hq h1 h2 h4 h5
      go_wp2_with fail
      refine (HC.out _).mono ?_
      rintro e w1 ⟨rfl, rfl⟩
      go_wp2_with fail
      go_roundw
      case rel => exact ⟨k + 1, by go_num, by omega, by rw [HE1.out]; go_num, trivial⟩
      case measure => simp [intOf] <;> omega
    · obtain rfl : k = K := by omega
      have h3 : ¬ (k : Int) + 1 ≤ k := by omega
      have hkb : (k : Int) ≤ 256 := by omega
      go_wp2_with fail
      refine (HC.out _).mono ?_
      rintro e w1 ⟨rfl, rfl⟩
      go_wp2_with fail
      go_ret
      exact ⟨rfl, rfl⟩

set_option maxRecDepth 100000 in
set_option maxHeartbeats 1000000 in
theorem rends_any (n : Int) (w : World) : Calls Try.prog 145 #[.int .i64 n] w fun e w' => e = .returned (.tuple #[.int .i64 (loN (heldN n)), .int .i64 (hiN (heldN n))]) ∧ ∃ d, w' = w.drewN d := by
  have h1 := fun W => rheld_any n W
  have hK := heldN_le n
  obtain ⟨k, hk⟩ : ∃ K, heldN n = K := ⟨_, rfl⟩
  rw [hk] at h1 hK ⊢
  have e : heldN ((k : Int) - 1) = k - 1 := by unfold heldN clampI; repeat' split <;> omega
  have H1 := Lib.hid h1
  clear h1 hk
  by_cases h2 : k < 2
  · rw [loN, hiN, if_pos h2, if_pos h2]
    have h3 : (k : Int) < 2 := by omega
    clear e
    go_enter Try.func145, Try.ntmps145
    go_wp2_with fail
    refine (H1.out _).mono ?_
    rintro e w1 ⟨rfl, rfl⟩
    go_wp2_with fail
    exact bodyPost_ret (v := .tuple #[.int .i64 0, .int .i64 0]) (by simp [results, Try.results145, go_sem]) rfl ⟨rfl, 0, rfl⟩
  · have hl := fun W => rlow_any ((k : Int) - 1) W
    have hh := fun W => rhigh_any ((k : Int) - 1) W
    rw [e] at hl hh
    have hl1 := lowN_le (k - 1)
    have hb := brokN_le (k - 1)
    have hs := share_le (k := k) (by omega)
    have e1 : loN k = 2 * (lowN (k - 1) : Int) - ((2147483648 * (k - 1) + k - 1) / k : Nat) := if_neg h2
    have e2 : hiN k = 2 * ((lowN (k - 1) : Int) + brokN (k - 1)) - (2147483648 * (k - 1) / k : Nat) := if_neg h2
    rw [show 2 * ((lowN (k - 1) : Int) + brokN (k - 1)) = 2 * ((lowN (k - 1) + brokN (k - 1) : Nat) : Int) by omega] at e2
    obtain ⟨L, hL⟩ : ∃ L, lowN (k - 1) = L := ⟨_, rfl⟩
    obtain ⟨B, hB⟩ : ∃ B, lowN (k - 1) + brokN (k - 1) = B := ⟨_, rfl⟩
    obtain ⟨q, hq⟩ : ∃ q, 2147483648 * (k - 1) / k = q := ⟨_, rfl⟩
    obtain ⟨u, hu⟩ : ∃ u, (2147483648 * (k - 1) + k - 1) / k = u := ⟨_, rfl⟩
    obtain ⟨S, hS⟩ : ∃ S, 2147483648 * (k - 1) = S := ⟨_, rfl⟩
    have hSb : (S : Int) ≤ 547608330240 := by omega
    have hSi : (2147483648 : Int) * ((k : Int) - 1) = S := by omega
    rw [hq, hu] at hs
    rw [hS] at hq hu
    have hquo : Int.tdiv (S : Int) (k : Int) = q := by rw [← hq]; rfl
    have hquo2 : Int.tdiv ((S : Int) + k - 1) (k : Int) = u := by
      rw [← hu, show (S : Int) + k - 1 = ((S + k - 1 : Nat) : Int) by omega]; rfl
    have hLb : (L : Int) ≤ 274877906944 := by have : (k - 1) * 1073741824 ≤ 256 * 1073741824 := Nat.mul_le_mul_right _ (by omega); omega
    have hBb : (B : Int) ≤ 374877906944 := by omega
    rw [hL] at hl e1
    rw [hB] at hh e2
    rw [hS, hu] at e1
    rw [hS, hq] at e2
    rw [e1, e2]
    have hqb : (q : Int) ≤ 2147483647 := by omega
    have hub : (u : Int) ≤ 2147483648 := by omega
    have hk2 : (2 : Int) ≤ k := by omega
    have hkb : (k : Int) ≤ 256 := by omega
    have hk0 : ¬ (k : Int) = 0 := by omega
    have HL := Lib.hid hl; have HH := Lib.hid hh
    clear e1 e2 hL hB hq hu hS hl1 hb hs hl hh h2 hK e
    go_enter Try.func145, Try.ntmps145
    go_wp2_with fail
    refine (H1.out _).mono ?_
    rintro e w1 ⟨rfl, rfl⟩
    go_wp2_with fail
    go_quiet ((first | (go_at_call 154; exact quiet_left (HL.out _)) | (go_at_call 155; exact quiet_left (HH.out _))))
    go_wp2_with fail
    exact bodyPost_ret (v := .tuple #[.int .i64 (2 * (L : Int) - u), .int .i64 (2 * (B : Int) - q)]) (by simp [results, Try.results145, go_sem]) rfl ⟨rfl, _, rfl⟩

theorem rnorm_any (n : Int) (w : World) : Calls Try.prog 125 #[.int .i64 n] w fun e w' => e = .returned (.int .i64 (normI n)) ∧ ∃ d, w' = w.drewN d := by
  have h1 := fun W => rends_any n W
  have hb := norm_bd n
  have e : normI n = (loN (heldN n) + hiN (heldN n)) / 2 := rfl
  rw [e]
  generalize loN (heldN n) = lo at *
  generalize hiN (heldN n) = hi at *
  obtain ⟨b1, b2, b3, b4, b5, b6⟩ := hb
  have H1 := Lib.hid h1
  clear h1 e
  go_enter Try.func125, Try.ntmps125
  go_wp2_with fail
  refine (H1.out _).mono ?_
  rintro e w1 ⟨rfl, d, rfl⟩
  go_wp2_with fail
  go_ret
  exact ⟨rfl, _, rfl⟩
end Go.Proofs.Ytopodhcgfmpphaa
