/-
  Walks of package harm and of copseref05: the average of a number of points.
-/
import Derived.Test.YtopodhcgfmpphaaNumA
import Derived.Deep.DeepCutAuto
import Derived.Deep.CutBlock
namespace Go.Proofs.Ytopodhcgfmpphaa
open Go.RowKit

def lowN : Nat → Nat
  | 0 => 0
  | k + 1 => lowN k + 1073741824 / (k + 1)

def brokN : Nat → Nat
  | 0 => 0
  | k + 1 => brokN k + if 1073741824 % (k + 1) = 0 then 0 else 1

def heldN (n : Int) : Nat := (clampI n 0 256).toNat

theorem heldN_le (n : Int) : heldN n ≤ 256 := by unfold heldN clampI; repeat' split <;> omega
theorem heldN_is (n : Int) : clampI n 0 256 = (heldN n : Int) := by unfold heldN clampI; repeat' split <;> omega

theorem lowN_le : ∀ k, lowN k ≤ k * 1073741824 := by
  intro k
  induction k with
  | zero => simp [lowN]
  | succ k ih => rw [lowN, Nat.add_mul]; have := Nat.div_le_self 1073741824 (k + 1); omega

theorem brokN_le : ∀ k, brokN k ≤ k := by
  intro k
  induction k with
  | zero => simp [brokN]
  | succ k ih => rw [brokN]; split <;> omega

theorem up_is {s k : Nat} (hk : 0 < k) : (s + k - 1) / k = s / k + if s % k = 0 then 0 else 1 := by
  have h1 := Nat.div_add_mod s k
  have h2 := Nat.mod_lt s hk
  obtain ⟨q, hq⟩ : ∃ q, s / k = q := ⟨_, rfl⟩
  obtain ⟨r, hr⟩ : ∃ r, s % k = r := ⟨_, rfl⟩
  rw [hq, hr, Nat.mul_comm] at h1
  rw [hr] at h2
  rw [hq, hr]
  have e1 : (q + 1) * k = q * k + k := Nat.succ_mul q k
  have e2 : (q + 1 + 1) * k = q * k + k + k := by rw [Nat.succ_mul, e1]
  split
  · rw [Nat.add_zero]
    exact Nat.div_eq_of_lt_le (by omega) (by rw [e1]; omega)
  · exact Nat.div_eq_of_lt_le (by rw [e1]; omega) (by rw [e2]; omega)

theorem ceil_is (j : Nat) : (1073741824 + (j + 1) - 1) / (j + 1) = 1073741824 / (j + 1) + if 1073741824 % (j + 1) = 0 then 0 else 1 := up_is (by omega)

theorem held_any (n : Int) (w : World) : Calls Try.prog 156 #[.int .i64 n] w fun e w' => e = .returned (.int .i64 (heldN n)) ∧ w = w' := by
  have hc := fun W => clamp_any n 0 256 W
  rw [heldN_is] at hc
  have HC := Lib.hid hc
  clear hc
  go_enter Try.func156, Try.ntmps156
  go_wp2_with fail
  refine (HC.out _).mono ?_
  rintro e w1 ⟨rfl, rfl⟩
  go_wp2
  go_ret
  exact ⟨rfl, rfl⟩

set_option maxRecDepth 100000 in
set_option maxHeartbeats 1000000 in
theorem both_any' (n : Int) (w : World) : Calls Try.prog 157 #[.int .i64 n] w fun e w' => e = .returned (.tuple #[.int .i64 (lowN (heldN n)), .int .i64 (brokN (heldN n))]) ∧ w = w' := by
  have hc := fun W => held_any n W
  have hK := heldN_le n
  obtain ⟨K, hk⟩ : ∃ K, heldN n = K := ⟨_, rfl⟩
  rw [hk] at hc hK ⊢
  have HC := Lib.hid hc
  clear hc hk
  go_enter Try.func157, Try.ntmps157
  go_wp2_with fail
  refine (HC.out _).mono ?_
  rintro e w1 ⟨rfl, rfl⟩
  go_wp2_with fail
  go_loopw [2, 3, 4, 7] (fun a b _ i wr => ∃ k : Nat, i = .int .i64 k ∧ k ≤ K ∧ a = .int .i64 (lowN k) ∧ b = .int .i64 (brokN k) ∧ w = wr) (fun _ _ _ i _ => K - (intOf i).toNat)
  case atStart => exact ⟨0, rfl, by omega, rfl, rfl, rfl⟩
  case round =>
    obtain ⟨k, rfl, hk, rfl, rfl, rfl⟩ := hrel
    by_cases hlt : k < K
    · have h1 := lowN_le k
      have h2 := brokN_le k
      have h3 : (k : Int) < K := by omega
      have h4 := Nat.div_le_self 1073741824 (k + 1)
      have e1 : lowN (k + 1) = lowN k + 1073741824 / (k + 1) := rfl
      have e2 : brokN (k + 1) = brokN k + if 1073741824 % (k + 1) = 0 then 0 else 1 := rfl
      obtain ⟨L, hL⟩ : ∃ L, lowN k = L := ⟨_, rfl⟩
      obtain ⟨B, hB⟩ : ∃ B, brokN k = B := ⟨_, rfl⟩
      obtain ⟨q, hq⟩ : ∃ q, 1073741824 / (k + 1) = q := ⟨_, rfl⟩
      obtain ⟨r, hr⟩ : ∃ r, 1073741824 % (k + 1) = r := ⟨_, rfl⟩
      have hquo : Int.tdiv 1073741824 ((k : Int) + 1) = q := by rw [← hq]; rfl
      have hrem : Int.tmod 1073741824 ((k : Int) + 1) = r := by rw [← hr]; rfl
      rw [hL] at h1 e1 ⊢
      rw [hB] at h2 e2 ⊢
      rw [hq] at h4 e1
      rw [hr] at e2
      have HE1 := Lib.hid e1; have HE2 := Lib.hid e2
      have hk1 : (k : Int) + 1 ≠ 0 := by omega
      have hLb : (L : Int) ≤ 274877906944 := by have : k * 1073741824 ≤ 256 * 1073741824 := Nat.mul_le_mul_right _ (by omega); omega
      have hBb : (B : Int) ≤ 256 := by omega
      have hqb : (q : Int) ≤ 1073741824 := by omega
      clear e1 e2 hL hB hq hr h1 h2 h4
      by_cases hr0 : r = 0
      · subst hr0
        rw [Int.natCast_zero] at hrem
        go_wp2_with fail
        go_roundw
        case rel => exact ⟨k + 1, by go_num, by omega, by rw [HE1.out]; go_num, by rw [HE2.out]; go_num, trivial⟩
        case measure => simp [intOf] <;> omega
      · have hr1 : (0 : Int) < r := by omega
        go_wp2_with fail
        go_roundw
        case rel => exact ⟨k + 1, by go_num, by omega, by rw [HE1.out]; go_num, by rw [HE2.out, if_neg hr0]; go_num, trivial⟩
        case measure => simp [intOf] <;> omega
    · obtain rfl : k = K := by omega
      go_wp2_with fail
      exact bodyPost_ret (v := .tuple #[.int .i64 (lowN k), .int .i64 (brokN k)]) (by simp [results, Try.results157, go_sem]) rfl ⟨rfl, rfl⟩

/-- Both ends of an average of so many points. -/
def loN (k : Nat) : Int := if k < 2 then 0 else 2 * (lowN (k - 1) : Int) - ((2147483648 * (k - 1) + k - 1) / k : Nat)
def hiN (k : Nat) : Int := if k < 2 then 0 else 2 * ((lowN (k - 1) : Int) + brokN (k - 1)) - (2147483648 * (k - 1) / k : Nat)
def normI (n : Int) : Int := (loN (heldN n) + hiN (heldN n)) / 2

theorem share_le {k : Nat} (hk : 2 ≤ k) : 2147483648 * (k - 1) / k < 2147483648 ∧ (2147483648 * (k - 1) + k - 1) / k ≤ 2147483648 := by
  have h1 : 2147483648 * (k - 1) < 2147483648 * k := Nat.mul_lt_mul_of_pos_left (by omega) (by omega)
  have h2 : 2147483648 * (k - 1) / k < 2147483648 := Nat.div_lt_of_lt_mul (by rw [Nat.mul_comm k]; exact h1)
  refine ⟨h2, ?_⟩
  rw [up_is (by omega)]
  split <;> omega

theorem lowN_ge {k : Nat} (hk : 1 ≤ k) : 1073741824 ≤ lowN k := by
  induction k with
  | zero => omega
  | succ k ih =>
    rw [lowN]
    rcases Nat.eq_zero_or_pos k with rfl | h
    · decide
    · exact Nat.le_trans (ih h) (Nat.le_add_right _ _)

set_option maxRecDepth 100000 in
set_option maxHeartbeats 1000000 in
theorem ends_any' (k : Nat) (w : World) (hk : k ≤ 256) (K : Nat) (hK : K = k - 1) :
    Calls Try.prog 158 #[.int .i64 k, .int .i64 (lowN K), .int .i64 (brokN K)] w fun e w' => e = .returned (.tuple #[.int .i64 (loN k), .int .i64 (hiN k)]) ∧ ∃ d, w' = w.drewN d := by
  subst hK
  by_cases h2 : k < 2
  · rw [loN, hiN, if_pos h2, if_pos h2]
    have h3 : (k : Int) < 2 := by omega
    generalize lowN (k - 1) = L
    generalize brokN (k - 1) = B
    go_enter Try.func158, Try.ntmps158
    go_wp2_with fail
    exact bodyPost_ret (v := .tuple #[.int .i64 0, .int .i64 0]) (by simp [results, Try.results158, go_sem]) rfl ⟨rfl, 0, rfl⟩
  · have hl := lowN_le (k - 1)
    have hb := brokN_le (k - 1)
    have hs := share_le (k := k) (by omega)
    have hu := up_is (s := 2147483648 * (k - 1)) (k := k) (by omega)
    have e1 : loN k = 2 * (lowN (k - 1) : Int) - ((2147483648 * (k - 1) + k - 1) / k : Nat) := if_neg h2
    have e2 : hiN k = 2 * ((lowN (k - 1) : Int) + brokN (k - 1)) - (2147483648 * (k - 1) / k : Nat) := if_neg h2
    rw [hu] at e1 hs
    obtain ⟨L, hL⟩ : ∃ L, lowN (k - 1) = L := ⟨_, rfl⟩
    obtain ⟨B, hB⟩ : ∃ B, brokN (k - 1) = B := ⟨_, rfl⟩
    obtain ⟨q, hq⟩ : ∃ q, 2147483648 * (k - 1) / k = q := ⟨_, rfl⟩
    obtain ⟨r, hr⟩ : ∃ r, 2147483648 * (k - 1) % k = r := ⟨_, rfl⟩
    obtain ⟨S, hS⟩ : ∃ S, 2147483648 * (k - 1) = S := ⟨_, rfl⟩
    have hSb : (S : Int) ≤ 547608330240 := by omega
    have hSi : (2147483648 : Int) * ((k : Int) - 1) = S := by omega
    rw [hS] at hq hr
    have hquo : Int.tdiv (S : Int) (k : Int) = q := by rw [← hq]; rfl
    have hrem : Int.tmod (S : Int) (k : Int) = r := by rw [← hr]; rfl
    rw [hS, hq, hr] at hs
    rw [hL] at hl e1 e2 ⊢
    rw [hB] at hb e2 ⊢
    rw [hS, hq, hr] at e1
    rw [hS, hq] at e2
    rw [e1, e2]
    have hLb : (L : Int) ≤ 274877906944 := by have : (k - 1) * 1073741824 ≤ 256 * 1073741824 := Nat.mul_le_mul_right _ (by omega); omega
    have hBb : (B : Int) ≤ 256 := by omega
    have hqb : (q : Int) ≤ 2147483647 := by omega
    have hk2 : (2 : Int) ≤ k := by omega
    have hkb : (k : Int) ≤ 256 := by omega
    have hk0 : ¬ (k : Int) = 0 := by omega
    clear e1 e2 hL hB hq hr hS hl hb hs hu
    by_cases hr0 : r = 0
    · subst hr0
      rw [Int.natCast_zero] at hrem
      rw [if_pos rfl]
      clear h2 hk
      go_enter Try.func158, Try.ntmps158
      go_wp2_with fail
      go_quiet (fail)
      go_wp2_with fail
      exact bodyPost_ret (v := .tuple #[.int .i64 (2 * (L : Int) - (q : Nat)), .int .i64 (2 * ((L : Int) + B) - q)]) (by simp [results, Try.results158, go_sem]) rfl ⟨by rw [Nat.add_zero], _, rfl⟩
    · have hr1 : (0 : Int) < r := by omega
      rw [if_neg hr0]
      clear h2 hk
      go_enter Try.func158, Try.ntmps158
      go_wp2_with fail
      go_quiet (fail)
      go_wp2_with fail
      exact bodyPost_ret (v := .tuple #[.int .i64 (2 * (L : Int) - ((q : Int) + 1)), .int .i64 (2 * ((L : Int) + B) - q)]) (by simp [results, Try.results158, go_sem]) rfl ⟨by rw [Int.natCast_add]; rfl, _, rfl⟩

theorem hends_any (n : Int) (w : World) : Calls Try.prog 148 #[.int .i64 n] w fun e w' => e = .returned (.tuple #[.int .i64 (loN (heldN n)), .int .i64 (hiN (heldN n))]) ∧ ∃ d, w' = w.drewN d := by
  have h1 := fun W => held_any n W
  have hK := heldN_le n
  obtain ⟨K, hk⟩ : ∃ K, heldN n = K := ⟨_, rfl⟩
  rw [hk] at h1 hK ⊢
  have h2 := fun W => both_any' ((K : Int) - 1) W
  have e : heldN ((K : Int) - 1) = K - 1 := by unfold heldN clampI; repeat' split <;> omega
  rw [e] at h2
  have h3 := fun W => ends_any' K W hK (K - 1) rfl
  have H1 := Lib.hid h1; have H2 := Lib.hid h2; have H3 := Lib.hid h3
  have hKb : (K : Int) ≤ 256 := by omega
  generalize lowN (K - 1) = L at *
  generalize brokN (K - 1) = B at *
  generalize loN K = lo at *
  generalize hiN K = hi at *
  clear h1 h2 h3 hk e hK
  go_enter Try.func148, Try.ntmps148
  go_wp2_with fail
  refine (H1.out _).mono ?_
  rintro e w1 ⟨rfl, rfl⟩
  go_wp2_with fail
  refine (H2.out _).mono ?_
  rintro e w1 ⟨rfl, rfl⟩
  go_wp2_with fail
  refine (H3.out _).mono ?_
  rintro e w1 ⟨rfl, d, rfl⟩
  go_wp2_with fail
  exact bodyPost_ret (v := .tuple #[.int .i64 lo, .int .i64 hi]) (by simp [results, Try.results148, go_sem]) rfl ⟨rfl, _, rfl⟩

theorem norm_bd (n : Int) : 0 ≤ loN (heldN n) + hiN (heldN n) ∧ loN (heldN n) + hiN (heldN n) ≤ 1099511627776 ∧ -4294967296 ≤ loN (heldN n) ∧ loN (heldN n) ≤ 1099511627776 ∧ -4294967296 ≤ hiN (heldN n) ∧ hiN (heldN n) ≤ 1099511627776 := by
  have hK := heldN_le n
  generalize heldN n = k at *
  unfold loN hiN
  by_cases h : k < 2
  · rw [if_pos h, if_pos h]; decide
  · rw [if_neg h, if_neg h]
    have h1 := lowN_ge (k := k - 1) (by omega)
    have h2 := share_le (k := k) (by omega)
    have h3 := lowN_le (k - 1)
    have h4 := brokN_le (k - 1)
    have h5 : (k - 1) * 1073741824 ≤ 255 * 1073741824 := Nat.mul_le_mul_right _ (by omega)
    generalize 2147483648 * (k - 1) / k = a at *
    generalize (2147483648 * (k - 1) + k - 1) / k = b at *
    generalize lowN (k - 1) = c at *
    generalize brokN (k - 1) = d at *
    omega

theorem norm_any (n : Int) (w : World) : Calls Try.prog 139 #[.int .i64 n] w fun e w' => e = .returned (.int .i64 (normI n)) ∧ ∃ d, w' = w.drewN d := by
  have h1 := fun W => hends_any n W
  have hb := norm_bd n
  have e : normI n = (loN (heldN n) + hiN (heldN n)) / 2 := rfl
  rw [e]
  generalize loN (heldN n) = lo at *
  generalize hiN (heldN n) = hi at *
  obtain ⟨b1, b2, b3, b4, b5, b6⟩ := hb
  have H1 := Lib.hid h1
  clear h1 e
  go_enter Try.func139, Try.ntmps139
  go_wp2_with fail
  refine (H1.out _).mono ?_
  rintro e w1 ⟨rfl, d, rfl⟩
  go_wp2_with fail
  go_ret
  exact ⟨rfl, _, rfl⟩
end Go.Proofs.Ytopodhcgfmpphaa
