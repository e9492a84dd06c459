/-
  Walks of copseref01: quotients, the greatest divisor, doublings.
-/
import Derived.Test.YtfbodloidogliaaRefCalc
import Derived.Lib.ItoaNum
namespace Go.Proofs.Ytfbodloidogliaa
open Go.RowKit

set_option maxHeartbeats 800000 in
theorem rdiv_any (a b : Int) (w : World) (ha : Ok64 a) (hb : Ok64 b) :
    Calls Try.prog 24 #[.int .i64 a, .int .i64 b] w fun e w' => e = .returned (.tuple #[.int .i64 (divQ a b), .int .i64 (divR a b), .int .i64 (divE a b)]) ∧ Below w.heap.size w w' := by
  by_cases h0 : b = 0
  · subst h0
    go_enter Try.func24, Try.ntmps24
    go_wp2
    go_ret3
    exact ⟨ret3 (by simp [divQ]) (by simp [divR]) (by simp [divE]), Below.refl _ _⟩
  · have b0 : (b == 0) = false := by simp [h0]
    by_cases h1 : b = -1
    · subst h1
      have hs : ∀ W : World, Calls Try.prog 48 #[.int .i64 0, .int .i64 a] W fun e w' => FitB W e w' (-a) := fun W => by
        have := rsub_any 0 a W (by unfold Ok64; omega) ha
        rwa [Int.zero_sub] at this
      have HS := Lib.hid hs; clear hs
      have hq : divQ a (-1) = fitV (-a) ∧ divR a (-1) = 0 ∧ divE a (-1) = fitE (-a) := by
        have e1 : a / (-1) = -a := by omega
        have e2 : a % (-1) = 0 := by have := Int.emod_nonneg a (show (-1 : Int) ≠ 0 by omega); have := Int.emod_lt a (show (-1 : Int) ≠ 0 by omega); omega
        unfold Ok64 at ha
        by_cases hl : a = least64
        · subst hl; decide
        · have ok : Ok64 (-a) := by unfold least64 at hl; unfold Ok64; omega
          rw [fitV_yes ok, fitE_yes ok]
          unfold divQ divR divE
          refine ⟨?_, ?_, ?_⟩
          · rw [if_neg (by simp [hl])]; exact e1
          · rw [if_neg (by simp [hl])]; exact e2
          · rw [if_neg (by simp), if_neg (by simp [hl])]
      have HQ := Lib.hid hq; clear hq
      go_enter Try.func24, Try.ntmps24
      go_wp2_with (go_at_call 48; refine (HS.out _).mono ?_; rintro e w1 ⟨rfl, hbw⟩)
      go_ret3
      exact ⟨ret3 HQ.out.1.symm HQ.out.2.1.symm HQ.out.2.2.symm, hbw⟩
    · have b1 : (b == -1) = false := by simp [h1]
      have hl : ¬ (a = least64 ∧ b = -1) := fun h => h1 h.2
      obtain ⟨t1, t2, t3⟩ := div_tell a b h0
      have q1 : divQ a b = a / b := if_neg (by rintro (h | h); exact h0 h; exact hl h)
      have q2 : divR a b = a % b := if_neg (by rintro (h | h); exact h0 h; exact hl h)
      have q3 : divE a b = 0 := by unfold divE; rw [if_neg h0, if_neg hl]
      have k1 := tdiv_ok ha h0 hl
      have k2 := tmod_bd (a := a) h0
      have k3 := ediv_ok ha h0 hl
      unfold Ok64 at ha hb k1 k3
      have Q1 := Lib.hid q1
      have Q2 := Lib.hid q2
      have Q3 := Lib.hid q3
      have HL := Lib.hid hl
      have H0 := Lib.hid h0
      have T1 := Lib.hid t1
      have T2 := Lib.hid t2
      have T3 := Lib.hid t3
      have K2 := Lib.hid k2
      have K3 := Lib.hid k3
      clear q1 q2 q3 hl t1 t2 t3 k2 k3
      go_enter Try.func24, Try.ntmps24
      go_wp2
      go_quiet (fail)
      go_wp2
      all_goals go_ret3
      all_goals have k2 := K2.out
      all_goals have k3 := K3.out
      all_goals have h0 := H0.out
      all_goals first
        | (have h1 : 0 ≤ a.tmod b := by assumption
           obtain ⟨e1, e2⟩ := T1.out h1)
        | (have h1 : a.tmod b < 0 := by assumption
           have h2 : 0 < b := by assumption
           obtain ⟨e1, e2⟩ := T2.out h1 h2)
        | (have h1 : a.tmod b < 0 := by assumption
           have h2 : b ≤ 0 := by assumption
           obtain ⟨e1, e2⟩ := T3.out h1 (by omega))
      all_goals
        refine ⟨ret3 ?_ ?_ Q3.out.symm, by (repeat (first | exact Below.refl _ _ | refine Below.setCell ?_ (by simp <;> omega) _ | refine Below.alloc ?_ (by simp <;> omega) _ | refine Below.drew ?_ | refine below_drewN ?_ _))⟩
        · refine Eq.trans ?_ (Q1.out.trans e1).symm
          first
            | rfl
            | exact IntWalk.wrap64_in _ (by omega)
            | (rw [IntWalk.wrap64_in (a.tdiv b) (by omega)]; exact IntWalk.wrap64_in _ (by omega))
        · refine Eq.trans ?_ (Q2.out.trans e2).symm
          first
            | rfl
            | exact IntWalk.wrap64_in _ (by omega)


set_option maxHeartbeats 800000 in
theorem rceil_any (a b : Int) (w : World) (ha : Ok64 a) (hb : Ok64 b) :
    Calls Try.prog 51 #[.int .i64 a, .int .i64 b] w fun e w' => e = .returned (.tuple #[.int .i64 (ceilV a b), .int .i64 (ceilE b)]) ∧ Below w.heap.size w w' := by
  by_cases h1 : b < 1
  · go_enter Try.func51, Try.ntmps51
    go_wp2
    go_ret2
    exact ⟨ret2 (by rw [ceilV, if_pos h1]) (by rw [ceilE, if_pos h1]), Below.refl _ _⟩
  · have hd := fun W => rdiv_any a b W ha hb
    have q1 : divQ a b = a / b := if_neg (by omega)
    have q2 : divR a b = a % b := if_neg (by omega)
    have q3 : divE a b = 0 := by unfold divE; rw [if_neg (by omega), if_neg (by omega)]
    rw [q1, q2, q3] at hd
    have HD := Lib.hid hd; clear hd q1 q2 q3
    have k3 := ediv_ok (a := a) (b := b) ha (by omega) (by omega)
    have e2 : ceilE b = 0 := if_neg h1
    obtain ⟨q, hq⟩ : ∃ q, a / b = q := ⟨_, rfl⟩
    obtain ⟨r, hr⟩ : ∃ r, a % b = r := ⟨_, rfl⟩
    have hv : ceilV a b = if 0 < r then q + 1 else q := by unfold ceilV; rw [if_neg h1, hq, hr]
    have hlt : 0 < r → q < 9223372036854775807 := by
      intro h
      have := Int.emod_add_mul_ediv a b
      rw [hq, hr] at this
      unfold Ok64 at ha k3 hb
      rw [hq] at k3
      by_cases hq0 : q ≤ 0
      · omega
      · have h2 : 1 * q ≤ b * q := Int.mul_le_mul_of_nonneg_right (by omega) (by omega)
        omega
    rw [hq, hr] at HD
    rw [hq] at k3
    unfold Ok64 at k3
    have HV := Lib.hid hv
    have E2 := Lib.hid e2
    clear hq hr hv e2
    by_cases hs : 0 < r
    · have hlt2 := hlt hs
      clear hlt
      go_enter Try.func51, Try.ntmps51
      go_wp2_with (go_at_call 24; refine (HD.out _).mono ?_; rintro e w1 ⟨rfl, hbw⟩)
      go_ret2
      exact ⟨ret2 (by rw [HV.out, if_pos hs]) E2.out.symm, hbw⟩
    · clear hlt
      go_enter Try.func51, Try.ntmps51
      go_wp2_with (go_at_call 24; refine (HD.out _).mono ?_; rintro e w1 ⟨rfl, hbw⟩)
      go_ret2
      exact ⟨ret2 (by rw [HV.out, if_neg (by omega)]) E2.out.symm, hbw⟩

theorem gcdZ_step (x y : Int) : gcdZ x y = gcdZ y (x.tmod y) := by
  unfold gcdZ
  rw [Int.natAbs_tmod, gcd_step]

set_option maxHeartbeats 800000 in
theorem rgcd_any (a b : Int) (w : World) (ha : Ok64 a) (hb : Ok64 b) :
    Calls Try.prog 53 #[.int .i64 a, .int .i64 b] w fun e w' => e = .returned (.tuple #[.int .i64 (fitV (gcdZ a b)), .int .i64 (fitE (gcdZ a b))]) ∧ Below w.heap.size w w' := by
  go_enter Try.func53, Try.ntmps53
  go_wp2
  go_loopw [6, 7] (fun x y wr => ∃ (p q : Int), x = .int .i64 p ∧ y = .int .i64 q ∧ Ok64 p ∧ Ok64 q ∧ gcdZ p q = gcdZ a b ∧ ∃ n, wr = w.drewN n) (fun _ y _ => (intOf y).natAbs)
  case atStart => exact ⟨_, _, rfl, rfl, ha, hb, rfl, 0, rfl⟩
  case round =>
    obtain ⟨p, q, rfl, rfl, hp, hq, hg, n, rfl⟩ := hrel
    have HG := Lib.hid hg; clear hg
    have HP := Lib.hid hp
    have HQ := Lib.hid hq
    unfold Ok64 at hp hq
    by_cases h0 : q = 0
    · subst h0
      have hz : gcdZ a b = p.natAbs := by rw [← HG.out]; simp [gcdZ]
      have HZ := Lib.hid hz; clear hz
      by_cases hn : p < 0
      · have hs : ∀ W : World, Calls Try.prog 48 #[.int .i64 0, .int .i64 p] W fun e w' => FitB W e w' (gcdZ a b) := fun W => by
          have := rsub_any 0 p W (by unfold Ok64; omega) HP.out
          rwa [show 0 - p = gcdZ a b by rw [HZ.out]; omega] at this
        have HS := Lib.hid hs; clear hs
        go_wp2_with (go_at_call 48; refine (HS.out _).mono ?_; rintro e w1 ⟨rfl, hbw⟩)
        go_ret2
        exact ⟨rfl, (below_drewN (Below.refl _ _) n).trans hbw⟩
      · have hok : Ok64 (gcdZ a b) := by rw [HZ.out]; unfold Ok64; omega
        have HOK := Lib.hid hok; clear hok
        go_wp2
        go_ret2
        exact ⟨ret2 (by rw [fitV_yes HOK.out, HZ.out]; omega) (fitE_yes HOK.out).symm, by (repeat (first | exact Below.refl _ _ | refine Below.setCell ?_ (by simp <;> omega) _ | refine Below.alloc ?_ (by simp <;> omega) _ | refine Below.drew ?_ | refine below_drewN ?_ _))⟩
    · have hnb : (q != 0) = true := by simp [h0]
      by_cases h1 : q = -1
      · subst h1
        have hz : gcdZ a b = 1 := by rw [← HG.out]; simp [gcdZ]
        have hok : Ok64 (gcdZ a b) := by rw [hz]; unfold Ok64; omega
        have HZ := Lib.hid hz; clear hz
        have HOK := Lib.hid hok; clear hok
        go_wp2
        go_ret2
        exact ⟨ret2 (by rw [fitV_yes HOK.out, HZ.out]) (fitE_yes HOK.out).symm, by (repeat (first | exact Below.refl _ _ | refine Below.setCell ?_ (by simp <;> omega) _ | refine Below.alloc ?_ (by simp <;> omega) _ | refine Below.drew ?_ | refine below_drewN ?_ _))⟩
      · have hqb : (q == -1) = false := by simp [h1]
        have k2 := tmod_bd (a := p) h0
        have K2 := Lib.hid k2
        have hok : Ok64 (p.tmod q) := by unfold Ok64; omega
        have HOK := Lib.hid hok; clear hok
        go_wp2
        go_quiet (fail)
        go_wp2
        go_roundw
        case rel => exact ⟨q, p.tmod q, rfl, rfl, HQ.out, HOK.out, by rw [← gcdZ_step, HG.out], _, World.drewN_drewN _ _ _⟩
        case measure => have := Nat.mod_lt p.natAbs (show 0 < q.natAbs by omega); simp [intOf, Int.natAbs_tmod]; omega

theorem bitLen_is {m k : Nat} (h : m < 2 ^ k) (h' : k = 0 ∨ 2 ^ (k - 1) ≤ m) (hm : m < 2 ^ 64) : Lib.bitLen m = k := by
  rcases Nat.eq_zero_or_pos m with h0 | h0
  · subst h0
    have : Lib.bitLen 0 = 0 := Lib.bitLenAux_zero 64
    rcases h' with h' | h'
    · omega
    · have := Nat.two_pow_pos (k - 1); omega
  · obtain ⟨h1, h2, h3⟩ := Lib.bitLenAux_bounds 64 m hm (by omega)
    show Lib.bitLenAux 64 m = k
    generalize Lib.bitLenAux 64 m = j at *
    rcases h' with h' | h'
    · subst h'; omega
    · rcases Nat.lt_trichotomy j k with h4 | h4 | h4
      · have := Nat.pow_le_pow_right (show 0 < 2 by omega) (show j ≤ k - 1 by omega); omega
      · exact h4
      · have := Nat.pow_le_pow_right (show 0 < 2 by omega) (show k ≤ j - 1 by omega); omega

set_option maxRecDepth 100000 in
set_option maxHeartbeats 800000 in
theorem rlog_any (n : Int) (w : World) (hn : Ok64 n) :
    Calls Try.prog 21 #[.int .i64 n] w fun e w' => e = .returned (.int .i64 (Lib.bitLen (n.toNat - 1))) ∧ w = w' := by
  have HN := Lib.hid hn
  unfold Ok64 at hn
  go_enter Try.func21, Try.ntmps21
  go_wp2
  go_loop [3, 4] (fun k p => ∃ (j q : Nat), k = .int .i64 j ∧ p = .int .i64 q ∧ q = 2 ^ j ∧ q ≤ 4611686018427387904 ∧ j ≤ 62 ∧ (j = 0 ∨ 2 ^ (j - 1) ≤ n.toNat - 1)) (fun k _ => 63 - (intOf k).toNat)
  case atStart => exact ⟨0, 1, rfl, rfl, rfl, by omega, by omega, .inl rfl⟩
  case round =>
    obtain ⟨j, q, rfl, rfl, hq, hq2, hj, hlow⟩ := hrel
    have HQ := Lib.hid hq; clear hq
    have HLOW := Lib.hid hlow; clear hlow
    by_cases hlt : (q : Int) < n
    · by_cases h62 : j = 62
      · subst h62
        have hq3 : (q : Int) = 4611686018427387904 := by have := HQ.out; omega
        have hneg : wrap64 ((q : Int) * 2) < 0 := by rw [hq3]; unfold wrap64; omega
        have HQ3 := Lib.hid hq3; clear hq3
        go_wp2
        go_ret
        refine ⟨ret_int ?_, rfl⟩
        rw [bitLen_is (k := 63) (m := n.toNat - 1) (by omega) (.inr (by have := HQ3.out; show 2 ^ 62 ≤ _; omega)) (by omega)]
        rfl
      · have hq4 : (q : Int) ≤ 2305843009213693952 := by
          have : 2 ^ j ≤ 2 ^ 61 := Nat.pow_le_pow_right (by omega) (by omega)
          rw [← HQ.out] at this; omega
        go_wp2
        go_round
        case rel => exact ⟨j + 1, q * 2, by go_num, by go_num, by rw [HQ.out, Nat.pow_succ], by omega, by omega, .inr (by rw [Nat.add_sub_cancel, ← HQ.out]; omega)⟩
        case measure => simp [intOf]; omega
    · go_wp2
      go_ret
      refine ⟨ret_int ?_, rfl⟩
      rw [bitLen_is (k := j) (m := n.toNat - 1) (by rw [← HQ.out]; have := Nat.two_pow_pos j; have := HQ.out; omega) HLOW.out (by omega)]
end Go.Proofs.Ytfbodloidogliaa
