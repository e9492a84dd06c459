/-
  Walks of copselaw01: quotients; doublings.
-/
import Derived.Test.YtfbodloidogliaaLaws01
namespace Go.Proofs.Ytfbodloidogliaa
open Go.RowKit

set_option maxRecDepth 100000 in
set_option maxHeartbeats 1000000 in
theorem numDivides_walk (a : Int) (ha : (Lit.int .i64 a).wf = true) (b : Int) (hb : (Lit.int .i64 b).wf = true) (w : World) :
    Calls Try.prog 6 #[.int .i64 a, .int .i64 b] w fun e w' => e = .returned (.bool true) ∧ Below w.heap.size w w' := by
  have h1 := wf_ok ha
  have h2 := wf_ok hb
  clear ha hb
  have hd := fun W => div_any a b W h1 h2
  have hr := fun W => rdiv_any a b W h1 h2
  by_cases hs : b = 0 ∨ (a = least64 ∧ b = -1)
  · rw [divQ, divR, if_pos hs, if_pos hs] at hd hr
    obtain ⟨x, hx⟩ : ∃ x, divE a b = x := ⟨_, rfl⟩
    have hx0 : (x != 0) = true := by
      rw [← hx]; unfold divE
      by_cases h0 : b = 0
      · rw [if_pos h0]; decide
      · rw [if_neg h0, if_pos (hs.resolve_left h0)]; decide
    rw [hx] at hd hr
    have HD := Lib.hid hd; clear hd
    have HR := Lib.hid hr; clear hr hx
    have hb3 : ((b == 0) = true) ∨ ((b == 0) = false ∧ (b == -1) = true) := by
      by_cases h0 : b = 0
      · left; simp [h0]
      · right; exact ⟨by simp [h0], by simp [(hs.resolve_left h0).2]⟩
    clear hs
    rcases hb3 with hb3 | ⟨hb3, hb4⟩
    all_goals
      go_enter Try.func6, Try.ntmps6
      go_wp2_with (first | (go_at_call 23; refine (HD.out _).mono ?_; rintro e w1 ⟨rfl, n, rfl⟩) | (go_at_call 24; refine (HR.out _).mono ?_; rintro e w1 ⟨rfl, b1⟩) | (go_at_call 15; refine (lives_any _).mono ?_; rintro e w2 ⟨rfl, b2⟩))
      go_ret
      exact ⟨rfl, Below.trans (by (repeat (first | exact Below.refl _ _ | refine Below.setCell ?_ (by first | omega | (simp; done) | (simp; omega)) _ | refine Below.alloc ?_ (by first | omega | (simp; done) | (simp; omega)) _ | refine Below.drew ?_ | refine below_drewN ?_ _))) (b1.trans (b2.mono b1.size))⟩
  · have hb0 : b ≠ 0 := fun h => hs (.inl h)
    have e1 : divQ a b = a / b := if_neg hs
    have e2 : divR a b = a % b := if_neg hs
    have e3 : divE a b = 0 := by unfold divE; rw [if_neg hb0, if_neg (fun h => hs (.inr h))]
    rw [e1, e2, e3] at hd hr
    have k3 := ediv_ok (a := a) (b := b) h1 hb0 (fun h => hs (.inr h))
    have f1 := Int.emod_nonneg a hb0
    have f2 := Int.emod_lt a hb0
    have f3 := Int.emod_add_mul_ediv a b
    rw [Int.mul_comm] at f3
    obtain ⟨q, hq⟩ : ∃ q, a / b = q := ⟨_, rfl⟩
    obtain ⟨r, hr'⟩ : ∃ r, a % b = r := ⟨_, rfl⟩
    rw [hq, hr'] at hd hr
    rw [hq] at k3
    rw [hr'] at f1 f2
    rw [hq, hr'] at f3
    have hm := fun W => mul_any q b W k3 h2
    obtain ⟨t, ht⟩ : ∃ t, q * b = t := ⟨_, rfl⟩
    rw [ht] at hm f3
    unfold Fit at hm
    have f5 : r ≤ 9223372036854775807 := by unfold Ok64 at h2; omega
    clear e1 e2 e3 hq hr' k3 hs ht
    have HD := Lib.hid hd; clear hd
    have HR := Lib.hid hr; clear hr
    have F3 := Lib.hid f3
    by_cases hok : Ok64 t
    · rw [fitV_yes hok, fitE_yes hok] at hm
      have HM := Lib.hid hm; clear hm
      have hsum : (t + r == a) = true := by simp; omega
      have h1' := h1
      have hw : -9223372036854775808 ≤ t + r ∧ t + r ≤ 9223372036854775807 := by unfold Ok64 at h1'; omega
      clear f3
      rcases Int.lt_or_gt_of_ne hb0 with hn | hp
      · have hg : b < -r := by omega
        go_enter Try.func6, Try.ntmps6
        go_wp2_with (first | (go_at_call 23; refine (HD.out _).mono ?_; rintro e w1 ⟨rfl, n, rfl⟩) | (go_at_call 24; refine (HR.out _).mono ?_; rintro e w1 ⟨rfl, b1⟩) | (go_at_call 15; refine (lives_any _).mono ?_; rintro e w2 ⟨rfl, b2⟩) | (go_at_call 25; refine (HM.out _).mono ?_; rintro e w3 ⟨rfl, rfl⟩))
        go_ret
        exact ⟨rfl, Below.trans (by (repeat (first | exact Below.refl _ _ | refine Below.setCell ?_ (by first | omega | (simp; done) | (simp; omega)) _ | refine Below.alloc ?_ (by first | omega | (simp; done) | (simp; omega)) _ | refine Below.drew ?_ | refine below_drewN ?_ _))) (b1.trans (b2.mono b1.size))⟩
      · have hg : r < b := by omega
        go_enter Try.func6, Try.ntmps6
        go_wp2_with (first | (go_at_call 23; refine (HD.out _).mono ?_; rintro e w1 ⟨rfl, n, rfl⟩) | (go_at_call 24; refine (HR.out _).mono ?_; rintro e w1 ⟨rfl, b1⟩) | (go_at_call 15; refine (lives_any _).mono ?_; rintro e w2 ⟨rfl, b2⟩) | (go_at_call 25; refine (HM.out _).mono ?_; rintro e w3 ⟨rfl, rfl⟩))
        go_ret
        exact ⟨rfl, Below.trans (by (repeat (first | exact Below.refl _ _ | refine Below.setCell ?_ (by first | omega | (simp; done) | (simp; omega)) _ | refine Below.alloc ?_ (by first | omega | (simp; done) | (simp; omega)) _ | refine Below.drew ?_ | refine below_drewN ?_ _))) (b1.trans (b2.mono b1.size))⟩
    · rw [fitV_no hok, fitE_no hok] at hm
      have HM := Lib.hid hm; clear hm f3
      rcases Int.lt_or_gt_of_ne hb0 with hn | hp
      · have hg : b < -r := by omega
        go_enter Try.func6, Try.ntmps6
        go_wp2_with (first | (go_at_call 23; refine (HD.out _).mono ?_; rintro e w1 ⟨rfl, n, rfl⟩) | (go_at_call 24; refine (HR.out _).mono ?_; rintro e w1 ⟨rfl, b1⟩) | (go_at_call 15; refine (lives_any _).mono ?_; rintro e w2 ⟨rfl, b2⟩) | (go_at_call 25; refine (HM.out _).mono ?_; rintro e w3 ⟨rfl, rfl⟩))
        go_ret
        exact ⟨rfl, Below.trans (by (repeat (first | exact Below.refl _ _ | refine Below.setCell ?_ (by first | omega | (simp; done) | (simp; omega)) _ | refine Below.alloc ?_ (by first | omega | (simp; done) | (simp; omega)) _ | refine Below.drew ?_ | refine below_drewN ?_ _))) (b1.trans (b2.mono b1.size))⟩
      · have hg : r < b := by omega
        go_enter Try.func6, Try.ntmps6
        go_wp2_with (first | (go_at_call 23; refine (HD.out _).mono ?_; rintro e w1 ⟨rfl, n, rfl⟩) | (go_at_call 24; refine (HR.out _).mono ?_; rintro e w1 ⟨rfl, b1⟩) | (go_at_call 15; refine (lives_any _).mono ?_; rintro e w2 ⟨rfl, b2⟩) | (go_at_call 25; refine (HM.out _).mono ?_; rintro e w3 ⟨rfl, rfl⟩))
        go_ret
        exact ⟨rfl, Below.trans (by (repeat (first | exact Below.refl _ _ | refine Below.setCell ?_ (by first | omega | (simp; done) | (simp; omega)) _ | refine Below.alloc ?_ (by first | omega | (simp; done) | (simp; omega)) _ | refine Below.drew ?_ | refine below_drewN ?_ _))) (b1.trans (b2.mono b1.size))⟩

theorem bitLen_bd {m : Nat} (hm : m < 2 ^ 64) : m < 2 ^ Lib.bitLen m ∧ (0 < Lib.bitLen m → 2 ^ (Lib.bitLen m - 1) ≤ m) := by
  rcases Nat.eq_zero_or_pos m with h0 | h0
  · subst h0
    have : Lib.bitLen 0 = 0 := Lib.bitLenAux_zero 64
    rw [this]; simp
  · obtain ⟨h1, h2, h3⟩ := Lib.bitLenAux_bounds 64 m hm (by omega)
    exact ⟨h3, fun _ => h2⟩

set_option maxRecDepth 100000 in
set_option maxHeartbeats 1000000 in
theorem numSmall_walk (n : Int) (hn : (Lit.int .i64 n).wf = true) (v : Int) (hv : (Lit.int .i64 v).wf = true) (lo : Int) (hlo : (Lit.int .i64 lo).wf = true) (hi : Int) (hhi : (Lit.int .i64 hi).wf = true) (w : World) :
    Calls Try.prog 5 #[.int .i64 n, .int .i64 v, .int .i64 lo, .int .i64 hi] w fun e w' => e = .returned (.bool true) ∧ Below w.heap.size w w' := by
  have h1 := wf_ok hn
  clear hn hv hlo hhi
  have hl := fun W => log_any n W h1
  have hr := fun W => rlog_any n W h1
  obtain ⟨k, hk⟩ : ∃ k, Lib.bitLen (n.toNat - 1) = k := ⟨_, rfl⟩
  rw [hk] at hl hr
  have HL := Lib.hid hl; clear hl
  have HR := Lib.hid hr; clear hr
  have hlt : n.toNat - 1 < 2 ^ 63 := by unfold Ok64 at h1; omega
  have hb := bitLen_bd (m := n.toNat - 1) (by omega)
  rw [hk] at hb
  obtain ⟨hb1, hb2⟩ := hb
  have hk63 : k ≤ 63 := by
    rcases Nat.eq_zero_or_pos k with h | h
    · omega
    · have := hb2 h
      have h3 : 2 ^ (k - 1) < 2 ^ 63 := by omega
      have := (Nat.pow_lt_pow_iff_right (show 1 < 2 by omega)).1 h3
      omega
  have hc : ∀ W : World, Calls Try.prog 22 #[.int .i64 v, .int .i64 lo, .int .i64 hi] W fun e w' => e = .returned (.int .i64 (clampI v lo hi)) ∧ W = w' := fun W => clamp_any v lo hi W
  have hcl : (v < lo ∧ hi < v ∧ clampI v lo hi = lo) ∨ (v < lo ∧ v ≤ hi ∧ clampI v lo hi = lo) ∨ (lo ≤ v ∧ hi < v ∧ clampI v lo hi = hi) ∨ (lo ≤ v ∧ v ≤ hi ∧ clampI v lo hi = v) := by
    unfold clampI
    by_cases g1 : v < lo <;> by_cases g2 : hi < v <;> simp [g1, g2] <;> omega
  have hkc : (k = 0 ∧ n ≤ 1) ∨ (0 < k ∧ k < 63 ∧ wrap64 ((2 : Int) ^ (k - 1)) < n ∧ n ≤ wrap64 ((2 : Int) ^ k)) ∨ (k = 63 ∧ 4611686018427387904 < n) := by
    rcases Nat.eq_zero_or_pos k with h | h
    · left; subst h; simp at hb1; omega
    · right
      have h2 := hb2 h
      have e1 : ((2 : Int) ^ (k - 1)) = ((2 ^ (k - 1) : Nat) : Int) := by simp
      have e2 : ((2 : Int) ^ k) = ((2 ^ k : Nat) : Int) := by simp
      have g1 : 2 ^ (k - 1) ≤ 2 ^ 62 := Nat.pow_le_pow_right (by omega) (by omega)
      have hpos := Nat.two_pow_pos (k - 1)
      by_cases h63 : k < 63
      · left
        have g2 : 2 ^ k ≤ 2 ^ 62 := Nat.pow_le_pow_right (by omega) (by omega)
        rw [e1, e2]
        generalize 2 ^ (k - 1) = P at *
        generalize 2 ^ k = Q at *
        rw [IntWalk.wrap64_in (P : Int) (by omega), IntWalk.wrap64_in (Q : Int) (by omega)]
        exact ⟨h, h63, by omega, by omega⟩
      · right
        obtain rfl : k = 63 := by omega
        exact ⟨rfl, by omega⟩
  clear hb1 hb2 hlt hk
  rcases hcl with ⟨g1, g2, g3⟩ | ⟨g1, g2, g3⟩ | ⟨g1, g2, g3⟩ | ⟨g1, g2, g3⟩
  all_goals rw [g3] at hc
  all_goals have HC := Lib.hid hc
  all_goals clear hc g3
  all_goals rcases hkc with ⟨rfl, q1⟩ | ⟨q1, q2, q3, q4⟩ | ⟨rfl, q1⟩
  all_goals
    go_enter Try.func5, Try.ntmps5
    go_wp2_with (first | (go_at_call 20; refine (HL.out _).mono ?_; rintro e w1 ⟨rfl, rfl⟩) | (go_at_call 21; refine (HR.out _).mono ?_; rintro e w1 ⟨rfl, rfl⟩) | (go_at_call 22; refine (HC.out _).mono ?_; rintro e w1 ⟨rfl, rfl⟩) | (go_at_call 15; refine (lives_any _).mono ?_; rintro e w2 ⟨rfl, b2⟩))
    go_ret
    exact ⟨rfl, b2⟩
end Go.Proofs.Ytfbodloidogliaa
