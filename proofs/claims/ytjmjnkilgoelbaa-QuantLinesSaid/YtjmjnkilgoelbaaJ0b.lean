/-
  RefDiv: Walks of copseref01: quotients, the greatest divisor, doublings.
  ScoreA: Walks of score.Is, score.odder, score.Cmp and of the reference's Is and Odder.
  ScoreB: Walks of score.all and of the reference's All.
  App1: Append of one element at a step of a region that draws its order.
  Tail: A region that draws its order: the operations that only read first, in the text's order, then the forced tail.
  ScoreC: Walks of score.merge and score.sorted.
  Lex: A drawn region, walked by hand: what only reads is taken first, an operation that is not wanted is passed by, what makes memory comes up one by one.
  LexB: A drawn region with a barrier: a store into a cell that the region loads, behind all loads: the cells must hold as they were up to the barrier alone.
  ScoreD: Walks of score.sorted and score.Sort.
  ScoreE: Walks of score.Sort and of the reference's Sort.
  QuantA: Walks of quant.asked, quant.Index, ratio.Of and of the reference's Asked, Index, Of.
  QuantB: Walks of quant.Line, quant.Over, quant.Count, quant.Share and of the reference's.
  QuantC: Walks of quant.Count, quant.Share and of the reference's.
  QuantD: Walks of the reference's Count, of quant.Share and of the reference's Share.
-/
import Derived.Test.YtjmjnkilgoelbaaJ0a
import Derived.Lib.ItoaNum
import Derived.Deep.RegionHeld3
import Derived.StillTailTactics
import Derived.Deep.Quiet
namespace Go.Proofs.Ytjmjnkilgoelbaa
open Go.RowKit

theorem gcdZ_step (x y : Int) : gcdZ x y = gcdZ y (x.tmod y) := by
  unfold gcdZ
  rw [Int.natAbs_tmod, gcd_step]

set_option maxHeartbeats 800000 in
theorem rgcd_any (a b : Int) (w : World) (ha : Ok64 a) (hb : Ok64 b) :
    Calls Try.prog 87 #[.int .i64 a, .int .i64 b] w fun e w' => e = .returned (.tuple #[.int .i64 (fitV (gcdZ a b)), .int .i64 (fitE (gcdZ a b))]) ∧ Below w.heap.size w w' := by
  go_enter Try.func87, Try.ntmps87
  go_wp2
  go_loopw [6, 7] (fun x y wr => ∃ (p q : Int), x = .int .i64 p ∧ y = .int .i64 q ∧ Ok64 p ∧ Ok64 q ∧ gcdZ p q = gcdZ a b ∧ ∃ n, wr = w.drewN n) (fun _ y _ => (intOf y).natAbs)
  case atStart => exact ⟨_, _, rfl, rfl, ha, hb, rfl, 0, rfl⟩
  case round =>
    obtain ⟨p, q, rfl, rfl, hp, hq, hg, n, rfl⟩ := hrel
    have HG := Lib.hid hg; clear hg
    have HP := Lib.hid hp
    have HQ := Lib.hid hq
    unfold Ok64 at hp hq
    by_cases h0 : q = 0
    · subst h0
      have hz : gcdZ a b = p.natAbs := by rw [← HG.out]; simp [gcdZ]
      have HZ := Lib.hid hz; clear hz
      by_cases hn : p < 0
      · have hs : ∀ W : World, Calls Try.prog 153 #[.int .i64 0, .int .i64 p] W fun e w' => FitB W e w' (gcdZ a b) := fun W => by
          have := rsub_any 0 p W (by unfold Ok64; omega) HP.out
          rwa [show 0 - p = gcdZ a b by rw [HZ.out]; omega] at this
        have HS := Lib.hid hs; clear hs
        go_wp2_with (go_at_call 153; refine (HS.out _).mono ?_; rintro e w1 ⟨rfl, hbw⟩)
        go_ret2
        exact ⟨rfl, (below_drewN (Below.refl _ _) n).trans hbw⟩
      · have hok : Ok64 (gcdZ a b) := by rw [HZ.out]; unfold Ok64; omega
        have HOK := Lib.hid hok; clear hok
        go_wp2
        go_ret2
        exact ⟨ret2 (by rw [fitV_yes HOK.out, HZ.out]; omega) (fitE_yes HOK.out).symm, by (repeat (first | with_reducible exact Below.refl _ _ | with_reducible refine Bs ?_ | with_reducible refine Ba ?_ | with_reducible refine Bd ?_ | with_reducible refine Bn ?_))⟩
    · have hnb : (q != 0) = true := by simp [h0]
      by_cases h1 : q = -1
      · subst h1
        have hz : gcdZ a b = 1 := by rw [← HG.out]; simp [gcdZ]
        have hok : Ok64 (gcdZ a b) := by rw [hz]; unfold Ok64; omega
        have HZ := Lib.hid hz; clear hz
        have HOK := Lib.hid hok; clear hok
        go_wp2
        go_ret2
        exact ⟨ret2 (by rw [fitV_yes HOK.out, HZ.out]) (fitE_yes HOK.out).symm, by (repeat (first | with_reducible exact Below.refl _ _ | with_reducible refine Bs ?_ | with_reducible refine Ba ?_ | with_reducible refine Bd ?_ | with_reducible refine Bn ?_))⟩
      · have hqb : (q == -1) = false := by simp [h1]
        have k2 := tmod_bd (a := p) h0
        have K2 := Lib.hid k2
        have hok : Ok64 (p.tmod q) := by unfold Ok64; omega
        have HOK := Lib.hid hok; clear hok
        go_wp2
        go_quiet (fail)
        go_wp2
        go_roundw
        case rel => exact ⟨q, p.tmod q, rfl, rfl, HQ.out, HOK.out, by rw [← gcdZ_step, HG.out], _, World.drewN_drewN _ _ _⟩
        case measure => have := Nat.mod_lt p.natAbs (show 0 < q.natAbs by omega); simp [intOf, Int.natAbs_tmod]; omega

theorem bitLen_is {m k : Nat} (h : m < 2 ^ k) (h' : k = 0 ∨ 2 ^ (k - 1) ≤ m) (hm : m < 2 ^ 64) : Lib.bitLen m = k := by
  rcases Nat.eq_zero_or_pos m with h0 | h0
  · subst h0
    have : Lib.bitLen 0 = 0 := Lib.bitLenAux_zero 64
    rcases h' with h' | h'
    · omega
    · have := Nat.two_pow_pos (k - 1); omega
  · obtain ⟨h1, h2, h3⟩ := Lib.bitLenAux_bounds 64 m hm (by omega)
    show Lib.bitLenAux 64 m = k
    generalize Lib.bitLenAux 64 m = j at *
    rcases h' with h' | h'
    · subst h'; omega
    · rcases Nat.lt_trichotomy j k with h4 | h4 | h4
      · have := Nat.pow_le_pow_right (show 0 < 2 by omega) (show j ≤ k - 1 by omega); omega
      · exact h4
      · have := Nat.pow_le_pow_right (show 0 < 2 by omega) (show k ≤ j - 1 by omega); omega

set_option maxRecDepth 100000 in
set_option maxHeartbeats 800000 in
theorem rlog_any (n : Int) (w : World) (hn : Ok64 n) :
    Calls Try.prog 197 #[.int .i64 n] w fun e w' => e = .returned (.int .i64 (Lib.bitLen (n.toNat - 1))) ∧ w = w' := by
  have HN := Lib.hid hn
  unfold Ok64 at hn
  go_enter Try.func197, Try.ntmps197
  go_wp2
  go_loop [3, 4] (fun k p => ∃ (j q : Nat), k = .int .i64 j ∧ p = .int .i64 q ∧ q = 2 ^ j ∧ q ≤ 4611686018427387904 ∧ j ≤ 62 ∧ (j = 0 ∨ 2 ^ (j - 1) ≤ n.toNat - 1)) (fun k _ => 63 - (intOf k).toNat)
  case atStart => exact ⟨0, 1, rfl, rfl, rfl, by omega, by omega, .inl rfl⟩
  case round =>
    obtain ⟨j, q, rfl, rfl, hq, hq2, hj, hlow⟩ := hrel
    have HQ := Lib.hid hq; clear hq
    have HLOW := Lib.hid hlow; clear hlow
    by_cases hlt : (q : Int) < n
    · by_cases h62 : j = 62
      · subst h62
        have hq3 : (q : Int) = 4611686018427387904 := by have := HQ.out; omega
        have hneg : wrap64 ((q : Int) * 2) < 0 := by rw [hq3]; unfold wrap64; omega
        have HQ3 := Lib.hid hq3; clear hq3
        go_wp2
        go_ret
        refine ⟨ret_int ?_, rfl⟩
        rw [bitLen_is (k := 63) (m := n.toNat - 1) (by omega) (.inr (by have := HQ3.out; show 2 ^ 62 ≤ _; omega)) (by omega)]
        rfl
      · have hq4 : (q : Int) ≤ 2305843009213693952 := by
          have : 2 ^ j ≤ 2 ^ 61 := Nat.pow_le_pow_right (by omega) (by omega)
          rw [← HQ.out] at this; omega
        go_wp2
        go_round
        case rel => exact ⟨j + 1, q * 2, by go_num, by go_num, by rw [HQ.out, Nat.pow_succ], by omega, by omega, .inr (by rw [Nat.add_sub_cancel, ← HQ.out]; omega)⟩
        case measure => simp [intOf]; omega
    · go_wp2
      go_ret
      refine ⟨ret_int ?_, rfl⟩
      rw [bitLen_is (k := j) (m := n.toNat - 1) (by rw [← HQ.out]; have := Nat.two_pow_pos j; have := HQ.out; omega) HLOW.out (by omega)]
end Go.Proofs.Ytjmjnkilgoelbaa

namespace Go.Proofs.Ytjmjnkilgoelbaa
open Go.RowKit

theorem gcd_small {p q : Int} (hq : 1 ≤ q ∧ q ≤ 16) : 0 ≤ gcdZ p q ∧ gcdZ p q ≤ 16 := by
  unfold gcdZ
  have := Nat.gcd_le_right p.natAbs (n := q.natAbs) (by omega)
  omega

theorem scoreB_fail {p q : Int} (h : ¬ ((1 ≤ q ∧ q ≤ 16) ∧ (0 ≤ p ∧ p ≤ 274877906944))) : scoreB (p, q) = false := by
  unfold scoreB
  exact decide_eq_false (fun hh => h ⟨hh.1, hh.2.1⟩)

theorem scoreB_gcd {p q : Int} (h : (1 ≤ q ∧ q ≤ 16) ∧ (0 ≤ p ∧ p ≤ 274877906944)) : (gcdZ p q == 1) = scoreB (p, q) := by
  unfold scoreB
  by_cases e : gcdZ p q = 1
  · rw [decide_eq_true ⟨h.1, h.2, e⟩, e]; rfl
  · rw [decide_eq_false (fun hh => e hh.2.2)]
    simp [e]

set_option maxRecDepth 100000 in
set_option maxHeartbeats 4000000 in
theorem sis_any (p q : Int) (w : World) : Calls Try.prog 79 #[.agg #[.int .i64 p, .int .i64 q]] w fun e w' => e = .returned (.bool (scoreB (p, q))) ∧ Below w.heap.size w w' := by
  by_cases h0 : q < 1
  · have HB := Lib.hid (scoreB_fail (p := p) (q := q) (by omega))
    go_enter Try.func79, Try.ntmps79
    go_wp2_with fail
    go_ret
    exact ⟨ret_bool HB.out.symm, by (repeat (first | with_reducible exact Below.refl _ _ | with_reducible refine Bs ?_ | with_reducible refine Ba ?_ | with_reducible refine Bd ?_ | with_reducible refine Bn ?_))⟩
  · have g0 : 1 ≤ q := by omega
    by_cases h1 : 16 < q
    · have HB := Lib.hid (scoreB_fail (p := p) (q := q) (by omega))
      go_enter Try.func79, Try.ntmps79
      go_wp2_with fail
      go_ret
      exact ⟨ret_bool HB.out.symm, by (repeat (first | with_reducible exact Below.refl _ _ | with_reducible refine Bs ?_ | with_reducible refine Ba ?_ | with_reducible refine Bd ?_ | with_reducible refine Bn ?_))⟩
    · have g1 : q ≤ 16 := by omega
      by_cases h2 : p < 0
      · have HB := Lib.hid (scoreB_fail (p := p) (q := q) (by omega))
        go_enter Try.func79, Try.ntmps79
        go_wp2_with fail
        go_ret
        exact ⟨ret_bool HB.out.symm, by (repeat (first | with_reducible exact Below.refl _ _ | with_reducible refine Bs ?_ | with_reducible refine Ba ?_ | with_reducible refine Bd ?_ | with_reducible refine Bn ?_))⟩
      · have g2 : 0 ≤ p := by omega
        by_cases h3 : 274877906944 < p
        · have HB := Lib.hid (scoreB_fail (p := p) (q := q) (by omega))
          go_enter Try.func79, Try.ntmps79
          go_wp2_with fail
          go_ret
          exact ⟨ret_bool HB.out.symm, by (repeat (first | with_reducible exact Below.refl _ _ | with_reducible refine Bs ?_ | with_reducible refine Ba ?_ | with_reducible refine Bd ?_ | with_reducible refine Bn ?_))⟩
        · have g3 : p ≤ 274877906944 := by omega
          have HB := Lib.hid (scoreB_gcd (p := p) (q := q) (by omega))
          have hg := gcd_small (p := p) (q := q) (by omega)
          have HG := Lib.hid (fun W => gcd_any p q W (by unfold Ok64; omega) (by unfold Ok64; omega))
          rw [fitV_yes (by unfold Ok64; omega), fitE_yes (by unfold Ok64; omega)] at HG
          clear hg
          generalize gcdZ p q = G at *
          go_enter Try.func79, Try.ntmps79
          go_wp2_with fail
          (with_reducible refine (HG.out _).mono ?_)
          rintro e w1 ⟨rfl, d1, rfl⟩
          go_wp2_with fail
          go_ret
          exact ⟨ret_bool HB.out, by (repeat (first | with_reducible exact Below.refl _ _ | with_reducible refine Bs ?_ | with_reducible refine Ba ?_ | with_reducible refine Bd ?_ | with_reducible refine Bn ?_))⟩

set_option maxRecDepth 100000 in
set_option maxHeartbeats 4000000 in
theorem ris13_any (p q : Int) (w : World) : Calls Try.prog 24 #[.agg #[.int .i64 p, .int .i64 q]] w fun e w' => e = .returned (.bool (scoreB (p, q))) ∧ Below w.heap.size w w' := by
  by_cases h0 : q < 1
  · have HB := Lib.hid (scoreB_fail (p := p) (q := q) (by omega))
    go_enter Try.func24, Try.ntmps24
    go_wp2_with fail
    go_ret
    exact ⟨ret_bool HB.out.symm, by (repeat (first | with_reducible exact Below.refl _ _ | with_reducible refine Bs ?_ | with_reducible refine Ba ?_ | with_reducible refine Bd ?_ | with_reducible refine Bn ?_))⟩
  · have g0 : 1 ≤ q := by omega
    by_cases h1 : 16 < q
    · have HB := Lib.hid (scoreB_fail (p := p) (q := q) (by omega))
      go_enter Try.func24, Try.ntmps24
      go_wp2_with fail
      go_ret
      exact ⟨ret_bool HB.out.symm, by (repeat (first | with_reducible exact Below.refl _ _ | with_reducible refine Bs ?_ | with_reducible refine Ba ?_ | with_reducible refine Bd ?_ | with_reducible refine Bn ?_))⟩
    · have g1 : q ≤ 16 := by omega
      by_cases h2 : p < 0
      · have HB := Lib.hid (scoreB_fail (p := p) (q := q) (by omega))
        go_enter Try.func24, Try.ntmps24
        go_wp2_with fail
        go_ret
        exact ⟨ret_bool HB.out.symm, by (repeat (first | with_reducible exact Below.refl _ _ | with_reducible refine Bs ?_ | with_reducible refine Ba ?_ | with_reducible refine Bd ?_ | with_reducible refine Bn ?_))⟩
      · have g2 : 0 ≤ p := by omega
        by_cases h3 : 274877906944 < p
        · have HB := Lib.hid (scoreB_fail (p := p) (q := q) (by omega))
          go_enter Try.func24, Try.ntmps24
          go_wp2_with fail
          go_ret
          exact ⟨ret_bool HB.out.symm, by (repeat (first | with_reducible exact Below.refl _ _ | with_reducible refine Bs ?_ | with_reducible refine Ba ?_ | with_reducible refine Bd ?_ | with_reducible refine Bn ?_))⟩
        · have g3 : p ≤ 274877906944 := by omega
          have HB := Lib.hid (scoreB_gcd (p := p) (q := q) (by omega))
          have hg := gcd_small (p := p) (q := q) (by omega)
          have HG := Lib.hid (fun W => rgcd_any p q W (by unfold Ok64; omega) (by unfold Ok64; omega))
          rw [fitV_yes (by unfold Ok64; omega), fitE_yes (by unfold Ok64; omega)] at HG
          clear hg
          generalize gcdZ p q = G at *
          go_enter Try.func24, Try.ntmps24
          go_wp2_with fail
          (with_reducible refine (HG.out _).mono ?_); rintro e w1 ⟨rfl, b1⟩; have s1 : w.heap.size ≤ w1.heap.size := sz b1; have B1 := Lib.hid (Bc (B := w.heap.size) (a := w) (by (repeat (first | with_reducible exact Below.refl _ _ | with_reducible refine Bs ?_ | with_reducible refine Ba ?_ | with_reducible refine Bd ?_ | with_reducible refine Bn ?_))) b1); clear b1
          go_wp2_with fail
          go_ret
          exact ⟨ret_bool HB.out, by (repeat (first | with_reducible exact Below.refl _ _ | with_reducible refine Bs ?_ | with_reducible refine Ba ?_ | with_reducible refine Bd ?_ | with_reducible refine Bn ?_ | with_reducible refine Bt B1.out ?_))⟩

set_option maxRecDepth 100000 in
set_option maxHeartbeats 4000000 in
theorem odder_any (p q r s : Int) (w : World) (hp : Ok64 p) (hq : Ok64 q) (hr : Ok64 r) (hs : Ok64 s) :
    Calls Try.prog 167 #[.agg #[.int .i64 p, .int .i64 q], .agg #[.int .i64 r, .int .i64 s]] w fun e w' => e = .returned (.int .i64 (oddI (p, q) (r, s))) ∧ Below w.heap.size w w' := by
  have HP := Lib.hid (fun W => wProds_any r q p s W hr hq hp hs)
  rw [show prodsI r q p s = oddI (p, q) (r, s) from prods_odd (p, q) (r, s)] at HP
  generalize oddI (p, q) (r, s) = R at *
  clear hp hq hr hs
  go_enter Try.func167, Try.ntmps167
  go_wp2_with fail
  (with_reducible refine (HP.out _).mono ?_); rintro e w1 ⟨rfl, b1⟩; have s1 : w.heap.size ≤ w1.heap.size := sz b1; have B1 := Lib.hid (Bc (B := w.heap.size) (a := w) (by (repeat (first | with_reducible exact Below.refl _ _ | with_reducible refine Bs ?_ | with_reducible refine Ba ?_ | with_reducible refine Bd ?_ | with_reducible refine Bn ?_))) b1); clear b1
  go_wp2_with fail
  go_ret
  exact ⟨rfl, by (repeat (first | with_reducible exact Below.refl _ _ | with_reducible refine Bs ?_ | with_reducible refine Ba ?_ | with_reducible refine Bd ?_ | with_reducible refine Bn ?_ | with_reducible refine Bt B1.out ?_))⟩

theorem odd_case (p q r s : Int) : (p * s < r * q ∧ oddI (p, q) (r, s) = 1) ∨ (¬ p * s < r * q ∧ r * q < p * s ∧ oddI (p, q) (r, s) = -1) ∨ (¬ p * s < r * q ∧ ¬ r * q < p * s ∧ oddI (p, q) (r, s) = 0) := by
  unfold oddI
  dsimp only
  split
  · exact .inl ⟨by assumption, rfl⟩
  · split
    · exact .inr (.inl ⟨by assumption, by assumption, rfl⟩)
    · exact .inr (.inr ⟨by assumption, by assumption, rfl⟩)

theorem mul_small {p s : Int} (h1 : 0 ≤ p ∧ p ≤ 274877906944) (h2 : 0 ≤ s ∧ s ≤ 16) : 0 ≤ p * s ∧ p * s ≤ 4398046511104 := by
  refine ⟨Int.mul_nonneg h1.1 h2.1, ?_⟩
  have := Int.mul_le_mul h1.2 h2.2 h2.1 (by omega)
  omega

theorem wrap_ok {z : Int} (h : 0 ≤ z ∧ z ≤ 4398046511104) : wrap64 z = z := by unfold wrap64; omega

set_option maxRecDepth 100000 in
set_option maxHeartbeats 4000000 in
theorem rodder_any (p q r s : Int) (w : World) (hp : 0 ≤ p ∧ p ≤ 274877906944) (hq : 0 ≤ q ∧ q ≤ 16) (hr : 0 ≤ r ∧ r ≤ 274877906944) (hs : 0 ≤ s ∧ s ≤ 16) :
    Calls Try.prog 26 #[.agg #[.int .i64 p, .int .i64 q], .agg #[.int .i64 r, .int .i64 s]] w fun e w' => e = .returned (.int .i64 (oddI (p, q) (r, s))) ∧ Below w.heap.size w w' := by
  have h1 := mul_small hp hs
  have h2 := mul_small hr hq
  clear hp hq hr hs
  rcases odd_case p q r s with ⟨g, e⟩ | ⟨g, g', e⟩ | ⟨g, g', e⟩ <;>
  · rw [e]
    clear e
    have e1 := wrap_ok h1
    have e2 := wrap_ok h2
    have H1 := Lib.hid h1
    have H2 := Lib.hid h2
    clear h1 h2
    go_enter Try.func26, Try.ntmps26
    go_wp2_with fail
    go_ret
    exact ⟨rfl, by (repeat (first | with_reducible exact Below.refl _ _ | with_reducible refine Bs ?_ | with_reducible refine Ba ?_ | with_reducible refine Bd ?_ | with_reducible refine Bn ?_))⟩

set_option maxRecDepth 100000 in
set_option maxHeartbeats 4000000 in
theorem scmp_any (p q r s : Int) (w : World) :
    Calls Try.prog 148 #[.agg #[.int .i64 p, .int .i64 q], .agg #[.int .i64 r, .int .i64 s]] w fun e w' => e = .returned (.tuple #[.int .i64 (if scoreB (p, q) && scoreB (r, s) then oddI (p, q) (r, s) else 0), .int .i64 (if scoreB (p, q) && scoreB (r, s) then 0 else 130)]) ∧ Below w.heap.size w w' := by
  have H1 := Lib.hid (fun W => sis_any p q W)
  have H2 := Lib.hid (fun W => sis_any r s W)
  have H3 := Lib.hid (fun (h1 : scoreB (p, q) = true) (h2 : scoreB (r, s) = true) W => odder_any p q r s W (by have := scoreB_is.1 h1; unfold Ok64; omega) (by have := scoreB_is.1 h1; unfold Ok64; omega) (by have := scoreB_is.1 h2; unfold Ok64; omega) (by have := scoreB_is.1 h2; unfold Ok64; omega))
  generalize oddI (p, q) (r, s) = R at *
  cases hb : scoreB (p, q) with
  | false =>
    rw [hb] at H1
    clear H3 H2 hb
    simp only [Bool.false_and, Bool.false_eq_true, if_false]
    go_enter Try.func148, Try.ntmps148
    go_wp2_with fail
    (with_reducible refine (H1.out _).mono ?_); rintro e w1 ⟨rfl, b1⟩; have s1 : w.heap.size + 1 + 1 ≤ w1.heap.size := sz b1; have B1 := Lib.hid (Bc (B := w.heap.size) (a := w) (by (repeat (first | with_reducible exact Below.refl _ _ | with_reducible refine Bs ?_ | with_reducible refine Ba ?_ | with_reducible refine Bd ?_ | with_reducible refine Bn ?_))) b1); have c1_0 : w1.cell? ⟨w.heap.size, 0, none⟩ = some (.int .i64 p) := kc b1 (by go_simp) (by first | omega | (simp; done) | (simp; omega)); obtain ⟨l1_0, n1_0, m1_0⟩ := lnm (show w.heap.size < w1.heap.size by omega); clear b1
    go_wp2_with fail
    go_ret2
    exact ⟨rfl, by (repeat (first | with_reducible exact Below.refl _ _ | with_reducible refine Bs ?_ | with_reducible refine Ba ?_ | with_reducible refine Bd ?_ | with_reducible refine Bn ?_ | with_reducible refine Bt B1.out ?_))⟩
  | true =>
    cases hb2 : scoreB (r, s) with
    | false =>
      rw [hb] at H1
      rw [hb2] at H2
      clear H3 hb hb2
      simp only [Bool.and_false, Bool.false_eq_true, if_false]
      go_enter Try.func148, Try.ntmps148
      go_wp2_with fail
      (with_reducible refine (H1.out _).mono ?_); rintro e w1 ⟨rfl, b1⟩; have s1 : w.heap.size + 1 + 1 ≤ w1.heap.size := sz b1; have B1 := Lib.hid (Bc (B := w.heap.size) (a := w) (by (repeat (first | with_reducible exact Below.refl _ _ | with_reducible refine Bs ?_ | with_reducible refine Ba ?_ | with_reducible refine Bd ?_ | with_reducible refine Bn ?_))) b1); obtain ⟨c1_0, c1_1⟩ := k2 (w.heap.size + 1) (.int .i64 r) (.int .i64 s) b1 (by and_intros <;> go_simp); obtain ⟨l1_0, n1_0, m1_0⟩ := lnm (show w.heap.size + 1 < w1.heap.size by omega); clear b1
      go_wp2_with fail
      (with_reducible refine (H2.out _).mono ?_); rintro e w2 ⟨rfl, b2⟩; have s2 : w1.heap.size ≤ w2.heap.size := sz b2; have B2 := Lib.hid (Bc (B := w.heap.size) (a := w) (by (repeat (first | with_reducible exact Below.refl _ _ | with_reducible refine Bs ?_ | with_reducible refine Ba ?_ | with_reducible refine Bd ?_ | with_reducible refine Bn ?_ | with_reducible refine Bt B1.out ?_))) b2); clear b2
      go_wp2_with fail
      go_ret2
      exact ⟨rfl, by (repeat (first | with_reducible exact Below.refl _ _ | with_reducible refine Bs ?_ | with_reducible refine Ba ?_ | with_reducible refine Bd ?_ | with_reducible refine Bn ?_ | with_reducible refine Bt B2.out ?_))⟩
    | true =>
      have H4 := Lib.hid (H3.out hb hb2)
      rw [hb] at H1
      rw [hb2] at H2
      clear H3 hb hb2
      simp only [Bool.and_true, if_true]
      go_enter Try.func148, Try.ntmps148
      go_wp2_with fail
      (with_reducible refine (H1.out _).mono ?_); rintro e w1 ⟨rfl, b1⟩; have s1 : w.heap.size + 1 + 1 ≤ w1.heap.size := sz b1; have B1 := Lib.hid (Bc (B := w.heap.size) (a := w) (by (repeat (first | with_reducible exact Below.refl _ _ | with_reducible refine Bs ?_ | with_reducible refine Ba ?_ | with_reducible refine Bd ?_ | with_reducible refine Bn ?_))) b1); obtain ⟨c1_0, c1_1⟩ := k2 (w.heap.size) (.int .i64 p) (.int .i64 q) b1 (by and_intros <;> go_simp); obtain ⟨c1_2, c1_3⟩ := k2 (w.heap.size + 1) (.int .i64 r) (.int .i64 s) b1 (by and_intros <;> go_simp); obtain ⟨l1_0, n1_0, m1_0⟩ := lnm (show w.heap.size < w1.heap.size by omega); obtain ⟨l1_1, n1_1, m1_1⟩ := lnm (show w.heap.size + 1 < w1.heap.size by omega); clear b1
      go_wp2_with fail
      (with_reducible refine (H2.out _).mono ?_); rintro e w2 ⟨rfl, b2⟩; have s2 : w1.heap.size ≤ w2.heap.size := sz b2; have B2 := Lib.hid (Bc (B := w.heap.size) (a := w) (by (repeat (first | with_reducible exact Below.refl _ _ | with_reducible refine Bs ?_ | with_reducible refine Ba ?_ | with_reducible refine Bd ?_ | with_reducible refine Bn ?_ | with_reducible refine Bt B1.out ?_))) b2); obtain ⟨c2_0, c2_1⟩ := k2 (w.heap.size) (.int .i64 p) (.int .i64 q) b2 (by and_intros <;> go_simp); obtain ⟨c2_2, c2_3⟩ := k2 (w.heap.size + 1) (.int .i64 r) (.int .i64 s) b2 (by and_intros <;> go_simp); obtain ⟨l2_0, n2_0, m2_0⟩ := lnm (show w.heap.size < w2.heap.size by omega); obtain ⟨l2_1, n2_1, m2_1⟩ := lnm (show w.heap.size + 1 < w2.heap.size by omega); clear b2
      go_wp2_with fail
      (with_reducible refine (H4.out _).mono ?_); rintro e w3 ⟨rfl, b3⟩; have s3 : w2.heap.size ≤ w3.heap.size := sz b3; have B3 := Lib.hid (Bc (B := w.heap.size) (a := w) (by (repeat (first | with_reducible exact Below.refl _ _ | with_reducible refine Bs ?_ | with_reducible refine Ba ?_ | with_reducible refine Bd ?_ | with_reducible refine Bn ?_ | with_reducible refine Bt B2.out ?_))) b3); clear b3
      go_wp2_with fail
      go_ret2
      exact ⟨rfl, by (repeat (first | with_reducible exact Below.refl _ _ | with_reducible refine Bs ?_ | with_reducible refine Ba ?_ | with_reducible refine Bd ?_ | with_reducible refine Bn ?_ | with_reducible refine Bt B3.out ?_))⟩
end Go.Proofs.Ytjmjnkilgoelbaa

namespace Go.Proofs.Ytjmjnkilgoelbaa
open Go.RowKit

theorem allS_take {l : List (Int × Int)} {k : Nat} {x : Int × Int} (hx : l[k]? = some x) (h : allS (l.take k) = true) (hs : scoreB x = true) : allS (l.take (k + 1)) = true := by
  rw [take_snoc' hx]
  unfold allS at *
  rw [List.all_append, h]
  simp [hs]

theorem allS_not {l : List (Int × Int)} {k : Nat} {x : Int × Int} (hx : l[k]? = some x) (hs : scoreB x = false) : allS l = false := by
  unfold allS
  rw [List.all_eq_false]
  exact ⟨x, List.mem_of_getElem? hx, by rw [hs]; simp⟩

set_option maxRecDepth 100000 in
set_option maxHeartbeats 4000000 in
theorem sall_any (v : Value) (l : List (Int × Int)) (w : World) (h : PairsR w v l) : Calls Try.prog 165 #[v] w fun e w' => e = .returned (.int .i64 (if allS l = true then 0 else 130)) ∧ Below w.heap.size w w' := by
  have HX := Lib.hid h
  obtain ⟨ad, c, rfl, q1, q2, q3, _⟩ := h
  obtain ⟨n, hn⟩ : ∃ n, l.length = n := ⟨_, rfl⟩
  rw [hn] at q1 q3 HX ⊢
  have HN := Lib.hid hn
  clear hn
  obtain ⟨R, hR⟩ : ∃ R, (if allS l = true then (0 : Int) else 130) = R := ⟨_, rfl⟩
  rw [hR]
  have HR := Lib.hid hR
  clear hR
  go_enter Try.func165, Try.ntmps165
  go_wp2_with fail
  go_loopw [4, 7] (fun _ i wr => ∃ k : Nat, i = .int .i64 k ∧ k ≤ n ∧ allS (l.take k) = true ∧ Below w.heap.size w wr) (fun _ i _ => n - (intOf i).toNat)
  case atStart => exact ⟨0, rfl, by omega, rfl, by (repeat (first | with_reducible exact Below.refl _ _ | with_reducible refine Bs ?_ | with_reducible refine Ba ?_ | with_reducible refine Bd ?_ | with_reducible refine Bn ?_))⟩
  case round =>
    obtain ⟨k, rfl, hk, hall, hbr⟩ := hrel
    have HA := Lib.hid hall
    have HBR := Lib.hid hbr
    have hsz := hbr.size
    have i1 : (0 : Int) ≤ (k : Int) := by omega
    by_cases hlt : k < n
    · obtain ⟨⟨p, q⟩, hx⟩ := getElem?_ex (l := l) (k := k) (by rw [HN.out]; exact hlt)
      obtain ⟨b, o, rfl⟩ := HX.out.addr (by rw [HN.out]; omega)
      obtain ⟨hb, c0, c1⟩ := HX.out.at hx
      have e0 := (hbr.cell (p := ⟨b, o + k * 2, none⟩) hb).trans c0
      have e1 := (hbr.cell (p := ⟨b, o + k * 2 + 1, none⟩) hb).trans c1
      have HK := Lib.hid hx
      have i2 : (k : Int) < (n : Int) := by omega
      have hbz : b < wr.heap.size := by omega
      have hbz2 : b ≠ wr.heap.size := by omega
      have HIS := Lib.hid (fun W => sis_any p q W)
      have HYES := Lib.hid (fun hs : scoreB (p, q) = true => allS_take HK.out HA.out hs)
      have HNO := Lib.hid (fun hs : scoreB (p, q) = false => allS_not HK.out hs)
      clear c0 c1 hx hall hbr
      obtain ⟨TB, hTB⟩ : ∃ TB, scoreB (p, q) = TB := ⟨_, rfl⟩
      rw [hTB] at HIS HYES HNO
      clear hTB
      cases TB with
      | false =>
        have HN2 := Lib.hid (HNO.out rfl)
        clear HYES
        go_wp2_with fail
        (with_reducible refine (HIS.out _).mono ?_)
        rintro e w4 ⟨rfl, b4⟩
        have B4 := Lib.hid (show Below wr.heap.size wr w4 from below_tr (by (repeat (first | with_reducible exact Below.refl _ _ | with_reducible refine Bs ?_ | with_reducible refine Ba ?_ | with_reducible refine Bd ?_ | with_reducible refine Bn ?_))) (b4.mono (by first | omega | (simp; done) | (simp; omega))))
        clear b4
        go_wp2_with fail
        exact bodyPost_ret (v := .int .i64 130) (by simp [results, Try.results165, go_sem]) rfl ⟨by rw [← HR.out, HN2.out]; try rfl, by (repeat (first | with_reducible exact Below.refl _ _ | with_reducible refine Bs ?_ | with_reducible refine Ba ?_ | with_reducible refine Bd ?_ | with_reducible refine Bn ?_ | with_reducible refine Bt B4.out ?_ | with_reducible refine Bt HBR.out ?_))⟩
      | true =>
        have HN2 := Lib.hid (HYES.out rfl)
        clear HNO
        go_wp2_with fail
        (with_reducible refine (HIS.out _).mono ?_)
        rintro e w4 ⟨rfl, b4⟩
        have B4 := Lib.hid (show Below wr.heap.size wr w4 from below_tr (by (repeat (first | with_reducible exact Below.refl _ _ | with_reducible refine Bs ?_ | with_reducible refine Ba ?_ | with_reducible refine Bd ?_ | with_reducible refine Bn ?_))) (b4.mono (by first | omega | (simp; done) | (simp; omega))))
        clear b4
        go_wp2_with fail
        go_roundw
        case rel => exact ⟨k + 1, by go_num, by omega, HN2.out, by (repeat (first | with_reducible exact Below.refl _ _ | with_reducible refine Bs ?_ | with_reducible refine Ba ?_ | with_reducible refine Bd ?_ | with_reducible refine Bn ?_ | with_reducible refine Bt B4.out ?_ | with_reducible refine Bt HBR.out ?_))⟩
        case measure => simp [intOf] <;> omega
    · obtain rfl : k = n := by omega
      have htk : l.take k = l := List.take_of_length_le (by rw [HN.out]; exact Nat.le_refl _)
      have HN2 := Lib.hid (htk ▸ HA.out)
      clear htk hall hbr
      go_wp2_with fail
      go_ret
      exact ⟨by rw [← HR.out, HN2.out]; try rfl, by (repeat (first | with_reducible exact Below.refl _ _ | with_reducible refine Bs ?_ | with_reducible refine Ba ?_ | with_reducible refine Bd ?_ | with_reducible refine Bn ?_ | with_reducible refine Bt HBR.out ?_))⟩

set_option maxRecDepth 100000 in
set_option maxHeartbeats 4000000 in
theorem rall13_any (v : Value) (l : List (Int × Int)) (w : World) (h : PairsR w v l) : Calls Try.prog 56 #[v] w fun e w' => e = .returned (.bool (allS l)) ∧ Below w.heap.size w w' := by
  have HX := Lib.hid h
  obtain ⟨ad, c, rfl, q1, q2, q3, _⟩ := h
  obtain ⟨n, hn⟩ : ∃ n, l.length = n := ⟨_, rfl⟩
  rw [hn] at q1 q3 HX ⊢
  have HN := Lib.hid hn
  clear hn
  obtain ⟨R, hR⟩ : ∃ R, allS l = R := ⟨_, rfl⟩
  rw [hR]
  have HR := Lib.hid hR
  clear hR
  go_enter Try.func56, Try.ntmps56
  go_wp2_with fail
  go_loopw [3] (fun i wr => ∃ k : Nat, i = .int .i64 k ∧ k ≤ n ∧ allS (l.take k) = true ∧ Below w.heap.size w wr) (fun i _ => n - (intOf i).toNat)
  case atStart => exact ⟨0, rfl, by omega, rfl, by (repeat (first | with_reducible exact Below.refl _ _ | with_reducible refine Bs ?_ | with_reducible refine Ba ?_ | with_reducible refine Bd ?_ | with_reducible refine Bn ?_))⟩
  case round =>
    obtain ⟨k, rfl, hk, hall, hbr⟩ := hrel
    have HA := Lib.hid hall
    have HBR := Lib.hid hbr
    have hsz := hbr.size
    have i1 : (0 : Int) ≤ (k : Int) := by omega
    by_cases hlt : k < n
    · obtain ⟨⟨p, q⟩, hx⟩ := getElem?_ex (l := l) (k := k) (by rw [HN.out]; exact hlt)
      obtain ⟨b, o, rfl⟩ := HX.out.addr (by rw [HN.out]; omega)
      obtain ⟨hb, c0, c1⟩ := HX.out.at hx
      have e0 := (hbr.cell (p := ⟨b, o + k * 2, none⟩) hb).trans c0
      have e1 := (hbr.cell (p := ⟨b, o + k * 2 + 1, none⟩) hb).trans c1
      have HK := Lib.hid hx
      have i2 : (k : Int) < (n : Int) := by omega
      have hbz : b < wr.heap.size := by omega
      have hbz2 : b ≠ wr.heap.size := by omega
      have HIS := Lib.hid (fun W => ris13_any p q W)
      have HYES := Lib.hid (fun hs : scoreB (p, q) = true => allS_take HK.out HA.out hs)
      have HNO := Lib.hid (fun hs : scoreB (p, q) = false => allS_not HK.out hs)
      clear c0 c1 hx hall hbr
      obtain ⟨TB, hTB⟩ : ∃ TB, scoreB (p, q) = TB := ⟨_, rfl⟩
      rw [hTB] at HIS HYES HNO
      clear hTB
      cases TB with
      | false =>
        have HN2 := Lib.hid (HNO.out rfl)
        clear HYES
        go_wp2_with fail
        (with_reducible refine (HIS.out _).mono ?_)
        rintro e w4 ⟨rfl, b4⟩
        have B4 := Lib.hid (show Below wr.heap.size wr w4 from below_tr (by (repeat (first | with_reducible exact Below.refl _ _ | with_reducible refine Bs ?_ | with_reducible refine Ba ?_ | with_reducible refine Bd ?_ | with_reducible refine Bn ?_))) (b4.mono (by first | omega | (simp; done) | (simp; omega))))
        clear b4
        go_wp2_with fail
        exact bodyPost_ret (v := .bool false) (by simp [results, Try.results56, go_sem]) rfl ⟨by rw [← HR.out, HN2.out]; try rfl, by (repeat (first | with_reducible exact Below.refl _ _ | with_reducible refine Bs ?_ | with_reducible refine Ba ?_ | with_reducible refine Bd ?_ | with_reducible refine Bn ?_ | with_reducible refine Bt B4.out ?_ | with_reducible refine Bt HBR.out ?_))⟩
      | true =>
        have HN2 := Lib.hid (HYES.out rfl)
        clear HNO
        go_wp2_with fail
        (with_reducible refine (HIS.out _).mono ?_)
        rintro e w4 ⟨rfl, b4⟩
        have B4 := Lib.hid (show Below wr.heap.size wr w4 from below_tr (by (repeat (first | with_reducible exact Below.refl _ _ | with_reducible refine Bs ?_ | with_reducible refine Ba ?_ | with_reducible refine Bd ?_ | with_reducible refine Bn ?_))) (b4.mono (by first | omega | (simp; done) | (simp; omega))))
        clear b4
        go_wp2_with fail
        go_roundw
        case rel => exact ⟨k + 1, by go_num, by omega, HN2.out, by (repeat (first | with_reducible exact Below.refl _ _ | with_reducible refine Bs ?_ | with_reducible refine Ba ?_ | with_reducible refine Bd ?_ | with_reducible refine Bn ?_ | with_reducible refine Bt B4.out ?_ | with_reducible refine Bt HBR.out ?_))⟩
        case measure => simp [intOf] <;> omega
    · obtain rfl : k = n := by omega
      have htk : l.take k = l := List.take_of_length_le (by rw [HN.out]; exact Nat.le_refl _)
      have HN2 := Lib.hid (htk ▸ HA.out)
      clear htk hall hbr
      go_wp2_with fail
      go_ret
      exact ⟨by rw [← HR.out, HN2.out]; try rfl, by (repeat (first | with_reducible exact Below.refl _ _ | with_reducible refine Bs ?_ | with_reducible refine Ba ?_ | with_reducible refine Bd ?_ | with_reducible refine Bn ?_ | with_reducible refine Bt HBR.out ?_))⟩
end Go.Proofs.Ytjmjnkilgoelbaa

namespace Go.Proofs.Ytjmjnkilgoelbaa
open Go.RowKit

/-- app1 at a step of a region that draws its order: all other blocks are as they were. -/
theorem app1_stepG {P : Program} {ops : Array Oper} {o : Oper} {a : Act} {K : Act → World → Prop} {Q : Exit → Act → World → Prop} {E : Prop} (hgd : o.guard = none) (s x : Operand) (t : TypeId)
    (ho : o.op = .call { callee := .builtin .append, args := #[s, x], argTypes := #[t, t] })
    {e : TypeId} {z : Value} {size bytes : Nat} (ht : P.underlying t = some (.slice e)) (hE : EI P e z size bytes)
    (base : Nat) {v : Value} {n : Nat} {xs : List Value} {W : World} {m : Nat} {cs : Array Value} {T : TypeId} {C : Nat} (hs : a.eval s = v) (hown : W.ownsRow base e size v n xs)
    (hx : a.eval x = .slice (some ⟨W.heap.size, 0, none⟩) 1 C) (hcs : cs.size = size) (h1 : ∀ u ∈ cs.toList, u.oneCell' = true)
    (hbytes : (n + 1) * bytes ≤ 140737488355328) (hbase : base ≤ W.heap.size)
    (h : ∀ v' w', w'.ownsRow base e size v' (n + 1) (xs ++ cs.toList) → Below base W w' → (∀ q, q < W.heap.size → v.ownBlock ≠ some q → w'.heap[q]? = W.heap[q]?) → K (a.put o.dst v') w') :
    if Region.wanted o (yielded ops a.tmps) = true then o.wp P a ((W.alloc (.cells cs T)).drewN m) K Q else E := by
  have hw : Region.wanted o (yielded ops a.tmps) = true := by unfold Region.wanted; rw [hgd]
  rw [if_pos hw]
  obtain ⟨i, hi, hz, hsize, hby, hzs, hsz, hbp⟩ := hE
  have h63 : n + 1 ≤ 140737488355328 := Nat.le_trans (Nat.le_mul_of_pos_right _ hbp) hbytes
  have hown2 : ((W.alloc (.cells cs T)).drewN m).ownsRow base e size v n xs := hown.alloc _
  obtain ⟨v', w', hrun, h2, h3, _⟩ := run_append_own_at (P := P) ((W.alloc (.cells cs T)).drewN m) base t o.type e i z size bytes ht hi hz hsize hby hzs hsz v n xs hown2 ⟨W.heap.size, 0, none⟩ 1 C cs.toList (by simp [hcs]) (by
    intro j u hu
    have hadd : (⟨W.heap.size, 0, none⟩ : Addr).add j = ⟨W.heap.size, j, none⟩ := by unfold Addr.add; split <;> simp_all
    rw [hadd]
    have hb := heap_alloc_new W (.cells cs T)
    show (W.alloc (.cells cs T)).cell? _ = _
    simp only [World.cell?, hb]
    simpa using hu) h1 (by unfold maxLen; omega) hbytes (by show base ≤ (W.alloc (.cells cs T)).heap.size; simp; omega)
  unfold Oper.wp execOp
  simp only [ho, resolve, invoke, builtin, Sem.run_bind, Sem.run_pure, Result.andThen_ok, List.map_toArray, List.map_cons, List.map_nil, hs, hx, hrun]
  refine h v' w' h2 ?_ (fun q hq hne => (h3.block q (by show q < (W.alloc (.cells cs T)).heap.size; simp; omega) (fun h => hne h.symm)).trans (Below.heap_alloc _ _ _ hq))
  refine Below.trans ((Below.refl _ _).alloc hbase (.cells cs T)) ?_
  exact (below_drewN (Below.refl _ _) m).trans ((Below.refl _ _).grown h3 (by show base ≤ (W.alloc (.cells cs T)).heap.size; simp; omega) fun k hk => (hown.lt k hk).1)

/-- app1 at a step of a region that draws its order. -/
theorem app1_step {P : Program} {ops : Array Oper} {o : Oper} {a : Act} {K : Act → World → Prop} {Q : Exit → Act → World → Prop} {E : Prop} (hgd : o.guard = none) (s x : Operand) (t : TypeId)
    (ho : o.op = .call { callee := .builtin .append, args := #[s, x], argTypes := #[t, t] })
    {e : TypeId} {z : Value} {size bytes : Nat} (ht : P.underlying t = some (.slice e)) (hE : EI P e z size bytes)
    (base : Nat) {v : Value} {n : Nat} {xs : List Value} {W : World} {m : Nat} {cs : Array Value} {T : TypeId} {C : Nat} (hs : a.eval s = v) (hown : W.ownsRow base e size v n xs)
    (hx : a.eval x = .slice (some ⟨W.heap.size, 0, none⟩) 1 C) (hcs : cs.size = size) (h1 : ∀ u ∈ cs.toList, u.oneCell' = true)
    (hbytes : (n + 1) * bytes ≤ 140737488355328) (hbase : base ≤ W.heap.size)
    (h : ∀ v' w', w'.ownsRow base e size v' (n + 1) (xs ++ cs.toList) → Below base W w' → K (a.put o.dst v') w') :
    if Region.wanted o (yielded ops a.tmps) = true then o.wp P a ((W.alloc (.cells cs T)).drewN m) K Q else E :=
  app1_stepG hgd s x t ho ht hE base hs hown hx hcs h1 hbytes hbase fun v' w' a b _ => h v' w' a b

theorem i64_wrap {z : Int} (h : -9223372036854775808 ≤ z) (h' : z ≤ 9223372036854775807) : IntKind.i64.wrap z = z := by
  rw [IntKind.wrap_i64]; omega

end Go.Proofs.Ytjmjnkilgoelbaa

namespace Go.Proofs.Ytjmjnkilgoelbaa
open Go.RowKit

theorem wpStill_of_quiet {P : Program} {ops : Array Oper} {W : World} {Q : Act → Prop} : ∀ (l : List Oper) (a : Act), wpQuiet P ops (fun w' => w' = W) Q l a → wpStill P ops W Q l a
  | [], _, h => h
  | o :: rest, a, h => by
    unfold wpQuiet at h
    unfold wpStill
    split
    · rename_i hw
      rw [if_pos hw] at h
      obtain ⟨v, hq, hn⟩ := h
      have hq := hq W rfl
      unfold Oper.quietAt at hq
      unfold Oper.still
      generalize (execOp a.eval o).run P W = r at hq
      cases r with
      | ok n w' =>
        cases n with
        | value u => obtain ⟨h1, h2⟩ := hq; subst h2; exact ⟨h1, wpStill_of_quiet rest _ hn⟩
        | skip => obtain ⟨h1, h2⟩ := hq; subst h2; exact ⟨h1, wpStill_of_quiet rest _ hn⟩
        | enter f args => obtain ⟨h1, h2⟩ := hq; exact ⟨h1, v, h2, wpStill_of_quiet rest _ hn⟩
        | _ => exact hq.elim
      | halt x w' => exact hq.elim
    · rename_i hw
      rw [if_neg hw] at h
      exact wpStill_of_quiet rest _ h

theorem wp_region_tail_quiet {P : Program} {id : Nat} {Q : Exit → Act → World → Prop} {a : Act} {w : World} {l : List Oper} (n : Nat) (hm : P.follows .mixedOrders = true) (hB : Region.lexTailB .any l.toArray n = true)
    (h : wpQuiet P l.toArray (fun w' => w' = w.drew) (fun a' => wpList P l.toArray Q (l.drop n) a' w.drew) (l.take n) a) : (Code.region id l.toArray true).wp P Q a w :=
  wp_region_still_tail n hm hB (wpStill_of_quiet _ _ h)

/-- The first n operations from k on come up one by one, forced. -/
def headB (md : Region.Mode) (ops : Array Oper) : Nat → Nat → Array Bool → Bool
  | 0, _, _ => true
  | n + 1, k, listed => decide (Region.ready md ops listed = [k]) && headB md ops n (k + 1) (listed.setIfInBounds k true)
def markB : Nat → Nat → Array Bool → Array Bool
  | 0, _, listed => listed
  | n + 1, k, listed => markB n (k + 1) (listed.setIfInBounds k true)

/-- What stands behind a forced head: a walk that only reads. -/
def QuietNext (P : Program) (ops : Array Oper) (Q : Exit → Act → World → Prop) (l : List Oper) : Exit → Act → World → Prop
  | .normal, a, w => wpQuiet P ops (fun w' => ∃ n, w' = w.drewN n) (fun a' => ∀ w', (∃ n, w' = w.drewN n) → Q .normal a' w') l a
  | e, a, w => Q e a w

theorem QuietNext.of {P : Program} {ops : Array Oper} {Q : Exit → Act → World → Prop} {l : List Oper} {a : Act} {w : World}
    (h : wpQuiet P ops (fun w' => ∃ n, w' = w.drewN n) (fun a' => ∀ w', (∃ n, w' = w.drewN n) → Q .normal a' w') l a) : QuietNext P ops Q l .normal a w := h

theorem wp_q {P : Program} {o : Oper} {a : Act} {w : World} {K : Act → World → Prop} {Q Q' : Exit → Act → World → Prop} (h : ∀ e a w, e ≠ .normal → Q e a w → Q' e a w) (hh : o.wp P a w K Q) : o.wp P a w K Q' := by
  unfold Oper.wp at *
  generalize (execOp a.eval o).run P w = r at *
  cases r with
  | ok n w' =>
    cases n <;> simp only [Oper.upon] at hh ⊢ <;>
      first
        | exact hh
        | exact Calls.mono hh (fun e w'' he => by
            cases e with
            | returned v => exact he
            | panicked c => exact h _ _ _ (by simp) he
            | outgrown => obtain ⟨a, w, g⟩ := he; exact ⟨a, w, h _ _ _ (by simp) g⟩)
  | halt x w' =>
    cases x <;> simp only [Oper.upon] at hh ⊢ <;> first | exact hh | exact h _ _ _ (by simp) hh

theorem wpAny_of_head_quiet {P : Program} {md : Region.Mode} {ops : Array Oper} {Q : Exit → Act → World → Prop} {rest : List Oper} (hs : Region.noSelect ops = true) (m : Nat) (hrest : ∀ j, rest[j]? = ops[m + j]?) :
    ∀ (l : List Oper) (k : Nat) (listed : Array Bool) (a : Act) (w : World), k + l.length = m → (∀ j, j < l.length → l[j]? = ops[k + j]?) → headB md ops l.length k listed = true →
      Region.lexFrom md ops rest.length m (markB l.length k listed) = true → wpList P ops (QuietNext P ops Q rest) l a w → wpAny P md ops Q (l.length + rest.length) listed a w
  | [], k, listed, a, w, hk, _, _, hlex, h => by
    rw [List.length_nil, Nat.zero_add]
    refine wpAny_of_quiet (C := fun w' => ∃ n, w' = w.drewN n) (Q := fun a' => ∀ w', (∃ n, w' = w.drewN n) → Q .normal a' w') (fun _ w' hw' h => h w' hw') _ _ _ _ ⟨0, rfl⟩ ?_
    exact wpAnyQ_lex hs rest m listed a hrest hlex h
  | o :: l, k, listed, a, w, hk, hl, hB, hlex, h => by
    have h0 : ops[k]? = some o := by have := hl 0 (by simp); simpa using this.symm
    simp only [List.length_cons, headB, Bool.and_eq_true, decide_eq_true_eq] at hB
    rw [List.length_cons, show l.length + 1 + rest.length = l.length + rest.length + 1 by omega]
    refine ⟨fun h1 => (by rw [hB.1] at h1; cases h1), fun i hi => ?_⟩
    rw [hB.1] at hi
    obtain rfl : i = k := by simpa using hi
    have hq : ∀ e a w, e ≠ .normal → QuietNext P ops Q rest e a w → Q e a w := fun e a w he hh => by cases e <;> first | exact hh | exact absurd rfl he
    have hw : wpOp P ops Q i (wpList P ops (QuietNext P ops Q rest) l) a w := by
      unfold wpList at h
      unfold wpOp
      simp only [h0]
      split
      · rename_i hwant
        rw [if_pos hwant] at h
        rcases h with h | ⟨h1, a', w', h2⟩
        · exact .inl (wp_q hq h)
        · exact .inr ⟨h1, a', w', hq _ _ _ (by simp) h2⟩
      · rename_i hwant
        rw [if_neg hwant] at h
        exact h
    exact wpOp_mono (fun a' w' h' => wpAny_of_head_quiet hs m hrest l (i + 1) _ a' w' (by simp at hk; omega) (fun j hj => by have := hl (j + 1) (by simp; omega); simpa [Nat.add_assoc, Nat.add_comm 1 j] using this) hB.2 hlex h') hw

def headQuietB (ops : Array Oper) (n : Nat) : Bool :=
  Region.noSelect ops && decide (n ≤ ops.size) && headB .any ops n 0 (Array.replicate ops.size false) && Region.lexFrom .any ops (ops.size - n) n (markB n 0 (Array.replicate ops.size false))

/-- A region that draws its order: a forced head (calls), behind it operations that only read. -/
theorem wp_region_head_quiet {P : Program} {id : Nat} {Q : Exit → Act → World → Prop} {a : Act} {w : World} {l : List Oper} (n : Nat) (hm : P.follows .mixedOrders = true) (hB : headQuietB l.toArray n = true)
    (h : wpList P l.toArray (QuietNext P l.toArray Q (l.drop n)) (l.take n) a w.drew) : (Code.region id l.toArray true).wp P Q a w := by
  simp only [headQuietB, Bool.and_eq_true, decide_eq_true_eq] at hB
  obtain ⟨⟨⟨h1, h2⟩, h3⟩, h4⟩ := hB
  have h2' : n ≤ l.length := by simpa using h2
  have e1 : (l.take n).length = n := by simp; omega
  have e2 : (l.drop n).length = l.length - n := by simp
  refine wp_region_any hm ?_
  have e3 : l.toArray.size = (l.take n).length + (l.drop n).length := by rw [e1, e2]; simp; omega
  have := wpAny_of_head_quiet (P := P) (md := .any) (ops := l.toArray) (Q := Q) (rest := l.drop n) h1 n (fun j => by simp [List.getElem?_drop]) (l.take n) 0 (Array.replicate l.toArray.size false) a w.drew (by rw [e1]; omega)
    (fun j hj => by rw [e1] at hj; simp [hj]) (by rw [e1]; exact h3) (by rw [e1, e2]; simpa using h4) h
  rw [← e3] at this
  exact this
end Go.Proofs.Ytjmjnkilgoelbaa

namespace Go.Proofs.Ytjmjnkilgoelbaa
open Go.RowKit

theorem eiScore : EI Try.prog 24 (.agg #[.int .i64 0, .int .i64 0]) 2 16 := .of (by kernel_rfl) rfl (by decide) (by decide)

def sliceN : Value → Nat
  | .slice _ n _ => n
  | _ => 0

theorem mergeS_nil (a : List (Int × Int)) : mergeS a [] = a := by
  cases a with
  | nil => unfold mergeS; rfl
  | cons x a => unfold mergeS; rfl

theorem allS_cons {x : Int × Int} {l : List (Int × Int)} (h : allS (x :: l) = true) : scoreB x = true ∧ allS l = true := by
  unfold allS at *
  simpa using h

theorem score_ok {p q : Int} (h : scoreB (p, q) = true) : Ok64 p ∧ Ok64 q := by
  have := scoreB_is.1 h
  unfold Ok64
  omega

theorem PairsR.tail {w : World} {b o n c : Nat} {x : Int × Int} {A : List (Int × Int)} (h : PairsR w (.slice (some ⟨b, o, none⟩) n c) (x :: A)) :
    PairsR w (.slice (if c = 1 then some ⟨b, o, none⟩ else some ⟨b, o + 2, none⟩) A.length (c - 1)) A := by
  have h0 := h
  obtain ⟨_, _, e, h1, h2, _⟩ := h0
  injection e with e1 e2 e3
  subst e3
  rw [List.length_cons] at h1
  by_cases hc : c = 1
  · rw [if_pos hc]
    have : A = [] := List.eq_nil_of_length_eq_zero (by omega)
    subst this
    exact pairs_nil _ _ _ (by omega)
  · rw [if_neg hc]
    have := h.cutAt (i := 1) (m := A.length) (by simp; omega) (o' := o + 2) (by omega) (c - 1) (by omega) (by omega)
    simpa using this

set_option maxRecDepth 100000 in
set_option maxHeartbeats 8000000 in
theorem smerge_any (va vb : Value) (a b : List (Int × Int)) (w : World) (ha : PairsR w va a) (hb : PairsR w vb b) (hl : a.length + b.length ≤ 100000) (sa : allS a = true) (sb : allS b = true) :
    Calls Try.prog 193 #[va, vb, .func (.func 167) #[] #[]] w fun e w' => ∃ v', e = .returned v' ∧ PairsR w' v' (mergeS a b) ∧ Below w.heap.size w w' := by
  obtain ⟨xa, xc, rfl⟩ := ha.shape
  obtain ⟨ya, yc, rfl⟩ := hb.shape
  have HPA := Lib.hid ha
  have HPB := Lib.hid hb
  obtain ⟨N, hN⟩ : ∃ N, a.length + b.length = N := ⟨_, rfl⟩
  have HN := Lib.hid hN
  have hNb : N ≤ 100000 := by omega
  have HSA := Lib.hid sa
  have HSB := Lib.hid sb
  obtain ⟨_, _, _, _, hb1, hb2, _⟩ := ha
  obtain ⟨_, _, _, _, hb3, hb4, _⟩ := hb
  obtain ⟨m1, hm1⟩ : ∃ m, a.length = m := ⟨_, rfl⟩
  obtain ⟨m2, hm2⟩ : ∃ m, b.length = m := ⟨_, rfl⟩
  have hmm : (m1 : Int) + m2 = (m1 + m2 : Nat) := by omega
  clear sa sb
  have HM1 := Lib.hid hm1
  have HM2 := Lib.hid hm2
  rw [hm1, hm2] at hN
  rw [hm1] at HPA ⊢
  rw [hm2] at HPB ⊢
  clear hm1 hm2 hb1 hb2 hb3 hb4
  go_enter Try.func193, Try.ntmps193
  go_wp2_with (at_make; go_must (refine mkown rfl _ _ 28 rfl Try.underlying28 eiScore w.heap.size N (by rfl) (by rfl) ?_ (by omega) (Nat.le_refl _) ?_))
  · rfl
  intro w1 hown hb1 _
  have HOWN := Lib.hid hown
  have B1 := Lib.hid hb1
  clear hown hb1
  go_wp2_with fail
  go_loopw [0, 1, 7] (fun x y out wr => ∃ (xa : Option Addr) (xc : Nat) (A : List (Int × Int)) (ya : Option Addr) (yc : Nat) (B D : List (Int × Int)), x = .slice xa A.length xc ∧ y = .slice ya B.length yc ∧ PairsR w (.slice xa A.length xc) A ∧ PairsR w (.slice ya B.length yc) B ∧ wr.ownsRow w.heap.size 24 2 out D.length (D.flatMap pairF) ∧ D ++ mergeS A B = mergeS a b ∧ D.length + A.length + B.length = N ∧ allS A = true ∧ allS B = true ∧ Below w.heap.size w wr) (fun x y _ _ => sliceN x + sliceN y)
  case atStart =>
    rw [← HM1.out, ← HM2.out]
    exact ⟨xa, xc, a, ya, yc, b, [], rfl, rfl, HM1.out ▸ HPA.out, HM2.out ▸ HPB.out, HOWN.out, rfl, by simp; exact HN.out, HSA.out, HSB.out, B1.out⟩
  case round =>
    obtain ⟨xa, xc, A, ya, yc, B, D, rfl, rfl, hA, hB, hown, hmer, hlen, sA, sB, hbr⟩ := hrel
    have HOWN := Lib.hid hown
    have HBR := Lib.hid hbr
    have HMER := Lib.hid hmer
    have HA := Lib.hid hA
    have HB := Lib.hid hB
    cases A with
    | nil =>
      have HE := Lib.hid (show D ++ B = mergeS a b by rw [← HMER.out]; unfold mergeS; rfl)
      obtain ⟨nb, hnb⟩ : ∃ n, B.length = n := ⟨_, rfl⟩
      rw [hnb] at hlen HB ⊢
      have HNB := Lib.hid hnb
      simp only [List.length_nil, Nat.add_zero] at hlen HA ⊢
      have hsz := hbr.size
      clear hA hB hown hmer sA sB hbr hnb
      go_wp2_with (at_builtin; go_must (refine appPairs rfl _ _ 28 rfl Try.underlying28 eiScore w.heap.size (by rfl) HOWN.out (by rfl) (HA.out.below HBR.out) (by simp; omega) hsz ?_))
      intro v5 w5 hown5 hb5 _
      have OWN5 := Lib.hid hown5
      have B5 := Lib.hid (below_tr HBR.out hb5)
      have hsz5 := B5.out.size
      clear hown5 hb5
      go_wp2_with (at_builtin; go_must (refine appPairs rfl _ _ 28 rfl Try.underlying28 eiScore w.heap.size (by rfl) OWN5.out (by rfl) (HB.out.below B5.out) (by have := HNB.out; simp; omega) hsz5 ?_))
      intro v6 w6 hown6 hb6 _
      have OWN6 := Lib.hid hown6
      have B6 := Lib.hid (below_tr B5.out hb6)
      clear hown6 hb6
      go_wp2_with fail
      go_ret
      refine ⟨_, rfl, ?_, B6.out⟩
      rw [← HE.out]
      have h := OWN6.out
      rw [← List.flatMap_append] at h
      exact own_pairs h (by simp) (by have := HNB.out; simp; omega)
    | cons x A =>
      cases B with
      | nil =>
        have HE := Lib.hid (show D ++ (x :: A) = mergeS a b by rw [← HMER.out, mergeS_nil])
        obtain ⟨na, hna⟩ : ∃ n, A.length = n := ⟨_, rfl⟩
        rw [List.length_cons, hna] at hlen HA ⊢
        have HNA := Lib.hid hna
        simp only [List.length_nil, Nat.add_zero] at hlen HB ⊢
        have hsz := hbr.size
        have ia : (0 : Int) < (na + 1 : Nat) := by omega
        clear hA hB hown hmer sA sB hbr hna
        go_wp2_with (at_builtin; go_must (refine appPairs rfl _ _ 28 rfl Try.underlying28 eiScore w.heap.size (by rfl) HOWN.out (by rfl) (HA.out.below HBR.out) (by have := HNA.out; simp; omega) hsz ?_))
        intro v5 w5 hown5 hb5 _
        have OWN5 := Lib.hid hown5
        have B5 := Lib.hid (below_tr HBR.out hb5)
        have hsz5 := B5.out.size
        clear hown5 hb5
        go_wp2_with (at_builtin; go_must (refine appPairs rfl _ _ 28 rfl Try.underlying28 eiScore w.heap.size (by rfl) OWN5.out (by rfl) (HB.out.below B5.out) (by have := HNA.out; simp; omega) hsz5 ?_))
        intro v6 w6 hown6 hb6 _
        have OWN6 := Lib.hid hown6
        have B6 := Lib.hid (below_tr B5.out hb6)
        clear hown6 hb6
        go_wp2_with fail
        go_ret
        refine ⟨_, rfl, ?_, B6.out⟩
        rw [← HE.out]
        have h := OWN6.out
        rw [← List.flatMap_cons, ← List.flatMap_append] at h
        exact own_pairs h (by simp) (by have := HNA.out; simp; omega)
      | cons y B =>
        obtain ⟨b1, o1, rfl⟩ := hA.addr (by simp)
        obtain ⟨b2, o2, rfl⟩ := hB.addr (by simp)
        obtain ⟨p, q⟩ := x
        obtain ⟨r, s⟩ := y
        obtain ⟨g1, c0, c1⟩ := hA.at (i := 0) rfl
        obtain ⟨g2, c2, c3⟩ := hB.at (i := 0) rfl
        have e0 := (hbr.cell (p := ⟨b1, o1 + 0 * 2, none⟩) g1).trans c0
        have e1 := (hbr.cell (p := ⟨b1, o1 + 0 * 2 + 1, none⟩) g1).trans c1
        have e2 := (hbr.cell (p := ⟨b2, o2 + 0 * 2, none⟩) g2).trans c2
        have e3 := (hbr.cell (p := ⟨b2, o2 + 0 * 2 + 1, none⟩) g2).trans c3
        simp only [Nat.zero_mul, Nat.add_zero] at e0 e1 e2 e3
        have hsz := hbr.size
        have k1 : b1 < wr.heap.size := by omega
        have k2 : b2 < wr.heap.size := by omega
        obtain ⟨s1, s2⟩ := allS_cons sA
        obtain ⟨s3, s4⟩ := allS_cons sB
        have HOD := Lib.hid (fun W => odder_any r s p q W (score_ok s3).1 (score_ok s3).2 (score_ok s1).1 (score_ok s1).2)
        have HS := Lib.hid (And.intro sA (And.intro sB (And.intro s2 s4)))
        obtain ⟨na, hna⟩ : ∃ n, A.length = n := ⟨_, rfl⟩
        obtain ⟨nb, hnb⟩ : ∃ n, B.length = n := ⟨_, rfl⟩
        rw [List.length_cons, hna] at hlen HA ⊢
        rw [List.length_cons, hnb] at hlen HB ⊢
        have HNA := Lib.hid hna
        have HNB := Lib.hid hnb
        have hxc : na + 1 ≤ xc := by obtain ⟨_, _, e, h1, _⟩ := HA.out; injection e with _ _ e3; subst e3; simp at h1; omega
        have hyc : nb + 1 ≤ yc := by obtain ⟨_, _, e, h1, _⟩ := HB.out; injection e with _ _ e3; subst e3; simp at h1; omega
        have ia : (0 : Int) < (na + 1 : Nat) := by omega
        have ia2 : (1 : Int) ≤ (na : Int) + 1 := by omega
        have ib2 : (1 : Int) ≤ (nb : Int) + 1 := by omega
        have ib : (0 : Int) < (nb + 1 : Nat) := by omega
        clear hA hB hown hmer sA sB hbr c0 c1 c2 c3 s1 s2 s3 s4 hna hnb
        by_cases hlt : oddI (r, s) (p, q) < 0
        · have HST := Lib.hid (show mergeS ((p, q) :: A) ((r, s) :: B) = (r, s) :: mergeS ((p, q) :: A) B by rw [mergeS, if_pos hlt])
          generalize oddI (r, s) (p, q) = R at *
          go_wp2_with fail
          refine wp_region_tail_quiet 7 (by kernel_rfl) (by kernel_rfl) ?_; simp only [List.take_succ_cons, List.take_zero, List.drop_succ_cons, List.drop_zero]; (repeat (go_big_quiet_step (fail))); refine wpQuiet_nil ?_
          go_wp2_with fail
          (with_reducible refine (HOD.out _).mono ?_)
          rintro e w4 ⟨rfl, b4⟩
          have B4 := Lib.hid (show Below wr.heap.size wr w4 from below_tr (by (repeat (first | with_reducible exact Below.refl _ _ | with_reducible refine Bs ?_ | with_reducible refine Ba ?_ | with_reducible refine Bd ?_ | with_reducible refine Bn ?_))) (b4.mono (by first | omega | (simp; done) | (simp; omega))))
          have z0 := (B4.out.cell (p := ⟨b1, o1, none⟩) k1).trans e0
          have z1 := (B4.out.cell (p := ⟨b1, o1 + 1, none⟩) k1).trans e1
          have z2 := (B4.out.cell (p := ⟨b2, o2, none⟩) k2).trans e2
          have z3 := (B4.out.cell (p := ⟨b2, o2 + 1, none⟩) k2).trans e3
          have s4 := B4.out.size
          have OWN4 := Lib.hid (own_keep HOWN.out (fun g _ hg => B4.out.block g hg))
          have l1 : b1 < w4.heap.size := by omega
          have l2 : b2 < w4.heap.size := by omega
          clear b4 e0 e1 e2 e3
          go_wp2_with fail
          go_region_held3 (fun w' => w'.cell? ⟨b2, o2, none⟩ = some (.int .i64 r) ∧ w'.cell? ⟨b2, o2 + 1, none⟩ = some (.int .i64 s)) (first | (go_simp; done) | (go_keep; done) | (refine ⟨?_, ?_⟩ <;> first | (go_simp; done) | (go_keep; done))) (first | ((refine app1_step rfl _ _ 28 rfl Try.underlying28 eiScore w.heap.size (by rfl) OWN4.out (by rfl) rfl (by simp [Value.oneCell']) (by omega) (by omega) ?_; intro v8 w8 hown8 hb8; have OWN8 := Lib.hid hown8; have B8 := Lib.hid hb8; have f0 := (hb8.cell (p := ⟨b2, o2, none⟩) (by omega)).trans z2; have f1 := (hb8.cell (p := ⟨b2, o2 + 1, none⟩) (by omega)).trans z3; clear hown8 hb8)))
          go_wp2_with fail
          go_roundw
          case rel =>
            refine ⟨some ⟨b1, o1, none⟩, xc, (p, q) :: A, _, yc - 1, B, D ++ [(r, s)], by rw [List.length_cons, HNA.out], by rw [← HNB.out], by rw [List.length_cons, HNA.out]; exact HA.out, HB.out.tail, ?_, ?_, ?_, HS.out.1, HS.out.2.2.2, below_tr HBR.out (below_tr (B4.out.mono hsz) B8.out)⟩
            · rw [List.length_append, List.flatMap_append]
              exact OWN8.out
            · rw [← HMER.out, HST.out, List.append_assoc]
              rfl
            · have := HNA.out; have := HNB.out; simp; omega
          case measure => simp [sliceN]
        · have HST := Lib.hid (show mergeS ((p, q) :: A) ((r, s) :: B) = (p, q) :: mergeS A ((r, s) :: B) by rw [mergeS, if_neg hlt])
          generalize oddI (r, s) (p, q) = R at *
          go_wp2_with fail
          refine wp_region_tail_quiet 7 (by kernel_rfl) (by kernel_rfl) ?_; simp only [List.take_succ_cons, List.take_zero, List.drop_succ_cons, List.drop_zero]; (repeat (go_big_quiet_step (fail))); refine wpQuiet_nil ?_
          go_wp2_with fail
          (with_reducible refine (HOD.out _).mono ?_)
          rintro e w4 ⟨rfl, b4⟩
          have B4 := Lib.hid (show Below wr.heap.size wr w4 from below_tr (by (repeat (first | with_reducible exact Below.refl _ _ | with_reducible refine Bs ?_ | with_reducible refine Ba ?_ | with_reducible refine Bd ?_ | with_reducible refine Bn ?_))) (b4.mono (by first | omega | (simp; done) | (simp; omega))))
          have z0 := (B4.out.cell (p := ⟨b1, o1, none⟩) k1).trans e0
          have z1 := (B4.out.cell (p := ⟨b1, o1 + 1, none⟩) k1).trans e1
          have z2 := (B4.out.cell (p := ⟨b2, o2, none⟩) k2).trans e2
          have z3 := (B4.out.cell (p := ⟨b2, o2 + 1, none⟩) k2).trans e3
          have s4 := B4.out.size
          have OWN4 := Lib.hid (own_keep HOWN.out (fun g _ hg => B4.out.block g hg))
          have l1 : b1 < w4.heap.size := by omega
          have l2 : b2 < w4.heap.size := by omega
          clear b4 e0 e1 e2 e3
          go_wp2_with fail
          go_region_held3 (fun w' => w'.cell? ⟨b1, o1, none⟩ = some (.int .i64 p) ∧ w'.cell? ⟨b1, o1 + 1, none⟩ = some (.int .i64 q)) (first | (go_simp; done) | (go_keep; done) | (refine ⟨?_, ?_⟩ <;> first | (go_simp; done) | (go_keep; done))) (first | ((refine app1_step rfl _ _ 28 rfl Try.underlying28 eiScore w.heap.size (by rfl) OWN4.out (by rfl) rfl (by simp [Value.oneCell']) (by omega) (by omega) ?_; intro v8 w8 hown8 hb8; have OWN8 := Lib.hid hown8; have B8 := Lib.hid hb8; have f0 := (hb8.cell (p := ⟨b1, o1, none⟩) (by omega)).trans z0; have f1 := (hb8.cell (p := ⟨b1, o1 + 1, none⟩) (by omega)).trans z1; clear hown8 hb8)))
          go_wp2_with fail
          go_roundw
          case rel =>
            refine ⟨_, xc - 1, A, some ⟨b2, o2, none⟩, yc, (r, s) :: B, D ++ [(p, q)], by rw [← HNA.out], by rw [List.length_cons, HNB.out], HA.out.tail, by rw [List.length_cons, HNB.out]; exact HB.out, ?_, ?_, ?_, HS.out.2.2.1, HS.out.2.1, below_tr HBR.out (below_tr (B4.out.mono hsz) B8.out)⟩
            · rw [List.length_append, List.flatMap_append]
              exact OWN8.out
            · rw [← HMER.out, HST.out, List.append_assoc]
              rfl
            · have := HNA.out; have := HNB.out; simp; omega
          case measure => simp [sliceN]
end Go.Proofs.Ytjmjnkilgoelbaa

namespace Go.Proofs.Ytjmjnkilgoelbaa
open Go.RowKit

/-- From the world a to the world m no block of a has changed. -/
def Since (a m : World) : Prop := Below a.heap.size a m

theorem Since.below {a m w : World} (h : Since a m) (k : Below m.heap.size m w) : Since a w := Bc h k h.size

theorem Since.own {a m w : World} (h : Since a m) (k : Below a.heap.size m w) : Since a w := Bc h k (Nat.le_refl _)

theorem seqTk {P : Program} {ops : Array Oper} {rest : List Oper} {o : Oper} {a : Act} {w : World} {Q : Exit → Act → World → Prop} {v : Value} (hw : Region.wanted o (yielded ops a.tmps) = true)
    (h : wpList P ops Q rest (a.put o.dst v) w) (hy : (execOp a.eval o).run P w = .ok (.value v) w) : wpList P ops Q (o :: rest) a w :=
  wpList_step fun K hK => by
    rw [if_pos hw]
    unfold Oper.wp
    rw [hy]
    exact hK _ _ h

theorem lexTk {P : Program} {md : Region.Mode} {ops : Array Oper} {Q : Exit → Act → World → Prop} {S : World → Prop} (i : Nat) {oi : Oper} {v : Value} {fuel : Nat} {listed : Array Bool} {a : Act} {w : World} (hi : ops.toList[i]? = some oi)
    (hS : S w) (h : wpAnyH P md ops Q S fuel (listed.setIfInBounds i true) (a.put oi.dst v) w) (hB : (Region.noSelect ops && Region.free md ops listed i && (Region.ready md ops listed).contains i) = true) (hQ : ∀ c a w, Q (.panic c) (a.put oi.dst v) w → Q (.panic c) a w)
    (hw : Region.wanted oi (yielded ops a.tmps) = true) (hy : ∀ w, S w → (execOp a.eval oi).run P w = .ok (.value v) w) : wpAnyH P md ops Q S (fuel + 1) listed a w := by
  simp only [Bool.and_eq_true] at hB
  exact wpAnyH_take (by simpa using hi) hB.1.1 hB.1.2 hB.2 hQ (Or.inl ⟨hw, hy⟩) hS h

theorem lexSk {P : Program} {md : Region.Mode} {ops : Array Oper} {Q : Exit → Act → World → Prop} {S : World → Prop} (i : Nat) {oi : Oper} {fuel : Nat} {listed : Array Bool} {a : Act} {w : World} (hi : ops.toList[i]? = some oi)
    (hS : S w) (h : wpAnyH P md ops Q S fuel (listed.setIfInBounds i true) (a.put oi.dst undef) w) (hB : (Region.noSelect ops && Region.free md ops listed i && (Region.ready md ops listed).contains i) = true) (hQ : ∀ c a w, Q (.panic c) (a.put oi.dst undef) w → Q (.panic c) a w)
    (hw : Region.wanted oi (yielded ops a.tmps) = false) : wpAnyH P md ops Q S (fuel + 1) listed a w := by
  simp only [Bool.and_eq_true] at hB
  exact wpAnyH_take (by simpa using hi) hB.1.1 hB.1.2 hB.2 hQ (Or.inr ⟨hw, rfl⟩) hS h

theorem lexHv {P : Program} {md : Region.Mode} {ops : Array Oper} {Q : Exit → Act → World → Prop} {S : World → Prop} (i : Nat) {o : Oper} {fuel : Nat} {listed : Array Bool} {a : Act} {w : World} (hi : ops.toList[i]? = some o)
    (h : ∀ K' : Act → World → Prop, Shut (∀ a w, S w → (S w → wpAnyH P md ops Q S fuel (listed.setIfInBounds i true) a w) → K' a w) → if Region.wanted o (yielded ops a.tmps) = true then Oper.wp P o a w K' Q else K' (a.put o.dst undef) w)
    (hr : Region.ready md ops listed = [i]) : wpAnyH P md ops Q S (fuel + 1) listed a w :=
  wpAnyH_ready hr (by simp) (AllReadyH.cons (by simpa using hi) h AllReadyH.nil)

theorem lexHv2 {P : Program} {md : Region.Mode} {ops : Array Oper} {Q : Exit → Act → World → Prop} {S : World → Prop} (i j : Nat) {o o' : Oper} {fuel : Nat} {listed : Array Bool} {a : Act} {w : World} (hi : ops.toList[i]? = some o) (hj : ops.toList[j]? = some o')
    (h : ∀ K' : Act → World → Prop, Shut (∀ a w, S w → (S w → wpAnyH P md ops Q S fuel (listed.setIfInBounds i true) a w) → K' a w) → if Region.wanted o (yielded ops a.tmps) = true then Oper.wp P o a w K' Q else K' (a.put o.dst undef) w)
    (h' : ∀ K' : Act → World → Prop, Shut (∀ a w, S w → (S w → wpAnyH P md ops Q S fuel (listed.setIfInBounds j true) a w) → K' a w) → if Region.wanted o' (yielded ops a.tmps) = true then Oper.wp P o' a w K' Q else K' (a.put o'.dst undef) w)
    (hr : Region.ready md ops listed = [i, j]) : wpAnyH P md ops Q S (fuel + 1) listed a w :=
  wpAnyH_ready hr (by simp) (AllReadyH.cons (by simpa using hi) h (AllReadyH.cons (by simpa using hj) h' AllReadyH.nil))
end Go.Proofs.Ytjmjnkilgoelbaa

namespace Go.Proofs.Ytjmjnkilgoelbaa
open Go.RowKit

theorem own_set {w : World} {base e size n : Nat} {v : Value} {xs : List Value} {A : Addr} {u : Value} (h : w.ownsRow base e size v n xs) (hA : A.block < base) : (w.setCell A u).ownsRow base e size v n xs :=
  own_keep h fun g hg _ => Below.heap_setCell _ _ _ _ (by omega)

theorem own_drew {w : World} {base e size n : Nat} {v : Value} {xs : List Value} (h : w.ownsRow base e size v n xs) : w.drew.ownsRow base e size v n xs := h

/-- The block of a slice lies between two bounds. -/
def Betw (B U : Nat) (v : Value) : Prop := ∀ b o n c, v = .slice (some ⟨b, o, none⟩) n c → B ≤ b ∧ b < U

theorem Betw.own {w : World} {base e size n : Nat} {v : Value} {xs : List Value} (h : w.ownsRow base e size v n xs) : Betw base w.heap.size v := fun b o n' c' hv => by
  have hlt := h.lt
  subst hv
  rcases h.2 with ⟨h1, _⟩ | ⟨g, cap, cur, h1, _⟩
  · cases h1
  · injection h1 with h1 h2 h3
    injection h1 with h1
    injection h1 with h1 h2
    subst h1
    exact hlt b (by subst h2 h3; rfl)

theorem Ints.setB {k : IntKind} {w : World} {v : Value} {l : List Int} {B U : Nat} {A : Addr} {u : Value} (hf : Betw B U v) (h : Ints k w v l) (hA : A.block < B ∨ U ≤ A.block := by first | omega | (simp; done) | (simp; omega)) : Ints k (w.setCell A u) v l := by
  obtain ⟨a, c, rfl, h1, h2, h3, hx⟩ := h
  refine ⟨a, c, rfl, h1, h2, h3, fun i x hi => ?_⟩
  obtain ⟨b, o, rfl, hb, hc⟩ := hx i x hi
  have := hf b o _ _ rfl
  exact ⟨b, o, rfl, by simpa using hb, (World.cell?_setCell_far w A ⟨b, o + i, none⟩ u (show A.block ≠ b by omega)).trans hc⟩

section
variable {P : Program} {ops : Array Oper} {Q : Exit → Act → World → Prop} {md : Region.Mode} {T : World → Prop} {k : Nat}

/-- Whatever order is picked from here on; T holds behind every operation ahead of the barrier k. -/
def wpAnyB (P : Program) (md : Region.Mode) (ops : Array Oper) (Q : Exit → Act → World → Prop) (T : World → Prop) (k : Nat) : Nat → Array Bool → Act → World → Prop
  | 0, listed, a, w => Region.ready md ops listed = [] ∧ Q .normal a w
  | fuel + 1, listed, a, w =>
    (Region.ready md ops listed = [] → Q .normal a w) ∧
    ∀ i ∈ Region.ready md ops listed, wpOp P ops Q i (fun a' w' => ((listed.setIfInBounds i true).getD k true = false → T w') ∧ wpAnyB P md ops Q T k fuel (listed.setIfInBounds i true) a' w') a w

theorem wpAny_of_B : ∀ (fuel : Nat) (listed : Array Bool) (a : Act) (w : World), wpAnyB P md ops Q T k fuel listed a w → wpAny P md ops Q fuel listed a w
  | 0, _, _, _, h => h
  | fuel + 1, _, _, _, h => ⟨h.1, fun i hi => wpOp_mono (fun a' w' h' => wpAny_of_B fuel _ a' w' h'.2) (h.2 i hi)⟩

theorem wpAnyB_first {i : Nat} {oi : Oper} {v : Value} {R : Array Bool} (hi : ops[i]? = some oi) (hsel : ∀ (j : Nat) (o : Oper) cs b, ops[j]? = some o → o.op ≠ .select cs b)
    (hQ : ∀ c a w, Q (.panic c) (a.put oi.dst v) w → Q (.panic c) a w) (hRs : R.size = ops.size) (hcl : ∀ j ∈ Region.ready md ops R, j = i) (hRk : R.getD k true = false) (hik : i ≠ k) :
    ∀ (fuel : Nat) (listed : Array Bool) (a : Act) (w : World),
      (∀ j oj, ops[j]? = some oj → j ≠ i → listed.getD j true = false → (∀ e ∈ oj.after, Region.binds md e = true → e.on ≠ i) → oi.apart ops oj = true) →
      (∀ x, listed.getD x false = true → R.getD x false = true) → listed.getD k true = false →
      i ∈ Region.ready md ops listed → YieldsIf P ops T oi v a → T w →
      wpAnyB P md ops Q T k fuel (listed.setIfInBounds i true) (a.put oi.dst v) w → wpAnyB P md ops Q T k (fuel + 1) listed a w := by
  have hjR : ∀ (listed : Array Bool) (j : Nat), (∀ x, listed.getD x false = true → R.getD x false = true) → j ∈ Region.ready md ops listed → j ≠ i → R.getD j false = true ∧ j ≠ k := by
    intro listed j hsub hj hji
    obtain ⟨_, oj, hoj, hall⟩ := mem_ready.1 hj
    have hlt : j < R.size := by rw [hRs]; exact (Array.getElem?_eq_some_iff.1 hoj).1
    have h1 : R.getD j true = true := by
      cases hb : R.getD j true with
      | true => rfl
      | false => exact absurd (hcl j (mem_ready.2 ⟨hb, oj, hoj, fun e he hbd => hsub _ (hall e he hbd)⟩)) hji
    refine ⟨?_, fun e => ?_⟩
    · simpa [Array.getD, hlt] using h1
    · subst e
      rw [h1] at hRk
      cases hRk
  intro fuel
  induction fuel with
  | zero =>
    intro listed a w _ hsub hk hr hy hS H
    refine ⟨fun h => (by rw [h] at hr; cases hr), fun j hj => ?_⟩
    by_cases hji : j = i
    · subst hji; exact hy.wpOp hi hS ⟨fun _ => hS, H⟩
    · have := ready_mono hj hji
      rw [H.1] at this
      cases this
  | succ fuel ih =>
    intro listed a w hfree hsub hk hr hy hS H
    refine ⟨fun h => (by rw [h] at hr; cases hr), fun j hj => ?_⟩
    by_cases hji : j = i
    · subst hji; exact hy.wpOp hi hS ⟨fun _ => hS, H⟩
    · have h1 := H.2 j (ready_mono hj hji)
      obtain ⟨hjun, oj, hoj, hall⟩ := mem_ready.1 hj
      have hnot : ∀ e ∈ oj.after, Region.binds md e = true → e.on ≠ i := fun e he hb heq => by
        have h1 := hall e he hb
        have h0 := (mem_ready.1 hr).1
        rw [heq] at h1
        rcases Nat.lt_or_ge i listed.size with h' | h'
        · simp [h'] at h0 h1; rw [h0] at h1; cases h1
        · simp [Array.getElem?_eq_none h'] at h1
      have h2 := wpOp_putIf hoj (hfree j oj hoj hji hjun hnot) (fun cs b => hsel i oi cs b hi) (fun cs b => hsel j oj cs b hoj) hQ hy h1
      obtain ⟨hRj, hjk⟩ := hjR listed j hsub hj hji
      have hfree' : ∀ k ok, ops[k]? = some ok → k ≠ i → (listed.setIfInBounds j true).getD k true = false →
          (∀ e ∈ ok.after, Region.binds md e = true → e.on ≠ i) → oi.apart ops ok = true := fun k ok hk hki hun hno => by
        refine hfree k ok hk hki ?_ hno
        by_cases hjk : j = k
        · subst hjk; exact hjun
        · rw [getD_set_ne true hjk] at hun; exact hun
      have hk2 : (listed.setIfInBounds j true).getD k true = false := by rw [getD_set_ne true hjk]; exact hk
      have hsub2 : ∀ x, (listed.setIfInBounds j true).getD x false = true → R.getD x false = true := fun x hx => by
        by_cases hxj : j = x
        · subst hxj; exact hRj
        · rw [getD_set_ne false hxj] at hx; exact hsub x hx
      have hk3 : ((listed.setIfInBounds i true).setIfInBounds j true).getD k true = false := by rw [getD_set_ne true hjk, getD_set_ne true hik]; exact hk
      refine wpOp_mono (fun a' w' h3 => ⟨fun _ => h3.2.1 hk3, ih (listed.setIfInBounds j true) a' w' hfree' hsub2 hk2 (ready_mono hr (Ne.symm hji)) h3.1 (h3.2.1 hk3) ?_⟩) h2
      rw [Array.setIfInBounds_comm _ _ hji]
      exact h3.2.2

/-- May i be taken first, ahead of the barrier k? R: all that may come up without i. -/
def takeB (md : Region.Mode) (ops : Array Oper) (listed R : Array Bool) (i k : Nat) : Bool :=
  Region.noSelect ops && Region.free md ops listed i && (Region.ready md ops listed).contains i && R.size == ops.size && (Region.ready md ops R).all (fun j => j == i) && !R.getD k true && i != k && !listed.getD k true
    && listed.size == ops.size && (List.range ops.size).all fun x => !listed.getD x false || R.getD x false

theorem takeB_spec {listed R : Array Bool} {i : Nat} (h : takeB md ops listed R i k = true) : Region.noSelect ops = true ∧ Region.free md ops listed i = true ∧ (Region.ready md ops listed).contains i = true ∧ R.size = ops.size ∧
    (∀ j ∈ Region.ready md ops R, j = i) ∧ R.getD k true = false ∧ i ≠ k ∧ listed.getD k true = false ∧ (∀ x, listed.getD x false = true → R.getD x false = true) := by
  unfold takeB at h
  simp only [Bool.and_eq_true, Bool.not_eq_true', List.all_eq_true, beq_iff_eq, bne_iff_ne, ne_eq] at h
  obtain ⟨⟨⟨⟨⟨⟨⟨⟨⟨h1, h2⟩, h3⟩, h4⟩, h5⟩, h6⟩, h7⟩, h8⟩, h9⟩, h10⟩ := h
  refine ⟨h1, h2, h3, h4, h5, h6, h7, h8, fun x hx => ?_⟩
  rcases Nat.lt_or_ge x ops.size with hlt | hge
  · have := h10 x (List.mem_range.2 hlt)
    rw [hx] at this
    simpa using this
  · rw [← h9] at hge
    simp [Array.getD, Nat.not_lt.2 hge] at hx

theorem lexTkB (i : Nat) (R : Array Bool) {oi : Oper} {v : Value} {fuel : Nat} {listed : Array Bool} {a : Act} {w : World} (hi : ops.toList[i]? = some oi)
    (hS : T w) (h : wpAnyB P md ops Q T k fuel (listed.setIfInBounds i true) (a.put oi.dst v) w) (hB : takeB md ops listed R i k = true) (hQ : ∀ c a w, Q (.panic c) (a.put oi.dst v) w → Q (.panic c) a w)
    (hw : Region.wanted oi (yielded ops a.tmps) = true) (hy : ∀ w, T w → (execOp a.eval oi).run P w = .ok (.value v) w) : wpAnyB P md ops Q T k (fuel + 1) listed a w := by
  obtain ⟨h1, h2, h3, h4, h5, h6, h7, h8, h9⟩ := takeB_spec hB
  have hi' : ops[i]? = some oi := by simpa using hi
  exact wpAnyB_first hi' (Region.noSelect_spec h1) hQ h4 h5 h6 h7 fuel listed a w (Region.free_spec hi' h2) h9 h8 (by simpa using h3) (Or.inl ⟨hw, hy⟩) hS h

theorem lexSkB (i : Nat) (R : Array Bool) {oi : Oper} {fuel : Nat} {listed : Array Bool} {a : Act} {w : World} (hi : ops.toList[i]? = some oi)
    (hS : T w) (h : wpAnyB P md ops Q T k fuel (listed.setIfInBounds i true) (a.put oi.dst undef) w) (hB : takeB md ops listed R i k = true) (hQ : ∀ c a w, Q (.panic c) (a.put oi.dst undef) w → Q (.panic c) a w)
    (hw : Region.wanted oi (yielded ops a.tmps) = false) : wpAnyB P md ops Q T k (fuel + 1) listed a w := by
  obtain ⟨h1, h2, h3, h4, h5, h6, h7, h8, h9⟩ := takeB_spec hB
  have hi' : ops[i]? = some oi := by simpa using hi
  exact wpAnyB_first hi' (Region.noSelect_spec h1) hQ h4 h5 h6 h7 fuel listed a w (Region.free_spec hi' h2) h9 h8 (by simpa using h3) (Or.inr ⟨hw, rfl⟩) hS h

/-- The one that may come up, ahead of the barrier. -/
theorem lexHvB (i : Nat) {o : Oper} {fuel : Nat} {listed : Array Bool} {a : Act} {w : World} (hi : ops.toList[i]? = some o)
    (h : ∀ K' : Act → World → Prop, Shut (∀ a w, T w → (T w → wpAnyB P md ops Q T k fuel (listed.setIfInBounds i true) a w) → K' a w) → if Region.wanted o (yielded ops a.tmps) = true then Oper.wp P o a w K' Q else K' (a.put o.dst undef) w)
    (hr : Region.ready md ops listed = [i]) : wpAnyB P md ops Q T k (fuel + 1) listed a w :=
  ⟨fun h0 => (by rw [hr] at h0; cases h0), fun j hj => by
    rw [hr] at hj
    obtain rfl : j = i := by simpa using hj
    exact wpOp_step (by simpa using hi) (fun K' hK => h K' (fun a w hS hW => hK a w ⟨fun _ => hS, hW hS⟩))⟩

theorem wpAnyB_firstF {i : Nat} {oi : Oper} {v : Value} (hi : ops[i]? = some oi) (hsel : ∀ (j : Nat) (o : Oper) cs b, ops[j]? = some o → o.op ≠ .select cs b)
    (hQ : ∀ c a w, Q (.panic c) (a.put oi.dst v) w → Q (.panic c) a w) (hik : i ≠ k) :
    ∀ (fuel : Nat) (listed : Array Bool) (a : Act) (w : World),
      (∀ j oj, ops[j]? = some oj → j ≠ i → listed.getD j true = false → (∀ e ∈ oj.after, Region.binds md e = true → e.on ≠ i) → oi.apart ops oj = true) →
      i ∈ Region.ready md ops listed → YieldsIf P ops (fun _ => True) oi v a → (listed.getD k true = false → T w) →
      wpAnyB P md ops Q T k fuel (listed.setIfInBounds i true) (a.put oi.dst v) w → wpAnyB P md ops Q T k (fuel + 1) listed a w := by
  intro fuel
  induction fuel with
  | zero =>
    intro listed a w _ hr hy hS H
    refine ⟨fun h => (by rw [h] at hr; cases hr), fun j hj => ?_⟩
    by_cases hji : j = i
    · subst hji; exact hy.wpOp hi trivial ⟨fun h => hS (by rwa [getD_set_ne true hik] at h), H⟩
    · have := ready_mono hj hji
      rw [H.1] at this
      cases this
  | succ fuel ih =>
    intro listed a w hfree hr hy hS H
    refine ⟨fun h => (by rw [h] at hr; cases hr), fun j hj => ?_⟩
    by_cases hji : j = i
    · subst hji; exact hy.wpOp hi trivial ⟨fun h => hS (by rwa [getD_set_ne true hik] at h), H⟩
    · have h1 := H.2 j (ready_mono hj hji)
      obtain ⟨hjun, oj, hoj, hall⟩ := mem_ready.1 hj
      have hnot : ∀ e ∈ oj.after, Region.binds md e = true → e.on ≠ i := fun e he hb heq => by
        have h1 := hall e he hb
        have h0 := (mem_ready.1 hr).1
        rw [heq] at h1
        rcases Nat.lt_or_ge i listed.size with h' | h'
        · simp [h'] at h0 h1; rw [h0] at h1; cases h1
        · simp [Array.getElem?_eq_none h'] at h1
      have h2 := wpOp_putIf hoj (hfree j oj hoj hji hjun hnot) (fun cs b => hsel i oi cs b hi) (fun cs b => hsel j oj cs b hoj) hQ hy h1
      have hfree' : ∀ k ok, ops[k]? = some ok → k ≠ i → (listed.setIfInBounds j true).getD k true = false →
          (∀ e ∈ ok.after, Region.binds md e = true → e.on ≠ i) → oi.apart ops ok = true := fun k ok hk hki hun hno => by
        refine hfree k ok hk hki ?_ hno
        by_cases hjk : j = k
        · subst hjk; exact hjun
        · rw [getD_set_ne true hjk] at hun; exact hun
      have hsw : (listed.setIfInBounds j true).getD k true = ((listed.setIfInBounds i true).setIfInBounds j true).getD k true := by
        rw [Array.setIfInBounds_comm _ _ (Ne.symm hji), getD_set_ne true hik]
      refine wpOp_mono (fun a' w' h3 => ⟨fun h => h3.2.1 (hsw ▸ h), ih (listed.setIfInBounds j true) a' w' hfree' (ready_mono hr (Ne.symm hji)) h3.1 (fun h => h3.2.1 (hsw ▸ h)) ?_⟩) h2
      rw [Array.setIfInBounds_comm _ _ hji]
      exact h3.2.2

/-- An operation that reads no memory may be taken first, whatever the barrier. -/
theorem lexTkF (i : Nat) {oi : Oper} {v : Value} {fuel : Nat} {listed : Array Bool} {a : Act} {w : World} (hi : ops.toList[i]? = some oi)
    (hS : T w) (h : wpAnyB P md ops Q T k fuel (listed.setIfInBounds i true) (a.put oi.dst v) w) (hB : (Region.noSelect ops && Region.free md ops listed i && (Region.ready md ops listed).contains i && i != k) = true) (hQ : ∀ c a w, Q (.panic c) (a.put oi.dst v) w → Q (.panic c) a w)
    (hw : Region.wanted oi (yielded ops a.tmps) = true) (hy : ∀ w, True → (execOp a.eval oi).run P w = .ok (.value v) w) : wpAnyB P md ops Q T k (fuel + 1) listed a w := by
  simp only [Bool.and_eq_true, bne_iff_ne, ne_eq] at hB
  have hi' : ops[i]? = some oi := by simpa using hi
  exact wpAnyB_firstF hi' (Region.noSelect_spec hB.1.1.1) hQ hB.2 fuel listed a w (Region.free_spec hi' hB.1.1.2) (by simpa using hB.1.2) (Or.inl ⟨hw, hy⟩) (fun _ => hS) h

/-- The two that may come up, ahead of the barrier. -/
theorem lexHv2B (i j : Nat) {o o' : Oper} {fuel : Nat} {listed : Array Bool} {a : Act} {w : World} (hi : ops.toList[i]? = some o) (hj : ops.toList[j]? = some o')
    (h : ∀ K' : Act → World → Prop, Shut (∀ a w, T w → (T w → wpAnyB P md ops Q T k fuel (listed.setIfInBounds i true) a w) → K' a w) → if Region.wanted o (yielded ops a.tmps) = true then Oper.wp P o a w K' Q else K' (a.put o.dst undef) w)
    (h' : ∀ K' : Act → World → Prop, Shut (∀ a w, T w → (T w → wpAnyB P md ops Q T k fuel (listed.setIfInBounds j true) a w) → K' a w) → if Region.wanted o' (yielded ops a.tmps) = true then Oper.wp P o' a w K' Q else K' (a.put o'.dst undef) w)
    (hr : Region.ready md ops listed = [i, j]) : wpAnyB P md ops Q T k (fuel + 1) listed a w :=
  ⟨fun h0 => (by rw [hr] at h0; cases h0), fun l hl => by
    rw [hr] at hl
    rcases List.mem_cons.1 hl with rfl | hl
    · exact wpOp_step (by simpa using hi) (fun K' hK => h K' (fun a w hS hW => hK a w ⟨fun _ => hS, hW hS⟩))
    · obtain rfl : l = j := by simpa using hl
      exact wpOp_step (by simpa using hj) (fun K' hK => h' K' (fun a w hS hW => hK a w ⟨fun _ => hS, hW hS⟩))⟩

/-- The one that may come up: the barrier, or what is behind it. -/
theorem lexHvE (i : Nat) {o : Oper} {fuel : Nat} {listed : Array Bool} {a : Act} {w : World} (hi : ops.toList[i]? = some o)
    (h : ∀ K' : Act → World → Prop, Shut (∀ a w, wpAnyB P md ops Q T k fuel (listed.setIfInBounds i true) a w → K' a w) → if Region.wanted o (yielded ops a.tmps) = true then Oper.wp P o a w K' Q else K' (a.put o.dst undef) w)
    (hr : Region.ready md ops listed = [i]) (hk : (listed.setIfInBounds i true).getD k true = true) : wpAnyB P md ops Q T k (fuel + 1) listed a w :=
  ⟨fun h0 => (by rw [hr] at h0; cases h0), fun j hj => by
    rw [hr] at hj
    obtain rfl : j = i := by simpa using hj
    exact wpOp_step (by simpa using hi) (fun K' hK => h K' (fun a w hW => hK a w ⟨fun e => (by rw [hk] at e; cases e), hW⟩))⟩

theorem wpAnyB_done {listed : Array Bool} {a : Act} {w : World} (hr : Region.ready md ops listed = []) (h : Q .normal a w) :
    ∀ fuel, wpAnyB P md ops Q T k fuel listed a w
  | 0 => ⟨hr, h⟩
  | _ + 1 => ⟨fun _ => h, by rw [hr]; simp⟩

theorem wp_region_B (k : Nat) {id : Nat} {a : Act} {w : World} (hm : P.follows .mixedOrders = true) (hS : T w.drew)
    (h : T w.drew → wpAnyB P .any ops Q T k ops.size (Array.replicate ops.size false) a w.drew) : (Code.region id ops true).wp P Q a w :=
  wp_region_any hm (wpAny_of_B _ _ _ _ (h hS))
end
end Go.Proofs.Ytjmjnkilgoelbaa

namespace Go.Proofs.Ytjmjnkilgoelbaa
open Go.RowKit

theorem allS_cut {l : List (Int × Int)} (h : allS l = true) (k : Nat) : allS (l.take k) = true ∧ allS (l.drop k) = true := by
  unfold allS at *
  rw [List.all_eq_true] at *
  exact ⟨fun x hx => h x (List.mem_of_mem_take hx), List.all_eq_true.2 fun x hx => h x (List.mem_of_mem_drop hx)⟩

theorem halfS_len {l : List (Int × Int)} (h : allS l = true) : (halfS l).length = l.length := (halfS_ok _ l (Nat.le_refl _) h).1.length_eq
theorem halfS_all {l : List (Int × Int)} (h : allS l = true) : allS (halfS l) = true := allS_perm h (halfS_ok _ l (Nat.le_refl _) h).1.symm

theorem own0S (w : World) : (w.alloc (.cells #[] 24)).ownsRow w.heap.size 24 2 (.slice (some ⟨w.heap.size, 0, none⟩) 0 0) 0 [] := World.ownsRow_made w #[] 0 (Nat.le_refl _) (Nat.zero_le _) (by simp)

set_option maxRecDepth 100000 in
set_option maxHeartbeats 8000000 in
theorem ssorted_any : ∀ (m : Nat) (v : Value) (l : List (Int × Int)) (w : World), l.length ≤ m → PairsR w v l → l.length ≤ 10000 → allS l = true →
    Calls Try.prog 166 #[v, .func (.func 167) #[] #[]] w fun e w' => ∃ v', e = .returned v' ∧ PairsR w' v' (halfS l) ∧ Below w.heap.size w w'
  | m, v, l, w, hm, h, hl, hs => by
    by_cases h2 : l.length < 2
    · have HE := Lib.hid (show halfS l = l by unfold halfS; rw [dif_pos h2])
      obtain ⟨xa, xc, rfl⟩ := h.shape
      have HX := Lib.hid h
      obtain ⟨n, hn⟩ : ∃ n, l.length = n := ⟨_, rfl⟩
      rw [hn] at HX h2 ⊢
      have HN := Lib.hid hn
      have hn2 : (n : Int) < 2 := by omega
      clear hs h hm hl hn
      go_enter Try.func166, Try.ntmps166
      go_wp2_with (at_builtin; go_must (refine appPairs rfl _ _ 28 rfl Try.underlying28 eiScore w.heap.size (by rfl) (own0S w) (by rfl) (HX.out.below (by (repeat (first | with_reducible exact Below.refl _ _ | with_reducible refine Bs ?_ | with_reducible refine Ba ?_ | with_reducible refine Bd ?_ | with_reducible refine Bn ?_)))) (by have := HN.out; simp; omega) (by simp) ?_))
      intro v5 w5 hown5 hb5 _
      have OWN5 := Lib.hid hown5
      have B5 := Lib.hid hb5
      clear hown5 hb5
      go_wp2_with fail
      go_ret
      refine ⟨_, rfl, ?_, below_tr (by (repeat (first | with_reducible exact Below.refl _ _ | with_reducible refine Bs ?_ | with_reducible refine Ba ?_ | with_reducible refine Bd ?_ | with_reducible refine Bn ?_))) B5.out⟩
      rw [HE.out]
      have h := OWN5.out
      exact own_pairs h (by simp) (by have := HN.out; omega)
    · cases m with
      | zero => omega
      | succ m =>
        obtain ⟨half, hh⟩ : ∃ k, l.length / 2 = k := ⟨_, rfl⟩
        have HE := Lib.hid (show halfS l = mergeS (halfS (l.take half)) (halfS (l.drop half)) by
          rw [halfS, dif_neg h2, hh])
        obtain ⟨s1, s2⟩ := allS_cut hs half
        have HA1 := Lib.hid (halfS_all s1)
        have HA2 := Lib.hid (halfS_all s2)
        have HL := Lib.hid (show (halfS (l.take half)).length + (halfS (l.drop half)).length ≤ 100000 by rw [halfS_len s1, halfS_len s2, List.length_take, List.length_drop]; omega)
        have IH1 := Lib.hid (fun v' W (hW : PairsR W v' (l.take half)) => ssorted_any m v' (l.take half) W (by rw [List.length_take]; omega) hW (by rw [List.length_take]; omega) s1)
        have IH2 := Lib.hid (fun v' W (hW : PairsR W v' (l.drop half)) => ssorted_any m v' (l.drop half) W (by rw [List.length_drop]; omega) hW (by rw [List.length_drop]; omega) s2)
        have HMG := Lib.hid (fun va vb W (hA : PairsR W va (halfS (l.take half))) (hB : PairsR W vb (halfS (l.drop half))) => smerge_any va vb _ _ W hA hB HL.out HA1.out HA2.out)
        obtain ⟨xa, xc, rfl⟩ := h.shape
        obtain ⟨b, o, rfl⟩ := h.addr (by omega)
        have hcap : l.length ≤ xc := by obtain ⟨_, _, e, h1, _⟩ := h; injection e with _ _ e3; subst e3; exact h1
        have hcap2 : xc ≤ 9223372036854775807 := by obtain ⟨_, _, e, _, h1, _⟩ := h; injection e with _ _ e3; subst e3; exact h1
        have HX1 := Lib.hid (show PairsR w (.slice (some ⟨b, o, none⟩) half xc) (l.take half) from by
          have := h.cutAt (i := 0) (m := half) (by omega) (o' := o) (by omega) xc (by omega) hcap2
          simpa using this)
        have HX2 := Lib.hid (show PairsR w (.slice (some ⟨b, o + half * 2, none⟩) (l.length - half) (xc - half)) (l.drop half) from by
          have := h.cutAt (i := half) (m := l.length - half) (by omega) (o' := o + half * 2) rfl (xc - half) (by omega) (by omega)
          rw [List.take_of_length_le (by rw [List.length_drop]; exact Nat.le_refl _)] at this
          exact this)
        generalize halfS (l.take half) = L1 at *
        generalize halfS (l.drop half) = L2 at *
        generalize halfS l = L3 at *
        clear hs s1 s2 h hm HA1 HA2 HL
        generalize l.length = n at *
        have hn2 : (2 : Int) ≤ n := by omega
        have q1 : Int.tdiv (n : Int) 2 = (half : Int) := by rw [← hh]; rfl
        have q2 : (0 : Int) ≤ half := by omega
        have q3 : (half : Int) ≤ n := by omega
        have q4 : (half : Int) ≤ xc := by omega
        have q5 : ¬ xc = half := by omega
        have q6 : ¬ xc = 0 := by omega
        clear hh h2 hl
        go_enter Try.func166, Try.ntmps166
        go_wp2_with fail
        have P0 := Lib.hid True.intro
        go_region_held3 (fun w' => True) (first | (go_simp; done) | (go_keep; done)) (first | (first | (go_at_call 166; clear P0; have P1 := Lib.hid True.intro; (with_reducible refine (IH1.out _ _ (HX1.out.below (by (repeat (first | with_reducible exact Below.refl _ _ | with_reducible refine Bs ?_ | with_reducible refine Ba ?_ | with_reducible refine Bd ?_ | with_reducible refine Bn ?_))))).mono ?_); rintro e w4 ⟨v4, rfl, p4, b4⟩; have B4 := Lib.hid (show Below w.heap.size w w4 from below_tr (by (repeat (first | with_reducible exact Below.refl _ _ | with_reducible refine Bs ?_ | with_reducible refine Ba ?_ | with_reducible refine Bd ?_ | with_reducible refine Bn ?_))) (b4.mono (by first | omega | (simp; done) | (simp; omega)))); have P4 := Lib.hid p4; obtain ⟨a4, c4, rfl⟩ := p4.shape; clear b4 p4) | (go_at_call 166; clear P1; (with_reducible refine (IH2.out _ _ (HX2.out.below (by (repeat (first | with_reducible exact Below.refl _ _ | with_reducible refine Bs ?_ | with_reducible refine Ba ?_ | with_reducible refine Bd ?_ | with_reducible refine Bn ?_ | with_reducible refine Bt B4.out ?_))))).mono ?_); rintro e w5 ⟨v5, rfl, p5, b5⟩; have s5 := B4.out.size; have B5 := Lib.hid (show Below w.heap.size w w5 from below_tr (by (repeat (first | with_reducible exact Below.refl _ _ | with_reducible refine Bs ?_ | with_reducible refine Ba ?_ | with_reducible refine Bd ?_ | with_reducible refine Bn ?_ | with_reducible refine Bt B4.out ?_))) (b5.mono (by first | omega | (simp; done) | (simp; omega)))); have P5 := Lib.hid p5; have P4 := Lib.hid ((P4.out.below (by (repeat (first | with_reducible exact Below.refl _ _ | with_reducible refine Bs ?_ | with_reducible refine Ba ?_ | with_reducible refine Bd ?_ | with_reducible refine Bn ?_)))).below b5); obtain ⟨a5, c5, rfl⟩ := p5.shape; clear b5 p5) | (go_at_call 193; (with_reducible refine (HMG.out _ _ _ (P4.out.below (by (repeat (first | with_reducible exact Below.refl _ _ | with_reducible refine Bs ?_ | with_reducible refine Ba ?_ | with_reducible refine Bd ?_ | with_reducible refine Bn ?_)))) (P5.out.below (by (repeat (first | with_reducible exact Below.refl _ _ | with_reducible refine Bs ?_ | with_reducible refine Ba ?_ | with_reducible refine Bd ?_ | with_reducible refine Bn ?_))))).mono ?_); rintro e w6 ⟨v6, rfl, p6, b6⟩; have s6 := B5.out.size; have B6 := Lib.hid (show Below w.heap.size w w6 from below_tr (by (repeat (first | with_reducible exact Below.refl _ _ | with_reducible refine Bs ?_ | with_reducible refine Ba ?_ | with_reducible refine Bd ?_ | with_reducible refine Bn ?_ | with_reducible refine Bt B5.out ?_))) (b6.mono (by first | omega | (simp; done) | (simp; omega)))); have P6 := Lib.hid p6; clear b6 p6)))
        go_wp2_with fail
        go_ret
        exact ⟨_, rfl, by rw [HE.out]; exact P6.out, B6.out⟩
end Go.Proofs.Ytjmjnkilgoelbaa

namespace Go.Proofs.Ytjmjnkilgoelbaa
open Go.RowKit

set_option maxRecDepth 100000 in
set_option maxHeartbeats 4000000 in
theorem ssort_any (v : Value) (l : List (Int × Int)) (w : World) (h : PairsR w v l) (hl : l.length ≤ 10000) :
    Calls Try.prog 128 #[v] w fun e w' => ∃ v', e = .returned (.tuple #[v', .int .i64 (if allS l = true then 0 else 130)]) ∧ PairsR w' v' (if allS l = true then sortS l else []) ∧ Below w.heap.size w w' := by
  have HX := Lib.hid h
  have HALL := Lib.hid (fun W (hW : PairsR W v l) => sall_any v l W hW)
  obtain ⟨xa, xc, rfl⟩ := h.shape
  cases hs : allS l with
  | false =>
    rw [hs] at HALL
    clear hs h hl
    generalize l.length = n at *
    simp only [Bool.false_eq_true, if_false] at HALL ⊢
    go_enter Try.func128, Try.ntmps128
    go_wp2_with fail
    (with_reducible refine (HALL.out _ HX.out).mono ?_); rintro e w1 ⟨rfl, b1⟩; have s1 : w.heap.size ≤ w1.heap.size := sz b1; have B1 := Lib.hid (Bc (B := w.heap.size) (a := w) (by (repeat (first | with_reducible exact Below.refl _ _ | with_reducible refine Bs ?_ | with_reducible refine Ba ?_ | with_reducible refine Bd ?_ | with_reducible refine Bn ?_))) b1); clear b1
    go_wp2_with fail
    go_ret2
    exact ⟨_, rfl, pairs_nil _ _ _ (by omega), by (repeat (first | with_reducible exact Below.refl _ _ | with_reducible refine Bs ?_ | with_reducible refine Ba ?_ | with_reducible refine Bd ?_ | with_reducible refine Bn ?_ | with_reducible refine Bt B1.out ?_))⟩
  | true =>
    have HSO := Lib.hid (fun W (hW : PairsR W (.slice xa l.length xc) l) => ssorted_any _ _ l W (Nat.le_refl _) hW hl hs)
    rw [half_sort hs] at HSO
    rw [hs] at HALL
    clear hs h hl
    generalize l.length = n at *
    generalize sortS l = L at *
    simp only [if_true] at HALL ⊢
    go_enter Try.func128, Try.ntmps128
    go_wp2_with fail
    (with_reducible refine (HALL.out _ HX.out).mono ?_); rintro e w1 ⟨rfl, b1⟩; have s1 : w.heap.size ≤ w1.heap.size := sz b1; have B1 := Lib.hid (Bc (B := w.heap.size) (a := w) (by (repeat (first | with_reducible exact Below.refl _ _ | with_reducible refine Bs ?_ | with_reducible refine Ba ?_ | with_reducible refine Bd ?_ | with_reducible refine Bn ?_))) b1); have HX := Lib.hid ((HX.out.below (by (repeat (first | with_reducible exact Below.refl _ _ | with_reducible refine Bs ?_ | with_reducible refine Ba ?_ | with_reducible refine Bd ?_ | with_reducible refine Bn ?_)))).below b1); clear b1
    go_wp2_with fail
    (with_reducible refine (HSO.out _ HX.out).mono ?_)
    rintro e w2 ⟨v2, rfl, p2, b2⟩
    have P2 := Lib.hid p2
    obtain ⟨a2, c2, rfl⟩ := p2.shape
    have B2 := Lib.hid (below_tr B1.out (b2.mono s1))
    clear b2 p2
    go_wp2_with fail
    go_ret2
    exact ⟨_, rfl, P2.out, B2.out⟩

theorem PairsR.capN {w : World} {a : Option Addr} {n c : Nat} {l : List (Int × Int)} (h : PairsR w (.slice a n c) l) : n = l.length ∧ l.length ≤ c ∧ c ≤ 9223372036854775807 := by
  obtain ⟨_, _, e, h1, h2, _⟩ := h
  injection e with _ e2 e3
  subst e2 e3
  exact ⟨rfl, h1, h2⟩

theorem PairsR.takeN {w : World} {a : Option Addr} {n c k : Nat} {l : List (Int × Int)} (h : PairsR w (.slice a n c) l) (hk : k ≤ l.length) : PairsR w (.slice a k c) (l.take k) := by
  obtain ⟨a', c', e, h1, h2, h3, g⟩ := h
  injection e with e1 e2 e3
  subst e1 e3
  refine ⟨a, c, by rw [List.length_take, Nat.min_eq_left hk], by rw [List.length_take]; omega, h2, by rw [List.length_take]; omega, fun i p hi => ?_⟩
  rw [List.getElem?_take] at hi
  split at hi
  · exact g i p hi
  · cases hi

theorem PairsR.dropN {w : World} {b o n c k : Nat} {l : List (Int × Int)} (h : PairsR w (.slice (some ⟨b, o, none⟩) n c) l) (hk : k ≤ l.length) : PairsR w (.slice (some ⟨b, o + k * 2, none⟩) (n - k) (c - k)) (l.drop k) := by
  obtain ⟨q1, q2, q3⟩ := h.capN
  have := h.cutAt (i := k) (m := n - k) (by omega) rfl (c - k) (by omega) (by omega)
  rwa [List.take_of_length_le (by rw [List.length_drop, q1]; exact Nat.le_refl _)] at this

theorem pairs_nil' (w : World) (a : Option Addr) (n c : Nat) (hn : n = 0) (hc : c ≤ 9223372036854775807) : PairsR w (.slice a n c) [] := by
  subst hn
  exact pairs_nil w a c hc

theorem cut_none {x : Int × Int} {L : List (Int × Int)} {k : Nat} (h : cutAt x L = k + cutAt x (L.drop k)) (hk : L.length ≤ k) : cutAt x L = k := by
  rw [h, List.drop_of_length_le hk]
  rfl

theorem drop_cons_at {L : List (Int × Int)} {k : Nat} {y : Int × Int} (h : L[k]? = some y) : L.drop k = y :: L.drop (k + 1) := by
  have hk := (List.getElem?_eq_some_iff.1 h).1
  rw [List.drop_eq_getElem_cons hk]
  have : L[k] = y := (List.getElem?_eq_some_iff.1 h).2
  rw [this]

theorem cut_more {x y : Int × Int} {L : List (Int × Int)} {k : Nat} (h : cutAt x L = k + cutAt x (L.drop k)) (hy : L[k]? = some y) (ho : oddI y x ≤ 0) : cutAt x L = (k + 1) + cutAt x (L.drop (k + 1)) := by
  rw [h, drop_cons_at hy]
  simp only [cutAt, if_pos ho]
  omega

theorem cut_here {x y : Int × Int} {L : List (Int × Int)} {k : Nat} (h : cutAt x L = k + cutAt x (L.drop k)) (hy : L[k]? = some y) (ho : ¬ oddI y x ≤ 0) : cutAt x L = k := by
  rw [h, drop_cons_at hy]
  simp only [cutAt, if_neg ho]
  omega

def insT (l : List (Int × Int)) (i : Nat) : List (Int × Int) := (l.take i).foldl insS []

theorem insT_zero (l : List (Int × Int)) : insT l 0 = [] := rfl
theorem insT_next {l : List (Int × Int)} {i : Nat} {x : Int × Int} (h : l[i]? = some x) : insT l (i + 1) = insS (insT l i) x := by
  unfold insT
  rw [take_snoc' h, List.foldl_append]
  rfl
theorem insT_all {l : List (Int × Int)} (h : allS l = true) (i : Nat) : allS (insT l i) = true ∧ (insT l i).length = (l.take i).length := by
  have := sortS_ok (allS_cut h i).1
  exact ⟨allS_perm (allS_cut h i).1 this.1.symm, this.1.length_eq⟩
theorem insT_end {l : List (Int × Int)} {i : Nat} (h : l.length ≤ i) : insT l i = sortS l := by
  unfold insT sortS
  rw [List.take_of_length_le h]

theorem insS_cut {L : List (Int × Int)} {x : Int × Int} {k : Nat} (h : cutAt x L = k) : insS L x = L.take k ++ ([x] ++ L.drop k) := by
  unfold insS
  rw [h]
  rfl

set_option maxRecDepth 100000 in
set_option maxHeartbeats 8000000 in
theorem rsort13_any (v : Value) (l : List (Int × Int)) (w : World) (h : PairsR w v l) (hl : l.length ≤ 10000) :
    Calls Try.prog 130 #[v] w fun e w' => ∃ v', e = .returned (.tuple #[v', .int .i64 (if allS l = true then 0 else 130)]) ∧ PairsR w' v' (if allS l = true then sortS l else []) ∧ Below w.heap.size w w' := by
  have HX := Lib.hid h
  have HALL := Lib.hid (fun W (hW : PairsR W v l) => rall13_any v l W hW)
  obtain ⟨xa, xc, rfl⟩ := h.shape
  obtain ⟨n, hn⟩ : ∃ n, l.length = n := ⟨_, rfl⟩
  rw [hn] at HX HALL hl ⊢
  have HN := Lib.hid hn
  clear hn
  cases hs : allS l with
  | false =>
    rw [hs] at HALL
    clear hs h hl HN
    simp only [Bool.false_eq_true, if_false]
    go_enter Try.func130, Try.ntmps130
    go_wp2_with fail
    (with_reducible refine (HALL.out _ HX.out).mono ?_); rintro e w1 ⟨rfl, b1⟩; have s1 : w.heap.size ≤ w1.heap.size := sz b1; have B1 := Lib.hid (Bc (B := w.heap.size) (a := w) (by (repeat (first | with_reducible exact Below.refl _ _ | with_reducible refine Bs ?_ | with_reducible refine Ba ?_ | with_reducible refine Bd ?_ | with_reducible refine Bn ?_))) b1); clear b1
    go_wp2_with fail
    go_ret2
    exact ⟨_, rfl, pairs_nil _ _ _ (by omega), by (repeat (first | with_reducible exact Below.refl _ _ | with_reducible refine Bs ?_ | with_reducible refine Ba ?_ | with_reducible refine Bd ?_ | with_reducible refine Bn ?_ | with_reducible refine Bt B1.out ?_))⟩
  | true =>
    have HS := Lib.hid hs
    rw [hs] at HALL
    clear hs h
    simp only [if_true]
    go_enter Try.func130, Try.ntmps130
    go_wp2_with fail
    (with_reducible refine (HALL.out _ HX.out).mono ?_); rintro e w1 ⟨rfl, b1⟩; have s1 : w.heap.size ≤ w1.heap.size := sz b1; have B1 := Lib.hid (Bc (B := w.heap.size) (a := w) (by (repeat (first | with_reducible exact Below.refl _ _ | with_reducible refine Bs ?_ | with_reducible refine Ba ?_ | with_reducible refine Bd ?_ | with_reducible refine Bn ?_))) b1); clear b1
    go_wp2_with fail
    go_loopw [4, 5] (fun out i wr => ∃ (j : Nat) (oa : Option Addr) (oc : Nat), out = .slice oa j oc ∧ i = .int .i64 j ∧ j ≤ n ∧ PairsR wr (.slice oa j oc) (insT l j) ∧ Below w.heap.size w wr) (fun _ i _ => n - (intOf i).toNat)
    case atStart => exact ⟨0, none, 0, rfl, rfl, by omega, pairs_nil _ _ _ (by omega), B1.out⟩
    case round =>
      obtain ⟨W0, rfl⟩ : ∃ W0, W0 = wr := ⟨wr, rfl⟩
      obtain ⟨j, oa, oc, rfl, rfl, hj, hout, hbr⟩ := hrel
      have HO := Lib.hid hout
      have HBR := Lib.hid hbr
      have hsz := hbr.size
      have i1 : (0 : Int) ≤ (j : Int) := by omega
      by_cases hlt : j < n
      · obtain ⟨⟨p, q⟩, hx⟩ := getElem?_ex (l := l) (k := j) (by rw [HN.out]; exact hlt)
        obtain ⟨b, o, rfl⟩ := HX.out.addr (by rw [HN.out]; omega)
        obtain ⟨hb, c0, c1⟩ := HX.out.at hx
        have e0 := (hbr.cell (p := ⟨b, o + j * 2, none⟩) hb).trans c0
        have e1 := (hbr.cell (p := ⟨b, o + j * 2 + 1, none⟩) hb).trans c1
        have E0 := Lib.hid e0
        have E1 := Lib.hid e1
        have hlj : j ≤ 10000 := by omega
        have hoc : j ≤ oc := by have := HO.out.capN; omega
        have hoc2 : oc ≤ 9223372036854775807 := by have := HO.out.capN; omega
        have i2 : (j : Int) < (n : Int) := by omega
        have hbz : b < W0.heap.size := by omega
        have hs1 := scoreB_is.1 (allS_mem HS.out (List.mem_of_getElem? hx))
        have HK := Lib.hid (insT_next hx)
        obtain ⟨g1, g2⟩ := insT_all HS.out j
        have HG := Lib.hid (show ∀ y ∈ insT l j, scoreB y = true from fun y hy => allS_mem g1 hy)
        have HGL := Lib.hid (show (insT l j).length = j by rw [g2, List.length_take, HN.out]; omega)
        obtain ⟨L, hL⟩ : ∃ L, insT l j = L := ⟨_, rfl⟩
        rw [hL] at HO HK HG HGL
        clear hout hbr c0 c1 hx g1 g2 hL e0 e1
        obtain ⟨⟨f1, f2⟩, ⟨f3, f4⟩, _⟩ := hs1
        dsimp only at f1 f2 f3 f4
        have HOD := Lib.hid (fun r s W (h1 : scoreB (r, s) = true) => rodder_any r s p q W (scoreB_is.1 h1).2.1 (by have := (scoreB_is.1 h1).1; omega) ⟨f3, f4⟩ ⟨by omega, f2⟩)
        clear f1 f2 f3 f4
        go_wp2_with fail
        go_loopw [6] (fun kk wq => ∃ k : Nat, kk = .int .i64 k ∧ k ≤ j ∧ cutAt (p, q) L = k + cutAt (p, q) (L.drop k) ∧ Below W0.heap.size W0 wq) (fun kk _ => j - (intOf kk).toNat)
        case atStart => exact ⟨0, rfl, by omega, by simp, Below.refl _ _⟩
        case round =>
          obtain ⟨k, rfl, hk, hcut, hbq⟩ := hrel
          have HCUT := Lib.hid hcut
          have HBQ := Lib.hid hbq
          have hsq := hbq.size
          have m1 : (0 : Int) ≤ (k : Int) := by omega
          have z0 := (hbq.cell (p := ⟨b, o + j * 2, none⟩) hbz).trans E0.out
          have z1 := (hbq.cell (p := ⟨b, o + j * 2 + 1, none⟩) hbz).trans E1.out
          have hbz' : b < wr.heap.size := by omega
          by_cases hkl : k < j
          · obtain ⟨⟨r, s⟩, hy⟩ := getElem?_ex (l := L) (k := k) (by rw [HGL.out]; exact hkl)
            obtain ⟨b2, o2, rfl⟩ := HO.out.addr (by rw [HGL.out]; omega)
            obtain ⟨hb2, c0, c1⟩ := HO.out.at hy
            have y0 := (hbq.cell (p := ⟨b2, o2 + k * 2, none⟩) hb2).trans c0
            have y1 := (hbq.cell (p := ⟨b2, o2 + k * 2 + 1, none⟩) hb2).trans c1
            have HO2 := Lib.hid (fun W => HOD.out r s W (HG.out _ (List.mem_of_getElem? hy)))
            have HMORE := Lib.hid (fun h : oddI (r, s) (p, q) ≤ 0 => cut_more HCUT.out hy h)
            have HHERE := Lib.hid (fun h : ¬ oddI (r, s) (p, q) ≤ 0 => cut_here HCUT.out hy h)
            have m2 : (k : Int) < (j : Int) := by omega
            clear hcut hbq c0 c1 hy
            generalize oddI (r, s) (p, q) = R at *
            by_cases hR : R ≤ 0
            · have HM := Lib.hid (HMORE.out hR)
              clear HHERE HMORE
              go_wp2_with fail
              refine wp_region_tail_quiet 13 (by kernel_rfl) (by kernel_rfl) ?_; simp only [List.take_succ_cons, List.take_zero, List.drop_succ_cons, List.drop_zero]; (repeat (go_big_quiet_step (fail))); refine wpQuiet_nil ?_
              go_wp2_with fail
              (with_reducible refine (HO2.out _).mono ?_)
              rintro e w4 ⟨rfl, b4⟩
              have B4 := Lib.hid (show Below W0.heap.size W0 w4 from below_tr HBQ.out (below_tr (by (repeat (first | with_reducible exact Below.refl _ _ | with_reducible refine Bs ?_ | with_reducible refine Ba ?_ | with_reducible refine Bd ?_ | with_reducible refine Bn ?_))) (b4.mono (by first | omega | (simp; done) | (simp; omega)))))
              clear b4
              go_wp2_with fail
              go_roundw
              case rel => exact ⟨k + 1, by go_num, by omega, HM.out, B4.out⟩
              case measure => simp [intOf] <;> omega
            · have HM := Lib.hid (HHERE.out hR)
              clear HHERE HMORE
              go_wp2_with fail
              refine wp_region_tail_quiet 13 (by kernel_rfl) (by kernel_rfl) ?_; simp only [List.take_succ_cons, List.take_zero, List.drop_succ_cons, List.drop_zero]; (repeat (go_big_quiet_step (fail))); refine wpQuiet_nil ?_
              go_wp2_with fail
              (with_reducible refine (HO2.out _).mono ?_)
              rintro e w4 ⟨rfl, b4⟩
              have B4 := Lib.hid (show Below W0.heap.size W0 w4 from below_tr HBQ.out (below_tr (by (repeat (first | with_reducible exact Below.refl _ _ | with_reducible refine Bs ?_ | with_reducible refine Ba ?_ | with_reducible refine Bd ?_ | with_reducible refine Bn ?_))) (b4.mono (by first | omega | (simp; done) | (simp; omega)))))
              clear b4
              have q5 : ¬ oc = k := by omega
              have q6 : k ≤ oc := by omega
              have q7 : (k : Int) ≤ (j : Int) := by omega
              have s4 := B4.out.size
              go_wp2_with (at_builtin; go_must (refine appPairs rfl _ _ 28 rfl Try.underlying28 eiScore w4.heap.size (by rfl) (own0S w4) (by rfl) ((HO.out.takeN (k := k) (by rw [HGL.out]; omega)).below (by (repeat (first | with_reducible exact Below.refl _ _ | with_reducible refine Bs ?_ | with_reducible refine Ba ?_ | with_reducible refine Bd ?_ | with_reducible refine Bn ?_ | with_reducible refine Bt B4.out ?_)))) (by have := HGL.out; simp; omega) (by simp) ?_))
              intro v5 w5 hown5 hb5 _
              have B5 := Lib.hid (show Below W0.heap.size W0 w5 from below_tr (by (repeat (first | with_reducible exact Below.refl _ _ | with_reducible refine Bs ?_ | with_reducible refine Ba ?_ | with_reducible refine Bd ?_ | with_reducible refine Bn ?_ | with_reducible refine Bt B4.out ?_))) (hb5.mono s4))
              have OWN5 := Lib.hid hown5
              have s5 : w4.heap.size ≤ w5.heap.size := by have := hb5.size; simp at this; omega
              have t0 := (B5.out.cell (p := ⟨b, o + j * 2, none⟩) hbz).trans E0.out
              have t1 := (B5.out.cell (p := ⟨b, o + j * 2 + 1, none⟩) hbz).trans E1.out
              clear hown5 hb5
              go_wp2_with (at_builtin; go_must (refine app1 rfl _ _ 28 rfl Try.underlying28 eiScore w4.heap.size (by rfl) OWN5.out (by rfl) rfl (by simp [Value.oneCell']) (by have := HGL.out; simp; omega) s5 ?_))
              intro v6 w6 hown6 hb6 _
              have B6 := Lib.hid (show Below W0.heap.size W0 w6 from below_tr B5.out (hb6.mono s4))
              have OWN6 := Lib.hid hown6
              have s6 : w4.heap.size ≤ w6.heap.size := by have := hb6.size; omega
              clear hown6 hb6
              go_wp2_with (at_builtin; go_must (refine appPairs rfl _ _ 28 rfl Try.underlying28 eiScore w4.heap.size (by rfl) OWN6.out (by rfl) ((HO.out.dropN (k := k) (by rw [HGL.out]; omega)).below B6.out) (by have := HGL.out; simp; omega) s6 ?_))
              intro v7 w7 hown7 hb7 _
              have B7 := Lib.hid (show Below W0.heap.size W0 w7 from below_tr B6.out (hb7.mono s4))
              have P7 := Lib.hid (show PairsR w7 v7 (insT l (j + 1)) from by
                rw [HK.out, insS_cut HM.out]
                have h := hown7
                exact own_pairs (by simpa [pairF] using h) (by have := HGL.out; simp; omega) (by have := HGL.out; simp; omega))
              have hl7 : (insT l (j + 1)).length = j + 1 := by
                rw [HK.out, insS_cut HM.out]
                have := HGL.out
                simp
                omega
              obtain ⟨a7, c7, rfl⟩ := P7.out.shape
              rw [hl7] at P7 ⊢
              clear hown7 hb7
              go_wp2_with fail
              go_roundw
              case rel => exact ⟨j + 1, a7, c7, rfl, by go_num, by omega, P7.out, below_tr HBR.out (B7.out.mono hsz)⟩
              case measure => simp [intOf] <;> omega
          · have HM := Lib.hid (cut_none HCUT.out (by rw [HGL.out]; omega))
            clear hcut hbq
            have HKJ := Lib.hid (show k = j by omega)
            have q6 : k ≤ oc := by omega
            have q7 : (k : Int) ≤ (j : Int) := by omega
            have m2 : decide (k < j) = false := by rw [decide_eq_false_iff_not]; exact hkl
            go_wp2_with fail
            go_quiet (fail)
            have s4 : W0.heap.size ≤ wr.heap.size := HBQ.out.size
            have HD := Lib.hid (show L.drop k = [] from List.drop_of_length_le (by rw [HGL.out]; omega))
            go_wp2_with (at_builtin; go_must (refine appPairs rfl _ _ 28 rfl Try.underlying28 eiScore wr.heap.size (by rfl) (own0S (wr.drewN nq)) (by rfl) ((HO.out.takeN (k := k) (by rw [HGL.out]; omega)).below (by (repeat (first | with_reducible exact Below.refl _ _ | with_reducible refine Bs ?_ | with_reducible refine Ba ?_ | with_reducible refine Bd ?_ | with_reducible refine Bn ?_ | with_reducible refine Bt HBQ.out ?_)))) (by have := HGL.out; simp; omega) (by simp) ?_))
            intro v5 w5 hown5 hb5 _
            have B5 := Lib.hid (show Below W0.heap.size W0 w5 from below_tr (by (repeat (first | with_reducible exact Below.refl _ _ | with_reducible refine Bs ?_ | with_reducible refine Ba ?_ | with_reducible refine Bd ?_ | with_reducible refine Bn ?_ | with_reducible refine Bt HBQ.out ?_))) (hb5.mono s4))
            have OWN5 := Lib.hid hown5
            have s5 : wr.heap.size ≤ w5.heap.size := by have := hb5.size; simp at this; omega
            have t0 := (B5.out.cell (p := ⟨b, o + j * 2, none⟩) hbz).trans E0.out
            have t1 := (B5.out.cell (p := ⟨b, o + j * 2 + 1, none⟩) hbz).trans E1.out
            clear hown5 hb5
            go_wp2_with (at_builtin; go_must (refine app1 rfl _ _ 28 rfl Try.underlying28 eiScore wr.heap.size (by rfl) OWN5.out (by rfl) rfl (by simp [Value.oneCell']) (by have := HGL.out; simp; omega) s5 ?_))
            intro v6 w6 hown6 hb6 _
            have B6 := Lib.hid (show Below W0.heap.size W0 w6 from below_tr B5.out (hb6.mono s4))
            have OWN6 := Lib.hid hown6
            have s6 : wr.heap.size ≤ w6.heap.size := by have := hb6.size; omega
            clear hown6 hb6
            by_cases hck : oc = k
            all_goals
              go_wp2_with (at_builtin; go_must (refine appPairs rfl _ _ 28 rfl Try.underlying28 eiScore wr.heap.size (by rfl) OWN6.out (by rfl) (show PairsR _ _ (L.drop k) from by rw [HD.out]; exact pairs_nil' _ _ _ _ (by have := HKJ.out; omega) (by omega)) (by have := HGL.out; simp; omega) s6 ?_))
              intro v7 w7 hown7 hb7 _
              have B7 := Lib.hid (show Below W0.heap.size W0 w7 from below_tr B6.out (hb7.mono s4))
              have P7 := Lib.hid (show PairsR w7 v7 (insT l (j + 1)) from by
                rw [HK.out, insS_cut HM.out]
                have h := hown7
                exact own_pairs (by simpa [pairF] using h) (by have := HGL.out; simp; omega) (by have := HGL.out; simp; omega))
              have hl7 : (insT l (j + 1)).length = j + 1 := by
                rw [HK.out, insS_cut HM.out]
                have := HGL.out
                simp
                omega
              obtain ⟨a7, c7, rfl⟩ := P7.out.shape
              rw [hl7] at P7 ⊢
              clear hown7 hb7
              go_wp2_with fail
              go_roundw
              case rel => exact ⟨j + 1, a7, c7, rfl, by go_num, by omega, P7.out, below_tr HBR.out (B7.out.mono hsz)⟩
              case measure => simp [intOf] <;> omega
      · obtain rfl : j = n := by omega
        have HE := Lib.hid (show insT l j = sortS l from insT_end (by rw [HN.out]; exact Nat.le_refl _))
        go_wp2_with fail
        go_ret2
        exact ⟨_, rfl, by rw [← HE.out]; exact HO.out, HBR.out⟩
end Go.Proofs.Ytjmjnkilgoelbaa

namespace Go.Proofs.Ytjmjnkilgoelbaa
open Go.RowKit

theorem qasked_any (p t : Int) (w : World) :
    Calls Try.prog 161 #[.int .i64 p, .int .i64 t] w fun e w' => e = .returned (.bool (decide (2 ≤ t ∧ t ≤ 1000 ∧ 1 ≤ p ∧ p < t))) ∧ w = w' := by
  by_cases h0 : 2 ≤ t
  · by_cases h1 : t ≤ 1000
    · by_cases h2 : 1 ≤ p
      · by_cases h3 : p < t
        · go_enter Try.func161, Try.ntmps161
          go_wp2_with fail
          go_ret
          exact ⟨ret_bool (by simp; omega), rfl⟩
        · go_enter Try.func161, Try.ntmps161
          go_wp2_with fail
          go_ret
          exact ⟨ret_bool (by simp; omega), rfl⟩
      · go_enter Try.func161, Try.ntmps161
        go_wp2_with fail
        go_ret
        exact ⟨ret_bool (by simp; omega), rfl⟩
    · go_enter Try.func161, Try.ntmps161
      go_wp2_with fail
      go_ret
      exact ⟨ret_bool (by simp; omega), rfl⟩
  · go_enter Try.func161, Try.ntmps161
    go_wp2_with fail
    go_ret
    exact ⟨ret_bool (by simp; omega), rfl⟩

theorem rqasked_any (p t : Int) (w : World) :
    Calls Try.prog 168 #[.int .i64 p, .int .i64 t] w fun e w' => e = .returned (.bool (decide (2 ≤ t ∧ t ≤ 1000 ∧ 1 ≤ p ∧ p < t))) ∧ w = w' := by
  by_cases h0 : 2 ≤ t
  · by_cases h1 : t ≤ 1000
    · by_cases h2 : 1 ≤ p
      · by_cases h3 : p < t
        · go_enter Try.func168, Try.ntmps168
          go_wp2_with fail
          go_ret
          exact ⟨ret_bool (by simp; omega), rfl⟩
        · go_enter Try.func168, Try.ntmps168
          go_wp2_with fail
          go_ret
          exact ⟨ret_bool (by simp; omega), rfl⟩
      · go_enter Try.func168, Try.ntmps168
        go_wp2_with fail
        go_ret
        exact ⟨ret_bool (by simp; omega), rfl⟩
    · go_enter Try.func168, Try.ntmps168
      go_wp2_with fail
      go_ret
      exact ⟨ret_bool (by simp; omega), rfl⟩
  · go_enter Try.func168, Try.ntmps168
    go_wp2_with fail
    go_ret
    exact ⟨ret_bool (by simp; omega), rfl⟩

theorem asked_bad {n p t : Int} (h1 : 1 ≤ n) (h2 : n ≤ 4096) : decide (2 ≤ t ∧ t ≤ 1000 ∧ 1 ≤ p ∧ p < t) = !decide (indexBad n p t) := by
  by_cases h : indexBad n p t
  · rw [decide_eq_true h]
    unfold indexBad at h
    rw [decide_eq_false (by omega)]
    rfl
  · rw [decide_eq_false h]
    unfold indexBad at h
    rw [decide_eq_true (by omega)]
    rfl

theorem index_mul {n p t : Int} (h : ¬ indexBad n p t) : 0 ≤ (t - p) * n ∧ (t - p) * n ≤ 4096000 := by
  unfold indexBad at h
  refine ⟨Int.mul_nonneg (by omega) (by omega), ?_⟩
  have := Int.mul_le_mul (a := t - p) (b := n) (c := 1000) (d := 4096) (by omega) (by omega) (by omega) (by omega)
  omega

set_option maxRecDepth 100000 in
set_option maxHeartbeats 4000000 in
theorem qindex_any (n p t : Int) (w : World) (_hp : Ok64 p) (ht : Ok64 t) :
    Calls Try.prog 124 #[.int .i64 n, .int .i64 p, .int .i64 t] w fun e w' => e = .returned (.tuple #[.int .i64 (indexV n p t), .int .i64 (indexE n p t)]) ∧ w = w' := by
  by_cases h1 : n < 1
  · have e1 : indexV n p t = 0 := if_pos (by unfold indexBad; omega)
    have e2 : indexE n p t = 1 := if_pos (by unfold indexBad; omega)
    rw [e1, e2]
    clear e1 e2 ht
    go_enter Try.func124, Try.ntmps124
    go_wp2_with fail
    go_ret2
    exact ⟨rfl, rfl⟩
  · by_cases h2 : 4096 < n
    · have e1 : indexV n p t = 0 := if_pos (by unfold indexBad; omega)
      have e2 : indexE n p t = 1 := if_pos (by unfold indexBad; omega)
      rw [e1, e2]
      clear e1 e2 ht
      go_enter Try.func124, Try.ntmps124
      go_wp2_with fail
      go_ret2
      exact ⟨rfl, rfl⟩
    · have HA := Lib.hid (fun W => qasked_any p t W)
      rw [asked_bad (n := n) (by omega) (by omega)] at HA
      by_cases hb : indexBad n p t
      · have e1 : indexV n p t = 0 := if_pos hb
        have e2 : indexE n p t = 1 := if_pos hb
        rw [e1, e2]
        rw [decide_eq_true hb] at HA
        clear e1 e2 ht hb
        go_enter Try.func124, Try.ntmps124
        go_wp2_with fail
        (with_reducible refine (HA.out _).mono ?_)
        rintro e w1 ⟨rfl, rfl⟩
        go_wp2_with fail
        go_ret2
        exact ⟨rfl, rfl⟩
      · have hm := index_mul hb
        have hbb := hb
        unfold indexBad at hbb
        have HC := Lib.hid (fun W => ceil_any ((t - p) * n) t W (by unfold Ok64; omega) ht)
        have e1 : indexV n p t = ceilV ((t - p) * n) t := if_neg hb
        have e2 : indexE n p t = 0 := if_neg hb
        have e3 : ceilE t = 0 := if_neg (by omega)
        rw [e1, e2]
        rw [e3] at HC
        rw [decide_eq_false hb] at HA
        have w1 : wrap64 (t - p) = t - p := IntWalk.wrap64_in _ (by omega)
        have w2 : wrap64 ((t - p) * n) = (t - p) * n := IntWalk.wrap64_in _ (by omega)
        clear e1 e2 e3 ht hb hm hbb
        go_enter Try.func124, Try.ntmps124
        go_wp2_with fail
        (with_reducible refine (HA.out _).mono ?_)
        rintro e w1 ⟨rfl, rfl⟩
        go_wp2_with fail
        (with_reducible refine (HC.out _).mono ?_)
        rintro e w1 ⟨rfl, rfl⟩
        go_wp2_with fail
        go_ret2
        exact ⟨rfl, rfl⟩

theorem index_le {n p t : Int} (h : ¬ indexBad n p t) {k : Nat} (hk : (k : Int) * t < (t - p) * n) : (k : Int) < indexV n p t := by
  obtain ⟨⟨a1, a2⟩, a3, a4⟩ := index_is h
  have ht : 2 ≤ t := by unfold indexBad at h; omega
  rcases Int.lt_or_le (k : Int) (indexV n p t) with h1 | h1
  · exact h1
  · have := Int.mul_le_mul_of_nonneg_left h1 (show 0 ≤ t by omega)
    rw [Int.mul_comm] at hk
    omega

theorem index_ge {n p t : Int} (h : ¬ indexBad n p t) {k : Nat} (hk : ¬ (k : Int) * t < (t - p) * n) : indexV n p t ≤ k := index_least h (by omega)

set_option maxRecDepth 100000 in
set_option maxHeartbeats 4000000 in
theorem rqindex_any (n p t : Int) (w : World) :
    Calls Try.prog 129 #[.int .i64 n, .int .i64 p, .int .i64 t] w fun e w' => e = .returned (.tuple #[.int .i64 (indexV n p t), .int .i64 (indexE n p t)]) ∧ w = w' := by
  by_cases h1 : n < 1
  · have e1 : indexV n p t = 0 := if_pos (by unfold indexBad; omega)
    have e2 : indexE n p t = 1 := if_pos (by unfold indexBad; omega)
    rw [e1, e2]
    clear e1 e2
    go_enter Try.func129, Try.ntmps129
    go_wp2_with fail
    go_ret2
    exact ⟨rfl, rfl⟩
  · by_cases h2 : 4096 < n
    · have e1 : indexV n p t = 0 := if_pos (by unfold indexBad; omega)
      have e2 : indexE n p t = 1 := if_pos (by unfold indexBad; omega)
      rw [e1, e2]
      clear e1 e2
      go_enter Try.func129, Try.ntmps129
      go_wp2_with fail
      go_ret2
      exact ⟨rfl, rfl⟩
    · have HA := Lib.hid (fun W => rqasked_any p t W)
      rw [asked_bad (n := n) (by omega) (by omega)] at HA
      by_cases hb : indexBad n p t
      · have e1 : indexV n p t = 0 := if_pos hb
        have e2 : indexE n p t = 1 := if_pos hb
        rw [e1, e2]
        rw [decide_eq_true hb] at HA
        clear e1 e2 hb
        go_enter Try.func129, Try.ntmps129
        go_wp2_with fail
        (with_reducible refine (HA.out _).mono ?_)
        rintro e w1 ⟨rfl, rfl⟩
        go_wp2_with fail
        go_ret2
        exact ⟨rfl, rfl⟩
      · have hm := index_mul hb
        obtain ⟨⟨k1, k2⟩, _, _⟩ := index_is hb
        have HB := Lib.hid hb
        have e2 : indexE n p t = 0 := if_neg hb
        rw [e2]
        rw [decide_eq_false hb] at HA
        unfold indexBad at hb
        obtain ⟨T, rfl⟩ : ∃ T : Nat, t = (T : Int) := ⟨t.toNat, by omega⟩
        have w1 : wrap64 ((T : Int) - p) = (T : Int) - p := IntWalk.wrap64_in _ (by omega)
        have w2 : wrap64 (((T : Int) - p) * n) = ((T : Int) - p) * n := IntWalk.wrap64_in _ (by omega)
        have hT : T ≤ 1000 := by omega
        clear e2 hb hm
        go_enter Try.func129, Try.ntmps129
        go_wp2_with fail
        (with_reducible refine (HA.out _).mono ?_)
        rintro e w1 ⟨rfl, rfl⟩
        go_wp2_with fail
        go_loopw [8] (fun kk wr => ∃ k : Nat, kk = .int .i64 k ∧ 1 ≤ k ∧ (k : Int) ≤ indexV n p T ∧ wr = w) (fun kk _ => 4096 - (intOf kk).toNat)
        case atStart => exact ⟨1, rfl, by omega, by omega, rfl⟩
        case round =>
          obtain ⟨k, rfl, hk1, hk2, rfl⟩ := hrel
          have hk3 : k ≤ 4096 := by omega
          have hb1 : k * T ≤ 4096 * 1000 := Nat.mul_le_mul hk3 hT
          have w3 : wrap64 ((k : Int) * T) = (k : Int) * T := IntWalk.wrap64_in _ (by have : (k : Int) * T = ((k * T : Nat) : Int) := by simp
                                                                                      omega)
          clear hb1
          by_cases hlt : (k : Int) * T < ((T : Int) - p) * n
          · have hlt2 := index_le HB.out hlt
            go_wp2_with fail
            go_roundw
            case rel => exact ⟨k + 1, by go_num, by omega, by omega, trivial⟩
            case measure => simp [intOf] <;> omega
          · have hge := index_ge HB.out hlt
            have HE := Lib.hid (show (k : Int) = indexV n p T by omega)
            go_wp2_with fail
            go_ret2
            exact ⟨ret2 HE.out rfl, rfl⟩

/-- A part of a whole, in lowest terms. -/
def ratV (p q : Int) : Int × Int := if q = 0 then (0, 0) else (p.tdiv (gcdZ p q), q.tdiv (gcdZ p q))
def ratE (q : Int) : Int := if q = 0 then 11 else 0

theorem gcd_pos {p q : Int} (hq : q ≠ 0) : 1 ≤ gcdZ p q := by
  unfold gcdZ
  have := Nat.gcd_pos_of_pos_right p.natAbs (n := q.natAbs) (by omega)
  omega

theorem tdiv_small {p g : Int} (h1 : 0 ≤ p) (h2 : p ≤ 100000) (hg : 1 ≤ g) : 0 ≤ p.tdiv g ∧ p.tdiv g ≤ 100000 := by
  rw [Int.tdiv_eq_ediv_of_nonneg h1]
  have := Int.ediv_nonneg h1 (show 0 ≤ g by omega)
  have := Int.ediv_le_self g h1
  omega

theorem long_any (x : Int) (w : World) (h : 0 ≤ x ∧ x ≤ 100000) : Calls Try.prog 192 #[.int .i64 x] w fun e w' => e = .returned (.bool false) ∧ w = w' := by
  have h1 : ¬ (1073741824 : Int) < x := by omega
  have h2 : ¬ x < -1073741824 := by omega
  clear h
  go_enter Try.func192, Try.ntmps192
  go_wp2_with fail
  go_ret
  exact ⟨rfl, rfl⟩

set_option maxRecDepth 100000 in
set_option maxHeartbeats 4000000 in
theorem ratio_any (p q : Int) (w : World) (hp : 0 ≤ p ∧ p ≤ 100000) (hq : 0 ≤ q ∧ q ≤ 100000) :
    Calls Try.prog 164 #[.int .i64 p, .int .i64 q] w fun e w' => e = .returned (.tuple #[.agg #[.int .i64 (ratV p q).1, .int .i64 (ratV p q).2], .int .i64 (ratE q)]) ∧ Below w.heap.size w w' := by
  by_cases h0 : q = 0
  · subst h0
    clear hp hq
    have e1 : ratV p 0 = (0, 0) := rfl
    have e2 : ratE 0 = 11 := rfl
    rw [e1, e2]
    clear e1 e2
    go_enter Try.func164, Try.ntmps164
    go_wp2_with fail
    exact bodyPost_ret (v := .tuple #[.agg #[.int .i64 0, .int .i64 0], .int .i64 11]) (by simp [results, Try.results164, go_sem]) rfl ⟨rfl, by (repeat (first | with_reducible exact Below.refl _ _ | with_reducible refine Bs ?_ | with_reducible refine Ba ?_ | with_reducible refine Bd ?_ | with_reducible refine Bn ?_))⟩
  · have hg := gcd_pos (p := p) h0
    have hgq : gcdZ p q ≤ 100000 := by
      unfold gcdZ
      have := Nat.gcd_le_right p.natAbs (n := q.natAbs) (by omega)
      omega
    have h1 := tdiv_small hp.1 hp.2 hg
    have h2 := tdiv_small hq.1 hq.2 hg
    have HG := Lib.hid (fun W => gcd_any p q W (by unfold Ok64; omega) (by unfold Ok64; omega))
    rw [fitV_yes (by unfold Ok64; omega), fitE_yes (by unfold Ok64; omega)] at HG
    have e1 : ratV p q = (p.tdiv (gcdZ p q), q.tdiv (gcdZ p q)) := if_neg h0
    have e2 : ratE q = 0 := if_neg h0
    rw [e1, e2]
    clear e1 e2
    generalize gcdZ p q = G at *
    have g0 : ¬ G = 0 := by omega
    have j0 : (q == 0) = false := by simp [h0]
    have HL1 := Lib.hid (fun W => long_any (p.tdiv G) W h1)
    have HL2 := Lib.hid (fun W => long_any (q.tdiv G) W h2)
    have hy : ¬ q.tdiv G < 0 := by omega
    have w1 : wrap64 (p.tdiv G) = p.tdiv G := IntWalk.wrap64_in _ (by omega)
    have w2 : wrap64 (q.tdiv G) = q.tdiv G := IntWalk.wrap64_in _ (by omega)
    clear h1 h2 hg hgq
    go_enter Try.func164, Try.ntmps164
    go_wp2_with fail
    (with_reducible refine (HG.out _).mono ?_)
    rintro e w1 ⟨rfl, d1, rfl⟩
    go_wp2_with fail
    go_quiet (fail)
    go_wp2_with fail
    (with_reducible refine (HL1.out _).mono ?_)
    rintro e w4 ⟨rfl, rfl⟩
    go_wp2_with fail
    (with_reducible refine (HL2.out _).mono ?_)
    rintro e w5 ⟨rfl, rfl⟩
    go_wp2_with fail
    exact bodyPost_ret (v := .tuple #[.agg #[.int .i64 (p.tdiv G), .int .i64 (q.tdiv G)], .int .i64 0]) (by simp [results, Try.results164, go_sem, *]) rfl ⟨rfl, by (repeat (first | with_reducible exact Below.refl _ _ | with_reducible refine Bs ?_ | with_reducible refine Ba ?_ | with_reducible refine Bd ?_ | with_reducible refine Bn ?_))⟩

end Go.Proofs.Ytjmjnkilgoelbaa

namespace Go.Proofs.Ytjmjnkilgoelbaa
open Go.RowKit

theorem quantOf_nil (p t : Int) (w : World) : Calls Try.prog 57 #[.pointer none, .int .i64 p, .int .i64 t] w fun e w' => e = .returned (.tuple #[.agg #[.int .i64 0, .int .i64 0], .int .i64 7]) ∧ Below w.heap.size w w' := by
  go_enter Try.func57, Try.ntmps57
  go_wp2_with fail
  exact bodyPost_ret (v := .tuple #[.agg #[.int .i64 0, .int .i64 0], .int .i64 7]) (by simp [results, Try.results57, go_sem]) rfl ⟨rfl, by (repeat (first | with_reducible exact Below.refl _ _ | with_reducible refine Bs ?_ | with_reducible refine Ba ?_ | with_reducible refine Bd ?_ | with_reducible refine Bn ?_))⟩

theorem line_at {l : List (Int × Int)} {p t : Int} (h : lineE l p t = 0) : ∃ (k : Nat) (x : Int × Int), indexV l.length p t = (k : Int) + 1 ∧ (k : Int) + 1 ≤ l.length ∧ (sortS l)[k]? = some x ∧ lineV l p t = x := by
  obtain ⟨hb, hs⟩ := line_ok h
  obtain ⟨⟨k1, k2⟩, _, _⟩ := index_is hb
  obtain ⟨k, hk⟩ : ∃ k : Nat, indexV l.length p t = (k : Int) + 1 := ⟨(indexV l.length p t - 1).toNat, by omega⟩
  obtain ⟨x, hx⟩ := getElem?_ex (l := sortS l) (k := k) (by rw [sortS_len hs]; omega)
  refine ⟨k, x, hk, by omega, hx, ?_⟩
  unfold lineV
  rw [if_pos h, hk, show ((k : Int) + 1).toNat - 1 = k by omega, getD_of hx]

theorem lineV_no {l : List (Int × Int)} {p t : Int} (h : lineE l p t ≠ 0) : lineV l p t = (0, 0) := if_neg h

set_option maxRecDepth 100000 in
set_option maxHeartbeats 4000000 in
theorem qline_any (v : Value) (l : List (Int × Int)) (p t : Int) (w : World) (h : PairsR w v l) (hl : l.length ≤ 10000) (hp : Ok64 p) (ht : Ok64 t) :
    Calls Try.prog 54 #[v, .int .i64 p, .int .i64 t] w fun e w' => e = .returned (.tuple #[.agg #[.int .i64 (lineV l p t).1, .int .i64 (lineV l p t).2], .int .i64 (lineE l p t)]) ∧ Below w.heap.size w w' := by
  have HX := Lib.hid h
  obtain ⟨xa, xc, rfl⟩ := h.shape
  have HI := Lib.hid (fun W => qindex_any l.length p t W hp ht)
  have HSO := Lib.hid (fun W (hW : PairsR W (.slice xa l.length xc) l) => ssort_any _ l W hW hl)
  have hcap := h.capN
  clear hp ht
  by_cases hb : indexBad l.length p t
  · have e1 : lineE l p t = 1 := if_pos hb
    have e2 : indexE l.length p t = 1 := if_pos hb
    have e3 : indexV l.length p t = 0 := if_pos hb
    have e4 : lineV l p t = (0, 0) := lineV_no (by omega)
    rw [e1, e4]
    rw [e2, e3] at HI
    clear e1 e2 e3 e4 hb hl h HSO
    generalize l.length = n at *
    go_enter Try.func54, Try.ntmps54
    go_wp2_with fail
    (with_reducible refine (HI.out _).mono ?_)
    rintro e w1 ⟨rfl, rfl⟩
    go_wp2_with fail
    exact bodyPost_ret (v := .tuple #[.agg #[.int .i64 0, .int .i64 0], .int .i64 1]) (by simp [results, Try.results54, go_sem]) rfl ⟨rfl, by (repeat (first | with_reducible exact Below.refl _ _ | with_reducible refine Bs ?_ | with_reducible refine Ba ?_ | with_reducible refine Bd ?_ | with_reducible refine Bn ?_))⟩
  · have e2 : indexE l.length p t = 0 := if_neg hb
    rw [e2] at HI
    cases hs : allS l with
    | false =>
      have e1 : lineE l p t = 130 := by unfold lineE; rw [if_neg hb, hs]; rfl
      have e4 : lineV l p t = (0, 0) := lineV_no (by omega)
      rw [e1, e4]
      rw [hs] at HSO
      clear e1 e2 e4 hb hl h hs
      simp only [Bool.false_eq_true, if_false] at HSO
      generalize indexV l.length p t = K at *
      generalize l.length = n at *
      go_enter Try.func54, Try.ntmps54
      go_wp2_with fail
      (with_reducible refine (HI.out _).mono ?_)
      rintro e w1 ⟨rfl, rfl⟩
      go_wp2_with fail
      (with_reducible refine (HSO.out _ (HX.out.below (by (repeat (first | with_reducible exact Below.refl _ _ | with_reducible refine Bs ?_ | with_reducible refine Ba ?_ | with_reducible refine Bd ?_ | with_reducible refine Bn ?_))))).mono ?_); rintro e w1 ⟨v1, rfl, p1, b1⟩; have s1 : w.heap.size + 1 ≤ w1.heap.size := sz b1; have B1 := Lib.hid (Bc (B := w.heap.size) (a := w) (by (repeat (first | with_reducible exact Below.refl _ _ | with_reducible refine Bs ?_ | with_reducible refine Ba ?_ | with_reducible refine Bd ?_ | with_reducible refine Bn ?_))) b1); obtain ⟨c1_0, f1_0, c1_1, f1_1⟩ := k2f (w.heap.size) (.int .i64 0) (.int .i64 0) b1 (by and_intros <;> go_simp); obtain ⟨l1_0, n1_0, m1_0⟩ := lnm (show w.heap.size < w1.heap.size by omega); clear b1
      clear p1
      go_wp2_with fail
      exact bodyPost_ret (v := .tuple #[.agg #[.int .i64 0, .int .i64 0], .int .i64 130]) (by simp [results, Try.results54, go_sem, *]) rfl ⟨rfl, by (repeat (first | with_reducible exact Below.refl _ _ | with_reducible refine Bs ?_ | with_reducible refine Ba ?_ | with_reducible refine Bd ?_ | with_reducible refine Bn ?_ | with_reducible refine Bt B1.out ?_))⟩
    | true =>
      have e1 : lineE l p t = 0 := by unfold lineE; rw [if_neg hb, hs]; rfl
      obtain ⟨k, ⟨x, y⟩, hk, hkl, hx, e4⟩ := line_at e1
      rw [e1, e4]
      rw [hk] at HI
      rw [hs] at HSO
      have hlen := sortS_len hs
      have HXK := Lib.hid hx
      clear e1 e2 e4 hb h hs hk hx
      simp only [if_true] at HSO
      generalize sortS l = L at *
      have HLEN := Lib.hid hlen
      generalize hn : l.length = n at *
      clear hlen hn
      have w1 : wrap64 ((k : Int) + 1 - 1) = (k : Int) := by rw [IntWalk.wrap64_in _ (by omega)]; omega
      have k0 : (0 : Int) ≤ (k : Int) := by omega
      have k1 : (k : Int) < (n : Int) := by omega
      go_enter Try.func54, Try.ntmps54
      go_wp2_with fail
      (with_reducible refine (HI.out _).mono ?_)
      rintro e w1 ⟨rfl, rfl⟩
      go_wp2_with fail
      (with_reducible refine (HSO.out _ (HX.out.below (by (repeat (first | with_reducible exact Below.refl _ _ | with_reducible refine Bs ?_ | with_reducible refine Ba ?_ | with_reducible refine Bd ?_ | with_reducible refine Bn ?_))))).mono ?_); rintro e w1 ⟨v1, rfl, p1, b1⟩; have s1 : w.heap.size + 1 ≤ w1.heap.size := sz b1; have B1 := Lib.hid (Bc (B := w.heap.size) (a := w) (by (repeat (first | with_reducible exact Below.refl _ _ | with_reducible refine Bs ?_ | with_reducible refine Ba ?_ | with_reducible refine Bd ?_ | with_reducible refine Bn ?_))) b1); obtain ⟨c1_0, f1_0, c1_1, f1_1⟩ := k2f (w.heap.size) (.int .i64 0) (.int .i64 0) b1 (by and_intros <;> go_simp); obtain ⟨l1_0, n1_0, m1_0⟩ := lnm (show w.heap.size < w1.heap.size by omega); clear b1
      obtain ⟨a1, q1, rfl⟩ := p1.shape
      obtain ⟨b, o, rfl⟩ := p1.addr (by rw [HLEN.out]; omega)
      obtain ⟨g1, g2, g3⟩ := p1.at HXK.out
      rw [HLEN.out]
      clear p1
      go_wp2_with fail
      exact bodyPost_ret (v := .tuple #[.agg #[.int .i64 x, .int .i64 y], .int .i64 0]) (by simp [results, Try.results54, go_sem, *]) rfl ⟨rfl, by (repeat (first | with_reducible exact Below.refl _ _ | with_reducible refine Bs ?_ | with_reducible refine Ba ?_ | with_reducible refine Bd ?_ | with_reducible refine Bn ?_ | with_reducible refine Bt B1.out ?_))⟩

set_option maxRecDepth 100000 in
set_option maxHeartbeats 4000000 in
theorem rqline_any (v : Value) (l : List (Int × Int)) (p t : Int) (w : World) (h : PairsR w v l) (hl : l.length ≤ 10000) :
    Calls Try.prog 55 #[v, .int .i64 p, .int .i64 t] w fun e w' => e = .returned (.tuple #[.agg #[.int .i64 (lineV l p t).1, .int .i64 (lineV l p t).2], .int .i64 (lineE l p t)]) ∧ Below w.heap.size w w' := by
  have HX := Lib.hid h
  obtain ⟨xa, xc, rfl⟩ := h.shape
  have HI := Lib.hid (fun W => rqindex_any l.length p t W)
  have HSO := Lib.hid (fun W (hW : PairsR W (.slice xa l.length xc) l) => rsort13_any _ l W hW hl)
  have hcap := h.capN
  by_cases hb : indexBad l.length p t
  · have e1 : lineE l p t = 1 := if_pos hb
    have e2 : indexE l.length p t = 1 := if_pos hb
    have e3 : indexV l.length p t = 0 := if_pos hb
    have e4 : lineV l p t = (0, 0) := lineV_no (by omega)
    rw [e1, e4]
    rw [e2, e3] at HI
    clear e1 e2 e3 e4 hb hl h HSO
    generalize l.length = n at *
    go_enter Try.func55, Try.ntmps55
    go_wp2_with fail
    (with_reducible refine (HI.out _).mono ?_)
    rintro e w1 ⟨rfl, rfl⟩
    go_wp2_with fail
    exact bodyPost_ret (v := .tuple #[.agg #[.int .i64 0, .int .i64 0], .int .i64 1]) (by simp [results, Try.results55, go_sem]) rfl ⟨rfl, by (repeat (first | with_reducible exact Below.refl _ _ | with_reducible refine Bs ?_ | with_reducible refine Ba ?_ | with_reducible refine Bd ?_ | with_reducible refine Bn ?_))⟩
  · have e2 : indexE l.length p t = 0 := if_neg hb
    rw [e2] at HI
    cases hs : allS l with
    | false =>
      have e1 : lineE l p t = 130 := by unfold lineE; rw [if_neg hb, hs]; rfl
      have e4 : lineV l p t = (0, 0) := lineV_no (by omega)
      rw [e1, e4]
      rw [hs] at HSO
      clear e1 e2 e4 hb hl h hs
      simp only [Bool.false_eq_true, if_false] at HSO
      generalize indexV l.length p t = K at *
      generalize l.length = n at *
      go_enter Try.func55, Try.ntmps55
      go_wp2_with fail
      (with_reducible refine (HI.out _).mono ?_)
      rintro e w1 ⟨rfl, rfl⟩
      go_wp2_with fail
      (with_reducible refine (HSO.out _ (HX.out.below (by (repeat (first | with_reducible exact Below.refl _ _ | with_reducible refine Bs ?_ | with_reducible refine Ba ?_ | with_reducible refine Bd ?_ | with_reducible refine Bn ?_))))).mono ?_); rintro e w1 ⟨v1, rfl, p1, b1⟩; have s1 : w.heap.size + 1 ≤ w1.heap.size := sz b1; have B1 := Lib.hid (Bc (B := w.heap.size) (a := w) (by (repeat (first | with_reducible exact Below.refl _ _ | with_reducible refine Bs ?_ | with_reducible refine Ba ?_ | with_reducible refine Bd ?_ | with_reducible refine Bn ?_))) b1); obtain ⟨c1_0, f1_0, c1_1, f1_1⟩ := k2f (w.heap.size) (.int .i64 0) (.int .i64 0) b1 (by and_intros <;> go_simp); obtain ⟨l1_0, n1_0, m1_0⟩ := lnm (show w.heap.size < w1.heap.size by omega); clear b1
      clear p1
      go_wp2_with fail
      exact bodyPost_ret (v := .tuple #[.agg #[.int .i64 0, .int .i64 0], .int .i64 130]) (by simp [results, Try.results55, go_sem, *]) rfl ⟨rfl, by (repeat (first | with_reducible exact Below.refl _ _ | with_reducible refine Bs ?_ | with_reducible refine Ba ?_ | with_reducible refine Bd ?_ | with_reducible refine Bn ?_ | with_reducible refine Bt B1.out ?_))⟩
    | true =>
      have e1 : lineE l p t = 0 := by unfold lineE; rw [if_neg hb, hs]; rfl
      obtain ⟨k, ⟨x, y⟩, hk, hkl, hx, e4⟩ := line_at e1
      rw [e1, e4]
      rw [hk] at HI
      rw [hs] at HSO
      have hlen := sortS_len hs
      have HXK := Lib.hid hx
      clear e1 e2 e4 hb h hs hk hx
      simp only [if_true] at HSO
      generalize sortS l = L at *
      have HLEN := Lib.hid hlen
      generalize hn : l.length = n at *
      clear hlen hn
      have w1 : wrap64 ((k : Int) + 1 - 1) = (k : Int) := by rw [IntWalk.wrap64_in _ (by omega)]; omega
      have k0 : (0 : Int) ≤ (k : Int) := by omega
      have k1 : (k : Int) < (n : Int) := by omega
      go_enter Try.func55, Try.ntmps55
      go_wp2_with fail
      (with_reducible refine (HI.out _).mono ?_)
      rintro e w1 ⟨rfl, rfl⟩
      go_wp2_with fail
      (with_reducible refine (HSO.out _ (HX.out.below (by (repeat (first | with_reducible exact Below.refl _ _ | with_reducible refine Bs ?_ | with_reducible refine Ba ?_ | with_reducible refine Bd ?_ | with_reducible refine Bn ?_))))).mono ?_); rintro e w1 ⟨v1, rfl, p1, b1⟩; have s1 : w.heap.size + 1 ≤ w1.heap.size := sz b1; have B1 := Lib.hid (Bc (B := w.heap.size) (a := w) (by (repeat (first | with_reducible exact Below.refl _ _ | with_reducible refine Bs ?_ | with_reducible refine Ba ?_ | with_reducible refine Bd ?_ | with_reducible refine Bn ?_))) b1); obtain ⟨c1_0, f1_0, c1_1, f1_1⟩ := k2f (w.heap.size) (.int .i64 0) (.int .i64 0) b1 (by and_intros <;> go_simp); obtain ⟨l1_0, n1_0, m1_0⟩ := lnm (show w.heap.size < w1.heap.size by omega); clear b1
      obtain ⟨a1, q1, rfl⟩ := p1.shape
      obtain ⟨b, o, rfl⟩ := p1.addr (by rw [HLEN.out]; omega)
      obtain ⟨g1, g2, g3⟩ := p1.at HXK.out
      rw [HLEN.out]
      clear p1
      go_wp2_with fail
      exact bodyPost_ret (v := .tuple #[.agg #[.int .i64 x, .int .i64 y], .int .i64 0]) (by simp [results, Try.results55, go_sem, *]) rfl ⟨rfl, by (repeat (first | with_reducible exact Below.refl _ _ | with_reducible refine Bs ?_ | with_reducible refine Ba ?_ | with_reducible refine Bd ?_ | with_reducible refine Bn ?_ | with_reducible refine Bt B1.out ?_))⟩

/-! ### over -/
def overB (s line : Int × Int) : Bool := scoreB s && scoreB line && decide (0 ≤ oddI s line)
def overE (s line : Int × Int) : Int := if scoreB s && scoreB line then 0 else 130

theorem over_any (p q : Int) (w : World) (s : Nat) (hs : w.heap.size = s) :
    Calls Try.prog 163 #[.agg #[.int .i64 p, .int .i64 q]] w fun e w' => e = .returned (.func (.func 191) #[] #[.pointer (some ⟨s, 0, none⟩)]) ∧ w' = w.alloc (.cells #[.int .i64 p, .int .i64 q] 24) := by
  subst hs
  go_enter Try.func163, Try.ntmps163
  go_wp2_with fail
  go_ret
  exact ⟨rfl, rfl⟩

set_option maxRecDepth 100000 in
set_option maxHeartbeats 4000000 in
theorem over1_any (r s p q : Int) (B : Nat) (w : World) (c0 : w.cell? ⟨B, 0, none⟩ = some (.int .i64 p)) (c1 : w.cell? ⟨B, 1, none⟩ = some (.int .i64 q)) (hB : B < w.heap.size) :
    Calls Try.prog 191 #[.agg #[.int .i64 r, .int .i64 s], .pointer (some ⟨B, 0, none⟩)] w fun e w' => e = .returned (.tuple #[.bool (overB (r, s) (p, q)), .int .i64 (overE (r, s) (p, q))]) ∧ Below w.heap.size w w' := by
  have HC := Lib.hid (fun W => scmp_any r s p q W)
  have h1 : B ≠ w.heap.size := by omega
  cases hb : (scoreB (r, s) && scoreB (p, q)) with
  | false =>
    have e1 : overB (r, s) (p, q) = false := by unfold overB; rw [hb]; rfl
    have e2 : overE (r, s) (p, q) = 130 := by unfold overE; rw [hb]; rfl
    rw [e1, e2]
    rw [hb] at HC
    clear e1 e2 hb
    simp only [Bool.false_eq_true, if_false] at HC
    go_enter Try.func191, Try.ntmps191
    go_wp2_with fail
    (with_reducible refine (HC.out _).mono ?_); rintro e w1 ⟨rfl, b1⟩; have s1 : w.heap.size + 1 ≤ w1.heap.size := sz b1; have B1 := Lib.hid (Bc (B := w.heap.size) (a := w) (by (repeat (first | with_reducible exact Below.refl _ _ | with_reducible refine Bs ?_ | with_reducible refine Ba ?_ | with_reducible refine Bd ?_ | with_reducible refine Bn ?_))) b1); clear b1
    go_wp2_with fail
    go_ret2
    exact ⟨rfl, by (repeat (first | with_reducible exact Below.refl _ _ | with_reducible refine Bs ?_ | with_reducible refine Ba ?_ | with_reducible refine Bd ?_ | with_reducible refine Bn ?_ | with_reducible refine Bt B1.out ?_))⟩
  | true =>
    have e1 : overB (r, s) (p, q) = decide (0 ≤ oddI (r, s) (p, q)) := by unfold overB; rw [hb]; rfl
    have e2 : overE (r, s) (p, q) = 0 := by unfold overE; rw [hb]; rfl
    rw [e1, e2]
    rw [hb] at HC
    clear e1 e2 hb
    simp only [if_true] at HC
    generalize oddI (r, s) (p, q) = R at *
    go_enter Try.func191, Try.ntmps191
    go_wp2_with fail
    (with_reducible refine (HC.out _).mono ?_); rintro e w1 ⟨rfl, b1⟩; have s1 : w.heap.size + 1 ≤ w1.heap.size := sz b1; have B1 := Lib.hid (Bc (B := w.heap.size) (a := w) (by (repeat (first | with_reducible exact Below.refl _ _ | with_reducible refine Bs ?_ | with_reducible refine Ba ?_ | with_reducible refine Bd ?_ | with_reducible refine Bn ?_))) b1); clear b1
    go_wp2_with fail
    go_ret2
    exact ⟨rfl, by (repeat (first | with_reducible exact Below.refl _ _ | with_reducible refine Bs ?_ | with_reducible refine Ba ?_ | with_reducible refine Bd ?_ | with_reducible refine Bn ?_ | with_reducible refine Bt B1.out ?_))⟩

set_option maxRecDepth 100000 in
set_option maxHeartbeats 4000000 in
theorem overQ_any (r s p q : Int) (w : World) :
    Calls Try.prog 125 #[.agg #[.int .i64 r, .int .i64 s], .agg #[.int .i64 p, .int .i64 q]] w fun e w' => e = .returned (.tuple #[.bool (overB (r, s) (p, q)), .int .i64 (overE (r, s) (p, q))]) ∧ Below w.heap.size w w' := by
  have HO := Lib.hid (fun W => over_any p q W)
  have H1 := Lib.hid (fun B W => over1_any r s p q B W)
  generalize overB (r, s) (p, q) = R at *
  generalize overE (r, s) (p, q) = E at *
  go_enter Try.func125, Try.ntmps125
  go_wp2_with fail
  go_region_held3 (fun w' => w'.cell? ⟨w.heap.size, 0, none⟩ = some (.int .i64 r) ∧ w'.cell? ⟨w.heap.size, 1, none⟩ = some (.int .i64 s) ∧ w'.cell? ⟨w.heap.size + 1, 0, none⟩ = some (.int .i64 p) ∧ w'.cell? ⟨w.heap.size + 1, 1, none⟩ = some (.int .i64 q)) (first | (go_simp; done) | (go_keep; done) | (refine ⟨?_, ?_, ?_, ?_⟩ <;> first | (go_simp; done) | (go_keep; done))) (first | (first | (go_at_call 163; (with_reducible refine (HO.out _ _ rfl).mono ?_); rintro e w4 ⟨rfl, rfl⟩) | (go_at_call 191; (with_reducible refine (H1.out _ _ (by go_simp) (by go_simp) (by simp)).mono ?_); rintro e w5 ⟨rfl, b5⟩; have B5 := Lib.hid (show Below w.heap.size w w5 from below_tr (by (repeat (first | with_reducible exact Below.refl _ _ | with_reducible refine Bs ?_ | with_reducible refine Ba ?_ | with_reducible refine Bd ?_ | with_reducible refine Bn ?_))) (b5.mono (by first | omega | (simp; done) | (simp; omega)))); have z0 : w5.cell? ⟨w.heap.size, 0, none⟩ = some (.int .i64 r) := (b5.cell (by first | omega | (simp; done) | (simp; omega))).trans (by go_simp); have z1 : w5.cell? ⟨w.heap.size, 1, none⟩ = some (.int .i64 s) := (b5.cell (by first | omega | (simp; done) | (simp; omega))).trans (by go_simp); have z2 : w5.cell? ⟨w.heap.size + 1, 0, none⟩ = some (.int .i64 p) := (b5.cell (by first | omega | (simp; done) | (simp; omega))).trans (by go_simp); have z3 : w5.cell? ⟨w.heap.size + 1, 1, none⟩ = some (.int .i64 q) := (b5.cell (by first | omega | (simp; done) | (simp; omega))).trans (by go_simp); clear b5)))
  go_wp2_with fail
  go_ret2
  exact ⟨rfl, B5.out⟩

end Go.Proofs.Ytjmjnkilgoelbaa

namespace Go.Proofs.Ytjmjnkilgoelbaa
open Go.RowKit

def countOk (l : List (Int × Int)) (line : Int × Int) : Bool := scoreB line && allS l
def countV (l : List (Int × Int)) (line : Int × Int) : Int := if countOk l line = true then (countP line l : Int) else 0
def countE (l : List (Int × Int)) (line : Int × Int) : Int := if countOk l line = true then 0 else 130
def shareV (l : List (Int × Int)) (line : Int × Int) : Int × Int := if countOk l line = true then ratV (countP line l) l.length else (0, 0)
def shareE (l : List (Int × Int)) (line : Int × Int) : Int := if countOk l line = true then ratE l.length else 130

theorem countP_next {l : List (Int × Int)} {k : Nat} {x line : Int × Int} (h : l[k]? = some x) : countP line (l.take (k + 1)) = countP line (l.take k) + if 0 ≤ oddI x line then 1 else 0 := by
  unfold countP
  rw [take_snoc' h, List.countP_append, List.countP_singleton]
  by_cases h : 0 ≤ oddI x line
  · rw [decide_eq_true h, if_pos h]; rfl
  · rw [decide_eq_false h, if_neg h]; rfl

theorem countP_le {l : List (Int × Int)} {line : Int × Int} : countP line l ≤ l.length := List.countP_le_length

set_option maxRecDepth 100000 in
set_option maxHeartbeats 8000000 in
theorem qcount_any (v : Value) (l : List (Int × Int)) (p q : Int) (w : World) (h : PairsR w v l) (hl : l.length ≤ 10000) :
    Calls Try.prog 126 #[v, .agg #[.int .i64 p, .int .i64 q]] w fun e w' => e = .returned (.tuple #[.int .i64 (countV l (p, q)), .int .i64 (countE l (p, q))]) ∧ Below w.heap.size w w' := by
  have HX := Lib.hid h
  obtain ⟨xa, xc, rfl⟩ := h.shape
  have HI := Lib.hid (fun W => sis_any p q W)
  have HO := Lib.hid (fun W => over_any p q W)
  have HCL := Lib.hid (fun r s B W => over1_any r s p q B W)
  obtain ⟨n, hn⟩ : ∃ n, l.length = n := ⟨_, rfl⟩
  rw [hn] at HX hl ⊢
  have HN := Lib.hid hn
  clear h hn
  cases hs : scoreB (p, q) with
  | false =>
    have e0 : countOk l (p, q) = false := by unfold countOk; rw [hs]; rfl
    have e1 : countV l (p, q) = 0 := by unfold countV; rw [e0]; rfl
    have e2 : countE l (p, q) = 130 := by unfold countE; rw [e0]; rfl
    rw [e1, e2]
    rw [hs] at HI
    clear e0 e1 e2 hs HN
    go_enter Try.func126, Try.ntmps126
    go_wp2_with fail
    (with_reducible refine (HI.out _).mono ?_); rintro e w1 ⟨rfl, b1⟩; have s1 : w.heap.size + 1 ≤ w1.heap.size := sz b1; have B1 := Lib.hid (Bc (B := w.heap.size) (a := w) (by (repeat (first | with_reducible exact Below.refl _ _ | with_reducible refine Bs ?_ | with_reducible refine Ba ?_ | with_reducible refine Bd ?_ | with_reducible refine Bn ?_))) b1); clear b1
    go_wp2_with fail
    go_ret2
    exact ⟨rfl, by (repeat (first | with_reducible exact Below.refl _ _ | with_reducible refine Bs ?_ | with_reducible refine Ba ?_ | with_reducible refine Bd ?_ | with_reducible refine Bn ?_ | with_reducible refine Bt B1.out ?_))⟩
  | true =>
    have HS := Lib.hid hs
    rw [hs] at HI
    clear hs
    obtain ⟨V, hV⟩ : ∃ V, countV l (p, q) = V := ⟨_, rfl⟩
    obtain ⟨E, hE⟩ : ∃ E, countE l (p, q) = E := ⟨_, rfl⟩
    rw [hV, hE]
    have HV := Lib.hid hV
    have HE := Lib.hid hE
    clear hV hE
    go_enter Try.func126, Try.ntmps126
    go_wp2_with fail
    (with_reducible refine (HI.out _).mono ?_); rintro e w1 ⟨rfl, b1⟩; have s1 : w.heap.size + 1 ≤ w1.heap.size := sz b1; have B1 := Lib.hid (Bc (B := w.heap.size) (a := w) (by (repeat (first | with_reducible exact Below.refl _ _ | with_reducible refine Bs ?_ | with_reducible refine Ba ?_ | with_reducible refine Bd ?_ | with_reducible refine Bn ?_))) b1); obtain ⟨c1_0, c1_1⟩ := k2 (w.heap.size) (.int .i64 p) (.int .i64 q) b1 (by and_intros <;> go_simp); obtain ⟨l1_0, n1_0, m1_0⟩ := lnm (show w.heap.size < w1.heap.size by omega); clear b1
    go_wp2_with fail
    (with_reducible refine (HO.out _ _ rfl).mono ?_)
    rintro e w2 ⟨rfl, rfl⟩
    go_wp2_with fail
    go_loopw [6, 19] (fun c i wr => ∃ k : Nat, i = .int .i64 k ∧ c = .int .i64 (countP (p, q) (l.take k)) ∧ k ≤ n ∧ allS (l.take k) = true ∧ Below w.heap.size w wr ∧ wr.cell? ⟨w1.heap.size, 0, none⟩ = some (.int .i64 p) ∧ wr.cell? ⟨w1.heap.size, 1, none⟩ = some (.int .i64 q) ∧ w1.heap.size < wr.heap.size) (fun _ i _ => n - (intOf i).toNat)
    case atStart => exact ⟨0, rfl, rfl, by omega, rfl, by (repeat (first | with_reducible exact Below.refl _ _ | with_reducible refine Bs ?_ | with_reducible refine Ba ?_ | with_reducible refine Bd ?_ | with_reducible refine Bn ?_ | with_reducible refine Bt B1.out ?_)), by go_simp, by go_simp, by simp⟩
    case round =>
      obtain ⟨k, rfl, rfl, hk, hall, hbr, g0, g1, hG⟩ := hrel
      have HA := Lib.hid hall
      have HBR := Lib.hid hbr
      have hsz := hbr.size
      have i1 : (0 : Int) ≤ (k : Int) := by omega
      have hck : countP (p, q) (l.take k) ≤ k := by have := countP_le (l := l.take k) (line := (p, q)); rw [List.length_take] at this; omega
      by_cases hlt : k < n
      · obtain ⟨⟨r, s⟩, hx⟩ := getElem?_ex (l := l) (k := k) (by rw [HN.out]; exact hlt)
        obtain ⟨b, o, rfl⟩ := HX.out.addr (by rw [HN.out]; omega)
        obtain ⟨hb, c0, c1⟩ := HX.out.at hx
        have e0 := (hbr.cell (p := ⟨b, o + k * 2, none⟩) hb).trans c0
        have e1 := (hbr.cell (p := ⟨b, o + k * 2 + 1, none⟩) hb).trans c1
        have i2 : (k : Int) < (n : Int) := by omega
        have hbz : b < wr.heap.size := by omega
        have hbz2 : b ≠ wr.heap.size := by omega
        have HK := Lib.hid hx
        have HNX := Lib.hid (countP_next (line := (p, q)) hx)
        have HOVB := Lib.hid (show scoreB (r, s) = true → overB (r, s) (p, q) = decide (0 ≤ oddI (r, s) (p, q)) from fun h => by unfold overB; rw [h, HS.out]; rfl)
        have HOVE := Lib.hid (show overE (r, s) (p, q) = if scoreB (r, s) = true then 0 else 130 by unfold overE; rw [HS.out, Bool.and_true])
        have HCK := Lib.hid (fun W c0 c1 hB => HCL.out r s w1.heap.size W c0 c1 hB)
        have HYES := Lib.hid (fun hs : scoreB (r, s) = true => allS_take HK.out HA.out hs)
        have HNO := Lib.hid (fun hs : scoreB (r, s) = false => allS_not HK.out hs)
        generalize countP (p, q) (l.take k) = C at *
        clear c0 c1 hx hall hbr
        cases hsc : scoreB (r, s) with
        | false =>
          rw [hsc] at HOVE
          rw [HOVE.out] at HCK
          have HN2 := Lib.hid (HNO.out hsc)
          clear hsc HYES HNO HOVB HOVE
          generalize overB (r, s) (p, q) = OB at *
          simp only [Bool.false_eq_true, if_false] at HCK
          go_wp2_with fail
          (with_reducible refine (HCK.out _ (by go_simp) (by go_simp) (by simp; omega)).mono ?_)
          rintro e w4 ⟨rfl, b4⟩
          have B4 := Lib.hid (show Below wr.heap.size wr w4 from below_tr (by (repeat (first | with_reducible exact Below.refl _ _ | with_reducible refine Bs ?_ | with_reducible refine Ba ?_ | with_reducible refine Bd ?_ | with_reducible refine Bn ?_))) (b4.mono (by first | omega | (simp; done) | (simp; omega))))
          clear b4
          go_wp2_with fail
          exact bodyPost_ret (v := .tuple #[.int .i64 0, .int .i64 130]) (by simp [results, Try.results126, go_sem]) rfl ⟨ret2 (by rw [← HV.out]; unfold countV countOk; rw [HN2.out, Bool.and_false]; rfl) (by rw [← HE.out]; unfold countE countOk; rw [HN2.out, Bool.and_false]; rfl), by (repeat (first | with_reducible exact Below.refl _ _ | with_reducible refine Bs ?_ | with_reducible refine Ba ?_ | with_reducible refine Bd ?_ | with_reducible refine Bn ?_ | with_reducible refine Bt B4.out ?_ | with_reducible refine Bt HBR.out ?_))⟩
        | true =>
          rw [hsc] at HOVE
          rw [HOVE.out, HOVB.out hsc] at HCK
          have HN2 := Lib.hid (HYES.out hsc)
          clear hsc HYES HNO HOVB HOVE
          simp only [if_true] at HCK
          generalize oddI (r, s) (p, q) = R at *
          by_cases hR : 0 ≤ R
          · have HC2 := Lib.hid (HNX.out.trans (by rw [if_pos hR]))
            rw [decide_eq_true hR] at HCK
            clear HNX
            go_wp2_with fail
            (with_reducible refine (HCK.out _ (by go_simp) (by go_simp) (by simp; omega)).mono ?_)
            rintro e w4 ⟨rfl, b4⟩
            have B4 := Lib.hid (show Below wr.heap.size wr w4 from below_tr (by (repeat (first | with_reducible exact Below.refl _ _ | with_reducible refine Bs ?_ | with_reducible refine Ba ?_ | with_reducible refine Bd ?_ | with_reducible refine Bn ?_))) (b4.mono (by first | omega | (simp; done) | (simp; omega))))
            have z0 := (B4.out.cell (p := ⟨w1.heap.size, 0, none⟩) hG).trans g0
            have z1 := (B4.out.cell (p := ⟨w1.heap.size, 1, none⟩) hG).trans g1
            have s4 := B4.out.size
            clear b4
            go_wp2_with fail
            go_roundw
            case rel => exact ⟨k + 1, by go_num, by rw [HC2.out]; go_num, by omega, HN2.out, by (repeat (first | with_reducible exact Below.refl _ _ | with_reducible refine Bs ?_ | with_reducible refine Ba ?_ | with_reducible refine Bd ?_ | with_reducible refine Bn ?_ | with_reducible refine Bt B4.out ?_ | with_reducible refine Bt HBR.out ?_)), z0, z1, by omega⟩
            case measure => simp [intOf] <;> omega
          · have HC2 := Lib.hid (HNX.out.trans (by rw [if_neg hR]))
            rw [decide_eq_false hR] at HCK
            clear HNX
            go_wp2_with fail
            (with_reducible refine (HCK.out _ (by go_simp) (by go_simp) (by simp; omega)).mono ?_)
            rintro e w4 ⟨rfl, b4⟩
            have B4 := Lib.hid (show Below wr.heap.size wr w4 from below_tr (by (repeat (first | with_reducible exact Below.refl _ _ | with_reducible refine Bs ?_ | with_reducible refine Ba ?_ | with_reducible refine Bd ?_ | with_reducible refine Bn ?_))) (b4.mono (by first | omega | (simp; done) | (simp; omega))))
            have z0 := (B4.out.cell (p := ⟨w1.heap.size, 0, none⟩) hG).trans g0
            have z1 := (B4.out.cell (p := ⟨w1.heap.size, 1, none⟩) hG).trans g1
            have s4 := B4.out.size
            clear b4
            go_wp2_with fail
            go_roundw
            case rel => exact ⟨k + 1, by go_num, by rw [HC2.out]; rfl, by omega, HN2.out, by (repeat (first | with_reducible exact Below.refl _ _ | with_reducible refine Bs ?_ | with_reducible refine Ba ?_ | with_reducible refine Bd ?_ | with_reducible refine Bn ?_ | with_reducible refine Bt B4.out ?_ | with_reducible refine Bt HBR.out ?_)), z0, z1, by omega⟩
            case measure => simp [intOf] <;> omega
      · obtain rfl : k = n := by omega
        have htk : l.take k = l := List.take_of_length_le (by rw [HN.out]; exact Nat.le_refl _)
        have HN2 := Lib.hid (show allS l = true from htk ▸ HA.out)
        rw [htk]
        clear htk hall hbr
        go_wp2_with fail
        go_ret2
        exact ⟨ret2 (by rw [← HV.out]; unfold countV countOk; rw [HS.out, HN2.out]; rfl) (by rw [← HE.out]; unfold countE countOk; rw [HS.out, HN2.out]; rfl), HBR.out⟩
end Go.Proofs.Ytjmjnkilgoelbaa

namespace Go.Proofs.Ytjmjnkilgoelbaa
open Go.RowKit

set_option maxRecDepth 100000 in
set_option maxHeartbeats 4000000 in
theorem qshare_any (v : Value) (l : List (Int × Int)) (p q : Int) (w : World) (h : PairsR w v l) (hl : l.length ≤ 10000) :
    Calls Try.prog 127 #[v, .agg #[.int .i64 p, .int .i64 q]] w fun e w' => e = .returned (.tuple #[.agg #[.int .i64 (shareV l (p, q)).1, .int .i64 (shareV l (p, q)).2], .int .i64 (shareE l (p, q))]) ∧ Below w.heap.size w w' := by
  have HX := Lib.hid h
  obtain ⟨xa, xc, rfl⟩ := h.shape
  have HC := Lib.hid (fun W (hW : PairsR W (.slice xa l.length xc) l) => qcount_any _ l p q W hW hl)
  have hle := countP_le (l := l) (line := (p, q))
  unfold countV countE at HC
  unfold shareV shareE
  cases hk : countOk l (p, q) with
  | false =>
    rw [hk] at HC
    simp only [Bool.false_eq_true, if_false] at HC ⊢
    clear hk h hl hle
    generalize l.length = n at *
    go_enter Try.func127, Try.ntmps127
    go_wp2_with fail
    (with_reducible refine (HC.out _ (HX.out.below (by (repeat (first | with_reducible exact Below.refl _ _ | with_reducible refine Bs ?_ | with_reducible refine Ba ?_ | with_reducible refine Bd ?_ | with_reducible refine Bn ?_))))).mono ?_); rintro e w1 ⟨rfl, b1⟩; have s1 : w.heap.size + 1 + 1 ≤ w1.heap.size := sz b1; have B1 := Lib.hid (Bc (B := w.heap.size) (a := w) (by (repeat (first | with_reducible exact Below.refl _ _ | with_reducible refine Bs ?_ | with_reducible refine Ba ?_ | with_reducible refine Bd ?_ | with_reducible refine Bn ?_))) b1); obtain ⟨c1_0, f1_0, c1_1, f1_1⟩ := k2f (w.heap.size + 1) (.int .i64 0) (.int .i64 0) b1 (by and_intros <;> go_simp); obtain ⟨l1_0, n1_0, m1_0⟩ := lnm (show w.heap.size + 1 < w1.heap.size by omega); clear b1
    go_wp2_with fail
    exact bodyPost_ret (v := .tuple #[.agg #[.int .i64 0, .int .i64 0], .int .i64 130]) (by simp [results, Try.results127, go_sem, *]) rfl ⟨rfl, by (repeat (first | with_reducible exact Below.refl _ _ | with_reducible refine Bs ?_ | with_reducible refine Ba ?_ | with_reducible refine Bd ?_ | with_reducible refine Bn ?_ | with_reducible refine Bt B1.out ?_))⟩
  | true =>
    rw [hk] at HC
    simp only [if_true] at HC ⊢
    have HR := Lib.hid (fun W => ratio_any (countP (p, q) l) l.length W (by omega) (by omega))
    clear hk h hl
    generalize countP (p, q) l = C at *
    generalize l.length = n at *
    obtain ⟨⟨x, y⟩, hxy⟩ : ∃ X, ratV C n = X := ⟨_, rfl⟩
    generalize ratE n = E at *
    rw [hxy] at HR ⊢
    clear hxy
    dsimp only at HR ⊢
    go_enter Try.func127, Try.ntmps127
    go_wp2_with fail
    (with_reducible refine (HC.out _ (HX.out.below (by (repeat (first | with_reducible exact Below.refl _ _ | with_reducible refine Bs ?_ | with_reducible refine Ba ?_ | with_reducible refine Bd ?_ | with_reducible refine Bn ?_))))).mono ?_); rintro e w1 ⟨rfl, b1⟩; have s1 : w.heap.size + 1 + 1 ≤ w1.heap.size := sz b1; have B1 := Lib.hid (Bc (B := w.heap.size) (a := w) (by (repeat (first | with_reducible exact Below.refl _ _ | with_reducible refine Bs ?_ | with_reducible refine Ba ?_ | with_reducible refine Bd ?_ | with_reducible refine Bn ?_))) b1); obtain ⟨c1_0, f1_0, c1_1, f1_1⟩ := k2f (w.heap.size + 1) (.int .i64 0) (.int .i64 0) b1 (by and_intros <;> go_simp); obtain ⟨l1_0, n1_0, m1_0⟩ := lnm (show w.heap.size + 1 < w1.heap.size by omega); clear b1
    go_wp2_with fail
    (with_reducible refine (HR.out _).mono ?_); rintro e w2 ⟨rfl, b2⟩; have s2 : w1.heap.size ≤ w2.heap.size := sz b2; have B2 := Lib.hid (Bc (B := w.heap.size) (a := w) (by (repeat (first | with_reducible exact Below.refl _ _ | with_reducible refine Bs ?_ | with_reducible refine Ba ?_ | with_reducible refine Bd ?_ | with_reducible refine Bn ?_ | with_reducible refine Bt B1.out ?_))) b2); obtain ⟨c2_0, f2_0, c2_1, f2_1⟩ := k2f (w.heap.size + 1) (.int .i64 0) (.int .i64 0) b2 (by and_intros <;> go_simp); obtain ⟨l2_0, n2_0, m2_0⟩ := lnm (show w.heap.size + 1 < w2.heap.size by omega); clear b2
    go_wp2_with fail
    exact bodyPost_ret (v := .tuple #[.agg #[.int .i64 x, .int .i64 y], .int .i64 E]) (by simp [results, Try.results127, go_sem, *]) rfl ⟨rfl, by (repeat (first | with_reducible exact Below.refl _ _ | with_reducible refine Bs ?_ | with_reducible refine Ba ?_ | with_reducible refine Bd ?_ | with_reducible refine Bn ?_ | with_reducible refine Bt B2.out ?_))⟩

end Go.Proofs.Ytjmjnkilgoelbaa
