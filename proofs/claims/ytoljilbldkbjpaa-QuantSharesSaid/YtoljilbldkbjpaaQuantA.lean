/-
  Walks of quant.asked, quant.Index, ratio.Of and of the reference's Asked, Index, Of.
-/
import Derived.Test.YtoljilbldkbjpaaScoreE
namespace Go.Proofs.Ytoljilbldkbjpaa
open Go.RowKit

theorem qasked_any (p t : Int) (w : World) :
    Calls Try.prog 52 #[.int .i64 p, .int .i64 t] w fun e w' => e = .returned (.bool (decide (2 ≤ t ∧ t ≤ 1000 ∧ 1 ≤ p ∧ p < t))) ∧ w = w' := by
  by_cases h0 : 2 ≤ t
  · by_cases h1 : t ≤ 1000
    · by_cases h2 : 1 ≤ p
      · by_cases h3 : p < t
        · go_enter Try.func52, Try.ntmps52
          go_wp2_with fail
          go_ret
          exact ⟨ret_bool (by simp; omega), rfl⟩
        · go_enter Try.func52, Try.ntmps52
          go_wp2_with fail
          go_ret
          exact ⟨ret_bool (by simp; omega), rfl⟩
      · go_enter Try.func52, Try.ntmps52
        go_wp2_with fail
        go_ret
        exact ⟨ret_bool (by simp; omega), rfl⟩
    · go_enter Try.func52, Try.ntmps52
      go_wp2_with fail
      go_ret
      exact ⟨ret_bool (by simp; omega), rfl⟩
  · go_enter Try.func52, Try.ntmps52
    go_wp2_with fail
    go_ret
    exact ⟨ret_bool (by simp; omega), rfl⟩

theorem rqasked_any (p t : Int) (w : World) :
    Calls Try.prog 54 #[.int .i64 p, .int .i64 t] w fun e w' => e = .returned (.bool (decide (2 ≤ t ∧ t ≤ 1000 ∧ 1 ≤ p ∧ p < t))) ∧ w = w' := by
  by_cases h0 : 2 ≤ t
  · by_cases h1 : t ≤ 1000
    · by_cases h2 : 1 ≤ p
      · by_cases h3 : p < t
        · go_enter Try.func54, Try.ntmps54
          go_wp2_with fail
          go_ret
          exact ⟨ret_bool (by simp; omega), rfl⟩
        · go_enter Try.func54, Try.ntmps54
          go_wp2_with fail
          go_ret
          exact ⟨ret_bool (by simp; omega), rfl⟩
      · go_enter Try.func54, Try.ntmps54
        go_wp2_with fail
        go_ret
        exact ⟨ret_bool (by simp; omega), rfl⟩
    · go_enter Try.func54, Try.ntmps54
      go_wp2_with fail
      go_ret
      exact ⟨ret_bool (by simp; omega), rfl⟩
  · go_enter Try.func54, Try.ntmps54
    go_wp2_with fail
    go_ret
    exact ⟨ret_bool (by simp; omega), rfl⟩

theorem asked_bad {n p t : Int} (h1 : 1 ≤ n) (h2 : n ≤ 4096) : decide (2 ≤ t ∧ t ≤ 1000 ∧ 1 ≤ p ∧ p < t) = !decide (indexBad n p t) := by
  by_cases h : indexBad n p t
  · rw [decide_eq_true h]
    unfold indexBad at h
    rw [decide_eq_false (by omega)]
    rfl
  · rw [decide_eq_false h]
    unfold indexBad at h
    rw [decide_eq_true (by omega)]
    rfl

theorem index_mul {n p t : Int} (h : ¬ indexBad n p t) : 0 ≤ (t - p) * n ∧ (t - p) * n ≤ 4096000 := by
  unfold indexBad at h
  refine ⟨Int.mul_nonneg (by omega) (by omega), ?_⟩
  have := Int.mul_le_mul (a := t - p) (b := n) (c := 1000) (d := 4096) (by omega) (by omega) (by omega) (by omega)
  omega

set_option maxRecDepth 100000 in
set_option maxHeartbeats 4000000 in
theorem qindex_any (n p t : Int) (w : World) (_hp : Ok64 p) (ht : Ok64 t) :
    Calls Try.prog 24 #[.int .i64 n, .int .i64 p, .int .i64 t] w fun e w' => e = .returned (.tuple #[.int .i64 (indexV n p t), .int .i64 (indexE n p t)]) ∧ w = w' := by
  by_cases h1 : n < 1
  · have e1 : indexV n p t = 0 := if_pos (by unfold indexBad; omega)
    have e2 : indexE n p t = 1 := if_pos (by unfold indexBad; omega)
    rw [e1, e2]
    clear e1 e2 ht
    go_enter Try.func24, Try.ntmps24
    go_wp2_with fail
    go_ret2
    exact ⟨rfl, rfl⟩
  · by_cases h2 : 4096 < n
    · have e1 : indexV n p t = 0 := if_pos (by unfold indexBad; omega)
      have e2 : indexE n p t = 1 := if_pos (by unfold indexBad; omega)
      rw [e1, e2]
      clear e1 e2 ht
      go_enter Try.func24, Try.ntmps24
      go_wp2_with fail
      go_ret2
      exact ⟨rfl, rfl⟩
    · have HA := Lib.hid (fun W => qasked_any p t W)
      rw [asked_bad (n := n) (by omega) (by omega)] at HA
      by_cases hb : indexBad n p t
      · have e1 : indexV n p t = 0 := if_pos hb
        have e2 : indexE n p t = 1 := if_pos hb
        rw [e1, e2]
        rw [decide_eq_true hb] at HA
        clear e1 e2 ht hb
        go_enter Try.func24, Try.ntmps24
        go_wp2_with fail
        (with_reducible refine (HA.out _).mono ?_)
        rintro e w1 ⟨rfl, rfl⟩
        go_wp2_with fail
        go_ret2
        exact ⟨rfl, rfl⟩
      · have hm := index_mul hb
        have hbb := hb
        unfold indexBad at hbb
        have HC := Lib.hid (fun W => ceil_any ((t - p) * n) t W (by unfold Ok64; omega) ht)
        have e1 : indexV n p t = ceilV ((t - p) * n) t := if_neg hb
        have e2 : indexE n p t = 0 := if_neg hb
        have e3 : ceilE t = 0 := if_neg (by omega)
        rw [e1, e2]
        rw [e3] at HC
        rw [decide_eq_false hb] at HA
        have w1 : wrap64 (t - p) = t - p := IntWalk.wrap64_in _ (by omega)
        have w2 : wrap64 ((t - p) * n) = (t - p) * n := IntWalk.wrap64_in _ (by omega)
        clear e1 e2 e3 ht hb hm hbb
        go_enter Try.func24, Try.ntmps24
        go_wp2_with fail
        (with_reducible refine (HA.out _).mono ?_)
        rintro e w1 ⟨rfl, rfl⟩
        go_wp2_with fail
        (with_reducible refine (HC.out _).mono ?_)
        rintro e w1 ⟨rfl, rfl⟩
        go_wp2_with fail
        go_ret2
        exact ⟨rfl, rfl⟩

theorem index_le {n p t : Int} (h : ¬ indexBad n p t) {k : Nat} (hk : (k : Int) * t < (t - p) * n) : (k : Int) < indexV n p t := by
  obtain ⟨⟨a1, a2⟩, a3, a4⟩ := index_is h
  have ht : 2 ≤ t := by unfold indexBad at h; omega
  rcases Int.lt_or_le (k : Int) (indexV n p t) with h1 | h1
  · exact h1
  · have := Int.mul_le_mul_of_nonneg_left h1 (show 0 ≤ t by omega)
    rw [Int.mul_comm] at hk
    omega

theorem index_ge {n p t : Int} (h : ¬ indexBad n p t) {k : Nat} (hk : ¬ (k : Int) * t < (t - p) * n) : indexV n p t ≤ k := index_least h (by omega)

set_option maxRecDepth 100000 in
set_option maxHeartbeats 4000000 in
theorem rqindex_any (n p t : Int) (w : World) :
    Calls Try.prog 25 #[.int .i64 n, .int .i64 p, .int .i64 t] w fun e w' => e = .returned (.tuple #[.int .i64 (indexV n p t), .int .i64 (indexE n p t)]) ∧ w = w' := by
  by_cases h1 : n < 1
  · have e1 : indexV n p t = 0 := if_pos (by unfold indexBad; omega)
    have e2 : indexE n p t = 1 := if_pos (by unfold indexBad; omega)
    rw [e1, e2]
    clear e1 e2
    go_enter Try.func25, Try.ntmps25
    go_wp2_with fail
    go_ret2
    exact ⟨rfl, rfl⟩
  · by_cases h2 : 4096 < n
    · have e1 : indexV n p t = 0 := if_pos (by unfold indexBad; omega)
      have e2 : indexE n p t = 1 := if_pos (by unfold indexBad; omega)
      rw [e1, e2]
      clear e1 e2
      go_enter Try.func25, Try.ntmps25
      go_wp2_with fail
      go_ret2
      exact ⟨rfl, rfl⟩
    · have HA := Lib.hid (fun W => rqasked_any p t W)
      rw [asked_bad (n := n) (by omega) (by omega)] at HA
      by_cases hb : indexBad n p t
      · have e1 : indexV n p t = 0 := if_pos hb
        have e2 : indexE n p t = 1 := if_pos hb
        rw [e1, e2]
        rw [decide_eq_true hb] at HA
        clear e1 e2 hb
        go_enter Try.func25, Try.ntmps25
        go_wp2_with fail
        (with_reducible refine (HA.out _).mono ?_)
        rintro e w1 ⟨rfl, rfl⟩
        go_wp2_with fail
        go_ret2
        exact ⟨rfl, rfl⟩
      · have hm := index_mul hb
        obtain ⟨⟨k1, k2⟩, _, _⟩ := index_is hb
        have HB := Lib.hid hb
        have e2 : indexE n p t = 0 := if_neg hb
        rw [e2]
        rw [decide_eq_false hb] at HA
        unfold indexBad at hb
        obtain ⟨T, rfl⟩ : ∃ T : Nat, t = (T : Int) := ⟨t.toNat, by omega⟩
        have w1 : wrap64 ((T : Int) - p) = (T : Int) - p := IntWalk.wrap64_in _ (by omega)
        have w2 : wrap64 (((T : Int) - p) * n) = ((T : Int) - p) * n := IntWalk.wrap64_in _ (by omega)
        have hT : T ≤ 1000 := by omega
        clear e2 hb hm
        go_enter Try.func25, Try.ntmps25
        go_wp2_with fail
        (with_reducible refine (HA.out _).mono ?_)
        rintro e w1 ⟨rfl, rfl⟩
        go_wp2_with fail
        go_loopw [8] (fun kk wr => ∃ k : Nat, kk = .int .i64 k ∧ 1 ≤ k ∧ (k : Int) ≤ indexV n p T ∧ wr = w) (fun kk _ => 4096 - (intOf kk).toNat)
        case atStart => exact ⟨1, rfl, by omega, by omega, rfl⟩
        case round =>
          obtain ⟨k, rfl, hk1, hk2, rfl⟩ := hrel
          have hk3 : k ≤ 4096 := by omega
          have hb1 : k * T ≤ 4096 * 1000 := Nat.mul_le_mul hk3 hT
          have w3 : wrap64 ((k : Int) * T) = (k : Int) * T := IntWalk.wrap64_in _ (by have : (k : Int) * T = ((k * T : Nat) : Int) := by simp
                                                                                      omega)
          clear hb1
          by_cases hlt : (k : Int) * T < ((T : Int) - p) * n
          · have hlt2 := index_le HB.out hlt
            go_wp2_with fail
            go_roundw
            case rel => exact ⟨k + 1, by go_num, by omega, by omega, trivial⟩
            case measure => simp [intOf] <;> omega
          · have hge := index_ge HB.out hlt
            have HE := Lib.hid (show (k : Int) = indexV n p T by omega)
            go_wp2_with fail
            go_ret2
            exact ⟨ret2 HE.out rfl, rfl⟩

/-- A part of a whole, in lowest terms. -/
def ratV (p q : Int) : Int × Int := if q = 0 then (0, 0) else (p.tdiv (gcdZ p q), q.tdiv (gcdZ p q))
def ratE (q : Int) : Int := if q = 0 then 11 else 0

theorem gcd_pos {p q : Int} (hq : q ≠ 0) : 1 ≤ gcdZ p q := by
  unfold gcdZ
  have := Nat.gcd_pos_of_pos_right p.natAbs (n := q.natAbs) (by omega)
  omega

theorem tdiv_small {p g : Int} (h1 : 0 ≤ p) (h2 : p ≤ 100000) (hg : 1 ≤ g) : 0 ≤ p.tdiv g ∧ p.tdiv g ≤ 100000 := by
  rw [Int.tdiv_eq_ediv_of_nonneg h1]
  have := Int.ediv_nonneg h1 (show 0 ≤ g by omega)
  have := Int.ediv_le_self g h1
  omega

theorem long_any (x : Int) (w : World) (h : 0 ≤ x ∧ x ≤ 100000) : Calls Try.prog 77 #[.int .i64 x] w fun e w' => e = .returned (.bool false) ∧ w = w' := by
  have h1 : ¬ (1073741824 : Int) < x := by omega
  have h2 : ¬ x < -1073741824 := by omega
  clear h
  go_enter Try.func77, Try.ntmps77
  go_wp2_with fail
  go_ret
  exact ⟨rfl, rfl⟩

theorem rpart_any (x : Int) (w : World) (h : 0 ≤ x ∧ x ≤ 100000) : Calls Try.prog 78 #[.int .i64 x] w fun e w' => e = .returned (.bool true) ∧ w = w' := by
  have h1 : -1073741824 ≤ x := by omega
  have h2 : x ≤ 1073741824 := by omega
  clear h
  go_enter Try.func78, Try.ntmps78
  go_wp2_with fail
  go_ret
  exact ⟨rfl, rfl⟩

set_option maxRecDepth 100000 in
set_option maxHeartbeats 4000000 in
theorem ratio_any (p q : Int) (w : World) (hp : 0 ≤ p ∧ p ≤ 100000) (hq : 0 ≤ q ∧ q ≤ 100000) :
    Calls Try.prog 57 #[.int .i64 p, .int .i64 q] w fun e w' => e = .returned (.tuple #[.agg #[.int .i64 (ratV p q).1, .int .i64 (ratV p q).2], .int .i64 (ratE q)]) ∧ Below w.heap.size w w' := by
  by_cases h0 : q = 0
  · subst h0
    clear hp hq
    have e1 : ratV p 0 = (0, 0) := rfl
    have e2 : ratE 0 = 11 := rfl
    rw [e1, e2]
    clear e1 e2
    go_enter Try.func57, Try.ntmps57
    go_wp2_with fail
    exact bodyPost_ret (v := .tuple #[.agg #[.int .i64 0, .int .i64 0], .int .i64 11]) (by simp [results, Try.results57, go_sem]) rfl ⟨rfl, by (repeat (first | with_reducible exact Below.refl _ _ | ((with_reducible refine Below.setCell ?_ ?_ _); rotate_left; (focus (first | omega | (simp; done) | (simp; omega)))) | ((with_reducible refine Below.alloc ?_ ?_ _); rotate_left; (focus (first | omega | (simp; done) | (simp; omega)))) | (with_reducible refine Below.drew ?_) | (with_reducible refine below_drewN ?_ _)))⟩
  · have hg := gcd_pos (p := p) h0
    have hgq : gcdZ p q ≤ 100000 := by
      unfold gcdZ
      have := Nat.gcd_le_right p.natAbs (n := q.natAbs) (by omega)
      omega
    have h1 := tdiv_small hp.1 hp.2 hg
    have h2 := tdiv_small hq.1 hq.2 hg
    have HG := Lib.hid (fun W => gcd_any p q W (by unfold Ok64; omega) (by unfold Ok64; omega))
    rw [fitV_yes (by unfold Ok64; omega), fitE_yes (by unfold Ok64; omega)] at HG
    have e1 : ratV p q = (p.tdiv (gcdZ p q), q.tdiv (gcdZ p q)) := if_neg h0
    have e2 : ratE q = 0 := if_neg h0
    rw [e1, e2]
    clear e1 e2
    generalize gcdZ p q = G at *
    have g0 : ¬ G = 0 := by omega
    have j0 : (q == 0) = false := by simp [h0]
    have HL1 := Lib.hid (fun W => long_any (p.tdiv G) W h1)
    have HL2 := Lib.hid (fun W => long_any (q.tdiv G) W h2)
    have hy : ¬ q.tdiv G < 0 := by omega
    have w1 : wrap64 (p.tdiv G) = p.tdiv G := IntWalk.wrap64_in _ (by omega)
    have w2 : wrap64 (q.tdiv G) = q.tdiv G := IntWalk.wrap64_in _ (by omega)
    clear h1 h2 hg hgq
    go_enter Try.func57, Try.ntmps57
    go_wp2_with fail
    (with_reducible refine (HG.out _).mono ?_)
    rintro e w1 ⟨rfl, d1, rfl⟩
    go_wp2_with fail
    go_quiet (fail)
    go_wp2_with fail
    (with_reducible refine (HL1.out _).mono ?_)
    rintro e w4 ⟨rfl, rfl⟩
    go_wp2_with fail
    (with_reducible refine (HL2.out _).mono ?_)
    rintro e w5 ⟨rfl, rfl⟩
    go_wp2_with fail
    exact bodyPost_ret (v := .tuple #[.agg #[.int .i64 (p.tdiv G), .int .i64 (q.tdiv G)], .int .i64 0]) (by simp [results, Try.results57, go_sem, *]) rfl ⟨rfl, by (repeat (first | with_reducible exact Below.refl _ _ | ((with_reducible refine Below.setCell ?_ ?_ _); rotate_left; (focus (first | omega | (simp; done) | (simp; omega)))) | ((with_reducible refine Below.alloc ?_ ?_ _); rotate_left; (focus (first | omega | (simp; done) | (simp; omega)))) | (with_reducible refine Below.drew ?_) | (with_reducible refine below_drewN ?_ _)))⟩

set_option maxRecDepth 100000 in
set_option maxHeartbeats 4000000 in
theorem rratio_any (p q : Int) (w : World) (hp : 0 ≤ p ∧ p ≤ 100000) (hq : 0 ≤ q ∧ q ≤ 100000) :
    Calls Try.prog 58 #[.int .i64 p, .int .i64 q] w fun e w' => e = .returned (.tuple #[.agg #[.int .i64 (ratV p q).1, .int .i64 (ratV p q).2], .int .i64 (ratE q)]) ∧ Below w.heap.size w w' := by
  by_cases h0 : q = 0
  · subst h0
    clear hp hq
    have e1 : ratV p 0 = (0, 0) := rfl
    have e2 : ratE 0 = 11 := rfl
    rw [e1, e2]
    clear e1 e2
    go_enter Try.func58, Try.ntmps58
    go_wp2_with fail
    exact bodyPost_ret (v := .tuple #[.agg #[.int .i64 0, .int .i64 0], .int .i64 11]) (by simp [results, Try.results58, go_sem]) rfl ⟨rfl, by (repeat (first | with_reducible exact Below.refl _ _ | ((with_reducible refine Below.setCell ?_ ?_ _); rotate_left; (focus (first | omega | (simp; done) | (simp; omega)))) | ((with_reducible refine Below.alloc ?_ ?_ _); rotate_left; (focus (first | omega | (simp; done) | (simp; omega)))) | (with_reducible refine Below.drew ?_) | (with_reducible refine below_drewN ?_ _)))⟩
  · have hg := gcd_pos (p := p) h0
    have hgq : gcdZ p q ≤ 100000 := by
      unfold gcdZ
      have := Nat.gcd_le_right p.natAbs (n := q.natAbs) (by omega)
      omega
    have h1 := tdiv_small hp.1 hp.2 hg
    have h2 := tdiv_small hq.1 hq.2 hg
    have HG := Lib.hid (fun W => rgcd_any p q W (by unfold Ok64; omega) (by unfold Ok64; omega))
    rw [fitV_yes (by unfold Ok64; omega), fitE_yes (by unfold Ok64; omega)] at HG
    have e1 : ratV p q = (p.tdiv (gcdZ p q), q.tdiv (gcdZ p q)) := if_neg h0
    have e2 : ratE q = 0 := if_neg h0
    rw [e1, e2]
    clear e1 e2
    generalize gcdZ p q = G at *
    have g0 : ¬ G = 0 := by omega
    have j0 : (q == 0) = false := by simp [h0]
    have HL1 := Lib.hid (fun W => rpart_any (p.tdiv G) W h1)
    have HL2 := Lib.hid (fun W => rpart_any (q.tdiv G) W h2)
    have hy : ¬ q.tdiv G < 0 := by omega
    have w1 : wrap64 (p.tdiv G) = p.tdiv G := IntWalk.wrap64_in _ (by omega)
    have w2 : wrap64 (q.tdiv G) = q.tdiv G := IntWalk.wrap64_in _ (by omega)
    clear h1 h2 hg hgq
    go_enter Try.func58, Try.ntmps58
    go_wp2_with fail
    (with_reducible refine (HG.out _).mono ?_); rintro e w1 ⟨rfl, b1⟩; have s1 : w.heap.size + 1 ≤ w1.heap.size := (by have := b1.size; first | omega | (simp at this; omega)); have B1 := Lib.hid (show Below w.heap.size w w1 from below_tr (by (repeat (first | with_reducible exact Below.refl _ _ | ((with_reducible refine Below.setCell ?_ ?_ _); rotate_left; (focus (first | omega | (simp; done) | (simp; omega)))) | ((with_reducible refine Below.alloc ?_ ?_ _); rotate_left; (focus (first | omega | (simp; done) | (simp; omega)))) | (with_reducible refine Below.drew ?_) | (with_reducible refine below_drewN ?_ _)))) (b1.mono (by first | omega | (simp; done) | (simp; omega)))); have c1_0 : w1.cell? ⟨w.heap.size, 0, none⟩ = some (.int .i64 0) := (b1.cell (by first | omega | (simp; done) | (simp; omega))).trans (by go_simp); have f1_0 : w1.frozen? ⟨w.heap.size, 0, none⟩ = false := (b1.frozen (by first | omega | (simp; done) | (simp; omega))).trans (by go_simp); have c1_1 : w1.cell? ⟨w.heap.size, 1, none⟩ = some (.int .i64 0) := (b1.cell (by first | omega | (simp; done) | (simp; omega))).trans (by go_simp); have f1_1 : w1.frozen? ⟨w.heap.size, 1, none⟩ = false := (b1.frozen (by first | omega | (simp; done) | (simp; omega))).trans (by go_simp); have l1_0 : w.heap.size < w1.heap.size := (by omega); have n1_0 : w.heap.size ≠ w1.heap.size := (by omega); have m1_0 : w1.heap.size ≠ w.heap.size := (by omega); clear b1
    go_wp2_with fail
    go_quiet (fail)
    go_wp2_with fail
    (with_reducible refine (HL1.out _).mono ?_)
    rintro e w4 ⟨rfl, rfl⟩
    go_wp2_with fail
    (with_reducible refine (HL2.out _).mono ?_)
    rintro e w5 ⟨rfl, rfl⟩
    go_wp2_with fail
    exact bodyPost_ret (v := .tuple #[.agg #[.int .i64 (p.tdiv G), .int .i64 (q.tdiv G)], .int .i64 0]) (by simp [results, Try.results58, go_sem, *]) rfl ⟨rfl, by (repeat (first | with_reducible exact Below.refl _ _ | ((with_reducible refine Below.setCell ?_ ?_ _); rotate_left; (focus (first | omega | (simp; done) | (simp; omega)))) | ((with_reducible refine Below.alloc ?_ ?_ _); rotate_left; (focus (first | omega | (simp; done) | (simp; omega)))) | (with_reducible refine Below.drew ?_) | (with_reducible refine below_drewN ?_ _) | ((with_reducible refine Below.trans ?_ (Below.mono B1.out ?_)); rotate_left; (focus (first | omega | (simp; done) | (simp; omega))))))⟩
end Go.Proofs.Ytoljilbldkbjpaa
