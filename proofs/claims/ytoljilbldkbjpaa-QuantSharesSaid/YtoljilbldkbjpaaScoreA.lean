/-
  Walks of score.Is, score.odder, score.Cmp and of the reference's Is and Odder.
-/
import Derived.Test.YtoljilbldkbjpaaQuantP
import Derived.Test.YtoljilbldkbjpaaPairM
import Derived.Test.YtoljilbldkbjpaaNumC
import Derived.Test.YtoljilbldkbjpaaRefDiv
import Derived.Test.YtoljilbldkbjpaaWideC
namespace Go.Proofs.Ytoljilbldkbjpaa
open Go.RowKit

theorem gcd_small {p q : Int} (hq : 1 ≤ q ∧ q ≤ 16) : 0 ≤ gcdZ p q ∧ gcdZ p q ≤ 16 := by
  unfold gcdZ
  have := Nat.gcd_le_right p.natAbs (n := q.natAbs) (by omega)
  omega

theorem scoreB_fail {p q : Int} (h : ¬ ((1 ≤ q ∧ q ≤ 16) ∧ (0 ≤ p ∧ p ≤ 274877906944))) : scoreB (p, q) = false := by
  unfold scoreB
  exact decide_eq_false (fun hh => h ⟨hh.1, hh.2.1⟩)

theorem scoreB_gcd {p q : Int} (h : (1 ≤ q ∧ q ≤ 16) ∧ (0 ≤ p ∧ p ≤ 274877906944)) : (gcdZ p q == 1) = scoreB (p, q) := by
  unfold scoreB
  by_cases e : gcdZ p q = 1
  · rw [decide_eq_true ⟨h.1, h.2, e⟩, e]; rfl
  · rw [decide_eq_false (fun hh => e hh.2.2)]
    simp [e]

set_option maxRecDepth 100000 in
set_option maxHeartbeats 4000000 in
theorem sis_any (p q : Int) (w : World) : Calls Try.prog 56 #[.agg #[.int .i64 p, .int .i64 q]] w fun e w' => e = .returned (.bool (scoreB (p, q))) ∧ Below w.heap.size w w' := by
  by_cases h0 : q < 1
  · have HB := Lib.hid (scoreB_fail (p := p) (q := q) (by omega))
    go_enter Try.func56, Try.ntmps56
    go_wp2_with fail
    go_ret
    exact ⟨ret_bool HB.out.symm, by (repeat (first | with_reducible exact Below.refl _ _ | ((with_reducible refine Below.setCell ?_ ?_ _); rotate_left; (focus (first | omega | (simp; done) | (simp; omega)))) | ((with_reducible refine Below.alloc ?_ ?_ _); rotate_left; (focus (first | omega | (simp; done) | (simp; omega)))) | (with_reducible refine Below.drew ?_) | (with_reducible refine below_drewN ?_ _)))⟩
  · have g0 : 1 ≤ q := by omega
    by_cases h1 : 16 < q
    · have HB := Lib.hid (scoreB_fail (p := p) (q := q) (by omega))
      go_enter Try.func56, Try.ntmps56
      go_wp2_with fail
      go_ret
      exact ⟨ret_bool HB.out.symm, by (repeat (first | with_reducible exact Below.refl _ _ | ((with_reducible refine Below.setCell ?_ ?_ _); rotate_left; (focus (first | omega | (simp; done) | (simp; omega)))) | ((with_reducible refine Below.alloc ?_ ?_ _); rotate_left; (focus (first | omega | (simp; done) | (simp; omega)))) | (with_reducible refine Below.drew ?_) | (with_reducible refine below_drewN ?_ _)))⟩
    · have g1 : q ≤ 16 := by omega
      by_cases h2 : p < 0
      · have HB := Lib.hid (scoreB_fail (p := p) (q := q) (by omega))
        go_enter Try.func56, Try.ntmps56
        go_wp2_with fail
        go_ret
        exact ⟨ret_bool HB.out.symm, by (repeat (first | with_reducible exact Below.refl _ _ | ((with_reducible refine Below.setCell ?_ ?_ _); rotate_left; (focus (first | omega | (simp; done) | (simp; omega)))) | ((with_reducible refine Below.alloc ?_ ?_ _); rotate_left; (focus (first | omega | (simp; done) | (simp; omega)))) | (with_reducible refine Below.drew ?_) | (with_reducible refine below_drewN ?_ _)))⟩
      · have g2 : 0 ≤ p := by omega
        by_cases h3 : 274877906944 < p
        · have HB := Lib.hid (scoreB_fail (p := p) (q := q) (by omega))
          go_enter Try.func56, Try.ntmps56
          go_wp2_with fail
          go_ret
          exact ⟨ret_bool HB.out.symm, by (repeat (first | with_reducible exact Below.refl _ _ | ((with_reducible refine Below.setCell ?_ ?_ _); rotate_left; (focus (first | omega | (simp; done) | (simp; omega)))) | ((with_reducible refine Below.alloc ?_ ?_ _); rotate_left; (focus (first | omega | (simp; done) | (simp; omega)))) | (with_reducible refine Below.drew ?_) | (with_reducible refine below_drewN ?_ _)))⟩
        · have g3 : p ≤ 274877906944 := by omega
          have HB := Lib.hid (scoreB_gcd (p := p) (q := q) (by omega))
          have hg := gcd_small (p := p) (q := q) (by omega)
          have HG := Lib.hid (fun W => gcd_any p q W (by unfold Ok64; omega) (by unfold Ok64; omega))
          rw [fitV_yes (by unfold Ok64; omega), fitE_yes (by unfold Ok64; omega)] at HG
          clear hg
          generalize gcdZ p q = G at *
          go_enter Try.func56, Try.ntmps56
          go_wp2_with fail
          (with_reducible refine (HG.out _).mono ?_)
          rintro e w1 ⟨rfl, d1, rfl⟩
          go_wp2_with fail
          go_ret
          exact ⟨ret_bool HB.out, by (repeat (first | with_reducible exact Below.refl _ _ | ((with_reducible refine Below.setCell ?_ ?_ _); rotate_left; (focus (first | omega | (simp; done) | (simp; omega)))) | ((with_reducible refine Below.alloc ?_ ?_ _); rotate_left; (focus (first | omega | (simp; done) | (simp; omega)))) | (with_reducible refine Below.drew ?_) | (with_reducible refine below_drewN ?_ _)))⟩

set_option maxRecDepth 100000 in
set_option maxHeartbeats 4000000 in
theorem ris13_any (p q : Int) (w : World) : Calls Try.prog 32 #[.agg #[.int .i64 p, .int .i64 q]] w fun e w' => e = .returned (.bool (scoreB (p, q))) ∧ Below w.heap.size w w' := by
  by_cases h0 : q < 1
  · have HB := Lib.hid (scoreB_fail (p := p) (q := q) (by omega))
    go_enter Try.func32, Try.ntmps32
    go_wp2_with fail
    go_ret
    exact ⟨ret_bool HB.out.symm, by (repeat (first | with_reducible exact Below.refl _ _ | ((with_reducible refine Below.setCell ?_ ?_ _); rotate_left; (focus (first | omega | (simp; done) | (simp; omega)))) | ((with_reducible refine Below.alloc ?_ ?_ _); rotate_left; (focus (first | omega | (simp; done) | (simp; omega)))) | (with_reducible refine Below.drew ?_) | (with_reducible refine below_drewN ?_ _)))⟩
  · have g0 : 1 ≤ q := by omega
    by_cases h1 : 16 < q
    · have HB := Lib.hid (scoreB_fail (p := p) (q := q) (by omega))
      go_enter Try.func32, Try.ntmps32
      go_wp2_with fail
      go_ret
      exact ⟨ret_bool HB.out.symm, by (repeat (first | with_reducible exact Below.refl _ _ | ((with_reducible refine Below.setCell ?_ ?_ _); rotate_left; (focus (first | omega | (simp; done) | (simp; omega)))) | ((with_reducible refine Below.alloc ?_ ?_ _); rotate_left; (focus (first | omega | (simp; done) | (simp; omega)))) | (with_reducible refine Below.drew ?_) | (with_reducible refine below_drewN ?_ _)))⟩
    · have g1 : q ≤ 16 := by omega
      by_cases h2 : p < 0
      · have HB := Lib.hid (scoreB_fail (p := p) (q := q) (by omega))
        go_enter Try.func32, Try.ntmps32
        go_wp2_with fail
        go_ret
        exact ⟨ret_bool HB.out.symm, by (repeat (first | with_reducible exact Below.refl _ _ | ((with_reducible refine Below.setCell ?_ ?_ _); rotate_left; (focus (first | omega | (simp; done) | (simp; omega)))) | ((with_reducible refine Below.alloc ?_ ?_ _); rotate_left; (focus (first | omega | (simp; done) | (simp; omega)))) | (with_reducible refine Below.drew ?_) | (with_reducible refine below_drewN ?_ _)))⟩
      · have g2 : 0 ≤ p := by omega
        by_cases h3 : 274877906944 < p
        · have HB := Lib.hid (scoreB_fail (p := p) (q := q) (by omega))
          go_enter Try.func32, Try.ntmps32
          go_wp2_with fail
          go_ret
          exact ⟨ret_bool HB.out.symm, by (repeat (first | with_reducible exact Below.refl _ _ | ((with_reducible refine Below.setCell ?_ ?_ _); rotate_left; (focus (first | omega | (simp; done) | (simp; omega)))) | ((with_reducible refine Below.alloc ?_ ?_ _); rotate_left; (focus (first | omega | (simp; done) | (simp; omega)))) | (with_reducible refine Below.drew ?_) | (with_reducible refine below_drewN ?_ _)))⟩
        · have g3 : p ≤ 274877906944 := by omega
          have HB := Lib.hid (scoreB_gcd (p := p) (q := q) (by omega))
          have hg := gcd_small (p := p) (q := q) (by omega)
          have HG := Lib.hid (fun W => rgcd_any p q W (by unfold Ok64; omega) (by unfold Ok64; omega))
          rw [fitV_yes (by unfold Ok64; omega), fitE_yes (by unfold Ok64; omega)] at HG
          clear hg
          generalize gcdZ p q = G at *
          go_enter Try.func32, Try.ntmps32
          go_wp2_with fail
          (with_reducible refine (HG.out _).mono ?_); rintro e w1 ⟨rfl, b1⟩; have s1 : w.heap.size ≤ w1.heap.size := (by have := b1.size; first | omega | (simp at this; omega)); have B1 := Lib.hid (show Below w.heap.size w w1 from below_tr (by (repeat (first | with_reducible exact Below.refl _ _ | ((with_reducible refine Below.setCell ?_ ?_ _); rotate_left; (focus (first | omega | (simp; done) | (simp; omega)))) | ((with_reducible refine Below.alloc ?_ ?_ _); rotate_left; (focus (first | omega | (simp; done) | (simp; omega)))) | (with_reducible refine Below.drew ?_) | (with_reducible refine below_drewN ?_ _)))) (b1.mono (by first | omega | (simp; done) | (simp; omega)))); clear b1
          go_wp2_with fail
          go_ret
          exact ⟨ret_bool HB.out, by (repeat (first | with_reducible exact Below.refl _ _ | ((with_reducible refine Below.setCell ?_ ?_ _); rotate_left; (focus (first | omega | (simp; done) | (simp; omega)))) | ((with_reducible refine Below.alloc ?_ ?_ _); rotate_left; (focus (first | omega | (simp; done) | (simp; omega)))) | (with_reducible refine Below.drew ?_) | (with_reducible refine below_drewN ?_ _) | ((with_reducible refine Below.trans ?_ (Below.mono B1.out ?_)); rotate_left; (focus (first | omega | (simp; done) | (simp; omega))))))⟩

set_option maxRecDepth 100000 in
set_option maxHeartbeats 4000000 in
theorem odder_any (p q r s : Int) (w : World) (hp : Ok64 p) (hq : Ok64 q) (hr : Ok64 r) (hs : Ok64 s) :
    Calls Try.prog 82 #[.agg #[.int .i64 p, .int .i64 q], .agg #[.int .i64 r, .int .i64 s]] w fun e w' => e = .returned (.int .i64 (oddI (p, q) (r, s))) ∧ Below w.heap.size w w' := by
  have HP := Lib.hid (fun W => wProds_any r q p s W hr hq hp hs)
  rw [show prodsI r q p s = oddI (p, q) (r, s) from prods_odd (p, q) (r, s)] at HP
  generalize oddI (p, q) (r, s) = R at *
  clear hp hq hr hs
  go_enter Try.func82, Try.ntmps82
  go_wp2_with fail
  (with_reducible refine (HP.out _).mono ?_); rintro e w1 ⟨rfl, b1⟩; have s1 : w.heap.size ≤ w1.heap.size := (by have := b1.size; first | omega | (simp at this; omega)); have B1 := Lib.hid (show Below w.heap.size w w1 from below_tr (by (repeat (first | with_reducible exact Below.refl _ _ | ((with_reducible refine Below.setCell ?_ ?_ _); rotate_left; (focus (first | omega | (simp; done) | (simp; omega)))) | ((with_reducible refine Below.alloc ?_ ?_ _); rotate_left; (focus (first | omega | (simp; done) | (simp; omega)))) | (with_reducible refine Below.drew ?_) | (with_reducible refine below_drewN ?_ _)))) (b1.mono (by first | omega | (simp; done) | (simp; omega)))); clear b1
  go_wp2_with fail
  go_ret
  exact ⟨rfl, by (repeat (first | with_reducible exact Below.refl _ _ | ((with_reducible refine Below.setCell ?_ ?_ _); rotate_left; (focus (first | omega | (simp; done) | (simp; omega)))) | ((with_reducible refine Below.alloc ?_ ?_ _); rotate_left; (focus (first | omega | (simp; done) | (simp; omega)))) | (with_reducible refine Below.drew ?_) | (with_reducible refine below_drewN ?_ _) | ((with_reducible refine Below.trans ?_ (Below.mono B1.out ?_)); rotate_left; (focus (first | omega | (simp; done) | (simp; omega))))))⟩

theorem odd_case (p q r s : Int) : (p * s < r * q ∧ oddI (p, q) (r, s) = 1) ∨ (¬ p * s < r * q ∧ r * q < p * s ∧ oddI (p, q) (r, s) = -1) ∨ (¬ p * s < r * q ∧ ¬ r * q < p * s ∧ oddI (p, q) (r, s) = 0) := by
  unfold oddI
  dsimp only
  split
  · exact .inl ⟨by assumption, rfl⟩
  · split
    · exact .inr (.inl ⟨by assumption, by assumption, rfl⟩)
    · exact .inr (.inr ⟨by assumption, by assumption, rfl⟩)

theorem mul_small {p s : Int} (h1 : 0 ≤ p ∧ p ≤ 274877906944) (h2 : 0 ≤ s ∧ s ≤ 16) : 0 ≤ p * s ∧ p * s ≤ 4398046511104 := by
  refine ⟨Int.mul_nonneg h1.1 h2.1, ?_⟩
  have := Int.mul_le_mul h1.2 h2.2 h2.1 (by omega)
  omega

theorem wrap_ok {z : Int} (h : 0 ≤ z ∧ z ≤ 4398046511104) : wrap64 z = z := by unfold wrap64; omega

set_option maxRecDepth 100000 in
set_option maxHeartbeats 4000000 in
theorem rodder_any (p q r s : Int) (w : World) (hp : 0 ≤ p ∧ p ≤ 274877906944) (hq : 0 ≤ q ∧ q ≤ 16) (hr : 0 ≤ r ∧ r ≤ 274877906944) (hs : 0 ≤ s ∧ s ≤ 16) :
    Calls Try.prog 33 #[.agg #[.int .i64 p, .int .i64 q], .agg #[.int .i64 r, .int .i64 s]] w fun e w' => e = .returned (.int .i64 (oddI (p, q) (r, s))) ∧ Below w.heap.size w w' := by
  have h1 := mul_small hp hs
  have h2 := mul_small hr hq
  clear hp hq hr hs
  rcases odd_case p q r s with ⟨g, e⟩ | ⟨g, g', e⟩ | ⟨g, g', e⟩ <;>
  · rw [e]
    clear e
    have e1 := wrap_ok h1
    have e2 := wrap_ok h2
    have H1 := Lib.hid h1
    have H2 := Lib.hid h2
    clear h1 h2
    go_enter Try.func33, Try.ntmps33
    go_wp2_with fail
    go_ret
    exact ⟨rfl, by (repeat (first | with_reducible exact Below.refl _ _ | ((with_reducible refine Below.setCell ?_ ?_ _); rotate_left; (focus (first | omega | (simp; done) | (simp; omega)))) | ((with_reducible refine Below.alloc ?_ ?_ _); rotate_left; (focus (first | omega | (simp; done) | (simp; omega)))) | (with_reducible refine Below.drew ?_) | (with_reducible refine below_drewN ?_ _)))⟩

set_option maxRecDepth 100000 in
set_option maxHeartbeats 4000000 in
theorem scmp_any (p q r s : Int) (w : World) :
    Calls Try.prog 75 #[.agg #[.int .i64 p, .int .i64 q], .agg #[.int .i64 r, .int .i64 s]] w fun e w' => e = .returned (.tuple #[.int .i64 (if scoreB (p, q) && scoreB (r, s) then oddI (p, q) (r, s) else 0), .int .i64 (if scoreB (p, q) && scoreB (r, s) then 0 else 130)]) ∧ Below w.heap.size w w' := by
  have H1 := Lib.hid (fun W => sis_any p q W)
  have H2 := Lib.hid (fun W => sis_any r s W)
  have H3 := Lib.hid (fun (h1 : scoreB (p, q) = true) (h2 : scoreB (r, s) = true) W => odder_any p q r s W (by have := scoreB_is.1 h1; unfold Ok64; omega) (by have := scoreB_is.1 h1; unfold Ok64; omega) (by have := scoreB_is.1 h2; unfold Ok64; omega) (by have := scoreB_is.1 h2; unfold Ok64; omega))
  generalize oddI (p, q) (r, s) = R at *
  cases hb : scoreB (p, q) with
  | false =>
    rw [hb] at H1
    clear H3 H2 hb
    simp only [Bool.false_and, Bool.false_eq_true, if_false]
    go_enter Try.func75, Try.ntmps75
    go_wp2_with fail
    (with_reducible refine (H1.out _).mono ?_); rintro e w1 ⟨rfl, b1⟩; have s1 : w.heap.size + 1 + 1 ≤ w1.heap.size := (by have := b1.size; first | omega | (simp at this; omega)); have B1 := Lib.hid (show Below w.heap.size w w1 from below_tr (by (repeat (first | with_reducible exact Below.refl _ _ | ((with_reducible refine Below.setCell ?_ ?_ _); rotate_left; (focus (first | omega | (simp; done) | (simp; omega)))) | ((with_reducible refine Below.alloc ?_ ?_ _); rotate_left; (focus (first | omega | (simp; done) | (simp; omega)))) | (with_reducible refine Below.drew ?_) | (with_reducible refine below_drewN ?_ _)))) (b1.mono (by first | omega | (simp; done) | (simp; omega)))); have c1_0 : w1.cell? ⟨w.heap.size, 0, none⟩ = some (.int .i64 p) := (b1.cell (by first | omega | (simp; done) | (simp; omega))).trans (by go_simp); have l1_0 : w.heap.size < w1.heap.size := (by omega); have n1_0 : w.heap.size ≠ w1.heap.size := (by omega); have m1_0 : w1.heap.size ≠ w.heap.size := (by omega); clear b1
    go_wp2_with fail
    go_ret2
    exact ⟨rfl, by (repeat (first | with_reducible exact Below.refl _ _ | ((with_reducible refine Below.setCell ?_ ?_ _); rotate_left; (focus (first | omega | (simp; done) | (simp; omega)))) | ((with_reducible refine Below.alloc ?_ ?_ _); rotate_left; (focus (first | omega | (simp; done) | (simp; omega)))) | (with_reducible refine Below.drew ?_) | (with_reducible refine below_drewN ?_ _) | ((with_reducible refine Below.trans ?_ (Below.mono B1.out ?_)); rotate_left; (focus (first | omega | (simp; done) | (simp; omega))))))⟩
  | true =>
    cases hb2 : scoreB (r, s) with
    | false =>
      rw [hb] at H1
      rw [hb2] at H2
      clear H3 hb hb2
      simp only [Bool.and_false, Bool.false_eq_true, if_false]
      go_enter Try.func75, Try.ntmps75
      go_wp2_with fail
      (with_reducible refine (H1.out _).mono ?_); rintro e w1 ⟨rfl, b1⟩; have s1 : w.heap.size + 1 + 1 ≤ w1.heap.size := (by have := b1.size; first | omega | (simp at this; omega)); have B1 := Lib.hid (show Below w.heap.size w w1 from below_tr (by (repeat (first | with_reducible exact Below.refl _ _ | ((with_reducible refine Below.setCell ?_ ?_ _); rotate_left; (focus (first | omega | (simp; done) | (simp; omega)))) | ((with_reducible refine Below.alloc ?_ ?_ _); rotate_left; (focus (first | omega | (simp; done) | (simp; omega)))) | (with_reducible refine Below.drew ?_) | (with_reducible refine below_drewN ?_ _)))) (b1.mono (by first | omega | (simp; done) | (simp; omega)))); have c1_0 : w1.cell? ⟨w.heap.size + 1, 0, none⟩ = some (.int .i64 r) := (b1.cell (by first | omega | (simp; done) | (simp; omega))).trans (by go_simp); have c1_1 : w1.cell? ⟨w.heap.size + 1, 1, none⟩ = some (.int .i64 s) := (b1.cell (by first | omega | (simp; done) | (simp; omega))).trans (by go_simp); have l1_0 : w.heap.size + 1 < w1.heap.size := (by omega); have n1_0 : w.heap.size + 1 ≠ w1.heap.size := (by omega); have m1_0 : w1.heap.size ≠ w.heap.size + 1 := (by omega); clear b1
      go_wp2_with fail
      (with_reducible refine (H2.out _).mono ?_); rintro e w2 ⟨rfl, b2⟩; have s2 : w1.heap.size ≤ w2.heap.size := (by have := b2.size; first | omega | (simp at this; omega)); have B2 := Lib.hid (show Below w.heap.size w w2 from below_tr (by (repeat (first | with_reducible exact Below.refl _ _ | ((with_reducible refine Below.setCell ?_ ?_ _); rotate_left; (focus (first | omega | (simp; done) | (simp; omega)))) | ((with_reducible refine Below.alloc ?_ ?_ _); rotate_left; (focus (first | omega | (simp; done) | (simp; omega)))) | (with_reducible refine Below.drew ?_) | (with_reducible refine below_drewN ?_ _) | ((with_reducible refine Below.trans ?_ (Below.mono B1.out ?_)); rotate_left; (focus (first | omega | (simp; done) | (simp; omega))))))) (b2.mono (by first | omega | (simp; done) | (simp; omega)))); clear b2
      go_wp2_with fail
      go_ret2
      exact ⟨rfl, by (repeat (first | with_reducible exact Below.refl _ _ | ((with_reducible refine Below.setCell ?_ ?_ _); rotate_left; (focus (first | omega | (simp; done) | (simp; omega)))) | ((with_reducible refine Below.alloc ?_ ?_ _); rotate_left; (focus (first | omega | (simp; done) | (simp; omega)))) | (with_reducible refine Below.drew ?_) | (with_reducible refine below_drewN ?_ _) | ((with_reducible refine Below.trans ?_ (Below.mono B2.out ?_)); rotate_left; (focus (first | omega | (simp; done) | (simp; omega))))))⟩
    | true =>
      have H4 := Lib.hid (H3.out hb hb2)
      rw [hb] at H1
      rw [hb2] at H2
      clear H3 hb hb2
      simp only [Bool.and_true, if_true]
      go_enter Try.func75, Try.ntmps75
      go_wp2_with fail
      (with_reducible refine (H1.out _).mono ?_); rintro e w1 ⟨rfl, b1⟩; have s1 : w.heap.size + 1 + 1 ≤ w1.heap.size := (by have := b1.size; first | omega | (simp at this; omega)); have B1 := Lib.hid (show Below w.heap.size w w1 from below_tr (by (repeat (first | with_reducible exact Below.refl _ _ | ((with_reducible refine Below.setCell ?_ ?_ _); rotate_left; (focus (first | omega | (simp; done) | (simp; omega)))) | ((with_reducible refine Below.alloc ?_ ?_ _); rotate_left; (focus (first | omega | (simp; done) | (simp; omega)))) | (with_reducible refine Below.drew ?_) | (with_reducible refine below_drewN ?_ _)))) (b1.mono (by first | omega | (simp; done) | (simp; omega)))); have c1_0 : w1.cell? ⟨w.heap.size, 0, none⟩ = some (.int .i64 p) := (b1.cell (by first | omega | (simp; done) | (simp; omega))).trans (by go_simp); have c1_1 : w1.cell? ⟨w.heap.size, 1, none⟩ = some (.int .i64 q) := (b1.cell (by first | omega | (simp; done) | (simp; omega))).trans (by go_simp); have c1_2 : w1.cell? ⟨w.heap.size + 1, 0, none⟩ = some (.int .i64 r) := (b1.cell (by first | omega | (simp; done) | (simp; omega))).trans (by go_simp); have c1_3 : w1.cell? ⟨w.heap.size + 1, 1, none⟩ = some (.int .i64 s) := (b1.cell (by first | omega | (simp; done) | (simp; omega))).trans (by go_simp); have l1_0 : w.heap.size < w1.heap.size := (by omega); have n1_0 : w.heap.size ≠ w1.heap.size := (by omega); have m1_0 : w1.heap.size ≠ w.heap.size := (by omega); have l1_1 : w.heap.size + 1 < w1.heap.size := (by omega); have n1_1 : w.heap.size + 1 ≠ w1.heap.size := (by omega); have m1_1 : w1.heap.size ≠ w.heap.size + 1 := (by omega); clear b1
      go_wp2_with fail
      (with_reducible refine (H2.out _).mono ?_); rintro e w2 ⟨rfl, b2⟩; have s2 : w1.heap.size ≤ w2.heap.size := (by have := b2.size; first | omega | (simp at this; omega)); have B2 := Lib.hid (show Below w.heap.size w w2 from below_tr (by (repeat (first | with_reducible exact Below.refl _ _ | ((with_reducible refine Below.setCell ?_ ?_ _); rotate_left; (focus (first | omega | (simp; done) | (simp; omega)))) | ((with_reducible refine Below.alloc ?_ ?_ _); rotate_left; (focus (first | omega | (simp; done) | (simp; omega)))) | (with_reducible refine Below.drew ?_) | (with_reducible refine below_drewN ?_ _) | ((with_reducible refine Below.trans ?_ (Below.mono B1.out ?_)); rotate_left; (focus (first | omega | (simp; done) | (simp; omega))))))) (b2.mono (by first | omega | (simp; done) | (simp; omega)))); have c2_0 : w2.cell? ⟨w.heap.size, 0, none⟩ = some (.int .i64 p) := (b2.cell (by first | omega | (simp; done) | (simp; omega))).trans (by go_simp); have c2_1 : w2.cell? ⟨w.heap.size, 1, none⟩ = some (.int .i64 q) := (b2.cell (by first | omega | (simp; done) | (simp; omega))).trans (by go_simp); have c2_2 : w2.cell? ⟨w.heap.size + 1, 0, none⟩ = some (.int .i64 r) := (b2.cell (by first | omega | (simp; done) | (simp; omega))).trans (by go_simp); have c2_3 : w2.cell? ⟨w.heap.size + 1, 1, none⟩ = some (.int .i64 s) := (b2.cell (by first | omega | (simp; done) | (simp; omega))).trans (by go_simp); have l2_0 : w.heap.size < w2.heap.size := (by omega); have n2_0 : w.heap.size ≠ w2.heap.size := (by omega); have m2_0 : w2.heap.size ≠ w.heap.size := (by omega); have l2_1 : w.heap.size + 1 < w2.heap.size := (by omega); have n2_1 : w.heap.size + 1 ≠ w2.heap.size := (by omega); have m2_1 : w2.heap.size ≠ w.heap.size + 1 := (by omega); clear b2
      go_wp2_with fail
      (with_reducible refine (H4.out _).mono ?_); rintro e w3 ⟨rfl, b3⟩; have s3 : w2.heap.size ≤ w3.heap.size := (by have := b3.size; first | omega | (simp at this; omega)); have B3 := Lib.hid (show Below w.heap.size w w3 from below_tr (by (repeat (first | with_reducible exact Below.refl _ _ | ((with_reducible refine Below.setCell ?_ ?_ _); rotate_left; (focus (first | omega | (simp; done) | (simp; omega)))) | ((with_reducible refine Below.alloc ?_ ?_ _); rotate_left; (focus (first | omega | (simp; done) | (simp; omega)))) | (with_reducible refine Below.drew ?_) | (with_reducible refine below_drewN ?_ _) | ((with_reducible refine Below.trans ?_ (Below.mono B2.out ?_)); rotate_left; (focus (first | omega | (simp; done) | (simp; omega))))))) (b3.mono (by first | omega | (simp; done) | (simp; omega)))); clear b3
      go_wp2_with fail
      go_ret2
      exact ⟨rfl, by (repeat (first | with_reducible exact Below.refl _ _ | ((with_reducible refine Below.setCell ?_ ?_ _); rotate_left; (focus (first | omega | (simp; done) | (simp; omega)))) | ((with_reducible refine Below.alloc ?_ ?_ _); rotate_left; (focus (first | omega | (simp; done) | (simp; omega)))) | (with_reducible refine Below.drew ?_) | (with_reducible refine below_drewN ?_ _) | ((with_reducible refine Below.trans ?_ (Below.mono B3.out ?_)); rotate_left; (focus (first | omega | (simp; done) | (simp; omega))))))⟩
end Go.Proofs.Ytoljilbldkbjpaa
