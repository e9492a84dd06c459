/-
  Walk of QuantPlaces.
-/
import Derived.Test.YtoljilbldkbjpaaLaws19
namespace Go.Proofs.Ytoljilbldkbjpaa
open Go.RowKit

theorem mul_in {a b : Int} (h1 : 0 ≤ a ∧ a ≤ 4096) (h2 : 0 ≤ b ∧ b ≤ 1000) : 0 ≤ a * b ∧ a * b ≤ 4096000 := by
  refine ⟨Int.mul_nonneg h1.1 h2.1, ?_⟩
  have := Int.mul_le_mul (a := a) (b := b) (c := 4096) (d := 1000) h1.2 h2.2 h2.1 (by omega)
  omega

theorem place_law {n p t : Int} (h : ¬ indexBad n p t) : (n - indexV n p t) * t ≤ p * n ∧ p * n < (n - indexV n p t + 1) * t := by
  obtain ⟨_, h1, h2⟩ := index_is h
  have e1 : (t - p) * n = n * t - p * n := by rw [Int.sub_mul, Int.mul_comm t n]
  have e2 : (n - indexV n p t) * t = n * t - t * indexV n p t := by rw [Int.sub_mul, Int.mul_comm (indexV n p t) t]
  have e3 : (n - indexV n p t + 1) * t = n * t - t * indexV n p t + t := by rw [Int.add_mul, e2, Int.one_mul]
  have e4 : t * (indexV n p t - 1) = t * indexV n p t - t := by rw [Int.mul_sub, Int.mul_one]
  rw [e1] at h1 h2
  rw [e4] at h2
  rw [e2, e3]
  omega

set_option maxRecDepth 100000 in
set_option maxHeartbeats 8000000 in
theorem quantPlaces_walk {w : World} (n : Int) (_hn : (Lit.int .i64 n).wf = true) (p : Int) (hp : (Lit.int .i64 p).wf = true) (t : Int) (ht : (Lit.int .i64 t).wf = true) :
    Calls Try.prog 7 #[.int .i64 n, .int .i64 p, .int .i64 t] w fun e w' => e = .returned (.bool true) ∧ Below w.heap.size w w' := by
  have hp := wf_ok hp
  have ht := wf_ok ht
  clear _hn
  have H1 := Lib.hid (fun W => qindex_any n p t W hp ht)
  have H2 := Lib.hid (fun W => rqindex_any n p t W)
  have H3 := Lib.hid (fun W => qindex_any (n + 1) p t W hp ht)
  by_cases hb : indexBad n p t
  · have e1 : indexV n p t = 0 := if_pos hb
    have e2 : indexE n p t = 1 := if_pos hb
    rw [e1, e2] at H1 H2
    clear e1 e2 hb hp ht H3
    go_enter Try.func7, Try.ntmps7
    go_wp2_with fail
    (with_reducible refine (H1.out _).mono ?_)
    rintro e w1 ⟨rfl, rfl⟩
    go_wp2_with fail
    (with_reducible refine (H2.out _).mono ?_)
    rintro e w1 ⟨rfl, rfl⟩
    go_wp2_with fail
    (with_reducible refine (lives19_any _).mono ?_); rintro e w1 ⟨rfl, b1⟩; have s1 : w.heap.size ≤ w1.heap.size := (by have := b1.size; first | omega | (simp at this; omega)); have B1 := Lib.hid (show Below w.heap.size w w1 from below_tr (by (repeat (first | with_reducible exact Below.refl _ _ | ((with_reducible refine Below.setCell ?_ ?_ _); rotate_left; (focus (first | omega | (simp; done) | (simp; omega)))) | ((with_reducible refine Below.alloc ?_ ?_ _); rotate_left; (focus (first | omega | (simp; done) | (simp; omega)))) | (with_reducible refine Below.drew ?_) | (with_reducible refine below_drewN ?_ _)))) (b1.mono (by first | omega | (simp; done) | (simp; omega)))); clear b1
    go_wp2_with fail
    go_ret
    exact ⟨rfl, by (repeat (first | with_reducible exact Below.refl _ _ | ((with_reducible refine Below.setCell ?_ ?_ _); rotate_left; (focus (first | omega | (simp; done) | (simp; omega)))) | ((with_reducible refine Below.alloc ?_ ?_ _); rotate_left; (focus (first | omega | (simp; done) | (simp; omega)))) | (with_reducible refine Below.drew ?_) | (with_reducible refine below_drewN ?_ _) | ((with_reducible refine Below.trans ?_ (Below.mono B1.out ?_)); rotate_left; (focus (first | omega | (simp; done) | (simp; omega))))))⟩
  · obtain ⟨⟨k1, k2⟩, _, _⟩ := index_is hb
    obtain ⟨f1, f2⟩ := place_law hb
    have e2 : indexE n p t = 0 := if_neg hb
    rw [e2] at H1 H2
    have hbb := hb
    unfold indexBad at hbb
    obtain ⟨K, hK⟩ : ∃ K, indexV n p t = K := ⟨_, rfl⟩
    have m1 := mul_in (a := n - indexV n p t) (b := t) (by omega) (by omega)
    have m2 := mul_in (a := n - indexV n p t + 1) (b := t) (by omega) (by omega)
    have m3 := mul_in (a := n) (b := p) (by omega) (by omega)
    rw [Int.mul_comm n p] at m3
    have w1 : wrap64 (n + 1) = n + 1 := IntWalk.wrap64_in _ (by omega)
    have w2 : wrap64 (n - K) = n - K := IntWalk.wrap64_in _ (by omega)
    have w3 : wrap64 (n - K + 1) = n - K + 1 := IntWalk.wrap64_in _ (by omega)
    rw [hK] at f1 f2 m1 m2 k1 k2 H1 H2
    have w4 : wrap64 ((n - K) * t) = (n - K) * t := IntWalk.wrap64_in _ (by omega)
    have w5 : wrap64 ((n - K + 1) * t) = (n - K + 1) * t := IntWalk.wrap64_in _ (by omega)
    have w6 : wrap64 (p * n) = p * n := IntWalk.wrap64_in _ (by omega)
    have w7 : wrap64 (K + 1) = K + 1 := IntWalk.wrap64_in _ (by omega)
    clear m1 m2 m3 e2 hp ht
    by_cases hlt : n < 4096
    · have hb2 : ¬ indexBad (n + 1) p t := by unfold indexBad; omega
      have hnx := index_next hb hb2
      have e3 : indexE (n + 1) p t = 0 := if_neg hb2
      rw [e3] at H3
      rw [hK] at hnx
      generalize indexV (n + 1) p t = N at *
      clear hb hb2 e3 hbb hK
      rcases hnx with rfl | rfl
      · go_enter Try.func7, Try.ntmps7
        go_wp2_with fail
        (with_reducible refine (H1.out _).mono ?_)
        rintro e w1 ⟨rfl, rfl⟩
        go_wp2_with fail
        (with_reducible refine (H2.out _).mono ?_)
        rintro e w1 ⟨rfl, rfl⟩
        go_wp2_with fail
        (with_reducible refine (H3.out _).mono ?_)
        rintro e w1 ⟨rfl, rfl⟩
        go_wp2_with fail
        (with_reducible refine (lives19_any _).mono ?_); rintro e w1 ⟨rfl, b1⟩; have s1 : w.heap.size ≤ w1.heap.size := (by have := b1.size; first | omega | (simp at this; omega)); have B1 := Lib.hid (show Below w.heap.size w w1 from below_tr (by (repeat (first | with_reducible exact Below.refl _ _ | ((with_reducible refine Below.setCell ?_ ?_ _); rotate_left; (focus (first | omega | (simp; done) | (simp; omega)))) | ((with_reducible refine Below.alloc ?_ ?_ _); rotate_left; (focus (first | omega | (simp; done) | (simp; omega)))) | (with_reducible refine Below.drew ?_) | (with_reducible refine below_drewN ?_ _)))) (b1.mono (by first | omega | (simp; done) | (simp; omega)))); clear b1
        go_wp2_with fail
        go_ret
        exact ⟨rfl, by (repeat (first | with_reducible exact Below.refl _ _ | ((with_reducible refine Below.setCell ?_ ?_ _); rotate_left; (focus (first | omega | (simp; done) | (simp; omega)))) | ((with_reducible refine Below.alloc ?_ ?_ _); rotate_left; (focus (first | omega | (simp; done) | (simp; omega)))) | (with_reducible refine Below.drew ?_) | (with_reducible refine below_drewN ?_ _) | ((with_reducible refine Below.trans ?_ (Below.mono B1.out ?_)); rotate_left; (focus (first | omega | (simp; done) | (simp; omega))))))⟩
      · have j1 : (K + 1 != K) = true := by simp; omega
        have j2 : (K + 1 == K) = false := by simp; omega
        go_enter Try.func7, Try.ntmps7
        go_wp2_with fail
        (with_reducible refine (H1.out _).mono ?_)
        rintro e w1 ⟨rfl, rfl⟩
        go_wp2_with fail
        (with_reducible refine (H2.out _).mono ?_)
        rintro e w1 ⟨rfl, rfl⟩
        go_wp2_with fail
        (with_reducible refine (H3.out _).mono ?_)
        rintro e w1 ⟨rfl, rfl⟩
        go_wp2_with fail
        (with_reducible refine (lives19_any _).mono ?_); rintro e w1 ⟨rfl, b1⟩; have s1 : w.heap.size ≤ w1.heap.size := (by have := b1.size; first | omega | (simp at this; omega)); have B1 := Lib.hid (show Below w.heap.size w w1 from below_tr (by (repeat (first | with_reducible exact Below.refl _ _ | ((with_reducible refine Below.setCell ?_ ?_ _); rotate_left; (focus (first | omega | (simp; done) | (simp; omega)))) | ((with_reducible refine Below.alloc ?_ ?_ _); rotate_left; (focus (first | omega | (simp; done) | (simp; omega)))) | (with_reducible refine Below.drew ?_) | (with_reducible refine below_drewN ?_ _)))) (b1.mono (by first | omega | (simp; done) | (simp; omega)))); clear b1
        go_wp2_with fail
        go_ret
        exact ⟨rfl, by (repeat (first | with_reducible exact Below.refl _ _ | ((with_reducible refine Below.setCell ?_ ?_ _); rotate_left; (focus (first | omega | (simp; done) | (simp; omega)))) | ((with_reducible refine Below.alloc ?_ ?_ _); rotate_left; (focus (first | omega | (simp; done) | (simp; omega)))) | (with_reducible refine Below.drew ?_) | (with_reducible refine below_drewN ?_ _) | ((with_reducible refine Below.trans ?_ (Below.mono B1.out ?_)); rotate_left; (focus (first | omega | (simp; done) | (simp; omega))))))⟩
    · have hb2 : indexBad (n + 1) p t := by unfold indexBad; omega
      have e3 : indexE (n + 1) p t = 1 := if_pos hb2
      have e4 : indexV (n + 1) p t = 0 := if_pos hb2
      rw [e3, e4] at H3
      clear hb hb2 e3 e4 hbb hK
      go_enter Try.func7, Try.ntmps7
      go_wp2_with fail
      (with_reducible refine (H1.out _).mono ?_)
      rintro e w1 ⟨rfl, rfl⟩
      go_wp2_with fail
      (with_reducible refine (H2.out _).mono ?_)
      rintro e w1 ⟨rfl, rfl⟩
      go_wp2_with fail
      (with_reducible refine (H3.out _).mono ?_)
      rintro e w1 ⟨rfl, rfl⟩
      go_wp2_with fail
      (with_reducible refine (lives19_any _).mono ?_); rintro e w1 ⟨rfl, b1⟩; have s1 : w.heap.size ≤ w1.heap.size := (by have := b1.size; first | omega | (simp at this; omega)); have B1 := Lib.hid (show Below w.heap.size w w1 from below_tr (by (repeat (first | with_reducible exact Below.refl _ _ | ((with_reducible refine Below.setCell ?_ ?_ _); rotate_left; (focus (first | omega | (simp; done) | (simp; omega)))) | ((with_reducible refine Below.alloc ?_ ?_ _); rotate_left; (focus (first | omega | (simp; done) | (simp; omega)))) | (with_reducible refine Below.drew ?_) | (with_reducible refine below_drewN ?_ _)))) (b1.mono (by first | omega | (simp; done) | (simp; omega)))); clear b1
      go_wp2_with fail
      go_ret
      exact ⟨rfl, by (repeat (first | with_reducible exact Below.refl _ _ | ((with_reducible refine Below.setCell ?_ ?_ _); rotate_left; (focus (first | omega | (simp; done) | (simp; omega)))) | ((with_reducible refine Below.alloc ?_ ?_ _); rotate_left; (focus (first | omega | (simp; done) | (simp; omega)))) | (with_reducible refine Below.drew ?_) | (with_reducible refine below_drewN ?_ _) | ((with_reducible refine Below.trans ?_ (Below.mono B1.out ?_)); rotate_left; (focus (first | omega | (simp; done) | (simp; omega))))))⟩
end Go.Proofs.Ytoljilbldkbjpaa
