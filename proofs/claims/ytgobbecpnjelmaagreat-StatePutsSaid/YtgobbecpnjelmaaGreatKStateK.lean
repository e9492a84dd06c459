/-
  StateK: Walks of state.sameSeen and copseref17.Same.
-/
import Derived.Test.YtgobbecpnjelmaaGreatJ3a
import Derived.Test.YtgobbecpnjelmaaGreatJ1a
import Derived.Test.YtgobbecpnjelmaaGreatJ0a
namespace Go.Proofs.YtgobbecpnjelmaaGreat
open Go.RowKit

set_option maxRecDepth 100000 in
set_option maxHeartbeats 4000000 in
theorem rsame17_any (i P Q j R S : Int) (s t : Bool) (xv yv : Value) (x y : List Int) (w : World) (hx : Ints .i64 w xv x) (hy : Ints .i64 w yv y) :
  Calls Tryz.prog 84 #[.agg #[.int .i64 i, xv, .int .i64 P, .int .i64 Q, .bool s], .agg #[.int .i64 j, yv, .int .i64 R, .int .i64 S, .bool t]] w fun e w' => e = .returned (.bool (decide ((i, x, P, Q, s) = (j, y, R, S, t)))) ∧ Below w.heap.size w w' := by
 have HX := hH hx
 have HY := hH hy
 have HC := hH (fun W (hX : Ints .i64 W xv x) (hY : Ints .i64 W yv y) => show Calls Tryz.prog 16 #[xv, yv] W fun e w' => e = .returned (.bool (decide (x = y))) ∧ Below W.heap.size W w' from (same_any xv yv x y W hX hY).mono (fun _ _ h => ⟨h.1, by obtain ⟨_, n, rfl⟩ := h; exact below_drewN (Below.refl _ _) n⟩))
 by_cases h1 : i = j
 ·subst h1
  by_cases h2 : P = R
  ·subst h2
   by_cases h3 : Q = S
   ·subst h3
    have HD := hH (show ∀ s t : Bool, s = t → decide ((i, x, P, Q, s) = (i, y, P, Q, t)) = decide (x = y) from fun s t e => by subst e; simp)
    have HE := hH (show ¬ (i, x, P, Q, true) = (i, y, P, Q, false) from by simp)
    have HF := hH (show ¬ (i, x, P, Q, false) = (i, y, P, Q, true) from by simp)
    obtain ⟨xa, xc, rfl⟩ := hx.shape
    obtain ⟨ya, yc, rfl⟩ := hy.shape
    obtain ⟨xn, hxn⟩ : ∃ n, x.length = n := ⟨_, rfl⟩
    obtain ⟨yn, hyn⟩ : ∃ n, y.length = n := ⟨_, rfl⟩
    rw [hxn] at HX HC ⊢
    rw [hyn] at HY HC ⊢
    clear hx hy hxn hyn
    cases s <;> cases t
    ·go_enter Tryz.func84, Tryz.ntmps84
     go_wp2_with fail
     (with_reducible refine (HC.out _ (HX.out.below bw) (HY.out.below bw)).mono ?_); rintro e w1 ⟨rfl, b1⟩; have s1 : w.heap.size + 1 + 1 ≤ w1.heap.size := sz b1; have B1 := hJ w b1; clear b1
     go_wp2_with fail
     go_ret
     exact ⟨ret_bool (HD.out _ _ rfl).symm, bx B1.out⟩
    ·go_enter Tryz.func84, Tryz.ntmps84
     go_wp2_with fail
     go_ret
     exact ⟨ret_bool (by rw [decide_eq_false HF.out]), bw⟩
    ·go_enter Tryz.func84, Tryz.ntmps84
     go_wp2_with fail
     go_ret
     exact ⟨ret_bool (by rw [decide_eq_false HE.out]), bw⟩
    ·go_enter Tryz.func84, Tryz.ntmps84
     go_wp2_with fail
     (with_reducible refine (HC.out _ (HX.out.below bw) (HY.out.below bw)).mono ?_); rintro e w1 ⟨rfl, b1⟩; have s1 : w.heap.size + 1 + 1 ≤ w1.heap.size := sz b1; have B1 := hJ w b1; clear b1
     go_wp2_with fail
     go_ret
     exact ⟨ret_bool (HD.out _ _ rfl).symm, bx B1.out⟩
   ·have HE := hH (show ¬ (i, x, P, Q, s) = (i, y, P, S, t) from by simp; exact fun _ e => absurd e h3)
    have j3 : (Q == S) = false := by simpa using h3
    clear hx hy
    go_enter Tryz.func84, Tryz.ntmps84
    go_wp2_with fail
    go_ret
    exact ⟨ret_bool (by rw [decide_eq_false HE.out]), bw⟩
  ·have HE := hH (show ¬ (i, x, P, Q, s) = (i, y, R, S, t) from by simp; exact fun _ e => absurd e h2)
   have j2 : (P == R) = false := by simpa using h2
   clear hx hy
   go_enter Tryz.func84, Tryz.ntmps84
   go_wp2_with fail
   go_ret
   exact ⟨ret_bool (by rw [decide_eq_false HE.out]), bw⟩
 ·have HE := hH (show ¬ (i, x, P, Q, s) = (j, y, R, S, t) from by simp; exact fun e => absurd e h1)
  have j1 : (i == j) = false := by simpa using h1
  clear hx hy
  go_enter Tryz.func84, Tryz.ntmps84
  go_wp2_with fail
  go_ret
  exact ⟨ret_bool (by rw [decide_eq_false HE.out]), bw⟩
end Go.Proofs.YtgobbecpnjelmaaGreat
