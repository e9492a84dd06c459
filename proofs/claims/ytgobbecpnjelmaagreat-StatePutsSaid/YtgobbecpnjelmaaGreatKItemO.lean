/-
  ItemO: Walk of copseref20.Right.
-/
import Derived.Test.YtgobbecpnjelmaaGreatKItemN
namespace Go.Proofs.YtgobbecpnjelmaaGreat
open Go.RowKit

theorem rin_any (n lo hi : Int) (B : Bool) (hB : decide (lo ≤ n ∧ n ≤ hi) = B) (w : World) : Calls Tryz.prog 78 #[.int .i64 n, .int .i64 lo, .int .i64 hi] w fun e w' => e = .returned (.bool B) ∧ w = w' := by
 subst hB
 by_cases h1 : lo ≤ n
 ·by_cases h2 : n ≤ hi
  ·go_enter Tryz.func78, Tryz.ntmps78
   go_wp2_with fail
   go_ret
   exact ⟨ret_bool (by simp [h1, h2]), rfl⟩
  ·go_enter Tryz.func78, Tryz.ntmps78
   go_wp2_with fail
   go_ret
   exact ⟨ret_bool (by simp; omega), rfl⟩
 ·go_enter Tryz.func78, Tryz.ntmps78
  go_wp2_with fail
  go_ret
  exact ⟨ret_bool (by simp; omega), rfl⟩

theorem confB11_iff (c0 c1 c2 c3 c4 c5 c6 c7 c8 c9 c10 : Int) : confB11 c0 c1 c2 c3 c4 c5 c6 c7 c8 c9 c10 = true ↔ (1 ≤ c0 ∧ c0 ≤ 8) ∧ (2 ≤ c1 ∧ c1 ≤ 256) ∧ (1 ≤ c2 ∧ c2 ≤ 16) ∧ (2 ≤ c3 ∧ c3 ≤ 64) ∧ (c3 ≤ c1) ∧ (1 ≤ c4 ∧ c4 ≤ 256) ∧ (1 ≤ c5 ∧ c5 ≤ 2) ∧ (2 ≤ c7 ∧ c7 ≤ 1000) ∧ (1 ≤ c6 ∧ c6 ≤ c7 - 1) ∧ (1 ≤ c8 ∧ c8 ≤ 64) ∧ (1 ≤ c9 ∧ c9 ≤ 64) ∧ (1 ≤ c10 ∧ c10 ≤ 256) := by
 unfold confB11 confRows inR
 simp only [List.all_cons, List.all_nil, Bool.and_true, Bool.and_eq_true, decide_eq_true_eq]
 omega

theorem confB11_bad (c0 c1 c2 c3 c4 c5 c6 c7 c8 c9 c10 : Int) (h : ¬ ((1 ≤ c0 ∧ c0 ≤ 8) ∧ (2 ≤ c1 ∧ c1 ≤ 256) ∧ (1 ≤ c2 ∧ c2 ≤ 16) ∧ (2 ≤ c3 ∧ c3 ≤ 64) ∧ (c3 ≤ c1) ∧ (1 ≤ c4 ∧ c4 ≤ 256) ∧ (1 ≤ c5 ∧ c5 ≤ 2) ∧ (2 ≤ c7 ∧ c7 ≤ 1000) ∧ (1 ≤ c6 ∧ c6 ≤ c7 - 1) ∧ (1 ≤ c8 ∧ c8 ≤ 64) ∧ (1 ≤ c9 ∧ c9 ≤ 64) ∧ (1 ≤ c10 ∧ c10 ≤ 256))) : confB11 c0 c1 c2 c3 c4 c5 c6 c7 c8 c9 c10 = false := by
 cases hb : confB11 c0 c1 c2 c3 c4 c5 c6 c7 c8 c9 c10 with
 | false => rfl
 | true => exact absurd ((confB11_iff c0 c1 c2 c3 c4 c5 c6 c7 c8 c9 c10).1 hb) h

set_option maxRecDepth 100000 in
set_option maxHeartbeats 16000000 in
theorem rright20_any (c0 c1 c2 c3 c4 c5 c6 c7 c8 c9 c10 : Int) (w : World) :
  Calls Tryz.prog 35 #[.agg #[.int .i64 c0, .int .i64 c1, .int .i64 c2, .int .i64 c3, .int .i64 c4, .int .i64 c5, .int .i64 c6, .int .i64 c7, .int .i64 c8, .int .i64 c9, .int .i64 c10]] w fun e w' => e = .returned (.bool (confB11 c0 c1 c2 c3 c4 c5 c6 c7 c8 c9 c10)) ∧ Below w.heap.size w w' := by
 obtain ⟨R, hR⟩ : ∃ R, confB11 c0 c1 c2 c3 c4 c5 c6 c7 c8 c9 c10 = R := ⟨_, rfl⟩
 have HR := hH hR
 rw [hR]
 clear hR
 rcases Decidable.em (¬ (1 ≤ c0 ∧ c0 ≤ 8)) with h0 | h0
 ·have Q0 := hH (fun W => rin_any c0 1 (8) false (decide_eq_false h0) W)
  have HRB := hH (HR.out.symm.trans (confB11_bad c0 c1 c2 c3 c4 c5 c6 c7 c8 c9 c10 (fun hh => h0 (by obtain ⟨g0, g1, g2, g3, g4, g5, g6, g7, g8, g9, g10, g11⟩ := hh; exact g0))))
  clear h0
  go_enter Tryz.func35, Tryz.ntmps35
  go_wp2_with fail
  (with_reducible refine (Q0.out _).mono ?_)
  rintro e w1 ⟨rfl, rfl⟩
  go_wp2_with fail
  go_ret
  exact ⟨ret_bool HRB.out.symm, bw⟩
 have h0 := Decidable.not_not.1 h0
 rcases Decidable.em (¬ (2 ≤ c1 ∧ c1 ≤ 256)) with h1 | h1
 ·have Q0 := hH (fun W => rin_any c0 1 (8) true (decide_eq_true h0) W)
  have Q1 := hH (fun W => rin_any c1 2 (256) false (decide_eq_false h1) W)
  have HRB := hH (HR.out.symm.trans (confB11_bad c0 c1 c2 c3 c4 c5 c6 c7 c8 c9 c10 (fun hh => h1 (by obtain ⟨g0, g1, g2, g3, g4, g5, g6, g7, g8, g9, g10, g11⟩ := hh; exact g1))))
  clear h0 h1
  go_enter Tryz.func35, Tryz.ntmps35
  go_wp2_with fail
  (with_reducible refine (Q0.out _).mono ?_)
  rintro e w1 ⟨rfl, rfl⟩
  go_wp2_with fail
  (with_reducible refine (Q1.out _).mono ?_)
  rintro e w1 ⟨rfl, rfl⟩
  go_wp2_with fail
  go_ret
  exact ⟨ret_bool HRB.out.symm, bw⟩
 have h1 := Decidable.not_not.1 h1
 rcases Decidable.em (¬ (1 ≤ c2 ∧ c2 ≤ 16)) with h2 | h2
 ·have Q0 := hH (fun W => rin_any c0 1 (8) true (decide_eq_true h0) W)
  have Q1 := hH (fun W => rin_any c1 2 (256) true (decide_eq_true h1) W)
  have Q2 := hH (fun W => rin_any c2 1 (16) false (decide_eq_false h2) W)
  have HRB := hH (HR.out.symm.trans (confB11_bad c0 c1 c2 c3 c4 c5 c6 c7 c8 c9 c10 (fun hh => h2 (by obtain ⟨g0, g1, g2, g3, g4, g5, g6, g7, g8, g9, g10, g11⟩ := hh; exact g2))))
  clear h0 h1 h2
  go_enter Tryz.func35, Tryz.ntmps35
  go_wp2_with fail
  (with_reducible refine (Q0.out _).mono ?_)
  rintro e w1 ⟨rfl, rfl⟩
  go_wp2_with fail
  (with_reducible refine (Q1.out _).mono ?_)
  rintro e w1 ⟨rfl, rfl⟩
  go_wp2_with fail
  (with_reducible refine (Q2.out _).mono ?_)
  rintro e w1 ⟨rfl, rfl⟩
  go_wp2_with fail
  go_ret
  exact ⟨ret_bool HRB.out.symm, bw⟩
 have h2 := Decidable.not_not.1 h2
 rcases Decidable.em (¬ (2 ≤ c3 ∧ c3 ≤ 64)) with h3 | h3
 ·have Q0 := hH (fun W => rin_any c0 1 (8) true (decide_eq_true h0) W)
  have Q1 := hH (fun W => rin_any c1 2 (256) true (decide_eq_true h1) W)
  have Q2 := hH (fun W => rin_any c2 1 (16) true (decide_eq_true h2) W)
  have Q3 := hH (fun W => rin_any c3 2 (64) false (decide_eq_false h3) W)
  have HRB := hH (HR.out.symm.trans (confB11_bad c0 c1 c2 c3 c4 c5 c6 c7 c8 c9 c10 (fun hh => h3 (by obtain ⟨g0, g1, g2, g3, g4, g5, g6, g7, g8, g9, g10, g11⟩ := hh; exact g3))))
  clear h0 h1 h2 h3
  go_enter Tryz.func35, Tryz.ntmps35
  go_wp2_with fail
  (with_reducible refine (Q0.out _).mono ?_)
  rintro e w1 ⟨rfl, rfl⟩
  go_wp2_with fail
  (with_reducible refine (Q1.out _).mono ?_)
  rintro e w1 ⟨rfl, rfl⟩
  go_wp2_with fail
  (with_reducible refine (Q2.out _).mono ?_)
  rintro e w1 ⟨rfl, rfl⟩
  go_wp2_with fail
  (with_reducible refine (Q3.out _).mono ?_)
  rintro e w1 ⟨rfl, rfl⟩
  go_wp2_with fail
  go_ret
  exact ⟨ret_bool HRB.out.symm, bw⟩
 have h3 := Decidable.not_not.1 h3
 rcases Decidable.em (¬ (c3 ≤ c1)) with h4 | h4
 ·have Q0 := hH (fun W => rin_any c0 1 (8) true (decide_eq_true h0) W)
  have Q1 := hH (fun W => rin_any c1 2 (256) true (decide_eq_true h1) W)
  have Q2 := hH (fun W => rin_any c2 1 (16) true (decide_eq_true h2) W)
  have Q3 := hH (fun W => rin_any c3 2 (64) true (decide_eq_true h3) W)
  have HRB := hH (HR.out.symm.trans (confB11_bad c0 c1 c2 c3 c4 c5 c6 c7 c8 c9 c10 (fun hh => h4 (by obtain ⟨g0, g1, g2, g3, g4, g5, g6, g7, g8, g9, g10, g11⟩ := hh; exact g4))))
  have h4b : c1 < c3 := by omega
  clear h0 h1 h2 h3 h4
  go_enter Tryz.func35, Tryz.ntmps35
  go_wp2_with fail
  (with_reducible refine (Q0.out _).mono ?_)
  rintro e w1 ⟨rfl, rfl⟩
  go_wp2_with fail
  (with_reducible refine (Q1.out _).mono ?_)
  rintro e w1 ⟨rfl, rfl⟩
  go_wp2_with fail
  (with_reducible refine (Q2.out _).mono ?_)
  rintro e w1 ⟨rfl, rfl⟩
  go_wp2_with fail
  (with_reducible refine (Q3.out _).mono ?_)
  rintro e w1 ⟨rfl, rfl⟩
  go_wp2_with fail
  go_ret
  exact ⟨ret_bool HRB.out.symm, bw⟩
 have h4 := Decidable.not_not.1 h4
 rcases Decidable.em (¬ (1 ≤ c4 ∧ c4 ≤ 256)) with h5 | h5
 ·have Q0 := hH (fun W => rin_any c0 1 (8) true (decide_eq_true h0) W)
  have Q1 := hH (fun W => rin_any c1 2 (256) true (decide_eq_true h1) W)
  have Q2 := hH (fun W => rin_any c2 1 (16) true (decide_eq_true h2) W)
  have Q3 := hH (fun W => rin_any c3 2 (64) true (decide_eq_true h3) W)
  have Q5 := hH (fun W => rin_any c4 1 (256) false (decide_eq_false h5) W)
  have HRB := hH (HR.out.symm.trans (confB11_bad c0 c1 c2 c3 c4 c5 c6 c7 c8 c9 c10 (fun hh => h5 (by obtain ⟨g0, g1, g2, g3, g4, g5, g6, g7, g8, g9, g10, g11⟩ := hh; exact g5))))
  clear h0 h1 h2 h3 h5
  go_enter Tryz.func35, Tryz.ntmps35
  go_wp2_with fail
  (with_reducible refine (Q0.out _).mono ?_)
  rintro e w1 ⟨rfl, rfl⟩
  go_wp2_with fail
  (with_reducible refine (Q1.out _).mono ?_)
  rintro e w1 ⟨rfl, rfl⟩
  go_wp2_with fail
  (with_reducible refine (Q2.out _).mono ?_)
  rintro e w1 ⟨rfl, rfl⟩
  go_wp2_with fail
  (with_reducible refine (Q3.out _).mono ?_)
  rintro e w1 ⟨rfl, rfl⟩
  go_wp2_with fail
  (with_reducible refine (Q5.out _).mono ?_)
  rintro e w1 ⟨rfl, rfl⟩
  go_wp2_with fail
  go_ret
  exact ⟨ret_bool HRB.out.symm, bw⟩
 have h5 := Decidable.not_not.1 h5
 rcases Decidable.em (¬ (1 ≤ c5 ∧ c5 ≤ 2)) with h6 | h6
 ·have Q0 := hH (fun W => rin_any c0 1 (8) true (decide_eq_true h0) W)
  have Q1 := hH (fun W => rin_any c1 2 (256) true (decide_eq_true h1) W)
  have Q2 := hH (fun W => rin_any c2 1 (16) true (decide_eq_true h2) W)
  have Q3 := hH (fun W => rin_any c3 2 (64) true (decide_eq_true h3) W)
  have Q5 := hH (fun W => rin_any c4 1 (256) true (decide_eq_true h5) W)
  have Q6 := hH (fun W => rin_any c5 1 (2) false (decide_eq_false h6) W)
  have HRB := hH (HR.out.symm.trans (confB11_bad c0 c1 c2 c3 c4 c5 c6 c7 c8 c9 c10 (fun hh => h6 (by obtain ⟨g0, g1, g2, g3, g4, g5, g6, g7, g8, g9, g10, g11⟩ := hh; exact g6))))
  clear h0 h1 h2 h3 h5 h6
  go_enter Tryz.func35, Tryz.ntmps35
  go_wp2_with fail
  (with_reducible refine (Q0.out _).mono ?_)
  rintro e w1 ⟨rfl, rfl⟩
  go_wp2_with fail
  (with_reducible refine (Q1.out _).mono ?_)
  rintro e w1 ⟨rfl, rfl⟩
  go_wp2_with fail
  (with_reducible refine (Q2.out _).mono ?_)
  rintro e w1 ⟨rfl, rfl⟩
  go_wp2_with fail
  (with_reducible refine (Q3.out _).mono ?_)
  rintro e w1 ⟨rfl, rfl⟩
  go_wp2_with fail
  (with_reducible refine (Q5.out _).mono ?_)
  rintro e w1 ⟨rfl, rfl⟩
  go_wp2_with fail
  (with_reducible refine (Q6.out _).mono ?_)
  rintro e w1 ⟨rfl, rfl⟩
  go_wp2_with fail
  go_ret
  exact ⟨ret_bool HRB.out.symm, bw⟩
 have h6 := Decidable.not_not.1 h6
 rcases Decidable.em (¬ (2 ≤ c7 ∧ c7 ≤ 1000)) with h7 | h7
 ·have Q0 := hH (fun W => rin_any c0 1 (8) true (decide_eq_true h0) W)
  have Q1 := hH (fun W => rin_any c1 2 (256) true (decide_eq_true h1) W)
  have Q2 := hH (fun W => rin_any c2 1 (16) true (decide_eq_true h2) W)
  have Q3 := hH (fun W => rin_any c3 2 (64) true (decide_eq_true h3) W)
  have Q5 := hH (fun W => rin_any c4 1 (256) true (decide_eq_true h5) W)
  have Q6 := hH (fun W => rin_any c5 1 (2) true (decide_eq_true h6) W)
  have Q7 := hH (fun W => rin_any c7 2 (1000) false (decide_eq_false h7) W)
  have HRB := hH (HR.out.symm.trans (confB11_bad c0 c1 c2 c3 c4 c5 c6 c7 c8 c9 c10 (fun hh => h7 (by obtain ⟨g0, g1, g2, g3, g4, g5, g6, g7, g8, g9, g10, g11⟩ := hh; exact g7))))
  clear h0 h1 h2 h3 h5 h6 h7
  go_enter Tryz.func35, Tryz.ntmps35
  go_wp2_with fail
  (with_reducible refine (Q0.out _).mono ?_)
  rintro e w1 ⟨rfl, rfl⟩
  go_wp2_with fail
  (with_reducible refine (Q1.out _).mono ?_)
  rintro e w1 ⟨rfl, rfl⟩
  go_wp2_with fail
  (with_reducible refine (Q2.out _).mono ?_)
  rintro e w1 ⟨rfl, rfl⟩
  go_wp2_with fail
  (with_reducible refine (Q3.out _).mono ?_)
  rintro e w1 ⟨rfl, rfl⟩
  go_wp2_with fail
  (with_reducible refine (Q5.out _).mono ?_)
  rintro e w1 ⟨rfl, rfl⟩
  go_wp2_with fail
  (with_reducible refine (Q6.out _).mono ?_)
  rintro e w1 ⟨rfl, rfl⟩
  go_wp2_with fail
  (with_reducible refine (Q7.out _).mono ?_)
  rintro e w1 ⟨rfl, rfl⟩
  go_wp2_with fail
  go_ret
  exact ⟨ret_bool HRB.out.symm, bw⟩
 have h7 := Decidable.not_not.1 h7
 rcases Decidable.em (¬ (1 ≤ c6 ∧ c6 ≤ c7 - 1)) with h8 | h8
 ·have Q0 := hH (fun W => rin_any c0 1 (8) true (decide_eq_true h0) W)
  have Q1 := hH (fun W => rin_any c1 2 (256) true (decide_eq_true h1) W)
  have Q2 := hH (fun W => rin_any c2 1 (16) true (decide_eq_true h2) W)
  have Q3 := hH (fun W => rin_any c3 2 (64) true (decide_eq_true h3) W)
  have Q5 := hH (fun W => rin_any c4 1 (256) true (decide_eq_true h5) W)
  have Q6 := hH (fun W => rin_any c5 1 (2) true (decide_eq_true h6) W)
  have Q7 := hH (fun W => rin_any c7 2 (1000) true (decide_eq_true h7) W)
  have Q8 := hH (fun W => rin_any c6 1 (c7 - 1) false (decide_eq_false h8) W)
  have HRB := hH (HR.out.symm.trans (confB11_bad c0 c1 c2 c3 c4 c5 c6 c7 c8 c9 c10 (fun hh => h8 (by obtain ⟨g0, g1, g2, g3, g4, g5, g6, g7, g8, g9, g10, g11⟩ := hh; exact g8))))
  have e1 : wrap64 (c7 - 1) = c7 - 1 := by rw [IntWalk.wrap64_in _ (by omega)]
  have e2 : IntKind.i64.wrap (c7 - 1) = c7 - 1 := by rw [IntKind.wrap_i64]; omega
  clear h0 h1 h2 h3 h5 h6 h7 h8
  go_enter Tryz.func35, Tryz.ntmps35
  go_wp2_with fail
  (with_reducible refine (Q0.out _).mono ?_)
  rintro e w1 ⟨rfl, rfl⟩
  go_wp2_with fail
  (with_reducible refine (Q1.out _).mono ?_)
  rintro e w1 ⟨rfl, rfl⟩
  go_wp2_with fail
  (with_reducible refine (Q2.out _).mono ?_)
  rintro e w1 ⟨rfl, rfl⟩
  go_wp2_with fail
  (with_reducible refine (Q3.out _).mono ?_)
  rintro e w1 ⟨rfl, rfl⟩
  go_wp2_with fail
  (with_reducible refine (Q5.out _).mono ?_)
  rintro e w1 ⟨rfl, rfl⟩
  go_wp2_with fail
  (with_reducible refine (Q6.out _).mono ?_)
  rintro e w1 ⟨rfl, rfl⟩
  go_wp2_with fail
  (with_reducible refine (Q7.out _).mono ?_)
  rintro e w1 ⟨rfl, rfl⟩
  go_wp2_with fail
  (with_reducible refine (Q8.out _).mono ?_)
  rintro e w1 ⟨rfl, rfl⟩
  go_wp2_with fail
  go_ret
  exact ⟨ret_bool HRB.out.symm, bw⟩
 have h8 := Decidable.not_not.1 h8
 rcases Decidable.em (¬ (1 ≤ c8 ∧ c8 ≤ 64)) with h9 | h9
 ·have Q0 := hH (fun W => rin_any c0 1 (8) true (decide_eq_true h0) W)
  have Q1 := hH (fun W => rin_any c1 2 (256) true (decide_eq_true h1) W)
  have Q2 := hH (fun W => rin_any c2 1 (16) true (decide_eq_true h2) W)
  have Q3 := hH (fun W => rin_any c3 2 (64) true (decide_eq_true h3) W)
  have Q5 := hH (fun W => rin_any c4 1 (256) true (decide_eq_true h5) W)
  have Q6 := hH (fun W => rin_any c5 1 (2) true (decide_eq_true h6) W)
  have Q7 := hH (fun W => rin_any c7 2 (1000) true (decide_eq_true h7) W)
  have Q8 := hH (fun W => rin_any c6 1 (c7 - 1) true (decide_eq_true h8) W)
  have Q9 := hH (fun W => rin_any c8 1 (64) false (decide_eq_false h9) W)
  have HRB := hH (HR.out.symm.trans (confB11_bad c0 c1 c2 c3 c4 c5 c6 c7 c8 c9 c10 (fun hh => h9 (by obtain ⟨g0, g1, g2, g3, g4, g5, g6, g7, g8, g9, g10, g11⟩ := hh; exact g9))))
  have e1 : wrap64 (c7 - 1) = c7 - 1 := by rw [IntWalk.wrap64_in _ (by omega)]
  have e2 : IntKind.i64.wrap (c7 - 1) = c7 - 1 := by rw [IntKind.wrap_i64]; omega
  clear h0 h1 h2 h3 h5 h6 h7 h8 h9
  go_enter Tryz.func35, Tryz.ntmps35
  go_wp2_with fail
  (with_reducible refine (Q0.out _).mono ?_)
  rintro e w1 ⟨rfl, rfl⟩
  go_wp2_with fail
  (with_reducible refine (Q1.out _).mono ?_)
  rintro e w1 ⟨rfl, rfl⟩
  go_wp2_with fail
  (with_reducible refine (Q2.out _).mono ?_)
  rintro e w1 ⟨rfl, rfl⟩
  go_wp2_with fail
  (with_reducible refine (Q3.out _).mono ?_)
  rintro e w1 ⟨rfl, rfl⟩
  go_wp2_with fail
  (with_reducible refine (Q5.out _).mono ?_)
  rintro e w1 ⟨rfl, rfl⟩
  go_wp2_with fail
  (with_reducible refine (Q6.out _).mono ?_)
  rintro e w1 ⟨rfl, rfl⟩
  go_wp2_with fail
  (with_reducible refine (Q7.out _).mono ?_)
  rintro e w1 ⟨rfl, rfl⟩
  go_wp2_with fail
  (with_reducible refine (Q8.out _).mono ?_)
  rintro e w1 ⟨rfl, rfl⟩
  go_wp2_with fail
  (with_reducible refine (Q9.out _).mono ?_)
  rintro e w1 ⟨rfl, rfl⟩
  go_wp2_with fail
  go_ret
  exact ⟨ret_bool HRB.out.symm, bw⟩
 have h9 := Decidable.not_not.1 h9
 rcases Decidable.em (¬ (1 ≤ c9 ∧ c9 ≤ 64)) with h10 | h10
 ·have Q0 := hH (fun W => rin_any c0 1 (8) true (decide_eq_true h0) W)
  have Q1 := hH (fun W => rin_any c1 2 (256) true (decide_eq_true h1) W)
  have Q2 := hH (fun W => rin_any c2 1 (16) true (decide_eq_true h2) W)
  have Q3 := hH (fun W => rin_any c3 2 (64) true (decide_eq_true h3) W)
  have Q5 := hH (fun W => rin_any c4 1 (256) true (decide_eq_true h5) W)
  have Q6 := hH (fun W => rin_any c5 1 (2) true (decide_eq_true h6) W)
  have Q7 := hH (fun W => rin_any c7 2 (1000) true (decide_eq_true h7) W)
  have Q8 := hH (fun W => rin_any c6 1 (c7 - 1) true (decide_eq_true h8) W)
  have Q9 := hH (fun W => rin_any c8 1 (64) true (decide_eq_true h9) W)
  have Q10 := hH (fun W => rin_any c9 1 (64) false (decide_eq_false h10) W)
  have HRB := hH (HR.out.symm.trans (confB11_bad c0 c1 c2 c3 c4 c5 c6 c7 c8 c9 c10 (fun hh => h10 (by obtain ⟨g0, g1, g2, g3, g4, g5, g6, g7, g8, g9, g10, g11⟩ := hh; exact g10))))
  have e1 : wrap64 (c7 - 1) = c7 - 1 := by rw [IntWalk.wrap64_in _ (by omega)]
  have e2 : IntKind.i64.wrap (c7 - 1) = c7 - 1 := by rw [IntKind.wrap_i64]; omega
  clear h0 h1 h2 h3 h5 h6 h7 h8 h9 h10
  go_enter Tryz.func35, Tryz.ntmps35
  go_wp2_with fail
  (with_reducible refine (Q0.out _).mono ?_)
  rintro e w1 ⟨rfl, rfl⟩
  go_wp2_with fail
  (with_reducible refine (Q1.out _).mono ?_)
  rintro e w1 ⟨rfl, rfl⟩
  go_wp2_with fail
  (with_reducible refine (Q2.out _).mono ?_)
  rintro e w1 ⟨rfl, rfl⟩
  go_wp2_with fail
  (with_reducible refine (Q3.out _).mono ?_)
  rintro e w1 ⟨rfl, rfl⟩
  go_wp2_with fail
  (with_reducible refine (Q5.out _).mono ?_)
  rintro e w1 ⟨rfl, rfl⟩
  go_wp2_with fail
  (with_reducible refine (Q6.out _).mono ?_)
  rintro e w1 ⟨rfl, rfl⟩
  go_wp2_with fail
  (with_reducible refine (Q7.out _).mono ?_)
  rintro e w1 ⟨rfl, rfl⟩
  go_wp2_with fail
  (with_reducible refine (Q8.out _).mono ?_)
  rintro e w1 ⟨rfl, rfl⟩
  go_wp2_with fail
  (with_reducible refine (Q9.out _).mono ?_)
  rintro e w1 ⟨rfl, rfl⟩
  go_wp2_with fail
  (with_reducible refine (Q10.out _).mono ?_)
  rintro e w1 ⟨rfl, rfl⟩
  go_wp2_with fail
  go_ret
  exact ⟨ret_bool HRB.out.symm, bw⟩
 have h10 := Decidable.not_not.1 h10
 rcases Decidable.em (¬ (1 ≤ c10 ∧ c10 ≤ 256)) with h11 | h11
 ·have Q0 := hH (fun W => rin_any c0 1 (8) true (decide_eq_true h0) W)
  have Q1 := hH (fun W => rin_any c1 2 (256) true (decide_eq_true h1) W)
  have Q2 := hH (fun W => rin_any c2 1 (16) true (decide_eq_true h2) W)
  have Q3 := hH (fun W => rin_any c3 2 (64) true (decide_eq_true h3) W)
  have Q5 := hH (fun W => rin_any c4 1 (256) true (decide_eq_true h5) W)
  have Q6 := hH (fun W => rin_any c5 1 (2) true (decide_eq_true h6) W)
  have Q7 := hH (fun W => rin_any c7 2 (1000) true (decide_eq_true h7) W)
  have Q8 := hH (fun W => rin_any c6 1 (c7 - 1) true (decide_eq_true h8) W)
  have Q9 := hH (fun W => rin_any c8 1 (64) true (decide_eq_true h9) W)
  have Q10 := hH (fun W => rin_any c9 1 (64) true (decide_eq_true h10) W)
  have Q11 := hH (fun W => rin_any c10 1 (256) false (decide_eq_false h11) W)
  have HRB := hH (HR.out.symm.trans (confB11_bad c0 c1 c2 c3 c4 c5 c6 c7 c8 c9 c10 (fun hh => h11 (by obtain ⟨g0, g1, g2, g3, g4, g5, g6, g7, g8, g9, g10, g11⟩ := hh; exact g11))))
  have e1 : wrap64 (c7 - 1) = c7 - 1 := by rw [IntWalk.wrap64_in _ (by omega)]
  have e2 : IntKind.i64.wrap (c7 - 1) = c7 - 1 := by rw [IntKind.wrap_i64]; omega
  clear h0 h1 h2 h3 h5 h6 h7 h8 h9 h10 h11
  go_enter Tryz.func35, Tryz.ntmps35
  go_wp2_with fail
  (with_reducible refine (Q0.out _).mono ?_)
  rintro e w1 ⟨rfl, rfl⟩
  go_wp2_with fail
  (with_reducible refine (Q1.out _).mono ?_)
  rintro e w1 ⟨rfl, rfl⟩
  go_wp2_with fail
  (with_reducible refine (Q2.out _).mono ?_)
  rintro e w1 ⟨rfl, rfl⟩
  go_wp2_with fail
  (with_reducible refine (Q3.out _).mono ?_)
  rintro e w1 ⟨rfl, rfl⟩
  go_wp2_with fail
  (with_reducible refine (Q5.out _).mono ?_)
  rintro e w1 ⟨rfl, rfl⟩
  go_wp2_with fail
  (with_reducible refine (Q6.out _).mono ?_)
  rintro e w1 ⟨rfl, rfl⟩
  go_wp2_with fail
  (with_reducible refine (Q7.out _).mono ?_)
  rintro e w1 ⟨rfl, rfl⟩
  go_wp2_with fail
  (with_reducible refine (Q8.out _).mono ?_)
  rintro e w1 ⟨rfl, rfl⟩
  go_wp2_with fail
  (with_reducible refine (Q9.out _).mono ?_)
  rintro e w1 ⟨rfl, rfl⟩
  go_wp2_with fail
  (with_reducible refine (Q10.out _).mono ?_)
  rintro e w1 ⟨rfl, rfl⟩
  go_wp2_with fail
  (with_reducible refine (Q11.out _).mono ?_)
  rintro e w1 ⟨rfl, rfl⟩
  go_wp2_with fail
  go_ret
  exact ⟨ret_bool HRB.out.symm, bw⟩
 have h11 := Decidable.not_not.1 h11
 have Q0 := hH (fun W => rin_any c0 1 (8) true (decide_eq_true h0) W)
 have Q1 := hH (fun W => rin_any c1 2 (256) true (decide_eq_true h1) W)
 have Q2 := hH (fun W => rin_any c2 1 (16) true (decide_eq_true h2) W)
 have Q3 := hH (fun W => rin_any c3 2 (64) true (decide_eq_true h3) W)
 have Q5 := hH (fun W => rin_any c4 1 (256) true (decide_eq_true h5) W)
 have Q6 := hH (fun W => rin_any c5 1 (2) true (decide_eq_true h6) W)
 have Q7 := hH (fun W => rin_any c7 2 (1000) true (decide_eq_true h7) W)
 have Q8 := hH (fun W => rin_any c6 1 (c7 - 1) true (decide_eq_true h8) W)
 have Q9 := hH (fun W => rin_any c8 1 (64) true (decide_eq_true h9) W)
 have Q10 := hH (fun W => rin_any c9 1 (64) true (decide_eq_true h10) W)
 have Q11 := hH (fun W => rin_any c10 1 (256) true (decide_eq_true h11) W)
 have HRB := hH (HR.out.symm.trans ((confB11_iff c0 c1 c2 c3 c4 c5 c6 c7 c8 c9 c10).2 ⟨h0, h1, h2, h3, h4, h5, h6, h7, h8, h9, h10, h11⟩))
 have e1 : wrap64 (c7 - 1) = c7 - 1 := by rw [IntWalk.wrap64_in _ (by omega)]
 have e2 : IntKind.i64.wrap (c7 - 1) = c7 - 1 := by rw [IntKind.wrap_i64]; omega
 clear h0 h1 h2 h3 h5 h6 h7 h8 h9 h10 h11
 go_enter Tryz.func35, Tryz.ntmps35
 go_wp2_with fail
 (with_reducible refine (Q0.out _).mono ?_)
 rintro e w1 ⟨rfl, rfl⟩
 go_wp2_with fail
 (with_reducible refine (Q1.out _).mono ?_)
 rintro e w1 ⟨rfl, rfl⟩
 go_wp2_with fail
 (with_reducible refine (Q2.out _).mono ?_)
 rintro e w1 ⟨rfl, rfl⟩
 go_wp2_with fail
 (with_reducible refine (Q3.out _).mono ?_)
 rintro e w1 ⟨rfl, rfl⟩
 go_wp2_with fail
 (with_reducible refine (Q5.out _).mono ?_)
 rintro e w1 ⟨rfl, rfl⟩
 go_wp2_with fail
 (with_reducible refine (Q6.out _).mono ?_)
 rintro e w1 ⟨rfl, rfl⟩
 go_wp2_with fail
 (with_reducible refine (Q7.out _).mono ?_)
 rintro e w1 ⟨rfl, rfl⟩
 go_wp2_with fail
 (with_reducible refine (Q8.out _).mono ?_)
 rintro e w1 ⟨rfl, rfl⟩
 go_wp2_with fail
 (with_reducible refine (Q9.out _).mono ?_)
 rintro e w1 ⟨rfl, rfl⟩
 go_wp2_with fail
 (with_reducible refine (Q10.out _).mono ?_)
 rintro e w1 ⟨rfl, rfl⟩
 go_wp2_with fail
 (with_reducible refine (Q11.out _).mono ?_)
 rintro e w1 ⟨rfl, rfl⟩
 go_wp2_with fail
 go_ret
 exact ⟨ret_bool HRB.out.symm, bw⟩
end Go.Proofs.YtgobbecpnjelmaaGreat
