/-
  AlertA: Walks of item.RightAlert and copseref22.RightAlert.
-/
import Derived.Test.YtgobbecpnjelmaaGreatJ3a
import Derived.Test.YtgobbecpnjelmaaGreatJ0b
namespace Go.Proofs.YtgobbecpnjelmaaGreat
open Go.RowKit

theorem alertB_bad {q i p1 q1 p2 q2 : Int} (h : q < 1 ∨ 1099511627776 < q ∨ i < 1 ∨ 1099511627776 < i) : alertB (q, i, (p1, q1), (p2, q2)) = false := by
 unfold alertB
 have : ((decide (1 ≤ q) && decide (q ≤ 1099511627776)) && (decide (1 ≤ i) && decide (i ≤ 1099511627776))) = false := by simp; omega
 show ((decide (1 ≤ q) && decide (q ≤ 1099511627776)) && (decide (1 ≤ i) && decide (i ≤ 1099511627776)) && _) = false
 rw [this]
 rfl

theorem alertB_in {q i p1 q1 p2 q2 : Int} (h : ¬ (q < 1 ∨ 1099511627776 < q ∨ i < 1 ∨ 1099511627776 < i)) : alertB (q, i, (p1, q1), (p2, q2)) = (scoreB (p1, q1) && scoreB (p2, q2) && decide (0 ≤ oddI (p1, q1) (p2, q2))) := by
 unfold alertB
 have : ((decide (1 ≤ q) && decide (q ≤ 1099511627776)) && (decide (1 ≤ i) && decide (i ≤ 1099511627776))) = true := by simp; omega
 show ((decide (1 ≤ q) && decide (q ≤ 1099511627776)) && (decide (1 ≤ i) && decide (i ≤ 1099511627776)) && _) = _
 rw [this]
 rfl

set_option maxRecDepth 100000 in
set_option maxHeartbeats 4000000 in
theorem rightAlert_any (q i p1 q1 p2 q2 : Int) (w : World) :
  Calls Tryz.prog 77 #[.agg #[.int .i64 q, .int .i64 i, .int .i64 p1, .int .i64 q1, .int .i64 p2, .int .i64 q2]] w fun e w' => e = .returned (.bool (alertB (q, i, (p1, q1), (p2, q2)))) ∧ Below w.heap.size w w' := by
 by_cases hb : q < 1 ∨ 1099511627776 < q ∨ i < 1 ∨ 1099511627776 < i
 ·rw [alertB_bad hb]
  have hc : q < 1 ∨ (¬ q < 1 ∧ 1099511627776 < q) ∨ (¬ q < 1 ∧ ¬ 1099511627776 < q ∧ i < 1) ∨ (¬ q < 1 ∧ ¬ 1099511627776 < q ∧ ¬ i < 1 ∧ 1099511627776 < i) := by omega
  clear hb
  rcases hc with h1 | ⟨h1, h2⟩ | ⟨h1, h2, h3⟩ | ⟨h1, h2, h3, h4⟩
  all_goals
   go_enter Tryz.func77, Tryz.ntmps77
   go_wp2_with fail
   go_ret
   exact ⟨rfl, bw⟩
 ·have HC := hH (fun W => scmp_any p1 q1 p2 q2 W)
  have HA := hH (alertB_in (p1 := p1) (q1 := q1) (p2 := p2) (q2 := q2) hb)
  obtain ⟨h1, h2, h3, h4⟩ : ¬ q < 1 ∧ ¬ 1099511627776 < q ∧ ¬ i < 1 ∧ ¬ 1099511627776 < i := by omega
  obtain ⟨S, hS⟩ : ∃ S, (scoreB (p1, q1) && scoreB (p2, q2)) = S := ⟨_, rfl⟩
  obtain ⟨D, hD⟩ : ∃ D, oddI (p1, q1) (p2, q2) = D := ⟨_, rfl⟩
  rw [hS, hD] at HC HA
  rw [HA.out]
  clear hb hS hD HA
  cases S with
  | false =>
   go_enter Tryz.func77, Tryz.ntmps77
   go_wp2_with fail
   (with_reducible refine (HC.out _).mono ?_); rintro e w1 ⟨rfl, b1⟩; have s1 : w.heap.size + 1 ≤ w1.heap.size := sz b1; have B1 := hJ w b1; clear b1
   go_wp2_with fail
   go_ret
   exact ⟨rfl, bx B1.out⟩
  | true =>
   by_cases hd : 0 ≤ D
   ·go_enter Tryz.func77, Tryz.ntmps77
    go_wp2_with fail
    (with_reducible refine (HC.out _).mono ?_); rintro e w1 ⟨rfl, b1⟩; have s1 : w.heap.size + 1 ≤ w1.heap.size := sz b1; have B1 := hJ w b1; clear b1
    go_wp2_with fail
    go_ret
    exact ⟨ret_bool (by simp [hd]), bx B1.out⟩
   ·go_enter Tryz.func77, Tryz.ntmps77
    go_wp2_with fail
    (with_reducible refine (HC.out _).mono ?_); rintro e w1 ⟨rfl, b1⟩; have s1 : w.heap.size + 1 ≤ w1.heap.size := sz b1; have B1 := hJ w b1; clear b1
    go_wp2_with fail
    go_ret
    exact ⟨ret_bool (by first | (simp; done) | (simp; omega)), bx B1.out⟩

set_option maxRecDepth 100000 in
set_option maxHeartbeats 4000000 in
theorem rrightAlert_any (q i p1 q1 p2 q2 : Int) (w : World) :
  Calls Tryz.prog 81 #[.agg #[.int .i64 q, .int .i64 i, .int .i64 p1, .int .i64 q1, .int .i64 p2, .int .i64 q2]] w fun e w' => e = .returned (.bool (alertB (q, i, (p1, q1), (p2, q2)))) ∧ Below w.heap.size w w' := by
 by_cases hb : q < 1 ∨ 1099511627776 < q ∨ i < 1 ∨ 1099511627776 < i
 ·rw [alertB_bad hb]
  have hc : q < 1 ∨ (¬ q < 1 ∧ 1099511627776 < q) ∨ (¬ q < 1 ∧ ¬ 1099511627776 < q ∧ i < 1) ∨ (¬ q < 1 ∧ ¬ 1099511627776 < q ∧ ¬ i < 1 ∧ 1099511627776 < i) := by omega
  clear hb
  rcases hc with h1 | ⟨h1, h2⟩ | ⟨h1, h2, h3⟩ | ⟨h1, h2, h3, h4⟩
  all_goals
   go_enter Tryz.func81, Tryz.ntmps81
   go_wp2_with fail
   go_ret
   exact ⟨rfl, bw⟩
 ·have HA := hH (alertB_in (p1 := p1) (q1 := q1) (p2 := p2) (q2 := q2) hb)
  obtain ⟨h1, h2, h3, h4⟩ : ¬ q < 1 ∧ ¬ 1099511627776 < q ∧ ¬ i < 1 ∧ ¬ 1099511627776 < i := by omega
  have HOD := hH (fun (s1 : scoreB (p1, q1) = true) (s2 : scoreB (p2, q2) = true) W => rodder_any p1 q1 p2 q2 W (by have := scoreB_is.1 s1; simp only at this; omega) (by have := scoreB_is.1 s1; simp only at this; omega) (by have := scoreB_is.1 s2; simp only at this; omega) (by have := scoreB_is.1 s2; simp only at this; omega))
  obtain ⟨S1, hS1⟩ : ∃ S, scoreB (p1, q1) = S := ⟨_, rfl⟩
  obtain ⟨S2, hS2⟩ : ∃ S, scoreB (p2, q2) = S := ⟨_, rfl⟩
  obtain ⟨D, hD⟩ : ∃ D, oddI (p1, q1) (p2, q2) = D := ⟨_, rfl⟩
  have HI1 := hH (fun W => hS1 ▸ ris13_any p1 q1 W)
  have HI2 := hH (fun W => hS2 ▸ ris13_any p2 q2 W)
  rw [hS1, hS2, hD] at HOD HA
  rw [HA.out]
  clear hb hS1 hS2 hD HA
  cases S1 with
  | false =>
   clear HOD
   go_enter Tryz.func81, Tryz.ntmps81
   go_wp2_with fail
   (with_reducible refine (HI1.out _).mono ?_); rintro e w1 ⟨rfl, b1⟩; have s1 : w.heap.size + 1 ≤ w1.heap.size := sz b1; have B1 := hJ w b1; clear b1
   go_wp2_with fail
   go_ret
   exact ⟨rfl, bx B1.out⟩
  | true =>
   cases S2 with
   | false =>
    clear HOD
    go_enter Tryz.func81, Tryz.ntmps81
    go_wp2_with fail
    (with_reducible refine (HI1.out _).mono ?_); rintro e w1 ⟨rfl, b1⟩; have s1 : w.heap.size + 1 ≤ w1.heap.size := sz b1; have B1 := hJ w b1; obtain ⟨c1_0, c1_1, c1_2, c1_3, c1_4, c1_5⟩ := k6 (w.heap.size) (.int .i64 q) (.int .i64 i) (.int .i64 p1) (.int .i64 q1) (.int .i64 p2) (.int .i64 q2) b1 aJ; obtain ⟨l1_0, n1_0, m1_0⟩ := lnm (show w.heap.size < w1.heap.size by omega); clear b1
    go_wp2_with fail
    (with_reducible refine (HI2.out _).mono ?_); rintro e w2 ⟨rfl, b2⟩; have s2 : w1.heap.size ≤ w2.heap.size := sz b2; have B2 := bJ B1.out b2; clear b2
    go_wp2_with fail
    go_ret
    exact ⟨rfl, bx B2.out⟩
   | true =>
    have HO := hH (HOD.out rfl rfl)
    clear HOD
    by_cases hd : 0 ≤ D
    ·go_enter Tryz.func81, Tryz.ntmps81
     go_wp2_with fail
     (with_reducible refine (HI1.out _).mono ?_); rintro e w1 ⟨rfl, b1⟩; have s1 : w.heap.size + 1 ≤ w1.heap.size := sz b1; have B1 := hJ w b1; obtain ⟨c1_0, c1_1, c1_2, c1_3, c1_4, c1_5⟩ := k6 (w.heap.size) (.int .i64 q) (.int .i64 i) (.int .i64 p1) (.int .i64 q1) (.int .i64 p2) (.int .i64 q2) b1 aJ; obtain ⟨l1_0, n1_0, m1_0⟩ := lnm (show w.heap.size < w1.heap.size by omega); clear b1
     go_wp2_with fail
     (with_reducible refine (HI2.out _).mono ?_); rintro e w2 ⟨rfl, b2⟩; have s2 : w1.heap.size ≤ w2.heap.size := sz b2; have B2 := bJ B1.out b2; obtain ⟨c2_0, c2_1, c2_2, c2_3, c2_4, c2_5⟩ := k6 (w.heap.size) (.int .i64 q) (.int .i64 i) (.int .i64 p1) (.int .i64 q1) (.int .i64 p2) (.int .i64 q2) b2 aJ; obtain ⟨l2_0, n2_0, m2_0⟩ := lnm (show w.heap.size < w2.heap.size by omega); clear b2
     go_wp2_with fail
     (with_reducible refine (HO.out _).mono ?_); rintro e w3 ⟨rfl, b3⟩; have s3 : w2.heap.size ≤ w3.heap.size := sz b3; have B3 := bJ B2.out b3; clear b3
     go_wp2_with fail
     go_ret
     exact ⟨ret_bool (by simp [hd]), bx B3.out⟩
    ·go_enter Tryz.func81, Tryz.ntmps81
     go_wp2_with fail
     (with_reducible refine (HI1.out _).mono ?_); rintro e w1 ⟨rfl, b1⟩; have s1 : w.heap.size + 1 ≤ w1.heap.size := sz b1; have B1 := hJ w b1; obtain ⟨c1_0, c1_1, c1_2, c1_3, c1_4, c1_5⟩ := k6 (w.heap.size) (.int .i64 q) (.int .i64 i) (.int .i64 p1) (.int .i64 q1) (.int .i64 p2) (.int .i64 q2) b1 aJ; obtain ⟨l1_0, n1_0, m1_0⟩ := lnm (show w.heap.size < w1.heap.size by omega); clear b1
     go_wp2_with fail
     (with_reducible refine (HI2.out _).mono ?_); rintro e w2 ⟨rfl, b2⟩; have s2 : w1.heap.size ≤ w2.heap.size := sz b2; have B2 := bJ B1.out b2; obtain ⟨c2_0, c2_1, c2_2, c2_3, c2_4, c2_5⟩ := k6 (w.heap.size) (.int .i64 q) (.int .i64 i) (.int .i64 p1) (.int .i64 q1) (.int .i64 p2) (.int .i64 q2) b2 aJ; obtain ⟨l2_0, n2_0, m2_0⟩ := lnm (show w.heap.size < w2.heap.size by omega); clear b2
     go_wp2_with fail
     (with_reducible refine (HO.out _).mono ?_); rintro e w3 ⟨rfl, b3⟩; have s3 : w2.heap.size ≤ w3.heap.size := sz b3; have B3 := bJ B2.out b3; clear b3
     go_wp2_with fail
     go_ret
     exact ⟨ret_bool (by first | (simp; done) | (simp; omega)), bx B3.out⟩
end Go.Proofs.YtgobbecpnjelmaaGreat
