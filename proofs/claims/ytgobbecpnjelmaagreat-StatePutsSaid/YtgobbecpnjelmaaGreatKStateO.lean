/-
  StateO: Walk of r28.Same.
-/
import Derived.Test.YtgobbecpnjelmaaGreatJ4a
namespace Go.Proofs.YtgobbecpnjelmaaGreat
open Go.RowKit

set_option maxRecDepth 100000 in
set_option maxHeartbeats 16000000 in
theorem rsame28_any (c0 c1 c2 c3 c4 c5 c6 c7 c8 c9 c10 count last seq : Int) (d0 d1 d2 d3 d4 d5 d6 d7 d8 d9 d10 count2 last2 seq2 : Int) (wv fv av wv2 fv2 av2 : Value) (win win2 : List SeenT) (f f2 : List (TreeP × Int)) (al al2 : List AlertT) (w : World) (hS : SeensR w wv win) (hG : GrownsR w fv f) (hA : AlertsR w av al) (hS2 : SeensR w wv2 win2) (hG2 : GrownsR w fv2 f2) (hA2 : AlertsR w av2 al2) :
  Calls Tryz.prog 13 #[.agg #[.int .i64 c0, .int .i64 c1, .int .i64 c2, .int .i64 c3, .int .i64 c4, .int .i64 c5, .int .i64 c6, .int .i64 c7, .int .i64 c8, .int .i64 c9, .int .i64 c10, .int .i64 count, .int .i64 last, .int .i64 seq, wv, fv, av], .agg #[.int .i64 d0, .int .i64 d1, .int .i64 d2, .int .i64 d3, .int .i64 d4, .int .i64 d5, .int .i64 d6, .int .i64 d7, .int .i64 d8, .int .i64 d9, .int .i64 d10, .int .i64 count2, .int .i64 last2, .int .i64 seq2, wv2, fv2, av2]] w fun e w' => e = .returned (.bool (sameSt ⟨c0, c1, c2, c3, c4, c5, c6, c7, c8, c9, c10, count, last, seq, win, f, al⟩ ⟨d0, d1, d2, d3, d4, d5, d6, d7, d8, d9, d10, count2, last2, seq2, win2, f2, al2⟩)) ∧ Below w.heap.size w w' := by
 have H1 := hH (fun W (h1 : SeensR W wv win) (h2 : SeensR W wv2 win2) => rsameAll17_any wv wv2 win win2 W h1 h2)
 have H2 := hH (fun W (h1 : GrownsR W fv f) (h2 : GrownsR W fv2 f2) => rsame14_any fv fv2 f f2 W h1 h2)
 have H3 := hH (fun W (h1 : AlertsR W av al) (h2 : AlertsR W av2 al2) => rsameAlerts_any av av2 al al2 W h1 h2)
 have HS := hH hS; have HG := hH hG; have HA := hH hA
 have HS2 := hH hS2; have HG2 := hH hG2; have HA2 := hH hA2
 clear hS hG hA hS2 hG2 hA2
 by_cases g0 : c0 = d0
 ·subst g0
  by_cases g1 : c1 = d1
  ·subst g1
   by_cases g2 : c2 = d2
   ·subst g2
    by_cases g3 : c3 = d3
    ·subst g3
     by_cases g4 : c4 = d4
     ·subst g4
      by_cases g5 : c5 = d5
      ·subst g5
       by_cases g6 : c6 = d6
       ·subst g6
        by_cases g7 : c7 = d7
        ·subst g7
         by_cases g8 : c8 = d8
         ·subst g8
          by_cases g9 : c9 = d9
          ·subst g9
           by_cases g10 : c10 = d10
           ·subst g10
            by_cases g11 : count = count2
            ·subst g11
             by_cases g12 : last = last2
             ·subst g12
              by_cases g13 : seq = seq2
              ·subst g13
               have HSM := hH (show sameSt ⟨c0, c1, c2, c3, c4, c5, c6, c7, c8, c9, c10, count, last, seq, win, f, al⟩ ⟨c0, c1, c2, c3, c4, c5, c6, c7, c8, c9, c10, count, last, seq, win2, f2, al2⟩ = (decide (win = win2) && (sameF f f2 && decide (al = al2))) from by unfold sameSt; rw [decide_eq_true rfl, Bool.true_and])
               generalize decide (win = win2) = X1 at *
               generalize sameF f f2 = X2 at *
               generalize decide (al = al2) = X3 at *
               cases X1 with
               | false =>
                go_enter Tryz.func13, Tryz.ntmps13
                go_wp2_with fail
                (with_reducible refine (H1.out _ (HS.out.below bw) (HS2.out.below bw)).mono ?_); rintro e w1 ⟨rfl, b1⟩; have s1 : w.heap.size + 1 + 1 ≤ w1.heap.size := sz b1; have B1 := hJ w b1; have c1_0 : w1.cell? ⟨w.heap.size, 15, none⟩ = some (fv) := kC b1; have c1_1 : w1.cell? ⟨w.heap.size + 1, 15, none⟩ = some (fv2) := kC b1; have c1_2 : w1.cell? ⟨w.heap.size, 16, none⟩ = some (av) := kC b1; have c1_3 : w1.cell? ⟨w.heap.size + 1, 16, none⟩ = some (av2) := kC b1; obtain ⟨l1_0, n1_0, m1_0⟩ := lnm (show w.heap.size < w1.heap.size by omega); obtain ⟨l1_1, n1_1, m1_1⟩ := lnm (show w.heap.size + 1 < w1.heap.size by omega); clear b1
                go_wp2_with fail
                go_ret
                exact ⟨ret_bool (by rw [HSM.out]; rfl), bx B1.out⟩
               | true =>
                cases X2 with
                | false =>
                 go_enter Tryz.func13, Tryz.ntmps13
                 go_wp2_with fail
                 (with_reducible refine (H1.out _ (HS.out.below bw) (HS2.out.below bw)).mono ?_); rintro e w1 ⟨rfl, b1⟩; have s1 : w.heap.size + 1 + 1 ≤ w1.heap.size := sz b1; have B1 := hJ w b1; have c1_0 : w1.cell? ⟨w.heap.size, 15, none⟩ = some (fv) := kC b1; have c1_1 : w1.cell? ⟨w.heap.size + 1, 15, none⟩ = some (fv2) := kC b1; have c1_2 : w1.cell? ⟨w.heap.size, 16, none⟩ = some (av) := kC b1; have c1_3 : w1.cell? ⟨w.heap.size + 1, 16, none⟩ = some (av2) := kC b1; obtain ⟨l1_0, n1_0, m1_0⟩ := lnm (show w.heap.size < w1.heap.size by omega); obtain ⟨l1_1, n1_1, m1_1⟩ := lnm (show w.heap.size + 1 < w1.heap.size by omega); clear b1
                 go_wp2_with fail
                 (with_reducible refine (H2.out _ (HG.out.below (bx B1.out)) (HG2.out.below (bx B1.out))).mono ?_); rintro e w2 ⟨rfl, b2⟩; have s2 : w1.heap.size ≤ w2.heap.size := sz b2; have B2 := bJ B1.out b2; have c2_0 : w2.cell? ⟨w.heap.size, 16, none⟩ = some (av) := kC b2; have c2_1 : w2.cell? ⟨w.heap.size + 1, 16, none⟩ = some (av2) := kC b2; obtain ⟨l2_0, n2_0, m2_0⟩ := lnm (show w.heap.size < w2.heap.size by omega); obtain ⟨l2_1, n2_1, m2_1⟩ := lnm (show w.heap.size + 1 < w2.heap.size by omega); clear b2
                 go_wp2_with fail
                 go_ret
                 exact ⟨ret_bool (by rw [HSM.out]; rfl), bx B2.out⟩
                | true =>
                 go_enter Tryz.func13, Tryz.ntmps13
                 go_wp2_with fail
                 (with_reducible refine (H1.out _ (HS.out.below bw) (HS2.out.below bw)).mono ?_); rintro e w1 ⟨rfl, b1⟩; have s1 : w.heap.size + 1 + 1 ≤ w1.heap.size := sz b1; have B1 := hJ w b1; have c1_0 : w1.cell? ⟨w.heap.size, 15, none⟩ = some (fv) := kC b1; have c1_1 : w1.cell? ⟨w.heap.size + 1, 15, none⟩ = some (fv2) := kC b1; have c1_2 : w1.cell? ⟨w.heap.size, 16, none⟩ = some (av) := kC b1; have c1_3 : w1.cell? ⟨w.heap.size + 1, 16, none⟩ = some (av2) := kC b1; obtain ⟨l1_0, n1_0, m1_0⟩ := lnm (show w.heap.size < w1.heap.size by omega); obtain ⟨l1_1, n1_1, m1_1⟩ := lnm (show w.heap.size + 1 < w1.heap.size by omega); clear b1
                 go_wp2_with fail
                 (with_reducible refine (H2.out _ (HG.out.below (bx B1.out)) (HG2.out.below (bx B1.out))).mono ?_); rintro e w2 ⟨rfl, b2⟩; have s2 : w1.heap.size ≤ w2.heap.size := sz b2; have B2 := bJ B1.out b2; have c2_0 : w2.cell? ⟨w.heap.size, 16, none⟩ = some (av) := kC b2; have c2_1 : w2.cell? ⟨w.heap.size + 1, 16, none⟩ = some (av2) := kC b2; obtain ⟨l2_0, n2_0, m2_0⟩ := lnm (show w.heap.size < w2.heap.size by omega); obtain ⟨l2_1, n2_1, m2_1⟩ := lnm (show w.heap.size + 1 < w2.heap.size by omega); clear b2
                 go_wp2_with fail
                 (with_reducible refine (H3.out _ (HA.out.below (bx B2.out)) (HA2.out.below (bx B2.out))).mono ?_); rintro e w3 ⟨rfl, b3⟩; have s3 : w2.heap.size ≤ w3.heap.size := sz b3; have B3 := bJ B2.out b3; clear b3
                 go_wp2_with fail
                 go_ret
                 exact ⟨ret_bool (by rw [HSM.out]; simp), bx B3.out⟩
              ·have HSM := hH (show sameSt ⟨c0, c1, c2, c3, c4, c5, c6, c7, c8, c9, c10, count, last, seq, win, f, al⟩ ⟨c0, c1, c2, c3, c4, c5, c6, c7, c8, c9, c10, count, last, seq2, win2, f2, al2⟩ = false from by
                unfold sameSt
                rw [decide_eq_false (by simp only [List.cons.injEq]; intro h; exact g13 (by simp [h]))]
                rfl)
               have jj13 : (seq == seq2) = false := by simpa using g13
               clear g13
               go_enter Tryz.func13, Tryz.ntmps13
               go_wp2_with fail
               go_ret
               exact ⟨ret_bool HSM.out.symm, bw⟩
             ·have HSM := hH (show sameSt ⟨c0, c1, c2, c3, c4, c5, c6, c7, c8, c9, c10, count, last, seq, win, f, al⟩ ⟨c0, c1, c2, c3, c4, c5, c6, c7, c8, c9, c10, count, last2, seq2, win2, f2, al2⟩ = false from by
               unfold sameSt
               rw [decide_eq_false (by simp only [List.cons.injEq]; intro h; exact g12 (by simp [h]))]
               rfl)
              have jj12 : (last == last2) = false := by simpa using g12
              clear g12
              go_enter Tryz.func13, Tryz.ntmps13
              go_wp2_with fail
              go_ret
              exact ⟨ret_bool HSM.out.symm, bw⟩
            ·have HSM := hH (show sameSt ⟨c0, c1, c2, c3, c4, c5, c6, c7, c8, c9, c10, count, last, seq, win, f, al⟩ ⟨c0, c1, c2, c3, c4, c5, c6, c7, c8, c9, c10, count2, last2, seq2, win2, f2, al2⟩ = false from by
              unfold sameSt
              rw [decide_eq_false (by simp only [List.cons.injEq]; intro h; exact g11 (by simp [h]))]
              rfl)
             have jj11 : (count == count2) = false := by simpa using g11
             clear g11
             go_enter Tryz.func13, Tryz.ntmps13
             go_wp2_with fail
             go_ret
             exact ⟨ret_bool HSM.out.symm, bw⟩
           ·have HSM := hH (show sameSt ⟨c0, c1, c2, c3, c4, c5, c6, c7, c8, c9, c10, count, last, seq, win, f, al⟩ ⟨c0, c1, c2, c3, c4, c5, c6, c7, c8, c9, d10, count2, last2, seq2, win2, f2, al2⟩ = false from by
             unfold sameSt
             rw [decide_eq_false (by simp only [List.cons.injEq]; intro h; exact g10 (by simp [h]))]
             rfl)
            have jj10 : (c10 == d10) = false := by simpa using g10
            clear g10
            go_enter Tryz.func13, Tryz.ntmps13
            go_wp2_with fail
            go_ret
            exact ⟨ret_bool HSM.out.symm, bw⟩
          ·have HSM := hH (show sameSt ⟨c0, c1, c2, c3, c4, c5, c6, c7, c8, c9, c10, count, last, seq, win, f, al⟩ ⟨c0, c1, c2, c3, c4, c5, c6, c7, c8, d9, d10, count2, last2, seq2, win2, f2, al2⟩ = false from by
            unfold sameSt
            rw [decide_eq_false (by simp only [List.cons.injEq]; intro h; exact g9 (by simp [h]))]
            rfl)
           have jj9 : (c9 == d9) = false := by simpa using g9
           clear g9
           go_enter Tryz.func13, Tryz.ntmps13
           go_wp2_with fail
           go_ret
           exact ⟨ret_bool HSM.out.symm, bw⟩
         ·have HSM := hH (show sameSt ⟨c0, c1, c2, c3, c4, c5, c6, c7, c8, c9, c10, count, last, seq, win, f, al⟩ ⟨c0, c1, c2, c3, c4, c5, c6, c7, d8, d9, d10, count2, last2, seq2, win2, f2, al2⟩ = false from by
           unfold sameSt
           rw [decide_eq_false (by simp only [List.cons.injEq]; intro h; exact g8 (by simp [h]))]
           rfl)
          have jj8 : (c8 == d8) = false := by simpa using g8
          clear g8
          go_enter Tryz.func13, Tryz.ntmps13
          go_wp2_with fail
          go_ret
          exact ⟨ret_bool HSM.out.symm, bw⟩
        ·have HSM := hH (show sameSt ⟨c0, c1, c2, c3, c4, c5, c6, c7, c8, c9, c10, count, last, seq, win, f, al⟩ ⟨c0, c1, c2, c3, c4, c5, c6, d7, d8, d9, d10, count2, last2, seq2, win2, f2, al2⟩ = false from by
          unfold sameSt
          rw [decide_eq_false (by simp only [List.cons.injEq]; intro h; exact g7 (by simp [h]))]
          rfl)
         have jj7 : (c7 == d7) = false := by simpa using g7
         clear g7
         go_enter Tryz.func13, Tryz.ntmps13
         go_wp2_with fail
         go_ret
         exact ⟨ret_bool HSM.out.symm, bw⟩
       ·have HSM := hH (show sameSt ⟨c0, c1, c2, c3, c4, c5, c6, c7, c8, c9, c10, count, last, seq, win, f, al⟩ ⟨c0, c1, c2, c3, c4, c5, d6, d7, d8, d9, d10, count2, last2, seq2, win2, f2, al2⟩ = false from by
         unfold sameSt
         rw [decide_eq_false (by simp only [List.cons.injEq]; intro h; exact g6 (by simp [h]))]
         rfl)
        have jj6 : (c6 == d6) = false := by simpa using g6
        clear g6
        go_enter Tryz.func13, Tryz.ntmps13
        go_wp2_with fail
        go_ret
        exact ⟨ret_bool HSM.out.symm, bw⟩
      ·have HSM := hH (show sameSt ⟨c0, c1, c2, c3, c4, c5, c6, c7, c8, c9, c10, count, last, seq, win, f, al⟩ ⟨c0, c1, c2, c3, c4, d5, d6, d7, d8, d9, d10, count2, last2, seq2, win2, f2, al2⟩ = false from by
        unfold sameSt
        rw [decide_eq_false (by simp only [List.cons.injEq]; intro h; exact g5 (by simp [h]))]
        rfl)
       have jj5 : (c5 == d5) = false := by simpa using g5
       clear g5
       go_enter Tryz.func13, Tryz.ntmps13
       go_wp2_with fail
       go_ret
       exact ⟨ret_bool HSM.out.symm, bw⟩
     ·have HSM := hH (show sameSt ⟨c0, c1, c2, c3, c4, c5, c6, c7, c8, c9, c10, count, last, seq, win, f, al⟩ ⟨c0, c1, c2, c3, d4, d5, d6, d7, d8, d9, d10, count2, last2, seq2, win2, f2, al2⟩ = false from by
       unfold sameSt
       rw [decide_eq_false (by simp only [List.cons.injEq]; intro h; exact g4 (by simp [h]))]
       rfl)
      have jj4 : (c4 == d4) = false := by simpa using g4
      clear g4
      go_enter Tryz.func13, Tryz.ntmps13
      go_wp2_with fail
      go_ret
      exact ⟨ret_bool HSM.out.symm, bw⟩
    ·have HSM := hH (show sameSt ⟨c0, c1, c2, c3, c4, c5, c6, c7, c8, c9, c10, count, last, seq, win, f, al⟩ ⟨c0, c1, c2, d3, d4, d5, d6, d7, d8, d9, d10, count2, last2, seq2, win2, f2, al2⟩ = false from by
      unfold sameSt
      rw [decide_eq_false (by simp only [List.cons.injEq]; intro h; exact g3 (by simp [h]))]
      rfl)
     have jj3 : (c3 == d3) = false := by simpa using g3
     clear g3
     go_enter Tryz.func13, Tryz.ntmps13
     go_wp2_with fail
     go_ret
     exact ⟨ret_bool HSM.out.symm, bw⟩
   ·have HSM := hH (show sameSt ⟨c0, c1, c2, c3, c4, c5, c6, c7, c8, c9, c10, count, last, seq, win, f, al⟩ ⟨c0, c1, d2, d3, d4, d5, d6, d7, d8, d9, d10, count2, last2, seq2, win2, f2, al2⟩ = false from by
     unfold sameSt
     rw [decide_eq_false (by simp only [List.cons.injEq]; intro h; exact g2 (by simp [h]))]
     rfl)
    have jj2 : (c2 == d2) = false := by simpa using g2
    clear g2
    go_enter Tryz.func13, Tryz.ntmps13
    go_wp2_with fail
    go_ret
    exact ⟨ret_bool HSM.out.symm, bw⟩
  ·have HSM := hH (show sameSt ⟨c0, c1, c2, c3, c4, c5, c6, c7, c8, c9, c10, count, last, seq, win, f, al⟩ ⟨c0, d1, d2, d3, d4, d5, d6, d7, d8, d9, d10, count2, last2, seq2, win2, f2, al2⟩ = false from by
    unfold sameSt
    rw [decide_eq_false (by simp only [List.cons.injEq]; intro h; exact g1 (by simp [h]))]
    rfl)
   have jj1 : (c1 == d1) = false := by simpa using g1
   clear g1
   go_enter Tryz.func13, Tryz.ntmps13
   go_wp2_with fail
   go_ret
   exact ⟨ret_bool HSM.out.symm, bw⟩
 ·have HSM := hH (show sameSt ⟨c0, c1, c2, c3, c4, c5, c6, c7, c8, c9, c10, count, last, seq, win, f, al⟩ ⟨d0, d1, d2, d3, d4, d5, d6, d7, d8, d9, d10, count2, last2, seq2, win2, f2, al2⟩ = false from by
   unfold sameSt
   rw [decide_eq_false (by simp only [List.cons.injEq]; intro h; exact g0 (by simp [h]))]
   rfl)
  have jj0 : (c0 == d0) = false := by simpa using g0
  clear g0
  go_enter Tryz.func13, Tryz.ntmps13
  go_wp2_with fail
  go_ret
  exact ⟨ret_bool HSM.out.symm, bw⟩
end Go.Proofs.YtgobbecpnjelmaaGreat
