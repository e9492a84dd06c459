/-
  StateM: Walks of slices.Equal of alerts and of copseref28.SameAlerts.
-/
import Derived.Test.YtgobbecpnjelmaaGreatKStateD
namespace Go.Proofs.YtgobbecpnjelmaaGreat
open Go.RowKit

set_option maxRecDepth 100000 in
set_option maxHeartbeats 8000000 in
theorem rsameAlerts_any (va vb : Value) (la lb : List AlertT) (w : World) (ha : AlertsR w va la) (hb : AlertsR w vb lb) :
  Calls Tryz.prog 45 #[va, vb] w fun e w' => e = .returned (.bool (decide (la = lb))) ∧ Below w.heap.size w w' := by
 have HA := hH ha
 have HB := hH hb
 obtain ⟨a, c, rfl, pa, pb, pc, _⟩ := ha
 obtain ⟨b, d, rfl, qa, qb, qc, _⟩ := hb
 obtain ⟨n, hn⟩ : ∃ n, la.length = n := ⟨_, rfl⟩
 obtain ⟨m, hm⟩ : ∃ m, lb.length = m := ⟨_, rfl⟩
 rw [hn] at pa pc HA ⊢
 rw [hm] at qa qc HB ⊢
 have HN := hH hn
 have HM := hH hm
 clear hn hm
 by_cases hl : n = m
 ·subst hl
  go_enter Tryz.func45, Tryz.ntmps45
  go_wp2_with fail
  go_loopw [5] (fun iv wr => ∃ k : Nat, iv = .int .i64 (k : Int) ∧ k ≤ n ∧ la.take k = lb.take k ∧ Below w.heap.size w wr) (fun iv _ => n - (intOf iv).toNat)
  case atStart => exact ⟨0, rfl, Nat.zero_le _, rfl, bw⟩
  case round =>
   obtain ⟨k, rfl, hk, hpre, hbi⟩ := hrel
   rename World => wi
   have BI := hH hbi
   have hsz := hbi.size
   have HP := hH hpre
   by_cases hlt : k < n
   ·obtain ⟨⟨q, i, ⟨p1, r1⟩, ⟨p2, r2⟩⟩, ht⟩ := getElem?_ex (l := la) (k := k) (by have := HN.out; omega)
    obtain ⟨⟨q_, i_, ⟨p1_, r1_⟩, ⟨p2_, r2_⟩⟩, hu⟩ := getElem?_ex (l := lb) (k := k) (by have := HM.out; omega)
    obtain ⟨b1, o1, e, hb1, x0, x1, x2, x3, x4, x5⟩ := (HA.out.below hbi).at ht
    subst e
    obtain ⟨b2, o2, e, hb2, y0, y1, y2, y3, y4, y5⟩ := (HB.out.below hbi).at hu
    subst e
    dsimp only at x0 x1 x2 x3 x4 x5 y0 y1 y2 y3 y4 y5
    have HT := hH ht
    have HU := hH hu
    have i1 : (0 : Int) ≤ (k : Int) := by omega
    have i2 : (k : Int) < (n : Int) := by omega
    have HLT := hH hlt
    clear ht hu hpre hbi hlt
    by_cases g0 : q = q_
    ·subst g0
     by_cases g1 : i = i_
     ·subst g1
      by_cases g2 : p1 = p1_
      ·subst g2
       by_cases g3 : r1 = r1_
       ·subst g3
        by_cases g4 : p2 = p2_
        ·subst g4
         by_cases g5 : r2 = r2_
         ·subst g5
          have HS := hH (show la.take (k + 1) = lb.take (k + 1) from by rw [List.take_add_one, List.take_add_one, HP.out, HT.out, HU.out])
          go_wp2_with fail
          refine wp_region_held_drew (S := fun w' => w'.cell? ⟨b1, o1 + k * 6, none⟩ = some (.int .i64 q) ∧ w'.cell? ⟨b1, o1 + k * 6 + 1, none⟩ = some (.int .i64 i) ∧ w'.cell? ⟨b1, o1 + k * 6 + 2, none⟩ = some (.int .i64 p1) ∧ w'.cell? ⟨b1, o1 + k * 6 + 3, none⟩ = some (.int .i64 r1) ∧ w'.cell? ⟨b1, o1 + k * 6 + 4, none⟩ = some (.int .i64 p2) ∧ w'.cell? ⟨b1, o1 + k * 6 + 5, none⟩ = some (.int .i64 r2) ∧ w'.cell? ⟨b2, o2 + k * 6, none⟩ = some (.int .i64 q) ∧ w'.cell? ⟨b2, o2 + k * 6 + 1, none⟩ = some (.int .i64 i) ∧ w'.cell? ⟨b2, o2 + k * 6 + 2, none⟩ = some (.int .i64 p1) ∧ w'.cell? ⟨b2, o2 + k * 6 + 3, none⟩ = some (.int .i64 r1) ∧ w'.cell? ⟨b2, o2 + k * 6 + 4, none⟩ = some (.int .i64 p2) ∧ w'.cell? ⟨b2, o2 + k * 6 + 5, none⟩ = some (.int .i64 r2)) rJ kJ (fun hHeld => ?_); refine lJ 0 hHeld ?_; refine lJ 1 hHeld ?_; refine lJ 2 hHeld ?_; refine lJ 3 hHeld ?_; refine lJ 4 hHeld ?_; refine lJ 5 hHeld ?_; refine lJ 6 hHeld ?_; refine lJ 7 hHeld ?_; refine lJ 8 hHeld ?_; refine wpAnyH_done rJ ?_ _
          go_wp2_with fail
          go_roundw
          case rel => exact ⟨k + 1, by go_num, by have := HLT.out; omega, HS.out, bx BI.out⟩
          case measure => have := HLT.out; simp [intOf] <;> omega
         ·have HW := hH (show decide (la = lb) = false from by
           rw [decide_eq_false_iff_not]
           intro e
           have h1 := HT.out
           rw [e, HU.out] at h1
           injection h1 with h1
           simp only [Prod.mk.injEq] at h1
           exact g5 (by simp [h1]))
          have j5 : (r2 == r2_) = false := by simpa using g5
          clear g5
          go_wp2_with fail
          refine wp_region_held_drew (S := fun w' => w'.cell? ⟨b1, o1 + k * 6, none⟩ = some (.int .i64 q) ∧ w'.cell? ⟨b1, o1 + k * 6 + 1, none⟩ = some (.int .i64 i) ∧ w'.cell? ⟨b1, o1 + k * 6 + 2, none⟩ = some (.int .i64 p1) ∧ w'.cell? ⟨b1, o1 + k * 6 + 3, none⟩ = some (.int .i64 r1) ∧ w'.cell? ⟨b1, o1 + k * 6 + 4, none⟩ = some (.int .i64 p2) ∧ w'.cell? ⟨b1, o1 + k * 6 + 5, none⟩ = some (.int .i64 r2) ∧ w'.cell? ⟨b2, o2 + k * 6, none⟩ = some (.int .i64 q) ∧ w'.cell? ⟨b2, o2 + k * 6 + 1, none⟩ = some (.int .i64 i) ∧ w'.cell? ⟨b2, o2 + k * 6 + 2, none⟩ = some (.int .i64 p1) ∧ w'.cell? ⟨b2, o2 + k * 6 + 3, none⟩ = some (.int .i64 r1) ∧ w'.cell? ⟨b2, o2 + k * 6 + 4, none⟩ = some (.int .i64 p2) ∧ w'.cell? ⟨b2, o2 + k * 6 + 5, none⟩ = some (.int .i64 r2_)) rJ kJ (fun hHeld => ?_); refine lJ 0 hHeld ?_; refine lJ 1 hHeld ?_; refine lJ 2 hHeld ?_; refine lJ 3 hHeld ?_; refine lJ 4 hHeld ?_; refine lJ 5 hHeld ?_; refine lJ 6 hHeld ?_; refine lJ 7 hHeld ?_; refine lJ 8 hHeld ?_; refine wpAnyH_done rJ ?_ _
          go_wp2_with fail
          go_ret
          exact ⟨ret_bool HW.out.symm, bx BI.out⟩
        ·have HW := hH (show decide (la = lb) = false from by
          rw [decide_eq_false_iff_not]
          intro e
          have h1 := HT.out
          rw [e, HU.out] at h1
          injection h1 with h1
          simp only [Prod.mk.injEq] at h1
          exact g4 (by simp [h1]))
         have j4 : (p2 == p2_) = false := by simpa using g4
         clear g4
         go_wp2_with fail
         refine wp_region_held_drew (S := fun w' => w'.cell? ⟨b1, o1 + k * 6, none⟩ = some (.int .i64 q) ∧ w'.cell? ⟨b1, o1 + k * 6 + 1, none⟩ = some (.int .i64 i) ∧ w'.cell? ⟨b1, o1 + k * 6 + 2, none⟩ = some (.int .i64 p1) ∧ w'.cell? ⟨b1, o1 + k * 6 + 3, none⟩ = some (.int .i64 r1) ∧ w'.cell? ⟨b1, o1 + k * 6 + 4, none⟩ = some (.int .i64 p2) ∧ w'.cell? ⟨b1, o1 + k * 6 + 5, none⟩ = some (.int .i64 r2) ∧ w'.cell? ⟨b2, o2 + k * 6, none⟩ = some (.int .i64 q) ∧ w'.cell? ⟨b2, o2 + k * 6 + 1, none⟩ = some (.int .i64 i) ∧ w'.cell? ⟨b2, o2 + k * 6 + 2, none⟩ = some (.int .i64 p1) ∧ w'.cell? ⟨b2, o2 + k * 6 + 3, none⟩ = some (.int .i64 r1) ∧ w'.cell? ⟨b2, o2 + k * 6 + 4, none⟩ = some (.int .i64 p2_) ∧ w'.cell? ⟨b2, o2 + k * 6 + 5, none⟩ = some (.int .i64 r2_)) rJ kJ (fun hHeld => ?_); refine lJ 0 hHeld ?_; refine lJ 1 hHeld ?_; refine lJ 2 hHeld ?_; refine lJ 3 hHeld ?_; refine lJ 4 hHeld ?_; refine lJ 5 hHeld ?_; refine lJ 6 hHeld ?_; refine lJ 7 hHeld ?_; refine lJ 8 hHeld ?_; refine wpAnyH_done rJ ?_ _
         go_wp2_with fail
         go_ret
         exact ⟨ret_bool HW.out.symm, bx BI.out⟩
       ·have HW := hH (show decide (la = lb) = false from by
         rw [decide_eq_false_iff_not]
         intro e
         have h1 := HT.out
         rw [e, HU.out] at h1
         injection h1 with h1
         simp only [Prod.mk.injEq] at h1
         exact g3 (by simp [h1]))
        have j3 : (r1 == r1_) = false := by simpa using g3
        clear g3
        go_wp2_with fail
        refine wp_region_held_drew (S := fun w' => w'.cell? ⟨b1, o1 + k * 6, none⟩ = some (.int .i64 q) ∧ w'.cell? ⟨b1, o1 + k * 6 + 1, none⟩ = some (.int .i64 i) ∧ w'.cell? ⟨b1, o1 + k * 6 + 2, none⟩ = some (.int .i64 p1) ∧ w'.cell? ⟨b1, o1 + k * 6 + 3, none⟩ = some (.int .i64 r1) ∧ w'.cell? ⟨b1, o1 + k * 6 + 4, none⟩ = some (.int .i64 p2) ∧ w'.cell? ⟨b1, o1 + k * 6 + 5, none⟩ = some (.int .i64 r2) ∧ w'.cell? ⟨b2, o2 + k * 6, none⟩ = some (.int .i64 q) ∧ w'.cell? ⟨b2, o2 + k * 6 + 1, none⟩ = some (.int .i64 i) ∧ w'.cell? ⟨b2, o2 + k * 6 + 2, none⟩ = some (.int .i64 p1) ∧ w'.cell? ⟨b2, o2 + k * 6 + 3, none⟩ = some (.int .i64 r1_) ∧ w'.cell? ⟨b2, o2 + k * 6 + 4, none⟩ = some (.int .i64 p2_) ∧ w'.cell? ⟨b2, o2 + k * 6 + 5, none⟩ = some (.int .i64 r2_)) rJ kJ (fun hHeld => ?_); refine lJ 0 hHeld ?_; refine lJ 1 hHeld ?_; refine lJ 2 hHeld ?_; refine lJ 3 hHeld ?_; refine lJ 4 hHeld ?_; refine lJ 5 hHeld ?_; refine lJ 6 hHeld ?_; refine lJ 7 hHeld ?_; refine lJ 8 hHeld ?_; refine wpAnyH_done rJ ?_ _
        go_wp2_with fail
        go_ret
        exact ⟨ret_bool HW.out.symm, bx BI.out⟩
      ·have HW := hH (show decide (la = lb) = false from by
        rw [decide_eq_false_iff_not]
        intro e
        have h1 := HT.out
        rw [e, HU.out] at h1
        injection h1 with h1
        simp only [Prod.mk.injEq] at h1
        exact g2 (by simp [h1]))
       have j2 : (p1 == p1_) = false := by simpa using g2
       clear g2
       go_wp2_with fail
       refine wp_region_held_drew (S := fun w' => w'.cell? ⟨b1, o1 + k * 6, none⟩ = some (.int .i64 q) ∧ w'.cell? ⟨b1, o1 + k * 6 + 1, none⟩ = some (.int .i64 i) ∧ w'.cell? ⟨b1, o1 + k * 6 + 2, none⟩ = some (.int .i64 p1) ∧ w'.cell? ⟨b1, o1 + k * 6 + 3, none⟩ = some (.int .i64 r1) ∧ w'.cell? ⟨b1, o1 + k * 6 + 4, none⟩ = some (.int .i64 p2) ∧ w'.cell? ⟨b1, o1 + k * 6 + 5, none⟩ = some (.int .i64 r2) ∧ w'.cell? ⟨b2, o2 + k * 6, none⟩ = some (.int .i64 q) ∧ w'.cell? ⟨b2, o2 + k * 6 + 1, none⟩ = some (.int .i64 i) ∧ w'.cell? ⟨b2, o2 + k * 6 + 2, none⟩ = some (.int .i64 p1_) ∧ w'.cell? ⟨b2, o2 + k * 6 + 3, none⟩ = some (.int .i64 r1_) ∧ w'.cell? ⟨b2, o2 + k * 6 + 4, none⟩ = some (.int .i64 p2_) ∧ w'.cell? ⟨b2, o2 + k * 6 + 5, none⟩ = some (.int .i64 r2_)) rJ kJ (fun hHeld => ?_); refine lJ 0 hHeld ?_; refine lJ 1 hHeld ?_; refine lJ 2 hHeld ?_; refine lJ 3 hHeld ?_; refine lJ 4 hHeld ?_; refine lJ 5 hHeld ?_; refine lJ 6 hHeld ?_; refine lJ 7 hHeld ?_; refine lJ 8 hHeld ?_; refine wpAnyH_done rJ ?_ _
       go_wp2_with fail
       go_ret
       exact ⟨ret_bool HW.out.symm, bx BI.out⟩
     ·have HW := hH (show decide (la = lb) = false from by
       rw [decide_eq_false_iff_not]
       intro e
       have h1 := HT.out
       rw [e, HU.out] at h1
       injection h1 with h1
       simp only [Prod.mk.injEq] at h1
       exact g1 (by simp [h1]))
      have j1 : (i == i_) = false := by simpa using g1
      clear g1
      go_wp2_with fail
      refine wp_region_held_drew (S := fun w' => w'.cell? ⟨b1, o1 + k * 6, none⟩ = some (.int .i64 q) ∧ w'.cell? ⟨b1, o1 + k * 6 + 1, none⟩ = some (.int .i64 i) ∧ w'.cell? ⟨b1, o1 + k * 6 + 2, none⟩ = some (.int .i64 p1) ∧ w'.cell? ⟨b1, o1 + k * 6 + 3, none⟩ = some (.int .i64 r1) ∧ w'.cell? ⟨b1, o1 + k * 6 + 4, none⟩ = some (.int .i64 p2) ∧ w'.cell? ⟨b1, o1 + k * 6 + 5, none⟩ = some (.int .i64 r2) ∧ w'.cell? ⟨b2, o2 + k * 6, none⟩ = some (.int .i64 q) ∧ w'.cell? ⟨b2, o2 + k * 6 + 1, none⟩ = some (.int .i64 i_) ∧ w'.cell? ⟨b2, o2 + k * 6 + 2, none⟩ = some (.int .i64 p1_) ∧ w'.cell? ⟨b2, o2 + k * 6 + 3, none⟩ = some (.int .i64 r1_) ∧ w'.cell? ⟨b2, o2 + k * 6 + 4, none⟩ = some (.int .i64 p2_) ∧ w'.cell? ⟨b2, o2 + k * 6 + 5, none⟩ = some (.int .i64 r2_)) rJ kJ (fun hHeld => ?_); refine lJ 0 hHeld ?_; refine lJ 1 hHeld ?_; refine lJ 2 hHeld ?_; refine lJ 3 hHeld ?_; refine lJ 4 hHeld ?_; refine lJ 5 hHeld ?_; refine lJ 6 hHeld ?_; refine lJ 7 hHeld ?_; refine lJ 8 hHeld ?_; refine wpAnyH_done rJ ?_ _
      go_wp2_with fail
      go_ret
      exact ⟨ret_bool HW.out.symm, bx BI.out⟩
    ·have HW := hH (show decide (la = lb) = false from by
      rw [decide_eq_false_iff_not]
      intro e
      have h1 := HT.out
      rw [e, HU.out] at h1
      injection h1 with h1
      simp only [Prod.mk.injEq] at h1
      exact g0 (by simp [h1]))
     have j0 : (q == q_) = false := by simpa using g0
     clear g0
     go_wp2_with fail
     refine wp_region_held_drew (S := fun w' => w'.cell? ⟨b1, o1 + k * 6, none⟩ = some (.int .i64 q) ∧ w'.cell? ⟨b1, o1 + k * 6 + 1, none⟩ = some (.int .i64 i) ∧ w'.cell? ⟨b1, o1 + k * 6 + 2, none⟩ = some (.int .i64 p1) ∧ w'.cell? ⟨b1, o1 + k * 6 + 3, none⟩ = some (.int .i64 r1) ∧ w'.cell? ⟨b1, o1 + k * 6 + 4, none⟩ = some (.int .i64 p2) ∧ w'.cell? ⟨b1, o1 + k * 6 + 5, none⟩ = some (.int .i64 r2) ∧ w'.cell? ⟨b2, o2 + k * 6, none⟩ = some (.int .i64 q_) ∧ w'.cell? ⟨b2, o2 + k * 6 + 1, none⟩ = some (.int .i64 i_) ∧ w'.cell? ⟨b2, o2 + k * 6 + 2, none⟩ = some (.int .i64 p1_) ∧ w'.cell? ⟨b2, o2 + k * 6 + 3, none⟩ = some (.int .i64 r1_) ∧ w'.cell? ⟨b2, o2 + k * 6 + 4, none⟩ = some (.int .i64 p2_) ∧ w'.cell? ⟨b2, o2 + k * 6 + 5, none⟩ = some (.int .i64 r2_)) rJ kJ (fun hHeld => ?_); refine lJ 0 hHeld ?_; refine lJ 1 hHeld ?_; refine lJ 2 hHeld ?_; refine lJ 3 hHeld ?_; refine lJ 4 hHeld ?_; refine lJ 5 hHeld ?_; refine lJ 6 hHeld ?_; refine lJ 7 hHeld ?_; refine lJ 8 hHeld ?_; refine wpAnyH_done rJ ?_ _
     go_wp2_with fail
     go_ret
     exact ⟨ret_bool HW.out.symm, bx BI.out⟩
   ·obtain rfl : k = n := by omega
    have HW := hH (show decide (la = lb) = true from by
     rw [decide_eq_true_eq]
     rw [List.take_of_length_le (by have := HN.out; omega), List.take_of_length_le (by have := HM.out; omega)] at hpre
     exact hpre)
    clear hpre hbi hlt
    go_wp2_with fail
    go_ret
    exact ⟨ret_bool HW.out.symm, bx BI.out⟩
 ·have HW := hH (show decide (la = lb) = false from by
   rw [decide_eq_false_iff_not]
   intro e
   have h1 := HN.out; have h2 := HM.out
   rw [e] at h1
   omega)
  have jl : ((n : Int) != (m : Int)) = true := by simp; omega
  have jl2 : ¬ (n : Int) = (m : Int) := by omega
  clear hl
  go_enter Tryz.func45, Tryz.ntmps45
  go_wp2_with fail
  go_ret
  exact ⟨ret_bool HW.out.symm, bw⟩
end Go.Proofs.YtgobbecpnjelmaaGreat
