/-
  StateL: Walks of slices.EqualFunc of events and of copseref17.SameAll.
-/
import Derived.Test.YtgobbecpnjelmaaGreatKStateK
import Derived.Test.YtgobbecpnjelmaaGreatJ0b
namespace Go.Proofs.YtgobbecpnjelmaaGreat
open Go.RowKit

set_option maxRecDepth 100000 in
set_option maxHeartbeats 8000000 in
theorem rsameAll17_any (va vb : Value) (la lb : List SeenT) (w : World) (ha : SeensR w va la) (hb : SeensR w vb lb) :
  Calls Tryz.prog 43 #[va, vb] w fun e w' => e = .returned (.bool (decide (la = lb))) ∧ Below w.heap.size w w' := by
 have HA := hH ha
 have HB := hH hb
 obtain ⟨a, c, rfl, p1, p2, p3, _⟩ := ha
 obtain ⟨b, d, rfl, q1, q2, q3, _⟩ := hb
 obtain ⟨n, hn⟩ : ∃ n, la.length = n := ⟨_, rfl⟩
 obtain ⟨m, hm⟩ : ∃ m, lb.length = m := ⟨_, rfl⟩
 rw [hn] at p1 p3 HA ⊢
 rw [hm] at q1 q3 HB ⊢
 have HN := hH hn
 have HM := hH hm
 clear hn hm
 by_cases hl : n = m
 ·subst hl
  go_enter Tryz.func43, Tryz.ntmps43
  go_wp2_with fail
  go_loopw [5] (fun iv wr => ∃ k : Nat, iv = .int .i64 (k : Int) ∧ k ≤ n ∧ la.take k = lb.take k ∧ Below w.heap.size w wr) (fun iv _ => n - (intOf iv).toNat)
  case atStart => exact ⟨0, rfl, Nat.zero_le _, rfl, bw⟩
  case round =>
   obtain ⟨k, rfl, hk, hpre, hbi⟩ := hrel
   rename World => wi
   have BI := hH hbi
   have hsz := hbi.size
   have HP := hH hpre
   by_cases hlt : k < n
   ·obtain ⟨⟨i, x, P, Q, s⟩, ht⟩ := getElem?_ex (l := la) (k := k) (by have := HN.out; omega)
    obtain ⟨⟨j, y, R, S, t⟩, hu⟩ := getElem?_ex (l := lb) (k := k) (by have := HM.out; omega)
    obtain ⟨b1, o1, xa, xc, e, hb1, x0, x1, x2, x3, x4, hx⟩ := (HA.out.below hbi).at ht
    subst e
    obtain ⟨b2, o2, ya, yc, e, hb2, y0, y1, y2, y3, y4, hy⟩ := (HB.out.below hbi).at hu
    subst e
    dsimp only at x0 x1 x2 x3 x4 hx y0 y1 y2 y3 y4 hy
    have HX := hH hx
    have HY := hH hy
    have HT := hH ht
    have HU := hH hu
    have i1 : (0 : Int) ≤ (k : Int) := by omega
    have i2 : (k : Int) < (n : Int) := by omega
    obtain ⟨lx1, lx2, lx3⟩ := lnm (show b1 < wi.heap.size from hb1)
    obtain ⟨ly1, ly2, ly3⟩ := lnm (show b2 < wi.heap.size from hb2)
    have HLT := hH hlt
    have HC := hH (fun W (hX : Ints .i64 W (.slice xa x.length xc) x) (hY : Ints .i64 W (.slice ya y.length yc) y) => rsame17_any i P Q j R S s t _ _ x y W hX hY)
    cases hD : decide ((i, x, P, Q, s) = (j, y, R, S, t)) with
    | false =>
     rw [hD] at HC
     have HW := hH (show decide (la = lb) = false from by
      rw [decide_eq_false_iff_not] at hD ⊢
      intro e
      rw [e, hu] at ht
      injection ht with ht
      exact hD ht.symm)
     clear hD hx hy ht hu hpre hbi hlt
     go_wp2_with fail
     refine wp_region_held_drew (S := fun w' => w'.cell? ⟨b1, o1 + k * 5, none⟩ = some (.int .i64 i) ∧ w'.cell? ⟨b1, o1 + k * 5 + 1, none⟩ = some (.slice xa x.length xc) ∧ w'.cell? ⟨b1, o1 + k * 5 + 2, none⟩ = some (.int .i64 P) ∧ w'.cell? ⟨b1, o1 + k * 5 + 3, none⟩ = some (.int .i64 Q) ∧ w'.cell? ⟨b1, o1 + k * 5 + 4, none⟩ = some (.bool s) ∧ w'.cell? ⟨b2, o2 + k * 5, none⟩ = some (.int .i64 j) ∧ w'.cell? ⟨b2, o2 + k * 5 + 1, none⟩ = some (.slice ya y.length yc) ∧ w'.cell? ⟨b2, o2 + k * 5 + 2, none⟩ = some (.int .i64 R) ∧ w'.cell? ⟨b2, o2 + k * 5 + 3, none⟩ = some (.int .i64 S) ∧ w'.cell? ⟨b2, o2 + k * 5 + 4, none⟩ = some (.bool t)) rJ kJ (fun hHeld => ?_); refine lJ 0 hHeld ?_; refine lJ 1 hHeld ?_; refine lJ 2 hHeld ?_; refine lJ 3 hHeld ?_; refine lJ 4 hHeld ?_; refine lJ 5 hHeld ?_; refine lJ 6 hHeld ?_; refine lJ 7 hHeld ?_; refine lexHv 8 rfl ?_ rJ; (intro K hK); (go_simp; go_at_call 84; (with_reducible refine (HC.out _ (HX.out.below bw) (HY.out.below bw)).mono ?_); rintro e w3 ⟨rfl, b3⟩; have s3 : wi.heap.size ≤ w3.heap.size := sz b3; have B3 := hH (Bc (B := w.heap.size) (a := w) (bx BI.out) b3); have c3_0 : w3.cell? ⟨b1, o1 + k * 5, none⟩ = some (.int .i64 i) := kC b3; have c3_1 : w3.cell? ⟨b1, o1 + k * 5 + 1, none⟩ = some (.slice xa x.length xc) := kC b3; have c3_2 : w3.cell? ⟨b1, o1 + k * 5 + 2, none⟩ = some (.int .i64 P) := kC b3; have c3_3 : w3.cell? ⟨b1, o1 + k * 5 + 3, none⟩ = some (.int .i64 Q) := kC b3; have c3_4 : w3.cell? ⟨b1, o1 + k * 5 + 4, none⟩ = some (.bool s) := kC b3; have c3_5 : w3.cell? ⟨b2, o2 + k * 5, none⟩ = some (.int .i64 j) := kC b3; have c3_6 : w3.cell? ⟨b2, o2 + k * 5 + 1, none⟩ = some (.slice ya y.length yc) := kC b3; have c3_7 : w3.cell? ⟨b2, o2 + k * 5 + 2, none⟩ = some (.int .i64 R) := kC b3; have c3_8 : w3.cell? ⟨b2, o2 + k * 5 + 3, none⟩ = some (.int .i64 S) := kC b3; have c3_9 : w3.cell? ⟨b2, o2 + k * 5 + 4, none⟩ = some (.bool t) := kC b3; obtain ⟨l3_0, n3_0, m3_0⟩ := lnm (show b1 < w3.heap.size by omega); obtain ⟨l3_1, n3_1, m3_1⟩ := lnm (show b2 < w3.heap.size by omega); clear b3; (try go_wp2_with fail)); clear hHeld; refine pJ hK fun hHeld => ?_; clear hK K; refine lJ 9 hHeld ?_; refine wpAnyH_done rJ ?_ _
     go_wp2_with fail
     go_ret
     exact ⟨ret_bool HW.out.symm, bx B3.out⟩
    | true =>
     rw [hD] at HC
     have HS := hH (show la.take (k + 1) = lb.take (k + 1) from by
      rw [decide_eq_true_eq] at hD
      rw [List.take_add_one, List.take_add_one, hpre, ht, hu, hD])
     clear hD hx hy ht hu hpre hbi hlt
     go_wp2_with fail
     refine wp_region_held_drew (S := fun w' => w'.cell? ⟨b1, o1 + k * 5, none⟩ = some (.int .i64 i) ∧ w'.cell? ⟨b1, o1 + k * 5 + 1, none⟩ = some (.slice xa x.length xc) ∧ w'.cell? ⟨b1, o1 + k * 5 + 2, none⟩ = some (.int .i64 P) ∧ w'.cell? ⟨b1, o1 + k * 5 + 3, none⟩ = some (.int .i64 Q) ∧ w'.cell? ⟨b1, o1 + k * 5 + 4, none⟩ = some (.bool s) ∧ w'.cell? ⟨b2, o2 + k * 5, none⟩ = some (.int .i64 j) ∧ w'.cell? ⟨b2, o2 + k * 5 + 1, none⟩ = some (.slice ya y.length yc) ∧ w'.cell? ⟨b2, o2 + k * 5 + 2, none⟩ = some (.int .i64 R) ∧ w'.cell? ⟨b2, o2 + k * 5 + 3, none⟩ = some (.int .i64 S) ∧ w'.cell? ⟨b2, o2 + k * 5 + 4, none⟩ = some (.bool t)) rJ kJ (fun hHeld => ?_); refine lJ 0 hHeld ?_; refine lJ 1 hHeld ?_; refine lJ 2 hHeld ?_; refine lJ 3 hHeld ?_; refine lJ 4 hHeld ?_; refine lJ 5 hHeld ?_; refine lJ 6 hHeld ?_; refine lJ 7 hHeld ?_; refine lexHv 8 rfl ?_ rJ; (intro K hK); (go_simp; go_at_call 84; (with_reducible refine (HC.out _ (HX.out.below bw) (HY.out.below bw)).mono ?_); rintro e w3 ⟨rfl, b3⟩; have s3 : wi.heap.size ≤ w3.heap.size := sz b3; have B3 := hH (Bc (B := w.heap.size) (a := w) (bx BI.out) b3); have c3_0 : w3.cell? ⟨b1, o1 + k * 5, none⟩ = some (.int .i64 i) := kC b3; have c3_1 : w3.cell? ⟨b1, o1 + k * 5 + 1, none⟩ = some (.slice xa x.length xc) := kC b3; have c3_2 : w3.cell? ⟨b1, o1 + k * 5 + 2, none⟩ = some (.int .i64 P) := kC b3; have c3_3 : w3.cell? ⟨b1, o1 + k * 5 + 3, none⟩ = some (.int .i64 Q) := kC b3; have c3_4 : w3.cell? ⟨b1, o1 + k * 5 + 4, none⟩ = some (.bool s) := kC b3; have c3_5 : w3.cell? ⟨b2, o2 + k * 5, none⟩ = some (.int .i64 j) := kC b3; have c3_6 : w3.cell? ⟨b2, o2 + k * 5 + 1, none⟩ = some (.slice ya y.length yc) := kC b3; have c3_7 : w3.cell? ⟨b2, o2 + k * 5 + 2, none⟩ = some (.int .i64 R) := kC b3; have c3_8 : w3.cell? ⟨b2, o2 + k * 5 + 3, none⟩ = some (.int .i64 S) := kC b3; have c3_9 : w3.cell? ⟨b2, o2 + k * 5 + 4, none⟩ = some (.bool t) := kC b3; obtain ⟨l3_0, n3_0, m3_0⟩ := lnm (show b1 < w3.heap.size by omega); obtain ⟨l3_1, n3_1, m3_1⟩ := lnm (show b2 < w3.heap.size by omega); clear b3; (try go_wp2_with fail)); clear hHeld; refine pJ hK fun hHeld => ?_; clear hK K; refine lJ 9 hHeld ?_; refine wpAnyH_done rJ ?_ _
     go_wp2_with fail
     go_roundw
     case rel => exact ⟨k + 1, by go_num, by have := HLT.out; omega, HS.out, B3.out⟩
     case measure => have := HLT.out; simp [intOf] <;> omega
   ·obtain rfl : k = n := by omega
    have HW := hH (show decide (la = lb) = true from by
     rw [decide_eq_true_eq]
     rw [List.take_of_length_le (by have := HN.out; omega), List.take_of_length_le (by have := HM.out; omega)] at hpre
     exact hpre)
    clear hpre hbi hlt
    go_wp2_with fail
    go_ret
    exact ⟨ret_bool HW.out.symm, bx BI.out⟩
 ·have HW := hH (show decide (la = lb) = false from by
   rw [decide_eq_false_iff_not]
   intro e
   have h1 := HN.out; have h2 := HM.out
   rw [e] at h1
   omega)
  have jl : ((n : Int) != (m : Int)) = true := by simp; omega
  have jl2 : ¬ (n : Int) = (m : Int) := by omega
  clear hl
  go_enter Tryz.func43, Tryz.ntmps43
  go_wp2_with fail
  go_ret
  exact ⟨ret_bool HW.out.symm, bw⟩
end Go.Proofs.YtgobbecpnjelmaaGreat
