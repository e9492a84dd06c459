/-
  SchedB: Walks of copseref20.Turn, Next, Turns and copseref28.turn.
  SchedC: Walks of copseref20.Turns, copseref28.turn, state.Births, copseref28.Births.
  ForS: Walk of tree.Same.
  RefPathS: Walks of copseref12.All, Sum, Much.
-/
import Derived.Test.YtgobbecpnjelmaaGreatKSchedA
import Derived.Test.YtgobbecpnjelmaaGreatKSameU
import Derived.Test.YtgobbecpnjelmaaGreatJ1a
import Derived.Test.YtgobbecpnjelmaaGreatKPathE
import Derived.Test.YtgobbecpnjelmaaGreatJ0c
namespace Go.Proofs.YtgobbecpnjelmaaGreat
open Go.RowKit

def turnB (s e n : Int) : Bool := decide (s ≤ n) && decide (n % e = 0)

theorem turnB_next {s e n : Int} (he : 1 ≤ e) : turnB s e (nextV s e n) = true := by
 obtain ⟨s1, s2, s3, s4, -⟩ := nextV_spec (s := s) (e := e) (n := n) he
 unfold turnB
 simp [s1, s3]

theorem turnB_no {s e n m : Int} (he : 1 ≤ e) (h1 : n + 1 ≤ m) (h2 : m < nextV s e n) : turnB s e m = false := by
 obtain ⟨_, _, _, _, s5⟩ := nextV_spec (s := s) (e := e) (n := n) he
 cases h : turnB s e m with
 | false => rfl
 | true =>
  unfold turnB at h
  simp at h
  have := s5 m h1 h.1 h.2
  omega

set_option maxRecDepth 100000 in
set_option maxHeartbeats 4000000 in
theorem rturn20_any (c0 c1 c2 c3 c4 c5 c6 c7 c8 c9 c10 : Int) (n : Int) (w : World) (h4 : 1 ≤ c4 ∧ c4 ≤ 256) (hn : 0 ≤ n ∧ n ≤ 1099511628032) :
  Calls Tryz.prog 130 #[.agg #[.int .i64 c0, .int .i64 c1, .int .i64 c2, .int .i64 c3, .int .i64 c4, .int .i64 c5, .int .i64 c6, .int .i64 c7, .int .i64 c8, .int .i64 c9, .int .i64 c10], .int .i64 n] w fun e w' => e = .returned (.bool (turnB c3 c4 n)) ∧ Below w.heap.size w w' := by
 have h40 : ¬ c4 = 0 := by omega
 have h41 : ¬ c4 = -1 := by omega
 have ht : n.tmod c4 = n % c4 := Int.tmod_eq_emod_of_nonneg hn.1
 obtain ⟨R, hR⟩ : ∃ R, n % c4 = R := ⟨_, rfl⟩
 have HT := hH (show turnB c3 c4 n = (decide (c3 ≤ n) && decide (R = 0)) from by unfold turnB; rw [hR])
 rw [hR] at ht
 clear hR
 by_cases h : c3 ≤ n
 ·go_enter Tryz.func130, Tryz.ntmps130
  go_wp2_with fail
  go_ret
  exact ⟨ret_bool (by rw [HT.out, show decide (c3 ≤ n) = true from by simp; omega]; rfl), bw⟩
 ·have h' : n < c3 := by omega
  go_enter Tryz.func130, Tryz.ntmps130
  go_wp2_with fail
  go_ret
  exact ⟨ret_bool (by rw [HT.out, show decide (c3 ≤ n) = false from by simp; omega]; rfl), bw⟩

set_option maxRecDepth 100000 in
set_option maxHeartbeats 4000000 in
theorem rNext_any (c0 c1 c2 c3 c4 c5 c6 c7 c8 c9 c10 : Int) (n : Int) (w : World) :
  Calls Tryz.prog 87 #[.agg #[.int .i64 c0, .int .i64 c1, .int .i64 c2, .int .i64 c3, .int .i64 c4, .int .i64 c5, .int .i64 c6, .int .i64 c7, .int .i64 c8, .int .i64 c9, .int .i64 c10], .int .i64 n] w fun e w' => e = .returned (.tuple #[.int .i64 (nextT (confB11 c0 c1 c2 c3 c4 c5 c6 c7 c8 c9 c10) c3 c4 n).1, .int .i64 (nextT (confB11 c0 c1 c2 c3 c4 c5 c6 c7 c8 c9 c10) c3 c4 n).2]) ∧ Below w.heap.size w w' := by
 obtain ⟨B, hB⟩ : ∃ B, confB11 c0 c1 c2 c3 c4 c5 c6 c7 c8 c9 c10 = B := ⟨_, rfl⟩
 have HSR := hH (fun W => hB ▸ rright20_any c0 c1 c2 c3 c4 c5 c6 c7 c8 c9 c10 W)
 rw [hB]
 cases B with
 | false =>
  clear hB
  go_enter Tryz.func87, Tryz.ntmps87
  go_wp2_with fail
  (with_reducible refine (HSR.out _).mono ?_); rintro e w1 ⟨rfl, b1⟩; have s1 : w.heap.size + 1 ≤ w1.heap.size := sz b1; have B1 := hJ w b1; clear b1
  go_wp2_with fail
  exact bodyPost_ret (v := .tuple #[.int .i64 0, .int .i64 200]) (by simp [results, Tryz.results87, go_sem, *]) rfl ⟨rfl, bx B1.out⟩
 | true =>
  obtain ⟨_, _, _, b3, _, b4, _⟩ := conf_bounds hB
  clear hB
  by_cases hn : 0 ≤ n ∧ n ≤ 1099511627776
  ·have HIN := hH (fun W => rin_any n 0 1099511627776 true (by simp [hn]) W)
   have HT := hH (show nextT true c3 c4 n = (nextV c3 c4 n, 0) from by
    have h0 : rightE true [n] = 0 := by unfold rightE cntB; rw [if_neg (by simp), if_neg (by simp; omega)]
    unfold nextT
    rw [h0, if_pos rfl])
   have HNO := hH (fun m => turnB_no (s := c3) (e := c4) (n := n) (m := m) b4.1)
   have HYES := hH (turnB_next (s := c3) (e := c4) (n := n) b4.1)
   obtain ⟨s1, s2, s3, s4, -⟩ := nextV_spec (s := c3) (e := c4) (n := n) b4.1
   obtain ⟨F, hF⟩ : ∃ F, nextV c3 c4 n = F := ⟨_, rfl⟩
   rw [hF] at s2 s3 s4 HNO HYES HT
   have hFm : F ≤ 1099511628032 := by omega
   obtain ⟨n1, n2⟩ := hn
   clear s1 s4 hF
   go_enter Tryz.func87, Tryz.ntmps87
   go_wp2_with fail
   (with_reducible refine (HSR.out _).mono ?_); rintro e w1 ⟨rfl, b1⟩; have s1 : w.heap.size + 1 ≤ w1.heap.size := sz b1; have B1 := hJ w b1; obtain ⟨c1_0, c1_1, c1_2, c1_3, c1_4, c1_5, c1_6, c1_7, c1_8, c1_9, c1_10⟩ := k11 (w.heap.size) (.int .i64 c0) (.int .i64 c1) (.int .i64 c2) (.int .i64 c3) (.int .i64 c4) (.int .i64 c5) (.int .i64 c6) (.int .i64 c7) (.int .i64 c8) (.int .i64 c9) (.int .i64 c10) b1 aJ; obtain ⟨l1_0, n1_0, m1_0⟩ := lnm (show w.heap.size < w1.heap.size by omega); clear b1
   go_wp2_with fail
   (with_reducible refine (HIN.out _).mono ?_)
   rintro e w2 ⟨rfl, rfl⟩
   go_wp2_with fail
   go_loopw [6] (fun nv wr => ∃ m : Int, nv = .int .i64 m ∧ n + 1 ≤ m ∧ m ≤ F ∧ Below w.heap.size w wr ∧ w.heap.size < wr.heap.size ∧ (wr.cell? ⟨w.heap.size, 0, none⟩ = some (.int .i64 c0) ∧ wr.cell? ⟨w.heap.size, 1, none⟩ = some (.int .i64 c1) ∧ wr.cell? ⟨w.heap.size, 2, none⟩ = some (.int .i64 c2) ∧ wr.cell? ⟨w.heap.size, 3, none⟩ = some (.int .i64 c3) ∧ wr.cell? ⟨w.heap.size, 4, none⟩ = some (.int .i64 c4) ∧ wr.cell? ⟨w.heap.size, 5, none⟩ = some (.int .i64 c5) ∧ wr.cell? ⟨w.heap.size, 6, none⟩ = some (.int .i64 c6) ∧ wr.cell? ⟨w.heap.size, 7, none⟩ = some (.int .i64 c7) ∧ wr.cell? ⟨w.heap.size, 8, none⟩ = some (.int .i64 c8) ∧ wr.cell? ⟨w.heap.size, 9, none⟩ = some (.int .i64 c9) ∧ wr.cell? ⟨w.heap.size, 10, none⟩ = some (.int .i64 c10))) (fun nv _ => (F - intOf nv).toNat)
   case atStart => exact ⟨n + 1, by go_num, by omega, by omega, bx B1.out, by omega, by and_intros <;> go_simp⟩
   case round =>
    obtain ⟨m, rfl, hm1, hm2, hbi, hsz, k20, k21, k22, k23, k24, k25, k26, k27, k28, k29, k30⟩ := hrel
    rename World => wi
    have BI := hH hbi
    clear hbi
    by_cases hlt : m < F
    ·have HTU := hH (fun W => HNO.out m hm1 hlt ▸ rturn20_any c0 c1 c2 c3 c4 c5 c6 c7 c8 c9 c10 m W b4 (by omega))
     go_wp2_with fail
     (with_reducible refine (HTU.out _).mono ?_); rintro e w3 ⟨rfl, b3⟩; have s3 : wi.heap.size ≤ w3.heap.size := sz b3; have B3 := hH (Bc (B := w.heap.size) (a := w) (bx BI.out) b3); obtain ⟨c3_0, c3_1, c3_2, c3_3, c3_4, c3_5, c3_6, c3_7, c3_8, c3_9, c3_10⟩ := k11 (w.heap.size) (.int .i64 c0) (.int .i64 c1) (.int .i64 c2) (.int .i64 c3) (.int .i64 c4) (.int .i64 c5) (.int .i64 c6) (.int .i64 c7) (.int .i64 c8) (.int .i64 c9) (.int .i64 c10) b3 aJ; obtain ⟨l3_0, n3_0, m3_0⟩ := lnm (show w.heap.size < w3.heap.size by omega); clear b3
     go_wp2_with fail
     go_roundw
     case rel => exact ⟨m + 1, by go_num, by omega, by omega, B3.out, by omega, by and_intros <;> with_reducible assumption⟩
     case measure => simp [intOf] <;> omega
    ·obtain rfl : m = F := by omega
     have HTU := hH (fun W => HYES.out ▸ rturn20_any c0 c1 c2 c3 c4 c5 c6 c7 c8 c9 c10 m W b4 (by omega))
     go_wp2_with fail
     (with_reducible refine (HTU.out _).mono ?_); rintro e w3 ⟨rfl, b3⟩; have s3 : wi.heap.size ≤ w3.heap.size := sz b3; have B3 := hH (Bc (B := w.heap.size) (a := w) (bx BI.out) b3); clear b3
     go_wp2_with fail
     exact bodyPost_ret (v := .tuple #[.int .i64 m, .int .i64 0]) (by simp [results, Tryz.results87, go_sem, *]) rfl (by rw [HT.out]; exact ⟨rfl, bx B3.out⟩)
  ·have HIN := hH (fun W => rin_any n 0 1099511627776 false (by simp only [decide_eq_false_iff_not]; exact hn) W)
   have HT := hH (show nextT true c3 c4 n = (0, 1) from by
    have h1 : rightE true [n] = 1 := by unfold rightE cntB; rw [if_neg (by simp), if_pos (by simp; omega)]
    unfold nextT
    rw [h1, if_neg (by decide)])
   clear hn
   go_enter Tryz.func87, Tryz.ntmps87
   go_wp2_with fail
   (with_reducible refine (HSR.out _).mono ?_); rintro e w1 ⟨rfl, b1⟩; have s1 : w.heap.size + 1 ≤ w1.heap.size := sz b1; have B1 := hJ w b1; obtain ⟨c1_0, c1_1, c1_2, c1_3, c1_4, c1_5, c1_6, c1_7, c1_8, c1_9, c1_10⟩ := k11 (w.heap.size) (.int .i64 c0) (.int .i64 c1) (.int .i64 c2) (.int .i64 c3) (.int .i64 c4) (.int .i64 c5) (.int .i64 c6) (.int .i64 c7) (.int .i64 c8) (.int .i64 c9) (.int .i64 c10) b1 aJ; obtain ⟨l1_0, n1_0, m1_0⟩ := lnm (show w.heap.size < w1.heap.size by omega); clear b1
   go_wp2_with fail
   (with_reducible refine (HIN.out _).mono ?_)
   rintro e w2 ⟨rfl, rfl⟩
   go_wp2_with fail
   exact bodyPost_ret (v := .tuple #[.int .i64 0, .int .i64 1]) (by simp [results, Tryz.results87, go_sem, *]) rfl (by rw [HT.out]; exact ⟨rfl, bx B1.out⟩)
end Go.Proofs.YtgobbecpnjelmaaGreat

namespace Go.Proofs.YtgobbecpnjelmaaGreat
open Go.RowKit

theorem nextT_zero {s e : Int} : nextT true s e 0 = (nextV s e 0, 0) := by
 have h0 : rightE true [0] = 0 := by unfold rightE cntB; rw [if_neg (by simp), if_neg (by simp)]
 unfold nextT
 rw [h0, if_pos rfl]

theorem rightE_in {n : Int} (h : 0 ≤ n ∧ n ≤ 1099511627776) : rightE true [n] = 0 := by unfold rightE cntB; rw [if_neg (by simp), if_neg (by simp; omega)]

theorem rightE_out {n : Int} (h : ¬ (0 ≤ n ∧ n ≤ 1099511627776)) : rightE true [n] = 1 := by unfold rightE cntB; rw [if_neg (by simp), if_pos (by simp; omega)]

set_option maxRecDepth 100000 in
set_option maxHeartbeats 4000000 in
theorem rTurns_any (c0 c1 c2 c3 c4 c5 c6 c7 c8 c9 c10 : Int) (n : Int) (w : World) :
  Calls Tryz.prog 47 #[.agg #[.int .i64 c0, .int .i64 c1, .int .i64 c2, .int .i64 c3, .int .i64 c4, .int .i64 c5, .int .i64 c6, .int .i64 c7, .int .i64 c8, .int .i64 c9, .int .i64 c10], .int .i64 0, .int .i64 n] w fun e w' => e = .returned (.tuple #[.int .i64 (turnsT (confB11 c0 c1 c2 c3 c4 c5 c6 c7 c8 c9 c10) c3 c4 n).1, .int .i64 (turnsT (confB11 c0 c1 c2 c3 c4 c5 c6 c7 c8 c9 c10) c3 c4 n).2]) ∧ Below w.heap.size w w' := by
 have HNX := hH (fun W => rNext_any c0 c1 c2 c3 c4 c5 c6 c7 c8 c9 c10 0 W)
 obtain ⟨B, hB⟩ : ∃ B, confB11 c0 c1 c2 c3 c4 c5 c6 c7 c8 c9 c10 = B := ⟨_, rfl⟩
 have HSR := hH (fun W => hB ▸ rright20_any c0 c1 c2 c3 c4 c5 c6 c7 c8 c9 c10 W)
 rw [hB] at HNX ⊢
 cases B with
 | false =>
  clear hB HNX
  go_enter Tryz.func47, Tryz.ntmps47
  go_wp2_with fail
  (with_reducible refine (HSR.out _).mono ?_); rintro e w1 ⟨rfl, b1⟩; have s1 : w.heap.size + 1 ≤ w1.heap.size := sz b1; have B1 := hJ w b1; clear b1
  go_wp2_with fail
  exact bodyPost_ret (v := .tuple #[.int .i64 0, .int .i64 200]) (by simp [results, Tryz.results47, go_sem, *]) rfl ⟨rfl, bx B1.out⟩
 | true =>
  obtain ⟨_, _, _, b3, _, b4, _⟩ := conf_bounds hB
  rw [nextT_zero] at HNX
  clear hB
  have HI0 := hH (fun W => rin_any 0 0 1099511627776 true (by simp) W)
  by_cases hn : 0 ≤ n ∧ n ≤ 1099511627776
  ·have HIN := hH (fun W => rin_any n 0 1099511627776 true (by simp [hn]) W)
   have hT : turnsT true c3 c4 n = (upToV c3 c4 n, 0) := by unfold turnsT; rw [rightE_in hn, if_pos rfl]
   obtain ⟨s1, s2, s3, s4, -⟩ := nextV_spec (s := c3) (e := c4) (n := 0) b4.1
   have hU : upToV c3 c4 n = if n < nextV c3 c4 0 then 0 else (n - nextV c3 c4 0) / c4 + 1 := rfl
   obtain ⟨F, hF⟩ : ∃ F, nextV c3 c4 0 = F := ⟨_, rfl⟩
   rw [hF] at s2 s3 s4 HNX hU
   have HU := hH hU
   have HT := hH hT
   obtain ⟨n1, n2⟩ := hn
   clear s1 hF hU hT
   by_cases hlt : n < F
   ·go_enter Tryz.func47, Tryz.ntmps47
    go_wp2_with fail
    (with_reducible refine (HSR.out _).mono ?_); rintro e w1 ⟨rfl, b1⟩; have s1 : w.heap.size + 1 ≤ w1.heap.size := sz b1; have B1 := hJ w b1; obtain ⟨c1_0, c1_1, c1_2, c1_3, c1_4, c1_5, c1_6, c1_7, c1_8, c1_9, c1_10⟩ := k11 (w.heap.size) (.int .i64 c0) (.int .i64 c1) (.int .i64 c2) (.int .i64 c3) (.int .i64 c4) (.int .i64 c5) (.int .i64 c6) (.int .i64 c7) (.int .i64 c8) (.int .i64 c9) (.int .i64 c10) b1 aJ; obtain ⟨l1_0, n1_0, m1_0⟩ := lnm (show w.heap.size < w1.heap.size by omega); clear b1
    go_wp2_with fail
    (with_reducible refine (HI0.out _).mono ?_)
    rintro e w2 ⟨rfl, rfl⟩
    go_wp2_with fail
    (with_reducible refine (HIN.out _).mono ?_)
    rintro e w2 ⟨rfl, rfl⟩
    go_wp2_with fail
    (with_reducible refine (HNX.out _).mono ?_); rintro e w2 ⟨rfl, b2⟩; have s2 : w1.heap.size ≤ w2.heap.size := sz b2; have B2 := bJ B1.out b2; clear b2
    go_wp2_with fail
    exact bodyPost_ret (v := .tuple #[.int .i64 0, .int .i64 0]) (by simp [results, Tryz.results47, go_sem, *]) rfl (by rw [HT.out, HU.out, if_pos (by omega)]; exact ⟨rfl, bx B2.out⟩)
   ·have hq : (n - F).tdiv c4 = (n - F) / c4 := Int.tdiv_eq_ediv_of_nonneg (by omega)
    have hq1 : 0 ≤ (n - F) / c4 := Int.ediv_nonneg (by omega) (by omega)
    have hq2 : (n - F) / c4 ≤ n - F := Int.ediv_le_self _ (by omega)
    obtain ⟨Q, hQ⟩ : ∃ Q, (n - F) / c4 = Q := ⟨_, rfl⟩
    rw [hQ] at hq hq1 hq2 HU
    have h40 : ¬ c4 = 0 := by omega
    have h41 : ¬ c4 = -1 := by omega
    clear hQ
    go_enter Tryz.func47, Tryz.ntmps47
    go_wp2_with fail
    (with_reducible refine (HSR.out _).mono ?_); rintro e w1 ⟨rfl, b1⟩; have s1 : w.heap.size + 1 ≤ w1.heap.size := sz b1; have B1 := hJ w b1; obtain ⟨c1_0, c1_1, c1_2, c1_3, c1_4, c1_5, c1_6, c1_7, c1_8, c1_9, c1_10⟩ := k11 (w.heap.size) (.int .i64 c0) (.int .i64 c1) (.int .i64 c2) (.int .i64 c3) (.int .i64 c4) (.int .i64 c5) (.int .i64 c6) (.int .i64 c7) (.int .i64 c8) (.int .i64 c9) (.int .i64 c10) b1 aJ; obtain ⟨l1_0, n1_0, m1_0⟩ := lnm (show w.heap.size < w1.heap.size by omega); clear b1
    go_wp2_with fail
    (with_reducible refine (HI0.out _).mono ?_)
    rintro e w2 ⟨rfl, rfl⟩
    go_wp2_with fail
    (with_reducible refine (HIN.out _).mono ?_)
    rintro e w2 ⟨rfl, rfl⟩
    go_wp2_with fail
    (with_reducible refine (HNX.out _).mono ?_); rintro e w2 ⟨rfl, b2⟩; have s2 : w1.heap.size ≤ w2.heap.size := sz b2; have B2 := bJ B1.out b2; obtain ⟨c2_0, c2_1, c2_2, c2_3, c2_4, c2_5, c2_6, c2_7, c2_8, c2_9, c2_10⟩ := k11 (w.heap.size) (.int .i64 c0) (.int .i64 c1) (.int .i64 c2) (.int .i64 c3) (.int .i64 c4) (.int .i64 c5) (.int .i64 c6) (.int .i64 c7) (.int .i64 c8) (.int .i64 c9) (.int .i64 c10) b2 aJ; obtain ⟨l2_0, n2_0, m2_0⟩ := lnm (show w.heap.size < w2.heap.size by omega); clear b2
    go_wp2_with fail
    exact bodyPost_ret (v := .tuple #[.int .i64 (Q + 1), .int .i64 0]) (by simp [results, Tryz.results47, go_sem, *]) rfl (by rw [HT.out, HU.out, if_neg (by omega)]; exact ⟨rfl, bx B2.out⟩)
  ·have HIN := hH (fun W => rin_any n 0 1099511627776 false (by simp only [decide_eq_false_iff_not]; exact hn) W)
   have HT := hH (show turnsT true c3 c4 n = (0, 1) from by unfold turnsT; rw [rightE_out hn, if_neg (by decide)])
   clear hn
   go_enter Tryz.func47, Tryz.ntmps47
   go_wp2_with fail
   (with_reducible refine (HSR.out _).mono ?_); rintro e w1 ⟨rfl, b1⟩; have s1 : w.heap.size + 1 ≤ w1.heap.size := sz b1; have B1 := hJ w b1; obtain ⟨c1_0, c1_1, c1_2, c1_3, c1_4, c1_5, c1_6, c1_7, c1_8, c1_9, c1_10⟩ := k11 (w.heap.size) (.int .i64 c0) (.int .i64 c1) (.int .i64 c2) (.int .i64 c3) (.int .i64 c4) (.int .i64 c5) (.int .i64 c6) (.int .i64 c7) (.int .i64 c8) (.int .i64 c9) (.int .i64 c10) b1 aJ; obtain ⟨l1_0, n1_0, m1_0⟩ := lnm (show w.heap.size < w1.heap.size by omega); clear b1
   go_wp2_with fail
   (with_reducible refine (HI0.out _).mono ?_)
   rintro e w2 ⟨rfl, rfl⟩
   go_wp2_with fail
   (with_reducible refine (HIN.out _).mono ?_)
   rintro e w2 ⟨rfl, rfl⟩
   go_wp2_with fail
   exact bodyPost_ret (v := .tuple #[.int .i64 0, .int .i64 1]) (by simp [results, Tryz.results47, go_sem, *]) rfl (by rw [HT.out]; exact ⟨rfl, bx B1.out⟩)

set_option maxRecDepth 100000 in
set_option maxHeartbeats 4000000 in
theorem rturn28_any (c0 c1 c2 c3 c4 c5 c6 c7 c8 c9 c10 : Int) (k : Nat) (w : World) (hB : confB11 c0 c1 c2 c3 c4 c5 c6 c7 c8 c9 c10 = true) (hk : (k : Int) ≤ 1099511627776) :
  Calls Tryz.prog 48 #[.agg #[.int .i64 c0, .int .i64 c1, .int .i64 c2, .int .i64 c3, .int .i64 c4, .int .i64 c5, .int .i64 c6, .int .i64 c7, .int .i64 c8, .int .i64 c9, .int .i64 c10], .int .i64 (k : Int)] w fun e w' => e = .returned (.int .i64 (nextV c3 c4 0 + (k : Int) * c4)) ∧ Below w.heap.size w w' := by
 have HNX := hH (fun W => rNext_any c0 c1 c2 c3 c4 c5 c6 c7 c8 c9 c10 0 W)
 rw [hB, nextT_zero] at HNX
 obtain ⟨_, _, _, b3, _, b4, _⟩ := conf_bounds hB
 obtain ⟨s1, s2, s3, s4, -⟩ := nextV_spec (s := c3) (e := c4) (n := 0) b4.1
 obtain ⟨F, hF⟩ : ∃ F, nextV c3 c4 0 = F := ⟨_, rfl⟩
 rw [hF] at s2 s3 s4 HNX ⊢
 have p1 : 0 ≤ (k : Int) * c4 := Int.mul_nonneg (by omega) (by omega)
 have p2 : (k : Int) * c4 ≤ 1099511627776 * 256 := Int.mul_le_mul hk b4.2 (by omega) (by omega)
 obtain ⟨P, hP⟩ : ∃ P, (k : Int) * c4 = P := ⟨_, rfl⟩
 have kw : IntKind.i64.wrap ((k : Int) * c4) = P := by rw [hP, IntKind.wrap_i64]; omega
 rw [hP] at p1 p2 ⊢
 have kw2 : IntKind.i64.wrap (F + P) = F + P := by rw [IntKind.wrap_i64]; omega
 clear s1 hF hP hB
 go_enter Tryz.func48, Tryz.ntmps48
 go_wp2_with fail
 (with_reducible refine (HNX.out _).mono ?_); rintro e w1 ⟨rfl, b1⟩; have s1 : w.heap.size + 1 ≤ w1.heap.size := sz b1; have B1 := hJ w b1; obtain ⟨c1_0, c1_1, c1_2, c1_3, c1_4, c1_5, c1_6, c1_7, c1_8, c1_9, c1_10⟩ := k11 (w.heap.size) (.int .i64 c0) (.int .i64 c1) (.int .i64 c2) (.int .i64 c3) (.int .i64 c4) (.int .i64 c5) (.int .i64 c6) (.int .i64 c7) (.int .i64 c8) (.int .i64 c9) (.int .i64 c10) b1 aJ; obtain ⟨l1_0, n1_0, m1_0⟩ := lnm (show w.heap.size < w1.heap.size by omega); clear b1
 go_wp2_with fail
 go_ret
 exact ⟨rfl, bx B1.out⟩
end Go.Proofs.YtgobbecpnjelmaaGreat

namespace Go.Proofs.YtgobbecpnjelmaaGreat
open Go.RowKit

end Go.Proofs.YtgobbecpnjelmaaGreat

namespace Go.Proofs.YtgobbecpnjelmaaGreat
open Go.RowKit

set_option maxRecDepth 100000 in
set_option maxHeartbeats 4000000 in
theorem rall_any (v : Value) (l : List TreeP) (w : World) (h : TreesR w v l) :
  Calls Tryz.prog 127 #[v] w fun e w' => e = .returned (.bool (decide (0 < l.length) && allT l)) ∧ Below w.heap.size w w' := by
 obtain ⟨ad, cc, rfl, _, _, q3, hcell⟩ := h
 obtain ⟨n, hn⟩ : ∃ n, l.length = n := ⟨_, rfl⟩
 have HL := hH hn
 rw [hn] at q3 ⊢
 clear hn
 rcases Nat.eq_zero_or_pos n with h0 | h0
 ·subst h0
  clear hcell
  go_enter Tryz.func127, Tryz.ntmps127
  go_wp2_with fail
  go_loopw [3] (fun i wr => i = .int .i64 0 ∧ wr = w) (fun i _ => 0)
  case atStart => exact ⟨rfl, rfl⟩
  case round =>
   obtain ⟨rfl, rfl⟩ := hrel
   go_wp2_with fail
   go_ret
   exact ⟨rfl, bw⟩
 ·have hdec : decide (0 < n) = true := by simp [h0]
  rw [hdec, Bool.true_and]
  obtain ⟨t0, ht0⟩ := getElem?_ex (l := l) (k := 0) (by rw [HL.out]; omega)
  obtain ⟨b, o, _, rfl, hb, cd0, _, _⟩ := hcell 0 t0 ht0
  have hd0 : dim0 l = t0.dim := by unfold dim0; rw [ht0]; rfl
  rw [Nat.zero_mul, Nat.add_zero, ← hd0] at cd0
  have HC := hH (show ∀ i t, l[i]? = some t → ∃ nv, w.cell? ⟨b, o + i * 2, none⟩ = some (.int .i64 t.dim) ∧ w.cell? ⟨b, o + i * 2 + 1, none⟩ = some nv ∧ NodesR w nv t.nodes from fun i t hi => by
   obtain ⟨b', o', nv, e, _, c0, c1, hn⟩ := hcell i t hi
   injection e with e
   injection e with e1 e2 e3
   subst e1 e2
   exact ⟨nv, c0, c1, hn⟩)
  have hn0 : (0 : Int) < n := by omega
  clear hcell ht0 hd0 hdec
  obtain ⟨D, hD⟩ : ∃ D, dim0 l = D := ⟨_, rfl⟩
  rw [hD] at cd0
  have HD := hH hD
  obtain ⟨E, hE⟩ : ∃ E, allT l = E := ⟨_, rfl⟩
  rw [hE]
  have HE := hH hE
  clear hE hD
  go_enter Tryz.func127, Tryz.ntmps127
  go_wp2_with fail
  go_loopw [3] (fun idx wr => ∃ k : Nat, idx = .int .i64 k ∧ k ≤ n ∧ (∀ i t, i < k → l[i]? = some t → okT l t = true) ∧ Below w.heap.size w wr) (fun idx _ => n - (intOf idx).toNat)
  case atStart => exact ⟨0, rfl, by omega, fun i t h => by omega, Below.refl _ _⟩
  case round =>
   obtain ⟨k, rfl, hk, hall, hbr⟩ := hrel
   have HA := hH hall
   have HBR := hH hbr
   have hsz := hbr.size
   by_cases hlt : k < n
   ·obtain ⟨t, ht⟩ := getElem?_ex (l := l) (k := k) (by rw [HL.out]; exact hlt)
    obtain ⟨nv, c0, c1, hnv⟩ := HC.out k t ht
    have e0 := (hbr.cell (p := ⟨b, o + k * 2, none⟩) hb).trans c0
    have e1 := (hbr.cell (p := ⟨b, o + k * 2 + 1, none⟩) hb).trans c1
    have ed := (hbr.cell (p := ⟨b, o, none⟩) hb).trans cd0
    have HT := hH (show TreeR w (.agg #[.int .i64 t.dim, nv]) t from ⟨nv, rfl, hnv⟩)
    obtain ⟨na, nc, rfl, _⟩ := hnv
    have HK := hH ht
    have i1 : (0 : Int) ≤ (k : Int) := by omega
    have i2 : (k : Int) < (n : Int) := by omega
    have hbz : b < wr.heap.size := by omega
    have HOK := hH (show okT l t = (treeB t && decide (t.dim = D)) by unfold okT; rw [HD.out])
    clear ht hall hbr
    obtain ⟨TB, hTB⟩ : ∃ TB, treeB t = TB := ⟨_, rfl⟩
    have HTI := hH (fun W (hW : TreeR W (.agg #[.int .i64 t.dim, .slice na t.nodes.length nc]) t) => hTB ▸ ristree_any _ t W hW)
    rw [hTB] at HOK
    clear hTB
    generalize t.nodes.length = tn at *
    obtain ⟨d, hd⟩ : ∃ d, t.dim = d := ⟨_, rfl⟩
    rw [hd] at e0 c0 HT HOK HTI
    clear hd
    cases TB with
    | false =>
     have G := hH (show E = false by rw [← HE.out]; exact allT_not HK.out (by rw [HOK.out]; rfl))
     go_wp2_with fail
     refine wp_region_free_head_quiet (.slice (some ⟨b, o, none⟩) n cc) (.int .i64 k) (.pointer (some ⟨b, o + k * 2, none⟩)) 4 rJ rJ rJ rJ rJ (by decide) rJ (fun _ _ _ h => h) (fun _ _ _ h => h) (fun _ _ _ h => h) (Or.inl ⟨rfl, fun w => by go_simp⟩) (Or.inl ⟨rfl, fun w => by go_simp⟩) (Or.inl ⟨rfl, fun w => by go_simp⟩) ?_
     simp only [List.take_succ_cons, List.take_zero, List.drop_succ_cons, List.drop_zero, Act.put, List.setIfInBounds_toArray, List.set_cons_zero, List.set_cons_succ]
     go_wp2_with (go_at_call 132; go_must (with_reducible refine (HTI.out _ ((HT.out.below HBR.out).below bw)).mono ?_))
     rintro e w4 ⟨rfl, b4⟩
     have B4 := hH (show Below wr.heap.size wr w4 from below_tr bw (b4.mono mJ))
     have z0 : w4.cell? ⟨b, o + k * 2, none⟩ = some (.int .i64 d) := (b4.cell mJ).trans (by go_simp)
     have z2 : w4.cell? ⟨b, o, none⟩ = some (.int .i64 D) := (b4.cell mJ).trans (by go_simp)
     clear b4
     go_wp2_with fail
     refine CalmNext.normal ?_; (repeat (go_big_quiet_step (fail))); refine wpQuiet_nil ?_; intro _ hw1; obtain ⟨nq, hw2⟩ := hw1; subst hw2
     go_wp2_with fail
     go_ret
     exact ⟨by rw [G.out]; rfl, by (repeat (first | with_reducible exact Below.refl _ _ | with_reducible refine Bs ?_ | with_reducible refine Ba ?_ | with_reducible refine Bd ?_ | with_reducible refine Bn ?_ | with_reducible refine Bt B4.out ?_ | with_reducible refine Bt HBR.out ?_))⟩
    | true =>
     by_cases a1 : d = D
     ·subst a1
      have j1 : (d != d) = false := by simp
      have HOT := hH (show okT l t = true by rw [HOK.out]; simp)
      go_wp2_with fail
      refine wp_region_free_head_quiet (.slice (some ⟨b, o, none⟩) n cc) (.int .i64 k) (.pointer (some ⟨b, o + k * 2, none⟩)) 4 rJ rJ rJ rJ rJ (by decide) rJ (fun _ _ _ h => h) (fun _ _ _ h => h) (fun _ _ _ h => h) (Or.inl ⟨rfl, fun w => by go_simp⟩) (Or.inl ⟨rfl, fun w => by go_simp⟩) (Or.inl ⟨rfl, fun w => by go_simp⟩) ?_
      simp only [List.take_succ_cons, List.take_zero, List.drop_succ_cons, List.drop_zero, Act.put, List.setIfInBounds_toArray, List.set_cons_zero, List.set_cons_succ]
      go_wp2_with (go_at_call 132; go_must (with_reducible refine (HTI.out _ ((HT.out.below HBR.out).below bw)).mono ?_))
      rintro e w4 ⟨rfl, b4⟩
      have B4 := hH (show Below wr.heap.size wr w4 from below_tr bw (b4.mono mJ))
      have z0 : w4.cell? ⟨b, o + k * 2, none⟩ = some (.int .i64 d) := (b4.cell mJ).trans (by go_simp)
      have z2 : w4.cell? ⟨b, o, none⟩ = some (.int .i64 d) := (b4.cell mJ).trans (by go_simp)
      clear b4
      go_wp2_with fail
      refine CalmNext.normal ?_; (repeat (go_big_quiet_step (fail))); refine wpQuiet_nil ?_; intro _ hw1; obtain ⟨nq, hw2⟩ := hw1; subst hw2
      go_wp2_with fail
      go_roundw
      case rel =>
       refine ⟨k + 1, by go_num, by omega, fun i t' hi ht' => ?_, by (repeat (first | with_reducible exact Below.refl _ _ | with_reducible refine Bs ?_ | with_reducible refine Ba ?_ | with_reducible refine Bd ?_ | with_reducible refine Bn ?_ | with_reducible refine Bt B4.out ?_ | with_reducible refine Bt HBR.out ?_))⟩
       rcases Nat.lt_or_ge i k with h | h
       ·exact HA.out i t' h ht'
       ·obtain rfl : i = k := by omega
        rw [HK.out] at ht'
        injection ht' with ht'
        subst ht'
        exact HOT.out
      case measure => simp [intOf] <;> omega
     ·have G := hH (show E = false by rw [← HE.out]; exact allT_not HK.out (by rw [HOK.out]; simp [a1]))
      have J1 := hH (show (d != D) = true by simp [a1])
      clear a1
      have j1 := J1.out
      go_wp2_with fail
      refine wp_region_free_head_quiet (.slice (some ⟨b, o, none⟩) n cc) (.int .i64 k) (.pointer (some ⟨b, o + k * 2, none⟩)) 4 rJ rJ rJ rJ rJ (by decide) rJ (fun _ _ _ h => h) (fun _ _ _ h => h) (fun _ _ _ h => h) (Or.inl ⟨rfl, fun w => by go_simp⟩) (Or.inl ⟨rfl, fun w => by go_simp⟩) (Or.inl ⟨rfl, fun w => by go_simp⟩) ?_
      simp only [List.take_succ_cons, List.take_zero, List.drop_succ_cons, List.drop_zero, Act.put, List.setIfInBounds_toArray, List.set_cons_zero, List.set_cons_succ]
      go_wp2_with (go_at_call 132; go_must (with_reducible refine (HTI.out _ ((HT.out.below HBR.out).below bw)).mono ?_))
      rintro e w4 ⟨rfl, b4⟩
      have B4 := hH (show Below wr.heap.size wr w4 from below_tr bw (b4.mono mJ))
      have z0 : w4.cell? ⟨b, o + k * 2, none⟩ = some (.int .i64 d) := (b4.cell mJ).trans (by go_simp)
      have z2 : w4.cell? ⟨b, o, none⟩ = some (.int .i64 D) := (b4.cell mJ).trans (by go_simp)
      clear b4
      go_wp2_with fail
      refine CalmNext.normal ?_; (repeat (go_big_quiet_step (fail))); refine wpQuiet_nil ?_; intro _ hw1; obtain ⟨nq, hw2⟩ := hw1; subst hw2
      go_wp2_with fail
      go_ret
      exact ⟨by rw [G.out]; rfl, by (repeat (first | with_reducible exact Below.refl _ _ | with_reducible refine Bs ?_ | with_reducible refine Ba ?_ | with_reducible refine Bd ?_ | with_reducible refine Bn ?_ | with_reducible refine Bt B4.out ?_ | with_reducible refine Bt HBR.out ?_))⟩
   ·obtain rfl : k = n := by omega
    have HALL := hH (show E = true by
     rw [← HE.out]
     unfold allT
     rw [List.all_eq_true]
     intro t ht
     obtain ⟨i, hi⟩ := List.getElem?_of_mem ht
     exact HA.out i t (by have := (List.getElem?_eq_some_iff.1 hi).1; have := HL.out; omega) hi)
    go_wp2_with fail
    go_ret
    exact ⟨by rw [HALL.out]; rfl, HBR.out⟩

end Go.Proofs.YtgobbecpnjelmaaGreat
