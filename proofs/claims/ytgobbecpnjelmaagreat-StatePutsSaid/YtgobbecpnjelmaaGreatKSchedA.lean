/-
  SchedA: Walks of sched.right, sched.next, sched.Next, sched.upTo, sched.Turns.
-/
import Derived.Test.YtgobbecpnjelmaaGreatJ1a
import Derived.Test.YtgobbecpnjelmaaGreatKItemO
import Derived.Test.YtgobbecpnjelmaaGreatJ0b
namespace Go.Proofs.YtgobbecpnjelmaaGreat
open Go.RowKit

theorem int1 (z : Int) (W : World) (T : TypeId) (b : Nat) (hb : b = W.heap.size) : Ints .i64 (W.alloc (.cells #[.int .i64 z] T)) (.slice (some ⟨b, 0, none⟩) 1 1) [z] := by
 subst hb
 exact Ints.new .i64 W T #[.int .i64 z] [z] 1 1 rfl rfl (by omega) (by omega)

theorem int2 (y z : Int) (W : World) (T : TypeId) (b : Nat) (hb : b = W.heap.size) : Ints .i64 (W.alloc (.cells #[.int .i64 y, .int .i64 z] T)) (.slice (some ⟨b, 0, none⟩) 2 2) [y, z] := by
 subst hb
 exact Ints.new .i64 W T #[.int .i64 y, .int .i64 z] [y, z] 2 2 rfl rfl (by omega) (by omega)

def cntB (n : Int) : Bool := decide (n < 0) || decide (1099511627776 < n)

def rightE (B : Bool) (l : List Int) : Int := if B = false then 200 else if l.any cntB = true then 1 else 0

set_option maxRecDepth 100000 in
set_option maxHeartbeats 4000000 in
theorem srights_any (c0 c1 c2 c3 c4 c5 c6 c7 c8 c9 c10 : Int) (v : Value) (l : List Int) (w : World) (hw : Ok64 c7) (h : Ints .i64 w v l) :
  Calls Tryz.prog 73 #[.agg #[.int .i64 c0, .int .i64 c1, .int .i64 c2, .int .i64 c3, .int .i64 c4, .int .i64 c5, .int .i64 c6, .int .i64 c7, .int .i64 c8, .int .i64 c9, .int .i64 c10], v] w fun e w' => e = .returned (.int .i64 (rightE (confB11 c0 c1 c2 c3 c4 c5 c6 c7 c8 c9 c10) l)) ∧ Below w.heap.size w w' := by
 obtain ⟨B, hB⟩ : ∃ B, confB11 c0 c1 c2 c3 c4 c5 c6 c7 c8 c9 c10 = B := ⟨_, rfl⟩
 have HSR := hH (fun W => hB ▸ sright_any c0 c1 c2 c3 c4 c5 c6 c7 c8 c9 c10 W hw)
 rw [hB]
 clear hB
 have HL := hH h
 obtain ⟨ad, c, rfl, hc1, hc2, _, h⟩ := h
 have H := hH h
 clear h
 cases B with
 | false =>
  go_enter Tryz.func73, Tryz.ntmps73
  go_wp2_with fail
  (with_reducible refine (HSR.out _).mono ?_); rintro e w1 ⟨rfl, b1⟩; have s1 : w.heap.size + 1 ≤ w1.heap.size := sz b1; have B1 := hJ w b1; clear b1
  go_wp2_with fail
  go_ret
  exact ⟨rfl, bx B1.out⟩
 | true =>
  go_enter Tryz.func73, Tryz.ntmps73
  go_wp2_with fail
  (with_reducible refine (HSR.out _).mono ?_); rintro e w1 ⟨rfl, b1⟩; have s1 : w.heap.size + 1 ≤ w1.heap.size := sz b1; have B1 := hJ w b1; clear b1
  go_wp2_with fail
  go_loopw [6, 12] (fun _ i wr => ∃ k : Nat, i = .int .i64 (k : Int) ∧ k ≤ l.length ∧ (l.take k).any cntB = false ∧ w1 = wr) (fun _ i _ => l.length - (intOf i).toNat)
  case atStart => exact ⟨0, rfl, Nat.zero_le _, rfl, rfl⟩
  case round =>
   obtain ⟨k, rfl, hk, hp, rfl⟩ := hrel
   have HP := hH hp
   clear hp
   by_cases hlt : k < l.length
   ·obtain ⟨x, hx⟩ := getElem?_ex hlt
    obtain ⟨b, o, e, hb, hc⟩ := H.out k x hx
    subst e
    have i1 : (0 : Int) ≤ (k : Int) := by omega
    have i2 : (k : Int) < (l.length : Int) := by omega
    have HST := hH (show (l.take (k + 1)).any cntB = cntB x from by rw [any_step hx, HP.out]; rfl)
    have HLT := hH hlt
    have HX := hH (List.mem_of_getElem? hx)
    have hc' : w1.cell? ⟨b, o + k, none⟩ = some (.int .i64 x) := (B1.out.cell (p := ⟨b, _, none⟩) hb).trans hc
    clear hx hlt hc
    by_cases hn : x < 0
    ·have hn2 : ¬ (1099511627776 : Int) < x := by omega
     go_wp2_with fail
     go_ret
     exact ⟨ret_int (by unfold rightE; rw [if_neg (by simp), if_pos (List.any_eq_true.2 ⟨x, HX.out, by unfold cntB; simp [hn]⟩)]), bx B1.out⟩
    ·by_cases hm : (1099511627776 : Int) < x
     ·go_wp2_with fail
      go_ret
      exact ⟨ret_int (by unfold rightE; rw [if_neg (by simp), if_pos (List.any_eq_true.2 ⟨x, HX.out, by unfold cntB; simp [hm]⟩)]), bx B1.out⟩
     ·have HC := hH (show cntB x = false from by unfold cntB; simp [hn, hm])
      have hxm : x ≤ 1099511627776 := by omega
      have hx0 : 0 ≤ x := by omega
      go_wp2_with fail
      go_roundw
      case rel => exact ⟨k + 1, by go_num, by have := HLT.out; omega, by rw [HST.out, HC.out], trivial⟩
      case measure => have := HLT.out; simp [intOf] <;> omega
   ·obtain rfl : k = l.length := by omega
    have HE := hH (show rightE true l = 0 from by have := HP.out; rw [List.take_length] at this; unfold rightE; rw [if_neg (by simp), if_neg (by rw [this]; simp)])
    go_wp2_with fail
    go_ret
    exact ⟨ret_int (by rw [HE.out]), bx B1.out⟩

set_option maxRecDepth 100000 in
set_option maxHeartbeats 4000000 in
theorem snext_any (c0 c1 c2 c3 c4 c5 c6 c7 c8 c9 c10 : Int) (n : Int) (w : World) (h3 : 2 ≤ c3 ∧ c3 ≤ 64) (h4 : 1 ≤ c4 ∧ c4 ≤ 256) (hn : 0 ≤ n ∧ n ≤ 1099511627776) :
  Calls Tryz.prog 74 #[.agg #[.int .i64 c0, .int .i64 c1, .int .i64 c2, .int .i64 c3, .int .i64 c4, .int .i64 c5, .int .i64 c6, .int .i64 c7, .int .i64 c8, .int .i64 c9, .int .i64 c10], .int .i64 n] w fun e w' => e = .returned (.int .i64 (nextV c3 c4 n)) ∧ Below w.heap.size w w' := by
 obtain ⟨M, hM⟩ : ∃ M, max (n + 1) c3 = M := ⟨_, rfl⟩
 obtain ⟨Q, hQ⟩ : ∃ Q, ceilV M c4 = Q := ⟨_, rfl⟩
 have hv : nextV c3 c4 n = Q * c4 := by unfold nextV; rw [hM, hQ]
 obtain ⟨s1, s2, s3, s4, -⟩ := nextV_spec (s := c3) (e := c4) (n := n) h4.1
 rw [hv] at s2 s3 s4
 rw [hv]
 have hce : ceilE c4 = 0 := by unfold ceilE; rw [if_neg (by omega)]
 have HC := hH (fun W => show Calls Tryz.prog 113 #[.int .i64 M, .int .i64 c4] W fun e w' => e = .returned (.tuple #[.int .i64 Q, .int .i64 0]) ∧ W = w' from by
  have := ceil_any M c4 W (by unfold Ok64; omega) (by unfold Ok64; omega)
  rw [hQ, hce] at this
  exact this)
 obtain ⟨P, hP⟩ : ∃ P, Q * c4 = P := ⟨_, rfl⟩
 rw [hP] at s2 s3 s4
 have kw : IntKind.i64.wrap (Q * c4) = P := by rw [hP, IntKind.wrap_i64]; omega
 rw [hP]
 obtain ⟨n1, n2⟩ := hn
 clear s1 s2 s3 s4 hv hQ hce hP
 go_enter Tryz.func74, Tryz.ntmps74
 go_wp2_with fail
 refine (HC.out _).mono ?_
 rintro e w1 ⟨rfl, rfl⟩
 go_wp2_with fail
 go_ret
 exact ⟨rfl, bw⟩

theorem conf_bounds {c0 c1 c2 c3 c4 c5 c6 c7 c8 c9 c10 : Int} (h : confB11 c0 c1 c2 c3 c4 c5 c6 c7 c8 c9 c10 = true) : ((1 ≤ c0 ∧ c0 ≤ 8) ∧ (2 ≤ c1 ∧ c1 ≤ 256) ∧ (1 ≤ c2 ∧ c2 ≤ 16) ∧ (2 ≤ c3 ∧ c3 ≤ 64) ∧ (c3 ≤ c1) ∧ (1 ≤ c4 ∧ c4 ≤ 256) ∧ (1 ≤ c5 ∧ c5 ≤ 2) ∧ (2 ≤ c7 ∧ c7 ≤ 1000) ∧ (1 ≤ c6 ∧ c6 ≤ c7 - 1) ∧ (1 ≤ c8 ∧ c8 ≤ 64) ∧ (1 ≤ c9 ∧ c9 ≤ 64) ∧ (1 ≤ c10 ∧ c10 ≤ 256)) := (confB11_iff c0 c1 c2 c3 c4 c5 c6 c7 c8 c9 c10).1 h

def nextT (B : Bool) (s e n : Int) : Int × Int := if rightE B [n] = 0 then (nextV s e n, 0) else (0, rightE B [n])

def turnsT (B : Bool) (s e n : Int) : Int × Int := if rightE B [n] = 0 then (upToV s e n, 0) else (0, rightE B [n])

theorem rightE_ok {B : Bool} {n : Int} (h : rightE B [n] = 0) : B = true ∧ 0 ≤ n ∧ n ≤ 1099511627776 := by
 unfold rightE at h
 cases B with
 | false => rw [if_pos rfl] at h; omega
 | true =>
  rw [if_neg (by simp)] at h
  split at h
  ·omega
  ·rename_i h2
   simp [cntB] at h2
   exact ⟨rfl, by omega, by omega⟩

theorem rightE_two (B : Bool) (n : Int) : rightE B [0, n] = rightE B [n] := by unfold rightE; simp [cntB]

set_option maxRecDepth 100000 in
set_option maxHeartbeats 4000000 in
theorem sNext_any (c0 c1 c2 c3 c4 c5 c6 c7 c8 c9 c10 : Int) (n : Int) (w : World) (hw : Ok64 c7) :
  Calls Tryz.prog 31 #[.agg #[.int .i64 c0, .int .i64 c1, .int .i64 c2, .int .i64 c3, .int .i64 c4, .int .i64 c5, .int .i64 c6, .int .i64 c7, .int .i64 c8, .int .i64 c9, .int .i64 c10], .int .i64 n] w fun e w' => e = .returned (.tuple #[.int .i64 (nextT (confB11 c0 c1 c2 c3 c4 c5 c6 c7 c8 c9 c10) c3 c4 n).1, .int .i64 (nextT (confB11 c0 c1 c2 c3 c4 c5 c6 c7 c8 c9 c10) c3 c4 n).2]) ∧ Below w.heap.size w w' := by
 have HR := hH (fun W v (h : Ints .i64 W v [n]) => srights_any c0 c1 c2 c3 c4 c5 c6 c7 c8 c9 c10 v [n] W hw h)
 by_cases hE : rightE (confB11 c0 c1 c2 c3 c4 c5 c6 c7 c8 c9 c10) [n] = 0
 ·obtain ⟨q1, q2, q3⟩ := rightE_ok hE
  obtain ⟨_, _, _, b3, _, b4, _⟩ := conf_bounds q1
  have HN := hH (fun W => snext_any c0 c1 c2 c3 c4 c5 c6 c7 c8 c9 c10 n W b3 b4 ⟨q2, q3⟩)
  have HT := hH (show nextT (confB11 c0 c1 c2 c3 c4 c5 c6 c7 c8 c9 c10) c3 c4 n = (nextV c3 c4 n, 0) from by unfold nextT; rw [if_pos hE])
  rw [hE] at HR
  clear hE q1 q2 q3 b3 b4
  go_enter Tryz.func31, Tryz.ntmps31
  go_wp2_with fail
  (with_reducible refine (HR.out _ _ (int1 _ _ _ _ (by simp))).mono ?_); rintro e w1 ⟨rfl, b1⟩; have s1 : w.heap.size + 1 + 1 ≤ w1.heap.size := sz b1; have B1 := hJ w b1; obtain ⟨c1_0, c1_1, c1_2, c1_3, c1_4, c1_5, c1_6, c1_7, c1_8, c1_9, c1_10⟩ := k11 (w.heap.size) (.int .i64 c0) (.int .i64 c1) (.int .i64 c2) (.int .i64 c3) (.int .i64 c4) (.int .i64 c5) (.int .i64 c6) (.int .i64 c7) (.int .i64 c8) (.int .i64 c9) (.int .i64 c10) b1 aJ; obtain ⟨l1_0, n1_0, m1_0⟩ := lnm (show w.heap.size < w1.heap.size by omega); clear b1
  go_wp2_with fail
  (with_reducible refine (HN.out _).mono ?_); rintro e w2 ⟨rfl, b2⟩; have s2 : w1.heap.size ≤ w2.heap.size := sz b2; have B2 := bJ B1.out b2; clear b2
  go_wp2_with fail
  exact bodyPost_ret (v := .tuple #[.int .i64 (nextV c3 c4 n), .int .i64 0]) (by simp [results, Tryz.results31, go_sem, *]) rfl (by rw [HT.out]; exact ⟨rfl, bx B2.out⟩)
 ·obtain ⟨E, hE2⟩ : ∃ E, rightE (confB11 c0 c1 c2 c3 c4 c5 c6 c7 c8 c9 c10) [n] = E := ⟨_, rfl⟩
  have HT := hH (show nextT (confB11 c0 c1 c2 c3 c4 c5 c6 c7 c8 c9 c10) c3 c4 n = (0, E) from by unfold nextT; rw [if_neg hE, hE2])
  rw [hE2] at HR hE
  have je : (E != 0) = true := by simp [hE]
  clear hE2 hE
  go_enter Tryz.func31, Tryz.ntmps31
  go_wp2_with fail
  (with_reducible refine (HR.out _ _ (int1 _ _ _ _ (by simp))).mono ?_); rintro e w1 ⟨rfl, b1⟩; have s1 : w.heap.size + 1 + 1 ≤ w1.heap.size := sz b1; have B1 := hJ w b1; clear b1
  go_wp2_with fail
  exact bodyPost_ret (v := .tuple #[.int .i64 0, .int .i64 E]) (by simp [results, Tryz.results31, go_sem, *]) rfl (by rw [HT.out]; exact ⟨rfl, bx B1.out⟩)

set_option maxRecDepth 100000 in
set_option maxHeartbeats 4000000 in
theorem supTo_any (c0 c1 c2 c3 c4 c5 c6 c7 c8 c9 c10 : Int) (n : Int) (w : World) (h3 : 2 ≤ c3 ∧ c3 ≤ 64) (h4 : 1 ≤ c4 ∧ c4 ≤ 256) (hn : 0 ≤ n ∧ n ≤ 1099511627776) :
  Calls Tryz.prog 86 #[.agg #[.int .i64 c0, .int .i64 c1, .int .i64 c2, .int .i64 c3, .int .i64 c4, .int .i64 c5, .int .i64 c6, .int .i64 c7, .int .i64 c8, .int .i64 c9, .int .i64 c10], .int .i64 n] w fun e w' => e = .returned (.int .i64 (upToV c3 c4 n)) ∧ Below w.heap.size w w' := by
 obtain ⟨s1, s2, s3, s4, -⟩ := nextV_spec (s := c3) (e := c4) (n := 0) h4.1
 have HN := hH (fun W => snext_any c0 c1 c2 c3 c4 c5 c6 c7 c8 c9 c10 0 W h3 h4 (by omega))
 have HU := hH (show upToV c3 c4 n = if n < nextV c3 c4 0 then 0 else (n - nextV c3 c4 0) / c4 + 1 from rfl)
 obtain ⟨F, hF⟩ : ∃ F, nextV c3 c4 0 = F := ⟨_, rfl⟩
 rw [hF] at s2 s3 s4 HN HU
 clear s1 hF
 by_cases hlt : n < F
 ·go_enter Tryz.func86, Tryz.ntmps86
  go_wp2_with fail
  (with_reducible refine (HN.out _).mono ?_); rintro e w1 ⟨rfl, b1⟩; have s1 : w.heap.size + 1 ≤ w1.heap.size := sz b1; have B1 := hJ w b1; obtain ⟨c1_0, c1_1, c1_2, c1_3, c1_4, c1_5, c1_6, c1_7, c1_8, c1_9, c1_10⟩ := k11 (w.heap.size) (.int .i64 c0) (.int .i64 c1) (.int .i64 c2) (.int .i64 c3) (.int .i64 c4) (.int .i64 c5) (.int .i64 c6) (.int .i64 c7) (.int .i64 c8) (.int .i64 c9) (.int .i64 c10) b1 aJ; obtain ⟨l1_0, n1_0, m1_0⟩ := lnm (show w.heap.size < w1.heap.size by omega); clear b1
  go_wp2_with fail
  go_ret
  exact ⟨ret_int (by rw [HU.out, if_pos hlt]), bx B1.out⟩
 ·have hq : (n - F).tdiv c4 = (n - F) / c4 := Int.tdiv_eq_ediv_of_nonneg (by omega)
  have hq1 : 0 ≤ (n - F) / c4 := Int.ediv_nonneg (by omega) (by omega)
  have hq2 : (n - F) / c4 ≤ n - F := Int.ediv_le_self _ (by omega)
  obtain ⟨Q, hQ⟩ : ∃ Q, (n - F) / c4 = Q := ⟨_, rfl⟩
  rw [hQ] at hq hq1 hq2 HU
  have h40 : ¬ c4 = 0 := by omega
  have h41 : ¬ c4 = -1 := by omega
  clear hQ
  go_enter Tryz.func86, Tryz.ntmps86
  go_wp2_with fail
  (with_reducible refine (HN.out _).mono ?_); rintro e w1 ⟨rfl, b1⟩; have s1 : w.heap.size + 1 ≤ w1.heap.size := sz b1; have B1 := hJ w b1; obtain ⟨c1_0, c1_1, c1_2, c1_3, c1_4, c1_5, c1_6, c1_7, c1_8, c1_9, c1_10⟩ := k11 (w.heap.size) (.int .i64 c0) (.int .i64 c1) (.int .i64 c2) (.int .i64 c3) (.int .i64 c4) (.int .i64 c5) (.int .i64 c6) (.int .i64 c7) (.int .i64 c8) (.int .i64 c9) (.int .i64 c10) b1 aJ; obtain ⟨l1_0, n1_0, m1_0⟩ := lnm (show w.heap.size < w1.heap.size by omega); clear b1
  go_wp2_with fail
  go_ret
  exact ⟨ret_int (by rw [HU.out, if_neg (by omega)]), bx B1.out⟩

set_option maxRecDepth 100000 in
set_option maxHeartbeats 4000000 in
theorem sTurns_any (c0 c1 c2 c3 c4 c5 c6 c7 c8 c9 c10 : Int) (n : Int) (w : World) (hw : Ok64 c7) :
  Calls Tryz.prog 46 #[.agg #[.int .i64 c0, .int .i64 c1, .int .i64 c2, .int .i64 c3, .int .i64 c4, .int .i64 c5, .int .i64 c6, .int .i64 c7, .int .i64 c8, .int .i64 c9, .int .i64 c10], .int .i64 0, .int .i64 n] w fun e w' => e = .returned (.tuple #[.int .i64 (turnsT (confB11 c0 c1 c2 c3 c4 c5 c6 c7 c8 c9 c10) c3 c4 n).1, .int .i64 (turnsT (confB11 c0 c1 c2 c3 c4 c5 c6 c7 c8 c9 c10) c3 c4 n).2]) ∧ Below w.heap.size w w' := by
 have HR := hH (fun W v (h : Ints .i64 W v [0, n]) => rightE_two (confB11 c0 c1 c2 c3 c4 c5 c6 c7 c8 c9 c10) n ▸ srights_any c0 c1 c2 c3 c4 c5 c6 c7 c8 c9 c10 v [0, n] W hw h)
 by_cases hE : rightE (confB11 c0 c1 c2 c3 c4 c5 c6 c7 c8 c9 c10) [n] = 0
 ·obtain ⟨q1, q2, q3⟩ := rightE_ok hE
  obtain ⟨_, _, _, b3, _, b4, _⟩ := conf_bounds q1
  have hT : turnsT (confB11 c0 c1 c2 c3 c4 c5 c6 c7 c8 c9 c10) c3 c4 n = (upToV c3 c4 n, 0) := by unfold turnsT; rw [if_pos hE]
  have hU := upToV_nn (s := c3) (e := c4) (n := n) b4.1
  have HU := hH (fun W => supTo_any c0 c1 c2 c3 c4 c5 c6 c7 c8 c9 c10 n W b3 b4 ⟨q2, q3⟩)
  have HZ := hH (fun W => upToV_zero (s := c3) (e := c4) b4.1 ▸ supTo_any c0 c1 c2 c3 c4 c5 c6 c7 c8 c9 c10 0 W b3 b4 (by omega))
  rw [hE] at HR
  obtain ⟨U, hU2⟩ : ∃ U, upToV c3 c4 n = U := ⟨_, rfl⟩
  rw [hU2] at hT hU HU
  have HT := hH hT
  have hmx : max 0 U = U := by omega
  obtain ⟨u1, u2⟩ := hU
  have u3 : U ≤ 1099511627776 := by omega
  have kwU : IntKind.i64.wrap U = U := by rw [IntKind.wrap_i64]; omega
  clear hE q1 q2 q3 b3 b4 hT hU2 u2
  go_enter Tryz.func46, Tryz.ntmps46
  go_wp2_with fail
  (with_reducible refine (HR.out _ _ (int2 _ _ _ _ _ (by simp))).mono ?_); rintro e w1 ⟨rfl, b1⟩; have s1 : w.heap.size + 1 + 1 ≤ w1.heap.size := sz b1; have B1 := hJ w b1; obtain ⟨c1_0, c1_1, c1_2, c1_3, c1_4, c1_5, c1_6, c1_7, c1_8, c1_9, c1_10⟩ := k11 (w.heap.size) (.int .i64 c0) (.int .i64 c1) (.int .i64 c2) (.int .i64 c3) (.int .i64 c4) (.int .i64 c5) (.int .i64 c6) (.int .i64 c7) (.int .i64 c8) (.int .i64 c9) (.int .i64 c10) b1 aJ; obtain ⟨l1_0, n1_0, m1_0⟩ := lnm (show w.heap.size < w1.heap.size by omega); clear b1
  go_wp2_with fail
  refine wp_region_held_drew (S := fun w' => w'.cell? ⟨w.heap.size, 0, none⟩ = some (.int .i64 c0) ∧ w'.cell? ⟨w.heap.size, 1, none⟩ = some (.int .i64 c1) ∧ w'.cell? ⟨w.heap.size, 2, none⟩ = some (.int .i64 c2) ∧ w'.cell? ⟨w.heap.size, 3, none⟩ = some (.int .i64 c3) ∧ w'.cell? ⟨w.heap.size, 4, none⟩ = some (.int .i64 c4) ∧ w'.cell? ⟨w.heap.size, 5, none⟩ = some (.int .i64 c5) ∧ w'.cell? ⟨w.heap.size, 6, none⟩ = some (.int .i64 c6) ∧ w'.cell? ⟨w.heap.size, 7, none⟩ = some (.int .i64 c7) ∧ w'.cell? ⟨w.heap.size, 8, none⟩ = some (.int .i64 c8) ∧ w'.cell? ⟨w.heap.size, 9, none⟩ = some (.int .i64 c9) ∧ w'.cell? ⟨w.heap.size, 10, none⟩ = some (.int .i64 c10)) rJ kJ (fun hHeld => ?_); refine lJ 0 hHeld ?_; refine lJ 1 hHeld ?_; refine lJ 3 hHeld ?_; refine lJ 4 hHeld ?_; refine lexHv 2 rfl ?_ rJ; (intro K hK); (go_simp; go_at_call 86; (with_reducible refine (HU.out _).mono ?_); rintro e w2 ⟨rfl, b2⟩; have s2 : w1.heap.size ≤ w2.heap.size := sz b2; have B2 := bJ B1.out b2; obtain ⟨c2_0, c2_1, c2_2, c2_3, c2_4, c2_5, c2_6, c2_7, c2_8, c2_9, c2_10⟩ := k11 (w.heap.size) (.int .i64 c0) (.int .i64 c1) (.int .i64 c2) (.int .i64 c3) (.int .i64 c4) (.int .i64 c5) (.int .i64 c6) (.int .i64 c7) (.int .i64 c8) (.int .i64 c9) (.int .i64 c10) b2 aJ; obtain ⟨l2_0, n2_0, m2_0⟩ := lnm (show w.heap.size < w2.heap.size by omega); clear b2; (try go_wp2_with fail)); clear hHeld; refine pJ hK fun hHeld => ?_; clear hK K; refine lexHv 5 rfl ?_ rJ; (intro K hK); (go_simp; go_at_call 86; (with_reducible refine (HZ.out _).mono ?_); rintro e w3 ⟨rfl, b3⟩; have s3 : w2.heap.size ≤ w3.heap.size := sz b3; have B3 := bJ B2.out b3; obtain ⟨c3_0, c3_1, c3_2, c3_3, c3_4, c3_5, c3_6, c3_7, c3_8, c3_9, c3_10⟩ := k11 (w.heap.size) (.int .i64 c0) (.int .i64 c1) (.int .i64 c2) (.int .i64 c3) (.int .i64 c4) (.int .i64 c5) (.int .i64 c6) (.int .i64 c7) (.int .i64 c8) (.int .i64 c9) (.int .i64 c10) b3 aJ; obtain ⟨l3_0, n3_0, m3_0⟩ := lnm (show w.heap.size < w3.heap.size by omega); clear b3; (try go_wp2_with fail)); clear hHeld; refine pJ hK fun hHeld => ?_; clear hK K; refine lJ 6 hHeld ?_; refine lJ 7 hHeld ?_; refine lJ 8 hHeld ?_; refine lJ 9 hHeld ?_; refine wpAnyH_done rJ ?_ _
  go_wp2_with fail
  exact bodyPost_ret (v := .tuple #[.int .i64 U, .int .i64 0]) (by simp [results, Tryz.results46, go_sem, *]) rfl (by rw [HT.out]; exact ⟨rfl, bx B3.out⟩)
 ·obtain ⟨E, hE2⟩ : ∃ E, rightE (confB11 c0 c1 c2 c3 c4 c5 c6 c7 c8 c9 c10) [n] = E := ⟨_, rfl⟩
  have HT := hH (show turnsT (confB11 c0 c1 c2 c3 c4 c5 c6 c7 c8 c9 c10) c3 c4 n = (0, E) from by unfold turnsT; rw [if_neg hE, hE2])
  rw [hE2] at HR hE
  have je : (E != 0) = true := by simp [hE]
  clear hE2 hE
  go_enter Tryz.func46, Tryz.ntmps46
  go_wp2_with fail
  (with_reducible refine (HR.out _ _ (int2 _ _ _ _ _ (by simp))).mono ?_); rintro e w1 ⟨rfl, b1⟩; have s1 : w.heap.size + 1 + 1 ≤ w1.heap.size := sz b1; have B1 := hJ w b1; clear b1
  go_wp2_with fail
  exact bodyPost_ret (v := .tuple #[.int .i64 0, .int .i64 E]) (by simp [results, Tryz.results46, go_sem, *]) rfl (by rw [HT.out]; exact ⟨rfl, bx B1.out⟩)
end Go.Proofs.YtgobbecpnjelmaaGreat
