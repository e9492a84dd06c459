/-
  ItemT: Which way to work any bytes are: plain; walks of item.checked (a way to work) and item.GetConf.
-/
import Derived.Test.YtgobbecpnjelmaaGreatJ1a
import Derived.Test.YtgobbecpnjelmaaGreatKItemG
import Derived.Test.YtgobbecpnjelmaaGreatKItemL
namespace Go.Proofs.YtgobbecpnjelmaaGreat
open Go.RowKit

theorem rdN'_most {l : List Int} (hb : AllB l) (a : Nat) (e : Int) : ((rdN' l a e 1099511627776).1 : Int) ≤ 1099511627776 := by
 have hf := rdN'_facts l hb a e 1099511627776
 by_cases h : (rdN' l a e 1099511627776).2.2 = 0
 ·exact (hf.2 h).2.2
 ·rw [(hf.1 h).1]; decide

set_option maxRecDepth 100000 in
set_option maxHeartbeats 4000000 in
theorem checkedC_any {w : World} {R : Nat} {v : Value} {l : List Int} {a : Nat} {e0 : Int} (h : Rd w R v l a e0) (c0 c1 c2 c3 c4 c5 c6 c7 c8 c9 c10 : Int) (B : Bool) (hr : ∀ W, Calls Tryz.prog 30 #[.agg #[.int .i64 c0, .int .i64 c1, .int .i64 c2, .int .i64 c3, .int .i64 c4, .int .i64 c5, .int .i64 c6, .int .i64 c7, .int .i64 c8, .int .i64 c9, .int .i64 c10]] W fun e w' => e = .returned (.bool B) ∧ Below W.heap.size W w') :
  Calls Tryz.prog 99 #[.pointer (some ⟨R, 0, none⟩), .agg #[.int .i64 c0, .int .i64 c1, .int .i64 c2, .int .i64 c3, .int .i64 c4, .int .i64 c5, .int .i64 c6, .int .i64 c7, .int .i64 c8, .int .i64 c9, .int .i64 c10], .func (.func 30) #[] #[]] w fun e w' => e = .returned (if finE e0 B = 0 then .agg #[.int .i64 c0, .int .i64 c1, .int .i64 c2, .int .i64 c3, .int .i64 c4, .int .i64 c5, .int .i64 c6, .int .i64 c7, .int .i64 c8, .int .i64 c9, .int .i64 c10] else .agg #[.int .i64 0, .int .i64 0, .int .i64 0, .int .i64 0, .int .i64 0, .int .i64 0, .int .i64 0, .int .i64 0, .int .i64 0, .int .i64 0, .int .i64 0]) ∧ RdTo w R v l w' a (finE e0 B) := by
 have H := hH h
 have hR := h.lt
 have HR := hH hr
 clear h hr
 by_cases he : e0 = 0
 ·subst he
  cases B with
  | true =>
   rw [show finE 0 true = 0 from rfl, if_pos rfl]
   go_enter Tryz.func99, Tryz.ntmps99
   go_wp2_with fail
   refine (err_any (H.out.below bw)).mono ?_
   rintro e w1 ⟨rfl, rfl⟩
   go_wp2_with fail
   (with_reducible refine (HR.out _).mono ?_); rintro e w1 ⟨rfl, b1⟩; have s1 : w.heap.size + 1 + 1 + 1 ≤ w1.heap.size := sz b1; have B1 := hJ w b1; obtain ⟨c1_0, c1_1, c1_2, c1_3, c1_4, c1_5, c1_6, c1_7, c1_8, c1_9, c1_10⟩ := k11 (w.heap.size) (.int .i64 c0) (.int .i64 c1) (.int .i64 c2) (.int .i64 c3) (.int .i64 c4) (.int .i64 c5) (.int .i64 c6) (.int .i64 c7) (.int .i64 c8) (.int .i64 c9) (.int .i64 c10) b1 aJ; obtain ⟨c1_11, f1_11, c1_12, f1_12, c1_13, f1_13, c1_14, f1_14, c1_15, f1_15, c1_16, f1_16, c1_17, f1_17, c1_18, f1_18, c1_19, f1_19, c1_20, f1_20, c1_21, f1_21⟩ := k11f (w.heap.size + 1) (.int .i64 0) (.int .i64 0) (.int .i64 0) (.int .i64 0) (.int .i64 0) (.int .i64 0) (.int .i64 0) (.int .i64 0) (.int .i64 0) (.int .i64 0) (.int .i64 0) b1 aJ; obtain ⟨l1_0, n1_0, m1_0⟩ := lnm (show w.heap.size < w1.heap.size by omega); obtain ⟨l1_1, n1_1, m1_1⟩ := lnm (show w.heap.size + 1 < w1.heap.size by omega); clear b1
   go_wp2_with fail
   refine (err_any (H.out.below (show Below w.heap.size w _ from bx B1.out))).mono ?_
   rintro e w2 ⟨rfl, rfl⟩
   go_wp2_with fail
   exact bodyPost_ret (v := .agg #[.int .i64 c0, .int .i64 c1, .int .i64 c2, .int .i64 c3, .int .i64 c4, .int .i64 c5, .int .i64 c6, .int .i64 c7, .int .i64 c8, .int .i64 c9, .int .i64 c10]) (by simp [results, Tryz.results99, go_sem, *]) rfl ⟨rfl, RdTo.belowB H.out (RdTo.refl H.out) (bx B1.out)⟩
  | false =>
   rw [show finE 0 false = 211 from rfl, if_neg (by decide)]
   go_enter Tryz.func99, Tryz.ntmps99
   go_wp2_with fail
   refine (err_any (H.out.below bw)).mono ?_
   rintro e w1 ⟨rfl, rfl⟩
   go_wp2_with fail
   (with_reducible refine (HR.out _).mono ?_); rintro e w1 ⟨rfl, b1⟩; have s1 : w.heap.size + 1 + 1 + 1 ≤ w1.heap.size := sz b1; have B1 := hJ w b1; obtain ⟨c1_0, c1_1, c1_2, c1_3, c1_4, c1_5, c1_6, c1_7, c1_8, c1_9, c1_10⟩ := k11 (w.heap.size + 2) (.int .i64 0) (.int .i64 0) (.int .i64 0) (.int .i64 0) (.int .i64 0) (.int .i64 0) (.int .i64 0) (.int .i64 0) (.int .i64 0) (.int .i64 0) (.int .i64 0) b1 aJ; obtain ⟨c1_11, f1_11, c1_12, f1_12, c1_13, f1_13, c1_14, f1_14, c1_15, f1_15, c1_16, f1_16, c1_17, f1_17, c1_18, f1_18, c1_19, f1_19, c1_20, f1_20, c1_21, f1_21⟩ := k11f (w.heap.size + 1) (.int .i64 0) (.int .i64 0) (.int .i64 0) (.int .i64 0) (.int .i64 0) (.int .i64 0) (.int .i64 0) (.int .i64 0) (.int .i64 0) (.int .i64 0) (.int .i64 0) b1 aJ; obtain ⟨l1_0, n1_0, m1_0⟩ := lnm (show w.heap.size + 2 < w1.heap.size by omega); obtain ⟨l1_1, n1_1, m1_1⟩ := lnm (show w.heap.size + 1 < w1.heap.size by omega); clear b1
   go_wp2_with fail
   refine (fail_any (H.out.below (show Below w.heap.size w _ from bx B1.out)) 211).mono ?_
   rintro e w2 ⟨rfl, hr2⟩
   rw [show failE 0 211 = 211 from rfl] at hr2
   have hg := hr2.2
   have HR2 := hH (RdTo.from (w := w) (show Below w.heap.size w _ from bx B1.out) hr2)
   have hsz : w1.heap.size ≤ w2.heap.size := hg.size
   have z0 := (only_cell hg (w.heap.size + 2) 0 (by omega) (by omega)).trans c1_0
   have y0 := (only_cell hg (w.heap.size + 1) 0 (by omega) (by omega)).trans c1_11
   have x0 := (only_frozen hg (w.heap.size + 1) 0 (by omega) (by omega)).trans f1_11
   have z1 := (only_cell hg (w.heap.size + 2) 1 (by omega) (by omega)).trans c1_1
   have y1 := (only_cell hg (w.heap.size + 1) 1 (by omega) (by omega)).trans c1_12
   have x1 := (only_frozen hg (w.heap.size + 1) 1 (by omega) (by omega)).trans f1_12
   have z2 := (only_cell hg (w.heap.size + 2) 2 (by omega) (by omega)).trans c1_2
   have y2 := (only_cell hg (w.heap.size + 1) 2 (by omega) (by omega)).trans c1_13
   have x2 := (only_frozen hg (w.heap.size + 1) 2 (by omega) (by omega)).trans f1_13
   have z3 := (only_cell hg (w.heap.size + 2) 3 (by omega) (by omega)).trans c1_3
   have y3 := (only_cell hg (w.heap.size + 1) 3 (by omega) (by omega)).trans c1_14
   have x3 := (only_frozen hg (w.heap.size + 1) 3 (by omega) (by omega)).trans f1_14
   have z4 := (only_cell hg (w.heap.size + 2) 4 (by omega) (by omega)).trans c1_4
   have y4 := (only_cell hg (w.heap.size + 1) 4 (by omega) (by omega)).trans c1_15
   have x4 := (only_frozen hg (w.heap.size + 1) 4 (by omega) (by omega)).trans f1_15
   have z5 := (only_cell hg (w.heap.size + 2) 5 (by omega) (by omega)).trans c1_5
   have y5 := (only_cell hg (w.heap.size + 1) 5 (by omega) (by omega)).trans c1_16
   have x5 := (only_frozen hg (w.heap.size + 1) 5 (by omega) (by omega)).trans f1_16
   have z6 := (only_cell hg (w.heap.size + 2) 6 (by omega) (by omega)).trans c1_6
   have y6 := (only_cell hg (w.heap.size + 1) 6 (by omega) (by omega)).trans c1_17
   have x6 := (only_frozen hg (w.heap.size + 1) 6 (by omega) (by omega)).trans f1_17
   have z7 := (only_cell hg (w.heap.size + 2) 7 (by omega) (by omega)).trans c1_7
   have y7 := (only_cell hg (w.heap.size + 1) 7 (by omega) (by omega)).trans c1_18
   have x7 := (only_frozen hg (w.heap.size + 1) 7 (by omega) (by omega)).trans f1_18
   have z8 := (only_cell hg (w.heap.size + 2) 8 (by omega) (by omega)).trans c1_8
   have y8 := (only_cell hg (w.heap.size + 1) 8 (by omega) (by omega)).trans c1_19
   have x8 := (only_frozen hg (w.heap.size + 1) 8 (by omega) (by omega)).trans f1_19
   have z9 := (only_cell hg (w.heap.size + 2) 9 (by omega) (by omega)).trans c1_9
   have y9 := (only_cell hg (w.heap.size + 1) 9 (by omega) (by omega)).trans c1_20
   have x9 := (only_frozen hg (w.heap.size + 1) 9 (by omega) (by omega)).trans f1_20
   have z10 := (only_cell hg (w.heap.size + 2) 10 (by omega) (by omega)).trans c1_10
   have y10 := (only_cell hg (w.heap.size + 1) 10 (by omega) (by omega)).trans c1_21
   have x10 := (only_frozen hg (w.heap.size + 1) 10 (by omega) (by omega)).trans f1_21
   clear hr2 hg
   go_wp2_with fail
   refine (err_any HR2.out.1).mono ?_
   rintro e w3 ⟨rfl, rfl⟩
   go_wp2_with fail
   exact bodyPost_ret (v := .agg #[.int .i64 0, .int .i64 0, .int .i64 0, .int .i64 0, .int .i64 0, .int .i64 0, .int .i64 0, .int .i64 0, .int .i64 0, .int .i64 0, .int .i64 0]) (by simp [results, Tryz.results99, go_sem, *]) rfl ⟨rfl, RdTo.belowB H.out HR2.out bw⟩
 ·have j1 : (e0 == 0) = false := by simpa using he
  have j2 : (e0 != 0) = true := by simpa using he
  have e1 : finE e0 B = e0 := if_neg he
  rw [e1, if_neg he]
  clear e1 he
  go_enter Tryz.func99, Tryz.ntmps99
  go_wp2_with fail
  refine (err_any (H.out.below bw)).mono ?_
  rintro e w1 ⟨rfl, rfl⟩
  go_wp2_with fail
  refine (err_any (H.out.below bw)).mono ?_
  rintro e w2 ⟨rfl, rfl⟩
  go_wp2_with fail
  exact bodyPost_ret (v := .agg #[.int .i64 0, .int .i64 0, .int .i64 0, .int .i64 0, .int .i64 0, .int .i64 0, .int .i64 0, .int .i64 0, .int .i64 0, .int .i64 0, .int .i64 0]) (by simp [results, Tryz.results99, go_sem, *]) rfl ⟨rfl, RdTo.belowB H.out (RdTo.refl H.out) bw⟩

theorem checkedC_val {w : World} {R : Nat} {v : Value} {l : List Int} {a : Nat} {e0 : Int} (h : Rd w R v l a e0) (c0 c1 c2 c3 c4 c5 c6 c7 c8 c9 c10 : Int) (hw : Ok64 c7) (E : Int) (hE : E = finE e0 (confB11 c0 c1 c2 c3 c4 c5 c6 c7 c8 c9 c10)) :
  Calls Tryz.prog 99 #[.pointer (some ⟨R, 0, none⟩), .agg #[.int .i64 c0, .int .i64 c1, .int .i64 c2, .int .i64 c3, .int .i64 c4, .int .i64 c5, .int .i64 c6, .int .i64 c7, .int .i64 c8, .int .i64 c9, .int .i64 c10], .func (.func 30) #[] #[]] w fun e w' => ∃ val, e = .returned val ∧ (E = 0 → val = .agg #[.int .i64 c0, .int .i64 c1, .int .i64 c2, .int .i64 c3, .int .i64 c4, .int .i64 c5, .int .i64 c6, .int .i64 c7, .int .i64 c8, .int .i64 c9, .int .i64 c10]) ∧ (E ≠ 0 → val = .agg #[.int .i64 0, .int .i64 0, .int .i64 0, .int .i64 0, .int .i64 0, .int .i64 0, .int .i64 0, .int .i64 0, .int .i64 0, .int .i64 0, .int .i64 0]) ∧ RdTo w R v l w' a E := by
 subst hE
 refine (checkedC_any h c0 c1 c2 c3 c4 c5 c6 c7 c8 c9 c10 _ (fun W => sright_any c0 c1 c2 c3 c4 c5 c6 c7 c8 c9 c10 W hw)).mono ?_
 rintro e w' ⟨rfl, r⟩
 exact ⟨_, rfl, fun h0 => if_pos h0, fun h0 => if_neg h0, r⟩

theorem confN_any {w : World} {R B : Nat} {v : Value} {l : List Int} {a : Nat} {e0 : Int} (hb : AllB l) (ha : a ≤ l.length) (hl : l.length ≤ 100000) (n a' : Nat) (e' : Int) (hr : rdN' l a e0 1099511627776 = (n, a', e')) (h : Rd w R v l a e0) (hc : w.cell? ⟨B, 0, none⟩ = some (.pointer (some ⟨R, 0, none⟩))) :
  Calls Tryz.prog 98 #[.pointer (some ⟨B, 0, none⟩)] w fun e w' => e = .returned (.int .i64 n) ∧ RdTo w R v l w' a' e' := by
 have HN := hH (rdN_call hb ha hl 1099511627776 (by decide) n a' e' hr h)
 clear hb ha hl hr h
 go_enter Tryz.func98, Tryz.ntmps98
 go_wp2_with fail
 (with_reducible refine HN.out.mono ?_)
 rintro e w1 ⟨rfl, r1⟩
 go_wp2_with fail
 go_ret
 exact ⟨rfl, r1⟩

set_option maxRecDepth 100000 in
set_option maxHeartbeats 16000000 in
theorem getConf_any {w : World} {R : Nat} {v : Value} {l : List Int} {a : Nat} {e0 : Int} (h : Rd w R v l a e0) (hb : AllB l) (ha : a ≤ l.length) (hl : l.length ≤ 100000) (n1 a1 : Nat) (e1 : Int) (n2 a2 : Nat) (e2 : Int) (n3 a3 : Nat) (e3 : Int) (n4 a4 : Nat) (e4 : Int) (n5 a5 : Nat) (e5 : Int) (n6 a6 : Nat) (e6 : Int) (n7 a7 : Nat) (e7 : Int) (n8 a8 : Nat) (e8 : Int) (n9 a9 : Nat) (e9 : Int) (n10 a10 : Nat) (e10 : Int) (n11 a11 : Nat) (e11 : Int) (h1 : rdN' l a e0 1099511627776 = (n1, a1, e1)) (h2 : rdN' l a1 e1 1099511627776 = (n2, a2, e2)) (h3 : rdN' l a2 e2 1099511627776 = (n3, a3, e3)) (h4 : rdN' l a3 e3 1099511627776 = (n4, a4, e4)) (h5 : rdN' l a4 e4 1099511627776 = (n5, a5, e5)) (h6 : rdN' l a5 e5 1099511627776 = (n6, a6, e6)) (h7 : rdN' l a6 e6 1099511627776 = (n7, a7, e7)) (h8 : rdN' l a7 e7 1099511627776 = (n8, a8, e8)) (h9 : rdN' l a8 e8 1099511627776 = (n9, a9, e9)) (h10 : rdN' l a9 e9 1099511627776 = (n10, a10, e10)) (h11 : rdN' l a10 e10 1099511627776 = (n11, a11, e11)) (E : Int) (hE : E = finE e11 (confB11 n1 n2 n3 n4 n5 n6 n7 n8 n9 n10 n11)) :
  Calls Tryz.prog 60 #[.pointer (some ⟨R, 0, none⟩)] w fun e w' => ∃ val, e = .returned val ∧ (E = 0 → val = .agg #[.int .i64 n1, .int .i64 n2, .int .i64 n3, .int .i64 n4, .int .i64 n5, .int .i64 n6, .int .i64 n7, .int .i64 n8, .int .i64 n9, .int .i64 n10, .int .i64 n11]) ∧ (E ≠ 0 → val = .agg #[.int .i64 0, .int .i64 0, .int .i64 0, .int .i64 0, .int .i64 0, .int .i64 0, .int .i64 0, .int .i64 0, .int .i64 0, .int .i64 0, .int .i64 0]) ∧ RdTo w R v l w' a11 E := by
 have H := hH h
 have hR := h.lt
 have H1 := hH (fun W B (hW : Rd W R v l a e0) hc => confN_any (w := W) (B := B) hb ha hl _ _ _ h1 hW hc)
 have l1 := rdN'_le hb ha e0 1099511627776
 rw [h1] at l1
 have H2 := hH (fun W B (hW : Rd W R v l a1 e1) hc => confN_any (w := W) (B := B) hb l1 hl _ _ _ h2 hW hc)
 have l2 := rdN'_le hb l1 e1 1099511627776
 rw [h2] at l2
 have H3 := hH (fun W B (hW : Rd W R v l a2 e2) hc => confN_any (w := W) (B := B) hb l2 hl _ _ _ h3 hW hc)
 have l3 := rdN'_le hb l2 e2 1099511627776
 rw [h3] at l3
 have H4 := hH (fun W B (hW : Rd W R v l a3 e3) hc => confN_any (w := W) (B := B) hb l3 hl _ _ _ h4 hW hc)
 have l4 := rdN'_le hb l3 e3 1099511627776
 rw [h4] at l4
 have H5 := hH (fun W B (hW : Rd W R v l a4 e4) hc => confN_any (w := W) (B := B) hb l4 hl _ _ _ h5 hW hc)
 have l5 := rdN'_le hb l4 e4 1099511627776
 rw [h5] at l5
 have H6 := hH (fun W B (hW : Rd W R v l a5 e5) hc => confN_any (w := W) (B := B) hb l5 hl _ _ _ h6 hW hc)
 have l6 := rdN'_le hb l5 e5 1099511627776
 rw [h6] at l6
 have H7 := hH (fun W B (hW : Rd W R v l a6 e6) hc => confN_any (w := W) (B := B) hb l6 hl _ _ _ h7 hW hc)
 have l7 := rdN'_le hb l6 e6 1099511627776
 rw [h7] at l7
 have H8 := hH (fun W B (hW : Rd W R v l a7 e7) hc => confN_any (w := W) (B := B) hb l7 hl _ _ _ h8 hW hc)
 have l8 := rdN'_le hb l7 e7 1099511627776
 rw [h8] at l8
 have hw8 := rdN'_most hb a7 e7
 rw [h8] at hw8
 have H9 := hH (fun W B (hW : Rd W R v l a8 e8) hc => confN_any (w := W) (B := B) hb l8 hl _ _ _ h9 hW hc)
 have l9 := rdN'_le hb l8 e8 1099511627776
 rw [h9] at l9
 have H10 := hH (fun W B (hW : Rd W R v l a9 e9) hc => confN_any (w := W) (B := B) hb l9 hl _ _ _ h10 hW hc)
 have l10 := rdN'_le hb l9 e9 1099511627776
 rw [h10] at l10
 have H11 := hH (fun W B (hW : Rd W R v l a10 e10) hc => confN_any (w := W) (B := B) hb l10 hl _ _ _ h11 hW hc)
 have l11 := rdN'_le hb l10 e10 1099511627776
 rw [h11] at l11
 have HC := hH (fun W (hW : Rd W R v l a11 e11) => checkedC_val hW n1 n2 n3 n4 n5 n6 n7 n8 n9 n10 n11 (by unfold Ok64; omega) E hE)
 clear h hb ha hl hE hw8 h1 l1 h2 l2 h3 l3 h4 l4 h5 l5 h6 l6 h7 l7 h8 l8 h9 l9 h10 l10 h11 l11
 go_enter Tryz.func60, Tryz.ntmps60
 go_wp2_with fail
 (with_reducible refine (H1.out _ w.heap.size (H.out.below bw) (by go_simp)).mono ?_); rintro e w1 ⟨rfl, r1⟩; have gg1 := r1.2; have T1 := hH (RdTo.from (w := w) (show Below w.heap.size w _ from bw) r1); have y1 := gg1.size; have x1 := T1.out.2.size; have c1_0 : w1.cell? ⟨w.heap.size, 0, none⟩ = some (.pointer (some ⟨R, 0, none⟩)) := gC gg1; obtain ⟨c1_1, f1_1, c1_2, f1_2, c1_3, f1_3, c1_4, f1_4, c1_5, f1_5, c1_6, f1_6, c1_7, f1_7, c1_8, f1_8, c1_9, f1_9, c1_10, f1_10, c1_11, f1_11⟩ := g11f (w.heap.size + 1) (.int .i64 0) (.int .i64 0) (.int .i64 0) (.int .i64 0) (.int .i64 0) (.int .i64 0) (.int .i64 0) (.int .i64 0) (.int .i64 0) (.int .i64 0) (.int .i64 0) gg1 aJ; obtain ⟨l1_0, n1_0, m1_0⟩ := lnm (show w.heap.size < w1.heap.size by first | omega | (simp at y1; omega)); obtain ⟨l1_1, n1_1, m1_1⟩ := lnm (show w.heap.size + 1 < w1.heap.size by first | omega | (simp at y1; omega)); clear r1 gg1
 go_wp2_with fail
 (with_reducible refine (H2.out _ w.heap.size T1.out.rd (by go_simp)).mono ?_); rintro e w2 ⟨rfl, r2⟩; have gg2 := r2.2; have T2 := hH (RdTo.trans (RdTo.belowB H.out T1.out bw) r2); have y2 := gg2.size; have x2 := T2.out.2.size; have c2_0 : w2.cell? ⟨w.heap.size, 0, none⟩ = some (.pointer (some ⟨R, 0, none⟩)) := gC gg2; obtain ⟨c2_1, f2_1, c2_2, f2_2, c2_3, f2_3, c2_4, f2_4, c2_5, f2_5, c2_6, f2_6, c2_7, f2_7, c2_8, f2_8, c2_9, f2_9, c2_10, f2_10, c2_11, f2_11⟩ := g11f (w.heap.size + 1) (.int .i64 0) (.int .i64 0) (.int .i64 0) (.int .i64 0) (.int .i64 0) (.int .i64 0) (.int .i64 0) (.int .i64 0) (.int .i64 0) (.int .i64 0) (.int .i64 0) gg2 aJ; obtain ⟨l2_0, n2_0, m2_0⟩ := lnm (show w.heap.size < w2.heap.size by first | omega | (simp at y2; omega)); obtain ⟨l2_1, n2_1, m2_1⟩ := lnm (show w.heap.size + 1 < w2.heap.size by first | omega | (simp at y2; omega)); clear r2 gg2
 go_wp2_with fail
 (with_reducible refine (H3.out _ w.heap.size T2.out.rd (by go_simp)).mono ?_); rintro e w3 ⟨rfl, r3⟩; have gg3 := r3.2; have T3 := hH (RdTo.trans (RdTo.belowB H.out T2.out bw) r3); have y3 := gg3.size; have x3 := T3.out.2.size; have c3_0 : w3.cell? ⟨w.heap.size, 0, none⟩ = some (.pointer (some ⟨R, 0, none⟩)) := gC gg3; obtain ⟨c3_1, f3_1, c3_2, f3_2, c3_3, f3_3, c3_4, f3_4, c3_5, f3_5, c3_6, f3_6, c3_7, f3_7, c3_8, f3_8, c3_9, f3_9, c3_10, f3_10, c3_11, f3_11⟩ := g11f (w.heap.size + 1) (.int .i64 0) (.int .i64 0) (.int .i64 0) (.int .i64 0) (.int .i64 0) (.int .i64 0) (.int .i64 0) (.int .i64 0) (.int .i64 0) (.int .i64 0) (.int .i64 0) gg3 aJ; obtain ⟨l3_0, n3_0, m3_0⟩ := lnm (show w.heap.size < w3.heap.size by first | omega | (simp at y3; omega)); obtain ⟨l3_1, n3_1, m3_1⟩ := lnm (show w.heap.size + 1 < w3.heap.size by first | omega | (simp at y3; omega)); clear r3 gg3
 go_wp2_with fail
 (with_reducible refine (H4.out _ w.heap.size T3.out.rd (by go_simp)).mono ?_); rintro e w4 ⟨rfl, r4⟩; have gg4 := r4.2; have T4 := hH (RdTo.trans (RdTo.belowB H.out T3.out bw) r4); have y4 := gg4.size; have x4 := T4.out.2.size; have c4_0 : w4.cell? ⟨w.heap.size, 0, none⟩ = some (.pointer (some ⟨R, 0, none⟩)) := gC gg4; obtain ⟨c4_1, f4_1, c4_2, f4_2, c4_3, f4_3, c4_4, f4_4, c4_5, f4_5, c4_6, f4_6, c4_7, f4_7, c4_8, f4_8, c4_9, f4_9, c4_10, f4_10, c4_11, f4_11⟩ := g11f (w.heap.size + 1) (.int .i64 0) (.int .i64 0) (.int .i64 0) (.int .i64 0) (.int .i64 0) (.int .i64 0) (.int .i64 0) (.int .i64 0) (.int .i64 0) (.int .i64 0) (.int .i64 0) gg4 aJ; obtain ⟨l4_0, n4_0, m4_0⟩ := lnm (show w.heap.size < w4.heap.size by first | omega | (simp at y4; omega)); obtain ⟨l4_1, n4_1, m4_1⟩ := lnm (show w.heap.size + 1 < w4.heap.size by first | omega | (simp at y4; omega)); clear r4 gg4
 go_wp2_with fail
 (with_reducible refine (H5.out _ w.heap.size T4.out.rd (by go_simp)).mono ?_); rintro e w5 ⟨rfl, r5⟩; have gg5 := r5.2; have T5 := hH (RdTo.trans (RdTo.belowB H.out T4.out bw) r5); have y5 := gg5.size; have x5 := T5.out.2.size; have c5_0 : w5.cell? ⟨w.heap.size, 0, none⟩ = some (.pointer (some ⟨R, 0, none⟩)) := gC gg5; obtain ⟨c5_1, f5_1, c5_2, f5_2, c5_3, f5_3, c5_4, f5_4, c5_5, f5_5, c5_6, f5_6, c5_7, f5_7, c5_8, f5_8, c5_9, f5_9, c5_10, f5_10, c5_11, f5_11⟩ := g11f (w.heap.size + 1) (.int .i64 0) (.int .i64 0) (.int .i64 0) (.int .i64 0) (.int .i64 0) (.int .i64 0) (.int .i64 0) (.int .i64 0) (.int .i64 0) (.int .i64 0) (.int .i64 0) gg5 aJ; obtain ⟨l5_0, n5_0, m5_0⟩ := lnm (show w.heap.size < w5.heap.size by first | omega | (simp at y5; omega)); obtain ⟨l5_1, n5_1, m5_1⟩ := lnm (show w.heap.size + 1 < w5.heap.size by first | omega | (simp at y5; omega)); clear r5 gg5
 go_wp2_with fail
 (with_reducible refine (H6.out _ w.heap.size T5.out.rd (by go_simp)).mono ?_); rintro e w6 ⟨rfl, r6⟩; have gg6 := r6.2; have T6 := hH (RdTo.trans (RdTo.belowB H.out T5.out bw) r6); have y6 := gg6.size; have x6 := T6.out.2.size; have c6_0 : w6.cell? ⟨w.heap.size, 0, none⟩ = some (.pointer (some ⟨R, 0, none⟩)) := gC gg6; obtain ⟨c6_1, f6_1, c6_2, f6_2, c6_3, f6_3, c6_4, f6_4, c6_5, f6_5, c6_6, f6_6, c6_7, f6_7, c6_8, f6_8, c6_9, f6_9, c6_10, f6_10, c6_11, f6_11⟩ := g11f (w.heap.size + 1) (.int .i64 0) (.int .i64 0) (.int .i64 0) (.int .i64 0) (.int .i64 0) (.int .i64 0) (.int .i64 0) (.int .i64 0) (.int .i64 0) (.int .i64 0) (.int .i64 0) gg6 aJ; obtain ⟨l6_0, n6_0, m6_0⟩ := lnm (show w.heap.size < w6.heap.size by first | omega | (simp at y6; omega)); obtain ⟨l6_1, n6_1, m6_1⟩ := lnm (show w.heap.size + 1 < w6.heap.size by first | omega | (simp at y6; omega)); clear r6 gg6
 go_wp2_with fail
 (with_reducible refine (H7.out _ w.heap.size T6.out.rd (by go_simp)).mono ?_); rintro e w7 ⟨rfl, r7⟩; have gg7 := r7.2; have T7 := hH (RdTo.trans (RdTo.belowB H.out T6.out bw) r7); have y7 := gg7.size; have x7 := T7.out.2.size; have c7_0 : w7.cell? ⟨w.heap.size, 0, none⟩ = some (.pointer (some ⟨R, 0, none⟩)) := gC gg7; obtain ⟨c7_1, f7_1, c7_2, f7_2, c7_3, f7_3, c7_4, f7_4, c7_5, f7_5, c7_6, f7_6, c7_7, f7_7, c7_8, f7_8, c7_9, f7_9, c7_10, f7_10, c7_11, f7_11⟩ := g11f (w.heap.size + 1) (.int .i64 0) (.int .i64 0) (.int .i64 0) (.int .i64 0) (.int .i64 0) (.int .i64 0) (.int .i64 0) (.int .i64 0) (.int .i64 0) (.int .i64 0) (.int .i64 0) gg7 aJ; obtain ⟨l7_0, n7_0, m7_0⟩ := lnm (show w.heap.size < w7.heap.size by first | omega | (simp at y7; omega)); obtain ⟨l7_1, n7_1, m7_1⟩ := lnm (show w.heap.size + 1 < w7.heap.size by first | omega | (simp at y7; omega)); clear r7 gg7
 go_wp2_with fail
 (with_reducible refine (H8.out _ w.heap.size T7.out.rd (by go_simp)).mono ?_); rintro e w8 ⟨rfl, r8⟩; have gg8 := r8.2; have T8 := hH (RdTo.trans (RdTo.belowB H.out T7.out bw) r8); have y8 := gg8.size; have x8 := T8.out.2.size; have c8_0 : w8.cell? ⟨w.heap.size, 0, none⟩ = some (.pointer (some ⟨R, 0, none⟩)) := gC gg8; obtain ⟨c8_1, f8_1, c8_2, f8_2, c8_3, f8_3, c8_4, f8_4, c8_5, f8_5, c8_6, f8_6, c8_7, f8_7, c8_8, f8_8, c8_9, f8_9, c8_10, f8_10, c8_11, f8_11⟩ := g11f (w.heap.size + 1) (.int .i64 0) (.int .i64 0) (.int .i64 0) (.int .i64 0) (.int .i64 0) (.int .i64 0) (.int .i64 0) (.int .i64 0) (.int .i64 0) (.int .i64 0) (.int .i64 0) gg8 aJ; obtain ⟨l8_0, n8_0, m8_0⟩ := lnm (show w.heap.size < w8.heap.size by first | omega | (simp at y8; omega)); obtain ⟨l8_1, n8_1, m8_1⟩ := lnm (show w.heap.size + 1 < w8.heap.size by first | omega | (simp at y8; omega)); clear r8 gg8
 go_wp2_with fail
 (with_reducible refine (H9.out _ w.heap.size T8.out.rd (by go_simp)).mono ?_); rintro e w9 ⟨rfl, r9⟩; have gg9 := r9.2; have T9 := hH (RdTo.trans (RdTo.belowB H.out T8.out bw) r9); have y9 := gg9.size; have x9 := T9.out.2.size; have c9_0 : w9.cell? ⟨w.heap.size, 0, none⟩ = some (.pointer (some ⟨R, 0, none⟩)) := gC gg9; obtain ⟨c9_1, f9_1, c9_2, f9_2, c9_3, f9_3, c9_4, f9_4, c9_5, f9_5, c9_6, f9_6, c9_7, f9_7, c9_8, f9_8, c9_9, f9_9, c9_10, f9_10, c9_11, f9_11⟩ := g11f (w.heap.size + 1) (.int .i64 0) (.int .i64 0) (.int .i64 0) (.int .i64 0) (.int .i64 0) (.int .i64 0) (.int .i64 0) (.int .i64 0) (.int .i64 0) (.int .i64 0) (.int .i64 0) gg9 aJ; obtain ⟨l9_0, n9_0, m9_0⟩ := lnm (show w.heap.size < w9.heap.size by first | omega | (simp at y9; omega)); obtain ⟨l9_1, n9_1, m9_1⟩ := lnm (show w.heap.size + 1 < w9.heap.size by first | omega | (simp at y9; omega)); clear r9 gg9
 go_wp2_with fail
 (with_reducible refine (H10.out _ w.heap.size T9.out.rd (by go_simp)).mono ?_); rintro e w10 ⟨rfl, r10⟩; have gg10 := r10.2; have T10 := hH (RdTo.trans (RdTo.belowB H.out T9.out bw) r10); have y10 := gg10.size; have x10 := T10.out.2.size; have c10_0 : w10.cell? ⟨w.heap.size, 0, none⟩ = some (.pointer (some ⟨R, 0, none⟩)) := gC gg10; obtain ⟨c10_1, f10_1, c10_2, f10_2, c10_3, f10_3, c10_4, f10_4, c10_5, f10_5, c10_6, f10_6, c10_7, f10_7, c10_8, f10_8, c10_9, f10_9, c10_10, f10_10, c10_11, f10_11⟩ := g11f (w.heap.size + 1) (.int .i64 0) (.int .i64 0) (.int .i64 0) (.int .i64 0) (.int .i64 0) (.int .i64 0) (.int .i64 0) (.int .i64 0) (.int .i64 0) (.int .i64 0) (.int .i64 0) gg10 aJ; obtain ⟨l10_0, n10_0, m10_0⟩ := lnm (show w.heap.size < w10.heap.size by first | omega | (simp at y10; omega)); obtain ⟨l10_1, n10_1, m10_1⟩ := lnm (show w.heap.size + 1 < w10.heap.size by first | omega | (simp at y10; omega)); clear r10 gg10
 go_wp2_with fail
 (with_reducible refine (H11.out _ w.heap.size T10.out.rd (by go_simp)).mono ?_); rintro e w11 ⟨rfl, r11⟩; have gg11 := r11.2; have T11 := hH (RdTo.trans (RdTo.belowB H.out T10.out bw) r11); have y11 := gg11.size; have x11 := T11.out.2.size; have c11_0 : w11.cell? ⟨w.heap.size, 0, none⟩ = some (.pointer (some ⟨R, 0, none⟩)) := gC gg11; obtain ⟨c11_1, f11_1, c11_2, f11_2, c11_3, f11_3, c11_4, f11_4, c11_5, f11_5, c11_6, f11_6, c11_7, f11_7, c11_8, f11_8, c11_9, f11_9, c11_10, f11_10, c11_11, f11_11⟩ := g11f (w.heap.size + 1) (.int .i64 0) (.int .i64 0) (.int .i64 0) (.int .i64 0) (.int .i64 0) (.int .i64 0) (.int .i64 0) (.int .i64 0) (.int .i64 0) (.int .i64 0) (.int .i64 0) gg11 aJ; obtain ⟨l11_0, n11_0, m11_0⟩ := lnm (show w.heap.size < w11.heap.size by first | omega | (simp at y11; omega)); obtain ⟨l11_1, n11_1, m11_1⟩ := lnm (show w.heap.size + 1 < w11.heap.size by first | omega | (simp at y11; omega)); clear r11 gg11
 go_wp2_with fail
 (with_reducible refine (HC.out _ (RdTo.belowB H.out T11.out bw).rd).mono ?_)
 rintro e w12 ⟨val, rfl, z1, z2, r12⟩
 have T12 := hH (RdTo.trans (RdTo.belowB H.out T11.out bw) r12)
 have gg12 := r12.2
 have y12 := gg12.size
 have Z1 := hH z1; have Z2 := hH z2
 obtain ⟨d0, f0, d1, f1, d2, f2, d3, f3, d4, f4, d5, f5, d6, f6, d7, f7, d8, f8, d9, f9, d10, f10⟩ := g11f (w.heap.size + 1) (.int .i64 0) (.int .i64 0) (.int .i64 0) (.int .i64 0) (.int .i64 0) (.int .i64 0) (.int .i64 0) (.int .i64 0) (.int .i64 0) (.int .i64 0) (.int .i64 0) gg12 aJ mJ (by omega)
 clear r12 gg12 z1 z2
 by_cases hE : E = 0
 ·obtain rfl := Z1.out hE
  go_wp2_with fail
  exact bodyPost_ret (v := .agg #[.int .i64 n1, .int .i64 n2, .int .i64 n3, .int .i64 n4, .int .i64 n5, .int .i64 n6, .int .i64 n7, .int .i64 n8, .int .i64 n9, .int .i64 n10, .int .i64 n11]) (by simp [results, Tryz.results60, go_sem, *]) rfl ⟨_, rfl, fun _ => rfl, fun h => absurd hE h, RdTo.belowB H.out T12.out bw⟩
 ·obtain rfl := Z2.out hE
  go_wp2_with fail
  exact bodyPost_ret (v := .agg #[.int .i64 0, .int .i64 0, .int .i64 0, .int .i64 0, .int .i64 0, .int .i64 0, .int .i64 0, .int .i64 0, .int .i64 0, .int .i64 0, .int .i64 0]) (by simp [results, Tryz.results60, go_sem, *]) rfl ⟨_, rfl, fun h => absurd h hE, fun _ => rfl, RdTo.belowB H.out T12.out bw⟩
end Go.Proofs.YtgobbecpnjelmaaGreat
