/-
  StateF: Walk of state.Right.
-/
import Derived.Test.YtgobbecpnjelmaaGreatKStateE
import Derived.Test.YtgobbecpnjelmaaGreatJ3a
namespace Go.Proofs.YtgobbecpnjelmaaGreat
open Go.RowKit

theorem stateB_no (s : StP) (h : s.confB = false ∨ s.count < 0 ∨ 1099511627776 < s.count) : stateB s = false := by
 unfold stateB
 rcases h with h | h | h
 ·rw [h]; rfl
 ·rw [decide_eq_false (p := 0 ≤ s.count) (by omega)]; simp
 ·rw [decide_eq_false (p := s.count ≤ 1099511627776) (by omega)]; simp

theorem stateB_yes (s : StP) (h : s.confB = true) (h1 : ¬ s.count < 0) (h2 : ¬ 1099511627776 < s.count) : stateB s = (windowB s && treesB s (birthsV s.confB s.c2 s.c3 s.c4 s.count).1 && alertsB s) := by
 unfold stateB
 rw [h, decide_eq_true (p := 0 ≤ s.count) (by omega), decide_eq_true (p := s.count ≤ 1099511627776) (by omega)]
 simp

theorem dupC {P : Program} {f : Nat} {args : Array Value} {W : World} {R : Ending → Prop} {L : Nat} (h : Calls P f args W fun e w' => R e ∧ Below L W w') : Calls P f args W fun e w' => R e ∧ Below L W w' ∧ Below L W w' :=
 h.mono (fun _ _ h => ⟨h.1, h.2, h.2⟩)

set_option maxRecDepth 100000 in
set_option maxHeartbeats 16000000 in
theorem sright28_any (c0 c1 c2 c3 c4 c5 c6 c7 c8 c9 c10 : Int) (count last seq : Int) (wa fa aa : Option Addr) (wn wc fn fc an ac : Nat) (win : List SeenT) (f : List (TreeP × Int)) (al : List AlertT) (w : World) (hw : Ok64 c7)
  (hS : SeensR w (.slice wa wn wc) win) (hwn : win.length = wn) (hG : GrownsR w (.slice fa fn fc) f) (hfn : f.length = fn) (hA : AlertsR w (.slice aa an ac) al) (han : al.length = an) :
  Calls Tryz.prog 10 #[.agg #[.int .i64 c0, .int .i64 c1, .int .i64 c2, .int .i64 c3, .int .i64 c4, .int .i64 c5, .int .i64 c6, .int .i64 c7, .int .i64 c8, .int .i64 c9, .int .i64 c10, .int .i64 count, .int .i64 last, .int .i64 seq, .slice wa wn wc, .slice fa fn fc, .slice aa an ac]] w fun e w' => e = .returned (.bool (stateB ⟨c0, c1, c2, c3, c4, c5, c6, c7, c8, c9, c10, count, last, seq, win, f, al⟩)) ∧ Below w.heap.size w w' := by
 obtain ⟨B, hB⟩ : ∃ B, confB11 c0 c1 c2 c3 c4 c5 c6 c7 c8 c9 c10 = B := ⟨_, rfl⟩
 have HSR := hH (fun W => hB ▸ sright_any c0 c1 c2 c3 c4 c5 c6 c7 c8 c9 c10 W hw)
 cases B with
 | false =>
  have HW := hH (stateB_no ⟨c0, c1, c2, c3, c4, c5, c6, c7, c8, c9, c10, count, last, seq, win, f, al⟩ (.inl hB))
  clear hB
  go_enter Tryz.func10, Tryz.ntmps10
  go_wp2_with fail
  (with_reducible refine (HSR.out _).mono ?_); rintro e w1 ⟨rfl, b1⟩; have s1 : w.heap.size + 1 ≤ w1.heap.size := sz b1; have B1 := hJ w b1; clear b1
  go_wp2_with fail
  go_ret
  exact ⟨ret_bool HW.out.symm, bx B1.out⟩
 | true =>
  by_cases hlo : count < 0
  ·have HW := hH (stateB_no ⟨c0, c1, c2, c3, c4, c5, c6, c7, c8, c9, c10, count, last, seq, win, f, al⟩ (.inr (.inl hlo)))
   clear hB
   go_enter Tryz.func10, Tryz.ntmps10
   go_wp2_with fail
   (with_reducible refine (HSR.out _).mono ?_); rintro e w1 ⟨rfl, b1⟩; have s1 : w.heap.size + 1 ≤ w1.heap.size := sz b1; have B1 := hJ w b1; have c1_0 : w1.cell? ⟨w.heap.size, 11, none⟩ = some (.int .i64 count) := kC b1; obtain ⟨l1_0, n1_0, m1_0⟩ := lnm (show w.heap.size < w1.heap.size by omega); clear b1
   go_wp2_with fail
   go_ret
   exact ⟨ret_bool HW.out.symm, bx B1.out⟩
  ·by_cases hhi : 1099511627776 < count
   ·have HW := hH (stateB_no ⟨c0, c1, c2, c3, c4, c5, c6, c7, c8, c9, c10, count, last, seq, win, f, al⟩ (.inr (.inr hhi)))
    clear hB
    go_enter Tryz.func10, Tryz.ntmps10
    go_wp2_with fail
    (with_reducible refine (HSR.out _).mono ?_); rintro e w1 ⟨rfl, b1⟩; have s1 : w.heap.size + 1 ≤ w1.heap.size := sz b1; have B1 := hJ w b1; have c1_0 : w1.cell? ⟨w.heap.size, 11, none⟩ = some (.int .i64 count) := kC b1; obtain ⟨l1_0, n1_0, m1_0⟩ := lnm (show w.heap.size < w1.heap.size by omega); clear b1
    go_wp2_with fail
    go_ret
    exact ⟨ret_bool HW.out.symm, bx B1.out⟩
   ·have HNX := hH (fun W => hB ▸ sNext_any c0 c1 c2 c3 c4 c5 c6 c7 c8 c9 c10 0 W hw)
    rw [nextT_zero] at HNX
    obtain ⟨F, hF⟩ : ∃ F, nextV c3 c4 0 = F := ⟨_, rfl⟩
    rw [hF] at HNX
    have HNX2 := hH (fun W => show Calls Tryz.prog 31 #[.agg #[.int .i64 c0, .int .i64 c1, .int .i64 c2, .int .i64 c3, .int .i64 c4, .int .i64 c5, .int .i64 c6, .int .i64 c7, .int .i64 c8, .int .i64 c9, .int .i64 c10], .int .i64 0] W fun e w' => e = .returned (.tuple #[.int .i64 F, .int .i64 0]) ∧ Below W.heap.size W w' ∧ Below W.heap.size W w' from (HNX.out W).mono (fun _ _ h => ⟨h.1, h.2, h.2⟩))
    have HSR2 := hH (fun W => show Calls Tryz.prog 30 #[.agg #[.int .i64 c0, .int .i64 c1, .int .i64 c2, .int .i64 c3, .int .i64 c4, .int .i64 c5, .int .i64 c6, .int .i64 c7, .int .i64 c8, .int .i64 c9, .int .i64 c10]] W fun e w' => e = .returned (.bool true) ∧ Below W.heap.size W w' ∧ Below W.heap.size W w' from (HSR.out W).mono (fun _ _ h => ⟨h.1, h.2, h.2⟩))
    clear HNX HSR
    have HWI := hH (fun W (h : SeensR W (.slice wa wn wc) win) => lwindow_any c0 c1 c2 c3 c4 c5 c6 c7 c8 c9 c10 count last seq F wa wn wc (.slice fa fn fc) (.slice aa an ac) win W h hwn ⟨by omega, by omega⟩)
    have HTR := hH (fun W (h : GrownsR W (.slice fa fn fc) f) => ltrees_any c0 c1 c2 c3 c4 c5 c6 c7 c8 c9 c10 count last seq F fa fn fc (.slice wa wn wc) (.slice aa an ac) f W h hfn hw)
    have HAL := hH (fun W (h : AlertsR W (.slice aa an ac) al) => lalerts_any c0 c1 c2 c3 c4 c5 c6 c7 c8 c9 c10 count last seq F aa an ac (.slice fa fn fc) (.slice wa wn wc) al W h han ⟨by omega, by omega⟩)
    have HW0 := stateB_yes ⟨c0, c1, c2, c3, c4, c5, c6, c7, c8, c9, c10, count, last, seq, win, f, al⟩ hB hlo hhi
    rw [show windowB ⟨c0, c1, c2, c3, c4, c5, c6, c7, c8, c9, c10, count, last, seq, win, f, al⟩ = windowG c0 c1 F count last win from by rw [← hF]; rfl, show treesB ⟨c0, c1, c2, c3, c4, c5, c6, c7, c8, c9, c10, count, last, seq, win, f, al⟩ (birthsV (StP.confB ⟨c0, c1, c2, c3, c4, c5, c6, c7, c8, c9, c10, count, last, seq, win, f, al⟩) c2 c3 c4 count).1 = treesG (birthsV (confB11 c0 c1 c2 c3 c4 c5 c6 c7 c8 c9 c10) c2 c3 c4 count).1 c0 c3 f from rfl, show alertsB ⟨c0, c1, c2, c3, c4, c5, c6, c7, c8, c9, c10, count, last, seq, win, f, al⟩ = alertsG c9 count last seq al from rfl] at HW0
    have HW := hH HW0
    clear HW0
    generalize windowG c0 c1 F count last win = X1 at *
    generalize treesG (birthsV (confB11 c0 c1 c2 c3 c4 c5 c6 c7 c8 c9 c10) c2 c3 c4 count).1 c0 c3 f = X2 at *
    generalize alertsG c9 count last seq al = X3 at *
    have HS := hH hS
    have HG := hH hG
    have HA := hH hA
    clear hB hF hS hG hA hwn hfn han
    go_enter Tryz.func10, Tryz.ntmps10
    go_wp2_with fail
    have hr0 : RowAt (w.alloc (.cells #[.int .i64 c0, .int .i64 c1, .int .i64 c2, .int .i64 c3, .int .i64 c4, .int .i64 c5, .int .i64 c6, .int .i64 c7, .int .i64 c8, .int .i64 c9, .int .i64 c10, .int .i64 count, .int .i64 last, .int .i64 seq, .slice wa wn wc, .slice fa fn fc, .slice aa an ac] 28)) w.heap.size 28 #[.int .i64 c0, .int .i64 c1, .int .i64 c2, .int .i64 c3, .int .i64 c4, .int .i64 c5, .int .i64 c6, .int .i64 c7, .int .i64 c8, .int .i64 c9, .int .i64 c10, .int .i64 count, .int .i64 last, .int .i64 seq, .slice wa wn wc, .slice fa fn fc, .slice aa an ac] := rowz_new rfl
    (with_reducible refine (HSR2.out _).mono ?_); rintro e w1 ⟨rfl, b1, bx1⟩; have s1 : w.heap.size + 1 ≤ w1.heap.size := sz b1; have B1 := hJ w b1; have c1_0 : w1.cell? ⟨w.heap.size, 0, none⟩ = some (.int .i64 c0) := kC b1; have c1_1 : w1.cell? ⟨w.heap.size, 1, none⟩ = some (.int .i64 c1) := kC b1; have c1_2 : w1.cell? ⟨w.heap.size, 2, none⟩ = some (.int .i64 c2) := kC b1; have c1_3 : w1.cell? ⟨w.heap.size, 3, none⟩ = some (.int .i64 c3) := kC b1; have c1_4 : w1.cell? ⟨w.heap.size, 4, none⟩ = some (.int .i64 c4) := kC b1; have c1_5 : w1.cell? ⟨w.heap.size, 5, none⟩ = some (.int .i64 c5) := kC b1; have c1_6 : w1.cell? ⟨w.heap.size, 6, none⟩ = some (.int .i64 c6) := kC b1; have c1_7 : w1.cell? ⟨w.heap.size, 7, none⟩ = some (.int .i64 c7) := kC b1; have c1_8 : w1.cell? ⟨w.heap.size, 8, none⟩ = some (.int .i64 c8) := kC b1; have c1_9 : w1.cell? ⟨w.heap.size, 9, none⟩ = some (.int .i64 c9) := kC b1; have c1_10 : w1.cell? ⟨w.heap.size, 10, none⟩ = some (.int .i64 c10) := kC b1; have c1_11 : w1.cell? ⟨w.heap.size, 11, none⟩ = some (.int .i64 count) := kC b1; obtain ⟨l1_0, n1_0, m1_0⟩ := lnm (show w.heap.size < w1.heap.size by omega); clear b1
    have hr1 := hr0.keep bx1 (by simp)
    clear hr0 bx1
    go_wp2_with fail
    (with_reducible refine (HNX2.out _).mono ?_); rintro e w2 ⟨rfl, b2, bx2⟩; have s2 : w1.heap.size ≤ w2.heap.size := sz b2; have B2 := bJ B1.out b2; clear b2
    have R2 := hH (hr1.keep bx2 (by omega))
    clear hr1 bx2
    go_upto_region 4 with fail
    refine wp_region_lit ?_
    refine loadRow rfl 28 _ rfl R2.out (by rfl) Tryz.underlying28 rfl rJ ?_
    (try simp only [Act.put, List.setIfInBounds_toArray, List.set_cons_zero, List.set_cons_succ])
    refine seqTk (v := .int .i64 F) rfl ?_ rJ
    (try simp only [Act.put, List.setIfInBounds_toArray, List.set_cons_zero, List.set_cons_succ])
    refine buildArm rfl 63 _ rfl [(0, .agg #[.int .i64 c0, .int .i64 c1, .int .i64 c2, .int .i64 c3, .int .i64 c4, .int .i64 c5, .int .i64 c6, .int .i64 c7, .int .i64 c8, .int .i64 c9, .int .i64 c10, .int .i64 count, .int .i64 last, .int .i64 seq, .slice wa wn wc, .slice fa fn fc, .slice aa an ac]), (1, .int .i64 F)] rJ #[.int .i64 c0, .int .i64 c1, .int .i64 c2, .int .i64 c3, .int .i64 c4, .int .i64 c5, .int .i64 c6, .int .i64 c7, .int .i64 c8, .int .i64 c9, .int .i64 c10, .int .i64 count, .int .i64 last, .int .i64 seq, .slice wa wn wc, .slice fa fn fc, .slice aa an ac, .int .i64 F] rJ ?_
    (try simp only [Act.put, List.setIfInBounds_toArray, List.set_cons_zero, List.set_cons_succ])
    refine wpList_plain rfl fun K hK => ?_
    go_simp
    refine hK _ _ ?_
    clear hK K
    (try simp only [Act.put, List.setIfInBounds_toArray, List.set_cons_zero, List.set_cons_succ])
    refine storeRow (zs := #[.int .i64 0, .int .i64 0, .int .i64 0, .int .i64 0, .int .i64 0, .int .i64 0, .int .i64 0, .int .i64 0, .int .i64 0, .int .i64 0, .int .i64 0, .int .i64 0, .int .i64 0, .int .i64 0, .slice none 0 0, .slice none 0 0, .slice none 0 0, .int .i64 0]) (cells := #[.int .i64 c0, .int .i64 c1, .int .i64 c2, .int .i64 c3, .int .i64 c4, .int .i64 c5, .int .i64 c6, .int .i64 c7, .int .i64 c8, .int .i64 c9, .int .i64 c10, .int .i64 count, .int .i64 last, .int .i64 seq, .slice wa wn wc, .slice fa fn fc, .slice aa an ac, .int .i64 F]) rfl 63 _ _ rfl (rowz_new (b := w2.heap.size) rfl) (by rfl) (by rfl) rfl rJ rJ ?_
    intro w3 r3 g3
    have RO := hH r3
    have B3 := hH (below_only (w0 := w) (show Below w.heap.size w _ from bx B2.out) g3 (Nat.le_refl _) (by omega))
    have y3 := r3.lt
    clear r3 g3
    (try simp only [Act.put])
    refine wpList_nil ?_
    go_wp2_with fail
    go_loopw [7, 32] (fun _ iv wr => ∃ k : Nat, iv = .int .i64 k ∧ k ≤ 3 ∧ (1 ≤ k → X1 = true) ∧ (2 ≤ k → X2 = true) ∧ (3 ≤ k → X3 = true) ∧ Below w.heap.size w wr ∧ RowAt wr w2.heap.size 63 #[.int .i64 c0, .int .i64 c1, .int .i64 c2, .int .i64 c3, .int .i64 c4, .int .i64 c5, .int .i64 c6, .int .i64 c7, .int .i64 c8, .int .i64 c9, .int .i64 c10, .int .i64 count, .int .i64 last, .int .i64 seq, .slice wa wn wc, .slice fa fn fc, .slice aa an ac, .int .i64 F]) (fun _ iv _ => 3 - (intOf iv).toNat)
    case atStart => exact ⟨0, rfl, by omega, by omega, by omega, by omega, B3.out, RO.out⟩
    case round =>
     obtain ⟨k, rfl, hk, hx1, hx2, hx3, hbi, hri⟩ := hrel
     rename World => wi
     have BI := hH hbi
     have RI := hH hri
     have yi := hri.lt
     have H1 := hH hx1
     have H2 := hH hx2
     have H3 := hH hx3
     clear hbi hri hx1 hx2 hx3
     obtain rfl | rfl | rfl | rfl : k = 0 ∨ k = 1 ∨ k = 2 ∨ k = 3 := by omega
     ·cases X1 with
      | false =>
       go_upto_region 7 with fail
       refine wp_region_lit ?_
       refine seqTk (v := .func (.func 32) #[] #[]) rfl ?_ rJ
       (try simp only [Act.put, List.setIfInBounds_toArray, List.set_cons_zero, List.set_cons_succ])
       refine seqTk (v := .func (.func 32) #[] #[]) rfl ?_ rJ
       (try simp only [Act.put, List.setIfInBounds_toArray, List.set_cons_zero, List.set_cons_succ])
       refine wpList_nil ?_
       go_upto_region 8 with fail
       refine wp_region_lit ?_
       refine seqTk (v := .func (.func 32) #[] #[]) rfl ?_ rJ
       (try simp only [Act.put, List.setIfInBounds_toArray, List.set_cons_zero, List.set_cons_succ])
       refine loadRow rfl 63 _ rfl RI.out (by rfl) Tryz.underlying63 rfl rJ ?_
       (try simp only [Act.put, List.setIfInBounds_toArray, List.set_cons_zero, List.set_cons_succ])
       go_wp2_with fail
       (with_reducible refine (dupC (HWI.out _ (HS.out.below (bx BI.out)))).mono ?_); rintro e w4 ⟨rfl, b4, bx4⟩; have s4 : wi.heap.size ≤ w4.heap.size := sz b4; have B4 := hH (Bc (B := w.heap.size) (a := w) (bx BI.out) b4); clear b4
       clear bx4
       go_wp2_with fail
       go_ret
       exact ⟨ret_bool (by rw [HW.out]; simp), bx B4.out⟩
      | true =>
       go_upto_region 7 with fail
       refine wp_region_lit ?_
       refine seqTk (v := .func (.func 32) #[] #[]) rfl ?_ rJ
       (try simp only [Act.put, List.setIfInBounds_toArray, List.set_cons_zero, List.set_cons_succ])
       refine seqTk (v := .func (.func 32) #[] #[]) rfl ?_ rJ
       (try simp only [Act.put, List.setIfInBounds_toArray, List.set_cons_zero, List.set_cons_succ])
       refine wpList_nil ?_
       go_upto_region 8 with fail
       refine wp_region_lit ?_
       refine seqTk (v := .func (.func 32) #[] #[]) rfl ?_ rJ
       (try simp only [Act.put, List.setIfInBounds_toArray, List.set_cons_zero, List.set_cons_succ])
       refine loadRow rfl 63 _ rfl RI.out (by rfl) Tryz.underlying63 rfl rJ ?_
       (try simp only [Act.put, List.setIfInBounds_toArray, List.set_cons_zero, List.set_cons_succ])
       go_wp2_with fail
       (with_reducible refine (dupC (HWI.out _ (HS.out.below (bx BI.out)))).mono ?_); rintro e w4 ⟨rfl, b4, bx4⟩; have s4 : wi.heap.size ≤ w4.heap.size := sz b4; have B4 := hH (Bc (B := w.heap.size) (a := w) (bx BI.out) b4); clear b4
       have R4 := hH (RI.out.keep bx4 yi)
       clear bx4
       go_wp2_with fail
       go_roundw
       case rel => exact ⟨1, by go_num, by omega, (by simp), by omega, by omega, B4.out, R4.out⟩
       case measure => simp [intOf] <;> omega
     ·cases X2 with
      | false =>
       go_upto_region 7 with fail
       refine wp_region_lit ?_
       refine seqTk (v := .func (.func 33) #[] #[]) rfl ?_ rJ
       (try simp only [Act.put, List.setIfInBounds_toArray, List.set_cons_zero, List.set_cons_succ])
       refine seqTk (v := .func (.func 33) #[] #[]) rfl ?_ rJ
       (try simp only [Act.put, List.setIfInBounds_toArray, List.set_cons_zero, List.set_cons_succ])
       refine wpList_nil ?_
       go_upto_region 8 with fail
       refine wp_region_lit ?_
       refine seqTk (v := .func (.func 33) #[] #[]) rfl ?_ rJ
       (try simp only [Act.put, List.setIfInBounds_toArray, List.set_cons_zero, List.set_cons_succ])
       refine loadRow rfl 63 _ rfl RI.out (by rfl) Tryz.underlying63 rfl rJ ?_
       (try simp only [Act.put, List.setIfInBounds_toArray, List.set_cons_zero, List.set_cons_succ])
       go_wp2_with fail
       (with_reducible refine (dupC (HTR.out _ (HG.out.below (bx BI.out)))).mono ?_); rintro e w4 ⟨rfl, b4, bx4⟩; have s4 : wi.heap.size ≤ w4.heap.size := sz b4; have B4 := hH (Bc (B := w.heap.size) (a := w) (bx BI.out) b4); clear b4
       clear bx4
       go_wp2_with fail
       go_ret
       exact ⟨ret_bool (by rw [HW.out]; simp), bx B4.out⟩
      | true =>
       go_upto_region 7 with fail
       refine wp_region_lit ?_
       refine seqTk (v := .func (.func 33) #[] #[]) rfl ?_ rJ
       (try simp only [Act.put, List.setIfInBounds_toArray, List.set_cons_zero, List.set_cons_succ])
       refine seqTk (v := .func (.func 33) #[] #[]) rfl ?_ rJ
       (try simp only [Act.put, List.setIfInBounds_toArray, List.set_cons_zero, List.set_cons_succ])
       refine wpList_nil ?_
       go_upto_region 8 with fail
       refine wp_region_lit ?_
       refine seqTk (v := .func (.func 33) #[] #[]) rfl ?_ rJ
       (try simp only [Act.put, List.setIfInBounds_toArray, List.set_cons_zero, List.set_cons_succ])
       refine loadRow rfl 63 _ rfl RI.out (by rfl) Tryz.underlying63 rfl rJ ?_
       (try simp only [Act.put, List.setIfInBounds_toArray, List.set_cons_zero, List.set_cons_succ])
       go_wp2_with fail
       (with_reducible refine (dupC (HTR.out _ (HG.out.below (bx BI.out)))).mono ?_); rintro e w4 ⟨rfl, b4, bx4⟩; have s4 : wi.heap.size ≤ w4.heap.size := sz b4; have B4 := hH (Bc (B := w.heap.size) (a := w) (bx BI.out) b4); clear b4
       have R4 := hH (RI.out.keep bx4 yi)
       clear bx4
       go_wp2_with fail
       go_roundw
       case rel => exact ⟨2, by go_num, by omega, fun _ => H1.out (by omega), (by simp), by omega, B4.out, R4.out⟩
       case measure => simp [intOf] <;> omega
     ·cases X3 with
      | false =>
       go_upto_region 7 with fail
       refine wp_region_lit ?_
       refine seqTk (v := .func (.func 34) #[] #[]) rfl ?_ rJ
       (try simp only [Act.put, List.setIfInBounds_toArray, List.set_cons_zero, List.set_cons_succ])
       refine seqTk (v := .func (.func 34) #[] #[]) rfl ?_ rJ
       (try simp only [Act.put, List.setIfInBounds_toArray, List.set_cons_zero, List.set_cons_succ])
       refine wpList_nil ?_
       go_upto_region 8 with fail
       refine wp_region_lit ?_
       refine seqTk (v := .func (.func 34) #[] #[]) rfl ?_ rJ
       (try simp only [Act.put, List.setIfInBounds_toArray, List.set_cons_zero, List.set_cons_succ])
       refine loadRow rfl 63 _ rfl RI.out (by rfl) Tryz.underlying63 rfl rJ ?_
       (try simp only [Act.put, List.setIfInBounds_toArray, List.set_cons_zero, List.set_cons_succ])
       go_wp2_with fail
       (with_reducible refine (dupC (HAL.out _ (HA.out.below (bx BI.out)))).mono ?_); rintro e w4 ⟨rfl, b4, bx4⟩; have s4 : wi.heap.size ≤ w4.heap.size := sz b4; have B4 := hH (Bc (B := w.heap.size) (a := w) (bx BI.out) b4); clear b4
       clear bx4
       go_wp2_with fail
       go_ret
       exact ⟨ret_bool (by rw [HW.out]; simp), bx B4.out⟩
      | true =>
       go_upto_region 7 with fail
       refine wp_region_lit ?_
       refine seqTk (v := .func (.func 34) #[] #[]) rfl ?_ rJ
       (try simp only [Act.put, List.setIfInBounds_toArray, List.set_cons_zero, List.set_cons_succ])
       refine seqTk (v := .func (.func 34) #[] #[]) rfl ?_ rJ
       (try simp only [Act.put, List.setIfInBounds_toArray, List.set_cons_zero, List.set_cons_succ])
       refine wpList_nil ?_
       go_upto_region 8 with fail
       refine wp_region_lit ?_
       refine seqTk (v := .func (.func 34) #[] #[]) rfl ?_ rJ
       (try simp only [Act.put, List.setIfInBounds_toArray, List.set_cons_zero, List.set_cons_succ])
       refine loadRow rfl 63 _ rfl RI.out (by rfl) Tryz.underlying63 rfl rJ ?_
       (try simp only [Act.put, List.setIfInBounds_toArray, List.set_cons_zero, List.set_cons_succ])
       go_wp2_with fail
       (with_reducible refine (dupC (HAL.out _ (HA.out.below (bx BI.out)))).mono ?_); rintro e w4 ⟨rfl, b4, bx4⟩; have s4 : wi.heap.size ≤ w4.heap.size := sz b4; have B4 := hH (Bc (B := w.heap.size) (a := w) (bx BI.out) b4); clear b4
       have R4 := hH (RI.out.keep bx4 yi)
       clear bx4
       go_wp2_with fail
       go_roundw
       case rel => exact ⟨3, by go_num, by omega, fun _ => H1.out (by omega), fun _ => H2.out (by omega), (by simp), B4.out, R4.out⟩
       case measure => simp [intOf] <;> omega
     ·go_wp2_with fail
      go_ret
      exact ⟨ret_bool (by rw [HW.out, H1.out (by omega), H2.out (by omega), H3.out (by omega)]; rfl), bx BI.out⟩
end Go.Proofs.YtgobbecpnjelmaaGreat
