/-
  StateT: Walk of state.Put.
-/
import Derived.Test.YtgobbecpnjelmaaGreatJ4a
import Derived.Test.YtgobbecpnjelmaaGreatKWoodC
namespace Go.Proofs.YtgobbecpnjelmaaGreat
open Go.RowKit

/-- The first numbers of a state, as bytes. -/
def pre3 (s : StP) : List Int := natsB s.conf ++ natsB [s.count, s.last, s.seq]

theorem putSt_eq (s : StP) : putSt s = ((pre3 s ++ winBy s s.win) ++ forestBy s.forest ++ putsU s.alerts.length) ++ alertsBy s.alerts := by
 unfold putSt pre3
 simp [natsB, List.append_assoc]

theorem pre3_len {s : StP} (_ : RightP s) : (pre3 s).length ≤ 130 := by
 have h1 := natsB_len s.conf
 have h2 := natsB_len [s.count, s.last, s.seq]
 have h3 : s.conf.length = 11 := rfl
 have h4 : [s.count, s.last, s.seq].length = 3 := rfl
 unfold pre3
 rw [List.length_append]
 omega

theorem natsB_pre (N L S : Nat) (k : Nat) : (natsB (([(N : Int), L, S]).take k)).length ≤ 27 := by
 have := natsB_len (([(N : Int), L, S]).take k)
 have h : (([(N : Int), L, S]).take k).length ≤ 3 := by rw [List.length_take]; simp; omega
 omega

theorem winBy_le {s : StP} (h : RightP s) (k : Nat) : (winBy s (s.win.take k)).length ≤ 30000 := by
 have h1 := flatMap_len (g := fun t => seenTW t s.c0) (c := 110) (l := s.win.take k) (fun t _ => seenBytes_len _ _ _ _ _ _)
 have h2 := h.winL
 have h3 := (confB_iff _ h.conf).2.1
 have h4 : (s.win.take k).length ≤ s.win.length := by rw [List.length_take]; omega
 unfold winBy
 omega

theorem alertsBy_le {s : StP} (h : RightP s) (k : Nat) : (alertsBy (s.alerts.take k)).length ≤ 4000 := by
 have h1 := flatMap_len (g := alertBytes) (c := 54) (l := s.alerts.take k) (fun t _ => alertBytes_len _)
 have h2 := h.alL
 have h3 := (confB_iff _ h.conf).2.2.2.2
 have h4 : (s.alerts.take k).length ≤ s.alerts.length := by rw [List.length_take]; omega
 unfold alertsBy
 omega

theorem forestBy_le {s : StP} (h : RightP s) : (forestBy s.forest).length ≤ 20000 := by
 obtain ⟨b0, b1, b2, b3, b9⟩ := confB_iff s h.conf
 have := forestBy_28 h
 have h2 : (s.c3 - 1) * (7 + s.c0) ≤ 63 * 15 := Int.mul_le_mul (by omega) (by omega) (by omega) (by omega)
 have h3 : 0 ≤ (s.c3 - 1) * (7 + s.c0) := Int.mul_nonneg (by omega) (by omega)
 have h4 : s.c2 * (8 + s.c3 + (s.c3 - 1) * (7 + s.c0)) ≤ 16 * 1017 := Int.mul_le_mul (by omega) (by omega) (by omega) (by omega)
 omega

theorem confBytes_yes {s : StP} (h : s.confB = true) : confBytes s.c0 s.c1 s.c2 s.c3 s.c4 s.c5 s.c6 s.c7 s.c8 s.c9 s.c10 = natsB s.conf := by
 unfold confBytes
 exact if_pos h

set_option maxRecDepth 100000 in
set_option maxHeartbeats 16000000 in
theorem sput_no (c0 c1 c2 c3 c4 c5 c6 c7 c8 c9 c10 : Int) (count last seq : Int) (wa fa aa : Option Addr) (wn wc fn fc an ac : Nat) (win : List SeenT) (f : List (TreeP × Int)) (al : List AlertT) (w : World) (hw : Ok64 c7)
  (hS : SeensR w (.slice wa wn wc) win) (hwn : win.length = wn) (hG : GrownsR w (.slice fa fn fc) f) (hfn : f.length = fn) (hA : AlertsR w (.slice aa an ac) al) (han : al.length = an) (hB : stateB ⟨c0, c1, c2, c3, c4, c5, c6, c7, c8, c9, c10, count, last, seq, win, f, al⟩ = false) :
  Calls Tryz.prog 20 #[.agg #[.int .i64 c0, .int .i64 c1, .int .i64 c2, .int .i64 c3, .int .i64 c4, .int .i64 c5, .int .i64 c6, .int .i64 c7, .int .i64 c8, .int .i64 c9, .int .i64 c10, .int .i64 count, .int .i64 last, .int .i64 seq, .slice wa wn wc, .slice fa fn fc, .slice aa an ac]] w fun e w' => e = .returned (.tuple #[.slice none 0 0, .int .i64 280]) ∧ Below w.heap.size w w' := by
 have HR := hH (fun W (h1 : SeensR W (.slice wa wn wc) win) (h2 : GrownsR W (.slice fa fn fc) f) (h3 : AlertsR W (.slice aa an ac) al) => dupC (hB ▸ sright28_any c0 c1 c2 c3 c4 c5 c6 c7 c8 c9 c10 count last seq wa fa aa wn wc fn fc an ac win f al W hw h1 hwn h2 hfn h3 han))
 have HS := hH hS
 have HG := hH hG
 have HA := hH hA
 clear hB hS hG hA hwn hfn han
 go_enter Tryz.func20, Tryz.ntmps20
 go_upto_region 1 with fail
 have R0 := hH (rowz_new (W := w) (T := 28) (cs := #[.int .i64 c0, .int .i64 c1, .int .i64 c2, .int .i64 c3, .int .i64 c4, .int .i64 c5, .int .i64 c6, .int .i64 c7, .int .i64 c8, .int .i64 c9, .int .i64 c10, .int .i64 count, .int .i64 last, .int .i64 seq, .slice wa wn wc, .slice fa fn fc, .slice aa an ac]) rfl)
 refine wp_region_lit ?_
 refine loadRow rfl 28 _ rfl R0.out (by rfl) Tryz.underlying28 rfl rJ ?_
 (try simp only [Act.put, List.setIfInBounds_toArray, List.set_cons_zero, List.set_cons_succ])
 go_wp2_with fail
 (with_reducible refine (HR.out _ (HS.out.below bw) (HG.out.below bw) (HA.out.below bw)).mono ?_); rintro e w1 ⟨rfl, b1, bx1⟩; have s1 : w.heap.size + 1 ≤ w1.heap.size := sz b1; have B1 := hJ w b1; clear b1
 clear bx1
 go_wp2_with fail
 exact bodyPost_ret (v := .tuple #[.slice none 0 0, .int .i64 280]) (by simp [results, Tryz.results20, go_sem]) rfl ⟨rfl, bx B1.out⟩

set_option maxRecDepth 100000 in
set_option maxHeartbeats 16000000 in
theorem sput_yes (c0 c1 c2 c3 c4 c5 c6 c7 c8 c9 c10 : Int) (count last seq : Int) (wa fa aa : Option Addr) (wn wc fn fc an ac : Nat) (win : List SeenT) (f : List (TreeP × Int)) (al : List AlertT) (w : World) (hw : Ok64 c7)
    (hS : SeensR w (.slice wa wn wc) win) (hwn : win.length = wn) (hG : GrownsR w (.slice fa fn fc) f) (hfn : f.length = fn) (hA : AlertsR w (.slice aa an ac) al) (han : al.length = an) (hB : stateB ⟨c0, c1, c2, c3, c4, c5, c6, c7, c8, c9, c10, count, last, seq, win, f, al⟩ = true) :
    Calls Tryz.prog 20 #[.agg #[.int .i64 c0, .int .i64 c1, .int .i64 c2, .int .i64 c3, .int .i64 c4, .int .i64 c5, .int .i64 c6, .int .i64 c7, .int .i64 c8, .int .i64 c9, .int .i64 c10, .int .i64 count, .int .i64 last, .int .i64 seq, .slice wa wn wc, .slice fa fn fc, .slice aa an ac]] w fun e w' => ∃ v', e = .returned (.tuple #[v', .int .i64 0]) ∧ Ints .u8 w' v' (putSt ⟨c0, c1, c2, c3, c4, c5, c6, c7, c8, c9, c10, count, last, seq, win, f, al⟩) ∧ Below w.heap.size w w' := by
  have HR := hH (fun W (h1 : SeensR W (.slice wa wn wc) win) (h2 : GrownsR W (.slice fa fn fc) f) (h3 : AlertsR W (.slice aa an ac) al) => dupC (hB ▸ sright28_any c0 c1 c2 c3 c4 c5 c6 c7 c8 c9 c10 count last seq wa fa aa wn wc fn fc an ac win f al W hw h1 hwn h2 hfn h3 han))
  have hRP := stateB_is hB
  have hE := putSt_eq ⟨c0, c1, c2, c3, c4, c5, c6, c7, c8, c9, c10, count, last, seq, win, f, al⟩
  have hZ := pre3_len hRP
  have hWB := winBy_le hRP
  have hAB := alertsBy_le hRP
  have hFB := forestBy_le hRP
  have hW1 := hRP.win
  have hA1 := hRP.al
  have hwn2 : wn ≤ 256 := by have := hRP.winL; have := (confB_iff _ hRP.conf).2.1; dsimp only at *; omega
  have han2 : an ≤ 64 := by have := hRP.alL; have := (confB_iff _ hRP.conf).2.2.2.2; dsimp only at *; omega
  obtain ⟨n1, n2⟩ := hRP.count
  obtain ⟨l1, l2⟩ := hRP.last
  obtain ⟨s1, s2⟩ := hRP.seq
  have hCB := hRP.conf
  dsimp only at hE hZ hWB hAB hFB hW1 hA1 n1 n2 l1 l2 s1 s2
  have HPC := hH (fun W => show Calls Tryz.prog 49 #[.slice none 0 0, .agg #[.int .i64 c0, .int .i64 c1, .int .i64 c2, .int .i64 c3, .int .i64 c4, .int .i64 c5, .int .i64 c6, .int .i64 c7, .int .i64 c8, .int .i64 c9, .int .i64 c10]] W fun e w' => ∃ v', e = .returned v' ∧ Ints .u8 w' v' (natsB (StP.conf ⟨c0, c1, c2, c3, c4, c5, c6, c7, c8, c9, c10, count, last, seq, win, f, al⟩)) ∧ Below W.heap.size W w' from by
    have := putConf_any (.slice none 0 0) [] c0 c1 c2 c3 c4 c5 c6 c7 c8 c9 c10 W hw (ints_nil _ _ _ _ (by omega)) (by simp)
    rw [List.nil_append, show confBytes c0 c1 c2 c3 c4 c5 c6 c7 c8 c9 c10 = natsB (StP.conf ⟨c0, c1, c2, c3, c4, c5, c6, c7, c8, c9, c10, count, last, seq, win, f, al⟩) from confBytes_yes hCB] at this
    exact this)
  unfold pre3 at hZ hE
  obtain ⟨C, hC⟩ : ∃ C, natsB (StP.conf ⟨c0, c1, c2, c3, c4, c5, c6, c7, c8, c9, c10, count, last, seq, win, f, al⟩) = C := ⟨_, rfl⟩
  rw [hC] at HPC
  rw [show natsB (StP.conf ⟨c0, c1, c2, c3, c4, c5, c6, c7, c8, c9, c10, count, last, seq, win, f, al⟩) = C from hC] at hZ hE
  dsimp only at hZ hE
  clear hRP hC hB hCB
  obtain ⟨N, rfl⟩ : ∃ N : Nat, count = (N : Int) := ⟨count.toNat, by omega⟩
  obtain ⟨L, rfl⟩ : ∃ N : Nat, last = (N : Int) := ⟨last.toNat, by omega⟩
  obtain ⟨S, rfl⟩ : ∃ N : Nat, seq = (N : Int) := ⟨seq.toNat, by omega⟩
  have hEZ := hH hE
  have HZ := hH hZ
  have HWB := hH hWB
  have HAB := hH hAB
  have HFB := hH hFB
  have HW1 := hH hW1
  have HA1 := hH hA1
  have HWN := hH hwn
  have HAN := hH han
  have HS := hH hS
  have HG := hH hG
  have HA := hH hA
  have u1 := u64_wrap (z := (N : Int)) (by omega) (by omega)
  have u2 := u64_wrap (z := (L : Int)) (by omega) (by omega)
  have u3 := u64_wrap (z := (S : Int)) (by omega) (by omega)
  have u4 := u64_wrap (z := (an : Int)) (by omega) (by omega)
  have x1 : (N : Int) ≤ 18446744073709551615 := by omega
  have x2 : (L : Int) ≤ 18446744073709551615 := by omega
  have x3 : (S : Int) ≤ 18446744073709551615 := by omega
  have x4 : (an : Int) ≤ 18446744073709551615 := by omega
  have HPF := hH (fun W (h : GrownsR W (.slice fa fn fc) f) => (putForest_any (.slice none 0 0) [] _ f W (ints_nil _ _ _ _ (by omega)) (by simp) h).mono (R' := fun e w' => ∃ v', e = .returned v' ∧ OwnB w' W.heap.size v' (forestBy f) ∧ Below W.heap.size W w' ∧ Below W.heap.size W w') (fun _ _ ⟨v', h1, h2, h3⟩ => ⟨v', h1, by simpa using h2, h3, h3⟩))
  clear hE hZ hWB hAB hFB hW1 hA1 hwn hfn han hS hG hA n1 n2 l1 l2 s1 s2 hw
  go_enter Tryz.func20, Tryz.ntmps20
  go_upto_region 1 with fail
  have R0 := hH (rowz_new (W := w) (T := 28) (cs := #[.int .i64 c0, .int .i64 c1, .int .i64 c2, .int .i64 c3, .int .i64 c4, .int .i64 c5, .int .i64 c6, .int .i64 c7, .int .i64 c8, .int .i64 c9, .int .i64 c10, .int .i64 (N : Int), .int .i64 (L : Int), .int .i64 (S : Int), .slice wa wn wc, .slice fa fn fc, .slice aa an ac]) rfl)
  refine wp_region_lit ?_
  refine loadRow rfl 28 _ rfl R0.out (by rfl) Tryz.underlying28 rfl rJ ?_
  (try simp only [Act.put, List.setIfInBounds_toArray, List.set_cons_zero, List.set_cons_succ])
  go_wp2_with fail
  (with_reducible refine (HR.out _ (HS.out.below bw) (HG.out.below bw) (HA.out.below bw)).mono ?_); rintro e w1 ⟨rfl, b1, bx1⟩; have s1 : w.heap.size + 1 ≤ w1.heap.size := sz b1; have B1 := hJ w b1; have c1_0 : w1.cell? ⟨w.heap.size, 0, none⟩ = some (.int .i64 c0) := kC b1; have c1_1 : w1.cell? ⟨w.heap.size, 1, none⟩ = some (.int .i64 c1) := kC b1; have c1_2 : w1.cell? ⟨w.heap.size, 2, none⟩ = some (.int .i64 c2) := kC b1; have c1_3 : w1.cell? ⟨w.heap.size, 3, none⟩ = some (.int .i64 c3) := kC b1; have c1_4 : w1.cell? ⟨w.heap.size, 4, none⟩ = some (.int .i64 c4) := kC b1; have c1_5 : w1.cell? ⟨w.heap.size, 5, none⟩ = some (.int .i64 c5) := kC b1; have c1_6 : w1.cell? ⟨w.heap.size, 6, none⟩ = some (.int .i64 c6) := kC b1; have c1_7 : w1.cell? ⟨w.heap.size, 7, none⟩ = some (.int .i64 c7) := kC b1; have c1_8 : w1.cell? ⟨w.heap.size, 8, none⟩ = some (.int .i64 c8) := kC b1; have c1_9 : w1.cell? ⟨w.heap.size, 9, none⟩ = some (.int .i64 c9) := kC b1; have c1_10 : w1.cell? ⟨w.heap.size, 10, none⟩ = some (.int .i64 c10) := kC b1; have c1_11 : w1.cell? ⟨w.heap.size, 11, none⟩ = some (.int .i64 (N : Int)) := kC b1; have c1_12 : w1.cell? ⟨w.heap.size, 12, none⟩ = some (.int .i64 (L : Int)) := kC b1; have c1_13 : w1.cell? ⟨w.heap.size, 13, none⟩ = some (.int .i64 (S : Int)) := kC b1; have c1_14 : w1.cell? ⟨w.heap.size, 14, none⟩ = some (.slice wa wn wc) := kC b1; have c1_15 : w1.cell? ⟨w.heap.size, 15, none⟩ = some (.slice fa fn fc) := kC b1; have c1_16 : w1.cell? ⟨w.heap.size, 16, none⟩ = some (.slice aa an ac) := kC b1; obtain ⟨l1_0, n1_0, m1_0⟩ := lnm (show w.heap.size < w1.heap.size by omega); clear b1
  clear bx1
  go_wp2_with fail
  (with_reducible refine (HPC.out _).mono ?_); rintro e w2 ⟨v2, rfl, i2, b2⟩; have s2 : w1.heap.size ≤ w2.heap.size := sz b2; have B2 := bJ B1.out b2; have c2_0 : w2.cell? ⟨w.heap.size, 0, none⟩ = some (.int .i64 c0) := kC b2; have c2_1 : w2.cell? ⟨w.heap.size, 11, none⟩ = some (.int .i64 (N : Int)) := kC b2; have c2_2 : w2.cell? ⟨w.heap.size, 12, none⟩ = some (.int .i64 (L : Int)) := kC b2; have c2_3 : w2.cell? ⟨w.heap.size, 13, none⟩ = some (.int .i64 (S : Int)) := kC b2; have c2_4 : w2.cell? ⟨w.heap.size, 14, none⟩ = some (.slice wa wn wc) := kC b2; have c2_5 : w2.cell? ⟨w.heap.size, 15, none⟩ = some (.slice fa fn fc) := kC b2; have c2_6 : w2.cell? ⟨w.heap.size, 16, none⟩ = some (.slice aa an ac) := kC b2; obtain ⟨l2_0, n2_0, m2_0⟩ := lnm (show w.heap.size < w2.heap.size by omega); clear b2
  have I2 := hH i2
  obtain ⟨pa, pc, rfl⟩ := i2.shape
  clear i2
  go_wp2_with fail
  go_loopw [4, 6, 25] (fun b _ i wr => ∃ k : Nat, i = .int .i64 (k : Int) ∧ k ≤ 3 ∧ Ints .u8 wr b (C ++ natsB (([(N : Int), L, S]).take k)) ∧ (1 ≤ k → OwnB wr w2.heap.size b (C ++ natsB (([(N : Int), L, S]).take k))) ∧ Below w2.heap.size w2 wr ∧ w2.heap.size < wr.heap.size ∧ wr.cell? ⟨w2.heap.size, 0, none⟩ = some (.int .i64 (N : Int)) ∧ wr.cell? ⟨w2.heap.size, 1, none⟩ = some (.int .i64 (L : Int)) ∧ wr.cell? ⟨w2.heap.size, 2, none⟩ = some (.int .i64 (S : Int))) (fun _ _ i _ => 3 - (intOf i).toNat)
  case atStart => exact ⟨0, rfl, by omega, by simpa [natsB] using I2.out.below bw, by omega, bw, by simp, by go_simp, by go_simp, by go_simp⟩
  case round =>
   obtain ⟨k, rfl, hk, hi, ho, hbi, zj, k1, k2, k3⟩ := hrel
   rename World => wi
   have HI := hH hi
   have HO := hH ho
   have BI := hH hbi
   have zi := hbi.size
   obtain ⟨ba, bc, rfl⟩ := hi.shape
   obtain ⟨bl, hbl⟩ : ∃ bl, (C ++ natsB (([(N : Int), L, S]).take k)).length = bl := ⟨_, rfl⟩
   rw [hbl] at HI HO ⊢
   clear hi ho hbl
   obtain rfl | rfl | rfl | rfl : k = 0 ∨ k = 1 ∨ k = 2 ∨ k = 3 := by omega
   · go_wp2_with fail
     (with_reducible refine (putU_any _ _ N _ HI.out (by have := HZ.out; simp only [List.length_append] at this ⊢; have := natsB_pre N L S 0; omega) x1).mono ?_)
     rintro e w4 ⟨v4, rfl, o4, b4⟩
     have O4 := hH (show OwnB w4 w2.heap.size v4 (C ++ natsB (([(N : Int), L, S]).take 1)) from by
       refine OwnB.lower ?_ (show w2.heap.size ≤ _ from zi)
       simpa [natsB, List.append_assoc] using o4)
     have B4 := hH (show Below w2.heap.size w2 w4 from BI.out.trans (b4.mono BI.out.size))
     have z4 := b4.size
     obtain ⟨k4, k5, k6⟩ : w4.cell? ⟨w2.heap.size, 0, none⟩ = some (.int .i64 (N : Int)) ∧ w4.cell? ⟨w2.heap.size, 1, none⟩ = some (.int .i64 (L : Int)) ∧ w4.cell? ⟨w2.heap.size, 2, none⟩ = some (.int .i64 (S : Int)) := ⟨(b4.cell (p := ⟨w2.heap.size, 0, none⟩) zj).trans k1, (b4.cell (p := ⟨w2.heap.size, 1, none⟩) zj).trans k2, (b4.cell (p := ⟨w2.heap.size, 2, none⟩) zj).trans k3⟩
     clear o4 b4
     go_wp2_with fail
     go_roundw
     case rel => exact ⟨1, by go_num, by omega, O4.out.ints (by have := HZ.out; simp only [List.length_append] at this ⊢; have := natsB_pre N L S 1; omega), fun _ => O4.out, B4.out, by omega, k4, k5, k6⟩
     case measure => simp [intOf] <;> omega
   · go_wp2_with fail
     (with_reducible refine (putU_any _ _ L _ HI.out (by have := HZ.out; simp only [List.length_append] at this ⊢; have := natsB_pre N L S 1; omega) x2).mono ?_)
     rintro e w4 ⟨v4, rfl, o4, b4⟩
     have O4 := hH (show OwnB w4 w2.heap.size v4 (C ++ natsB (([(N : Int), L, S]).take 2)) from by
       refine OwnB.lower ?_ (show w2.heap.size ≤ _ from zi)
       simpa [natsB, List.append_assoc] using o4)
     have B4 := hH (show Below w2.heap.size w2 w4 from BI.out.trans (b4.mono BI.out.size))
     have z4 := b4.size
     obtain ⟨k4, k5, k6⟩ : w4.cell? ⟨w2.heap.size, 0, none⟩ = some (.int .i64 (N : Int)) ∧ w4.cell? ⟨w2.heap.size, 1, none⟩ = some (.int .i64 (L : Int)) ∧ w4.cell? ⟨w2.heap.size, 2, none⟩ = some (.int .i64 (S : Int)) := ⟨(b4.cell (p := ⟨w2.heap.size, 0, none⟩) zj).trans k1, (b4.cell (p := ⟨w2.heap.size, 1, none⟩) zj).trans k2, (b4.cell (p := ⟨w2.heap.size, 2, none⟩) zj).trans k3⟩
     clear o4 b4
     go_wp2_with fail
     go_roundw
     case rel => exact ⟨2, by go_num, by omega, O4.out.ints (by have := HZ.out; simp only [List.length_append] at this ⊢; have := natsB_pre N L S 2; omega), fun _ => O4.out, B4.out, by omega, k4, k5, k6⟩
     case measure => simp [intOf] <;> omega
   · go_wp2_with fail
     (with_reducible refine (putU_any _ _ S _ HI.out (by have := HZ.out; simp only [List.length_append] at this ⊢; have := natsB_pre N L S 2; omega) x3).mono ?_)
     rintro e w4 ⟨v4, rfl, o4, b4⟩
     have O4 := hH (show OwnB w4 w2.heap.size v4 (C ++ natsB (([(N : Int), L, S]).take 3)) from by
       refine OwnB.lower ?_ (show w2.heap.size ≤ _ from zi)
       simpa [natsB, List.append_assoc] using o4)
     have B4 := hH (show Below w2.heap.size w2 w4 from BI.out.trans (b4.mono BI.out.size))
     have z4 := b4.size
     obtain ⟨k4, k5, k6⟩ : w4.cell? ⟨w2.heap.size, 0, none⟩ = some (.int .i64 (N : Int)) ∧ w4.cell? ⟨w2.heap.size, 1, none⟩ = some (.int .i64 (L : Int)) ∧ w4.cell? ⟨w2.heap.size, 2, none⟩ = some (.int .i64 (S : Int)) := ⟨(b4.cell (p := ⟨w2.heap.size, 0, none⟩) zj).trans k1, (b4.cell (p := ⟨w2.heap.size, 1, none⟩) zj).trans k2, (b4.cell (p := ⟨w2.heap.size, 2, none⟩) zj).trans k3⟩
     clear o4 b4
     go_wp2_with fail
     go_roundw
     case rel => exact ⟨3, by go_num, by omega, O4.out.ints (by have := HZ.out; simp only [List.length_append] at this ⊢; have := natsB_pre N L S 3; omega), fun _ => O4.out, B4.out, by omega, k4, k5, k6⟩
     case measure => simp [intOf] <;> omega
   · have HOW := hH (show OwnB wi w2.heap.size _ (C ++ natsB [(N : Int), L, S]) from HO.out (by omega))
     clear HO HI
     obtain ⟨Z, hZ2⟩ : ∃ Z, C ++ natsB [(N : Int), L, S] = Z := ⟨_, rfl⟩
     rw [hZ2] at HZ hEZ HOW
     have hb3 := hbi
     have BI3 := BI
     rename World => w3
     (have c3_0 : w3.cell? ⟨w.heap.size, 0, none⟩ = some (.int .i64 c0) := kC hb3); (have c3_1 : w3.cell? ⟨w.heap.size, 14, none⟩ = some (.slice wa wn wc) := kC hb3); (have c3_2 : w3.cell? ⟨w.heap.size, 15, none⟩ = some (.slice fa fn fc) := kC hb3); (have c3_3 : w3.cell? ⟨w.heap.size, 16, none⟩ = some (.slice aa an ac) := kC hb3); (obtain ⟨l3_0, n3_0, m3_0⟩ := lnm (show w.heap.size < w3.heap.size by first | omega | (simp at y3; omega)))
     clear hbi hb3 hZ2 k1 k2 k3 BI zj hk
     rw [show ((3 : Nat) : Int) = 3 from rfl]
     go_wp2_with fail
     go_loopw [4, 8, 37] (fun b _ i wr => ∃ k : Nat, i = .int .i64 (k : Int) ∧ k ≤ wn ∧ OwnB wr w2.heap.size b (Z ++ winBy ⟨c0, c1, c2, c3, c4, c5, c6, c7, c8, c9, c10, N, L, S, win, f, al⟩ (win.take k)) ∧ Below w2.heap.size w2 wr) (fun _ _ i _ => wn - (intOf i).toNat)
     case atStart => exact ⟨0, rfl, Nat.zero_le _, by simpa [winBy] using HOW.out, BI3.out⟩
     case round =>
       obtain ⟨k, rfl, hk, hown, hb4⟩ := hrel
       rename World => w4
       have HO := hH hown
       have BI := hH hb4
       have z4 := hb4.size
       have BZ4 := BI
       have B4 := hH (show Below w.heap.size w w4 from B2.out.trans (hb4.mono B2.out.size))
       (have c4_0 : w4.cell? ⟨w.heap.size, 0, none⟩ = some (.int .i64 c0) := kC hb4); (have c4_1 : w4.cell? ⟨w.heap.size, 14, none⟩ = some (.slice wa wn wc) := kC hb4); (have c4_2 : w4.cell? ⟨w.heap.size, 15, none⟩ = some (.slice fa fn fc) := kC hb4); (have c4_3 : w4.cell? ⟨w.heap.size, 16, none⟩ = some (.slice aa an ac) := kC hb4); (obtain ⟨l4_0, n4_0, m4_0⟩ := lnm (show w.heap.size < w4.heap.size by first | omega | (simp at y4; omega)))
       by_cases hlt : k < wn
       · obtain ⟨⟨i, x, p, q, s⟩, ht⟩ := getElem?_ex (l := win) (k := k) (by rw [HWN.out]; exact hlt)
         obtain ⟨b, o, xa, xc, e, hbb, y0, y1, y2, y3, y4, hx⟩ := (HS.out.below B4.out).at ht
         subst e
         dsimp only at y0 y1 y2 y3 y4 hx
         have i1 : (0 : Int) ≤ (k : Int) := by omega
         have i2 : (k : Int) < (wn : Int) := by omega
         have HLT := hH hlt
         have HTK := hH (show winBy ⟨c0, c1, c2, c3, c4, c5, c6, c7, c8, c9, c10, N, L, S, win, f, al⟩ (win.take (k + 1)) = winBy ⟨c0, c1, c2, c3, c4, c5, c6, c7, c8, c9, c10, N, L, S, win, f, al⟩ (win.take k) ++ seenTW (i, x, p, q, s) c0 by rw [winBy, List.take_add_one, ht, List.flatMap_append]; simp [winBy])
         have HLN := hH (show (Z ++ winBy ⟨c0, c1, c2, c3, c4, c5, c6, c7, c8, c9, c10, N, L, S, win, f, al⟩ (win.take k)).length ≤ 40000 by have := HZ.out; have := HWB.out k; rw [List.length_append]; omega)
         have HSL := hH (seenBytes_len i x p q s c0)
         have HX := hH hx
         have HPS := hH (fun W (hW : Ints .i64 W (.slice xa x.length xc) x) => putSeen_any (.slice none 0 0) [] i p q c0 s _ x W (ints_nil _ _ _ _ (by omega)) hW (by simp))
         obtain ⟨oa, om, oc, rfl⟩ := own_shape hown
         obtain ⟨GK, hGK⟩ : ∃ G, Z ++ winBy ⟨c0, c1, c2, c3, c4, c5, c6, c7, c8, c9, c10, N, L, S, win, f, al⟩ (win.take k) = G := ⟨_, rfl⟩
         rw [hGK] at HO HLN
         have HGK := hH hGK
         generalize x.length = xn at *
         clear hx ht hown hb4 hlt hGK
         go_wp2_with fail
         (with_reducible refine (HPS.out _ (HX.out.below bw)).mono ?_)
         rintro e w5 ⟨v5, rfl, i5, b5⟩
         have I5 := hH (show Ints .u8 w5 v5 (seenTW (i, x, p, q, s) c0) from i5)
         have O5 := hH (own_keep HO.out (fun g _ hg => ((show Below w4.heap.size w4 _ from bw).block g hg).symm ▸ (b5.block g mJ).trans ((show Below w4.heap.size w4 _ from bw).block g hg)) : OwnB w5 w2.heap.size _ GK)
         have B5 := hH (Bc (B := w4.heap.size) (a := w4) bw b5)
         have z5 : w4.heap.size ≤ w5.heap.size := sz b5
         clear i5 b5
         go_wp2_with (at_builtin; go_must (refine appBW rfl _ _ rfl w2.heap.size (by rfl) O5.out (by rfl) I5.out (by have := HLN.out; have := HSL.out; simp only [seenTW]; omega) (by omega) ?_))
         intro v6 w6 o6 b6 _ _
         have O6 := hH o6
         have B6 := hH (show Below w2.heap.size w2 w6 from (show Below w2.heap.size w2 w5 from BI.out.trans (B5.out.mono z4)).trans b6)
         clear o6 b6
         go_wp2_with fail
         go_roundw
         case rel => exact ⟨k + 1, by go_num, by have := HLT.out; omega, by rw [HTK.out, ← List.append_assoc, HGK.out]; exact O6.out, B6.out⟩
         case measure => have := HLT.out; simp [intOf] <;> omega
       · obtain rfl : wn = k := by omega
         rw [List.take_of_length_le (by rw [HWN.out]; exact Nat.le_refl _)] at hown
         have HO := hH hown
         have HLN := hH (show (Z ++ winBy ⟨c0, c1, c2, c3, c4, c5, c6, c7, c8, c9, c10, N, L, S, win, f, al⟩ win).length ≤ 40000 by have := HZ.out; have := HWB.out win.length; rw [List.take_length] at this; rw [List.length_append]; omega)
         obtain ⟨oa, om, oc, rfl⟩ := own_shape hown
         obtain ⟨G, hG4⟩ : ∃ G, Z ++ winBy ⟨c0, c1, c2, c3, c4, c5, c6, c7, c8, c9, c10, N, L, S, win, f, al⟩ win = G := ⟨_, rfl⟩
         rw [hG4] at HO HLN
         have HG4 := hH hG4
         clear hown hb4 hlt hk hG4 HWB
         go_wp2_with fail
         (with_reducible refine (HPF.out _ (HG.out.below (bx B4.out))).mono ?_); rintro e w5 ⟨v5, rfl, o5, b5, bz5⟩; have s5 : w4.heap.size ≤ w5.heap.size := sz b5; have B5 := bJ B4.out b5; have c5_0 : w5.cell? ⟨w.heap.size, 0, none⟩ = some (.int .i64 c0) := kC b5; have c5_1 : w5.cell? ⟨w.heap.size, 14, none⟩ = some (.slice wa wn wc) := kC b5; have c5_2 : w5.cell? ⟨w.heap.size, 15, none⟩ = some (.slice fa fn fc) := kC b5; have c5_3 : w5.cell? ⟨w.heap.size, 16, none⟩ = some (.slice aa an ac) := kC b5; obtain ⟨l5_0, n5_0, m5_0⟩ := lnm (show w.heap.size < w5.heap.size by omega); have HO := hH (own_keep (by (repeat (first | with_reducible exact HO.out | with_reducible refine own_set ?_ mJ | with_reducible refine own_drew ?_ | with_reducible refine World.ownsRow.alloc ?_ _ | exact HO.out))) (fun g _ hg => b5.block g hg)); clear b5
         have I5 := hH (o5.ints' (by have := HFB.out; omega))
         have BZ5 := hH (show Below w2.heap.size w2 w5 from below_tr (bx BZ4.out) (bz5.mono mJ))
         clear o5 bz5
         go_wp2_with (at_builtin; go_must (refine appBW rfl _ _ rfl w2.heap.size (by rfl) HO.out (by rfl) I5.out (by have := HLN.out; have := HFB.out; omega) (by omega) ?_))
         intro v6 w6 o6 b6 _ _
         have O6 := hH o6
         have z6 : w5.heap.size ≤ w6.heap.size := b6.size
         have B6 := hH (show Below w.heap.size w w6 from below_tr B5.out (b6.mono (by omega)))
         (have c6_0 : w6.cell? ⟨w.heap.size, 0, none⟩ = some (.int .i64 c0) := kC b6); (have c6_1 : w6.cell? ⟨w.heap.size, 14, none⟩ = some (.slice wa wn wc) := kC b6); (have c6_2 : w6.cell? ⟨w.heap.size, 15, none⟩ = some (.slice fa fn fc) := kC b6); (have c6_3 : w6.cell? ⟨w.heap.size, 16, none⟩ = some (.slice aa an ac) := kC b6); (obtain ⟨l6_0, n6_0, m6_0⟩ := lnm (show w.heap.size < w6.heap.size by omega))
         have BZ6 := hH (show Below w2.heap.size w2 w6 from below_tr (bx BZ5.out) b6)
         obtain ⟨oa, om, oc, rfl⟩ := own_shape o6
         have HL6 := hH (show (G ++ forestBy f).length ≤ 60000 by have := HLN.out; have := HFB.out; rw [List.length_append]; omega)
         obtain ⟨X, hX⟩ : ∃ X, G ++ forestBy f = X := ⟨_, rfl⟩
         rw [hX] at O6 HL6
         have HX6 := hH hX
         clear o6 b6 hX
         go_wp2_with fail
         (with_reducible refine (putU_any _ X an _ (O6.out.ints' (by have := HL6.out; omega)) (by have := HL6.out; omega) x4).mono ?_)
         rintro e w7 ⟨v7, rfl, o7, b7⟩
         have O7 := hH (OwnB.lower o7 (show w2.heap.size ≤ _ by omega))
         have z7 : w6.heap.size ≤ w7.heap.size := b7.size
         have B7 := hH (show Below w.heap.size w w7 from below_tr B6.out (b7.mono (by omega)))
         have BZ7 := hH (show Below w2.heap.size w2 w7 from below_tr BZ6.out (b7.mono (by omega)))
         (have c7_0 : w7.cell? ⟨w.heap.size, 0, none⟩ = some (.int .i64 c0) := kC b7); (have c7_1 : w7.cell? ⟨w.heap.size, 14, none⟩ = some (.slice wa wn wc) := kC b7); (have c7_2 : w7.cell? ⟨w.heap.size, 15, none⟩ = some (.slice fa fn fc) := kC b7); (have c7_3 : w7.cell? ⟨w.heap.size, 16, none⟩ = some (.slice aa an ac) := kC b7); (obtain ⟨l7_0, n7_0, m7_0⟩ := lnm (show w.heap.size < w7.heap.size by omega))
         have HL7 := hH (show (X ++ putsU an).length ≤ 60010 by have := HL6.out; have := putsU_len (n := an); rw [List.length_append]; omega)
         obtain ⟨Y, hY⟩ : ∃ Y, X ++ putsU an = Y := ⟨_, rfl⟩
         rw [hY] at O7 HL7
         have HY := hH hY
         clear o7 b7 hY
         go_wp2_with fail
         go_loopw [4, 10, 63] (fun b _ i wr => ∃ k : Nat, i = .int .i64 (k : Int) ∧ k ≤ an ∧ OwnB wr w2.heap.size b (Y ++ alertsBy (al.take k)) ∧ Below w2.heap.size w2 wr) (fun _ _ i _ => an - (intOf i).toNat)
         case atStart => exact ⟨0, rfl, Nat.zero_le _, by simpa [alertsBy] using O7.out, BZ7.out⟩
         case round =>
           obtain ⟨k, rfl, hk, hown, hb8⟩ := hrel
           rename World => w8
           have HO := hH hown
           have BI := hH hb8
           have z8 := hb8.size
           have B8 := hH (show Below w.heap.size w w8 from B2.out.trans (hb8.mono B2.out.size))
           by_cases hlt : k < an
           · obtain ⟨⟨q, i, ⟨p1, q1⟩, ⟨p2, q2⟩⟩, ht⟩ := getElem?_ex (l := al) (k := k) (by rw [HAN.out]; exact hlt)
             obtain ⟨b, o, e, hbb, y0, y1, y2, y3, y4, y5⟩ := (HA.out.below B8.out).at ht
             subst e
             dsimp only at y0 y1 y2 y3 y4 y5
             have i1 : (0 : Int) ≤ (k : Int) := by omega
             have i2 : (k : Int) < (an : Int) := by omega
             have HLT := hH hlt
             have HTK := hH (show alertsBy (al.take (k + 1)) = alertsBy (al.take k) ++ alertBytes (q, i, (p1, q1), (p2, q2)) by rw [alertsBy, List.take_add_one, ht, List.flatMap_append]; simp [alertsBy])
             have HLN := hH (show (Y ++ alertsBy (al.take k)).length ≤ 70000 by have := HL7.out; have := HAB.out k; rw [List.length_append]; omega)
             have HSL := hH (alertBytes_len (q, i, (p1, q1), (p2, q2)))
             have HPA := hH (fun W => putAlert_any q i p1 q1 p2 q2 W (HA1.out _ (List.mem_of_getElem? ht)))
             obtain ⟨oa, om, oc, rfl⟩ := own_shape hown
             obtain ⟨GK, hGK⟩ : ∃ G, Y ++ alertsBy (al.take k) = G := ⟨_, rfl⟩
             rw [hGK] at HO HLN
             have HGK := hH hGK
             clear ht hown hb8 hlt hGK
             go_wp2_with fail
             (with_reducible refine (HPA.out _).mono ?_)
             rintro e w9 ⟨v9, rfl, i9, b9⟩
             have I9 := hH i9
             have O9 := hH (own_keep HO.out (fun g _ hg => ((show Below w8.heap.size w8 _ from bw).block g hg).symm ▸ (b9.block g mJ).trans ((show Below w8.heap.size w8 _ from bw).block g hg)) : OwnB w9 w2.heap.size _ GK)
             have B9 := hH (Bc (B := w8.heap.size) (a := w8) bw b9)
             have z9 : w8.heap.size ≤ w9.heap.size := sz b9
             clear i9 b9
             go_wp2_with (at_builtin; go_must (refine appBW rfl _ _ rfl w2.heap.size (by rfl) O9.out (by rfl) I9.out (by have := HLN.out; have := HSL.out; omega) (by omega) ?_))
             intro v10 w10 o10 b10 _ _
             have O10 := hH o10
             have B10 := hH (show Below w2.heap.size w2 w10 from (show Below w2.heap.size w2 w9 from BI.out.trans (B9.out.mono z8)).trans b10)
             clear o10 b10
             go_wp2_with fail
             go_roundw
             case rel => exact ⟨k + 1, by go_num, by have := HLT.out; omega, by rw [HTK.out, ← List.append_assoc, HGK.out]; exact O10.out, B10.out⟩
             case measure => have := HLT.out; simp [intOf] <;> omega
           · obtain rfl : an = k := by omega
             rw [List.take_of_length_le (by rw [HAN.out]; exact Nat.le_refl _)] at hown
             have HIN := hH (show Ints .u8 w8 _ (putSt ⟨c0, c1, c2, c3, c4, c5, c6, c7, c8, c9, c10, N, L, S, win, f, al⟩) from by
               have hq := OwnB.ints' hown (by have := HL7.out; have := HAB.out al.length; rw [List.take_length] at this; rw [List.length_append]; omega)
               rw [hEZ.out, HG4.out, HAN.out, HX6.out, HY.out]
               exact hq)
             obtain ⟨oa, om, oc, rfl⟩ := own_shape hown
             clear hown hb8 hlt hk
             go_wp2_with fail
             exact bodyPost_ret (v := .tuple #[.slice oa om oc, .int .i64 0]) (by simp [results, Tryz.results20, go_sem]) rfl ⟨_, rfl, HIN.out, bx B8.out⟩
end Go.Proofs.YtgobbecpnjelmaaGreat
