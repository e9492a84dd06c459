/-
  StateU: Walk of copseref28.Put.
-/
import Derived.Test.YtgobbecpnjelmaaGreatKStateT
namespace Go.Proofs.YtgobbecpnjelmaaGreat
open Go.RowKit

theorem dupV {P : Program} {f : FuncId} {args : Array Value} {W : World} {R : Value → World → Prop} {L : Nat} (h : Calls P f args W fun e w' => ∃ v', e = .returned v' ∧ R v' w' ∧ Below L W w') : Calls P f args W fun e w' => ∃ v', e = .returned v' ∧ R v' w' ∧ Below L W w' ∧ Below L W w' :=
 h.mono (fun _ _ ⟨v', h1, h2, h3⟩ => ⟨v', h1, h2, h3, h3⟩)

set_option maxRecDepth 100000 in
set_option maxHeartbeats 4000000 in
theorem rconf22_own (c0 c1 c2 c3 c4 c5 c6 c7 c8 c9 c10 : Int) (w : World) :
  Calls Tryz.prog 54 #[.agg #[.int .i64 c0, .int .i64 c1, .int .i64 c2, .int .i64 c3, .int .i64 c4, .int .i64 c5, .int .i64 c6, .int .i64 c7, .int .i64 c8, .int .i64 c9, .int .i64 c10]] w fun e w' => ∃ v', e = .returned v' ∧ OwnB w' w.heap.size v' (confBytes c0 c1 c2 c3 c4 c5 c6 c7 c8 c9 c10) ∧ Below w.heap.size w w' := by
 have HI := hH (fun W => rright20_any c0 c1 c2 c3 c4 c5 c6 c7 c8 c9 c10 W)
 cases hs : confB11 c0 c1 c2 c3 c4 c5 c6 c7 c8 c9 c10 with
 | false =>
  have HSB := hH (show confBytes c0 c1 c2 c3 c4 c5 c6 c7 c8 c9 c10 = [] by unfold confBytes; rw [hs]; rfl)
  rw [hs] at HI
  clear hs
  go_enter Tryz.func54, Tryz.ntmps54
  go_wp2_with fail
  (with_reducible refine (HI.out _).mono ?_); rintro e w1 ⟨rfl, b1⟩; have s1 : w.heap.size + 1 ≤ w1.heap.size := sz b1; have B1 := hJ w b1; clear b1
  go_wp2_with fail
  go_ret
  exact ⟨_, rfl, by rw [HSB.out]; exact World.ownsRow_nil _ _ _ _, B1.out⟩
 | true =>
  have HPOS := hH (confB11_pos c0 c1 c2 c3 c4 c5 c6 c7 c8 c9 c10 hs)
  have HSB := hH (show confBytes c0 c1 c2 c3 c4 c5 c6 c7 c8 c9 c10 = natsB [c0, c1, c2, c3, c4, c5, c6, c7, c8, c9, c10] by unfold confBytes; rw [if_pos hs])
  have HNU := hH (fun W => rnumbers_any c0 c1 c2 c3 c4 c5 c6 c7 c8 c9 c10 W)
  obtain ⟨ls, hls⟩ : ∃ ls, [c0, c1, c2, c3, c4, c5, c6, c7, c8, c9, c10] = ls := ⟨_, rfl⟩
  have hln : ls.length = 11 := by rw [← hls]; rfl
  rw [hls] at HPOS HSB HNU
  rw [hs] at HI
  have HLN := hH hln
  clear hs hls hln
  go_enter Tryz.func54, Tryz.ntmps54
  go_wp2_with fail
  (with_reducible refine (HI.out _).mono ?_); rintro e w1 ⟨rfl, b1⟩; have s1 : w.heap.size + 1 ≤ w1.heap.size := sz b1; have B1 := hJ w b1; obtain ⟨c1_0, c1_1, c1_2, c1_3, c1_4, c1_5, c1_6, c1_7, c1_8, c1_9, c1_10⟩ := k11 (w.heap.size) (.int .i64 c0) (.int .i64 c1) (.int .i64 c2) (.int .i64 c3) (.int .i64 c4) (.int .i64 c5) (.int .i64 c6) (.int .i64 c7) (.int .i64 c8) (.int .i64 c9) (.int .i64 c10) b1 aJ; obtain ⟨l1_0, n1_0, m1_0⟩ := lnm (show w.heap.size < w1.heap.size by omega); clear b1
  go_wp2_with fail
  (with_reducible refine (HNU.out _).mono ?_); rintro e w2 ⟨v2, rfl, i2, b2⟩; have s2 : w1.heap.size ≤ w2.heap.size := sz b2; have B2 := bJ B1.out b2; clear b2
  obtain ⟨ad, c, rfl, q1, q2, q3, hx⟩ := i2
  have HX := hH hx
  rw [HLN.out] at q1
  clear hx q3
  rw [HLN.out]
  go_wp2_with fail
  go_loopw [3, 5] (fun b i wr => ∃ k : Nat, i = .int .i64 k ∧ k ≤ 11 ∧ OwnB wr w2.heap.size b (natsB (ls.take k)) ∧ Below w2.heap.size w2 wr) (fun _ i _ => 11 - (intOf i).toNat)
  case atStart => exact ⟨0, rfl, by omega, World.ownsRow_nil _ _ _ _, bw⟩
  case round =>
   obtain ⟨k, rfl, hk, ho, hbr⟩ := hrel
   have HO := hH ho
   have HBR := hH hbr
   have hsz := hbr.size
   have hlb : (natsB (ls.take k)).length ≤ 99 := by
    have := natsB_len (ls.take k)
    rw [List.length_take] at this
    omega
   have HLB := hH hlb
   clear ho hlb
   by_cases hlt : k < 11
   ·obtain ⟨x, hx⟩ := getElem?_ex (l := ls) (k := k) (by rw [HLN.out]; exact hlt)
    obtain ⟨b, o, rfl, hbw, c0⟩ := HX.out k x hx
    have e0 := (hbr.cell (p := ⟨b, o + k, none⟩) hbw).trans c0
    have hx0 := HPOS.out x (List.mem_of_getElem? hx)
    obtain ⟨m, rfl⟩ : ∃ m : Nat, x = (m : Int) := ⟨x.toNat, by omega⟩
    have HK := hH (natsB_next hx)
    have hm : (m : Int) ≤ 18446744073709551615 := by omega
    have i2 : (k : Int) < 11 := by omega
    have i1 : (0 : Int) ≤ (k : Int) := by omega
    clear hbr c0 hx hx0
    go_wp2_with fail
    (with_reducible refine (rU_any m _ (by omega)).mono ?_)
    rintro e w4 ⟨v4, rfl, o4, b4⟩
    have hpl := putsU_len (n := m)
    have O4 := hH (o4.ints' (by omega))
    have HO4 := hH (OwnB.below HO.out b4)
    have s4 : wr.heap.size ≤ w4.heap.size := sz b4
    have B4 := hH (Bc (B := w2.heap.size) (a := w2) (bx HBR.out) b4)
    clear b4 o4
    go_wp2_with (at_builtin; go_must (refine appInts rfl _ _ 45 rfl Tryz.underlying45 eiU8 w2.heap.size (by rfl) HO4.out (by rfl) O4.out (by have := HLB.out; omega) (by omega) ?_))
    intro v5 w5 ho5 hb5 _
    have O5 := hH (show OwnB w5 w2.heap.size v5 (natsB (ls.take (k + 1))) by (rw [HK.out]; unfold OwnB; rw [List.map_append, List.length_append]; exact ho5))
    have B5 := hH (Bc (B := w2.heap.size) (a := w2) B4.out hb5)
    clear ho5 hb5
    go_wp2
    go_roundw
    case rel => exact ⟨k + 1, by go_num, by omega, O5.out, B5.out⟩
    case measure => simp [intOf] <;> omega
   ·obtain rfl : k = 11 := by omega
    have htk : ls.take 11 = ls := List.take_of_length_le (by rw [HLN.out]; exact Nat.le_refl _)
    rw [htk] at HO HLB
    clear htk hbr
    go_wp2_with fail
    go_ret
    exact ⟨_, rfl, by rw [HSB.out]; exact OwnB.lower HO.out (by have := B2.out.size; omega), by (repeat (first | with_reducible exact Below.refl _ _ | with_reducible refine Bs ?_ | with_reducible refine Ba ?_ | with_reducible refine Bd ?_ | with_reducible refine Bn ?_ | with_reducible refine Bt HBR.out ?_ | with_reducible refine Bt B2.out ?_))⟩

set_option maxRecDepth 100000 in
set_option maxHeartbeats 16000000 in
theorem rput28_no (c0 c1 c2 c3 c4 c5 c6 c7 c8 c9 c10 : Int) (count last seq : Int) (wa fa aa : Option Addr) (wn wc fn fc an ac : Nat) (win : List SeenT) (f : List (TreeP × Int)) (al : List AlertT) (w : World)
  (hS : SeensR w (.slice wa wn wc) win) (hwn : win.length = wn) (hG : GrownsR w (.slice fa fn fc) f) (hfn : f.length = fn) (hA : AlertsR w (.slice aa an ac) al) (han : al.length = an) (hB : stateB ⟨c0, c1, c2, c3, c4, c5, c6, c7, c8, c9, c10, count, last, seq, win, f, al⟩ = false) :
  Calls Tryz.prog 21 #[.agg #[.int .i64 c0, .int .i64 c1, .int .i64 c2, .int .i64 c3, .int .i64 c4, .int .i64 c5, .int .i64 c6, .int .i64 c7, .int .i64 c8, .int .i64 c9, .int .i64 c10, .int .i64 count, .int .i64 last, .int .i64 seq, .slice wa wn wc, .slice fa fn fc, .slice aa an ac]] w fun e w' => e = .returned (.tuple #[.slice none 0 0, .int .i64 280]) ∧ Below w.heap.size w w' := by
 have HR := hH (fun W (h1 : SeensR W (.slice wa wn wc) win) (h2 : GrownsR W (.slice fa fn fc) f) (h3 : AlertsR W (.slice aa an ac) al) => dupC (hB ▸ rright28_any c0 c1 c2 c3 c4 c5 c6 c7 c8 c9 c10 count last seq wa fa aa wn wc fn fc an ac win f al W h1 hwn h2 hfn h3 han))
 have HS := hH hS
 have HG := hH hG
 have HA := hH hA
 clear hB hS hG hA hwn hfn han
 go_enter Tryz.func21, Tryz.ntmps21
 go_upto_region 1 with fail
 have R0 := hH (rowz_new (W := w) (T := 28) (cs := #[.int .i64 c0, .int .i64 c1, .int .i64 c2, .int .i64 c3, .int .i64 c4, .int .i64 c5, .int .i64 c6, .int .i64 c7, .int .i64 c8, .int .i64 c9, .int .i64 c10, .int .i64 count, .int .i64 last, .int .i64 seq, .slice wa wn wc, .slice fa fn fc, .slice aa an ac]) rfl)
 refine wp_region_lit ?_
 refine loadRow rfl 28 _ rfl R0.out (by rfl) Tryz.underlying28 rfl rJ ?_
 (try simp only [Act.put, List.setIfInBounds_toArray, List.set_cons_zero, List.set_cons_succ])
 go_wp2_with fail
 (with_reducible refine (HR.out _ (HS.out.below bw) (HG.out.below bw) (HA.out.below bw)).mono ?_); rintro e w1 ⟨rfl, b1, bx1⟩; have s1 : w.heap.size + 1 ≤ w1.heap.size := sz b1; have B1 := hJ w b1; clear b1
 clear bx1
 go_wp2_with fail
 exact bodyPost_ret (v := .tuple #[.slice none 0 0, .int .i64 280]) (by simp [results, Tryz.results21, go_sem]) rfl ⟨rfl, bx B1.out⟩

set_option maxRecDepth 100000 in
set_option maxHeartbeats 16000000 in
theorem rput28_yes (c0 c1 c2 c3 c4 c5 c6 c7 c8 c9 c10 : Int) (count last seq : Int) (wa fa aa : Option Addr) (wn wc fn fc an ac : Nat) (win : List SeenT) (f : List (TreeP × Int)) (al : List AlertT) (w : World)
  (hS : SeensR w (.slice wa wn wc) win) (hwn : win.length = wn) (hG : GrownsR w (.slice fa fn fc) f) (hfn : f.length = fn) (hA : AlertsR w (.slice aa an ac) al) (han : al.length = an) (hB : stateB ⟨c0, c1, c2, c3, c4, c5, c6, c7, c8, c9, c10, count, last, seq, win, f, al⟩ = true) :
  Calls Tryz.prog 21 #[.agg #[.int .i64 c0, .int .i64 c1, .int .i64 c2, .int .i64 c3, .int .i64 c4, .int .i64 c5, .int .i64 c6, .int .i64 c7, .int .i64 c8, .int .i64 c9, .int .i64 c10, .int .i64 count, .int .i64 last, .int .i64 seq, .slice wa wn wc, .slice fa fn fc, .slice aa an ac]] w fun e w' => ∃ v', e = .returned (.tuple #[v', .int .i64 0]) ∧ Ints .u8 w' v' (putSt ⟨c0, c1, c2, c3, c4, c5, c6, c7, c8, c9, c10, count, last, seq, win, f, al⟩) ∧ Below w.heap.size w w' := by
 have HR := hH (fun W (h1 : SeensR W (.slice wa wn wc) win) (h2 : GrownsR W (.slice fa fn fc) f) (h3 : AlertsR W (.slice aa an ac) al) => dupC (hB ▸ rright28_any c0 c1 c2 c3 c4 c5 c6 c7 c8 c9 c10 count last seq wa fa aa wn wc fn fc an ac win f al W h1 hwn h2 hfn h3 han))
 have hRP := stateB_is hB
 have hE := putSt_eq ⟨c0, c1, c2, c3, c4, c5, c6, c7, c8, c9, c10, count, last, seq, win, f, al⟩
 have hZ := pre3_len hRP
 have hWB := winBy_le hRP
 have hAB := alertsBy_le hRP
 have hFB := forestBy_le hRP
 have hW1 := hRP.win
 have hA1 := hRP.al
 have hwn2 : wn ≤ 256 := by have := hRP.winL; have := (confB_iff _ hRP.conf).2.1; dsimp only at *; omega
 have han2 : an ≤ 64 := by have := hRP.alL; have := (confB_iff _ hRP.conf).2.2.2.2; dsimp only at *; omega
 obtain ⟨n1, n2⟩ := hRP.count
 obtain ⟨l1, l2⟩ := hRP.last
 obtain ⟨s1, s2⟩ := hRP.seq
 have hCB := hRP.conf
 dsimp only at hE hZ hWB hAB hFB hW1 hA1 n1 n2 l1 l2 s1 s2
 have HPC := hH (fun W => dupV (R := fun v' w' => OwnB w' W.heap.size v' (natsB (StP.conf ⟨c0, c1, c2, c3, c4, c5, c6, c7, c8, c9, c10, count, last, seq, win, f, al⟩))) (show Calls Tryz.prog 54 #[.agg #[.int .i64 c0, .int .i64 c1, .int .i64 c2, .int .i64 c3, .int .i64 c4, .int .i64 c5, .int .i64 c6, .int .i64 c7, .int .i64 c8, .int .i64 c9, .int .i64 c10]] W fun e w' => ∃ v', e = .returned v' ∧ OwnB w' W.heap.size v' (natsB (StP.conf ⟨c0, c1, c2, c3, c4, c5, c6, c7, c8, c9, c10, count, last, seq, win, f, al⟩)) ∧ Below W.heap.size W w' from by
  have := rconf22_own c0 c1 c2 c3 c4 c5 c6 c7 c8 c9 c10 W
  rw [show confBytes c0 c1 c2 c3 c4 c5 c6 c7 c8 c9 c10 = natsB (StP.conf ⟨c0, c1, c2, c3, c4, c5, c6, c7, c8, c9, c10, count, last, seq, win, f, al⟩) from confBytes_yes hCB] at this
  exact this))
 unfold pre3 at hZ hE
 obtain ⟨C, hC⟩ : ∃ C, natsB (StP.conf ⟨c0, c1, c2, c3, c4, c5, c6, c7, c8, c9, c10, count, last, seq, win, f, al⟩) = C := ⟨_, rfl⟩
 rw [hC] at HPC
 rw [show natsB (StP.conf ⟨c0, c1, c2, c3, c4, c5, c6, c7, c8, c9, c10, count, last, seq, win, f, al⟩) = C from hC] at hZ hE
 dsimp only at hZ hE
 clear hRP hC hB hCB
 obtain ⟨N, rfl⟩ : ∃ N : Nat, count = (N : Int) := ⟨count.toNat, by omega⟩
 obtain ⟨L, rfl⟩ : ∃ N : Nat, last = (N : Int) := ⟨last.toNat, by omega⟩
 obtain ⟨S, rfl⟩ : ∃ N : Nat, seq = (N : Int) := ⟨seq.toNat, by omega⟩
 have hEZ := hH hE
 have HZ := hH hZ
 have HWB := hH hWB
 have HAB := hH hAB
 have HFB := hH hFB
 have HW1 := hH hW1
 have HA1 := hH hA1
 have HWN := hH hwn
 have HAN := hH han
 have HS := hH hS
 have HG := hH hG
 have HA := hH hA
 have u1 := u64_wrap (z := (N : Int)) (by omega) (by omega)
 have u2 := u64_wrap (z := (L : Int)) (by omega) (by omega)
 have u3 := u64_wrap (z := (S : Int)) (by omega) (by omega)
 have u4 := u64_wrap (z := (an : Int)) (by omega) (by omega)
 have x1 : (N : Int) ≤ 18446744073709551615 := by omega
 have x2 : (L : Int) ≤ 18446744073709551615 := by omega
 have x3 : (S : Int) ≤ 18446744073709551615 := by omega
 have x4 : (an : Int) ≤ 18446744073709551615 := by omega
 have HPF := hH (fun W (h : GrownsR W (.slice fa fn fc) f) => (rforest23_any _ f W h).mono (R' := fun e w' => ∃ v', e = .returned v' ∧ OwnB w' W.heap.size v' (forestBy f) ∧ Below W.heap.size W w' ∧ Below W.heap.size W w') (fun _ _ ⟨v', h1, h2, h3⟩ => ⟨v', h1, h2, h3, h3⟩))
 clear hE hZ hWB hAB hFB hW1 hA1 hwn hfn han hS hG hA n1 n2 l1 l2 s1 s2
 go_enter Tryz.func21, Tryz.ntmps21
 go_upto_region 1 with fail
 have R0 := hH (rowz_new (W := w) (T := 28) (cs := #[.int .i64 c0, .int .i64 c1, .int .i64 c2, .int .i64 c3, .int .i64 c4, .int .i64 c5, .int .i64 c6, .int .i64 c7, .int .i64 c8, .int .i64 c9, .int .i64 c10, .int .i64 (N : Int), .int .i64 (L : Int), .int .i64 (S : Int), .slice wa wn wc, .slice fa fn fc, .slice aa an ac]) rfl)
 refine wp_region_lit ?_
 refine loadRow rfl 28 _ rfl R0.out (by rfl) Tryz.underlying28 rfl rJ ?_
 (try simp only [Act.put, List.setIfInBounds_toArray, List.set_cons_zero, List.set_cons_succ])
 go_wp2_with fail
 (with_reducible refine (HR.out _ (HS.out.below bw) (HG.out.below bw) (HA.out.below bw)).mono ?_); rintro e w1 ⟨rfl, b1, bx1⟩; have s1 : w.heap.size + 1 ≤ w1.heap.size := sz b1; have B1 := hJ w b1; have c1_0 : w1.cell? ⟨w.heap.size, 0, none⟩ = some (.int .i64 c0) := kC b1; have c1_1 : w1.cell? ⟨w.heap.size, 1, none⟩ = some (.int .i64 c1) := kC b1; have c1_2 : w1.cell? ⟨w.heap.size, 2, none⟩ = some (.int .i64 c2) := kC b1; have c1_3 : w1.cell? ⟨w.heap.size, 3, none⟩ = some (.int .i64 c3) := kC b1; have c1_4 : w1.cell? ⟨w.heap.size, 4, none⟩ = some (.int .i64 c4) := kC b1; have c1_5 : w1.cell? ⟨w.heap.size, 5, none⟩ = some (.int .i64 c5) := kC b1; have c1_6 : w1.cell? ⟨w.heap.size, 6, none⟩ = some (.int .i64 c6) := kC b1; have c1_7 : w1.cell? ⟨w.heap.size, 7, none⟩ = some (.int .i64 c7) := kC b1; have c1_8 : w1.cell? ⟨w.heap.size, 8, none⟩ = some (.int .i64 c8) := kC b1; have c1_9 : w1.cell? ⟨w.heap.size, 9, none⟩ = some (.int .i64 c9) := kC b1; have c1_10 : w1.cell? ⟨w.heap.size, 10, none⟩ = some (.int .i64 c10) := kC b1; have c1_11 : w1.cell? ⟨w.heap.size, 11, none⟩ = some (.int .i64 (N : Int)) := kC b1; have c1_12 : w1.cell? ⟨w.heap.size, 12, none⟩ = some (.int .i64 (L : Int)) := kC b1; have c1_13 : w1.cell? ⟨w.heap.size, 13, none⟩ = some (.int .i64 (S : Int)) := kC b1; have c1_14 : w1.cell? ⟨w.heap.size, 14, none⟩ = some (.slice wa wn wc) := kC b1; have c1_15 : w1.cell? ⟨w.heap.size, 15, none⟩ = some (.slice fa fn fc) := kC b1; have c1_16 : w1.cell? ⟨w.heap.size, 16, none⟩ = some (.slice aa an ac) := kC b1; obtain ⟨l1_0, n1_0, m1_0⟩ := lnm (show w.heap.size < w1.heap.size by omega); clear b1
 clear bx1
 go_wp2_with fail
 (with_reducible refine (HPC.out _).mono ?_); rintro e w2 ⟨v2, rfl, o2, b2, bz2⟩; have s2 : w1.heap.size ≤ w2.heap.size := sz b2; have B2 := bJ B1.out b2; have c2_0 : w2.cell? ⟨w.heap.size, 0, none⟩ = some (.int .i64 c0) := kC b2; have c2_1 : w2.cell? ⟨w.heap.size, 11, none⟩ = some (.int .i64 (N : Int)) := kC b2; have c2_2 : w2.cell? ⟨w.heap.size, 12, none⟩ = some (.int .i64 (L : Int)) := kC b2; have c2_3 : w2.cell? ⟨w.heap.size, 13, none⟩ = some (.int .i64 (S : Int)) := kC b2; have c2_4 : w2.cell? ⟨w.heap.size, 14, none⟩ = some (.slice wa wn wc) := kC b2; have c2_5 : w2.cell? ⟨w.heap.size, 15, none⟩ = some (.slice fa fn fc) := kC b2; have c2_6 : w2.cell? ⟨w.heap.size, 16, none⟩ = some (.slice aa an ac) := kC b2; obtain ⟨l2_0, n2_0, m2_0⟩ := lnm (show w.heap.size < w2.heap.size by omega); clear b2
 have HCL := hH (show C.length ≤ 130 by have := HZ.out; rw [List.length_append] at this; omega)
 have HO2 := hH (OwnB.lower o2 (show w1.heap.size ≤ _ by first | omega | (simp; done) | (simp; omega)))
 have BZ2 := hH (show Below w1.heap.size w1 w2 from below_tr bw (bz2.mono mJ))
 obtain ⟨oa, om, oc, rfl⟩ := own_shape o2
 clear o2 bz2
 go_wp2_with fail
 (with_reducible refine (dupV (rU_any N _ x1)).mono ?_); rintro e w3 ⟨v3, rfl, o3, b3, bz3⟩; have s3 : w2.heap.size ≤ w3.heap.size := sz b3; have B3 := bJ B2.out b3; have c3_0 : w3.cell? ⟨w.heap.size, 0, none⟩ = some (.int .i64 c0) := kC b3; have c3_1 : w3.cell? ⟨w.heap.size, 11, none⟩ = some (.int .i64 (N : Int)) := kC b3; have c3_2 : w3.cell? ⟨w.heap.size, 12, none⟩ = some (.int .i64 (L : Int)) := kC b3; have c3_3 : w3.cell? ⟨w.heap.size, 13, none⟩ = some (.int .i64 (S : Int)) := kC b3; have c3_4 : w3.cell? ⟨w.heap.size, 14, none⟩ = some (.slice wa wn wc) := kC b3; have c3_5 : w3.cell? ⟨w.heap.size, 15, none⟩ = some (.slice fa fn fc) := kC b3; have c3_6 : w3.cell? ⟨w.heap.size, 16, none⟩ = some (.slice aa an ac) := kC b3; obtain ⟨l3_0, n3_0, m3_0⟩ := lnm (show w.heap.size < w3.heap.size by omega); have HO2 := hH (own_keep (by (repeat (first | with_reducible exact HO2.out | with_reducible refine own_set ?_ mJ | with_reducible refine own_drew ?_ | with_reducible refine World.ownsRow.alloc ?_ _ | exact HO2.out))) (fun g _ hg => b3.block g hg)); clear b3
 have I3 := hH (o3.ints' (by have := putsU_len (n := N); omega))
 have z3 : w2.heap.size ≤ w3.heap.size := sz bz3
 have BZ3 := hH (show Below w1.heap.size w1 w3 from below_tr (bx BZ2.out) (bz3.mono mJ))
 clear o3 bz3
 go_wp2_with (at_builtin; go_must (refine appBW rfl _ _ rfl w1.heap.size (by rfl) HO2.out (by rfl) I3.out (by have := HCL.out; have := putsU_len (n := N); have := putsU_len (n := L); have := putsU_len (n := S); (try simp only [List.length_append]); omega) (by omega) ?_))
 intro v4 w4 o4 b4 _ _
 have HO4 := hH (show OwnB w4 w1.heap.size v4 (C ++ putsU N) from o4)
 have z4 : w3.heap.size ≤ w4.heap.size := b4.size
 have B4 := hH (show Below w.heap.size w w4 from below_tr B3.out (b4.mono (by omega)))
 have BZ4 := hH (show Below w1.heap.size w1 w4 from below_tr BZ3.out b4)
 (have c4_0 : w4.cell? ⟨w.heap.size, 0, none⟩ = some (.int .i64 c0) := kC b4); (have c4_1 : w4.cell? ⟨w.heap.size, 11, none⟩ = some (.int .i64 (N : Int)) := kC b4); (have c4_2 : w4.cell? ⟨w.heap.size, 12, none⟩ = some (.int .i64 (L : Int)) := kC b4); (have c4_3 : w4.cell? ⟨w.heap.size, 13, none⟩ = some (.int .i64 (S : Int)) := kC b4); (have c4_4 : w4.cell? ⟨w.heap.size, 14, none⟩ = some (.slice wa wn wc) := kC b4); (have c4_5 : w4.cell? ⟨w.heap.size, 15, none⟩ = some (.slice fa fn fc) := kC b4); (have c4_6 : w4.cell? ⟨w.heap.size, 16, none⟩ = some (.slice aa an ac) := kC b4); (obtain ⟨l4_0, n4_0, m4_0⟩ := lnm (show w.heap.size < w4.heap.size by omega))
 obtain ⟨oa, o2, oc, rfl⟩ := own_shape o4
 clear o4 b4
 go_wp2_with fail
 (with_reducible refine (dupV (rU_any L _ x2)).mono ?_); rintro e w5 ⟨v5, rfl, o5, b5, bz5⟩; have s5 : w4.heap.size ≤ w5.heap.size := sz b5; have B5 := bJ B4.out b5; have c5_0 : w5.cell? ⟨w.heap.size, 0, none⟩ = some (.int .i64 c0) := kC b5; have c5_1 : w5.cell? ⟨w.heap.size, 11, none⟩ = some (.int .i64 (N : Int)) := kC b5; have c5_2 : w5.cell? ⟨w.heap.size, 12, none⟩ = some (.int .i64 (L : Int)) := kC b5; have c5_3 : w5.cell? ⟨w.heap.size, 13, none⟩ = some (.int .i64 (S : Int)) := kC b5; have c5_4 : w5.cell? ⟨w.heap.size, 14, none⟩ = some (.slice wa wn wc) := kC b5; have c5_5 : w5.cell? ⟨w.heap.size, 15, none⟩ = some (.slice fa fn fc) := kC b5; have c5_6 : w5.cell? ⟨w.heap.size, 16, none⟩ = some (.slice aa an ac) := kC b5; obtain ⟨l5_0, n5_0, m5_0⟩ := lnm (show w.heap.size < w5.heap.size by omega); have HO4 := hH (own_keep (by (repeat (first | with_reducible exact HO4.out | with_reducible refine own_set ?_ mJ | with_reducible refine own_drew ?_ | with_reducible refine World.ownsRow.alloc ?_ _ | exact HO4.out))) (fun g _ hg => b5.block g hg)); clear b5
 have I5 := hH (o5.ints' (by have := putsU_len (n := L); omega))
 have z5 : w4.heap.size ≤ w5.heap.size := sz bz5
 have BZ5 := hH (show Below w1.heap.size w1 w5 from below_tr (bx BZ4.out) (bz5.mono mJ))
 clear o5 bz5
 go_wp2_with (at_builtin; go_must (refine appBW rfl _ _ rfl w1.heap.size (by rfl) HO4.out (by rfl) I5.out (by have := HCL.out; have := putsU_len (n := N); have := putsU_len (n := L); have := putsU_len (n := S); (try simp only [List.length_append]); omega) (by omega) ?_))
 intro v6 w6 o6 b6 _ _
 have HO6 := hH (show OwnB w6 w1.heap.size v6 (C ++ (putsU N ++ putsU L)) from o6)
 have z6 : w5.heap.size ≤ w6.heap.size := b6.size
 have B6 := hH (show Below w.heap.size w w6 from below_tr B5.out (b6.mono (by omega)))
 have BZ6 := hH (show Below w1.heap.size w1 w6 from below_tr BZ5.out b6)
 (have c6_0 : w6.cell? ⟨w.heap.size, 0, none⟩ = some (.int .i64 c0) := kC b6); (have c6_1 : w6.cell? ⟨w.heap.size, 11, none⟩ = some (.int .i64 (N : Int)) := kC b6); (have c6_2 : w6.cell? ⟨w.heap.size, 12, none⟩ = some (.int .i64 (L : Int)) := kC b6); (have c6_3 : w6.cell? ⟨w.heap.size, 13, none⟩ = some (.int .i64 (S : Int)) := kC b6); (have c6_4 : w6.cell? ⟨w.heap.size, 14, none⟩ = some (.slice wa wn wc) := kC b6); (have c6_5 : w6.cell? ⟨w.heap.size, 15, none⟩ = some (.slice fa fn fc) := kC b6); (have c6_6 : w6.cell? ⟨w.heap.size, 16, none⟩ = some (.slice aa an ac) := kC b6); (obtain ⟨l6_0, n6_0, m6_0⟩ := lnm (show w.heap.size < w6.heap.size by omega))
 obtain ⟨oa, o4, oc, rfl⟩ := own_shape o6
 clear o6 b6
 go_wp2_with fail
 (with_reducible refine (dupV (rU_any S _ x3)).mono ?_); rintro e w7 ⟨v7, rfl, o7, b7, bz7⟩; have s7 : w6.heap.size ≤ w7.heap.size := sz b7; have B7 := bJ B6.out b7; have c7_0 : w7.cell? ⟨w.heap.size, 0, none⟩ = some (.int .i64 c0) := kC b7; have c7_1 : w7.cell? ⟨w.heap.size, 11, none⟩ = some (.int .i64 (N : Int)) := kC b7; have c7_2 : w7.cell? ⟨w.heap.size, 12, none⟩ = some (.int .i64 (L : Int)) := kC b7; have c7_3 : w7.cell? ⟨w.heap.size, 13, none⟩ = some (.int .i64 (S : Int)) := kC b7; have c7_4 : w7.cell? ⟨w.heap.size, 14, none⟩ = some (.slice wa wn wc) := kC b7; have c7_5 : w7.cell? ⟨w.heap.size, 15, none⟩ = some (.slice fa fn fc) := kC b7; have c7_6 : w7.cell? ⟨w.heap.size, 16, none⟩ = some (.slice aa an ac) := kC b7; obtain ⟨l7_0, n7_0, m7_0⟩ := lnm (show w.heap.size < w7.heap.size by omega); have HO6 := hH (own_keep (by (repeat (first | with_reducible exact HO6.out | with_reducible refine own_set ?_ mJ | with_reducible refine own_drew ?_ | with_reducible refine World.ownsRow.alloc ?_ _ | exact HO6.out))) (fun g _ hg => b7.block g hg)); clear b7
 have I7 := hH (o7.ints' (by have := putsU_len (n := S); omega))
 have z7 : w6.heap.size ≤ w7.heap.size := sz bz7
 have BZ7 := hH (show Below w1.heap.size w1 w7 from below_tr (bx BZ6.out) (bz7.mono mJ))
 clear o7 bz7
 go_wp2_with (at_builtin; go_must (refine appBW rfl _ _ rfl w1.heap.size (by rfl) HO6.out (by rfl) I7.out (by have := HCL.out; have := putsU_len (n := N); have := putsU_len (n := L); have := putsU_len (n := S); (try simp only [List.length_append]); omega) (by omega) ?_))
 intro v8 w8 o8 b8 _ _
 have HO8 := hH (show OwnB w8 w1.heap.size v8 (C ++ (putsU N ++ (putsU L ++ putsU S))) from o8)
 have z8 : w7.heap.size ≤ w8.heap.size := b8.size
 have B8 := hH (show Below w.heap.size w w8 from below_tr B7.out (b8.mono (by omega)))
 have BZ8 := hH (show Below w1.heap.size w1 w8 from below_tr BZ7.out b8)
 (have c8_0 : w8.cell? ⟨w.heap.size, 0, none⟩ = some (.int .i64 c0) := kC b8); (have c8_1 : w8.cell? ⟨w.heap.size, 11, none⟩ = some (.int .i64 (N : Int)) := kC b8); (have c8_2 : w8.cell? ⟨w.heap.size, 12, none⟩ = some (.int .i64 (L : Int)) := kC b8); (have c8_3 : w8.cell? ⟨w.heap.size, 13, none⟩ = some (.int .i64 (S : Int)) := kC b8); (have c8_4 : w8.cell? ⟨w.heap.size, 14, none⟩ = some (.slice wa wn wc) := kC b8); (have c8_5 : w8.cell? ⟨w.heap.size, 15, none⟩ = some (.slice fa fn fc) := kC b8); (have c8_6 : w8.cell? ⟨w.heap.size, 16, none⟩ = some (.slice aa an ac) := kC b8); (obtain ⟨l8_0, n8_0, m8_0⟩ := lnm (show w.heap.size < w8.heap.size by omega))
 obtain ⟨oa, o6, oc, rfl⟩ := own_shape o8
 clear o8 b8
 go_wp2_with fail
 have HOW := hH (show OwnB w8 w1.heap.size _ (C ++ natsB [(N : Int), L, S]) from by
  have := HO8.out
  simpa [natsB, List.append_assoc] using this)
 have BI3 := BZ8
 obtain ⟨Z, hZ2⟩ : ∃ Z, C ++ natsB [(N : Int), L, S] = Z := ⟨_, rfl⟩
 rw [hZ2] at HZ hEZ HOW
 clear hZ2 HO8
 go_loopw [4, 5] (fun b i wr => ∃ k : Nat, i = .int .i64 (k : Int) ∧ k ≤ wn ∧ OwnB wr w1.heap.size b (Z ++ winBy ⟨c0, c1, c2, c3, c4, c5, c6, c7, c8, c9, c10, N, L, S, win, f, al⟩ (win.take k)) ∧ Below w1.heap.size w1 wr) (fun _ i _ => wn - (intOf i).toNat)
 case atStart => exact ⟨0, rfl, Nat.zero_le _, by simpa [winBy] using HOW.out, BI3.out⟩
 case round =>
  obtain ⟨k, rfl, hk, hown, hb4⟩ := hrel
  rename World => w4
  have HO := hH hown
  have BI := hH hb4
  have z4 := hb4.size
  have BZ4 := BI
  have B4 := hH (show Below w.heap.size w w4 from B1.out.trans (hb4.mono B1.out.size))
  (have c4_0 : w4.cell? ⟨w.heap.size, 0, none⟩ = some (.int .i64 c0) := kC hb4); (have c4_1 : w4.cell? ⟨w.heap.size, 14, none⟩ = some (.slice wa wn wc) := kC hb4); (have c4_2 : w4.cell? ⟨w.heap.size, 15, none⟩ = some (.slice fa fn fc) := kC hb4); (have c4_3 : w4.cell? ⟨w.heap.size, 16, none⟩ = some (.slice aa an ac) := kC hb4); (obtain ⟨l4_0, n4_0, m4_0⟩ := lnm (show w.heap.size < w4.heap.size by first | omega | (simp at y4; omega)))
  by_cases hlt : k < wn
  ·obtain ⟨⟨i, x, p, q, s⟩, ht⟩ := getElem?_ex (l := win) (k := k) (by rw [HWN.out]; exact hlt)
   obtain ⟨b, o, xa, xc, e, hbb, g0, g1, g2, g3, g4, hx0⟩ := HS.out.at ht
   subst e
   have hx := hx0.below B4.out
   have y0 := (B4.out.cell (p := ⟨b, o + k * 5, none⟩) hbb).trans g0
   have y1 := (B4.out.cell (p := ⟨b, o + k * 5 + 1, none⟩) hbb).trans g1
   have y2 := (B4.out.cell (p := ⟨b, o + k * 5 + 2, none⟩) hbb).trans g2
   have y3 := (B4.out.cell (p := ⟨b, o + k * 5 + 3, none⟩) hbb).trans g3
   have y4 := (B4.out.cell (p := ⟨b, o + k * 5 + 4, none⟩) hbb).trans g4
   dsimp only at y0 y1 y2 y3 y4 hx
   have hb1 : b < w1.heap.size := by omega
   clear g0 g1 g2 g3 g4 hx0
   have i1 : (0 : Int) ≤ (k : Int) := by omega
   have i2 : (k : Int) < (wn : Int) := by omega
   have HLT := hH hlt
   have HTK := hH (show winBy ⟨c0, c1, c2, c3, c4, c5, c6, c7, c8, c9, c10, N, L, S, win, f, al⟩ (win.take (k + 1)) = winBy ⟨c0, c1, c2, c3, c4, c5, c6, c7, c8, c9, c10, N, L, S, win, f, al⟩ (win.take k) ++ seenTW (i, x, p, q, s) c0 by rw [winBy, List.take_add_one, ht, List.flatMap_append]; simp [winBy])
   have HLN := hH (show (Z ++ winBy ⟨c0, c1, c2, c3, c4, c5, c6, c7, c8, c9, c10, N, L, S, win, f, al⟩ (win.take k)).length ≤ 40000 by have := HZ.out; have := HWB.out k; rw [List.length_append]; omega)
   have HSL := hH (seenBytes_len i x p q s c0)
   have HX := hH hx
   have HPS := hH (fun W (hW : Ints .i64 W (.slice xa x.length xc) x) => rseen22_any i p q c0 s _ x W hW)
   obtain ⟨oa, om, oc, rfl⟩ := own_shape hown
   obtain ⟨GK, hGK⟩ : ∃ G, Z ++ winBy ⟨c0, c1, c2, c3, c4, c5, c6, c7, c8, c9, c10, N, L, S, win, f, al⟩ (win.take k) = G := ⟨_, rfl⟩
   rw [hGK] at HO HLN
   have HGK := hH hGK
   generalize x.length = xn at *
   clear hx ht hown hb4 hlt hGK
   go_upto_region 10 with fail
   refine wp_region_held_drew (S := fun w' => w'.cell? ⟨w.heap.size, 0, none⟩ = some (.int .i64 c0) ∧ w'.cell? ⟨w.heap.size, 14, none⟩ = some (.slice (some ⟨b, o, none⟩) wn wc) ∧ w'.cell? ⟨w.heap.size, 15, none⟩ = some (.slice fa fn fc) ∧ w'.cell? ⟨w.heap.size, 16, none⟩ = some (.slice aa an ac) ∧ w'.cell? ⟨b, o + k * 5, none⟩ = some (.int .i64 i) ∧ w'.cell? ⟨b, o + k * 5 + 1, none⟩ = some (.slice xa xn xc) ∧ w'.cell? ⟨b, o + k * 5 + 2, none⟩ = some (.int .i64 p) ∧ w'.cell? ⟨b, o + k * 5 + 3, none⟩ = some (.int .i64 q) ∧ w'.cell? ⟨b, o + k * 5 + 4, none⟩ = some (.bool s)) rJ kJ (fun hHeld => ?_); refine lJ 0 hHeld ?_; refine lJ 1 hHeld ?_; refine lJ 2 hHeld ?_; refine lJ 3 hHeld ?_; refine lJ 4 hHeld ?_; refine lJ 5 hHeld ?_; refine lJ 6 hHeld ?_; refine lJ 7 hHeld ?_; refine lJ 8 hHeld ?_; refine lexHv 9 rfl ?_ rJ; (intro K hK); (go_simp; (go_at_call 56); ((with_reducible refine (HPS.out _ (HX.out.below bw)).mono ?_)); (rintro e w5 ⟨v5, rfl, i5, b5⟩); (have I5 := hH (show Ints .u8 w5 v5 (seenTW (i, x, p, q, s) c0) from i5)); (have O5 := hH (own_keep HO.out (fun g _ hg => (b5.block g mJ).trans ((show Below w4.heap.size w4 _ from bw).block g hg)) : OwnB w5 w1.heap.size _ GK)); (have B5 := hH (Bc (B := w4.heap.size) (a := w4) bw b5)); (have z5 : w4.heap.size ≤ w5.heap.size := sz b5); (have c5_0 : w5.cell? ⟨w.heap.size, 0, none⟩ = some (.int .i64 c0) := kC b5); (have c5_1 : w5.cell? ⟨w.heap.size, 14, none⟩ = some (.slice (some ⟨b, o, none⟩) wn wc) := kC b5); (have c5_2 : w5.cell? ⟨w.heap.size, 15, none⟩ = some (.slice fa fn fc) := kC b5); (have c5_3 : w5.cell? ⟨w.heap.size, 16, none⟩ = some (.slice aa an ac) := kC b5); (have c5_4 : w5.cell? ⟨b, o + k * 5, none⟩ = some (.int .i64 i) := kC b5); (have c5_5 : w5.cell? ⟨b, o + k * 5 + 1, none⟩ = some (.slice xa xn xc) := kC b5); (have c5_6 : w5.cell? ⟨b, o + k * 5 + 2, none⟩ = some (.int .i64 p) := kC b5); (have c5_7 : w5.cell? ⟨b, o + k * 5 + 3, none⟩ = some (.int .i64 q) := kC b5); (have c5_8 : w5.cell? ⟨b, o + k * 5 + 4, none⟩ = some (.bool s) := kC b5); (obtain ⟨l5_0, n5_0, m5_0⟩ := lnm (show w.heap.size < w5.heap.size by omega)); (obtain ⟨l5_1, n5_1, m5_1⟩ := lnm (show b < w5.heap.size by omega)); (clear i5 b5); (try go_wp2_with fail)); clear hHeld; refine pJ hK fun hHeld => ?_; clear hK K; refine lexHv 10 rfl ?_ rJ; (intro K hK); ((refine appInts_step rfl _ _ 45 rfl Tryz.underlying45 eiU8 w1.heap.size (by rfl) O5.out (by rfl) I5.out (by have := HLN.out; have := HSL.out; simp only [seenTW]; omega) (by omega) ?_); (intro v6 w6 o6 b6 _); (have O6 := hH (show OwnB w6 w1.heap.size v6 (GK ++ seenTW (i, x, p, q, s) c0) from by (unfold OwnB; rw [List.map_append, List.length_append]; exact o6))); (have B6 := hH (show Below w1.heap.size w1 w6 from (show Below w1.heap.size w1 w5 from BI.out.trans (B5.out.mono z4)).trans b6)); (have z6 : w5.heap.size ≤ w6.heap.size := b6.size); (have c6_0 : w6.cell? ⟨w.heap.size, 0, none⟩ = some (.int .i64 c0) := kC b6); (have c6_1 : w6.cell? ⟨w.heap.size, 14, none⟩ = some (.slice (some ⟨b, o, none⟩) wn wc) := kC b6); (have c6_2 : w6.cell? ⟨w.heap.size, 15, none⟩ = some (.slice fa fn fc) := kC b6); (have c6_3 : w6.cell? ⟨w.heap.size, 16, none⟩ = some (.slice aa an ac) := kC b6); (have c6_4 : w6.cell? ⟨b, o + k * 5, none⟩ = some (.int .i64 i) := kC b6); (have c6_5 : w6.cell? ⟨b, o + k * 5 + 1, none⟩ = some (.slice xa xn xc) := kC b6); (have c6_6 : w6.cell? ⟨b, o + k * 5 + 2, none⟩ = some (.int .i64 p) := kC b6); (have c6_7 : w6.cell? ⟨b, o + k * 5 + 3, none⟩ = some (.int .i64 q) := kC b6); (have c6_8 : w6.cell? ⟨b, o + k * 5 + 4, none⟩ = some (.bool s) := kC b6); (obtain ⟨l6_0, n6_0, m6_0⟩ := lnm (show w.heap.size < w6.heap.size by omega)); (obtain ⟨l6_1, n6_1, m6_1⟩ := lnm (show b < w6.heap.size by omega)); (clear o6 b6)); clear hHeld; refine pJ hK fun hHeld => ?_; clear hK K; refine lJ 11 hHeld ?_; refine wpAnyH_done rJ ?_ _
   go_wp2_with fail
   go_roundw
   case rel => exact ⟨k + 1, by go_num, by have := HLT.out; omega, by rw [HTK.out, ← List.append_assoc, HGK.out]; exact O6.out, B6.out⟩
   case measure => have := HLT.out; simp [intOf] <;> omega
  ·obtain rfl : wn = k := by omega
   rw [List.take_of_length_le (by rw [HWN.out]; exact Nat.le_refl _)] at hown
   have HO := hH hown
   have HLN := hH (show (Z ++ winBy ⟨c0, c1, c2, c3, c4, c5, c6, c7, c8, c9, c10, N, L, S, win, f, al⟩ win).length ≤ 40000 by have := HZ.out; have := HWB.out win.length; rw [List.take_length] at this; rw [List.length_append]; omega)
   obtain ⟨oa, om, oc, rfl⟩ := own_shape hown
   obtain ⟨G, hG4⟩ : ∃ G, Z ++ winBy ⟨c0, c1, c2, c3, c4, c5, c6, c7, c8, c9, c10, N, L, S, win, f, al⟩ win = G := ⟨_, rfl⟩
   rw [hG4] at HO HLN
   have HG4 := hH hG4
   clear hown hb4 hlt hk hG4 HWB
   go_wp2_with fail
   (with_reducible refine (HPF.out _ (HG.out.below (bx B4.out))).mono ?_); rintro e w5 ⟨v5, rfl, o5, b5, bz5⟩; have s5 : w4.heap.size ≤ w5.heap.size := sz b5; have B5 := bJ B4.out b5; have c5_0 : w5.cell? ⟨w.heap.size, 0, none⟩ = some (.int .i64 c0) := kC b5; have c5_1 : w5.cell? ⟨w.heap.size, 14, none⟩ = some (.slice wa wn wc) := kC b5; have c5_2 : w5.cell? ⟨w.heap.size, 15, none⟩ = some (.slice fa fn fc) := kC b5; have c5_3 : w5.cell? ⟨w.heap.size, 16, none⟩ = some (.slice aa an ac) := kC b5; obtain ⟨l5_0, n5_0, m5_0⟩ := lnm (show w.heap.size < w5.heap.size by omega); have HO := hH (own_keep (by (repeat (first | with_reducible exact HO.out | with_reducible refine own_set ?_ mJ | with_reducible refine own_drew ?_ | with_reducible refine World.ownsRow.alloc ?_ _ | exact HO.out))) (fun g _ hg => b5.block g hg)); clear b5
   have I5 := hH (o5.ints' (by have := HFB.out; omega))
   have BZ5 := hH (show Below w1.heap.size w1 w5 from below_tr (bx BZ4.out) (bz5.mono mJ))
   clear o5 bz5
   go_wp2_with (at_builtin; go_must (refine appBW rfl _ _ rfl w1.heap.size (by rfl) HO.out (by rfl) I5.out (by have := HLN.out; have := HFB.out; omega) (by omega) ?_))
   intro v6 w6 o6 b6 _ _
   have O6 := hH o6
   have z6 : w5.heap.size ≤ w6.heap.size := b6.size
   have B6 := hH (show Below w.heap.size w w6 from below_tr B5.out (b6.mono (by omega)))
   (have c6_0 : w6.cell? ⟨w.heap.size, 0, none⟩ = some (.int .i64 c0) := kC b6); (have c6_1 : w6.cell? ⟨w.heap.size, 14, none⟩ = some (.slice wa wn wc) := kC b6); (have c6_2 : w6.cell? ⟨w.heap.size, 15, none⟩ = some (.slice fa fn fc) := kC b6); (have c6_3 : w6.cell? ⟨w.heap.size, 16, none⟩ = some (.slice aa an ac) := kC b6); (obtain ⟨l6_0, n6_0, m6_0⟩ := lnm (show w.heap.size < w6.heap.size by omega))
   have BZ6 := hH (show Below w1.heap.size w1 w6 from below_tr (bx BZ5.out) b6)
   obtain ⟨oa, om, oc, rfl⟩ := own_shape o6
   have HL6 := hH (show (G ++ forestBy f).length ≤ 60000 by have := HLN.out; have := HFB.out; rw [List.length_append]; omega)
   obtain ⟨X, hX⟩ : ∃ X, G ++ forestBy f = X := ⟨_, rfl⟩
   rw [hX] at O6 HL6
   have HX6 := hH hX
   clear o6 b6 hX
   go_wp2_with fail
   (with_reducible refine (dupV (rU_any an _ x4)).mono ?_); rintro e w7 ⟨v7, rfl, o7, b7, bz7⟩; have s7 : w6.heap.size ≤ w7.heap.size := sz b7; have B7 := bJ B6.out b7; have c7_0 : w7.cell? ⟨w.heap.size, 0, none⟩ = some (.int .i64 c0) := kC b7; have c7_1 : w7.cell? ⟨w.heap.size, 14, none⟩ = some (.slice wa wn wc) := kC b7; have c7_2 : w7.cell? ⟨w.heap.size, 15, none⟩ = some (.slice fa fn fc) := kC b7; have c7_3 : w7.cell? ⟨w.heap.size, 16, none⟩ = some (.slice aa an ac) := kC b7; obtain ⟨l7_0, n7_0, m7_0⟩ := lnm (show w.heap.size < w7.heap.size by omega); have O6 := hH (own_keep (by (repeat (first | with_reducible exact O6.out | with_reducible refine own_set ?_ mJ | with_reducible refine own_drew ?_ | with_reducible refine World.ownsRow.alloc ?_ _ | exact O6.out))) (fun g _ hg => b7.block g hg)); clear b7
   have I7 := hH (o7.ints' (by have := putsU_len (n := an); omega))
   have z7 : w6.heap.size ≤ w7.heap.size := sz bz7
   have BZ7 := hH (show Below w1.heap.size w1 w7 from below_tr (bx BZ6.out) (bz7.mono mJ))
   clear o7 bz7
   go_wp2_with (at_builtin; go_must (refine appBW rfl _ _ rfl w1.heap.size (by rfl) O6.out (by rfl) I7.out (by have := HL6.out; have := putsU_len (n := an); omega) (by omega) ?_))
   intro v8 w8 o8 b8 _ _
   have HO8 := hH (show OwnB w8 w1.heap.size v8 (X ++ putsU an) from o8)
   have z8 : w7.heap.size ≤ w8.heap.size := b8.size
   have B8 := hH (show Below w.heap.size w w8 from below_tr B7.out (b8.mono (by omega)))
   have BZ8 := hH (show Below w1.heap.size w1 w8 from below_tr BZ7.out b8)
   (have c8_0 : w8.cell? ⟨w.heap.size, 0, none⟩ = some (.int .i64 c0) := kC b8); (have c8_1 : w8.cell? ⟨w.heap.size, 14, none⟩ = some (.slice wa wn wc) := kC b8); (have c8_2 : w8.cell? ⟨w.heap.size, 15, none⟩ = some (.slice fa fn fc) := kC b8); (have c8_3 : w8.cell? ⟨w.heap.size, 16, none⟩ = some (.slice aa an ac) := kC b8); (obtain ⟨l8_0, n8_0, m8_0⟩ := lnm (show w.heap.size < w8.heap.size by omega))
   obtain ⟨oa, o6, oc, rfl⟩ := own_shape o8
   clear o8 b8
   have HL7 := hH (show (X ++ putsU an).length ≤ 60010 by have := HL6.out; have := putsU_len (n := an); rw [List.length_append]; omega)
   obtain ⟨Y, hY⟩ : ∃ Y, X ++ putsU an = Y := ⟨_, rfl⟩
   rw [hY] at HO8 HL7
   have HY := hH hY
   clear hY
   go_wp2_with fail
   go_loopw [4, 6] (fun b i wr => ∃ k : Nat, i = .int .i64 (k : Int) ∧ k ≤ an ∧ OwnB wr w1.heap.size b (Y ++ alertsBy (al.take k)) ∧ Below w1.heap.size w1 wr) (fun _ i _ => an - (intOf i).toNat)
   case atStart => exact ⟨0, rfl, Nat.zero_le _, by simpa [alertsBy] using HO8.out, BZ8.out⟩
   case round =>
    obtain ⟨k, rfl, hk, hown, hb8⟩ := hrel
    rename World => w8
    have HO := hH hown
    have BI := hH hb8
    have z8 := hb8.size
    have B8 := hH (show Below w.heap.size w w8 from B1.out.trans (hb8.mono B1.out.size))
    (have c8_0 : w8.cell? ⟨w.heap.size, 16, none⟩ = some (.slice aa an ac) := kC hb8); (obtain ⟨l8_0, n8_0, m8_0⟩ := lnm (show w.heap.size < w8.heap.size by first | omega | (simp at y8; omega)))
    by_cases hlt : k < an
    ·obtain ⟨⟨q, i, ⟨p1, q1⟩, ⟨p2, q2⟩⟩, ht⟩ := getElem?_ex (l := al) (k := k) (by rw [HAN.out]; exact hlt)
     obtain ⟨b, o, e, hbb, y0, y1, y2, y3, y4, y5⟩ := (HA.out.below B8.out).at ht
     subst e
     dsimp only at y0 y1 y2 y3 y4 y5
     have i1 : (0 : Int) ≤ (k : Int) := by omega
     have i2 : (k : Int) < (an : Int) := by omega
     have HLT := hH hlt
     have HTK := hH (show alertsBy (al.take (k + 1)) = alertsBy (al.take k) ++ alertBytes (q, i, (p1, q1), (p2, q2)) by rw [alertsBy, List.take_add_one, ht, List.flatMap_append]; simp [alertsBy])
     have HLN := hH (show (Y ++ alertsBy (al.take k)).length ≤ 70000 by have := HL7.out; have := HAB.out k; rw [List.length_append]; omega)
     have HSL := hH (alertBytes_len (q, i, (p1, q1), (p2, q2)))
     have HPA := hH (fun W => rAlert22_any q i p1 q1 p2 q2 W (HA1.out _ (List.mem_of_getElem? ht)))
     obtain ⟨oa, om, oc, rfl⟩ := own_shape hown
     obtain ⟨GK, hGK⟩ : ∃ G, Y ++ alertsBy (al.take k) = G := ⟨_, rfl⟩
     rw [hGK] at HO HLN
     have HGK := hH hGK
     clear ht hown hb8 hlt hGK
     go_wp2_with fail
     (with_reducible refine (HPA.out _).mono ?_)
     rintro e w9 ⟨v9, rfl, i9, b9⟩
     have I9 := hH i9
     have O9 := hH (own_keep HO.out (fun g _ hg => ((show Below w8.heap.size w8 _ from bw).block g hg).symm ▸ (b9.block g mJ).trans ((show Below w8.heap.size w8 _ from bw).block g hg)) : OwnB w9 w1.heap.size _ GK)
     have B9 := hH (Bc (B := w8.heap.size) (a := w8) bw b9)
     have z9 : w8.heap.size ≤ w9.heap.size := sz b9
     clear i9 b9
     go_wp2_with (at_builtin; go_must (refine appBW rfl _ _ rfl w1.heap.size (by rfl) O9.out (by rfl) I9.out (by have := HLN.out; have := HSL.out; omega) (by omega) ?_))
     intro v10 w10 o10 b10 _ _
     have O10 := hH o10
     have B10 := hH (show Below w1.heap.size w1 w10 from (show Below w1.heap.size w1 w9 from BI.out.trans (B9.out.mono z8)).trans b10)
     clear o10 b10
     go_wp2_with fail
     go_roundw
     case rel => exact ⟨k + 1, by go_num, by have := HLT.out; omega, by rw [HTK.out, ← List.append_assoc, HGK.out]; exact O10.out, B10.out⟩
     case measure => have := HLT.out; simp [intOf] <;> omega
    ·obtain rfl : an = k := by omega
     rw [List.take_of_length_le (by rw [HAN.out]; exact Nat.le_refl _)] at hown
     have HIN := hH (show Ints .u8 w8 _ (putSt ⟨c0, c1, c2, c3, c4, c5, c6, c7, c8, c9, c10, N, L, S, win, f, al⟩) from by
      have hq := OwnB.ints' hown (by have := HL7.out; have := HAB.out al.length; rw [List.take_length] at this; rw [List.length_append]; omega)
      rw [hEZ.out, HG4.out, HAN.out, HX6.out, HY.out]
      exact hq)
     obtain ⟨oa, om, oc, rfl⟩ := own_shape hown
     clear hown hb8 hlt hk
     go_wp2_with fail
     exact bodyPost_ret (v := .tuple #[.slice oa om oc, .int .i64 0]) (by simp [results, Tryz.results21, go_sem]) rfl ⟨_, rfl, HIN.out, bx B8.out⟩
end Go.Proofs.YtgobbecpnjelmaaGreat
