/-
  Laws28c: The walk of StatePuts.
-/
import Derived.Test.YtgobbecpnjelmaaGreatJ6a
namespace Go.Proofs.YtgobbecpnjelmaaGreat
open Go.RowKit

theorem r3_below {W W' : World} {wv fv av : Value} {win : List SeenT} {f : List (TreeP × Int)} {al : List AlertT} (h : SeensR W wv win ∧ GrownsR W fv f ∧ AlertsR W av al) (b : Below W.heap.size W W') : SeensR W' wv win ∧ GrownsR W' fv f ∧ AlertsR W' av al :=
 ⟨h.1.below b, h.2.1.below b, h.2.2.below b⟩

set_option maxRecDepth 100000 in
set_option maxHeartbeats 64000000 in
theorem statePuts_mid (c0 c1 c2 c3 c4 c5 c6 c7 c8 c9 c10 : Int) (count last seq : Int) (wa fa aa : Option Addr) (wn wc fn fc an ac : Nat) (win : List SeenT) (f : List (TreeP × Int)) (al : List AlertT) (w : World) (hw7 : Ok64 c7)
  (hS : ArgSeens w (.slice wa wn wc) win) (hwn : win.length = wn) (hG : ArgGrowns w (.slice fa fn fc) f) (hfn : f.length = fn) (hA : ArgAlerts w (.slice aa an ac) al) (han : al.length = an) :
  Calls Tryz.prog 5 #[.agg #[.int .i64 c0, .int .i64 c1, .int .i64 c2, .int .i64 c3, .int .i64 c4, .int .i64 c5, .int .i64 c6, .int .i64 c7, .int .i64 c8, .int .i64 c9, .int .i64 c10, .int .i64 count, .int .i64 last, .int .i64 seq, .slice wa wn wc, .slice fa fn fc, .slice aa an ac]] w fun e w' => e = .returned (.bool true) ∧ Below w.heap.size w w' := by
 have HM1 := hH (fun W (b : Below w.heap.size w W) => rmuch28_any c0 c1 c2 c3 c4 c5 c6 c7 c8 c9 c10 count last seq (.slice wa wn wc) (.slice fa fn fc) aa an ac win f al W (hS.below b) (hG.below b) han)
 have HQ1 := hH (fun (h : muchSt win f al = false) => And.intro (hS.seens (muchSt_small h).1.1 (muchSt_small h).1.2) (And.intro (hG.growns28 (muchSt_small h).2.1) (hA.alerts (muchSt_small h).2.2)))
 obtain ⟨M1, hM1⟩ : ∃ M, muchSt win f al = M := ⟨_, rfl⟩
 rw [hM1] at HM1 HQ1
 clear hM1 hS hG hA
 cases M1 with
 | true =>
  clear HQ1 hwn hfn han hw7
  go_enter Tryz.func5, Tryz.ntmps5
  go_upto_region 1 with fail
  have R1 := hH (rowz_new (W := w) (T := 28) (cs := #[.int .i64 c0, .int .i64 c1, .int .i64 c2, .int .i64 c3, .int .i64 c4, .int .i64 c5, .int .i64 c6, .int .i64 c7, .int .i64 c8, .int .i64 c9, .int .i64 c10, .int .i64 count, .int .i64 last, .int .i64 seq, .slice wa wn wc, .slice fa fn fc, .slice aa an ac]) rfl)
  refine wp_region_lit ?_
  refine loadRow rfl 28 _ rfl R1.out (by rfl) Tryz.underlying28 rfl rJ ?_
  (try simp only [Act.put, List.setIfInBounds_toArray, List.set_cons_zero, List.set_cons_succ])
  go_wp2_with fail
  (with_reducible refine (HM1.out _ bw).mono ?_)
  rintro e w1 ⟨rfl, b1⟩
  have s1 : w.heap.size + 1 ≤ w1.heap.size := sz b1
  have B1 := hJ w b1
  clear b1
  go_wp2_with fail
  (with_reducible refine (lives28_any _).mono ?_)
  rintro e w2 ⟨rfl, b2⟩
  have s2 : w1.heap.size ≤ w2.heap.size := sz b2
  have B2 := bJ B1.out b2
  clear b2
  go_wp2_with fail
  go_ret
  exact ⟨rfl, bx B2.out⟩
 | false =>
  obtain ⟨hS, hG, hA⟩ := HQ1.out rfl
  clear HQ1
  obtain ⟨RB, hRB⟩ : ∃ r, stateB ⟨c0, c1, c2, c3, c4, c5, c6, c7, c8, c9, c10, count, last, seq, win, f, al⟩ = r := ⟨_, rfl⟩
  cases RB with
  | false =>
   have HP1 := hH (fun W (b : Below w.heap.size w W) => sput_no c0 c1 c2 c3 c4 c5 c6 c7 c8 c9 c10 count last seq wa fa aa wn wc fn fc an ac win f al W hw7 (hS.below b) hwn (hG.below b) hfn (hA.below b) han hRB)
   have HP2 := hH (fun W (b : Below w.heap.size w W) => rput28_no c0 c1 c2 c3 c4 c5 c6 c7 c8 c9 c10 count last seq wa fa aa wn wc fn fc an ac win f al W (hS.below b) hwn (hG.below b) hfn (hA.below b) han hRB)
   clear hwn hfn han hw7 hS hG hA hRB
   go_enter Tryz.func5, Tryz.ntmps5
   go_upto_region 1 with fail
   have R1 := hH (rowz_new (W := w) (T := 28) (cs := #[.int .i64 c0, .int .i64 c1, .int .i64 c2, .int .i64 c3, .int .i64 c4, .int .i64 c5, .int .i64 c6, .int .i64 c7, .int .i64 c8, .int .i64 c9, .int .i64 c10, .int .i64 count, .int .i64 last, .int .i64 seq, .slice wa wn wc, .slice fa fn fc, .slice aa an ac]) rfl)
   refine wp_region_lit ?_
   refine loadRow rfl 28 _ rfl R1.out (by rfl) Tryz.underlying28 rfl rJ ?_
   (try simp only [Act.put, List.setIfInBounds_toArray, List.set_cons_zero, List.set_cons_succ])
   go_wp2_with fail
   (with_reducible refine (HM1.out _ bw).mono ?_)
   rintro e w1 ⟨rfl, b1⟩
   have s1 : w.heap.size + 1 ≤ w1.heap.size := sz b1
   have B1 := hJ w b1
   have R1 := hH (RowAt.keep R1.out b1 mJ)
   clear b1
   go_upto_region 3 with fail
   refine wp_region_lit ?_
   refine loadRow rfl 28 _ rfl R1.out (by rfl) Tryz.underlying28 rfl rJ ?_
   (try simp only [Act.put, List.setIfInBounds_toArray, List.set_cons_zero, List.set_cons_succ])
   go_wp2_with fail
   (with_reducible refine (HP1.out _ (bx B1.out)).mono ?_)
   rintro e w2 ⟨rfl, b2⟩
   have s2 : w1.heap.size ≤ w2.heap.size := sz b2
   have B2 := bJ B1.out b2
   have R1 := hH (RowAt.keep (show RowAt _ w.heap.size 28 _ from R1.out.keep (B := w1.heap.size) bw mJ) b2 mJ)
   clear b2
   go_upto_region 4 with fail
   refine wp_region_lit ?_
   refine loadRow rfl 28 _ rfl R1.out (by rfl) Tryz.underlying28 rfl rJ ?_
   (try simp only [Act.put, List.setIfInBounds_toArray, List.set_cons_zero, List.set_cons_succ])
   go_wp2_with fail
   (with_reducible refine (HP2.out _ (bx B2.out)).mono ?_)
   rintro e w3 ⟨rfl, b3⟩
   have s3 : w2.heap.size ≤ w3.heap.size := sz b3
   have B3 := bJ B2.out b3
   have R1 := hH (RowAt.keep (show RowAt _ w.heap.size 28 _ from R1.out.keep (B := w2.heap.size) bw mJ) b3 mJ)
   clear b3
   go_wp2_with fail
   (with_reducible refine (same21_eq _ _ [] _ (ints_nil _ _ _ _ (by omega)) (ints_nil _ _ _ _ (by omega))).mono ?_)
   rintro e w4 ⟨rfl, rfl⟩
   go_wp2_with fail
   (with_reducible refine (lives28_any _).mono ?_)
   rintro e w5 ⟨rfl, b5⟩
   have s5 : w3.heap.size ≤ w5.heap.size := sz b5
   have B5 := bJ B3.out b5
   clear b5
   go_wp2_with fail
   go_ret
   exact ⟨rfl, bx B5.out⟩
  | true =>
   have hRP := stateB_is hRB
   obtain ⟨n1, n2⟩ := hRP.count
   obtain ⟨l1, l2⟩ := hRP.last
   obtain ⟨s1, s2⟩ := hRP.seq
   dsimp only at n1 n2 l1 l2 s1 s2
   obtain ⟨N, rfl⟩ : ∃ N : Nat, count = (N : Int) := ⟨count.toNat, by omega⟩
   obtain ⟨L, rfl⟩ : ∃ N : Nat, last = (N : Int) := ⟨last.toNat, by omega⟩
   obtain ⟨S, rfl⟩ : ∃ N : Nat, seq = (N : Int) := ⟨seq.toNat, by omega⟩
   have hmost := putSt_most hRP
   have HMO0 := fun W => smost_any c0 c1 c2 c3 c4 c5 c6 c7 c8 c9 c10 W hw7
   rw [show confB11 c0 c1 c2 c3 c4 c5 c6 c7 c8 c9 c10 = StP.confB ⟨c0, c1, c2, c3, c4, c5, c6, c7, c8, c9, c10, N, L, S, win, f, al⟩ from rfl] at HMO0
   obtain ⟨M, hM⟩ : ∃ M, mostV (StP.confB ⟨c0, c1, c2, c3, c4, c5, c6, c7, c8, c9, c10, N, L, S, win, f, al⟩) c0 c1 c2 c3 c9 = M := ⟨_, rfl⟩
   dsimp only at hmost
   rw [hM] at hmost HMO0
   have HMO := hH HMO0
   have HP1 := hH (fun W (b : Below w.heap.size w W) => sput_yes c0 c1 c2 c3 c4 c5 c6 c7 c8 c9 c10 N L S wa fa aa wn wc fn fc an ac win f al W hw7 (hS.below b) hwn (hG.below b) hfn (hA.below b) han hRB)
   have HP2 := hH (fun W (b : Below w.heap.size w W) => rput28_yes c0 c1 c2 c3 c4 c5 c6 c7 c8 c9 c10 N L S wa fa aa wn wc fn fc an ac win f al W (hS.below b) hwn (hG.below b) hfn (hA.below b) han hRB)
   have HG := hH (fun W v (h : Ints .u8 W v (putSt ⟨c0, c1, c2, c3, c4, c5, c6, c7, c8, c9, c10, N, L, S, win, f, al⟩)) => show Calls Tryz.prog 23 #[v] W fun e w' => ∃ wa2 wc2 fa2 fc2 aa2 ac2, e = .returned (.tuple #[.agg #[.int .i64 c0, .int .i64 c1, .int .i64 c2, .int .i64 c3, .int .i64 c4, .int .i64 c5, .int .i64 c6, .int .i64 c7, .int .i64 c8, .int .i64 c9, .int .i64 c10, .int .i64 (N : Int), .int .i64 (L : Int), .int .i64 (S : Int), .slice wa2 wn wc2, .slice fa2 fn fc2, .slice aa2 an ac2], .int .i64 0]) ∧ (SeensR w' (.slice wa2 wn wc2) win ∧ GrownsR w' (.slice fa2 fn fc2) f ∧ AlertsR w' (.slice aa2 an ac2) al) ∧ Below W.heap.size W w' from
    (sget_put c0 c1 c2 c3 c4 c5 c6 c7 c8 c9 c10 N L S win f al _ W hRB h).mono fun e w' ⟨wv, fv, av, h1, h2, h3, h4, h5⟩ => by
     have k2 := h2; have k3 := h3; have k4 := h4
     obtain ⟨wa2, wc2, rfl⟩ := h2.shape
     obtain ⟨fa2, fc2, rfl, _⟩ := h3
     obtain ⟨aa2, ac2, rfl⟩ := h4.shape
     rw [hwn, hfn, han] at h1
     rw [hwn] at k2
     rw [hfn] at k3
     rw [han] at k4
     exact ⟨wa2, wc2, fa2, fc2, aa2, ac2, h1, ⟨k2, k3, k4⟩, h5⟩)
   have HS := hH (fun W (b : Below w.heap.size w W) wa2 wc2 fa2 fc2 aa2 ac2 (h : SeensR W (.slice wa2 wn wc2) win ∧ GrownsR W (.slice fa2 fn fc2) f ∧ AlertsR W (.slice aa2 an ac2) al) => sameSt_self ⟨c0, c1, c2, c3, c4, c5, c6, c7, c8, c9, c10, N, L, S, win, f, al⟩ ▸ rsame28_any c0 c1 c2 c3 c4 c5 c6 c7 c8 c9 c10 N L S c0 c1 c2 c3 c4 c5 c6 c7 c8 c9 c10 N L S _ _ _ _ _ _ win win f f al al W (hS.below b) (hG.below b) (hA.below b) h.1 h.2.1 h.2.2)
   obtain ⟨pl, hpl⟩ : ∃ n, (putSt ⟨c0, c1, c2, c3, c4, c5, c6, c7, c8, c9, c10, N, L, S, win, f, al⟩).length = n := ⟨_, rfl⟩
   obtain ⟨PS, hPS⟩ : ∃ l, putSt ⟨c0, c1, c2, c3, c4, c5, c6, c7, c8, c9, c10, N, L, S, win, f, al⟩ = l := ⟨_, rfl⟩
   rw [hPS] at HP1 HP2 HG hpl hmost
   rw [hpl] at hmost
   have HPL := hH hpl
   clear hwn hfn han hw7 hS hG hA hRB hRP n1 n2 l1 l2 s1 s2 HMO0 hM hpl hPS
   go_enter Tryz.func5, Tryz.ntmps5
   go_upto_region 1 with fail
   have R1 := hH (rowz_new (W := w) (T := 28) (cs := #[.int .i64 c0, .int .i64 c1, .int .i64 c2, .int .i64 c3, .int .i64 c4, .int .i64 c5, .int .i64 c6, .int .i64 c7, .int .i64 c8, .int .i64 c9, .int .i64 c10, .int .i64 (N : Int), .int .i64 (L : Int), .int .i64 (S : Int), .slice wa wn wc, .slice fa fn fc, .slice aa an ac]) rfl)
   refine wp_region_lit ?_
   refine loadRow rfl 28 _ rfl R1.out (by rfl) Tryz.underlying28 rfl rJ ?_
   (try simp only [Act.put, List.setIfInBounds_toArray, List.set_cons_zero, List.set_cons_succ])
   go_wp2_with fail
   (with_reducible refine (HM1.out _ bw).mono ?_)
   rintro e w1 ⟨rfl, b1⟩
   have s1 : w.heap.size + 1 ≤ w1.heap.size := sz b1
   have B1 := hJ w b1
   have R1 := hH (RowAt.keep R1.out b1 mJ)
   clear b1
   go_upto_region 3 with fail
   refine wp_region_lit ?_
   refine loadRow rfl 28 _ rfl R1.out (by rfl) Tryz.underlying28 rfl rJ ?_
   (try simp only [Act.put, List.setIfInBounds_toArray, List.set_cons_zero, List.set_cons_succ])
   go_wp2_with fail
   (with_reducible refine (HP1.out _ (bx B1.out)).mono ?_)
   rintro e w2 ⟨v2, rfl, i2, b2⟩
   have s2 : w1.heap.size ≤ w2.heap.size := sz b2
   have B2 := bJ B1.out b2
   have R1 := hH (RowAt.keep (show RowAt _ w.heap.size 28 _ from R1.out.keep (B := w1.heap.size) bw mJ) b2 mJ)
   have I2 := hH i2
   obtain ⟨a2, q2, rfl⟩ := i2.shape
   rw [HPL.out] at I2 ⊢
   clear i2
   clear b2
   go_upto_region 4 with fail
   refine wp_region_lit ?_
   refine loadRow rfl 28 _ rfl R1.out (by rfl) Tryz.underlying28 rfl rJ ?_
   (try simp only [Act.put, List.setIfInBounds_toArray, List.set_cons_zero, List.set_cons_succ])
   go_wp2_with fail
   (with_reducible refine (HP2.out _ (bx B2.out)).mono ?_)
   rintro e w3 ⟨v3, rfl, i3, b3⟩
   have s3 : w2.heap.size ≤ w3.heap.size := sz b3
   have B3 := bJ B2.out b3
   have R1 := hH (RowAt.keep (show RowAt _ w.heap.size 28 _ from R1.out.keep (B := w2.heap.size) bw mJ) b3 mJ)
   have I3 := hH i3
   obtain ⟨a3, q3, rfl⟩ := i3.shape
   rw [HPL.out] at I3 ⊢
   clear i3
   have I2 := hH (I2.out.below b3)
   clear b3
   go_wp2_with fail
   (with_reducible refine (same21_eq _ _ _ _ I2.out I3.out).mono ?_)
   rintro e w4 ⟨rfl, rfl⟩
   go_wp2_with fail
   (with_reducible refine (HG.out _ _ I2.out).mono ?_)
   rintro e w5 ⟨wa2, wc2, fa2, fc2, aa2, ac2, rfl, g5, b5⟩
   have s5 : w3.heap.size ≤ w5.heap.size := sz b5
   have B5 := bJ B3.out b5
   have R1 := hH (RowAt.keep (show RowAt _ w.heap.size 28 _ from R1.out.keep (B := w3.heap.size) bw mJ) b5 mJ)
   have G5 := hH g5
   clear g5
   clear b5
   dsimp only
   have hKK := ‹∀ (a : Act) (w : World), wpList _ _ _ _ a w → _›
   refine hKK _ _ ?_
   clear hKK
   (try simp only [Act.put, List.setIfInBounds_toArray, List.set_cons_zero, List.set_cons_succ])
   iterate 3 (refine seqTk (v := ?_) rfl ?_ ?_; rotate_left 2; (focus (first | (go_simp; done) | (go_simp; with_reducible rfl))); (try simp only [Act.put, List.setIfInBounds_toArray, List.set_cons_zero, List.set_cons_succ]))
   refine wpList_plain rfl fun K hK => ?_
   go_simp
   refine hK _ _ ?_
   clear hK K
   (try simp only [Act.put, List.setIfInBounds_toArray, List.set_cons_zero, List.set_cons_succ])
   refine storeRow (zs := #[.int .i64 0, .int .i64 0, .int .i64 0, .int .i64 0, .int .i64 0, .int .i64 0, .int .i64 0, .int .i64 0, .int .i64 0, .int .i64 0, .int .i64 0, .int .i64 0, .int .i64 0, .int .i64 0, .slice none 0 0, .slice none 0 0, .slice none 0 0]) (cells := #[.int .i64 c0, .int .i64 c1, .int .i64 c2, .int .i64 c3, .int .i64 c4, .int .i64 c5, .int .i64 c6, .int .i64 c7, .int .i64 c8, .int .i64 c9, .int .i64 c10, .int .i64 (N : Int), .int .i64 (L : Int), .int .i64 (S : Int), .slice wa2 wn wc2, .slice fa2 fn fc2, .slice aa2 an ac2]) rfl 28 _ _ rfl (rowz_new (b := w5.heap.size) rfl) (by rfl) (by rfl) rfl rJ rJ ?_
   intro w6 r6 g6
   have R5 := hH r6
   have hb6 := below_only (w0 := w5) (show Below w5.heap.size w5 _ from bw) g6 (Nat.le_refl _) (Nat.le_refl _)
   have B6 := hH (Bc (B := w.heap.size) (a := w) B5.out hb6)
   have s6 : w5.heap.size < w6.heap.size := r6.lt
   have R1 := hH (R1.out.keep hb6 mJ)
   have G5 := hH (r3_below G5.out hb6)
   clear r6 g6 hb6
   (try simp only [Act.put])
   go_upto_region 10 with fail
   refine wp_region_lit ?_
   refine seqLoadRow rfl 28 _ rfl (by rfl) (show RowAt _ w.heap.size 28 _ from R1.out.keep (B := w6.heap.size) bw mJ).range Tryz.underlying28 rfl rJ ?_
   (try simp only [Act.put, List.setIfInBounds_toArray, List.set_cons_zero, List.set_cons_succ])
   refine seqLoadRow rfl 28 _ rfl (by rfl) (show RowAt _ w5.heap.size 28 _ from R5.out.keep (B := w6.heap.size) bw mJ).range Tryz.underlying28 rfl rJ ?_
   (try simp only [Act.put, List.setIfInBounds_toArray, List.set_cons_zero, List.set_cons_succ])
   go_wp2_with fail
   (with_reducible refine (HS.out _ (bx B6.out) _ _ _ _ _ _ G5.out).mono ?_)
   rintro e w7 ⟨rfl, b7⟩
   have s7 : w6.heap.size ≤ w7.heap.size := sz b7
   have B7 := bJ B6.out b7
   have R1 := hH (RowAt.keep (show RowAt _ w.heap.size 28 _ from R1.out.keep (B := w6.heap.size) bw mJ) b7 mJ)
   clear b7
   have k0 : w7.cell? ⟨w.heap.size, 0, none⟩ = some (.int .i64 c0) := (R1.out.cell 0).trans rfl
   have k1 : w7.cell? ⟨w.heap.size, 1, none⟩ = some (.int .i64 c1) := (R1.out.cell 1).trans rfl
   have k2 : w7.cell? ⟨w.heap.size, 2, none⟩ = some (.int .i64 c2) := (R1.out.cell 2).trans rfl
   have k3 : w7.cell? ⟨w.heap.size, 3, none⟩ = some (.int .i64 c3) := (R1.out.cell 3).trans rfl
   have k4 : w7.cell? ⟨w.heap.size, 4, none⟩ = some (.int .i64 c4) := (R1.out.cell 4).trans rfl
   have k5 : w7.cell? ⟨w.heap.size, 5, none⟩ = some (.int .i64 c5) := (R1.out.cell 5).trans rfl
   have k6 : w7.cell? ⟨w.heap.size, 6, none⟩ = some (.int .i64 c6) := (R1.out.cell 6).trans rfl
   have k7 : w7.cell? ⟨w.heap.size, 7, none⟩ = some (.int .i64 c7) := (R1.out.cell 7).trans rfl
   have k8 : w7.cell? ⟨w.heap.size, 8, none⟩ = some (.int .i64 c8) := (R1.out.cell 8).trans rfl
   have k9 : w7.cell? ⟨w.heap.size, 9, none⟩ = some (.int .i64 c9) := (R1.out.cell 9).trans rfl
   have k10 : w7.cell? ⟨w.heap.size, 10, none⟩ = some (.int .i64 c10) := (R1.out.cell 10).trans rfl
   go_wp2_with fail
   (with_reducible refine (HMO.out _).mono ?_)
   rintro e w8 ⟨rfl, b8⟩
   have s8 : w7.heap.size ≤ w8.heap.size := sz b8
   have B8 := bJ B7.out b8
   clear b8
   go_wp2_with fail
   (with_reducible refine (lives28_any _).mono ?_)
   rintro e w9 ⟨rfl, b9⟩
   have s9 : w8.heap.size ≤ w9.heap.size := sz b9
   have B9 := bJ B8.out b9
   clear b9
   go_wp2_with fail
   go_ret
   exact ⟨rfl, bx B9.out⟩

theorem statePuts_walk {w : World} (v : Value) (s : StP) (hs : ArgState w v s) :
  Calls Tryz.prog 5 #[v] w fun e w' => e = .returned (.bool true) ∧ Below w.heap.size w w' := by
 obtain ⟨c0, c1, c2, c3, c4, c5, c6, c7, c8, c9, c10, count, last, seq, win, f, al⟩ := s
 obtain ⟨wv, fv, av, rfl, hS, hG, hA, h64, _⟩ := hs
 dsimp only at hS hG hA
 have k1 := hS; have k2 := hG; have k3 := hA
 obtain ⟨wa, wc, rfl⟩ := hS.shape
 obtain ⟨fa, fc, rfl, _⟩ := hG
 obtain ⟨aa, ac, rfl⟩ := hA.shape
 exact statePuts_mid c0 c1 c2 c3 c4 c5 c6 c7 c8 c9 c10 count last seq wa fa aa _ wc _ fc _ ac win f al w (h64 c7 (by simp [StP.conf])) k1 rfl k2 rfl k3 rfl
end Go.Proofs.YtgobbecpnjelmaaGreat
