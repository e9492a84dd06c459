/-
  Laws28: What the laws of layer 28 share: copselaw28.Usual, copselaw28.lives.
-/
import Derived.Test.YtgobbecpnjelmaaGreatKStateO
import Derived.Test.YtgobbecpnjelmaaGreatJ4a
namespace Go.Proofs.YtgobbecpnjelmaaGreat
open Go.RowKit

theorem sameSt_self (s : StP) : sameSt s s = true := by
 unfold sameSt
 rw [decide_eq_true rfl, decide_eq_true rfl, decide_eq_true rfl, sameF_eq.2 rfl]
 rfl

theorem g3_below {W W' : World} {wv fv av : Value} (h : SeensR W wv [] ∧ GrownsR W fv [] ∧ AlertsR W av []) (b : Below W.heap.size W W') : SeensR W' wv [] ∧ GrownsR W' fv [] ∧ AlertsR W' av [] :=
 ⟨h.1.below b, h.2.1.below b, h.2.2.below b⟩

theorem usual_BI : birthsV (confB11 2 16 2 8 5 1 1 10 4 3 9) 2 8 5 21 = ([20, 15], 0) := by
 rw [usual_B]
 rfl

theorem usual_M : mostV (confB11 2 16 2 8 5 1 1 10 4 3 9) 2 16 2 8 3 = 698 := by
 rw [usual_B]
 rfl

theorem zero_B : confB11 0 0 0 0 0 0 0 0 0 0 0 = false := by decide

set_option maxRecDepth 100000 in
theorem usual_any (w : World) : Calls Tryz.prog 26 #[] w fun e w' => e = .returned (.agg #[.int .i64 2, .int .i64 16, .int .i64 2, .int .i64 8, .int .i64 5, .int .i64 1, .int .i64 1, .int .i64 10, .int .i64 4, .int .i64 3, .int .i64 9]) ∧ Below w.heap.size w w' := by
 go_enter Tryz.func26, Tryz.ntmps26
 go_wp2_with fail
 exact bodyPost_ret (v := .agg #[.int .i64 2, .int .i64 16, .int .i64 2, .int .i64 8, .int .i64 5, .int .i64 1, .int .i64 1, .int .i64 10, .int .i64 4, .int .i64 3, .int .i64 9]) (by simp [results, Tryz.results26, go_sem, *]) rfl ⟨rfl, bw⟩

set_option maxRecDepth 100000 in
set_option maxHeartbeats 32000000 in
theorem lives28_of (PS : List Int)
  (hP : ∀ W, Calls Tryz.prog 20 #[.agg #[.int .i64 2, .int .i64 16, .int .i64 2, .int .i64 8, .int .i64 5, .int .i64 1, .int .i64 1, .int .i64 10, .int .i64 4, .int .i64 3, .int .i64 9, .int .i64 0, .int .i64 0, .int .i64 0, .slice none 0 0, .slice none 0 0, .slice none 0 0]] W fun e w' => ∃ a c, e = .returned (.tuple #[.slice a 16 c, .int .i64 0]) ∧ Ints .u8 w' (.slice a 16 c) PS ∧ Below W.heap.size W w')
  (hG : ∀ W a c, Ints .u8 W (.slice a 16 c) PS → Calls Tryz.prog 23 #[.slice a 16 c] W fun e w' => ∃ wa wc fa fc aa ac, e = .returned (.tuple #[.agg #[.int .i64 2, .int .i64 16, .int .i64 2, .int .i64 8, .int .i64 5, .int .i64 1, .int .i64 1, .int .i64 10, .int .i64 4, .int .i64 3, .int .i64 9, .int .i64 0, .int .i64 0, .int .i64 0, .slice wa 0 wc, .slice fa 0 fc, .slice aa 0 ac], .int .i64 0]) ∧ (SeensR w' (.slice wa 0 wc) [] ∧ GrownsR w' (.slice fa 0 fc) [] ∧ AlertsR w' (.slice aa 0 ac) []) ∧ Below W.heap.size W w')
  (hPO : ∀ W, Calls Tryz.prog 20 #[.agg #[.int .i64 2, .int .i64 16, .int .i64 2, .int .i64 8, .int .i64 5, .int .i64 1, .int .i64 1, .int .i64 10, .int .i64 4, .int .i64 3, .int .i64 9, .int .i64 1, .int .i64 0, .int .i64 0, .slice none 0 0, .slice none 0 0, .slice none 0 0]] W fun e w' => e = .returned (.tuple #[.slice none 0 0, .int .i64 280]) ∧ Below W.heap.size W w')
  (hL : ∀ W, Calls Tryz.prog 8 #[.agg #[.int .i64 2, .int .i64 16, .int .i64 2, .int .i64 8, .int .i64 5, .int .i64 1, .int .i64 1, .int .i64 10, .int .i64 4, .int .i64 3, .int .i64 9, .int .i64 0, .int .i64 0, .int .i64 0, .slice none 0 0, .slice none 0 0, .slice none 0 0]] W fun e w' => e = .returned (.tuple #[.agg #[.int .i64 0, .int .i64 0], .bool false]) ∧ Below W.heap.size W w')
  (hSS : ∀ W wa wc fa fc aa ac, SeensR W (.slice wa 0 wc) [] ∧ GrownsR W (.slice fa 0 fc) [] ∧ AlertsR W (.slice aa 0 ac) [] → Calls Tryz.prog 12 #[.agg #[.int .i64 2, .int .i64 16, .int .i64 2, .int .i64 8, .int .i64 5, .int .i64 1, .int .i64 1, .int .i64 10, .int .i64 4, .int .i64 3, .int .i64 9, .int .i64 0, .int .i64 0, .int .i64 0, .slice none 0 0, .slice none 0 0, .slice none 0 0], .agg #[.int .i64 2, .int .i64 16, .int .i64 2, .int .i64 8, .int .i64 5, .int .i64 1, .int .i64 1, .int .i64 10, .int .i64 4, .int .i64 3, .int .i64 9, .int .i64 0, .int .i64 0, .int .i64 0, .slice wa 0 wc, .slice fa 0 fc, .slice aa 0 ac]] W fun e w' => e = .returned (.bool true) ∧ Below W.heap.size W w') (w : World) : Calls Tryz.prog 7 #[] w fun e w' => e = .returned (.bool true) ∧ Below w.heap.size w w' := by
 have HU := hH (fun W => usual_any W)
 have HN := hH (fun W => show Calls Tryz.prog 19 #[.agg #[.int .i64 2, .int .i64 16, .int .i64 2, .int .i64 8, .int .i64 5, .int .i64 1, .int .i64 1, .int .i64 10, .int .i64 4, .int .i64 3, .int .i64 9]] W fun e w' => e = .returned (.tuple #[.agg #[.int .i64 2, .int .i64 16, .int .i64 2, .int .i64 8, .int .i64 5, .int .i64 1, .int .i64 1, .int .i64 10, .int .i64 4, .int .i64 3, .int .i64 9, .int .i64 0, .int .i64 0, .int .i64 0, .slice none 0 0, .slice none 0 0, .slice none 0 0], .int .i64 0]) ∧ Below W.heap.size W w' from by
  have := snew_any 2 16 2 8 5 1 1 10 4 3 9 W (by decide)
  rw [usual_B, if_pos rfl, if_pos rfl] at this
  exact this)
 have HN0 := hH (fun W => show Calls Tryz.prog 19 #[.agg #[.int .i64 0, .int .i64 0, .int .i64 0, .int .i64 0, .int .i64 0, .int .i64 0, .int .i64 0, .int .i64 0, .int .i64 0, .int .i64 0, .int .i64 0]] W fun e w' => e = .returned (.tuple #[.agg #[.int .i64 0, .int .i64 0, .int .i64 0, .int .i64 0, .int .i64 0, .int .i64 0, .int .i64 0, .int .i64 0, .int .i64 0, .int .i64 0, .int .i64 0, .int .i64 0, .int .i64 0, .int .i64 0, .slice none 0 0, .slice none 0 0, .slice none 0 0], .int .i64 200]) ∧ Below W.heap.size W w' from by
  have := snew_any 0 0 0 0 0 0 0 0 0 0 0 W (by decide)
  rw [zero_B, if_neg (by simp), if_neg (by simp)] at this
  exact this)
 have HP := hH hP
 have HG := hH hG
 have HPO := hH hPO
 have HL := hH hL
 have HSS := hH hSS
 clear hP hG hPO hL hSS
 have HB := hH (fun W => show Calls Tryz.prog 14 #[.agg #[.int .i64 2, .int .i64 16, .int .i64 2, .int .i64 8, .int .i64 5, .int .i64 1, .int .i64 1, .int .i64 10, .int .i64 4, .int .i64 3, .int .i64 9], .int .i64 21] W fun e w' => ∃ v, e = .returned (.tuple #[v, .int .i64 0]) ∧ Ints .i64 w' v [20, 15] ∧ Below W.heap.size W w' from by
  have := sbirths_any 2 16 2 8 5 1 1 10 4 3 9 21 W (by decide)
  rw [usual_BI] at this
  exact this)
 have HRS := hH (fun W wv fv av (h : SeensR W wv [] ∧ GrownsR W fv [] ∧ AlertsR W av []) => show Calls Tryz.prog 13 #[.agg #[.int .i64 2, .int .i64 16, .int .i64 2, .int .i64 8, .int .i64 5, .int .i64 1, .int .i64 1, .int .i64 10, .int .i64 4, .int .i64 3, .int .i64 9, .int .i64 0, .int .i64 0, .int .i64 0, .slice none 0 0, .slice none 0 0, .slice none 0 0], .agg #[.int .i64 2, .int .i64 16, .int .i64 2, .int .i64 8, .int .i64 5, .int .i64 1, .int .i64 1, .int .i64 10, .int .i64 4, .int .i64 3, .int .i64 9, .int .i64 0, .int .i64 0, .int .i64 0, wv, fv, av]] W fun e w' => e = .returned (.bool true) ∧ Below W.heap.size W w' from by
  have := rsame28_any 2 16 2 8 5 1 1 10 4 3 9 0 0 0 2 16 2 8 5 1 1 10 4 3 9 0 0 0 (.slice none 0 0) (.slice none 0 0) (.slice none 0 0) wv fv av [] [] [] [] [] [] W (seens_nil _ _ (by omega)) (growns_nilU _ _ (by omega)) (alerts_nil _ _ (by omega)) h.1 h.2.1 h.2.2
  rw [sameSt_self] at this
  exact this)
 have HR := hH (fun W => show Calls Tryz.prog 10 #[.agg #[.int .i64 2, .int .i64 16, .int .i64 2, .int .i64 8, .int .i64 5, .int .i64 1, .int .i64 1, .int .i64 10, .int .i64 4, .int .i64 3, .int .i64 9, .int .i64 0, .int .i64 0, .int .i64 0, .slice none 0 0, .slice none 0 0, .slice none 0 0]] W fun e w' => e = .returned (.bool true) ∧ Below W.heap.size W w' from
  usual_S ▸ sright28_any 2 16 2 8 5 1 1 10 4 3 9 0 0 0 none none none 0 0 0 0 0 0 [] [] [] W (by decide) (seens_nil _ _ (by omega)) rfl (growns_nilU _ _ (by omega)) rfl (alerts_nil _ _ (by omega)) rfl)
 have HM := hH (fun W => show Calls Tryz.prog 17 #[.agg #[.int .i64 2, .int .i64 16, .int .i64 2, .int .i64 8, .int .i64 5, .int .i64 1, .int .i64 1, .int .i64 10, .int .i64 4, .int .i64 3, .int .i64 9]] W fun e w' => e = .returned (.int .i64 698) ∧ Below W.heap.size W w' from by
  have := smost_any 2 16 2 8 5 1 1 10 4 3 9 W (by decide)
  rw [usual_M] at this
  exact this)
 have HEQ := hH (fun W va vb (h1 : Ints .i64 W va [20, 15]) (h2 : Ints .i64 W vb [20, 15]) => show Calls Tryz.prog 16 #[va, vb] W fun e w' => e = .returned (.bool true) ∧ Below W.heap.size W w' from
  (same_any va vb _ _ W h1 h2).mono fun e w' ⟨h1, n, h2⟩ => ⟨h1, by rw [h2]; exact below_drewN (Below.refl _ _) n⟩)
 go_enter Tryz.func7, Tryz.ntmps7
 go_wp2_with fail
 (with_reducible refine (HU.out _).mono ?_)
 rintro e w1 ⟨rfl, b1⟩
 have s1 : w.heap.size ≤ w1.heap.size := sz b1
 have B1 := hH (Bc (B := w.heap.size) (a := w) (by (repeat (first | with_reducible exact Below.refl _ _ | with_reducible refine Bs ?_ | with_reducible refine Ba ?_ | with_reducible refine Bd ?_ | with_reducible refine Bn ?_ | with_reducible refine Bt  ?_))) b1)
 clear b1
 go_wp2_with fail
 (with_reducible refine (HN.out _).mono ?_)
 rintro e w2 ⟨rfl, b2⟩
 have s2 : w1.heap.size ≤ w2.heap.size := sz b2
 have B2 := bJ B1.out b2
 clear b2
 dsimp only
 have hKK := ‹∀ (a : Act) (w : World), wpList _ _ _ _ a w → _›
 refine hKK _ _ ?_
 clear hKK
 (try simp only [Act.put, List.setIfInBounds_toArray, List.set_cons_zero, List.set_cons_succ])
 iterate 3 (refine seqTk (v := ?_) rfl ?_ ?_; rotate_left 2; (focus (first | (go_simp; done) | (go_simp; with_reducible rfl))); (try simp only [Act.put, List.setIfInBounds_toArray, List.set_cons_zero, List.set_cons_succ]))
 refine wpList_plain rfl fun K hK => ?_
 go_simp
 refine hK _ _ ?_
 clear hK K
 (try simp only [Act.put, List.setIfInBounds_toArray, List.set_cons_zero, List.set_cons_succ])
 refine storeRow (zs := #[.int .i64 0, .int .i64 0, .int .i64 0, .int .i64 0, .int .i64 0, .int .i64 0, .int .i64 0, .int .i64 0, .int .i64 0, .int .i64 0, .int .i64 0, .int .i64 0, .int .i64 0, .int .i64 0, .slice none 0 0, .slice none 0 0, .slice none 0 0]) (cells := #[.int .i64 2, .int .i64 16, .int .i64 2, .int .i64 8, .int .i64 5, .int .i64 1, .int .i64 1, .int .i64 10, .int .i64 4, .int .i64 3, .int .i64 9, .int .i64 0, .int .i64 0, .int .i64 0, .slice none 0 0, .slice none 0 0, .slice none 0 0]) rfl 28 _ _ rfl (rowz_new (b := w2.heap.size) rfl) (by rfl) (by rfl) rfl rJ rJ ?_
 intro w3 r3 g3
 have R1 := hH r3
 have hb3 := below_only (w0 := w2) (show Below w2.heap.size w2 _ from bw) g3 (Nat.le_refl _) (Nat.le_refl _)
 have B3 := hH (Bc (B := w.heap.size) (a := w) B2.out hb3)
 have s3 : w2.heap.size < w3.heap.size := r3.lt
 clear r3 g3 hb3
 (try simp only [Act.put])
 go_upto_region 2 with fail
 refine wp_region_lit ?_
 refine loadRow rfl 28 _ rfl R1.out (by rfl) Tryz.underlying28 rfl rJ ?_
 (try simp only [Act.put, List.setIfInBounds_toArray, List.set_cons_zero, List.set_cons_succ])
 go_wp2_with fail
 (with_reducible refine (HP.out _).mono ?_)
 rintro e w4 ⟨a4, q4, rfl, i4, b4⟩
 have s4 : w3.heap.size ≤ w4.heap.size := sz b4
 have B4 := bJ B3.out b4
 have R1 := hH (RowAt.keep (show RowAt _ w2.heap.size 28 _ from R1.out.keep (B := w3.heap.size) bw mJ) b4 mJ)
 have I4 := hH i4
 clear i4
 clear b4
 go_wp2_with fail
 (with_reducible refine (HG.out _ _ _ I4.out).mono ?_)
 rintro e w5 ⟨wa, wc, fa, fc, aa, ac, rfl, g5, b5⟩
 have s5 : w4.heap.size ≤ w5.heap.size := sz b5
 have B5 := bJ B4.out b5
 have R1 := hH (RowAt.keep (show RowAt _ w2.heap.size 28 _ from R1.out.keep (B := w4.heap.size) bw mJ) b5 mJ)
 have G5 := hH g5
 clear g5
 clear b5
 dsimp only
 have hKK := ‹∀ (a : Act) (w : World), wpList _ _ _ _ a w → _›
 refine hKK _ _ ?_
 clear hKK
 (try simp only [Act.put, List.setIfInBounds_toArray, List.set_cons_zero, List.set_cons_succ])
 iterate 3 (refine seqTk (v := ?_) rfl ?_ ?_; rotate_left 2; (focus (first | (go_simp; done) | (go_simp; with_reducible rfl))); (try simp only [Act.put, List.setIfInBounds_toArray, List.set_cons_zero, List.set_cons_succ]))
 refine wpList_plain rfl fun K hK => ?_
 go_simp
 refine hK _ _ ?_
 clear hK K
 (try simp only [Act.put, List.setIfInBounds_toArray, List.set_cons_zero, List.set_cons_succ])
 refine storeRow (zs := #[.int .i64 0, .int .i64 0, .int .i64 0, .int .i64 0, .int .i64 0, .int .i64 0, .int .i64 0, .int .i64 0, .int .i64 0, .int .i64 0, .int .i64 0, .int .i64 0, .int .i64 0, .int .i64 0, .slice none 0 0, .slice none 0 0, .slice none 0 0]) (cells := #[.int .i64 2, .int .i64 16, .int .i64 2, .int .i64 8, .int .i64 5, .int .i64 1, .int .i64 1, .int .i64 10, .int .i64 4, .int .i64 3, .int .i64 9, .int .i64 0, .int .i64 0, .int .i64 0, .slice wa 0 wc, .slice fa 0 fc, .slice aa 0 ac]) rfl 28 _ _ rfl (rowz_new (b := w5.heap.size) rfl) (by rfl) (by rfl) rfl rJ rJ ?_
 intro w6 r6 g6
 have R5 := hH r6
 have hb6 := below_only (w0 := w5) (show Below w5.heap.size w5 _ from bw) g6 (Nat.le_refl _) (Nat.le_refl _)
 have B6 := hH (Bc (B := w.heap.size) (a := w) B5.out hb6)
 have s6 : w5.heap.size < w6.heap.size := r6.lt
 have R1 := hH (R1.out.keep hb6 mJ)
 have G5 := hH (g3_below G5.out hb6)
 clear r6 g6 hb6
 (try simp only [Act.put])
 go_wp2_with fail
 (with_reducible refine (HU.out _).mono ?_)
 rintro e w7 ⟨rfl, b7⟩
 have s7 : w6.heap.size ≤ w7.heap.size := sz b7
 have B7 := bJ B6.out b7
 have R1 := hH (RowAt.keep (show RowAt _ w2.heap.size 28 _ from R1.out.keep (B := w6.heap.size) bw mJ) b7 mJ)
 have R5 := hH (RowAt.keep (show RowAt _ w5.heap.size 28 _ from R5.out.keep (B := w6.heap.size) bw mJ) b7 mJ)
 have G5 := hH (g3_below (g3_below G5.out (show Below w6.heap.size w6 _ from bw)) b7)
 clear b7
 go_wp2_with fail
 (with_reducible refine (HB.out _).mono ?_)
 rintro e w8 ⟨v8, rfl, i8, b8⟩
 have s8 : w7.heap.size ≤ w8.heap.size := sz b8
 have B8 := bJ B7.out b8
 have R1 := hH (RowAt.keep (show RowAt _ w2.heap.size 28 _ from R1.out.keep (B := w7.heap.size) bw mJ) b8 mJ)
 have R5 := hH (RowAt.keep (show RowAt _ w5.heap.size 28 _ from R5.out.keep (B := w7.heap.size) bw mJ) b8 mJ)
 obtain ⟨a8, q8, rfl⟩ := i8.shape
 have I8 := hH (show Ints .i64 w8 (.slice a8 2 q8) [20, 15] from i8)
 clear i8
 have G5 := hH (g3_below (g3_below G5.out (show Below w7.heap.size w7 _ from bw)) b8)
 clear b8
 go_wp2_with fail
 (with_reducible refine (HN0.out _).mono ?_)
 rintro e w9 ⟨rfl, b9⟩
 have s9 : w8.heap.size ≤ w9.heap.size := sz b9
 have B9 := bJ B8.out b9
 have R1 := hH (RowAt.keep (show RowAt _ w2.heap.size 28 _ from R1.out.keep (B := w8.heap.size) bw mJ) b9 mJ)
 have R5 := hH (RowAt.keep (show RowAt _ w5.heap.size 28 _ from R5.out.keep (B := w8.heap.size) bw mJ) b9 mJ)
 have G5 := hH (g3_below (g3_below G5.out (show Below w8.heap.size w8 _ from bw)) b9)
 have I8 := hH ((I8.out.below (show Below w8.heap.size w8 _ from bw)).below b9)
 clear b9
 dsimp only
 have hKK := ‹∀ (a : Act) (w : World), wpList _ _ _ _ a w → _›
 refine hKK _ _ ?_
 clear hKK
 (try simp only [Act.put, List.setIfInBounds_toArray, List.set_cons_zero, List.set_cons_succ])
 iterate 3 (refine seqTk (v := ?_) rfl ?_ ?_; rotate_left 2; (focus (first | (go_simp; done) | (go_simp; with_reducible rfl))); (try simp only [Act.put, List.setIfInBounds_toArray, List.set_cons_zero, List.set_cons_succ]))
 refine wpList_plain rfl fun K hK => ?_
 go_simp
 refine hK _ _ ?_
 clear hK K
 (try simp only [Act.put, List.setIfInBounds_toArray, List.set_cons_zero, List.set_cons_succ])
 refine storeRow (zs := #[.int .i64 0, .int .i64 0, .int .i64 0, .int .i64 0, .int .i64 0, .int .i64 0, .int .i64 0, .int .i64 0, .int .i64 0, .int .i64 0, .int .i64 0, .int .i64 0, .int .i64 0, .int .i64 0, .slice none 0 0, .slice none 0 0, .slice none 0 0]) (cells := #[.int .i64 0, .int .i64 0, .int .i64 0, .int .i64 0, .int .i64 0, .int .i64 0, .int .i64 0, .int .i64 0, .int .i64 0, .int .i64 0, .int .i64 0, .int .i64 0, .int .i64 0, .int .i64 0, .slice none 0 0, .slice none 0 0, .slice none 0 0]) rfl 28 _ _ rfl (rowz_new (b := w9.heap.size) rfl) (by rfl) (by rfl) rfl rJ rJ ?_
 intro w10 r10 g10
 have R9 := hH r10
 have hb10 := below_only (w0 := w9) (show Below w9.heap.size w9 _ from bw) g10 (Nat.le_refl _) (Nat.le_refl _)
 have B10 := hH (Bc (B := w.heap.size) (a := w) B9.out hb10)
 have s10 : w9.heap.size < w10.heap.size := r10.lt
 have R1 := hH (R1.out.keep hb10 mJ)
 have R5 := hH (R5.out.keep hb10 mJ)
 have G5 := hH (g3_below G5.out hb10)
 have I8 := hH (I8.out.below hb10)
 clear r10 g10 hb10
 (try simp only [Act.put])
 clear R9
 go_wp2_with fail
 (with_reducible refine (HU.out _).mono ?_)
 rintro e w11 ⟨rfl, b11⟩
 have s11 : w10.heap.size ≤ w11.heap.size := sz b11
 have B11 := bJ B10.out b11
 have R1 := hH (RowAt.keep (show RowAt _ w2.heap.size 28 _ from R1.out.keep (B := w10.heap.size) bw mJ) b11 mJ)
 have R5 := hH (RowAt.keep (show RowAt _ w5.heap.size 28 _ from R5.out.keep (B := w10.heap.size) bw mJ) b11 mJ)
 have G5 := hH (g3_below (g3_below G5.out (show Below w10.heap.size w10 _ from bw)) b11)
 have I8 := hH ((I8.out.below (show Below w10.heap.size w10 _ from bw)).below b11)
 clear b11
 dsimp only
 have hKK := ‹∀ (a : Act) (w : World), wpList _ _ _ _ a w → _›
 refine hKK _ _ ?_
 clear hKK
 (try simp only [Act.put, List.setIfInBounds_toArray, List.set_cons_zero, List.set_cons_succ])
 refine buildArm rfl 28 _ rfl [(0, .agg #[.int .i64 2, .int .i64 16, .int .i64 2, .int .i64 8, .int .i64 5, .int .i64 1, .int .i64 1, .int .i64 10, .int .i64 4, .int .i64 3, .int .i64 9]), (1, .int .i64 1)] rJ #[.int .i64 2, .int .i64 16, .int .i64 2, .int .i64 8, .int .i64 5, .int .i64 1, .int .i64 1, .int .i64 10, .int .i64 4, .int .i64 3, .int .i64 9, .int .i64 1, .int .i64 0, .int .i64 0, .slice none 0 0, .slice none 0 0, .slice none 0 0] rJ ?_
 (try simp only [Act.put, List.setIfInBounds_toArray, List.set_cons_zero, List.set_cons_succ])
 go_wp2_with fail
 (with_reducible refine (HPO.out _).mono ?_)
 rintro e w12 ⟨rfl, b12⟩
 have s12 : w11.heap.size ≤ w12.heap.size := sz b12
 have B12 := bJ B11.out b12
 have R1 := hH (RowAt.keep (show RowAt _ w2.heap.size 28 _ from R1.out.keep (B := w11.heap.size) bw mJ) b12 mJ)
 have R5 := hH (RowAt.keep (show RowAt _ w5.heap.size 28 _ from R5.out.keep (B := w11.heap.size) bw mJ) b12 mJ)
 have G5 := hH (g3_below (g3_below G5.out (show Below w11.heap.size w11 _ from bw)) b12)
 have I8 := hH ((I8.out.below (show Below w11.heap.size w11 _ from bw)).below b12)
 clear b12
 go_upto_region 7 with fail
 refine wp_region_lit ?_
 refine loadRow rfl 28 _ rfl R1.out (by rfl) Tryz.underlying28 rfl rJ ?_
 (try simp only [Act.put, List.setIfInBounds_toArray, List.set_cons_zero, List.set_cons_succ])
 go_wp2_with fail
 (with_reducible refine (HL.out _).mono ?_)
 rintro e w13 ⟨rfl, b13⟩
 have s13 : w12.heap.size ≤ w13.heap.size := sz b13
 have B13 := bJ B12.out b13
 have R1 := hH (RowAt.keep (show RowAt _ w2.heap.size 28 _ from R1.out.keep (B := w12.heap.size) bw mJ) b13 mJ)
 have R5 := hH (RowAt.keep (show RowAt _ w5.heap.size 28 _ from R5.out.keep (B := w12.heap.size) bw mJ) b13 mJ)
 have G5 := hH (g3_below (g3_below G5.out (show Below w12.heap.size w12 _ from bw)) b13)
 have I8 := hH ((I8.out.below (show Below w12.heap.size w12 _ from bw)).below b13)
 clear b13
 go_upto_region 8 with fail
 refine wp_region_lit ?_
 iterate 12 (refine seqTk (v := ?_) rfl ?_ ?_; rotate_left 2; (focus (first | (go_simp; done) | (go_simp; with_reducible rfl))); (try simp only [Act.put, List.setIfInBounds_toArray, List.set_cons_zero, List.set_cons_succ]))
 refine seqLoadRow rfl 28 _ rfl (by rfl) (show RowAt _ w2.heap.size 28 _ from R1.out.keep (B := w13.heap.size) bw mJ).range Tryz.underlying28 rfl rJ ?_
 (try simp only [Act.put, List.setIfInBounds_toArray, List.set_cons_zero, List.set_cons_succ])
 refine seqLoadRow rfl 28 _ rfl (by rfl) (show RowAt _ w5.heap.size 28 _ from R5.out.keep (B := w13.heap.size) bw mJ).range Tryz.underlying28 rfl rJ ?_
 (try simp only [Act.put, List.setIfInBounds_toArray, List.set_cons_zero, List.set_cons_succ])
 go_wp2_with fail
 (with_reducible refine (HRS.out _ _ _ _ (g3_below G5.out bw)).mono ?_)
 rintro e w14 ⟨rfl, b14⟩
 have s14 : w13.heap.size ≤ w14.heap.size := sz b14
 have B14 := bJ B13.out b14
 have R1 := hH (RowAt.keep (show RowAt _ w2.heap.size 28 _ from R1.out.keep (B := w13.heap.size) bw mJ) b14 mJ)
 have R5 := hH (RowAt.keep (show RowAt _ w5.heap.size 28 _ from R5.out.keep (B := w13.heap.size) bw mJ) b14 mJ)
 have G5 := hH (g3_below (g3_below G5.out (show Below w13.heap.size w13 _ from bw)) b14)
 have I8 := hH ((I8.out.below (show Below w13.heap.size w13 _ from bw)).below b14)
 clear b14
 dsimp only
 have hKK := ‹∀ (a : Act) (w : World), wpList _ _ _ _ a w → _›
 refine hKK _ _ ?_
 clear hKK
 (try simp only [Act.put, List.setIfInBounds_toArray, List.set_cons_zero, List.set_cons_succ])
 iterate 2 (refine seqTk (v := ?_) rfl ?_ ?_; rotate_left 2; (focus (first | (go_simp; done) | (go_simp; with_reducible rfl))); (try simp only [Act.put, List.setIfInBounds_toArray, List.set_cons_zero, List.set_cons_succ]))
 refine seqLoadRow rfl 28 _ rfl (by rfl) (show RowAt _ w2.heap.size 28 _ from R1.out.keep (B := w14.heap.size) bw mJ).range Tryz.underlying28 rfl rJ ?_
 (try simp only [Act.put, List.setIfInBounds_toArray, List.set_cons_zero, List.set_cons_succ])
 refine seqLoadRow rfl 28 _ rfl (by rfl) (show RowAt _ w5.heap.size 28 _ from R5.out.keep (B := w14.heap.size) bw mJ).range Tryz.underlying28 rfl rJ ?_
 (try simp only [Act.put, List.setIfInBounds_toArray, List.set_cons_zero, List.set_cons_succ])
 go_wp2_with fail
 (with_reducible refine (HSS.out _ _ _ _ _ _ _ (g3_below G5.out bw)).mono ?_)
 rintro e w15 ⟨rfl, b15⟩
 have s15 : w14.heap.size ≤ w15.heap.size := sz b15
 have B15 := bJ B14.out b15
 have R1 := hH (RowAt.keep (show RowAt _ w2.heap.size 28 _ from R1.out.keep (B := w14.heap.size) bw mJ) b15 mJ)
 have R5 := hH (RowAt.keep (show RowAt _ w5.heap.size 28 _ from R5.out.keep (B := w14.heap.size) bw mJ) b15 mJ)
 have G5 := hH (g3_below (g3_below G5.out (show Below w14.heap.size w14 _ from bw)) b15)
 have I8 := hH ((I8.out.below (show Below w14.heap.size w14 _ from bw)).below b15)
 clear b15
 go_wp2_with fail
 (with_reducible refine (HEQ.out _ _ _ (I8.out.below bw) (newI2 20 15 w15 3 _ (by rfl))).mono ?_)
 rintro e w16 ⟨rfl, b16⟩
 have s16 : w15.heap.size ≤ w16.heap.size := sz b16
 have B16 := bJ B15.out b16
 have R1 := hH (RowAt.keep (show RowAt _ w2.heap.size 28 _ from R1.out.keep (B := w15.heap.size) bw mJ) b16 mJ)
 have R5 := hH (RowAt.keep (show RowAt _ w5.heap.size 28 _ from R5.out.keep (B := w15.heap.size) bw mJ) b16 mJ)
 clear b16
 dsimp only
 have hKK := ‹∀ (a : Act) (w : World), wpList _ _ _ _ a w → _›
 refine hKK _ _ ?_
 clear hKK
 (try simp only [Act.put, List.setIfInBounds_toArray, List.set_cons_zero, List.set_cons_succ])
 iterate 14 (refine seqTk (v := ?_) rfl ?_ ?_; rotate_left 2; (focus (first | (go_simp; done) | (go_simp; with_reducible rfl))); (try simp only [Act.put, List.setIfInBounds_toArray, List.set_cons_zero, List.set_cons_succ]))
 refine seqLoadRow rfl 28 _ rfl (by rfl) (show RowAt _ w2.heap.size 28 _ from R1.out.keep (B := w16.heap.size) bw mJ).range Tryz.underlying28 rfl rJ ?_
 (try simp only [Act.put, List.setIfInBounds_toArray, List.set_cons_zero, List.set_cons_succ])
 go_wp2_with fail
 (with_reducible refine (HR.out _).mono ?_)
 rintro e w17 ⟨rfl, b17⟩
 have s17 : w16.heap.size ≤ w17.heap.size := sz b17
 have B17 := bJ B16.out b17
 clear b17
 go_wp2_with fail
 (with_reducible refine (HU.out _).mono ?_)
 rintro e w18 ⟨rfl, b18⟩
 have s18 : w17.heap.size ≤ w18.heap.size := sz b18
 have B18 := bJ B17.out b18
 clear b18
 go_wp2_with fail
 (with_reducible refine (HM.out _).mono ?_)
 rintro e w19 ⟨rfl, b19⟩
 have s19 : w18.heap.size ≤ w19.heap.size := sz b19
 have B19 := bJ B18.out b19
 clear b19
 go_wp2_with fail
 go_ret
 exact ⟨rfl, bx B19.out⟩
end Go.Proofs.YtgobbecpnjelmaaGreat
