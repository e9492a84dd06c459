/-
  Laws28a: The walk of StateBirths.
-/
import Derived.Test.YtgobbecpnjelmaaGreatJ5a
namespace Go.Proofs.YtgobbecpnjelmaaGreat
open Go.RowKit

theorem birthsE_no (t s e n : Int) : (birthsV false t s e n).2 = 200 := by
  unfold birthsV
  rw [rightE_no, if_neg (by decide)]

theorem birthsE_yes (t s e n : Int) : (birthsV true t s e n).2 ≠ 200 := by
  unfold birthsV
  split
  · simp
  · unfold rightE
    rw [if_neg (by simp)]
    split <;> simp

set_option maxRecDepth 100000 in
set_option maxHeartbeats 16000000 in
theorem stateBirths_mid (c0 c1 c2 c3 c4 c5 c6 c7 c8 c9 c10 : Int) (count : Int) (w : World) (hw : Ok64 c7) :
    Calls Tryz.prog 4 #[.agg #[.int .i64 c0, .int .i64 c1, .int .i64 c2, .int .i64 c3, .int .i64 c4, .int .i64 c5, .int .i64 c6, .int .i64 c7, .int .i64 c8, .int .i64 c9, .int .i64 c10], .int .i64 count] w fun e w' => e = .returned (.bool true) ∧ Below w.heap.size w w' := by
  obtain ⟨B, hB⟩ : ∃ B, confB11 c0 c1 c2 c3 c4 c5 c6 c7 c8 c9 c10 = B := ⟨_, rfl⟩
  have HB1 := Lib.hid (fun W => sbirths_any c0 c1 c2 c3 c4 c5 c6 c7 c8 c9 c10 count W hw)
  have HB2 := Lib.hid (fun W => rbirths_any c0 c1 c2 c3 c4 c5 c6 c7 c8 c9 c10 count W)
  have HM1 := Lib.hid (fun W => smost_any c0 c1 c2 c3 c4 c5 c6 c7 c8 c9 c10 W hw)
  have HM2 := Lib.hid (fun W => rmost28_any c0 c1 c2 c3 c4 c5 c6 c7 c8 c9 c10 W)
  have HN := Lib.hid (fun W => snew_any c0 c1 c2 c3 c4 c5 c6 c7 c8 c9 c10 W hw)
  have HE1 := birthsE_no c2 c3 c4 count
  have HE2 := birthsE_yes c2 c3 c4 count
  have HEB : (birthsV B c2 c3 c4 count).2 = 200 ↔ B = false := by
    cases B with
    | false => exact ⟨fun _ => rfl, fun _ => HE1⟩
    | true => exact ⟨fun h => absurd h HE2, fun h => by cases h⟩
  rw [hB] at HB1 HB2 HM1 HM2 HN
  obtain ⟨⟨BL, E⟩, hBV⟩ : ∃ r, birthsV B c2 c3 c4 count = r := ⟨_, rfl⟩
  rw [hBV] at HB1 HB2 HEB
  obtain ⟨M, hM⟩ : ∃ M, mostV B c0 c1 c2 c3 c9 = M := ⟨_, rfl⟩
  rw [hM] at HM1 HM2
  dsimp only at HB1 HB2 HEB
  have HSA := Lib.hid (fun W va vb (h1 : Ints .i64 W va BL) (h2 : Ints .i64 W vb BL) => show Calls Tryz.prog 16 #[va, vb] W fun e w' => e = .returned (.bool true) ∧ Below W.heap.size W w' from
    (same_any va vb _ _ W h1 h2).mono fun e w' ⟨h1, n, h2⟩ => ⟨by rw [h1, decide_eq_true rfl], by rw [h2]; exact below_drewN (Below.refl _ _) n⟩)
  have jE : (E != E) = false := by simp
  have jM : (M != M) = false := by simp
  have HEBH := Lib.hid HEB
  have HCB := Lib.hid hB
  clear HE1 HE2 hBV hM hw HEB hB
  have jE2 : B = true → (E != 200) = true := fun h => by
    have : E ≠ 200 := fun e => by rw [HEBH.out.1 e] at h; cases h
    simp [this]
  cases B with
  | false =>
    have hE : E = 200 := HEBH.out.2 rfl
    subst hE
    clear jE2 HEBH
    rw [if_neg (by simp), if_neg (by simp)] at HN
    go_enter Tryz.func4, Tryz.ntmps4
    go_wp2_with fail
    (with_reducible refine (HB1.out _).mono ?_)
    rintro e w1 ⟨v1, rfl, i1, b1⟩
    have s1 : w.heap.size + 1 ≤ w1.heap.size := sz b1
    have B1 := Lib.hid (Bc (B := w.heap.size) (a := w) (by (repeat (first | with_reducible exact Below.refl _ _ | with_reducible refine Bs ?_ | with_reducible refine Ba ?_ | with_reducible refine Bd ?_ | with_reducible refine Bn ?_ | with_reducible refine Bt  ?_))) b1)
    (obtain ⟨c1_0, c1_1, c1_2, c1_3, c1_4, c1_5, c1_6, c1_7, c1_8, c1_9, c1_10⟩ := k11 (w.heap.size) (.int .i64 c0) (.int .i64 c1) (.int .i64 c2) (.int .i64 c3) (.int .i64 c4) (.int .i64 c5) (.int .i64 c6) (.int .i64 c7) (.int .i64 c8) (.int .i64 c9) (.int .i64 c10) b1 (by and_intros <;> go_simp)); (obtain ⟨l1_0, n1_0, m1_0⟩ := lnm (show w.heap.size < w1.heap.size by omega))
    have I1 := Lib.hid i1
    obtain ⟨a1, q1, rfl⟩ := i1.shape
    clear i1
    clear b1
    go_wp2_with fail
    (with_reducible refine (HB2.out _).mono ?_)
    rintro e w2 ⟨v2, rfl, i2, b2⟩
    have s2 : w1.heap.size ≤ w2.heap.size := sz b2
    have B2 := Lib.hid (Bc (B := w.heap.size) (a := w) (bx B1.out) b2)
    (obtain ⟨c2_0, c2_1, c2_2, c2_3, c2_4, c2_5, c2_6, c2_7, c2_8, c2_9, c2_10⟩ := k11 (w.heap.size) (.int .i64 c0) (.int .i64 c1) (.int .i64 c2) (.int .i64 c3) (.int .i64 c4) (.int .i64 c5) (.int .i64 c6) (.int .i64 c7) (.int .i64 c8) (.int .i64 c9) (.int .i64 c10) b2 (by and_intros <;> go_simp)); (obtain ⟨l2_0, n2_0, m2_0⟩ := lnm (show w.heap.size < w2.heap.size by omega))
    have I2 := Lib.hid i2
    obtain ⟨a2, q2, rfl⟩ := i2.shape
    have I1 := Lib.hid ((I1.out.below bw).below b2)
    clear i2
    clear b2
    go_upto_region 3 with fail
    refine wp_region_held_drew (S := fun w' => w'.cell? ⟨w.heap.size, 0, none⟩ = some (.int .i64 c0) ∧ w'.cell? ⟨w.heap.size, 1, none⟩ = some (.int .i64 c1) ∧ w'.cell? ⟨w.heap.size, 2, none⟩ = some (.int .i64 c2) ∧ w'.cell? ⟨w.heap.size, 3, none⟩ = some (.int .i64 c3) ∧ w'.cell? ⟨w.heap.size, 4, none⟩ = some (.int .i64 c4) ∧ w'.cell? ⟨w.heap.size, 5, none⟩ = some (.int .i64 c5) ∧ w'.cell? ⟨w.heap.size, 6, none⟩ = some (.int .i64 c6) ∧ w'.cell? ⟨w.heap.size, 7, none⟩ = some (.int .i64 c7) ∧ w'.cell? ⟨w.heap.size, 8, none⟩ = some (.int .i64 c8) ∧ w'.cell? ⟨w.heap.size, 9, none⟩ = some (.int .i64 c9) ∧ w'.cell? ⟨w.heap.size, 10, none⟩ = some (.int .i64 c10)) (by kernel_rfl) ?_ (fun hHeld => ?_); (focus (first | with_reducible exact True.intro | ((try dsimp only); and_intros <;> first | (go_simp; done) | (go_keep; done)))); refine lT 0 rfl hHeld ?_; refine lT 1 rfl hHeld ?_; refine lexHv 2 rfl ?_ (by kernel_rfl); (intro K hK); (go_simp; (go_at_call 16); ((with_reducible refine (HSA.out _ _ _ (I1.out.below bw) (I2.out.below bw)).mono ?_)); (rintro e w3 ⟨rfl, b3⟩); (have s3 : w2.heap.size ≤ w3.heap.size := sz b3); (have B3 := Lib.hid (Bc (B := w.heap.size) (a := w) (bx B2.out) b3)); (obtain ⟨c3_0, c3_1, c3_2, c3_3, c3_4, c3_5, c3_6, c3_7, c3_8, c3_9, c3_10⟩ := k11 (w.heap.size) (.int .i64 c0) (.int .i64 c1) (.int .i64 c2) (.int .i64 c3) (.int .i64 c4) (.int .i64 c5) (.int .i64 c6) (.int .i64 c7) (.int .i64 c8) (.int .i64 c9) (.int .i64 c10) b3 (by and_intros <;> go_simp)); (obtain ⟨l3_0, n3_0, m3_0⟩ := lnm (show w.heap.size < w3.heap.size by omega)); (clear b3); (try go_wp2_with fail)); refine hO hK ?_; (clear hHeld hK K); (intro hHeld); (try simp only [Act.put, List.setIfInBounds_toArray, List.set_cons_zero, List.set_cons_succ]); refine lT 3 rfl hHeld ?_; refine lT 4 rfl hHeld ?_; (first | refine lT 5 rfl hHeld ?_ | refine lS 5 rfl hHeld ?_); (first | refine lT 6 rfl hHeld ?_ | refine lS 6 rfl hHeld ?_); (first | refine lT 7 rfl hHeld ?_ | refine lS 7 rfl hHeld ?_); refine lT 8 rfl hHeld ?_; refine lT 9 rfl hHeld ?_; (first | refine lT 10 rfl hHeld ?_ | refine lS 10 rfl hHeld ?_); (first | refine lT 12 rfl hHeld ?_ | refine lS 12 rfl hHeld ?_); refine lexHv 11 rfl ?_ (by kernel_rfl); (intro K hK); (go_simp; (go_at_call 17); ((with_reducible refine (HM1.out _).mono ?_)); (rintro e w4 ⟨rfl, b4⟩); (have s4 : w3.heap.size ≤ w4.heap.size := sz b4); (have B4 := Lib.hid (Bc (B := w.heap.size) (a := w) (bx B3.out) b4)); (obtain ⟨c4_0, c4_1, c4_2, c4_3, c4_4, c4_5, c4_6, c4_7, c4_8, c4_9, c4_10⟩ := k11 (w.heap.size) (.int .i64 c0) (.int .i64 c1) (.int .i64 c2) (.int .i64 c3) (.int .i64 c4) (.int .i64 c5) (.int .i64 c6) (.int .i64 c7) (.int .i64 c8) (.int .i64 c9) (.int .i64 c10) b4 (by and_intros <;> go_simp)); (obtain ⟨l4_0, n4_0, m4_0⟩ := lnm (show w.heap.size < w4.heap.size by omega)); (clear b4); (try go_wp2_with fail)); refine hO hK ?_; (clear hHeld hK K); (intro hHeld); (try simp only [Act.put, List.setIfInBounds_toArray, List.set_cons_zero, List.set_cons_succ]); refine lexHv 13 rfl ?_ (by kernel_rfl); (intro K hK); (go_simp; (go_at_call 18); ((with_reducible refine (HM2.out _).mono ?_)); (rintro e w5 ⟨rfl, b5⟩); (have s5 : w4.heap.size ≤ w5.heap.size := sz b5); (have B5 := Lib.hid (Bc (B := w.heap.size) (a := w) (bx B4.out) b5)); (obtain ⟨c5_0, c5_1, c5_2, c5_3, c5_4, c5_5, c5_6, c5_7, c5_8, c5_9, c5_10⟩ := k11 (w.heap.size) (.int .i64 c0) (.int .i64 c1) (.int .i64 c2) (.int .i64 c3) (.int .i64 c4) (.int .i64 c5) (.int .i64 c6) (.int .i64 c7) (.int .i64 c8) (.int .i64 c9) (.int .i64 c10) b5 (by and_intros <;> go_simp)); (obtain ⟨l5_0, n5_0, m5_0⟩ := lnm (show w.heap.size < w5.heap.size by omega)); (clear b5); (try go_wp2_with fail)); refine hO hK ?_; (clear hHeld hK K); (intro hHeld); (try simp only [Act.put, List.setIfInBounds_toArray, List.set_cons_zero, List.set_cons_succ]); (first | refine lT 14 rfl hHeld ?_ | refine lS 14 rfl hHeld ?_); refine lT 15 rfl hHeld ?_; refine wpAnyH_done (by kernel_rfl) ?_ _
    all_goals
      go_wp2_with fail
      (with_reducible refine (HN.out _).mono ?_)
      rintro e w6 ⟨rfl, b6⟩
      have s6 : w5.heap.size ≤ w6.heap.size := sz b6
      have B6 := Lib.hid (Bc (B := w.heap.size) (a := w) (bx B5.out) b6)
      clear b6
      dsimp only
      have hKK := ‹∀ (a : Act) (w : World), wpList _ _ _ _ a w → _›
      refine hKK _ _ ?_
      clear hKK
      (try simp only [Act.put, List.setIfInBounds_toArray, List.set_cons_zero, List.set_cons_succ])
      iterate 3 (refine seqTk (v := ?_) rfl ?_ ?_; rotate_left 2; (focus (first | (go_simp; done) | (go_simp; with_reducible rfl))); (try simp only [Act.put, List.setIfInBounds_toArray, List.set_cons_zero, List.set_cons_succ]))
      refine wpList_plain rfl fun K hK => ?_
      go_simp
      refine hK _ _ ?_
      clear hK K
      (try simp only [Act.put, List.setIfInBounds_toArray, List.set_cons_zero, List.set_cons_succ])
      refine storeRow (zs := #[.int .i64 0, .int .i64 0, .int .i64 0, .int .i64 0, .int .i64 0, .int .i64 0, .int .i64 0, .int .i64 0, .int .i64 0, .int .i64 0, .int .i64 0, .int .i64 0, .int .i64 0, .int .i64 0, .slice none 0 0, .slice none 0 0, .slice none 0 0]) (cells := #[.int .i64 0, .int .i64 0, .int .i64 0, .int .i64 0, .int .i64 0, .int .i64 0, .int .i64 0, .int .i64 0, .int .i64 0, .int .i64 0, .int .i64 0, .int .i64 0, .int .i64 0, .int .i64 0, .slice none 0 0, .slice none 0 0, .slice none 0 0]) rfl 28 _ _ rfl (rowz_new (b := w6.heap.size) rfl) (by rfl) (by rfl) rfl (by kernel_rfl) (by kernel_rfl) ?_
      intro w7 r7 g7
      have R7 := Lib.hid r7
      have hb7 := below_only (w0 := w6) (show Below w6.heap.size w6 _ from bw) g7 (Nat.le_refl _) (Nat.le_refl _)
      have B7 := Lib.hid (Bc (B := w.heap.size) (a := w) B6.out hb7)
      have s7 : w6.heap.size < w7.heap.size := r7.lt
      clear r7 g7 hb7
      (try simp only [Act.put])
      go_upto_region 7 with fail
      refine wp_region_lit ?_
      iterate 7 (refine seqTk (v := ?_) rfl ?_ ?_; rotate_left 2; (focus (first | (go_simp; done) | (go_simp; with_reducible rfl))); (try simp only [Act.put, List.setIfInBounds_toArray, List.set_cons_zero, List.set_cons_succ]))
      refine seqLoadRow rfl 28 _ rfl (by rfl) (show RowAt _ w6.heap.size 28 _ from R7.out.keep (B := w7.heap.size) bw (by first | omega | (simp; done) | (simp; omega))).range Tryz.underlying28 rfl (by kernel_rfl) ?_
      (try simp only [Act.put, List.setIfInBounds_toArray, List.set_cons_zero, List.set_cons_succ])
      refine seqTk (v := .agg #[.int .i64 0, .int .i64 0, .int .i64 0, .int .i64 0, .int .i64 0, .int .i64 0, .int .i64 0, .int .i64 0, .int .i64 0, .int .i64 0, .int .i64 0, .int .i64 0, .int .i64 0, .int .i64 0, .slice none 0 0, .slice none 0 0, .slice none 0 0]) rfl ?_ (by kernel_rfl)
      (try simp only [Act.put, List.setIfInBounds_toArray, List.set_cons_zero, List.set_cons_succ])
      go_wp2_with fail
      (with_reducible refine (sameSt_self ⟨0, 0, 0, 0, 0, 0, 0, 0, 0, 0, 0, 0, 0, 0, [], [], []⟩ ▸ rsame28_any 0 0 0 0 0 0 0 0 0 0 0 0 0 0 0 0 0 0 0 0 0 0 0 0 0 0 0 0 (.slice none 0 0) (.slice none 0 0) (.slice none 0 0) (.slice none 0 0) (.slice none 0 0) (.slice none 0 0) [] [] [] [] [] [] _ (seens_nil _ _ (by omega)) (growns_nilU _ _ (by omega)) (alerts_nil _ _ (by omega)) (seens_nil _ _ (by omega)) (growns_nilU _ _ (by omega)) (alerts_nil _ _ (by omega))).mono ?_)
      rintro e w8 ⟨rfl, b8⟩
      have s8 : w7.heap.size ≤ w8.heap.size := sz b8
      have B8 := Lib.hid (Bc (B := w.heap.size) (a := w) (bx B7.out) b8)
      clear b8
      go_wp2_with fail
      (with_reducible refine (lives28_any _).mono ?_)
      rintro e w9 ⟨rfl, b9⟩
      have s9 : w8.heap.size ≤ w9.heap.size := sz b9
      have B9 := Lib.hid (Bc (B := w.heap.size) (a := w) (bx B8.out) b9)
      clear b9
      go_wp2_with fail
      go_ret
      exact ⟨rfl, bx B9.out⟩
  | true =>
    have jE3 := jE2 rfl
    clear jE2 HEBH
    rw [if_pos rfl, if_pos rfl] at HN
    have HRR := Lib.hid (fun W => stateB_new c0 c1 c2 c3 c4 c5 c6 c7 c8 c9 c10 HCB.out ▸ rright28_any c0 c1 c2 c3 c4 c5 c6 c7 c8 c9 c10 0 0 0 none none none 0 0 0 0 0 0 [] [] [] W (seens_nil _ _ (by omega)) rfl (growns_nilU _ _ (by omega)) rfl (alerts_nil _ _ (by omega)) rfl)
    go_enter Tryz.func4, Tryz.ntmps4
    go_wp2_with fail
    (with_reducible refine (HB1.out _).mono ?_)
    rintro e w1 ⟨v1, rfl, i1, b1⟩
    have s1 : w.heap.size + 1 ≤ w1.heap.size := sz b1
    have B1 := Lib.hid (Bc (B := w.heap.size) (a := w) (by (repeat (first | with_reducible exact Below.refl _ _ | with_reducible refine Bs ?_ | with_reducible refine Ba ?_ | with_reducible refine Bd ?_ | with_reducible refine Bn ?_ | with_reducible refine Bt  ?_))) b1)
    (obtain ⟨c1_0, c1_1, c1_2, c1_3, c1_4, c1_5, c1_6, c1_7, c1_8, c1_9, c1_10⟩ := k11 (w.heap.size) (.int .i64 c0) (.int .i64 c1) (.int .i64 c2) (.int .i64 c3) (.int .i64 c4) (.int .i64 c5) (.int .i64 c6) (.int .i64 c7) (.int .i64 c8) (.int .i64 c9) (.int .i64 c10) b1 (by and_intros <;> go_simp)); (obtain ⟨l1_0, n1_0, m1_0⟩ := lnm (show w.heap.size < w1.heap.size by omega))
    have I1 := Lib.hid i1
    obtain ⟨a1, q1, rfl⟩ := i1.shape
    clear i1
    clear b1
    go_wp2_with fail
    (with_reducible refine (HB2.out _).mono ?_)
    rintro e w2 ⟨v2, rfl, i2, b2⟩
    have s2 : w1.heap.size ≤ w2.heap.size := sz b2
    have B2 := Lib.hid (Bc (B := w.heap.size) (a := w) (bx B1.out) b2)
    (obtain ⟨c2_0, c2_1, c2_2, c2_3, c2_4, c2_5, c2_6, c2_7, c2_8, c2_9, c2_10⟩ := k11 (w.heap.size) (.int .i64 c0) (.int .i64 c1) (.int .i64 c2) (.int .i64 c3) (.int .i64 c4) (.int .i64 c5) (.int .i64 c6) (.int .i64 c7) (.int .i64 c8) (.int .i64 c9) (.int .i64 c10) b2 (by and_intros <;> go_simp)); (obtain ⟨l2_0, n2_0, m2_0⟩ := lnm (show w.heap.size < w2.heap.size by omega))
    have I2 := Lib.hid i2
    obtain ⟨a2, q2, rfl⟩ := i2.shape
    have I1 := Lib.hid ((I1.out.below bw).below b2)
    clear i2
    clear b2
    go_upto_region 3 with fail
    refine wp_region_held_drew (S := fun w' => w'.cell? ⟨w.heap.size, 0, none⟩ = some (.int .i64 c0) ∧ w'.cell? ⟨w.heap.size, 1, none⟩ = some (.int .i64 c1) ∧ w'.cell? ⟨w.heap.size, 2, none⟩ = some (.int .i64 c2) ∧ w'.cell? ⟨w.heap.size, 3, none⟩ = some (.int .i64 c3) ∧ w'.cell? ⟨w.heap.size, 4, none⟩ = some (.int .i64 c4) ∧ w'.cell? ⟨w.heap.size, 5, none⟩ = some (.int .i64 c5) ∧ w'.cell? ⟨w.heap.size, 6, none⟩ = some (.int .i64 c6) ∧ w'.cell? ⟨w.heap.size, 7, none⟩ = some (.int .i64 c7) ∧ w'.cell? ⟨w.heap.size, 8, none⟩ = some (.int .i64 c8) ∧ w'.cell? ⟨w.heap.size, 9, none⟩ = some (.int .i64 c9) ∧ w'.cell? ⟨w.heap.size, 10, none⟩ = some (.int .i64 c10)) (by kernel_rfl) ?_ (fun hHeld => ?_); (focus (first | with_reducible exact True.intro | ((try dsimp only); and_intros <;> first | (go_simp; done) | (go_keep; done)))); refine lT 0 rfl hHeld ?_; refine lT 1 rfl hHeld ?_; refine lexHv 2 rfl ?_ (by kernel_rfl); (intro K hK); (go_simp; (go_at_call 16); ((with_reducible refine (HSA.out _ _ _ (I1.out.below bw) (I2.out.below bw)).mono ?_)); (rintro e w3 ⟨rfl, b3⟩); (have s3 : w2.heap.size ≤ w3.heap.size := sz b3); (have B3 := Lib.hid (Bc (B := w.heap.size) (a := w) (bx B2.out) b3)); (obtain ⟨c3_0, c3_1, c3_2, c3_3, c3_4, c3_5, c3_6, c3_7, c3_8, c3_9, c3_10⟩ := k11 (w.heap.size) (.int .i64 c0) (.int .i64 c1) (.int .i64 c2) (.int .i64 c3) (.int .i64 c4) (.int .i64 c5) (.int .i64 c6) (.int .i64 c7) (.int .i64 c8) (.int .i64 c9) (.int .i64 c10) b3 (by and_intros <;> go_simp)); (obtain ⟨l3_0, n3_0, m3_0⟩ := lnm (show w.heap.size < w3.heap.size by omega)); (clear b3); (try go_wp2_with fail)); refine hO hK ?_; (clear hHeld hK K); (intro hHeld); (try simp only [Act.put, List.setIfInBounds_toArray, List.set_cons_zero, List.set_cons_succ]); refine lT 3 rfl hHeld ?_; refine lT 4 rfl hHeld ?_; (first | refine lT 5 rfl hHeld ?_ | refine lS 5 rfl hHeld ?_); (first | refine lT 6 rfl hHeld ?_ | refine lS 6 rfl hHeld ?_); (first | refine lT 7 rfl hHeld ?_ | refine lS 7 rfl hHeld ?_); refine lT 8 rfl hHeld ?_; refine lT 9 rfl hHeld ?_; (first | refine lT 10 rfl hHeld ?_ | refine lS 10 rfl hHeld ?_); (first | refine lT 12 rfl hHeld ?_ | refine lS 12 rfl hHeld ?_); refine lexHv 11 rfl ?_ (by kernel_rfl); (intro K hK); (go_simp; (go_at_call 17); ((with_reducible refine (HM1.out _).mono ?_)); (rintro e w4 ⟨rfl, b4⟩); (have s4 : w3.heap.size ≤ w4.heap.size := sz b4); (have B4 := Lib.hid (Bc (B := w.heap.size) (a := w) (bx B3.out) b4)); (obtain ⟨c4_0, c4_1, c4_2, c4_3, c4_4, c4_5, c4_6, c4_7, c4_8, c4_9, c4_10⟩ := k11 (w.heap.size) (.int .i64 c0) (.int .i64 c1) (.int .i64 c2) (.int .i64 c3) (.int .i64 c4) (.int .i64 c5) (.int .i64 c6) (.int .i64 c7) (.int .i64 c8) (.int .i64 c9) (.int .i64 c10) b4 (by and_intros <;> go_simp)); (obtain ⟨l4_0, n4_0, m4_0⟩ := lnm (show w.heap.size < w4.heap.size by omega)); (clear b4); (try go_wp2_with fail)); refine hO hK ?_; (clear hHeld hK K); (intro hHeld); (try simp only [Act.put, List.setIfInBounds_toArray, List.set_cons_zero, List.set_cons_succ]); refine lexHv 13 rfl ?_ (by kernel_rfl); (intro K hK); (go_simp; (go_at_call 18); ((with_reducible refine (HM2.out _).mono ?_)); (rintro e w5 ⟨rfl, b5⟩); (have s5 : w4.heap.size ≤ w5.heap.size := sz b5); (have B5 := Lib.hid (Bc (B := w.heap.size) (a := w) (bx B4.out) b5)); (obtain ⟨c5_0, c5_1, c5_2, c5_3, c5_4, c5_5, c5_6, c5_7, c5_8, c5_9, c5_10⟩ := k11 (w.heap.size) (.int .i64 c0) (.int .i64 c1) (.int .i64 c2) (.int .i64 c3) (.int .i64 c4) (.int .i64 c5) (.int .i64 c6) (.int .i64 c7) (.int .i64 c8) (.int .i64 c9) (.int .i64 c10) b5 (by and_intros <;> go_simp)); (obtain ⟨l5_0, n5_0, m5_0⟩ := lnm (show w.heap.size < w5.heap.size by omega)); (clear b5); (try go_wp2_with fail)); refine hO hK ?_; (clear hHeld hK K); (intro hHeld); (try simp only [Act.put, List.setIfInBounds_toArray, List.set_cons_zero, List.set_cons_succ]); (first | refine lT 14 rfl hHeld ?_ | refine lS 14 rfl hHeld ?_); refine lT 15 rfl hHeld ?_; refine wpAnyH_done (by kernel_rfl) ?_ _
    all_goals
      go_wp2_with fail
      (with_reducible refine (HN.out _).mono ?_)
      rintro e w6 ⟨rfl, b6⟩
      have s6 : w5.heap.size ≤ w6.heap.size := sz b6
      have B6 := Lib.hid (Bc (B := w.heap.size) (a := w) (bx B5.out) b6)
      (obtain ⟨c6_0, c6_1, c6_2, c6_3, c6_4, c6_5, c6_6, c6_7, c6_8, c6_9, c6_10⟩ := k11 (w.heap.size) (.int .i64 c0) (.int .i64 c1) (.int .i64 c2) (.int .i64 c3) (.int .i64 c4) (.int .i64 c5) (.int .i64 c6) (.int .i64 c7) (.int .i64 c8) (.int .i64 c9) (.int .i64 c10) b6 (by and_intros <;> go_simp)); (obtain ⟨l6_0, n6_0, m6_0⟩ := lnm (show w.heap.size < w6.heap.size by omega))
      clear b6
      dsimp only
      have hKK := ‹∀ (a : Act) (w : World), wpList _ _ _ _ a w → _›
      refine hKK _ _ ?_
      clear hKK
      (try simp only [Act.put, List.setIfInBounds_toArray, List.set_cons_zero, List.set_cons_succ])
      iterate 3 (refine seqTk (v := ?_) rfl ?_ ?_; rotate_left 2; (focus (first | (go_simp; done) | (go_simp; with_reducible rfl))); (try simp only [Act.put, List.setIfInBounds_toArray, List.set_cons_zero, List.set_cons_succ]))
      refine wpList_plain rfl fun K hK => ?_
      go_simp
      refine hK _ _ ?_
      clear hK K
      (try simp only [Act.put, List.setIfInBounds_toArray, List.set_cons_zero, List.set_cons_succ])
      refine storeRow (zs := #[.int .i64 0, .int .i64 0, .int .i64 0, .int .i64 0, .int .i64 0, .int .i64 0, .int .i64 0, .int .i64 0, .int .i64 0, .int .i64 0, .int .i64 0, .int .i64 0, .int .i64 0, .int .i64 0, .slice none 0 0, .slice none 0 0, .slice none 0 0]) (cells := #[.int .i64 c0, .int .i64 c1, .int .i64 c2, .int .i64 c3, .int .i64 c4, .int .i64 c5, .int .i64 c6, .int .i64 c7, .int .i64 c8, .int .i64 c9, .int .i64 c10, .int .i64 0, .int .i64 0, .int .i64 0, .slice none 0 0, .slice none 0 0, .slice none 0 0]) rfl 28 _ _ rfl (rowz_new (b := w6.heap.size) rfl) (by rfl) (by rfl) rfl (by kernel_rfl) (by kernel_rfl) ?_
      intro w7 r7 g7
      have R7 := Lib.hid r7
      have hb7 := below_only (w0 := w6) (show Below w6.heap.size w6 _ from bw) g7 (Nat.le_refl _) (Nat.le_refl _)
      have B7 := Lib.hid (Bc (B := w.heap.size) (a := w) B6.out hb7)
      have s7 : w6.heap.size < w7.heap.size := r7.lt
      (obtain ⟨c7_0, c7_1, c7_2, c7_3, c7_4, c7_5, c7_6, c7_7, c7_8, c7_9, c7_10⟩ := k11 (w.heap.size) (.int .i64 c0) (.int .i64 c1) (.int .i64 c2) (.int .i64 c3) (.int .i64 c4) (.int .i64 c5) (.int .i64 c6) (.int .i64 c7) (.int .i64 c8) (.int .i64 c9) (.int .i64 c10) hb7 (by and_intros <;> go_simp)); (obtain ⟨l7_0, n7_0, m7_0⟩ := lnm (show w.heap.size < w7.heap.size by first | omega | (simp at y7; omega)))
      clear r7 g7 hb7
      (try simp only [Act.put])
      go_upto_region 8 with fail
      refine wp_region_lit ?_
      refine loadRow rfl 28 _ rfl R7.out (by rfl) Tryz.underlying28 rfl (by kernel_rfl) ?_
      (try simp only [Act.put, List.setIfInBounds_toArray, List.set_cons_zero, List.set_cons_succ])
      go_wp2_with fail
      (with_reducible refine (HRR.out _).mono ?_)
      rintro e w8 ⟨rfl, b8⟩
      have s8 : w7.heap.size ≤ w8.heap.size := sz b8
      have B8 := Lib.hid (Bc (B := w.heap.size) (a := w) (bx B7.out) b8)
      (obtain ⟨c8_0, c8_1, c8_2, c8_3, c8_4, c8_5, c8_6, c8_7, c8_8, c8_9, c8_10⟩ := k11 (w.heap.size) (.int .i64 c0) (.int .i64 c1) (.int .i64 c2) (.int .i64 c3) (.int .i64 c4) (.int .i64 c5) (.int .i64 c6) (.int .i64 c7) (.int .i64 c8) (.int .i64 c9) (.int .i64 c10) b8 (by and_intros <;> go_simp)); (obtain ⟨l8_0, n8_0, m8_0⟩ := lnm (show w.heap.size < w8.heap.size by omega))
      have R7 := Lib.hid (R7.out.keep b8 (by first | omega | (simp; done) | (simp; omega)))
      clear b8
      dsimp only
      have hKK := ‹∀ (a : Act) (w : World), wpList _ _ _ _ a w → _›
      refine hKK _ _ ?_
      clear hKK
      (try simp only [Act.put, List.setIfInBounds_toArray, List.set_cons_zero, List.set_cons_succ])
      refine seqTk (v := ?_) rfl ?_ ?_; rotate_left 2; (focus (first | (go_simp; done) | (go_simp; with_reducible rfl))); (try simp only [Act.put, List.setIfInBounds_toArray, List.set_cons_zero, List.set_cons_succ])
      refine seqLoadRow rfl 28 _ rfl (by rfl) (show RowAt _ w6.heap.size 28 _ from R7.out.keep (B := w8.heap.size) bw (by first | omega | (simp; done) | (simp; omega))).range Tryz.underlying28 rfl (by kernel_rfl) ?_
      (try simp only [Act.put, List.setIfInBounds_toArray, List.set_cons_zero, List.set_cons_succ])
      refine seqTk (v := ?_) rfl ?_ ?_; rotate_left 2; (focus (first | (go_simp; done) | (go_simp; with_reducible rfl))); (try simp only [Act.put, List.setIfInBounds_toArray, List.set_cons_zero, List.set_cons_succ])
      refine seqTk (v := .agg #[.int .i64 c0, .int .i64 c1, .int .i64 c2, .int .i64 c3, .int .i64 c4, .int .i64 c5, .int .i64 c6, .int .i64 c7, .int .i64 c8, .int .i64 c9, .int .i64 c10, .int .i64 0, .int .i64 0, .int .i64 0, .slice none 0 0, .slice none 0 0, .slice none 0 0]) rfl ?_ (by kernel_rfl)
      (try simp only [Act.put, List.setIfInBounds_toArray, List.set_cons_zero, List.set_cons_succ])
      go_wp2_with fail
      (with_reducible refine (sameSt_self ⟨c0, c1, c2, c3, c4, c5, c6, c7, c8, c9, c10, 0, 0, 0, [], [], []⟩ ▸ rsame28_any c0 c1 c2 c3 c4 c5 c6 c7 c8 c9 c10 0 0 0 c0 c1 c2 c3 c4 c5 c6 c7 c8 c9 c10 0 0 0 (.slice none 0 0) (.slice none 0 0) (.slice none 0 0) (.slice none 0 0) (.slice none 0 0) (.slice none 0 0) [] [] [] [] [] [] _ (seens_nil _ _ (by omega)) (growns_nilU _ _ (by omega)) (alerts_nil _ _ (by omega)) (seens_nil _ _ (by omega)) (growns_nilU _ _ (by omega)) (alerts_nil _ _ (by omega))).mono ?_)
      rintro e w9 ⟨rfl, b9⟩
      have s9 : w8.heap.size ≤ w9.heap.size := sz b9
      have B9 := Lib.hid (Bc (B := w.heap.size) (a := w) (bx B8.out) b9)
      clear b9
      go_wp2_with fail
      (with_reducible refine (lives28_any _).mono ?_)
      rintro e w10 ⟨rfl, b10⟩
      have s10 : w9.heap.size ≤ w10.heap.size := sz b10
      have B10 := Lib.hid (Bc (B := w.heap.size) (a := w) (bx B9.out) b10)
      clear b10
      go_wp2_with fail
      go_ret
      exact ⟨rfl, bx B10.out⟩

theorem stateBirths_walk {w : World} (v : Value) (c : List Int) (hc : ArgConf v c) (count : Int) (_ : (Lit.int .i64 count).wf = true) :
    Calls Tryz.prog 4 #[v, .int .i64 count] w fun e w' => e = .returned (.bool true) ∧ Below w.heap.size w w' := by
  obtain ⟨hl, rfl, h64⟩ := hc
  match c, hl with
  | [c0, c1, c2, c3, c4, c5, c6, c7, c8, c9, c10], _ => exact stateBirths_mid c0 c1 c2 c3 c4 c5 c6 c7 c8 c9 c10 count w (h64 c7 (by simp))
end Go.Proofs.YtgobbecpnjelmaaGreat
