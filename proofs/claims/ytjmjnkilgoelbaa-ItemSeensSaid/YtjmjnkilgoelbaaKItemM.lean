/-
  ItemM: What must come of every program: copselaw22.lives.
-/
import Derived.Test.YtjmjnkilgoelbaaKItemG
import Derived.Test.YtjmjnkilgoelbaaJ2a
import Derived.Test.YtjmjnkilgoelbaaJ0c
import Derived.Test.YtjmjnkilgoelbaaKItemL
namespace Go.Proofs.Ytjmjnkilgoelbaa
open Go.RowKit

theorem Ints.nil_any {k : IntKind} {w : World} {v : Value} (h : Ints k w v []) : ∃ a c, v = .slice a 0 c ∧ ∀ W, Ints k W (.slice a 0 c) [] := by
  obtain ⟨a, c, rfl, _, h2, _, _⟩ := h
  exact ⟨a, c, rfl, fun W => ints_nil _ _ _ _ h2⟩

set_option maxRecDepth 100000 in
set_option maxHeartbeats 4000000 in
theorem alert_lit (w : World) : Calls Try.prog 92 #[.agg #[.int .i64 1, .int .i64 1, .int .i64 3, .int .i64 2, .int .i64 3, .int .i64 2]] w fun e w' => e = .returned (.bool true) ∧ Below w.heap.size w w' := by
  have HS := Lib.hid (fun W => scmp_any 3 2 3 2 W)
  rw [show (if scoreB (3, 2) && scoreB (3, 2) then oddI (3, 2) (3, 2) else 0) = 0 by decide +kernel, show (if scoreB (3, 2) && scoreB (3, 2) then (0 : Int) else 130) = 0 by decide +kernel] at HS
  go_enter Try.func92, Try.ntmps92
  go_wp2_with fail
  (with_reducible refine (HS.out _).mono ?_); rintro e w1 ⟨rfl, b1⟩; have s1 : w.heap.size + 1 ≤ w1.heap.size := sz b1; have B1 := Lib.hid (Bc (B := w.heap.size) (a := w) (by (repeat (first | with_reducible exact Below.refl _ _ | with_reducible refine Bs ?_ | with_reducible refine Ba ?_ | with_reducible refine Bd ?_ | with_reducible refine Bn ?_))) b1); clear b1
  go_wp2_with fail
  go_ret
  exact ⟨rfl, B1.out⟩

theorem new82 (y z : Int) (W : World) (T : TypeId) (b : Nat) (hb : b = W.heap.size) : Ints .u8 (W.alloc (.cells #[.int .u8 y, .int .u8 z] T)) (.slice (some ⟨b, 0, none⟩) 2 2) [y, z] :=
  Ints.new' .u8 W T #[.int .u8 y, .int .u8 z] [y, z] b 2 2 hb rfl rfl (by omega) (by omega)

def live22 : List Int := [3, 2, 4, 5, 9]
theorem live22_all : AllB live22 := by
  intro x hx
  simp [live22] at hx
  omega

set_option maxRecDepth 100000 in
set_option maxHeartbeats 8000000 in
theorem lives22_any (w : World) : Calls Try.prog 27 #[] w fun e w' => e = .returned (.bool true) ∧ Below w.heap.size w w' := by
  have q1 : ∀ (R : Nat) (v : Value) (W : World), Rd W R v live22 0 0 → Calls Try.prog 32 #[.pointer (some ⟨R, 0, none⟩)] W fun e w' => e = .returned (.agg #[.int .i64 3, .int .i64 2]) ∧ RdTo W R v live22 w' 2 0 := fun R v W h => by
    have := getScore_any h live22_all (by decide) (by decide)
    rw [show getSV live22 0 0 = (3, 2) by decide +kernel, show (gS live22 0 0).2.1 = 2 by decide +kernel, show getSE live22 0 0 = 0 by decide +kernel] at this
    exact this
  have q2 : ∀ (R : Nat) (v : Value) (W : World), Rd W R v live22 2 0 → Calls Try.prog 39 #[.pointer (some ⟨R, 0, none⟩)] W fun e w' => GotA W R v live22 ((4, 0, [], 5, 0), 4, 0) e w' := fun R v W h => by
    have := getAsk_any h live22_all (by decide) (by decide)
    rw [show getAsk live22 2 0 = ((4, 0, [], 5, 0), 4, 0) by decide +kernel] at this
    exact this
  have q3 : ∀ (R : Nat) (v : Value) (W : World), Rd W R v live22 4 0 → Calls Try.prog 39 #[.pointer (some ⟨R, 0, none⟩)] W fun e w' => GotA W R v live22 ((0, 0, [], 0, 0), 5, 211) e w' := fun R v W h => by
    have := getAsk_any h live22_all (by decide) (by decide)
    rw [show getAsk live22 4 0 = ((0, 0, [], 0, 0), 5, 211) by decide +kernel] at this
    exact this
  have q4 : ∀ (W : World), Calls Try.prog 28 #[.slice none 0 0, .agg #[.int .i64 3, .int .i64 2]] W fun e w' => ∃ v', e = .returned v' ∧ Ints .u8 w' v' [3, 2] ∧ Below W.heap.size W w' := fun W => by
    have := putScore_any (.slice none 0 0) [] 3 2 W (ints_nil _ _ _ _ (by omega)) (by simp)
    rw [show [] ++ scoreBytes (3, 2) = [3, 2] by decide +kernel] at this
    exact this
  have q5 : ∀ (W : World), Calls Try.prog 35 #[.slice none 0 0, .agg #[.int .i64 4, .int .i64 0, .slice none 0 0, .int .i64 5, .int .i64 0]] W fun e w' => ∃ v', e = .returned v' ∧ Ints .u8 w' v' [4, 5] ∧ Below W.heap.size W w' := fun W => by
    have := putAsk_any (.slice none 0 0) [] 4 0 5 0 (.slice none 0 0) [] W (ints_nil _ _ _ _ (by omega)) (ints_nil _ _ _ _ (by omega)) (by simp)
    rw [show [] ++ askBytes 4 0 5 0 [] = [4, 5] by decide +kernel] at this
    exact this
  have q6 : ∀ (W : World), Calls Try.prog 37 #[.agg #[.int .i64 4, .int .i64 0, .slice none 0 0, .int .i64 5, .int .i64 0]] W fun e w' => e = .returned (.bool true) ∧ Below W.heap.size W w' := fun W => by
    have := rightAsk_any 4 0 5 0 (.slice none 0 0) [] W (ints_nil _ _ _ _ (by omega))
    rw [show askB 4 0 5 0 [] = true by decide +kernel] at this
    exact this
  have q7 : ∀ (W : World), Calls Try.prog 37 #[.agg #[.int .i64 9, .int .i64 0, .slice none 0 0, .int .i64 0, .int .i64 0]] W fun e w' => e = .returned (.bool false) ∧ Below W.heap.size W w' := fun W => by
    have := rightAsk_any 9 0 0 0 (.slice none 0 0) [] W (ints_nil _ _ _ _ (by omega))
    rw [show askB 9 0 0 0 [] = false by decide +kernel] at this
    exact this
  have q8 : ∀ (vx : Value) (W : World), Ints .i64 W vx [4] → Calls Try.prog 48 #[.agg #[.int .i64 1, vx, .int .i64 0, .int .i64 0, .bool false], .int .i64 1] W fun e w' => e = .returned (.bool true) ∧ Below W.heap.size W w' := fun vx W h => by
    have := rightSeen_any 1 0 0 1 false vx [4] W h
    rw [show seenB 1 [4] 0 0 false 1 = true by decide +kernel] at this
    exact this
  have Q1 := Lib.hid q1; have Q2 := Lib.hid q2; have Q3 := Lib.hid q3; have Q4 := Lib.hid q4; have Q5 := Lib.hid q5; have Q6 := Lib.hid q6; have Q7 := Lib.hid q7; have Q8 := Lib.hid q8
  clear q1 q2 q3 q4 q5 q6 q7 q8
  go_enter Try.func27, Try.ntmps27
  go_wp2_with fail
  have i1 : Ints .u8 (((w.alloc (.cells #[.int .i64 3, .int .i64 2] 24)).alloc (.cells #[.int .i64 4, .int .i64 0, .slice none 0 0, .int .i64 5, .int .i64 0] 63)).alloc (.cells #[.int .u8 3, .int .u8 2, .int .u8 4, .int .u8 5, .int .u8 9] 5)) (.slice (some ⟨w.heap.size + 1 + 1, 0, none⟩) 5 5) live22 := Ints.new' .u8 _ _ _ _ _ 5 5 (by simp) (by rfl) (by rfl) (by omega) (by omega)
  (with_reducible refine (from_any _ live22 _ i1 (by decide)).mono ?_); rintro e w1 ⟨R, vr, rfl, hR, r1, b1⟩; have s1 : w.heap.size + 1 + 1 + 1 ≤ w1.heap.size := sz b1; have B1 := Lib.hid (Bc (B := w.heap.size) (a := w) (by (repeat (first | with_reducible exact Below.refl _ _ | with_reducible refine Bs ?_ | with_reducible refine Ba ?_ | with_reducible refine Bd ?_ | with_reducible refine Bn ?_))) b1); obtain ⟨c1_0, c1_1⟩ := k2 (w.heap.size) (.int .i64 3) (.int .i64 2) b1 (by and_intros <;> go_simp); obtain ⟨c1_2, c1_3, c1_4, c1_5, c1_6⟩ := k5 (w.heap.size + 1) (.int .i64 4) (.int .i64 0) (.slice none 0 0) (.int .i64 5) (.int .i64 0) b1 (by and_intros <;> go_simp); obtain ⟨l1_0, n1_0, m1_0⟩ := lnm (show w.heap.size < w1.heap.size by omega); obtain ⟨l1_1, n1_1, m1_1⟩ := lnm (show w.heap.size + 1 < w1.heap.size by omega); clear b1
  have R1 := Lib.hid r1
  have hR1 : w.heap.size + 1 + 1 + 1 ≤ R := by first | omega | (simp at hR; omega)
  have hRl : R < w1.heap.size := r1.lt
  clear i1 r1 hR
  go_wp2_with fail
  (with_reducible refine (Q1.out R vr _ R1.out).mono ?_)
  rintro e w2 ⟨rfl, r2⟩
  have gg2 := r2.2
  have B2 := Lib.hid (below_only (w0 := w) (show Below w.heap.size w _ from by (repeat (first | with_reducible exact Below.refl _ _ | with_reducible refine Bs ?_ | with_reducible refine Ba ?_ | with_reducible refine Bd ?_ | with_reducible refine Bn ?_ | with_reducible refine Bt B1.out ?_))) gg2 (Nat.le_refl _) (by omega))
  have R2 := Lib.hid r2.1
  have s2 : w1.heap.size ≤ w2.heap.size := sg gg2
  obtain ⟨d2_0_0, d2_0_1⟩ := g2 (w.heap.size) (.int .i64 3) (.int .i64 2) gg2 (by and_intros <;> go_simp)
  obtain ⟨l2_0, n2_0, m2_0⟩ := lnm (show w.heap.size < w2.heap.size by first | omega | (have := gg2.size; simp at this; omega))
  obtain ⟨d2_1_0, d2_1_1, d2_1_2, d2_1_3, d2_1_4⟩ := g5 (w.heap.size + 1) (.int .i64 4) (.int .i64 0) (.slice none 0 0) (.int .i64 5) (.int .i64 0) gg2 (by and_intros <;> go_simp)
  obtain ⟨l2_1, n2_1, m2_1⟩ := lnm (show w.heap.size + 1 < w2.heap.size by first | omega | (have := gg2.size; simp at this; omega))
  clear r2 gg2
  go_wp2_with fail
  (with_reducible refine (Q2.out R vr _ R2.out).mono ?_)
  rintro e w3 ⟨vy, rfl, iy, r3, _⟩
  have gg3 := r3.2
  have B3 := Lib.hid (below_only (w0 := w) (show Below w.heap.size w _ from by (repeat (first | with_reducible exact Below.refl _ _ | with_reducible refine Bs ?_ | with_reducible refine Ba ?_ | with_reducible refine Bd ?_ | with_reducible refine Bn ?_ | with_reducible refine Bt B2.out ?_))) gg3 (Nat.le_refl _) (by omega))
  have R3 := Lib.hid r3.1
  have s3 : w2.heap.size ≤ w3.heap.size := sg gg3
  obtain ⟨d3_0_0, d3_0_1⟩ := g2 (w.heap.size) (.int .i64 3) (.int .i64 2) gg3 (by and_intros <;> go_simp)
  obtain ⟨l3_0, n3_0, m3_0⟩ := lnm (show w.heap.size < w3.heap.size by first | omega | (have := gg3.size; simp at this; omega))
  obtain ⟨d3_1_0, d3_1_1, d3_1_2, d3_1_3, d3_1_4⟩ := g5 (w.heap.size + 1) (.int .i64 4) (.int .i64 0) (.slice none 0 0) (.int .i64 5) (.int .i64 0) gg3 (by and_intros <;> go_simp)
  obtain ⟨l3_1, n3_1, m3_1⟩ := lnm (show w.heap.size + 1 < w3.heap.size by first | omega | (have := gg3.size; simp at this; omega))
  obtain ⟨ya, yc, rfl, IY⟩ := iy.nil_any; have IY := Lib.hid IY; clear iy
  clear r3 gg3
  go_wp2_with fail
  (with_reducible refine (Q3.out R vr _ (R3.out.below (by (repeat (first | with_reducible exact Below.refl _ _ | with_reducible refine Bs ?_ | with_reducible refine Ba ?_ | with_reducible refine Bd ?_ | with_reducible refine Bn ?_))))).mono ?_)
  rintro e w4 ⟨vz, rfl, iz, r4, _⟩
  have gg4 := r4.2
  have B4 := Lib.hid (below_only (w0 := w) (show Below w.heap.size w _ from by (repeat (first | with_reducible exact Below.refl _ _ | with_reducible refine Bs ?_ | with_reducible refine Ba ?_ | with_reducible refine Bd ?_ | with_reducible refine Bn ?_ | with_reducible refine Bt B3.out ?_))) gg4 (Nat.le_refl _) (by omega))
  have R4 := Lib.hid r4.1
  have s4 : w3.heap.size ≤ w4.heap.size := sg gg4
  obtain ⟨d4_0_0, d4_0_1⟩ := g2 (w.heap.size) (.int .i64 3) (.int .i64 2) gg4 (by and_intros <;> go_simp)
  obtain ⟨l4_0, n4_0, m4_0⟩ := lnm (show w.heap.size < w4.heap.size by first | omega | (have := gg4.size; simp at this; omega))
  obtain ⟨d4_1_0, d4_1_1, d4_1_2, d4_1_3, d4_1_4⟩ := g5 (w.heap.size + 1) (.int .i64 4) (.int .i64 0) (.slice none 0 0) (.int .i64 5) (.int .i64 0) gg4 (by and_intros <;> go_simp)
  obtain ⟨l4_1, n4_1, m4_1⟩ := lnm (show w.heap.size + 1 < w4.heap.size by first | omega | (have := gg4.size; simp at this; omega))
  obtain ⟨d4_2_0, d4_2_1⟩ := g2 (w3.heap.size) (.int .i64 3) (.int .i64 2) gg4 (by and_intros <;> go_simp)
  obtain ⟨l4_2, n4_2, m4_2⟩ := lnm (show w3.heap.size < w4.heap.size by first | omega | (have := gg4.size; simp at this; omega))
  obtain ⟨d4_3_0, d4_3_1, d4_3_2, d4_3_3, d4_3_4⟩ := g5 (w3.heap.size + 1) (.int .i64 4) (.int .i64 0) (.slice ya 0 yc) (.int .i64 5) (.int .i64 0) gg4 (by and_intros <;> go_simp)
  obtain ⟨l4_3, n4_3, m4_3⟩ := lnm (show w3.heap.size + 1 < w4.heap.size by first | omega | (have := gg4.size; simp at this; omega))
  obtain ⟨za, zc, rfl, IZ⟩ := iz.nil_any; have IZ := Lib.hid IZ; clear iz
  clear r4 gg4
  go_wp2_with fail
  (with_reducible refine (Q4.out _).mono ?_); rintro e w5 ⟨v5, rfl, i5, b5⟩; have s5 : w4.heap.size + 1 ≤ w5.heap.size := sz b5; have B5 := Lib.hid (Bc (B := w.heap.size) (a := w) (by (repeat (first | with_reducible exact Below.refl _ _ | with_reducible refine Bs ?_ | with_reducible refine Ba ?_ | with_reducible refine Bd ?_ | with_reducible refine Bn ?_ | with_reducible refine Bt B4.out ?_))) b5); obtain ⟨c5_0, c5_1⟩ := k2 (w.heap.size) (.int .i64 3) (.int .i64 2) b5 (by and_intros <;> go_simp); obtain ⟨c5_2, c5_3, c5_4, c5_5, c5_6⟩ := k5 (w.heap.size + 1) (.int .i64 4) (.int .i64 0) (.slice none 0 0) (.int .i64 5) (.int .i64 0) b5 (by and_intros <;> go_simp); obtain ⟨c5_7, c5_8⟩ := k2 (w3.heap.size) (.int .i64 3) (.int .i64 2) b5 (by and_intros <;> go_simp); obtain ⟨c5_9, c5_10, c5_11, c5_12, c5_13⟩ := k5 (w3.heap.size + 1) (.int .i64 4) (.int .i64 0) (.slice ya 0 yc) (.int .i64 5) (.int .i64 0) b5 (by and_intros <;> go_simp); obtain ⟨c5_14, c5_15, c5_16, c5_17, c5_18⟩ := k5 (w4.heap.size) (.int .i64 0) (.int .i64 0) (.slice za 0 zc) (.int .i64 0) (.int .i64 0) b5 (by and_intros <;> go_simp); obtain ⟨l5_0, n5_0, m5_0⟩ := lnm (show w.heap.size < w5.heap.size by omega); obtain ⟨l5_1, n5_1, m5_1⟩ := lnm (show w.heap.size + 1 < w5.heap.size by omega); obtain ⟨l5_2, n5_2, m5_2⟩ := lnm (show w3.heap.size < w5.heap.size by omega); obtain ⟨l5_3, n5_3, m5_3⟩ := lnm (show w3.heap.size + 1 < w5.heap.size by omega); obtain ⟨l5_4, n5_4, m5_4⟩ := lnm (show w4.heap.size < w5.heap.size by omega); have R4 := Lib.hid ((R4.out.below (by (repeat (first | with_reducible exact Below.refl _ _ | with_reducible refine Bs ?_ | with_reducible refine Ba ?_ | with_reducible refine Bd ?_ | with_reducible refine Bn ?_)))).below b5); clear b5
  have I5 := Lib.hid i5; clear i5
  go_wp2_with fail
  (with_reducible refine (same21_eq _ _ [3, 2] _ (I5.out.alloc _) (new82 _ _ _ _ _ rfl)).mono ?_)
  rintro e x5 ⟨rfl, rfl⟩
  go_wp2_with fail
  (with_reducible refine (Q5.out _).mono ?_); rintro e w6 ⟨v6, rfl, i6, b6⟩; have s6 : w5.heap.size + 1 ≤ w6.heap.size := sz b6; have B6 := Lib.hid (Bc (B := w.heap.size) (a := w) (by (repeat (first | with_reducible exact Below.refl _ _ | with_reducible refine Bs ?_ | with_reducible refine Ba ?_ | with_reducible refine Bd ?_ | with_reducible refine Bn ?_ | with_reducible refine Bt B5.out ?_))) b6); obtain ⟨c6_0, c6_1⟩ := k2 (w.heap.size) (.int .i64 3) (.int .i64 2) b6 (by and_intros <;> go_simp); obtain ⟨c6_2, c6_3, c6_4, c6_5, c6_6⟩ := k5 (w.heap.size + 1) (.int .i64 4) (.int .i64 0) (.slice none 0 0) (.int .i64 5) (.int .i64 0) b6 (by and_intros <;> go_simp); obtain ⟨c6_7, c6_8⟩ := k2 (w3.heap.size) (.int .i64 3) (.int .i64 2) b6 (by and_intros <;> go_simp); obtain ⟨c6_9, c6_10, c6_11, c6_12, c6_13⟩ := k5 (w3.heap.size + 1) (.int .i64 4) (.int .i64 0) (.slice ya 0 yc) (.int .i64 5) (.int .i64 0) b6 (by and_intros <;> go_simp); obtain ⟨c6_14, c6_15, c6_16, c6_17, c6_18⟩ := k5 (w4.heap.size) (.int .i64 0) (.int .i64 0) (.slice za 0 zc) (.int .i64 0) (.int .i64 0) b6 (by and_intros <;> go_simp); obtain ⟨l6_0, n6_0, m6_0⟩ := lnm (show w.heap.size < w6.heap.size by omega); obtain ⟨l6_1, n6_1, m6_1⟩ := lnm (show w.heap.size + 1 < w6.heap.size by omega); obtain ⟨l6_2, n6_2, m6_2⟩ := lnm (show w3.heap.size < w6.heap.size by omega); obtain ⟨l6_3, n6_3, m6_3⟩ := lnm (show w3.heap.size + 1 < w6.heap.size by omega); obtain ⟨l6_4, n6_4, m6_4⟩ := lnm (show w4.heap.size < w6.heap.size by omega); have R4 := Lib.hid ((R4.out.below (by (repeat (first | with_reducible exact Below.refl _ _ | with_reducible refine Bs ?_ | with_reducible refine Ba ?_ | with_reducible refine Bd ?_ | with_reducible refine Bn ?_)))).below b6); clear b6
  have I6 := Lib.hid i6; clear i6
  go_wp2_with fail
  (with_reducible refine (same21_eq _ _ [4, 5] _ (I6.out.alloc _) (new82 _ _ _ _ _ rfl)).mono ?_)
  rintro e x6 ⟨rfl, rfl⟩
  go_wp2_with fail
  (with_reducible refine (rsameAsk_eq 4 0 5 0 [] _ _ _ (IY.out _) (ints_nil _ _ _ _ (by omega))).mono ?_); rintro e w7 ⟨rfl, b7⟩; have s7 : w6.heap.size + 1 ≤ w7.heap.size := sz b7; have B7 := Lib.hid (Bc (B := w.heap.size) (a := w) (by (repeat (first | with_reducible exact Below.refl _ _ | with_reducible refine Bs ?_ | with_reducible refine Ba ?_ | with_reducible refine Bd ?_ | with_reducible refine Bn ?_ | with_reducible refine Bt B6.out ?_))) b7); obtain ⟨c7_0, c7_1⟩ := k2 (w.heap.size) (.int .i64 3) (.int .i64 2) b7 (by and_intros <;> go_simp); obtain ⟨c7_2, c7_3, c7_4, c7_5, c7_6⟩ := k5 (w.heap.size + 1) (.int .i64 4) (.int .i64 0) (.slice none 0 0) (.int .i64 5) (.int .i64 0) b7 (by and_intros <;> go_simp); obtain ⟨c7_7, c7_8⟩ := k2 (w3.heap.size) (.int .i64 3) (.int .i64 2) b7 (by and_intros <;> go_simp); obtain ⟨c7_9, c7_10, c7_11, c7_12, c7_13⟩ := k5 (w3.heap.size + 1) (.int .i64 4) (.int .i64 0) (.slice ya 0 yc) (.int .i64 5) (.int .i64 0) b7 (by and_intros <;> go_simp); obtain ⟨c7_14, c7_15, c7_16, c7_17, c7_18⟩ := k5 (w4.heap.size) (.int .i64 0) (.int .i64 0) (.slice za 0 zc) (.int .i64 0) (.int .i64 0) b7 (by and_intros <;> go_simp); obtain ⟨l7_0, n7_0, m7_0⟩ := lnm (show w.heap.size < w7.heap.size by omega); obtain ⟨l7_1, n7_1, m7_1⟩ := lnm (show w.heap.size + 1 < w7.heap.size by omega); obtain ⟨l7_2, n7_2, m7_2⟩ := lnm (show w3.heap.size < w7.heap.size by omega); obtain ⟨l7_3, n7_3, m7_3⟩ := lnm (show w3.heap.size + 1 < w7.heap.size by omega); obtain ⟨l7_4, n7_4, m7_4⟩ := lnm (show w4.heap.size < w7.heap.size by omega); have R4 := Lib.hid ((R4.out.below (by (repeat (first | with_reducible exact Below.refl _ _ | with_reducible refine Bs ?_ | with_reducible refine Ba ?_ | with_reducible refine Bd ?_ | with_reducible refine Bn ?_)))).below b7); clear b7
  go_wp2_with fail
  (with_reducible refine (rsameAsk_eq 0 0 0 0 [] _ _ _ (IZ.out _) (ints_nil _ _ _ _ (by omega))).mono ?_); rintro e w8 ⟨rfl, b8⟩; have s8 : w7.heap.size ≤ w8.heap.size := sz b8; have B8 := Lib.hid (Bc (B := w.heap.size) (a := w) (by (repeat (first | with_reducible exact Below.refl _ _ | with_reducible refine Bs ?_ | with_reducible refine Ba ?_ | with_reducible refine Bd ?_ | with_reducible refine Bn ?_ | with_reducible refine Bt B7.out ?_))) b8); obtain ⟨c8_0, c8_1⟩ := k2 (w.heap.size) (.int .i64 3) (.int .i64 2) b8 (by and_intros <;> go_simp); obtain ⟨c8_2, c8_3, c8_4, c8_5, c8_6⟩ := k5 (w.heap.size + 1) (.int .i64 4) (.int .i64 0) (.slice none 0 0) (.int .i64 5) (.int .i64 0) b8 (by and_intros <;> go_simp); obtain ⟨c8_7, c8_8⟩ := k2 (w3.heap.size) (.int .i64 3) (.int .i64 2) b8 (by and_intros <;> go_simp); obtain ⟨c8_9, c8_10, c8_11, c8_12, c8_13⟩ := k5 (w3.heap.size + 1) (.int .i64 4) (.int .i64 0) (.slice ya 0 yc) (.int .i64 5) (.int .i64 0) b8 (by and_intros <;> go_simp); obtain ⟨c8_14, c8_15, c8_16, c8_17, c8_18⟩ := k5 (w4.heap.size) (.int .i64 0) (.int .i64 0) (.slice za 0 zc) (.int .i64 0) (.int .i64 0) b8 (by and_intros <;> go_simp); obtain ⟨l8_0, n8_0, m8_0⟩ := lnm (show w.heap.size < w8.heap.size by omega); obtain ⟨l8_1, n8_1, m8_1⟩ := lnm (show w.heap.size + 1 < w8.heap.size by omega); obtain ⟨l8_2, n8_2, m8_2⟩ := lnm (show w3.heap.size < w8.heap.size by omega); obtain ⟨l8_3, n8_3, m8_3⟩ := lnm (show w3.heap.size + 1 < w8.heap.size by omega); obtain ⟨l8_4, n8_4, m8_4⟩ := lnm (show w4.heap.size < w8.heap.size by omega); have R4 := Lib.hid ((R4.out.below (by (repeat (first | with_reducible exact Below.refl _ _ | with_reducible refine Bs ?_ | with_reducible refine Ba ?_ | with_reducible refine Bd ?_ | with_reducible refine Bn ?_)))).below b8); clear b8
  go_wp2_with fail
  have R8 := Lib.hid R4.out
  (with_reducible refine (err_any R8.out).mono ?_)
  rintro e x8 ⟨rfl, rfl⟩
  go_wp2_with fail
  (with_reducible refine (at_any R8.out).mono ?_)
  rintro e x8 ⟨rfl, rfl⟩
  go_wp2_with fail
  (with_reducible refine (Q6.out _).mono ?_); rintro e w9 ⟨rfl, b9⟩; have s9 : w8.heap.size ≤ w9.heap.size := sz b9; have B9 := Lib.hid (Bc (B := w.heap.size) (a := w) (by (repeat (first | with_reducible exact Below.refl _ _ | with_reducible refine Bs ?_ | with_reducible refine Ba ?_ | with_reducible refine Bd ?_ | with_reducible refine Bn ?_ | with_reducible refine Bt B8.out ?_))) b9); obtain ⟨c9_0, c9_1⟩ := k2 (w.heap.size) (.int .i64 3) (.int .i64 2) b9 (by and_intros <;> go_simp); obtain ⟨c9_2, c9_3, c9_4, c9_5, c9_6⟩ := k5 (w.heap.size + 1) (.int .i64 4) (.int .i64 0) (.slice none 0 0) (.int .i64 5) (.int .i64 0) b9 (by and_intros <;> go_simp); obtain ⟨c9_7, c9_8⟩ := k2 (w3.heap.size) (.int .i64 3) (.int .i64 2) b9 (by and_intros <;> go_simp); obtain ⟨c9_9, c9_10, c9_11, c9_12, c9_13⟩ := k5 (w3.heap.size + 1) (.int .i64 4) (.int .i64 0) (.slice ya 0 yc) (.int .i64 5) (.int .i64 0) b9 (by and_intros <;> go_simp); obtain ⟨c9_14, c9_15, c9_16, c9_17, c9_18⟩ := k5 (w4.heap.size) (.int .i64 0) (.int .i64 0) (.slice za 0 zc) (.int .i64 0) (.int .i64 0) b9 (by and_intros <;> go_simp); obtain ⟨l9_0, n9_0, m9_0⟩ := lnm (show w.heap.size < w9.heap.size by omega); obtain ⟨l9_1, n9_1, m9_1⟩ := lnm (show w.heap.size + 1 < w9.heap.size by omega); obtain ⟨l9_2, n9_2, m9_2⟩ := lnm (show w3.heap.size < w9.heap.size by omega); obtain ⟨l9_3, n9_3, m9_3⟩ := lnm (show w3.heap.size + 1 < w9.heap.size by omega); obtain ⟨l9_4, n9_4, m9_4⟩ := lnm (show w4.heap.size < w9.heap.size by omega); clear b9
  go_wp2_with fail
  (with_reducible refine (Q7.out _).mono ?_); rintro e w10 ⟨rfl, b10⟩; have s10 : w9.heap.size ≤ w10.heap.size := sz b10; have B10 := Lib.hid (Bc (B := w.heap.size) (a := w) (by (repeat (first | with_reducible exact Below.refl _ _ | with_reducible refine Bs ?_ | with_reducible refine Ba ?_ | with_reducible refine Bd ?_ | with_reducible refine Bn ?_ | with_reducible refine Bt B9.out ?_))) b10); obtain ⟨c10_0, c10_1⟩ := k2 (w.heap.size) (.int .i64 3) (.int .i64 2) b10 (by and_intros <;> go_simp); obtain ⟨c10_2, c10_3, c10_4, c10_5, c10_6⟩ := k5 (w.heap.size + 1) (.int .i64 4) (.int .i64 0) (.slice none 0 0) (.int .i64 5) (.int .i64 0) b10 (by and_intros <;> go_simp); obtain ⟨c10_7, c10_8⟩ := k2 (w3.heap.size) (.int .i64 3) (.int .i64 2) b10 (by and_intros <;> go_simp); obtain ⟨c10_9, c10_10, c10_11, c10_12, c10_13⟩ := k5 (w3.heap.size + 1) (.int .i64 4) (.int .i64 0) (.slice ya 0 yc) (.int .i64 5) (.int .i64 0) b10 (by and_intros <;> go_simp); obtain ⟨c10_14, c10_15, c10_16, c10_17, c10_18⟩ := k5 (w4.heap.size) (.int .i64 0) (.int .i64 0) (.slice za 0 zc) (.int .i64 0) (.int .i64 0) b10 (by and_intros <;> go_simp); obtain ⟨l10_0, n10_0, m10_0⟩ := lnm (show w.heap.size < w10.heap.size by omega); obtain ⟨l10_1, n10_1, m10_1⟩ := lnm (show w.heap.size + 1 < w10.heap.size by omega); obtain ⟨l10_2, n10_2, m10_2⟩ := lnm (show w3.heap.size < w10.heap.size by omega); obtain ⟨l10_3, n10_3, m10_3⟩ := lnm (show w3.heap.size + 1 < w10.heap.size by omega); obtain ⟨l10_4, n10_4, m10_4⟩ := lnm (show w4.heap.size < w10.heap.size by omega); clear b10
  go_wp2_with fail
  (with_reducible refine (alert_lit _).mono ?_); rintro e w11 ⟨rfl, b11⟩; have s11 : w10.heap.size ≤ w11.heap.size := sz b11; have B11 := Lib.hid (Bc (B := w.heap.size) (a := w) (by (repeat (first | with_reducible exact Below.refl _ _ | with_reducible refine Bs ?_ | with_reducible refine Ba ?_ | with_reducible refine Bd ?_ | with_reducible refine Bn ?_ | with_reducible refine Bt B10.out ?_))) b11); obtain ⟨c11_0, c11_1⟩ := k2 (w.heap.size) (.int .i64 3) (.int .i64 2) b11 (by and_intros <;> go_simp); obtain ⟨c11_2, c11_3, c11_4, c11_5, c11_6⟩ := k5 (w.heap.size + 1) (.int .i64 4) (.int .i64 0) (.slice none 0 0) (.int .i64 5) (.int .i64 0) b11 (by and_intros <;> go_simp); obtain ⟨c11_7, c11_8⟩ := k2 (w3.heap.size) (.int .i64 3) (.int .i64 2) b11 (by and_intros <;> go_simp); obtain ⟨c11_9, c11_10, c11_11, c11_12, c11_13⟩ := k5 (w3.heap.size + 1) (.int .i64 4) (.int .i64 0) (.slice ya 0 yc) (.int .i64 5) (.int .i64 0) b11 (by and_intros <;> go_simp); obtain ⟨c11_14, c11_15, c11_16, c11_17, c11_18⟩ := k5 (w4.heap.size) (.int .i64 0) (.int .i64 0) (.slice za 0 zc) (.int .i64 0) (.int .i64 0) b11 (by and_intros <;> go_simp); obtain ⟨l11_0, n11_0, m11_0⟩ := lnm (show w.heap.size < w11.heap.size by omega); obtain ⟨l11_1, n11_1, m11_1⟩ := lnm (show w.heap.size + 1 < w11.heap.size by omega); obtain ⟨l11_2, n11_2, m11_2⟩ := lnm (show w3.heap.size < w11.heap.size by omega); obtain ⟨l11_3, n11_3, m11_3⟩ := lnm (show w3.heap.size + 1 < w11.heap.size by omega); obtain ⟨l11_4, n11_4, m11_4⟩ := lnm (show w4.heap.size < w11.heap.size by omega); clear b11
  go_wp2_with fail
  (with_reducible refine (Q8.out _ _ (newI1 _ _ _ _ rfl)).mono ?_); rintro e w12 ⟨rfl, b12⟩; have s12 : w11.heap.size + 1 ≤ w12.heap.size := sz b12; have B12 := Lib.hid (Bc (B := w.heap.size) (a := w) (by (repeat (first | with_reducible exact Below.refl _ _ | with_reducible refine Bs ?_ | with_reducible refine Ba ?_ | with_reducible refine Bd ?_ | with_reducible refine Bn ?_ | with_reducible refine Bt B11.out ?_))) b12); obtain ⟨c12_0, c12_1⟩ := k2 (w.heap.size) (.int .i64 3) (.int .i64 2) b12 (by and_intros <;> go_simp); obtain ⟨c12_2, c12_3, c12_4, c12_5, c12_6⟩ := k5 (w.heap.size + 1) (.int .i64 4) (.int .i64 0) (.slice none 0 0) (.int .i64 5) (.int .i64 0) b12 (by and_intros <;> go_simp); obtain ⟨c12_7, c12_8⟩ := k2 (w3.heap.size) (.int .i64 3) (.int .i64 2) b12 (by and_intros <;> go_simp); obtain ⟨c12_9, c12_10, c12_11, c12_12, c12_13⟩ := k5 (w3.heap.size + 1) (.int .i64 4) (.int .i64 0) (.slice ya 0 yc) (.int .i64 5) (.int .i64 0) b12 (by and_intros <;> go_simp); obtain ⟨c12_14, c12_15, c12_16, c12_17, c12_18⟩ := k5 (w4.heap.size) (.int .i64 0) (.int .i64 0) (.slice za 0 zc) (.int .i64 0) (.int .i64 0) b12 (by and_intros <;> go_simp); obtain ⟨l12_0, n12_0, m12_0⟩ := lnm (show w.heap.size < w12.heap.size by omega); obtain ⟨l12_1, n12_1, m12_1⟩ := lnm (show w.heap.size + 1 < w12.heap.size by omega); obtain ⟨l12_2, n12_2, m12_2⟩ := lnm (show w3.heap.size < w12.heap.size by omega); obtain ⟨l12_3, n12_3, m12_3⟩ := lnm (show w3.heap.size + 1 < w12.heap.size by omega); obtain ⟨l12_4, n12_4, m12_4⟩ := lnm (show w4.heap.size < w12.heap.size by omega); clear b12
  go_wp2_with fail
  (with_reducible refine (getConf_nil _).mono ?_); rintro e w13 ⟨rfl, b13⟩; have s13 : w12.heap.size ≤ w13.heap.size := sz b13; have B13 := Lib.hid (Bc (B := w.heap.size) (a := w) (by (repeat (first | with_reducible exact Below.refl _ _ | with_reducible refine Bs ?_ | with_reducible refine Ba ?_ | with_reducible refine Bd ?_ | with_reducible refine Bn ?_ | with_reducible refine Bt B12.out ?_))) b13); obtain ⟨c13_0, c13_1⟩ := k2 (w.heap.size) (.int .i64 3) (.int .i64 2) b13 (by and_intros <;> go_simp); obtain ⟨c13_2, c13_3, c13_4, c13_5, c13_6⟩ := k5 (w.heap.size + 1) (.int .i64 4) (.int .i64 0) (.slice none 0 0) (.int .i64 5) (.int .i64 0) b13 (by and_intros <;> go_simp); obtain ⟨c13_7, c13_8⟩ := k2 (w3.heap.size) (.int .i64 3) (.int .i64 2) b13 (by and_intros <;> go_simp); obtain ⟨c13_9, c13_10, c13_11, c13_12, c13_13⟩ := k5 (w3.heap.size + 1) (.int .i64 4) (.int .i64 0) (.slice ya 0 yc) (.int .i64 5) (.int .i64 0) b13 (by and_intros <;> go_simp); obtain ⟨c13_14, c13_15, c13_16, c13_17, c13_18⟩ := k5 (w4.heap.size) (.int .i64 0) (.int .i64 0) (.slice za 0 zc) (.int .i64 0) (.int .i64 0) b13 (by and_intros <;> go_simp); obtain ⟨l13_0, n13_0, m13_0⟩ := lnm (show w.heap.size < w13.heap.size by omega); obtain ⟨l13_1, n13_1, m13_1⟩ := lnm (show w.heap.size + 1 < w13.heap.size by omega); obtain ⟨l13_2, n13_2, m13_2⟩ := lnm (show w3.heap.size < w13.heap.size by omega); obtain ⟨l13_3, n13_3, m13_3⟩ := lnm (show w3.heap.size + 1 < w13.heap.size by omega); obtain ⟨l13_4, n13_4, m13_4⟩ := lnm (show w4.heap.size < w13.heap.size by omega); clear b13
  unfold conf0
  go_wp2_with fail
  go_ret
  exact ⟨rfl, by (repeat (first | with_reducible exact Below.refl _ _ | with_reducible refine Bs ?_ | with_reducible refine Ba ?_ | with_reducible refine Bd ?_ | with_reducible refine Bn ?_ | with_reducible refine Bt B13.out ?_))⟩
end Go.Proofs.Ytjmjnkilgoelbaa
