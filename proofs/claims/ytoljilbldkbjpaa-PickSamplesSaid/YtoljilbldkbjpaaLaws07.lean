/-
  What must come of copselaw07.lives: the numbers.
-/
import Derived.Test.YtoljilbldkbjpaaPickN
import Derived.Test.YtoljilbldkbjpaaPickH
import Derived.Test.YtoljilbldkbjpaaPickI
import Derived.Test.YtoljilbldkbjpaaSame01
namespace Go.Proofs.Ytoljilbldkbjpaa
open Go.RowKit

theorem t07a : playB 4 [2, 0] = true := by decide
theorem t07b : playL [2, 0] ([2, 0] : List Int).length = [2, 1] := by decide
theorem t07c : backB 4 [2, 1] = true := by decide
theorem t07d : backL [2, 1] ([2, 1] : List Int).length = [2, 0] := by decide
theorem t07e : backB 4 [2, 2] = false := by decide
theorem t07f : sampE [2, 0] 0 4 2 1 = 0 := by decide +kernel
theorem t07g : sampA [2, 0] 0 4 2 1 = 2 := by decide +kernel
theorem t07h : sampV [2, 0] 0 4 2 1 = [2, 1] := by decide +kernel
theorem t07i : coefV [4, 4, 0] 0 1 3 = ([-4], 3, 0) := by decide +kernel
theorem t07j : weighV [5] 0 [2, 0, 4] 1 = (2, 1, 0) := by decide +kernel
theorem t07k : sampE [] 0 257 257 1 = 1 := by decide +kernel

theorem same_self7 (va vb : Value) (l : List Int) (w : World) (ha : Ints .i64 w va l) (hb : Ints .i64 w vb l) :
    Calls Try.prog 14 #[va, vb] w fun e w' => e = .returned (.bool true) ∧ ∃ n, w' = w.drewN n := by
  have h := same_any va vb l l w ha hb
  rw [decide_eq_true rfl] at h
  exact h

theorem new1 (k : IntKind) (z : Int) (W : World) (T : TypeId) (b : Nat) (hb : b = W.heap.size) : Ints k (W.alloc (.cells #[.int k z] T)) (.slice (some ⟨b, 0, none⟩) 1 1) [z] :=
  Ints.new' k W T #[.int k z] [z] b 1 1 hb rfl rfl (by omega) (by omega)
theorem new2 (k : IntKind) (y z : Int) (W : World) (T : TypeId) (b : Nat) (hb : b = W.heap.size) : Ints k (W.alloc (.cells #[.int k y, .int k z] T)) (.slice (some ⟨b, 0, none⟩) 2 2) [y, z] :=
  Ints.new' k W T #[.int k y, .int k z] [y, z] b 2 2 hb rfl rfl (by omega) (by omega)
theorem new3 (k : IntKind) (x y z : Int) (W : World) (T : TypeId) (b : Nat) (hb : b = W.heap.size) : Ints k (W.alloc (.cells #[.int k x, .int k y, .int k z] T)) (.slice (some ⟨b, 0, none⟩) 3 3) [x, y, z] :=
  Ints.new' k W T #[.int k x, .int k y, .int k z] [x, y, z] b 3 3 hb rfl rfl (by omega) (by omega)

theorem allU_of {l : List Int} (h : l.all (fun x => decide (0 ≤ x ∧ x ≤ 18446744073709551615)) = true) : AllU l := fun x hx => by
  have := List.all_eq_true.1 h x hx
  simpa using this

set_option maxRecDepth 100000 in
set_option maxHeartbeats 4000000 in
theorem lives07_any (w : World) : Calls Try.prog 11 #[] w fun e w' => e = .returned (.bool true) ∧ Below w.heap.size w w' := by
  have h1 := fun (W : World) v (hX : Ints .i64 W v [2, 0]) => play_any 4 v [2, 0] W hX
  rw [t07a, t07b] at h1
  have h2 := fun (W : World) v (hX : Ints .i64 W v [2, 1]) => back_any 4 v [2, 1] W hX
  rw [t07c, t07d] at h2
  have h3 := fun (W : World) v (hX : Ints .i64 W v [2, 2]) => back_any 4 v [2, 2] W hX
  rw [t07e] at h3
  have h4 := fun (W : World) v (hX : Ints .u64 W v [2, 0]) => sample_any v [2, 0] 0 4 2 1 W hX (allU_of (by decide)) (by unfold Ok64; omega)
  rw [t07f, t07g, t07h] at h4
  have h5 := fun (W : World) v (hX : Ints .u64 W v [4, 4, 0]) => coefs_any v [4, 4, 0] 0 1 3 W hX (allU_of (by decide)) (by unfold Ok64; omega)
  rw [t07i] at h5
  have h6 := fun (W : World) v vw (hX : Ints .u64 W v [5]) (hY : Ints .i64 W vw [2, 0, 4]) => weigh_any v vw [5] [2, 0, 4] 0 1 W hX (allU_of (by decide)) (by unfold Ok64; omega) hY
  rw [t07j] at h6
  have h7 := fun (W : World) => perm_any (.slice none 0 0) [] 0 257 1 W (ints_nil _ _ _ _ (by omega)) (allU_of (by decide)) (by unfold Ok64; omega)
  rw [t07k] at h7
  simp only [if_true, Bool.false_eq_true, if_false] at h1 h2 h3 h4 h5 h6 h7
  have H1 := Lib.hid h1; have H2 := Lib.hid h2; have H3 := Lib.hid h3; have H4 := Lib.hid h4; have H5 := Lib.hid h5; have H6 := Lib.hid h6; have H7 := Lib.hid h7
  clear h1 h2 h3 h4 h5 h6 h7
  go_enter Try.func11, Try.ntmps11
  go_wp2_with fail
  (with_reducible refine (H1.out _ _ (new2 _ _ _ _ _ _ (by simp))).mono ?_); rintro e w1 ⟨v1, rfl, i1, b1⟩; have s1 : w.heap.size ≤ w1.heap.size := (by have := b1.size; first | omega | (simp at this; omega)); have B1 := Lib.hid (show Below w.heap.size w w1 from below_tr (by (repeat (first | with_reducible exact Below.refl _ _ | ((with_reducible refine Below.setCell ?_ ?_ _); rotate_left; (focus (first | omega | (simp; done) | (simp; omega)))) | ((with_reducible refine Below.alloc ?_ ?_ _); rotate_left; (focus (first | omega | (simp; done) | (simp; omega)))) | (with_reducible refine Below.drew ?_) | (with_reducible refine below_drewN ?_ _)))) (b1.mono (by first | omega | (simp; done) | (simp; omega)))); clear b1
  have I1 := Lib.hid i1
  obtain ⟨a1, q1, rfl, _⟩ := i1
  go_wp2_with fail
  (with_reducible refine (H2.out _ _ (new2 _ _ _ _ _ _ (by simp))).mono ?_); rintro e w2 ⟨v2, rfl, i2, b2⟩; have s2 : w1.heap.size ≤ w2.heap.size := (by have := b2.size; first | omega | (simp at this; omega)); have B2 := Lib.hid (show Below w.heap.size w w2 from below_tr (by (repeat (first | with_reducible exact Below.refl _ _ | ((with_reducible refine Below.setCell ?_ ?_ _); rotate_left; (focus (first | omega | (simp; done) | (simp; omega)))) | ((with_reducible refine Below.alloc ?_ ?_ _); rotate_left; (focus (first | omega | (simp; done) | (simp; omega)))) | (with_reducible refine Below.drew ?_) | (with_reducible refine below_drewN ?_ _) | ((with_reducible refine Below.trans ?_ (Below.mono B1.out ?_)); rotate_left; (focus (first | omega | (simp; done) | (simp; omega))))))) (b2.mono (by first | omega | (simp; done) | (simp; omega)))); have I1 := Lib.hid ((I1.out.below (by (repeat (first | with_reducible exact Below.refl _ _ | ((with_reducible refine Below.setCell ?_ ?_ _); rotate_left; (focus (first | omega | (simp; done) | (simp; omega)))) | ((with_reducible refine Below.alloc ?_ ?_ _); rotate_left; (focus (first | omega | (simp; done) | (simp; omega)))) | (with_reducible refine Below.drew ?_) | (with_reducible refine below_drewN ?_ _))))).below b2); clear b2
  have I2 := Lib.hid i2
  obtain ⟨a2, q2, rfl, _⟩ := i2
  go_wp2_with fail
  (with_reducible refine (H3.out _ _ (new2 _ _ _ _ _ _ (by simp))).mono ?_); rintro e w3 ⟨v3, rfl, i3, b3⟩; have s3 : w2.heap.size ≤ w3.heap.size := (by have := b3.size; first | omega | (simp at this; omega)); have B3 := Lib.hid (show Below w.heap.size w w3 from below_tr (by (repeat (first | with_reducible exact Below.refl _ _ | ((with_reducible refine Below.setCell ?_ ?_ _); rotate_left; (focus (first | omega | (simp; done) | (simp; omega)))) | ((with_reducible refine Below.alloc ?_ ?_ _); rotate_left; (focus (first | omega | (simp; done) | (simp; omega)))) | (with_reducible refine Below.drew ?_) | (with_reducible refine below_drewN ?_ _) | ((with_reducible refine Below.trans ?_ (Below.mono B2.out ?_)); rotate_left; (focus (first | omega | (simp; done) | (simp; omega))))))) (b3.mono (by first | omega | (simp; done) | (simp; omega)))); have I1 := Lib.hid ((I1.out.below (by (repeat (first | with_reducible exact Below.refl _ _ | ((with_reducible refine Below.setCell ?_ ?_ _); rotate_left; (focus (first | omega | (simp; done) | (simp; omega)))) | ((with_reducible refine Below.alloc ?_ ?_ _); rotate_left; (focus (first | omega | (simp; done) | (simp; omega)))) | (with_reducible refine Below.drew ?_) | (with_reducible refine below_drewN ?_ _))))).below b3); have I2 := Lib.hid ((I2.out.below (by (repeat (first | with_reducible exact Below.refl _ _ | ((with_reducible refine Below.setCell ?_ ?_ _); rotate_left; (focus (first | omega | (simp; done) | (simp; omega)))) | ((with_reducible refine Below.alloc ?_ ?_ _); rotate_left; (focus (first | omega | (simp; done) | (simp; omega)))) | (with_reducible refine Below.drew ?_) | (with_reducible refine below_drewN ?_ _))))).below b3); clear b3
  clear i3
  go_wp2_with fail
  (with_reducible refine (H4.out _ _ (new2 _ _ _ _ _ _ (by simp))).mono ?_); rintro e w4 ⟨v4, rfl, i4, b4⟩; have s4 : w3.heap.size ≤ w4.heap.size := (by have := b4.size; first | omega | (simp at this; omega)); have B4 := Lib.hid (show Below w.heap.size w w4 from below_tr (by (repeat (first | with_reducible exact Below.refl _ _ | ((with_reducible refine Below.setCell ?_ ?_ _); rotate_left; (focus (first | omega | (simp; done) | (simp; omega)))) | ((with_reducible refine Below.alloc ?_ ?_ _); rotate_left; (focus (first | omega | (simp; done) | (simp; omega)))) | (with_reducible refine Below.drew ?_) | (with_reducible refine below_drewN ?_ _) | ((with_reducible refine Below.trans ?_ (Below.mono B3.out ?_)); rotate_left; (focus (first | omega | (simp; done) | (simp; omega))))))) (b4.mono (by first | omega | (simp; done) | (simp; omega)))); have I1 := Lib.hid ((I1.out.below (by (repeat (first | with_reducible exact Below.refl _ _ | ((with_reducible refine Below.setCell ?_ ?_ _); rotate_left; (focus (first | omega | (simp; done) | (simp; omega)))) | ((with_reducible refine Below.alloc ?_ ?_ _); rotate_left; (focus (first | omega | (simp; done) | (simp; omega)))) | (with_reducible refine Below.drew ?_) | (with_reducible refine below_drewN ?_ _))))).below b4); have I2 := Lib.hid ((I2.out.below (by (repeat (first | with_reducible exact Below.refl _ _ | ((with_reducible refine Below.setCell ?_ ?_ _); rotate_left; (focus (first | omega | (simp; done) | (simp; omega)))) | ((with_reducible refine Below.alloc ?_ ?_ _); rotate_left; (focus (first | omega | (simp; done) | (simp; omega)))) | (with_reducible refine Below.drew ?_) | (with_reducible refine below_drewN ?_ _))))).below b4); clear b4
  have I4 := Lib.hid i4
  obtain ⟨a4, q4, rfl, _⟩ := i4
  go_wp2_with fail
  (with_reducible refine (H5.out _ _ (new3 _ _ _ _ _ _ _ (by simp))).mono ?_); rintro e w5 ⟨v5, rfl, i5, b5⟩; have s5 : w4.heap.size ≤ w5.heap.size := (by have := b5.size; first | omega | (simp at this; omega)); have B5 := Lib.hid (show Below w.heap.size w w5 from below_tr (by (repeat (first | with_reducible exact Below.refl _ _ | ((with_reducible refine Below.setCell ?_ ?_ _); rotate_left; (focus (first | omega | (simp; done) | (simp; omega)))) | ((with_reducible refine Below.alloc ?_ ?_ _); rotate_left; (focus (first | omega | (simp; done) | (simp; omega)))) | (with_reducible refine Below.drew ?_) | (with_reducible refine below_drewN ?_ _) | ((with_reducible refine Below.trans ?_ (Below.mono B4.out ?_)); rotate_left; (focus (first | omega | (simp; done) | (simp; omega))))))) (b5.mono (by first | omega | (simp; done) | (simp; omega)))); have I1 := Lib.hid ((I1.out.below (by (repeat (first | with_reducible exact Below.refl _ _ | ((with_reducible refine Below.setCell ?_ ?_ _); rotate_left; (focus (first | omega | (simp; done) | (simp; omega)))) | ((with_reducible refine Below.alloc ?_ ?_ _); rotate_left; (focus (first | omega | (simp; done) | (simp; omega)))) | (with_reducible refine Below.drew ?_) | (with_reducible refine below_drewN ?_ _))))).below b5); have I2 := Lib.hid ((I2.out.below (by (repeat (first | with_reducible exact Below.refl _ _ | ((with_reducible refine Below.setCell ?_ ?_ _); rotate_left; (focus (first | omega | (simp; done) | (simp; omega)))) | ((with_reducible refine Below.alloc ?_ ?_ _); rotate_left; (focus (first | omega | (simp; done) | (simp; omega)))) | (with_reducible refine Below.drew ?_) | (with_reducible refine below_drewN ?_ _))))).below b5); have I4 := Lib.hid ((I4.out.below (by (repeat (first | with_reducible exact Below.refl _ _ | ((with_reducible refine Below.setCell ?_ ?_ _); rotate_left; (focus (first | omega | (simp; done) | (simp; omega)))) | ((with_reducible refine Below.alloc ?_ ?_ _); rotate_left; (focus (first | omega | (simp; done) | (simp; omega)))) | (with_reducible refine Below.drew ?_) | (with_reducible refine below_drewN ?_ _))))).below b5); clear b5
  have I5 := Lib.hid i5
  obtain ⟨a5, q5, rfl, _⟩ := i5
  go_wp2_with fail
  (with_reducible refine (H6.out _ _ _ ((new1 .u64 5 w5 62 w5.heap.size (Eq.refl _)).below (by (repeat (first | with_reducible exact Below.refl _ _ | ((with_reducible refine Below.setCell ?_ ?_ _); rotate_left; (focus (first | omega | (simp; done) | (simp; omega)))) | ((with_reducible refine Below.alloc ?_ ?_ _); rotate_left; (focus (first | omega | (simp; done) | (simp; omega)))) | (with_reducible refine Below.drew ?_) | (with_reducible refine below_drewN ?_ _))))) (new3 _ _ _ _ _ _ _ (by simp))).mono ?_); rintro e w6 ⟨rfl, b6⟩; have s6 : w5.heap.size ≤ w6.heap.size := (by have := b6.size; first | omega | (simp at this; omega)); have B6 := Lib.hid (show Below w.heap.size w w6 from below_tr (by (repeat (first | with_reducible exact Below.refl _ _ | ((with_reducible refine Below.setCell ?_ ?_ _); rotate_left; (focus (first | omega | (simp; done) | (simp; omega)))) | ((with_reducible refine Below.alloc ?_ ?_ _); rotate_left; (focus (first | omega | (simp; done) | (simp; omega)))) | (with_reducible refine Below.drew ?_) | (with_reducible refine below_drewN ?_ _) | ((with_reducible refine Below.trans ?_ (Below.mono B5.out ?_)); rotate_left; (focus (first | omega | (simp; done) | (simp; omega))))))) (b6.mono (by first | omega | (simp; done) | (simp; omega)))); have I1 := Lib.hid ((I1.out.below (by (repeat (first | with_reducible exact Below.refl _ _ | ((with_reducible refine Below.setCell ?_ ?_ _); rotate_left; (focus (first | omega | (simp; done) | (simp; omega)))) | ((with_reducible refine Below.alloc ?_ ?_ _); rotate_left; (focus (first | omega | (simp; done) | (simp; omega)))) | (with_reducible refine Below.drew ?_) | (with_reducible refine below_drewN ?_ _))))).below b6); have I2 := Lib.hid ((I2.out.below (by (repeat (first | with_reducible exact Below.refl _ _ | ((with_reducible refine Below.setCell ?_ ?_ _); rotate_left; (focus (first | omega | (simp; done) | (simp; omega)))) | ((with_reducible refine Below.alloc ?_ ?_ _); rotate_left; (focus (first | omega | (simp; done) | (simp; omega)))) | (with_reducible refine Below.drew ?_) | (with_reducible refine below_drewN ?_ _))))).below b6); have I4 := Lib.hid ((I4.out.below (by (repeat (first | with_reducible exact Below.refl _ _ | ((with_reducible refine Below.setCell ?_ ?_ _); rotate_left; (focus (first | omega | (simp; done) | (simp; omega)))) | ((with_reducible refine Below.alloc ?_ ?_ _); rotate_left; (focus (first | omega | (simp; done) | (simp; omega)))) | (with_reducible refine Below.drew ?_) | (with_reducible refine below_drewN ?_ _))))).below b6); have I5 := Lib.hid ((I5.out.below (by (repeat (first | with_reducible exact Below.refl _ _ | ((with_reducible refine Below.setCell ?_ ?_ _); rotate_left; (focus (first | omega | (simp; done) | (simp; omega)))) | ((with_reducible refine Below.alloc ?_ ?_ _); rotate_left; (focus (first | omega | (simp; done) | (simp; omega)))) | (with_reducible refine Below.drew ?_) | (with_reducible refine below_drewN ?_ _))))).below b6); clear b6
  go_wp2_with fail
  (with_reducible refine (H7.out _).mono ?_); rintro e w7 ⟨v7, rfl, i7, b7⟩; have s7 : w6.heap.size ≤ w7.heap.size := (by have := b7.size; first | omega | (simp at this; omega)); have B7 := Lib.hid (show Below w.heap.size w w7 from below_tr (by (repeat (first | with_reducible exact Below.refl _ _ | ((with_reducible refine Below.setCell ?_ ?_ _); rotate_left; (focus (first | omega | (simp; done) | (simp; omega)))) | ((with_reducible refine Below.alloc ?_ ?_ _); rotate_left; (focus (first | omega | (simp; done) | (simp; omega)))) | (with_reducible refine Below.drew ?_) | (with_reducible refine below_drewN ?_ _) | ((with_reducible refine Below.trans ?_ (Below.mono B6.out ?_)); rotate_left; (focus (first | omega | (simp; done) | (simp; omega))))))) (b7.mono (by first | omega | (simp; done) | (simp; omega)))); have I1 := Lib.hid ((I1.out.below (by (repeat (first | with_reducible exact Below.refl _ _ | ((with_reducible refine Below.setCell ?_ ?_ _); rotate_left; (focus (first | omega | (simp; done) | (simp; omega)))) | ((with_reducible refine Below.alloc ?_ ?_ _); rotate_left; (focus (first | omega | (simp; done) | (simp; omega)))) | (with_reducible refine Below.drew ?_) | (with_reducible refine below_drewN ?_ _))))).below b7); have I2 := Lib.hid ((I2.out.below (by (repeat (first | with_reducible exact Below.refl _ _ | ((with_reducible refine Below.setCell ?_ ?_ _); rotate_left; (focus (first | omega | (simp; done) | (simp; omega)))) | ((with_reducible refine Below.alloc ?_ ?_ _); rotate_left; (focus (first | omega | (simp; done) | (simp; omega)))) | (with_reducible refine Below.drew ?_) | (with_reducible refine below_drewN ?_ _))))).below b7); have I4 := Lib.hid ((I4.out.below (by (repeat (first | with_reducible exact Below.refl _ _ | ((with_reducible refine Below.setCell ?_ ?_ _); rotate_left; (focus (first | omega | (simp; done) | (simp; omega)))) | ((with_reducible refine Below.alloc ?_ ?_ _); rotate_left; (focus (first | omega | (simp; done) | (simp; omega)))) | (with_reducible refine Below.drew ?_) | (with_reducible refine below_drewN ?_ _))))).below b7); have I5 := Lib.hid ((I5.out.below (by (repeat (first | with_reducible exact Below.refl _ _ | ((with_reducible refine Below.setCell ?_ ?_ _); rotate_left; (focus (first | omega | (simp; done) | (simp; omega)))) | ((with_reducible refine Below.alloc ?_ ?_ _); rotate_left; (focus (first | omega | (simp; done) | (simp; omega)))) | (with_reducible refine Below.drew ?_) | (with_reducible refine below_drewN ?_ _))))).below b7); clear b7
  clear i7
  go_wp2_with fail
  (with_reducible refine (same_self7 _ _ [2, 1] _ ?_ (new2 _ _ _ _ _ _ (by simp))).mono ?_)
  · exact I1.out.below (by (repeat (first | with_reducible exact Below.refl _ _ | ((with_reducible refine Below.setCell ?_ ?_ _); rotate_left; (focus (first | omega | (simp; done) | (simp; omega)))) | ((with_reducible refine Below.alloc ?_ ?_ _); rotate_left; (focus (first | omega | (simp; done) | (simp; omega)))) | (with_reducible refine Below.drew ?_) | (with_reducible refine below_drewN ?_ _))))
  rintro e w8 ⟨rfl, d8, rfl⟩
  go_wp2_with fail
  (with_reducible refine (same_self7 _ _ [2, 0] _ ?_ (new2 _ _ _ _ _ _ (by simp))).mono ?_)
  · exact I2.out.below (by (repeat (first | with_reducible exact Below.refl _ _ | ((with_reducible refine Below.setCell ?_ ?_ _); rotate_left; (focus (first | omega | (simp; done) | (simp; omega)))) | ((with_reducible refine Below.alloc ?_ ?_ _); rotate_left; (focus (first | omega | (simp; done) | (simp; omega)))) | (with_reducible refine Below.drew ?_) | (with_reducible refine below_drewN ?_ _))))
  rintro e w9 ⟨rfl, d9, rfl⟩
  go_wp2_with fail
  (with_reducible refine (same_self7 _ _ [2, 1] _ ?_ ?_).mono ?_)
  · exact I4.out.below (by (repeat (first | with_reducible exact Below.refl _ _ | ((with_reducible refine Below.setCell ?_ ?_ _); rotate_left; (focus (first | omega | (simp; done) | (simp; omega)))) | ((with_reducible refine Below.alloc ?_ ?_ _); rotate_left; (focus (first | omega | (simp; done) | (simp; omega)))) | (with_reducible refine Below.drew ?_) | (with_reducible refine below_drewN ?_ _))))
  · exact I1.out.below (by (repeat (first | with_reducible exact Below.refl _ _ | ((with_reducible refine Below.setCell ?_ ?_ _); rotate_left; (focus (first | omega | (simp; done) | (simp; omega)))) | ((with_reducible refine Below.alloc ?_ ?_ _); rotate_left; (focus (first | omega | (simp; done) | (simp; omega)))) | (with_reducible refine Below.drew ?_) | (with_reducible refine below_drewN ?_ _))))
  rintro e w10 ⟨rfl, d10, rfl⟩
  go_wp2_with fail
  (with_reducible refine (same_self7 _ _ [-4] _ ?_ (new1 _ _ _ _ _ (by simp))).mono ?_)
  · exact I5.out.below (by (repeat (first | with_reducible exact Below.refl _ _ | ((with_reducible refine Below.setCell ?_ ?_ _); rotate_left; (focus (first | omega | (simp; done) | (simp; omega)))) | ((with_reducible refine Below.alloc ?_ ?_ _); rotate_left; (focus (first | omega | (simp; done) | (simp; omega)))) | (with_reducible refine Below.drew ?_) | (with_reducible refine below_drewN ?_ _))))
  rintro e w11 ⟨rfl, d11, rfl⟩
  go_wp2_with fail
  go_ret
  exact ⟨rfl, by (repeat (first | with_reducible exact Below.refl _ _ | ((with_reducible refine Below.setCell ?_ ?_ _); rotate_left; (focus (first | omega | (simp; done) | (simp; omega)))) | ((with_reducible refine Below.alloc ?_ ?_ _); rotate_left; (focus (first | omega | (simp; done) | (simp; omega)))) | (with_reducible refine Below.drew ?_) | (with_reducible refine below_drewN ?_ _) | ((with_reducible refine Below.trans ?_ (Below.mono B7.out ?_)); rotate_left; (focus (first | omega | (simp; done) | (simp; omega))))))⟩
end Go.Proofs.Ytoljilbldkbjpaa
