/-
  copselaw16.lives: what must come of every program.
-/
import Derived.Test.YtopodhcgfmpphaaLaws16
import Derived.Test.YtopodhcgfmpphaaExplO
namespace Go.Proofs.Ytopodhcgfmpphaa
open Go.RowKit

theorem trees1 (s : Value) (t : TreeP) (W : World) (T : TypeId) (b : Nat) (hb : b = W.heap.size) (h : NodesR W s t.nodes) (d : Int) (hd : t.dim = d) :
    TreesR (W.alloc (.cells #[.int .i64 d, s] T)) (.slice (some ⟨b, 0, none⟩) 1 1) [t] := by
  subst hb hd
  have hn := h.below (w' := W.alloc (.cells #[.int .i64 t.dim, s] T)) ((Below.refl _ _).alloc (Nat.le_refl _) _)
  refine ⟨_, _, rfl, by simp, by decide, by simp, fun i t' hi => ?_⟩
  have hc : ∀ j (v : Value), #[.int .i64 t.dim, s][j]? = some v → (W.alloc (.cells #[.int .i64 t.dim, s] T)).cell? ⟨W.heap.size, j, none⟩ = some v := fun j v hj => by
    have hb := heap_alloc_new W (.cells #[.int .i64 t.dim, s] T)
    simp only [World.cell?, hb]
    simpa using hj
  match i, hi with
  | 0, hi =>
    obtain rfl : t = t' := by simpa using hi
    exact ⟨_, _, s, rfl, by simp, hc 0 _ rfl, hc 1 _ rfl, hn⟩
  | i + 1, hi => simp at hi

set_option maxRecDepth 100000 in
set_option maxHeartbeats 1000000 in
theorem five_any (w : World) : Calls Try.prog 64 #[] w fun e w' => ∃ ad cc, e = .returned (.agg #[.int .i64 1, .slice ad 5 cc]) ∧ TreeR w' (.agg #[.int .i64 1, .slice ad 5 cc]) fiveP ∧ Below w.heap.size w w' := by
  go_enter Try.func64, Try.ntmps64
  go_wp2_with fail
  refine bodyPost_ret (v := .agg #[.int .i64 1, .slice (some ⟨w.heap.size + 1 + 1 + 1, 0, none⟩) 5 5]) (by simp [results, Try.results64, go_sem]) rfl ⟨_, _, rfl, ⟨_, rfl, _, _, rfl, by decide, by decide, by decide, ?_⟩, by (repeat (first | with_reducible exact Below.refl _ _ | ((with_reducible refine Below.setCell ?_ ?_ _); rotate_left; (focus (first | omega | (simp; done) | (simp; omega)))) | ((with_reducible refine Below.alloc ?_ ?_ _); rotate_left; (focus (first | omega | (simp; done) | (simp; omega)))) | (with_reducible refine Below.drew ?_) | (with_reducible refine below_drewN ?_ _)))⟩
  have h0 : Ints .i64 (w.alloc (.cells #[.int .i64 1, .slice (some ⟨w.heap.size + 1 + 1 + 1, 0, none⟩) 5 5] 24) |>.alloc (.cells #[.int .i64 1] 3)) (.slice (some ⟨w.heap.size + 1, 0, none⟩) 1 1) [1] := ints1 _ _ _ _ (by simp)
  have h1 : Ints .i64 (w.alloc (.cells #[.int .i64 1, .slice (some ⟨w.heap.size + 1 + 1 + 1, 0, none⟩) 5 5] 24) |>.alloc (.cells #[.int .i64 1] 3) |>.alloc (.cells #[.int .i64 1] 3)) (.slice (some ⟨w.heap.size + 1 + 1, 0, none⟩) 1 1) [1] := ints1 _ _ _ _ (by simp)
  have h0' := h0.below (w' := _) ((Below.refl _ _).alloc (Nat.le_refl _) (.cells #[.int .i64 1] 3))
  have h2 := fun o => h0'.below (w' := _) ((Below.refl _ _).alloc (Nat.le_refl _) o)
  have h3 := fun o => h1.below (w' := _) ((Below.refl _ _).alloc (Nat.le_refl _) o)
  intro i n hi
  match i, hi with
  | 0, hi =>
    obtain rfl : (⟨[1], 3, 1, 4, 3⟩ : NodeP) = n := by simpa [fiveP] using hi
    exact ⟨_, _, rfl, by simp, _, h2 _, by go_simp, by go_simp, by go_simp, by go_simp, by go_simp⟩
  | 1, hi =>
    obtain rfl : (⟨[1], 2, 2, 3, 2⟩ : NodeP) = n := by simpa [fiveP] using hi
    exact ⟨_, _, rfl, by simp, _, h3 _, by go_simp, by go_simp, by go_simp, by go_simp, by go_simp⟩
  | 2, hi =>
    obtain rfl : (⟨[], 0, 0, 0, 1⟩ : NodeP) = n := by simpa [fiveP] using hi
    exact ⟨_, _, rfl, by simp, _, ints_nil _ _ none 0 (by omega), by go_simp, by go_simp, by go_simp, by go_simp, by go_simp⟩
  | 3, hi =>
    obtain rfl : (⟨[], 0, 0, 0, 1⟩ : NodeP) = n := by simpa [fiveP] using hi
    exact ⟨_, _, rfl, by simp, _, ints_nil _ _ none 0 (by omega), by go_simp, by go_simp, by go_simp, by go_simp, by go_simp⟩
  | 4, hi =>
    obtain rfl : (⟨[], 0, 0, 0, 1⟩ : NodeP) = n := by simpa [fiveP] using hi
    exact ⟨_, _, rfl, by simp, _, ints_nil _ _ none 0 (by omega), by go_simp, by go_simp, by go_simp, by go_simp, by go_simp⟩
  | i + 5, hi => simp [fiveP] at hi

theorem five_rE : roomE fiveP [9] 0 = 0 ∧ roomV fiveP [9] 0 = (3, 2147483647) := by
  obtain ⟨a, b⟩ := roomE_yes (col := 0) five_E9 (by decide) (by decide)
  exact ⟨a, b.trans five_room⟩
theorem five_rC : roomE fiveP [2] 1 = 1 ∧ roomV fiveP [2] 1 = (0, 0) := roomE_col five_E2 (.inr (by decide))
theorem five_L : whyL [fiveP, fiveP] [2] = [(4, 2, 2)] := by
  show [(whyS [fiveP, fiveP] [2] 0, whyLo [fiveP, fiveP] [2] 0, whyHi [fiveP, fiveP] [2] 0)] = _
  rw [five_S, five_Lo, five_Hi]
theorem one_M : mostN [fiveP] [2] = 0 := rfl
theorem one_mE : mainE [fiveP] [2] = 0 := by
  unfold mainE
  rw [one_E, one_M, one_S]
  rfl
theorem one_mV : mainV [fiveP] [2] = 0 := by
  unfold mainV
  rw [one_mE, one_M]
  rfl

set_option maxRecDepth 100000 in
set_option maxHeartbeats 4000000 in
theorem lives16_any (w : World) : Calls Try.prog 14 #[] w fun e w' => e = .returned (.bool true) ∧ Below w.heap.size w w' := by
  go_enter Try.func14, Try.ntmps14
  go_wp2_with fail
  (with_reducible refine (five_any _).mono ?_); rintro e w1 ⟨ad, cc, rfl, hT, b1⟩; have s1 : w.heap.size ≤ w1.heap.size := (by have := b1.size; first | omega | (simp at this; omega)); have B1 := Lib.hid (show Below w.heap.size w w1 from below_tr (by (repeat (first | with_reducible exact Below.refl _ _ | ((with_reducible refine Below.setCell ?_ ?_ _); rotate_left; (focus (first | omega | (simp; done) | (simp; omega)))) | ((with_reducible refine Below.alloc ?_ ?_ _); rotate_left; (focus (first | omega | (simp; done) | (simp; omega)))) | (with_reducible refine Below.drew ?_) | (with_reducible refine below_drewN ?_ _)))) (b1.mono (by first | omega | (simp; done) | (simp; omega)))); clear b1
  have HT := Lib.hid hT
  have HNO := Lib.hid (show NodesR w1 (.slice ad 5 cc) fiveP.nodes by
    obtain ⟨nv, e, h⟩ := hT
    injection e with e
    injection e with e
    simp at e
    rw [e.2]
    exact h)
  have h2 := fun (W : World) (hW : TreeR W (.agg #[.int .i64 1, .slice ad 5 cc]) fiveP) vx (hX : Ints .i64 W vx [2]) => esteps_any _ vx fiveP [2] W hW hX
  rw [five_E2, five_cnt] at h2
  have h3 := fun (W : World) (hW : TreeR W (.agg #[.int .i64 1, .slice ad 5 cc]) fiveP) vx (hX : Ints .i64 W vx [9]) => eroom_any _ vx fiveP [9] 0 W hW hX
  rw [five_rE.1, five_rE.2] at h3
  have h4 := fun (W : World) v (hW : TreesR W v [fiveP, fiveP]) vx (hX : Ints .i64 W vx [2]) => eall_any v vx [fiveP, fiveP] [2] W hW hX
  rw [five_E, five_L] at h4
  have h5 := fun (W : World) v (hW : TreesR W v [fiveP]) vx (hX : Ints .i64 W vx [2]) => emain_any v vx [fiveP] [2] W hW hX
  rw [one_mE, one_mV] at h5
  have h6 := fun (W : World) (hW : TreeR W (.agg #[.int .i64 1, .slice ad 5 cc]) fiveP) vx (hX : Ints .i64 W vx [2]) => eroom_any _ vx fiveP [2] 1 W hW hX
  rw [five_rC.1, five_rC.2] at h6
  simp only [if_true] at h2 h3 h4 h5 h6
  have H2 := Lib.hid h2; have H3 := Lib.hid h3; have H4 := Lib.hid h4; have H5 := Lib.hid h5; have H6 := Lib.hid h6
  clear h2 h3 h4 h5 h6 hT
  go_wp2_with fail
  (with_reducible refine (H2.out _ (HT.out.below (by (repeat (first | with_reducible exact Below.refl _ _ | ((with_reducible refine Below.setCell ?_ ?_ _); rotate_left; (focus (first | omega | (simp; done) | (simp; omega)))) | ((with_reducible refine Below.alloc ?_ ?_ _); rotate_left; (focus (first | omega | (simp; done) | (simp; omega)))) | (with_reducible refine Below.drew ?_) | (with_reducible refine below_drewN ?_ _))))) _ (ints1 _ _ _ _ (by simp))).mono ?_); rintro e w2 ⟨v2, rfl, i2, _, b2⟩; have s2 : w1.heap.size + 1 ≤ w2.heap.size := (by have := b2.size; first | omega | (simp at this; omega)); have B2 := Lib.hid (show Below w.heap.size w w2 from below_tr (by (repeat (first | with_reducible exact Below.refl _ _ | ((with_reducible refine Below.setCell ?_ ?_ _); rotate_left; (focus (first | omega | (simp; done) | (simp; omega)))) | ((with_reducible refine Below.alloc ?_ ?_ _); rotate_left; (focus (first | omega | (simp; done) | (simp; omega)))) | (with_reducible refine Below.drew ?_) | (with_reducible refine below_drewN ?_ _) | ((with_reducible refine Below.trans ?_ (Below.mono B1.out ?_)); rotate_left; (focus (first | omega | (simp; done) | (simp; omega))))))) (b2.mono (by first | omega | (simp; done) | (simp; omega)))); have c2_0 : w2.cell? ⟨w1.heap.size, 0, none⟩ = some (.int .i64 1) := (b2.cell (by first | omega | (simp; done) | (simp; omega))).trans (by go_simp); have c2_1 : w2.cell? ⟨w1.heap.size, 1, none⟩ = some (.slice ad 5 cc) := (b2.cell (by first | omega | (simp; done) | (simp; omega))).trans (by go_simp); have l2_0 : w1.heap.size < w2.heap.size := (by omega); have n2_0 : w1.heap.size ≠ w2.heap.size := (by omega); have m2_0 : w2.heap.size ≠ w1.heap.size := (by omega); have HT := Lib.hid ((HT.out.below (by (repeat (first | with_reducible exact Below.refl _ _ | ((with_reducible refine Below.setCell ?_ ?_ _); rotate_left; (focus (first | omega | (simp; done) | (simp; omega)))) | ((with_reducible refine Below.alloc ?_ ?_ _); rotate_left; (focus (first | omega | (simp; done) | (simp; omega)))) | (with_reducible refine Below.drew ?_) | (with_reducible refine below_drewN ?_ _))))).below b2); have HNO := Lib.hid ((HNO.out.below (by (repeat (first | with_reducible exact Below.refl _ _ | ((with_reducible refine Below.setCell ?_ ?_ _); rotate_left; (focus (first | omega | (simp; done) | (simp; omega)))) | ((with_reducible refine Below.alloc ?_ ?_ _); rotate_left; (focus (first | omega | (simp; done) | (simp; omega)))) | (with_reducible refine Below.drew ?_) | (with_reducible refine below_drewN ?_ _))))).below b2); clear b2
  have I2 := Lib.hid i2
  obtain ⟨a2, q2, rfl, _⟩ := i2
  go_wp2_with fail
  (with_reducible refine (H3.out _ (HT.out.below (by (repeat (first | with_reducible exact Below.refl _ _ | ((with_reducible refine Below.setCell ?_ ?_ _); rotate_left; (focus (first | omega | (simp; done) | (simp; omega)))) | ((with_reducible refine Below.alloc ?_ ?_ _); rotate_left; (focus (first | omega | (simp; done) | (simp; omega)))) | (with_reducible refine Below.drew ?_) | (with_reducible refine below_drewN ?_ _))))) _ (ints1 _ _ _ _ (by simp))).mono ?_); rintro e w3 ⟨rfl, b3⟩; have s3 : w2.heap.size ≤ w3.heap.size := (by have := b3.size; first | omega | (simp at this; omega)); have B3 := Lib.hid (show Below w.heap.size w w3 from below_tr (by (repeat (first | with_reducible exact Below.refl _ _ | ((with_reducible refine Below.setCell ?_ ?_ _); rotate_left; (focus (first | omega | (simp; done) | (simp; omega)))) | ((with_reducible refine Below.alloc ?_ ?_ _); rotate_left; (focus (first | omega | (simp; done) | (simp; omega)))) | (with_reducible refine Below.drew ?_) | (with_reducible refine below_drewN ?_ _) | ((with_reducible refine Below.trans ?_ (Below.mono B2.out ?_)); rotate_left; (focus (first | omega | (simp; done) | (simp; omega))))))) (b3.mono (by first | omega | (simp; done) | (simp; omega)))); have c3_0 : w3.cell? ⟨w1.heap.size, 0, none⟩ = some (.int .i64 1) := (b3.cell (by first | omega | (simp; done) | (simp; omega))).trans (by go_simp); have c3_1 : w3.cell? ⟨w1.heap.size, 1, none⟩ = some (.slice ad 5 cc) := (b3.cell (by first | omega | (simp; done) | (simp; omega))).trans (by go_simp); have l3_0 : w1.heap.size < w3.heap.size := (by omega); have n3_0 : w1.heap.size ≠ w3.heap.size := (by omega); have m3_0 : w3.heap.size ≠ w1.heap.size := (by omega); have HT := Lib.hid ((HT.out.below (by (repeat (first | with_reducible exact Below.refl _ _ | ((with_reducible refine Below.setCell ?_ ?_ _); rotate_left; (focus (first | omega | (simp; done) | (simp; omega)))) | ((with_reducible refine Below.alloc ?_ ?_ _); rotate_left; (focus (first | omega | (simp; done) | (simp; omega)))) | (with_reducible refine Below.drew ?_) | (with_reducible refine below_drewN ?_ _))))).below b3); have HNO := Lib.hid ((HNO.out.below (by (repeat (first | with_reducible exact Below.refl _ _ | ((with_reducible refine Below.setCell ?_ ?_ _); rotate_left; (focus (first | omega | (simp; done) | (simp; omega)))) | ((with_reducible refine Below.alloc ?_ ?_ _); rotate_left; (focus (first | omega | (simp; done) | (simp; omega)))) | (with_reducible refine Below.drew ?_) | (with_reducible refine below_drewN ?_ _))))).below b3); have I2 := Lib.hid ((I2.out.below (by (repeat (first | with_reducible exact Below.refl _ _ | ((with_reducible refine Below.setCell ?_ ?_ _); rotate_left; (focus (first | omega | (simp; done) | (simp; omega)))) | ((with_reducible refine Below.alloc ?_ ?_ _); rotate_left; (focus (first | omega | (simp; done) | (simp; omega)))) | (with_reducible refine Below.drew ?_) | (with_reducible refine below_drewN ?_ _))))).below b3); clear b3
  go_wp2_with fail
  (with_reducible refine (H4.out _ _ ((trees2 (.slice ad 5 cc) fiveP w3 24 w3.heap.size (Eq.refl _) HNO.out 1 (Eq.refl 1)).below (by (repeat (first | with_reducible exact Below.refl _ _ | ((with_reducible refine Below.setCell ?_ ?_ _); rotate_left; (focus (first | omega | (simp; done) | (simp; omega)))) | ((with_reducible refine Below.alloc ?_ ?_ _); rotate_left; (focus (first | omega | (simp; done) | (simp; omega)))) | (with_reducible refine Below.drew ?_) | (with_reducible refine below_drewN ?_ _))))) _ (ints1 _ _ _ _ (by simp))).mono ?_); rintro e w4 ⟨v4, rfl, i4, b4⟩; have s4 : w3.heap.size ≤ w4.heap.size := (by have := b4.size; first | omega | (simp at this; omega)); have B4 := Lib.hid (show Below w.heap.size w w4 from below_tr (by (repeat (first | with_reducible exact Below.refl _ _ | ((with_reducible refine Below.setCell ?_ ?_ _); rotate_left; (focus (first | omega | (simp; done) | (simp; omega)))) | ((with_reducible refine Below.alloc ?_ ?_ _); rotate_left; (focus (first | omega | (simp; done) | (simp; omega)))) | (with_reducible refine Below.drew ?_) | (with_reducible refine below_drewN ?_ _) | ((with_reducible refine Below.trans ?_ (Below.mono B3.out ?_)); rotate_left; (focus (first | omega | (simp; done) | (simp; omega))))))) (b4.mono (by first | omega | (simp; done) | (simp; omega)))); have c4_0 : w4.cell? ⟨w1.heap.size, 0, none⟩ = some (.int .i64 1) := (b4.cell (by first | omega | (simp; done) | (simp; omega))).trans (by go_simp); have c4_1 : w4.cell? ⟨w1.heap.size, 1, none⟩ = some (.slice ad 5 cc) := (b4.cell (by first | omega | (simp; done) | (simp; omega))).trans (by go_simp); have l4_0 : w1.heap.size < w4.heap.size := (by omega); have n4_0 : w1.heap.size ≠ w4.heap.size := (by omega); have m4_0 : w4.heap.size ≠ w1.heap.size := (by omega); have HT := Lib.hid ((HT.out.below (by (repeat (first | with_reducible exact Below.refl _ _ | ((with_reducible refine Below.setCell ?_ ?_ _); rotate_left; (focus (first | omega | (simp; done) | (simp; omega)))) | ((with_reducible refine Below.alloc ?_ ?_ _); rotate_left; (focus (first | omega | (simp; done) | (simp; omega)))) | (with_reducible refine Below.drew ?_) | (with_reducible refine below_drewN ?_ _))))).below b4); have HNO := Lib.hid ((HNO.out.below (by (repeat (first | with_reducible exact Below.refl _ _ | ((with_reducible refine Below.setCell ?_ ?_ _); rotate_left; (focus (first | omega | (simp; done) | (simp; omega)))) | ((with_reducible refine Below.alloc ?_ ?_ _); rotate_left; (focus (first | omega | (simp; done) | (simp; omega)))) | (with_reducible refine Below.drew ?_) | (with_reducible refine below_drewN ?_ _))))).below b4); have I2 := Lib.hid ((I2.out.below (by (repeat (first | with_reducible exact Below.refl _ _ | ((with_reducible refine Below.setCell ?_ ?_ _); rotate_left; (focus (first | omega | (simp; done) | (simp; omega)))) | ((with_reducible refine Below.alloc ?_ ?_ _); rotate_left; (focus (first | omega | (simp; done) | (simp; omega)))) | (with_reducible refine Below.drew ?_) | (with_reducible refine below_drewN ?_ _))))).below b4); clear b4
  have I4 := Lib.hid i4
  obtain ⟨a4, q4, rfl, _, _, hcv4⟩ := i4
  obtain ⟨b4, o4, rfl, hb4, d0, d1, d2⟩ := hcv4 0 _ rfl
  simp only [Nat.zero_mul, Nat.add_zero] at d0 d1 d2
  clear hcv4
  go_wp2_with fail
  (with_reducible refine (H5.out _ _ ((trees1 (.slice ad 5 cc) fiveP w4 24 w4.heap.size (Eq.refl _) HNO.out 1 (Eq.refl 1)).below (by (repeat (first | with_reducible exact Below.refl _ _ | ((with_reducible refine Below.setCell ?_ ?_ _); rotate_left; (focus (first | omega | (simp; done) | (simp; omega)))) | ((with_reducible refine Below.alloc ?_ ?_ _); rotate_left; (focus (first | omega | (simp; done) | (simp; omega)))) | (with_reducible refine Below.drew ?_) | (with_reducible refine below_drewN ?_ _))))) _ (ints1 _ _ _ _ (by simp))).mono ?_); rintro e w5 ⟨rfl, b5⟩; have s5 : w4.heap.size ≤ w5.heap.size := (by have := b5.size; first | omega | (simp at this; omega)); have B5 := Lib.hid (show Below w.heap.size w w5 from below_tr (by (repeat (first | with_reducible exact Below.refl _ _ | ((with_reducible refine Below.setCell ?_ ?_ _); rotate_left; (focus (first | omega | (simp; done) | (simp; omega)))) | ((with_reducible refine Below.alloc ?_ ?_ _); rotate_left; (focus (first | omega | (simp; done) | (simp; omega)))) | (with_reducible refine Below.drew ?_) | (with_reducible refine below_drewN ?_ _) | ((with_reducible refine Below.trans ?_ (Below.mono B4.out ?_)); rotate_left; (focus (first | omega | (simp; done) | (simp; omega))))))) (b5.mono (by first | omega | (simp; done) | (simp; omega)))); have c5_0 : w5.cell? ⟨w1.heap.size, 0, none⟩ = some (.int .i64 1) := (b5.cell (by first | omega | (simp; done) | (simp; omega))).trans (by go_simp); have c5_1 : w5.cell? ⟨w1.heap.size, 1, none⟩ = some (.slice ad 5 cc) := (b5.cell (by first | omega | (simp; done) | (simp; omega))).trans (by go_simp); have c5_2 : w5.cell? ⟨b4, o4, none⟩ = some (.int .i64 4) := (b5.cell (by first | omega | (simp; done) | (simp; omega))).trans (by go_simp); have c5_3 : w5.cell? ⟨b4, o4 + 1, none⟩ = some (.int .i64 2) := (b5.cell (by first | omega | (simp; done) | (simp; omega))).trans (by go_simp); have c5_4 : w5.cell? ⟨b4, o4 + 2, none⟩ = some (.int .i64 2) := (b5.cell (by first | omega | (simp; done) | (simp; omega))).trans (by go_simp); have l5_0 : w1.heap.size < w5.heap.size := (by omega); have n5_0 : w1.heap.size ≠ w5.heap.size := (by omega); have m5_0 : w5.heap.size ≠ w1.heap.size := (by omega); have l5_1 : b4 < w5.heap.size := (by omega); have n5_1 : b4 ≠ w5.heap.size := (by omega); have m5_1 : w5.heap.size ≠ b4 := (by omega); have HT := Lib.hid ((HT.out.below (by (repeat (first | with_reducible exact Below.refl _ _ | ((with_reducible refine Below.setCell ?_ ?_ _); rotate_left; (focus (first | omega | (simp; done) | (simp; omega)))) | ((with_reducible refine Below.alloc ?_ ?_ _); rotate_left; (focus (first | omega | (simp; done) | (simp; omega)))) | (with_reducible refine Below.drew ?_) | (with_reducible refine below_drewN ?_ _))))).below b5); have HNO := Lib.hid ((HNO.out.below (by (repeat (first | with_reducible exact Below.refl _ _ | ((with_reducible refine Below.setCell ?_ ?_ _); rotate_left; (focus (first | omega | (simp; done) | (simp; omega)))) | ((with_reducible refine Below.alloc ?_ ?_ _); rotate_left; (focus (first | omega | (simp; done) | (simp; omega)))) | (with_reducible refine Below.drew ?_) | (with_reducible refine below_drewN ?_ _))))).below b5); have I2 := Lib.hid ((I2.out.below (by (repeat (first | with_reducible exact Below.refl _ _ | ((with_reducible refine Below.setCell ?_ ?_ _); rotate_left; (focus (first | omega | (simp; done) | (simp; omega)))) | ((with_reducible refine Below.alloc ?_ ?_ _); rotate_left; (focus (first | omega | (simp; done) | (simp; omega)))) | (with_reducible refine Below.drew ?_) | (with_reducible refine below_drewN ?_ _))))).below b5); have I4 := Lib.hid ((I4.out.below (by (repeat (first | with_reducible exact Below.refl _ _ | ((with_reducible refine Below.setCell ?_ ?_ _); rotate_left; (focus (first | omega | (simp; done) | (simp; omega)))) | ((with_reducible refine Below.alloc ?_ ?_ _); rotate_left; (focus (first | omega | (simp; done) | (simp; omega)))) | (with_reducible refine Below.drew ?_) | (with_reducible refine below_drewN ?_ _))))).below b5); clear b5
  go_wp2_with fail
  (with_reducible refine (H6.out _ (HT.out.below (by (repeat (first | with_reducible exact Below.refl _ _ | ((with_reducible refine Below.setCell ?_ ?_ _); rotate_left; (focus (first | omega | (simp; done) | (simp; omega)))) | ((with_reducible refine Below.alloc ?_ ?_ _); rotate_left; (focus (first | omega | (simp; done) | (simp; omega)))) | (with_reducible refine Below.drew ?_) | (with_reducible refine below_drewN ?_ _))))) _ (ints1 _ _ _ _ (by simp))).mono ?_); rintro e w6 ⟨rfl, b6⟩; have s6 : w5.heap.size ≤ w6.heap.size := (by have := b6.size; first | omega | (simp at this; omega)); have B6 := Lib.hid (show Below w.heap.size w w6 from below_tr (by (repeat (first | with_reducible exact Below.refl _ _ | ((with_reducible refine Below.setCell ?_ ?_ _); rotate_left; (focus (first | omega | (simp; done) | (simp; omega)))) | ((with_reducible refine Below.alloc ?_ ?_ _); rotate_left; (focus (first | omega | (simp; done) | (simp; omega)))) | (with_reducible refine Below.drew ?_) | (with_reducible refine below_drewN ?_ _) | ((with_reducible refine Below.trans ?_ (Below.mono B5.out ?_)); rotate_left; (focus (first | omega | (simp; done) | (simp; omega))))))) (b6.mono (by first | omega | (simp; done) | (simp; omega)))); have c6_0 : w6.cell? ⟨w1.heap.size, 0, none⟩ = some (.int .i64 1) := (b6.cell (by first | omega | (simp; done) | (simp; omega))).trans (by go_simp); have c6_1 : w6.cell? ⟨w1.heap.size, 1, none⟩ = some (.slice ad 5 cc) := (b6.cell (by first | omega | (simp; done) | (simp; omega))).trans (by go_simp); have c6_2 : w6.cell? ⟨b4, o4, none⟩ = some (.int .i64 4) := (b6.cell (by first | omega | (simp; done) | (simp; omega))).trans (by go_simp); have c6_3 : w6.cell? ⟨b4, o4 + 1, none⟩ = some (.int .i64 2) := (b6.cell (by first | omega | (simp; done) | (simp; omega))).trans (by go_simp); have c6_4 : w6.cell? ⟨b4, o4 + 2, none⟩ = some (.int .i64 2) := (b6.cell (by first | omega | (simp; done) | (simp; omega))).trans (by go_simp); have l6_0 : w1.heap.size < w6.heap.size := (by omega); have n6_0 : w1.heap.size ≠ w6.heap.size := (by omega); have m6_0 : w6.heap.size ≠ w1.heap.size := (by omega); have l6_1 : b4 < w6.heap.size := (by omega); have n6_1 : b4 ≠ w6.heap.size := (by omega); have m6_1 : w6.heap.size ≠ b4 := (by omega); have I2 := Lib.hid ((I2.out.below (by (repeat (first | with_reducible exact Below.refl _ _ | ((with_reducible refine Below.setCell ?_ ?_ _); rotate_left; (focus (first | omega | (simp; done) | (simp; omega)))) | ((with_reducible refine Below.alloc ?_ ?_ _); rotate_left; (focus (first | omega | (simp; done) | (simp; omega)))) | (with_reducible refine Below.drew ?_) | (with_reducible refine below_drewN ?_ _))))).below b6); clear b6
  go_wp2_with fail
  refine (same_self _ _ _ _ (I2.out.below (by (repeat (first | with_reducible exact Below.refl _ _ | ((with_reducible refine Below.setCell ?_ ?_ _); rotate_left; (focus (first | omega | (simp; done) | (simp; omega)))) | ((with_reducible refine Below.alloc ?_ ?_ _); rotate_left; (focus (first | omega | (simp; done) | (simp; omega)))) | (with_reducible refine Below.drew ?_) | (with_reducible refine below_drewN ?_ _))))) (ints1 _ _ _ _ (by simp))).mono ?_
  rintro e w8 ⟨rfl, d, rfl⟩
  go_wp2_with fail
  go_ret
  exact ⟨rfl, by (repeat (first | with_reducible exact Below.refl _ _ | ((with_reducible refine Below.setCell ?_ ?_ _); rotate_left; (focus (first | omega | (simp; done) | (simp; omega)))) | ((with_reducible refine Below.alloc ?_ ?_ _); rotate_left; (focus (first | omega | (simp; done) | (simp; omega)))) | (with_reducible refine Below.drew ?_) | (with_reducible refine below_drewN ?_ _) | ((with_reducible refine Below.trans ?_ (Below.mono B6.out ?_)); rotate_left; (focus (first | omega | (simp; done) | (simp; omega))))))⟩
end Go.Proofs.Ytopodhcgfmpphaa
