/-
  ItemHd: Walk of the reference's GetAsk: one class of kinds.
-/
import Derived.Test.YtjmjnkilgoelbaaJ2a
namespace Go.Proofs.Ytjmjnkilgoelbaa
open Go.RowKit

set_option maxRecDepth 100000 in
set_option maxHeartbeats 16000000 in
theorem rgetAsk_d (vr : Value) (l : List Int) (a : Nat) (e0 : Int) (w : World) (h : Ints .u8 w vr l) (hb : AllB l) (ha : a ≤ l.length) (hl : l.length ≤ 100000) (K a1 : Nat) (e1 : Int) (h1 : rdN' l a e0 1099511627776 = (K, a1, e1)) (hk : (1 : Int) ≤ K ∧ (K : Int) ≤ 7)
    (hd1 : decide (K = 1) = false) (hd2 : decide (K = 1 ∨ K = 2 ∨ K = 7) = false) (hd3 : decide (K = 3 ∨ K = 4) = true) (hd4 : decide (K = 3) = false)
    (hN : ∀ W, Calls Try.prog 102 #[.int .i64 (K : Int)] W fun e w' => e = .returned (.tuple #[.bool false, .bool false, .bool true, .bool false]) ∧ W = w') :
    Calls Try.prog 40 #[.agg #[vr, .int .i64 a, .int .i64 e0]] w fun e w' => RefA w vr (getAsk l a e0) e w' := by
  have I0 := Lib.hid h
  have HN := Lib.hid hN
  have H1 := Lib.hid (fun v W hW => rdN_ref hb ha hl 1099511627776 (by decide) _ _ _ h1 v W hW)
  have l1 := rdN'_le hb ha e0 1099511627776
  rw [h1] at l1
  obtain ⟨ad, c, rfl⟩ := h.shape
  obtain ⟨r4, h4⟩ : ∃ r, rdN' l a1 e1 1099511627776 = r := ⟨_, rfl⟩
  obtain ⟨q4, a4, e4⟩ := r4
  have H4 := Lib.hid (fun v W hW => rdN_ref hb l1 hl 1099511627776 (by decide) _ _ _ h4 v W hW)
  have l4 := rdN'_le hb l1 e1 1099511627776
  rw [h4] at l4
  have hg : gAk K l a1 e1 = (((K : Int), (0 : Int), [], (q4 : Int), (0 : Int)), a4, e4) := gAk_of (K := K) (l := l) (a := a1) (e := e1) (r2 := ((0 : Nat), a1, e1)) (by rw [hd1]; rfl) (r3 := (([] : List Int), a1, e1)) (by rw [hd2]; rfl) (r4 := (q4, a4, e4)) (by rw [hd3]; exact h4) (r5 := ((0 : Nat), a4, e4)) (by rw [hd4]; rfl)
  rw [getAsk_yes h1 (by omega) hg]
  obtain ⟨B, hB⟩ : ∃ B, askB K 0 q4 0 ([] : List Int) = B := ⟨_, rfl⟩
  obtain ⟨E, hE⟩ : ∃ E, finE e4 B = E := ⟨_, rfl⟩
  rw [show finE e4 (askTB ((K : Int), (0 : Int), [], (q4 : Int), (0 : Int))) = E by rw [← hE, ← hB]; rfl]
  obtain ⟨TT, hT⟩ : ∃ TT, (if E = 0 then ((K : Int), (0 : Int), [], (q4 : Int), (0 : Int)) else askT0) = TT := ⟨_, rfl⟩
  rw [hT]
  have HT := Lib.hid hT
  clear hT
  have HF := Lib.hid (fun W => rform_any ad l.length c (a1 : Int) e1 true W)
  rw [finE_true] at HF
  have HR := Lib.hid (fun (xa : Option Addr) (xn xc : Nat) W (hX : Ints .i64 W (.slice xa xn xc) ([] : List Int)) => rrightAsk_any K 0 q4 0 _ ([] : List Int) W hX)
  rw [hB] at HR
  have HG := Lib.hid (fun W => rform_any ad l.length c (a4 : Int) e4 B W)
  rw [hE] at HG
  clear h hN h1 hb ha hl l1 hE hB hg h4 l4 hd1 hd2 hd3 hd4
  generalize l.length = ln at *
  by_cases hE : E = 0
  · subst hE
    obtain rfl : ((K : Int), (0 : Int), ([] : List Int), (q4 : Int), (0 : Int)) = TT := (if_pos rfl).symm.trans HT.out
    obtain ⟨k1, k2⟩ := hk
    go_enter Try.func40, Try.ntmps40
    go_wp2_with fail
    (with_reducible refine (H1.out _ _ (I0.out.below (by (repeat (first | with_reducible exact Below.refl _ _ | with_reducible refine Bs ?_ | with_reducible refine Ba ?_ | with_reducible refine Bd ?_ | with_reducible refine Bn ?_))))).mono ?_); rintro e w1 ⟨rfl, b1⟩; have s1 : w.heap.size + 1 + 1 + 1 ≤ w1.heap.size := sz b1; have B1 := Lib.hid (Bc (B := w.heap.size) (a := w) (by (repeat (first | with_reducible exact Below.refl _ _ | with_reducible refine Bs ?_ | with_reducible refine Ba ?_ | with_reducible refine Bd ?_ | with_reducible refine Bn ?_))) b1); obtain ⟨c1_0, f1_0, c1_1, f1_1, c1_2, f1_2⟩ := k3f (w.heap.size + 1) (.slice none 0 0) (.int .i64 0) (.int .i64 0) b1 (by and_intros <;> go_simp); obtain ⟨c1_3, f1_3, c1_4, f1_4, c1_5, f1_5, c1_6, f1_6, c1_7, f1_7⟩ := k5f (w.heap.size + 1 + 1) (.int .i64 0) (.int .i64 0) (.slice none 0 0) (.int .i64 0) (.int .i64 0) b1 (by and_intros <;> go_simp); obtain ⟨l1_0, n1_0, m1_0⟩ := lnm (show w.heap.size + 1 < w1.heap.size by omega); obtain ⟨l1_1, n1_1, m1_1⟩ := lnm (show w.heap.size + 1 + 1 < w1.heap.size by omega); clear b1
    have nn2 : w.heap.size < w1.heap.size := by omega
    have nn0 : w.heap.size ≠ w1.heap.size := by omega
    have nn1 : w1.heap.size ≠ w.heap.size := by omega
    go_wp2_with fail
    (with_reducible refine (HF.out _).mono ?_); rintro e w2 ⟨rfl, b2⟩; have s2 : w1.heap.size + 1 + 1 ≤ w2.heap.size := sz b2; have B2 := Lib.hid (Bc (B := w.heap.size) (a := w) (by (repeat (first | with_reducible exact Below.refl _ _ | with_reducible refine Bs ?_ | with_reducible refine Ba ?_ | with_reducible refine Bd ?_ | with_reducible refine Bn ?_ | with_reducible refine Bt B1.out ?_))) b2); obtain ⟨c2_0, f2_0, c2_1, f2_1, c2_2, f2_2⟩ := k3f (w.heap.size + 1) (.slice none 0 0) (.int .i64 0) (.int .i64 0) b2 (by and_intros <;> go_simp); obtain ⟨c2_3, f2_3, c2_4, f2_4, c2_5, f2_5, c2_6, f2_6, c2_7, f2_7⟩ := k5f (w.heap.size + 1 + 1) (.int .i64 0) (.int .i64 0) (.slice none 0 0) (.int .i64 0) (.int .i64 0) b2 (by and_intros <;> go_simp); obtain ⟨c2_8, f2_8, c2_9, f2_9, c2_10, f2_10⟩ := k3f (w1.heap.size) (.slice ad ln c) (.int .i64 a1) (.int .i64 e1) b2 (by and_intros <;> go_simp); obtain ⟨c2_11, f2_11, c2_12, f2_12, c2_13, f2_13, c2_14, f2_14, c2_15, f2_15⟩ := k5f (w1.heap.size + 1) (.int .i64 K) (.int .i64 0) (.slice none 0 0) (.int .i64 0) (.int .i64 0) b2 (by and_intros <;> go_simp); obtain ⟨l2_0, n2_0, m2_0⟩ := lnm (show w.heap.size + 1 < w2.heap.size by omega); obtain ⟨l2_1, n2_1, m2_1⟩ := lnm (show w.heap.size + 1 + 1 < w2.heap.size by omega); obtain ⟨l2_2, n2_2, m2_2⟩ := lnm (show w1.heap.size < w2.heap.size by omega); obtain ⟨l2_3, n2_3, m2_3⟩ := lnm (show w1.heap.size + 1 < w2.heap.size by omega); clear b2
    go_wp2_with fail
    (with_reducible refine (HN.out _).mono ?_)
    rintro e w9 ⟨rfl, rfl⟩
    go_wp2_with fail
    (with_reducible refine (H4.out _ _ (I0.out.below (by (repeat (first | with_reducible exact Below.refl _ _ | with_reducible refine Bs ?_ | with_reducible refine Ba ?_ | with_reducible refine Bd ?_ | with_reducible refine Bn ?_ | with_reducible refine Bt B2.out ?_))))).mono ?_); rintro e w14 ⟨rfl, b14⟩; have s14 : w2.heap.size ≤ w14.heap.size := sz b14; have B14 := Lib.hid (Bc (B := w.heap.size) (a := w) (by (repeat (first | with_reducible exact Below.refl _ _ | with_reducible refine Bs ?_ | with_reducible refine Ba ?_ | with_reducible refine Bd ?_ | with_reducible refine Bn ?_ | with_reducible refine Bt B2.out ?_))) b14); obtain ⟨c14_0, f14_0, c14_1, f14_1, c14_2, f14_2⟩ := k3f (w.heap.size + 1) (.slice none 0 0) (.int .i64 0) (.int .i64 0) b14 (by and_intros <;> go_simp); obtain ⟨c14_3, f14_3, c14_4, f14_4, c14_5, f14_5, c14_6, f14_6, c14_7, f14_7⟩ := k5f (w.heap.size + 1 + 1) (.int .i64 0) (.int .i64 0) (.slice none 0 0) (.int .i64 0) (.int .i64 0) b14 (by and_intros <;> go_simp); obtain ⟨c14_8, f14_8, c14_9, f14_9, c14_10, f14_10⟩ := k3f (w1.heap.size) (.slice ad ln c) (.int .i64 a1) (.int .i64 e1) b14 (by and_intros <;> go_simp); obtain ⟨c14_11, f14_11, c14_12, f14_12, c14_13, f14_13, c14_14, f14_14, c14_15, f14_15⟩ := k5f (w1.heap.size + 1) (.int .i64 K) (.int .i64 0) (.slice none 0 0) (.int .i64 0) (.int .i64 0) b14 (by and_intros <;> go_simp); obtain ⟨l14_0, n14_0, m14_0⟩ := lnm (show w.heap.size + 1 < w14.heap.size by omega); obtain ⟨l14_1, n14_1, m14_1⟩ := lnm (show w.heap.size + 1 + 1 < w14.heap.size by omega); obtain ⟨l14_2, n14_2, m14_2⟩ := lnm (show w1.heap.size < w14.heap.size by omega); obtain ⟨l14_3, n14_3, m14_3⟩ := lnm (show w1.heap.size + 1 < w14.heap.size by omega); clear b14
    go_wp2_with fail
    have dd_8 : w.heap.size + 1 ≠ w14.heap.size := by omega
    have de_9 : w14.heap.size ≠ w.heap.size + 1 := by omega
    have df_10 : w.heap.size + 1 < w14.heap.size := by omega
    have dd_9 : w.heap.size + 1 + 1 ≠ w14.heap.size := by omega
    have de_10 : w14.heap.size ≠ w.heap.size + 1 + 1 := by omega
    have df_11 : w.heap.size + 1 + 1 < w14.heap.size := by omega
    have dd_10 : w1.heap.size ≠ w14.heap.size := by omega
    have de_11 : w14.heap.size ≠ w1.heap.size := by omega
    have df_12 : w1.heap.size < w14.heap.size := by omega
    have dd_11 : w1.heap.size + 1 ≠ w14.heap.size := by omega
    have de_12 : w14.heap.size ≠ w1.heap.size + 1 := by omega
    have df_13 : w1.heap.size + 1 < w14.heap.size := by omega
    go_region_with (first | (go_at_call 38; (with_reducible refine (HR.out none 0 0 _ (ints_nil _ _ _ _ (by omega))).mono ?_); rintro e w8 ⟨rfl, b8⟩; have s8 : w14.heap.size + 1 ≤ w8.heap.size := sz b8; have B8 := Lib.hid (Bc (B := w.heap.size) (a := w) (by (repeat (first | with_reducible exact Below.refl _ _ | with_reducible refine Bs ?_ | with_reducible refine Ba ?_ | with_reducible refine Bd ?_ | with_reducible refine Bn ?_ | with_reducible refine Bt B14.out ?_))) b8); obtain ⟨c8_0, f8_0, c8_1, f8_1, c8_2, f8_2⟩ := k3f (w.heap.size + 1) (.slice none 0 0) (.int .i64 0) (.int .i64 0) b8 (by and_intros <;> go_simp); obtain ⟨c8_3, f8_3, c8_4, f8_4, c8_5, f8_5, c8_6, f8_6, c8_7, f8_7⟩ := k5f (w.heap.size + 1 + 1) (.int .i64 0) (.int .i64 0) (.slice none 0 0) (.int .i64 0) (.int .i64 0) b8 (by and_intros <;> go_simp); obtain ⟨c8_8, f8_8, c8_9, f8_9, c8_10, f8_10⟩ := k3f (w1.heap.size) (.slice ad ln c) (.int .i64 a4) (.int .i64 e4) b8 (by and_intros <;> go_simp); obtain ⟨c8_11, f8_11, c8_12, f8_12, c8_13, f8_13, c8_14, f8_14, c8_15, f8_15⟩ := k5f (w1.heap.size + 1) (.int .i64 K) (.int .i64 0) (.slice none 0 0) (.int .i64 q4) (.int .i64 0) b8 (by and_intros <;> go_simp); obtain ⟨l8_0, n8_0, m8_0⟩ := lnm (show w.heap.size + 1 < w8.heap.size by omega); obtain ⟨l8_1, n8_1, m8_1⟩ := lnm (show w.heap.size + 1 + 1 < w8.heap.size by omega); obtain ⟨l8_2, n8_2, m8_2⟩ := lnm (show w1.heap.size < w8.heap.size by omega); obtain ⟨l8_3, n8_3, m8_3⟩ := lnm (show w1.heap.size + 1 < w8.heap.size by omega); clear b8) | (go_at_call 99; (with_reducible refine (HG.out _).mono ?_); rintro e w19 ⟨rfl, b19⟩; have s19 : w8.heap.size ≤ w19.heap.size := sz b19; have B19 := Lib.hid (Bc (B := w.heap.size) (a := w) (by (repeat (first | with_reducible exact Below.refl _ _ | with_reducible refine Bs ?_ | with_reducible refine Ba ?_ | with_reducible refine Bd ?_ | with_reducible refine Bn ?_ | with_reducible refine Bt B8.out ?_))) b19); obtain ⟨c19_0, f19_0, c19_1, f19_1, c19_2, f19_2⟩ := k3f (w.heap.size + 1) (.slice none 0 0) (.int .i64 0) (.int .i64 0) b19 (by and_intros <;> go_simp); obtain ⟨c19_3, f19_3, c19_4, f19_4, c19_5, f19_5, c19_6, f19_6, c19_7, f19_7⟩ := k5f (w.heap.size + 1 + 1) (.int .i64 0) (.int .i64 0) (.slice none 0 0) (.int .i64 0) (.int .i64 0) b19 (by and_intros <;> go_simp); obtain ⟨c19_8, f19_8, c19_9, f19_9, c19_10, f19_10⟩ := k3f (w1.heap.size) (.slice ad ln c) (.int .i64 a4) (.int .i64 e4) b19 (by and_intros <;> go_simp); obtain ⟨c19_11, f19_11, c19_12, f19_12, c19_13, f19_13, c19_14, f19_14, c19_15, f19_15⟩ := k5f (w1.heap.size + 1) (.int .i64 K) (.int .i64 0) (.slice none 0 0) (.int .i64 q4) (.int .i64 0) b19 (by and_intros <;> go_simp); obtain ⟨l19_0, n19_0, m19_0⟩ := lnm (show w.heap.size + 1 < w19.heap.size by omega); obtain ⟨l19_1, n19_1, m19_1⟩ := lnm (show w.heap.size + 1 + 1 < w19.heap.size by omega); obtain ⟨l19_2, n19_2, m19_2⟩ := lnm (show w1.heap.size < w19.heap.size by omega); obtain ⟨l19_3, n19_3, m19_3⟩ := lnm (show w1.heap.size + 1 < w19.heap.size by omega); clear b19))
    all_goals
      go_wp2_with fail
      go_region
      all_goals
        go_wp2_with fail
        exact bodyPost_ret (v := .tuple #[.agg #[.slice ad ln c, .int .i64 a4, .int .i64 0], .agg #[.int .i64 K, .int .i64 0, .slice none 0 0, .int .i64 q4, .int .i64 0]]) (by simp [results, Try.results40, go_sem, *]) rfl ⟨_, rfl, ints_nil _ _ _ _ (by omega), by (repeat (first | with_reducible exact Below.refl _ _ | with_reducible refine Bs ?_ | with_reducible refine Ba ?_ | with_reducible refine Bd ?_ | with_reducible refine Bn ?_ | with_reducible refine Bt B19.out ?_))⟩
  · obtain rfl : askT0 = TT := (if_neg hE).symm.trans HT.out
    obtain ⟨k1, k2⟩ := hk
    go_enter Try.func40, Try.ntmps40
    go_wp2_with fail
    (with_reducible refine (H1.out _ _ (I0.out.below (by (repeat (first | with_reducible exact Below.refl _ _ | with_reducible refine Bs ?_ | with_reducible refine Ba ?_ | with_reducible refine Bd ?_ | with_reducible refine Bn ?_))))).mono ?_); rintro e w1 ⟨rfl, b1⟩; have s1 : w.heap.size + 1 + 1 + 1 ≤ w1.heap.size := sz b1; have B1 := Lib.hid (Bc (B := w.heap.size) (a := w) (by (repeat (first | with_reducible exact Below.refl _ _ | with_reducible refine Bs ?_ | with_reducible refine Ba ?_ | with_reducible refine Bd ?_ | with_reducible refine Bn ?_))) b1); obtain ⟨c1_0, f1_0, c1_1, f1_1, c1_2, f1_2⟩ := k3f (w.heap.size + 1) (.slice none 0 0) (.int .i64 0) (.int .i64 0) b1 (by and_intros <;> go_simp); obtain ⟨c1_3, f1_3, c1_4, f1_4, c1_5, f1_5, c1_6, f1_6, c1_7, f1_7⟩ := k5f (w.heap.size + 1 + 1) (.int .i64 0) (.int .i64 0) (.slice none 0 0) (.int .i64 0) (.int .i64 0) b1 (by and_intros <;> go_simp); obtain ⟨l1_0, n1_0, m1_0⟩ := lnm (show w.heap.size + 1 < w1.heap.size by omega); obtain ⟨l1_1, n1_1, m1_1⟩ := lnm (show w.heap.size + 1 + 1 < w1.heap.size by omega); clear b1
    have nn2 : w.heap.size < w1.heap.size := by omega
    have nn0 : w.heap.size ≠ w1.heap.size := by omega
    have nn1 : w1.heap.size ≠ w.heap.size := by omega
    go_wp2_with fail
    (with_reducible refine (HF.out _).mono ?_); rintro e w2 ⟨rfl, b2⟩; have s2 : w1.heap.size + 1 + 1 ≤ w2.heap.size := sz b2; have B2 := Lib.hid (Bc (B := w.heap.size) (a := w) (by (repeat (first | with_reducible exact Below.refl _ _ | with_reducible refine Bs ?_ | with_reducible refine Ba ?_ | with_reducible refine Bd ?_ | with_reducible refine Bn ?_ | with_reducible refine Bt B1.out ?_))) b2); obtain ⟨c2_0, f2_0, c2_1, f2_1, c2_2, f2_2⟩ := k3f (w.heap.size + 1) (.slice none 0 0) (.int .i64 0) (.int .i64 0) b2 (by and_intros <;> go_simp); obtain ⟨c2_3, f2_3, c2_4, f2_4, c2_5, f2_5, c2_6, f2_6, c2_7, f2_7⟩ := k5f (w.heap.size + 1 + 1) (.int .i64 0) (.int .i64 0) (.slice none 0 0) (.int .i64 0) (.int .i64 0) b2 (by and_intros <;> go_simp); obtain ⟨c2_8, f2_8, c2_9, f2_9, c2_10, f2_10⟩ := k3f (w1.heap.size) (.slice ad ln c) (.int .i64 a1) (.int .i64 e1) b2 (by and_intros <;> go_simp); obtain ⟨c2_11, f2_11, c2_12, f2_12, c2_13, f2_13, c2_14, f2_14, c2_15, f2_15⟩ := k5f (w1.heap.size + 1) (.int .i64 K) (.int .i64 0) (.slice none 0 0) (.int .i64 0) (.int .i64 0) b2 (by and_intros <;> go_simp); obtain ⟨l2_0, n2_0, m2_0⟩ := lnm (show w.heap.size + 1 < w2.heap.size by omega); obtain ⟨l2_1, n2_1, m2_1⟩ := lnm (show w.heap.size + 1 + 1 < w2.heap.size by omega); obtain ⟨l2_2, n2_2, m2_2⟩ := lnm (show w1.heap.size < w2.heap.size by omega); obtain ⟨l2_3, n2_3, m2_3⟩ := lnm (show w1.heap.size + 1 < w2.heap.size by omega); clear b2
    go_wp2_with fail
    (with_reducible refine (HN.out _).mono ?_)
    rintro e w9 ⟨rfl, rfl⟩
    go_wp2_with fail
    (with_reducible refine (H4.out _ _ (I0.out.below (by (repeat (first | with_reducible exact Below.refl _ _ | with_reducible refine Bs ?_ | with_reducible refine Ba ?_ | with_reducible refine Bd ?_ | with_reducible refine Bn ?_ | with_reducible refine Bt B2.out ?_))))).mono ?_); rintro e w14 ⟨rfl, b14⟩; have s14 : w2.heap.size ≤ w14.heap.size := sz b14; have B14 := Lib.hid (Bc (B := w.heap.size) (a := w) (by (repeat (first | with_reducible exact Below.refl _ _ | with_reducible refine Bs ?_ | with_reducible refine Ba ?_ | with_reducible refine Bd ?_ | with_reducible refine Bn ?_ | with_reducible refine Bt B2.out ?_))) b14); obtain ⟨c14_0, f14_0, c14_1, f14_1, c14_2, f14_2⟩ := k3f (w.heap.size + 1) (.slice none 0 0) (.int .i64 0) (.int .i64 0) b14 (by and_intros <;> go_simp); obtain ⟨c14_3, f14_3, c14_4, f14_4, c14_5, f14_5, c14_6, f14_6, c14_7, f14_7⟩ := k5f (w.heap.size + 1 + 1) (.int .i64 0) (.int .i64 0) (.slice none 0 0) (.int .i64 0) (.int .i64 0) b14 (by and_intros <;> go_simp); obtain ⟨c14_8, f14_8, c14_9, f14_9, c14_10, f14_10⟩ := k3f (w1.heap.size) (.slice ad ln c) (.int .i64 a1) (.int .i64 e1) b14 (by and_intros <;> go_simp); obtain ⟨c14_11, f14_11, c14_12, f14_12, c14_13, f14_13, c14_14, f14_14, c14_15, f14_15⟩ := k5f (w1.heap.size + 1) (.int .i64 K) (.int .i64 0) (.slice none 0 0) (.int .i64 0) (.int .i64 0) b14 (by and_intros <;> go_simp); obtain ⟨l14_0, n14_0, m14_0⟩ := lnm (show w.heap.size + 1 < w14.heap.size by omega); obtain ⟨l14_1, n14_1, m14_1⟩ := lnm (show w.heap.size + 1 + 1 < w14.heap.size by omega); obtain ⟨l14_2, n14_2, m14_2⟩ := lnm (show w1.heap.size < w14.heap.size by omega); obtain ⟨l14_3, n14_3, m14_3⟩ := lnm (show w1.heap.size + 1 < w14.heap.size by omega); clear b14
    go_wp2_with fail
    have dd_8 : w.heap.size + 1 ≠ w14.heap.size := by omega
    have de_9 : w14.heap.size ≠ w.heap.size + 1 := by omega
    have df_10 : w.heap.size + 1 < w14.heap.size := by omega
    have dd_9 : w.heap.size + 1 + 1 ≠ w14.heap.size := by omega
    have de_10 : w14.heap.size ≠ w.heap.size + 1 + 1 := by omega
    have df_11 : w.heap.size + 1 + 1 < w14.heap.size := by omega
    have dd_10 : w1.heap.size ≠ w14.heap.size := by omega
    have de_11 : w14.heap.size ≠ w1.heap.size := by omega
    have df_12 : w1.heap.size < w14.heap.size := by omega
    have dd_11 : w1.heap.size + 1 ≠ w14.heap.size := by omega
    have de_12 : w14.heap.size ≠ w1.heap.size + 1 := by omega
    have df_13 : w1.heap.size + 1 < w14.heap.size := by omega
    go_region_with (first | (go_at_call 38; (with_reducible refine (HR.out none 0 0 _ (ints_nil _ _ _ _ (by omega))).mono ?_); rintro e w8 ⟨rfl, b8⟩; have s8 : w14.heap.size + 1 ≤ w8.heap.size := sz b8; have B8 := Lib.hid (Bc (B := w.heap.size) (a := w) (by (repeat (first | with_reducible exact Below.refl _ _ | with_reducible refine Bs ?_ | with_reducible refine Ba ?_ | with_reducible refine Bd ?_ | with_reducible refine Bn ?_ | with_reducible refine Bt B14.out ?_))) b8); obtain ⟨c8_0, f8_0, c8_1, f8_1, c8_2, f8_2⟩ := k3f (w.heap.size + 1) (.slice none 0 0) (.int .i64 0) (.int .i64 0) b8 (by and_intros <;> go_simp); obtain ⟨c8_3, f8_3, c8_4, f8_4, c8_5, f8_5, c8_6, f8_6, c8_7, f8_7⟩ := k5f (w.heap.size + 1 + 1) (.int .i64 0) (.int .i64 0) (.slice none 0 0) (.int .i64 0) (.int .i64 0) b8 (by and_intros <;> go_simp); obtain ⟨c8_8, f8_8, c8_9, f8_9, c8_10, f8_10⟩ := k3f (w1.heap.size) (.slice ad ln c) (.int .i64 a4) (.int .i64 e4) b8 (by and_intros <;> go_simp); obtain ⟨c8_11, f8_11, c8_12, f8_12, c8_13, f8_13, c8_14, f8_14, c8_15, f8_15⟩ := k5f (w1.heap.size + 1) (.int .i64 K) (.int .i64 0) (.slice none 0 0) (.int .i64 q4) (.int .i64 0) b8 (by and_intros <;> go_simp); obtain ⟨l8_0, n8_0, m8_0⟩ := lnm (show w.heap.size + 1 < w8.heap.size by omega); obtain ⟨l8_1, n8_1, m8_1⟩ := lnm (show w.heap.size + 1 + 1 < w8.heap.size by omega); obtain ⟨l8_2, n8_2, m8_2⟩ := lnm (show w1.heap.size < w8.heap.size by omega); obtain ⟨l8_3, n8_3, m8_3⟩ := lnm (show w1.heap.size + 1 < w8.heap.size by omega); clear b8) | (go_at_call 99; (with_reducible refine (HG.out _).mono ?_); rintro e w19 ⟨rfl, b19⟩; have s19 : w8.heap.size ≤ w19.heap.size := sz b19; have B19 := Lib.hid (Bc (B := w.heap.size) (a := w) (by (repeat (first | with_reducible exact Below.refl _ _ | with_reducible refine Bs ?_ | with_reducible refine Ba ?_ | with_reducible refine Bd ?_ | with_reducible refine Bn ?_ | with_reducible refine Bt B8.out ?_))) b19); obtain ⟨c19_0, f19_0, c19_1, f19_1, c19_2, f19_2⟩ := k3f (w.heap.size + 1) (.slice none 0 0) (.int .i64 0) (.int .i64 0) b19 (by and_intros <;> go_simp); obtain ⟨c19_3, f19_3, c19_4, f19_4, c19_5, f19_5, c19_6, f19_6, c19_7, f19_7⟩ := k5f (w.heap.size + 1 + 1) (.int .i64 0) (.int .i64 0) (.slice none 0 0) (.int .i64 0) (.int .i64 0) b19 (by and_intros <;> go_simp); obtain ⟨c19_8, f19_8, c19_9, f19_9, c19_10, f19_10⟩ := k3f (w1.heap.size) (.slice ad ln c) (.int .i64 a4) (.int .i64 e4) b19 (by and_intros <;> go_simp); obtain ⟨c19_11, f19_11, c19_12, f19_12, c19_13, f19_13, c19_14, f19_14, c19_15, f19_15⟩ := k5f (w1.heap.size + 1) (.int .i64 K) (.int .i64 0) (.slice none 0 0) (.int .i64 q4) (.int .i64 0) b19 (by and_intros <;> go_simp); obtain ⟨l19_0, n19_0, m19_0⟩ := lnm (show w.heap.size + 1 < w19.heap.size by omega); obtain ⟨l19_1, n19_1, m19_1⟩ := lnm (show w.heap.size + 1 + 1 < w19.heap.size by omega); obtain ⟨l19_2, n19_2, m19_2⟩ := lnm (show w1.heap.size < w19.heap.size by omega); obtain ⟨l19_3, n19_3, m19_3⟩ := lnm (show w1.heap.size + 1 < w19.heap.size by omega); clear b19))
    all_goals
      go_wp2_with fail
      exact bodyPost_ret (v := .tuple #[.agg #[.slice ad ln c, .int .i64 a4, .int .i64 E], .agg #[.int .i64 0, .int .i64 0, .slice none 0 0, .int .i64 0, .int .i64 0]]) (by simp [results, Try.results40, go_sem, *]) rfl ⟨_, rfl, ints_nil _ _ _ _ (by omega), by (repeat (first | with_reducible exact Below.refl _ _ | with_reducible refine Bs ?_ | with_reducible refine Ba ?_ | with_reducible refine Bd ?_ | with_reducible refine Bn ?_ | with_reducible refine Bt B19.out ?_))⟩

end Go.Proofs.Ytjmjnkilgoelbaa
