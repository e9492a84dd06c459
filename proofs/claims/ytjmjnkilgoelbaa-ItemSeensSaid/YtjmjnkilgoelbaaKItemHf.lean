/-
  ItemHf: Walk of the reference's GetAsk: one class of kinds.
-/
import Derived.Test.YtjmjnkilgoelbaaJ2a
namespace Go.Proofs.Ytjmjnkilgoelbaa
open Go.RowKit

set_option maxRecDepth 100000 in
set_option maxHeartbeats 16000000 in
theorem rgetAsk_f (vr : Value) (l : List Int) (a : Nat) (e0 : Int) (w : World) (h : Ints .u8 w vr l) (hb : AllB l) (ha : a ≤ l.length) (hl : l.length ≤ 100000) (K a1 : Nat) (e1 : Int) (h1 : rdN' l a e0 1099511627776 = (K, a1, e1)) (hk : ¬ (1 ≤ K ∧ K ≤ 7))
    
    (hN : ∀ W, Calls Try.prog 102 #[.int .i64 (K : Int)] W fun e w' => e = .returned (.tuple #[.bool false, .bool false, .bool false, .bool false]) ∧ W = w') :
    Calls Try.prog 40 #[.agg #[vr, .int .i64 a, .int .i64 e0]] w fun e w' => RefA w vr (getAsk l a e0) e w' := by
  have I0 := Lib.hid h
  have HN := Lib.hid hN
  have H1 := Lib.hid (fun v W hW => rdN_ref hb ha hl 1099511627776 (by decide) _ _ _ h1 v W hW)
  have l1 := rdN'_le hb ha e0 1099511627776
  rw [h1] at l1
  obtain ⟨ad, c, rfl⟩ := h.shape
  rw [getAsk_no h1 hk]
  obtain ⟨B, hB⟩ : ∃ B, askB K 0 0 0 ([] : List Int) = B := ⟨_, rfl⟩
  have hB2 : B = false := by
    cases B with
    | false => rfl
    | true => exact absurd (askB_iff hB).1 (by omega)
  obtain ⟨ef, hef⟩ : ∃ ef, finE e1 false = ef := ⟨_, rfl⟩
  have hEE : finE ef B = ef := by rw [hB2, ← hef, finE_twice]
  have hne : ¬ ef = 0 := by rw [← hef]; intro h; exact absurd (finE_zero h).2 (by decide)
  rw [hef]
  obtain ⟨E, hE⟩ : ∃ E, finE ef B = E := ⟨_, rfl⟩
  have hEf : E = ef := by rw [← hE, hEE]
  have HEf := Lib.hid hEf
  have HF := Lib.hid (fun W => rform_any ad l.length c (a1 : Int) e1 false W)
  rw [hef] at HF
  rw [← hEf]
  rw [← hEf] at hne
  clear hEE hEf hB2 hef
  have HR := Lib.hid (fun (xa : Option Addr) (xn xc : Nat) W (hX : Ints .i64 W (.slice xa xn xc) ([] : List Int)) => rrightAsk_any K 0 0 0 _ ([] : List Int) W hX)
  rw [hB] at HR
  have HG := Lib.hid (fun W => rform_any ad l.length c (a1 : Int) ef B W)
  rw [hE] at HG
  clear h hN h1 hb ha hl l1 hE hB 
  generalize l.length = ln at *
  have k0 : K = 0 ∨ 8 ≤ K := by omega
  clear hk
  rcases k0 with rfl | k0
  · simp only [Int.natCast_zero] at H1 HN HR
    go_enter Try.func40, Try.ntmps40
    go_wp2_with fail
    (with_reducible refine (H1.out _ _ (I0.out.below (by (repeat (first | with_reducible exact Below.refl _ _ | with_reducible refine Bs ?_ | with_reducible refine Ba ?_ | with_reducible refine Bd ?_ | with_reducible refine Bn ?_))))).mono ?_); rintro e w1 ⟨rfl, b1⟩; have s1 : w.heap.size + 1 + 1 + 1 ≤ w1.heap.size := sz b1; have B1 := Lib.hid (Bc (B := w.heap.size) (a := w) (by (repeat (first | with_reducible exact Below.refl _ _ | with_reducible refine Bs ?_ | with_reducible refine Ba ?_ | with_reducible refine Bd ?_ | with_reducible refine Bn ?_))) b1); obtain ⟨c1_0, f1_0, c1_1, f1_1, c1_2, f1_2⟩ := k3f (w.heap.size + 1) (.slice none 0 0) (.int .i64 0) (.int .i64 0) b1 (by and_intros <;> go_simp); obtain ⟨c1_3, f1_3, c1_4, f1_4, c1_5, f1_5, c1_6, f1_6, c1_7, f1_7⟩ := k5f (w.heap.size + 1 + 1) (.int .i64 0) (.int .i64 0) (.slice none 0 0) (.int .i64 0) (.int .i64 0) b1 (by and_intros <;> go_simp); obtain ⟨l1_0, n1_0, m1_0⟩ := lnm (show w.heap.size + 1 < w1.heap.size by omega); obtain ⟨l1_1, n1_1, m1_1⟩ := lnm (show w.heap.size + 1 + 1 < w1.heap.size by omega); clear b1
    have nn2 : w.heap.size < w1.heap.size := by omega
    have nn0 : w.heap.size ≠ w1.heap.size := by omega
    have nn1 : w1.heap.size ≠ w.heap.size := by omega
    go_wp2_with fail
    (with_reducible refine (HF.out _).mono ?_); rintro e w2 ⟨rfl, b2⟩; have s2 : w1.heap.size + 1 + 1 ≤ w2.heap.size := sz b2; have B2 := Lib.hid (Bc (B := w.heap.size) (a := w) (by (repeat (first | with_reducible exact Below.refl _ _ | with_reducible refine Bs ?_ | with_reducible refine Ba ?_ | with_reducible refine Bd ?_ | with_reducible refine Bn ?_ | with_reducible refine Bt B1.out ?_))) b2); obtain ⟨c2_0, f2_0, c2_1, f2_1, c2_2, f2_2⟩ := k3f (w.heap.size + 1) (.slice none 0 0) (.int .i64 0) (.int .i64 0) b2 (by and_intros <;> go_simp); obtain ⟨c2_3, f2_3, c2_4, f2_4, c2_5, f2_5, c2_6, f2_6, c2_7, f2_7⟩ := k5f (w.heap.size + 1 + 1) (.int .i64 0) (.int .i64 0) (.slice none 0 0) (.int .i64 0) (.int .i64 0) b2 (by and_intros <;> go_simp); obtain ⟨c2_8, f2_8, c2_9, f2_9, c2_10, f2_10⟩ := k3f (w1.heap.size) (.slice ad ln c) (.int .i64 a1) (.int .i64 e1) b2 (by and_intros <;> go_simp); obtain ⟨c2_11, f2_11, c2_12, f2_12, c2_13, f2_13, c2_14, f2_14, c2_15, f2_15⟩ := k5f (w1.heap.size + 1) (.int .i64 0) (.int .i64 0) (.slice none 0 0) (.int .i64 0) (.int .i64 0) b2 (by and_intros <;> go_simp); obtain ⟨l2_0, n2_0, m2_0⟩ := lnm (show w.heap.size + 1 < w2.heap.size by omega); obtain ⟨l2_1, n2_1, m2_1⟩ := lnm (show w.heap.size + 1 + 1 < w2.heap.size by omega); obtain ⟨l2_2, n2_2, m2_2⟩ := lnm (show w1.heap.size < w2.heap.size by omega); obtain ⟨l2_3, n2_3, m2_3⟩ := lnm (show w1.heap.size + 1 < w2.heap.size by omega); clear b2
    go_wp2_with fail
    (with_reducible refine (HN.out _).mono ?_)
    rintro e w9 ⟨rfl, rfl⟩
    go_wp2_with fail
    go_region_with (first | (go_at_call 38; (with_reducible refine (HR.out none 0 0 _ (ints_nil _ _ _ _ (by omega))).mono ?_); rintro e w8 ⟨rfl, b8⟩; have s8 : w2.heap.size ≤ w8.heap.size := sz b8; have B8 := Lib.hid (Bc (B := w.heap.size) (a := w) (by (repeat (first | with_reducible exact Below.refl _ _ | with_reducible refine Bs ?_ | with_reducible refine Ba ?_ | with_reducible refine Bd ?_ | with_reducible refine Bn ?_ | with_reducible refine Bt B2.out ?_))) b8); obtain ⟨c8_0, f8_0, c8_1, f8_1, c8_2, f8_2⟩ := k3f (w.heap.size + 1) (.slice none 0 0) (.int .i64 0) (.int .i64 0) b8 (by and_intros <;> go_simp); obtain ⟨c8_3, f8_3, c8_4, f8_4, c8_5, f8_5, c8_6, f8_6, c8_7, f8_7⟩ := k5f (w.heap.size + 1 + 1) (.int .i64 0) (.int .i64 0) (.slice none 0 0) (.int .i64 0) (.int .i64 0) b8 (by and_intros <;> go_simp); obtain ⟨c8_8, f8_8, c8_9, f8_9, c8_10, f8_10⟩ := k3f (w1.heap.size) (.slice ad ln c) (.int .i64 a1) (.int .i64 ef) b8 (by and_intros <;> go_simp); obtain ⟨c8_11, f8_11, c8_12, f8_12, c8_13, f8_13, c8_14, f8_14, c8_15, f8_15⟩ := k5f (w1.heap.size + 1) (.int .i64 0) (.int .i64 0) (.slice none 0 0) (.int .i64 0) (.int .i64 0) b8 (by and_intros <;> go_simp); obtain ⟨l8_0, n8_0, m8_0⟩ := lnm (show w.heap.size + 1 < w8.heap.size by omega); obtain ⟨l8_1, n8_1, m8_1⟩ := lnm (show w.heap.size + 1 + 1 < w8.heap.size by omega); obtain ⟨l8_2, n8_2, m8_2⟩ := lnm (show w1.heap.size < w8.heap.size by omega); obtain ⟨l8_3, n8_3, m8_3⟩ := lnm (show w1.heap.size + 1 < w8.heap.size by omega); clear b8) | (go_at_call 99; (with_reducible refine (HG.out _).mono ?_); rintro e w19 ⟨rfl, b19⟩; have s19 : w8.heap.size ≤ w19.heap.size := sz b19; have B19 := Lib.hid (Bc (B := w.heap.size) (a := w) (by (repeat (first | with_reducible exact Below.refl _ _ | with_reducible refine Bs ?_ | with_reducible refine Ba ?_ | with_reducible refine Bd ?_ | with_reducible refine Bn ?_ | with_reducible refine Bt B8.out ?_))) b19); obtain ⟨c19_0, f19_0, c19_1, f19_1, c19_2, f19_2⟩ := k3f (w.heap.size + 1) (.slice none 0 0) (.int .i64 0) (.int .i64 0) b19 (by and_intros <;> go_simp); obtain ⟨c19_3, f19_3, c19_4, f19_4, c19_5, f19_5, c19_6, f19_6, c19_7, f19_7⟩ := k5f (w.heap.size + 1 + 1) (.int .i64 0) (.int .i64 0) (.slice none 0 0) (.int .i64 0) (.int .i64 0) b19 (by and_intros <;> go_simp); obtain ⟨c19_8, f19_8, c19_9, f19_9, c19_10, f19_10⟩ := k3f (w1.heap.size) (.slice ad ln c) (.int .i64 a1) (.int .i64 ef) b19 (by and_intros <;> go_simp); obtain ⟨c19_11, f19_11, c19_12, f19_12, c19_13, f19_13, c19_14, f19_14, c19_15, f19_15⟩ := k5f (w1.heap.size + 1) (.int .i64 0) (.int .i64 0) (.slice none 0 0) (.int .i64 0) (.int .i64 0) b19 (by and_intros <;> go_simp); obtain ⟨l19_0, n19_0, m19_0⟩ := lnm (show w.heap.size + 1 < w19.heap.size by omega); obtain ⟨l19_1, n19_1, m19_1⟩ := lnm (show w.heap.size + 1 + 1 < w19.heap.size by omega); obtain ⟨l19_2, n19_2, m19_2⟩ := lnm (show w1.heap.size < w19.heap.size by omega); obtain ⟨l19_3, n19_3, m19_3⟩ := lnm (show w1.heap.size + 1 < w19.heap.size by omega); clear b19))
    all_goals
      go_wp2_with fail
      exact bodyPost_ret (v := .tuple #[.agg #[.slice ad ln c, .int .i64 a1, .int .i64 E], .agg #[.int .i64 0, .int .i64 0, .slice none 0 0, .int .i64 0, .int .i64 0]]) (by simp [results, Try.results40, go_sem, *]) rfl ⟨_, rfl, ints_nil _ _ _ _ (by omega), by (repeat (first | with_reducible exact Below.refl _ _ | with_reducible refine Bs ?_ | with_reducible refine Ba ?_ | with_reducible refine Bd ?_ | with_reducible refine Bn ?_ | with_reducible refine Bt B19.out ?_))⟩
  · have k1 : decide ((K : Int) ≤ 7) = false := decide_eq_false (by omega)
    have k2 : (1 : Int) ≤ (K : Int) := by omega
    clear k0
    go_enter Try.func40, Try.ntmps40
    go_wp2_with fail
    (with_reducible refine (H1.out _ _ (I0.out.below (by (repeat (first | with_reducible exact Below.refl _ _ | with_reducible refine Bs ?_ | with_reducible refine Ba ?_ | with_reducible refine Bd ?_ | with_reducible refine Bn ?_))))).mono ?_); rintro e w1 ⟨rfl, b1⟩; have s1 : w.heap.size + 1 + 1 + 1 ≤ w1.heap.size := sz b1; have B1 := Lib.hid (Bc (B := w.heap.size) (a := w) (by (repeat (first | with_reducible exact Below.refl _ _ | with_reducible refine Bs ?_ | with_reducible refine Ba ?_ | with_reducible refine Bd ?_ | with_reducible refine Bn ?_))) b1); obtain ⟨c1_0, f1_0, c1_1, f1_1, c1_2, f1_2⟩ := k3f (w.heap.size + 1) (.slice none 0 0) (.int .i64 0) (.int .i64 0) b1 (by and_intros <;> go_simp); obtain ⟨c1_3, f1_3, c1_4, f1_4, c1_5, f1_5, c1_6, f1_6, c1_7, f1_7⟩ := k5f (w.heap.size + 1 + 1) (.int .i64 0) (.int .i64 0) (.slice none 0 0) (.int .i64 0) (.int .i64 0) b1 (by and_intros <;> go_simp); obtain ⟨l1_0, n1_0, m1_0⟩ := lnm (show w.heap.size + 1 < w1.heap.size by omega); obtain ⟨l1_1, n1_1, m1_1⟩ := lnm (show w.heap.size + 1 + 1 < w1.heap.size by omega); clear b1
    have nn2 : w.heap.size < w1.heap.size := by omega
    have nn0 : w.heap.size ≠ w1.heap.size := by omega
    have nn1 : w1.heap.size ≠ w.heap.size := by omega
    go_wp2_with fail
    (with_reducible refine (HF.out _).mono ?_); rintro e w2 ⟨rfl, b2⟩; have s2 : w1.heap.size + 1 + 1 ≤ w2.heap.size := sz b2; have B2 := Lib.hid (Bc (B := w.heap.size) (a := w) (by (repeat (first | with_reducible exact Below.refl _ _ | with_reducible refine Bs ?_ | with_reducible refine Ba ?_ | with_reducible refine Bd ?_ | with_reducible refine Bn ?_ | with_reducible refine Bt B1.out ?_))) b2); obtain ⟨c2_0, f2_0, c2_1, f2_1, c2_2, f2_2⟩ := k3f (w.heap.size + 1) (.slice none 0 0) (.int .i64 0) (.int .i64 0) b2 (by and_intros <;> go_simp); obtain ⟨c2_3, f2_3, c2_4, f2_4, c2_5, f2_5, c2_6, f2_6, c2_7, f2_7⟩ := k5f (w.heap.size + 1 + 1) (.int .i64 0) (.int .i64 0) (.slice none 0 0) (.int .i64 0) (.int .i64 0) b2 (by and_intros <;> go_simp); obtain ⟨c2_8, f2_8, c2_9, f2_9, c2_10, f2_10⟩ := k3f (w1.heap.size) (.slice ad ln c) (.int .i64 a1) (.int .i64 e1) b2 (by and_intros <;> go_simp); obtain ⟨c2_11, f2_11, c2_12, f2_12, c2_13, f2_13, c2_14, f2_14, c2_15, f2_15⟩ := k5f (w1.heap.size + 1) (.int .i64 K) (.int .i64 0) (.slice none 0 0) (.int .i64 0) (.int .i64 0) b2 (by and_intros <;> go_simp); obtain ⟨l2_0, n2_0, m2_0⟩ := lnm (show w.heap.size + 1 < w2.heap.size by omega); obtain ⟨l2_1, n2_1, m2_1⟩ := lnm (show w.heap.size + 1 + 1 < w2.heap.size by omega); obtain ⟨l2_2, n2_2, m2_2⟩ := lnm (show w1.heap.size < w2.heap.size by omega); obtain ⟨l2_3, n2_3, m2_3⟩ := lnm (show w1.heap.size + 1 < w2.heap.size by omega); clear b2
    go_wp2_with fail
    (with_reducible refine (HN.out _).mono ?_)
    rintro e w9 ⟨rfl, rfl⟩
    go_wp2_with fail
    go_region_with (first | (go_at_call 38; (with_reducible refine (HR.out none 0 0 _ (ints_nil _ _ _ _ (by omega))).mono ?_); rintro e w8 ⟨rfl, b8⟩; have s8 : w2.heap.size ≤ w8.heap.size := sz b8; have B8 := Lib.hid (Bc (B := w.heap.size) (a := w) (by (repeat (first | with_reducible exact Below.refl _ _ | with_reducible refine Bs ?_ | with_reducible refine Ba ?_ | with_reducible refine Bd ?_ | with_reducible refine Bn ?_ | with_reducible refine Bt B2.out ?_))) b8); obtain ⟨c8_0, f8_0, c8_1, f8_1, c8_2, f8_2⟩ := k3f (w.heap.size + 1) (.slice none 0 0) (.int .i64 0) (.int .i64 0) b8 (by and_intros <;> go_simp); obtain ⟨c8_3, f8_3, c8_4, f8_4, c8_5, f8_5, c8_6, f8_6, c8_7, f8_7⟩ := k5f (w.heap.size + 1 + 1) (.int .i64 0) (.int .i64 0) (.slice none 0 0) (.int .i64 0) (.int .i64 0) b8 (by and_intros <;> go_simp); obtain ⟨c8_8, f8_8, c8_9, f8_9, c8_10, f8_10⟩ := k3f (w1.heap.size) (.slice ad ln c) (.int .i64 a1) (.int .i64 ef) b8 (by and_intros <;> go_simp); obtain ⟨c8_11, f8_11, c8_12, f8_12, c8_13, f8_13, c8_14, f8_14, c8_15, f8_15⟩ := k5f (w1.heap.size + 1) (.int .i64 K) (.int .i64 0) (.slice none 0 0) (.int .i64 0) (.int .i64 0) b8 (by and_intros <;> go_simp); obtain ⟨l8_0, n8_0, m8_0⟩ := lnm (show w.heap.size + 1 < w8.heap.size by omega); obtain ⟨l8_1, n8_1, m8_1⟩ := lnm (show w.heap.size + 1 + 1 < w8.heap.size by omega); obtain ⟨l8_2, n8_2, m8_2⟩ := lnm (show w1.heap.size < w8.heap.size by omega); obtain ⟨l8_3, n8_3, m8_3⟩ := lnm (show w1.heap.size + 1 < w8.heap.size by omega); clear b8) | (go_at_call 99; (with_reducible refine (HG.out _).mono ?_); rintro e w19 ⟨rfl, b19⟩; have s19 : w8.heap.size ≤ w19.heap.size := sz b19; have B19 := Lib.hid (Bc (B := w.heap.size) (a := w) (by (repeat (first | with_reducible exact Below.refl _ _ | with_reducible refine Bs ?_ | with_reducible refine Ba ?_ | with_reducible refine Bd ?_ | with_reducible refine Bn ?_ | with_reducible refine Bt B8.out ?_))) b19); obtain ⟨c19_0, f19_0, c19_1, f19_1, c19_2, f19_2⟩ := k3f (w.heap.size + 1) (.slice none 0 0) (.int .i64 0) (.int .i64 0) b19 (by and_intros <;> go_simp); obtain ⟨c19_3, f19_3, c19_4, f19_4, c19_5, f19_5, c19_6, f19_6, c19_7, f19_7⟩ := k5f (w.heap.size + 1 + 1) (.int .i64 0) (.int .i64 0) (.slice none 0 0) (.int .i64 0) (.int .i64 0) b19 (by and_intros <;> go_simp); obtain ⟨c19_8, f19_8, c19_9, f19_9, c19_10, f19_10⟩ := k3f (w1.heap.size) (.slice ad ln c) (.int .i64 a1) (.int .i64 ef) b19 (by and_intros <;> go_simp); obtain ⟨c19_11, f19_11, c19_12, f19_12, c19_13, f19_13, c19_14, f19_14, c19_15, f19_15⟩ := k5f (w1.heap.size + 1) (.int .i64 K) (.int .i64 0) (.slice none 0 0) (.int .i64 0) (.int .i64 0) b19 (by and_intros <;> go_simp); obtain ⟨l19_0, n19_0, m19_0⟩ := lnm (show w.heap.size + 1 < w19.heap.size by omega); obtain ⟨l19_1, n19_1, m19_1⟩ := lnm (show w.heap.size + 1 + 1 < w19.heap.size by omega); obtain ⟨l19_2, n19_2, m19_2⟩ := lnm (show w1.heap.size < w19.heap.size by omega); obtain ⟨l19_3, n19_3, m19_3⟩ := lnm (show w1.heap.size + 1 < w19.heap.size by omega); clear b19))
    all_goals
      go_wp2_with fail
      exact bodyPost_ret (v := .tuple #[.agg #[.slice ad ln c, .int .i64 a1, .int .i64 E], .agg #[.int .i64 0, .int .i64 0, .slice none 0 0, .int .i64 0, .int .i64 0]]) (by simp [results, Try.results40, go_sem, *]) rfl ⟨_, rfl, ints_nil _ _ _ _ (by omega), by (repeat (first | with_reducible exact Below.refl _ _ | with_reducible refine Bs ?_ | with_reducible refine Ba ?_ | with_reducible refine Bd ?_ | with_reducible refine Bn ?_ | with_reducible refine Bt B19.out ?_))⟩

end Go.Proofs.Ytjmjnkilgoelbaa
