/-
  Walk of DrawTells.
-/
import Derived.Test.YtfbodloidogliaaLaws06b
namespace Go.Proofs.Ytfbodloidogliaa
open Go.RowKit

theorem rangeB_in {l : List Int} {a lo hi t : Int} (hu : AllU l) (hlo : Ok64 lo) (hhi : Ok64 hi) (h : (rangeB l a lo hi t).2.2 = 0) : lo ≤ (rangeB l a lo hi t).1 ∧ (rangeB l a lo hi t).1 ≤ hi := by
  unfold Ok64 at hlo hhi
  unfold rangeB at h ⊢
  by_cases h1 : hi < lo ∨ a < 0 ∨ t < 1 ∨ 64 < t
  · rw [if_pos h1] at h; simp at h
  · rw [if_neg h1] at h ⊢
    by_cases h2 : hi - lo = 18446744073709551615
    · rw [if_pos h2] at h ⊢
      by_cases h3 : (l.length : Int) ≤ a
      · rw [if_pos h3] at h; simp at h
      · rw [if_neg h3]
        simp only
        have : -9223372036854775808 ≤ wrap64 (l.getD a.toNat 0) ∧ wrap64 (l.getD a.toNat 0) ≤ 9223372036854775807 := by
          unfold wrap64; omega
        omega
    · rw [if_neg h2] at h ⊢
      by_cases h3 : (boundL l (hi - lo + 1).toNat t.toNat a.toNat).2.2 = 0
      · rw [if_neg (by simpa using h3)]
        simp only
        obtain ⟨b, x, _, _, _, _, e, _⟩ := boundL_ok l hu (hi - lo + 1).toNat t.toNat a.toNat h3
        have := Nat.mod_lt x (show 0 < (hi - lo + 1).toNat by omega)
        omega
      · rw [if_pos (by simpa using h3)] at h
        exact absurd h h3

set_option maxRecDepth 100000 in
set_option maxHeartbeats 2000000 in
theorem drawTells_walk {w : World} (v : Value) (l : List Int) (h : ArgInts .u64 w v l) (a : Int) (ha : (Lit.int .i64 a).wf = true) (n0 : Int) (hn : (Lit.int .u64 n0).wf = true) (lo : Int) (hlo : (Lit.int .i64 lo).wf = true) (hi : Int) (hhi : (Lit.int .i64 hi).wf = true) (t : Int) (_ht : (Lit.int .i64 t).wf = true) :
    Calls Try.prog 8 #[v, .int .i64 a, .int .u64 n0, .int .i64 lo, .int .i64 hi, .int .i64 t] w fun e w' => e = .returned (.bool true) ∧ Below w.heap.size w w' := by
  have ha := wf_ok ha
  have hlo := wf_ok hlo
  have hhi := wf_ok hhi
  have hn := bounds_u64 hn
  obtain ⟨n, rfl⟩ := Int.eq_ofNat_of_zero_le hn.1
  have hn := hn.2
  clear _ht
  by_cases hl : (200 : Int) < l.length
  · obtain ⟨ad, c, rfl, _⟩ := h
    clear hn ha hlo hhi
    go_enter Try.func8, Try.ntmps8
    go_wp2_with fail
    refine (lives06_any w).mono ?_
    rintro e w1 ⟨rfl, b1⟩
    have B1 := Lib.hid b1
    clear b1
    go_wp2
    go_ret
    exact ⟨rfl, B1.out⟩
  · have i0 := h.ints (by omega)
    have hu := argsU h
    clear h
    have h1 : ∀ W : World, Ints .u64 W v l → _ := fun W hW => boundB_any v l a n t W hW hu hn ha
    have h2 : ∀ W : World, Ints .u64 W v l → _ := fun W hW => rboundB_any v l a n t W hW hu hn ha
    have h3 : ∀ W : World, Ints .u64 W v l → _ := fun W hW => range_any v l a lo hi t W hW hu ha hlo hhi
    have h4 : ∀ W : World, Ints .u64 W v l → _ := fun W hW => rrange_any v l a lo hi t W hW hu ha hlo hhi
    have h5 : ∀ W : World, Ints .u64 W v l → _ := fun W hW => coin_any v l a lo hi t W hW hu ha hlo hhi
    have h6 : ∀ W : World, Ints .u64 W v l → _ := fun W hW => rcoin_any v l a lo hi t W hW hu ha hlo hhi
    have hin : (rangeB l a lo hi t).2.2 = 0 → lo ≤ (rangeB l a lo hi t).1 ∧ (rangeB l a lo hi t).1 ≤ hi := rangeB_in hu hlo hhi
    generalize boundB l a n t = X at h1 h2
    generalize rangeB l a lo hi t = Y at h3 h4 hin
    generalize coinB l a lo hi t = Z at h5 h6
    obtain ⟨x1, x2, x3⟩ := X
    obtain ⟨y1, y2, y3⟩ := Y
    obtain ⟨z1, z2, z3⟩ := Z
    dsimp only at h1 h2 h3 h4 h5 h6 hin
    have H1 := Lib.hid h1; have H2 := Lib.hid h2; have H3 := Lib.hid h3
    have H4 := Lib.hid h4; have H5 := Lib.hid h5; have H6 := Lib.hid h6
    clear h1 h2 h3 h4 h5 h6
    have hfin : y3 ≠ 0 ∨ (y3 = 0 ∧ ¬ y1 < lo ∧ ¬ hi < y1) := by
      by_cases h0 : y3 = 0
      · have := hin h0; right; omega
      · left; exact h0
    clear hin hu hn ha hlo hhi
    obtain ⟨ad, c, rfl⟩ := i0.shape
    have I0 := Lib.hid i0; clear i0
    rcases hfin with q | ⟨rfl, q1, q2⟩
    · have q' : (y3 == 0) = false := by simpa using q
      clear q
      go_enter Try.func8, Try.ntmps8
      go_wp2_with fail
      refine (H1.out w I0.out).mono ?_
      rintro e w1 ⟨rfl, b1⟩
      have B1 := Lib.hid b1
      have I1 := Lib.hid (I0.out.below b1)
      clear b1
      go_wp2_with fail
      refine (H2.out w1 I1.out).mono ?_
      rintro e w2 ⟨rfl, d2, rfl⟩
      go_wp2_with fail
      refine (H3.out _ (I1.out.drewN d2)).mono ?_
      rintro e w2 ⟨rfl, b2⟩
      have I2 := Lib.hid ((I1.out.drewN d2).below b2)
      have B2 := Lib.hid ((below_drewN B1.out d2).trans (b2.mono (below_drewN B1.out d2).size))
      clear b2
      go_wp2_with fail
      refine (H4.out w2 I2.out).mono ?_
      rintro e w3 ⟨rfl, d3, rfl⟩
      go_wp2_with fail
      refine (H5.out _ (I2.out.drewN d3)).mono ?_
      rintro e w3 ⟨rfl, b3⟩
      have I3 := Lib.hid ((I2.out.drewN d3).below b3)
      have B3 := Lib.hid ((below_drewN B2.out d3).trans (b3.mono (below_drewN B2.out d3).size))
      clear b3
      go_wp2_with fail
      refine (H6.out w3 I3.out).mono ?_
      rintro e w4 ⟨rfl, d4, rfl⟩
      go_wp2_with fail
      refine (lives06_any _).mono ?_
      rintro e w5 ⟨rfl, b5⟩
      have B5 := Lib.hid b5
      clear b5
      go_wp2
      go_ret
      exact ⟨rfl, (below_drewN B3.out d4).trans (B5.out.mono (below_drewN B3.out d4).size)⟩
    · go_enter Try.func8, Try.ntmps8
      go_wp2_with fail
      refine (H1.out w I0.out).mono ?_
      rintro e w1 ⟨rfl, b1⟩
      have B1 := Lib.hid b1
      have I1 := Lib.hid (I0.out.below b1)
      clear b1
      go_wp2_with fail
      refine (H2.out w1 I1.out).mono ?_
      rintro e w2 ⟨rfl, d2, rfl⟩
      go_wp2_with fail
      refine (H3.out _ (I1.out.drewN d2)).mono ?_
      rintro e w2 ⟨rfl, b2⟩
      have I2 := Lib.hid ((I1.out.drewN d2).below b2)
      have B2 := Lib.hid ((below_drewN B1.out d2).trans (b2.mono (below_drewN B1.out d2).size))
      clear b2
      go_wp2_with fail
      refine (H4.out w2 I2.out).mono ?_
      rintro e w3 ⟨rfl, d3, rfl⟩
      go_wp2_with fail
      refine (H5.out _ (I2.out.drewN d3)).mono ?_
      rintro e w3 ⟨rfl, b3⟩
      have I3 := Lib.hid ((I2.out.drewN d3).below b3)
      have B3 := Lib.hid ((below_drewN B2.out d3).trans (b3.mono (below_drewN B2.out d3).size))
      clear b3
      go_wp2_with fail
      refine (H6.out w3 I3.out).mono ?_
      rintro e w4 ⟨rfl, d4, rfl⟩
      go_wp2_with fail
      refine (lives06_any _).mono ?_
      rintro e w5 ⟨rfl, b5⟩
      have B5 := Lib.hid b5
      clear b5
      go_wp2
      go_ret
      exact ⟨rfl, (below_drewN B3.out d4).trans (B5.out.mono (below_drewN B3.out d4).size)⟩
end Go.Proofs.Ytfbodloidogliaa
