/-
  Walks of copselaw06: what must come of every program, and the statements on draws.
-/
import Derived.Test.YtfbodloidogliaaDrawD
import Derived.Test.YtfbodloidogliaaLaws01
namespace Go.Proofs.Ytfbodloidogliaa
open Go.RowKit

set_option maxRecDepth 100000 in
theorem liveL : AllU [18446744073709551615, 7] := by
  intro x hx
  simp at hx
  rcases hx with rfl | rfl <;> constructor <;> decide

set_option maxRecDepth 100000 in
set_option maxHeartbeats 1000000 in
theorem lives06_any (w : World) : Calls Try.prog 26 #[] w fun e w' => e = .returned (.bool true) ∧ Below w.heap.size w w' := by
  have h1 : ∀ (v : Value) (W : World), Ints .u64 W v [18446744073709551615, 7] → Calls Try.prog 31 #[v, .int .i64 0, .int .u64 3, .int .i64 2] W fun e w' => e = .returned (.tuple #[.int .u64 1, .int .i64 2, .int .i64 0]) ∧ Below W.heap.size W w' := fun v W hv => by
    have := boundB_any v _ 0 3 2 W hv liveL (by decide) (by decide)
    rw [show boundB [18446744073709551615, 7] 0 3 2 = (1, 2, 0) by decide +kernel] at this
    exact this
  have h2 : ∀ (v : Value) (W : World), Ints .u64 W v [18446744073709551615, 7] → Calls Try.prog 31 #[v, .int .i64 0, .int .u64 3, .int .i64 1] W fun e w' => e = .returned (.tuple #[.int .u64 0, .int .i64 0, .int .i64 61]) ∧ Below W.heap.size W w' := fun v W hv => by
    have := boundB_any v _ 0 3 1 W hv liveL (by decide) (by decide)
    rw [show boundB [18446744073709551615, 7] 0 3 1 = (0, 0, 61) by decide +kernel] at this
    exact this
  have h3 : ∀ (v : Value) (W : World), Ints .u64 W v [18446744073709551615, 7] → Calls Try.prog 31 #[v, .int .i64 2, .int .u64 3, .int .i64 1] W fun e w' => e = .returned (.tuple #[.int .u64 0, .int .i64 0, .int .i64 60]) ∧ Below W.heap.size W w' := fun v W hv => by
    have := boundB_any v _ 2 3 1 W hv liveL (by decide) (by decide)
    rw [show boundB [18446744073709551615, 7] 2 3 1 = (0, 0, 60) by decide +kernel] at this
    exact this
  have h4 : ∀ (v : Value) (W : World), Ints .u64 W v [18446744073709551615, 7] → Calls Try.prog 33 #[v, .int .i64 1, .int .i64 (-2), .int .i64 0, .int .i64 1] W fun e w' => ∃ z, e = .returned (.tuple #[.int .i64 (-1), .int .i64 z, .int .i64 0]) ∧ Below W.heap.size W w' := fun v W hv => by
    have := range_any v _ 1 (-2) 0 1 W hv liveL (by decide) (by decide) (by decide)
    rw [show rangeB [18446744073709551615, 7] 1 (-2) 0 1 = (-1, 2, 0) by decide +kernel] at this
    exact this.mono fun e w' h => ⟨_, h⟩
  have h5 : ∀ (v : Value) (W : World), Ints .u64 W v [18446744073709551615, 7] → Calls Try.prog 35 #[v, .int .i64 1, .int .i64 2, .int .i64 3, .int .i64 1] W fun e w' => ∃ z, e = .returned (.tuple #[.bool true, .int .i64 z, .int .i64 0]) ∧ Below W.heap.size W w' := fun v W hv => by
    have := coin_any v _ 1 2 3 1 W hv liveL (by decide) (by decide) (by decide)
    rw [show coinB [18446744073709551615, 7] 1 2 3 1 = (true, 2, 0) by decide +kernel] at this
    exact this.mono fun e w' h => ⟨_, h⟩
  have h6 : ∀ (v : Value) (W : World), Ints .u64 W v [18446744073709551615, 7] → Calls Try.prog 27 #[v, .int .i64 1] W fun e w' => e = .returned (.tuple #[.int .u64 7, .int .i64 2, .int .i64 0]) ∧ W = w' := fun v W hv =>
    next_any v _ 1 W hv
  have h7 : ∀ W : World, Calls Try.prog 37 #[.int .u64 3] W fun e w' => e = .returned (.int .u64 18446744073709551614) ∧ ∃ d, w' = W.drewN d := fun W =>
    top_any 3 W (by decide)
  have h8 : ∀ W : World, Calls Try.prog 39 #[.int .u64 3] W fun e w' => e = .returned (.int .u64 6148914691236517205) ∧ ∃ d, w' = W.drewN d := fun W =>
    share_any 3 W (by decide)
  have h9 : ∀ (v : Value) (W : World), Ints .u64 W v [18446744073709551615, 7] → Calls Try.prog 28 #[v, .int .i64 1] W fun e w' => e = .returned (.int .i64 1) ∧ W = w' := fun v W hv =>
    left_any v _ 1 W hv (by decide)
  have h10 : ∀ (v : Value) (W : World), Ints .u64 W v [18446744073709551615, 7] → Calls Try.prog 29 #[v, .int .i64 1, .int .i64 2] W fun e w' => ∃ v', e = .returned v' ∧ Ints .u64 w' v' [7] ∧ Below W.heap.size W w' := fun v W hv =>
    used_any v _ 1 2 W hv (by decide)
  have h11 : ∀ (v v' : Value) (W : World), Ints .u64 W v [7] → Ints .u64 W v' [7] → Calls Try.prog 30 #[v, v'] W fun e w' => e = .returned (.bool true) ∧ ∃ d, w' = W.drewN d := fun v v' W hv hv' =>
    same06_any v v' _ _ W hv hv'
  have H1 := Lib.hid h1; have H2 := Lib.hid h2; have H3 := Lib.hid h3; have H4 := Lib.hid h4
  have H5 := Lib.hid h5; have H6 := Lib.hid h6; have H7 := Lib.hid h7; have H8 := Lib.hid h8
  have H9 := Lib.hid h9; have H10 := Lib.hid h10; have H11 := Lib.hid h11
  clear h1 h2 h3 h4 h5 h6 h7 h8 h9 h10 h11
  go_enter Try.func26, Try.ntmps26
  go_wp2_with fail
  have hv := Ints.new .u64 w 39 #[.int .u64 18446744073709551615, .int .u64 7] [18446744073709551615, 7] 2 2 (by rfl) (by rfl) (by omega) (by omega)
  have hb0 : Below w.heap.size w (w.alloc (.cells #[.int .u64 18446744073709551615, .int .u64 7] 39)) := (Below.refl _ _).alloc (Nat.le_refl _) _
  generalize (w.alloc (.cells #[.int .u64 18446744073709551615, .int .u64 7] 39)) = w0 at hv hb0 ⊢
  generalize (Value.slice (some ⟨w.heap.size, 0, none⟩) 2 2) = v at hv ⊢
  have V0 := Lib.hid hv
  have B0 := Lib.hid hb0
  clear hv hb0
  refine (H1.out v w0 V0.out).mono ?_
  rintro e w1 ⟨rfl, b1⟩
  have V1 := Lib.hid (V0.out.below b1)
  have B1 := Lib.hid (B0.out.trans (b1.mono B0.out.size))
  clear b1
  go_wp2_with fail
  refine (H2.out v w1 V1.out).mono ?_
  rintro e w2 ⟨rfl, b1⟩
  have V2 := Lib.hid (V1.out.below b1)
  have B2 := Lib.hid (B1.out.trans (b1.mono B1.out.size))
  clear b1
  go_wp2_with fail
  refine (H3.out v w2 V2.out).mono ?_
  rintro e w3 ⟨rfl, b1⟩
  have V3 := Lib.hid (V2.out.below b1)
  have B3 := Lib.hid (B2.out.trans (b1.mono B2.out.size))
  clear b1
  go_wp2_with fail
  refine (H4.out v w3 V3.out).mono ?_
  rintro e w4 ⟨z4, rfl, b1⟩
  have V4 := Lib.hid (V3.out.below b1)
  have B4 := Lib.hid (B3.out.trans (b1.mono B3.out.size))
  clear b1
  go_wp2_with fail
  refine (H5.out v w4 V4.out).mono ?_
  rintro e w5 ⟨z5, rfl, b1⟩
  have V5 := Lib.hid (V4.out.below b1)
  have B5 := Lib.hid (B4.out.trans (b1.mono B4.out.size))
  clear b1
  go_wp2_with fail
  refine (H6.out v w5 V5.out).mono ?_
  rintro e w6 ⟨rfl, rfl⟩
  go_wp2_with fail
  refine (H7.out w5).mono ?_
  rintro e w6 ⟨rfl, d7, rfl⟩
  go_wp2_with fail
  refine (H8.out _).mono ?_
  rintro e w6 ⟨rfl, d8, rfl⟩
  go_wp2_with fail
  refine (H9.out v _ (V5.out.drewN _)).mono ?_
  rintro e w6 ⟨rfl, rfl⟩
  go_wp2_with fail
  refine (H10.out v _ (V5.out.drewN _)).mono ?_
  rintro e w6 ⟨v6, rfl, i6, b1⟩
  have V6 := Lib.hid i6
  have B6 := Lib.hid ((below_drewN B5.out _).trans (b1.mono (below_drewN B5.out _).size))
  clear b1 i6
  go_wp2_with fail
  refine (H11.out v6 _ _ (V6.out.below ((Below.refl _ _).alloc (Nat.le_refl _) _)) (Ints.new .u64 w6 _ #[.int .u64 7] [7] 1 1 (by rfl) (by rfl) (by omega) (by omega))).mono ?_
  rintro e w7 ⟨rfl, d9, rfl⟩
  go_wp2
  go_ret
  exact ⟨rfl, below_drewN (B6.out.alloc B6.out.size _) _⟩
end Go.Proofs.Ytfbodloidogliaa
