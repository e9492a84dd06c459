/-
  Walks of copselaw02: what must come of every program.
-/
import Derived.Test.YticpmcghdoiceaaWideJ
import Derived.Test.YticpmcghdoiceaaRefWideP
import Derived.Test.YticpmcghdoiceaaRefWideG
namespace Go.Proofs.Yticpmcghdoiceaa
open Go.RowKit

def live1 : List Int := [49, 56, 52, 52, 54, 55, 52, 52, 48, 55, 51, 55, 48, 57, 53, 53, 49, 54, 49, 54]
def live2 : List Int := [51, 52, 48, 50, 56, 50, 51, 54, 54, 57, 50, 48, 57, 51, 56, 52, 54, 51, 52, 54, 51, 51, 55, 52, 54, 48, 55, 52, 51, 49, 55, 54, 56, 50, 49, 49, 52, 53, 54]

set_option maxRecDepth 100000 in
set_option maxHeartbeats 2000000 in
theorem lives02_any (w : World) : Calls Try.prog 16 #[] w fun e w' => e = .returned (.bool true) ∧ Below w.heap.size w w' := by
  have h1 : ∀ W : World, Calls Try.prog 24 #[.string ⟨#[49, 56, 52, 52, 54, 55, 52, 52, 48, 55, 51, 55, 48, 57, 53, 53, 49, 54, 49, 54]⟩] W fun e w' => e = .returned (.tuple #[.agg #[.int .u64 1, .int .u64 0], .int .i64 0]) ∧ Below W.heap.size W w' := fun W => by
    have := wParse_any ⟨#[49, 56, 52, 52, 54, 55, 52, 52, 48, 55, 51, 55, 48, 57, 53, 53, 49, 54, 49, 54]⟩ live1 W (by decide +kernel) (by decide)
    rw [show parseL live1 = (18446744073709551616, 0) by decide +kernel] at this
    exact this
  have h2 : ∀ W : World, Calls Try.prog 24 #[.string ⟨#[51, 52, 48, 50, 56, 50, 51, 54, 54, 57, 50, 48, 57, 51, 56, 52, 54, 51, 52, 54, 51, 51, 55, 52, 54, 48, 55, 52, 51, 49, 55, 54, 56, 50, 49, 49, 52, 53, 54]⟩] W fun e w' => e = .returned (.tuple #[.agg #[.int .u64 0, .int .u64 0], .int .i64 10]) ∧ Below W.heap.size W w' := fun W => by
    have := wParse_any ⟨#[51, 52, 48, 50, 56, 50, 51, 54, 54, 57, 50, 48, 57, 51, 56, 52, 54, 51, 52, 54, 51, 51, 55, 52, 54, 48, 55, 52, 51, 49, 55, 54, 56, 50, 49, 49, 52, 53, 54]⟩ live2 W (by decide +kernel) (by decide)
    rw [show parseL live2 = (0, 10) by decide +kernel] at this
    exact this
  have h3 : ∀ W : World, Calls Try.prog 15 #[.agg #[.int .u64 5, .int .u64 0], .int .u64 2] W fun e w' => e = .returned (.tuple #[.agg #[.int .u64 2, .int .u64 9223372036854775808], .int .u64 0, .int .i64 0]) ∧ Below W.heap.size W w' := fun W =>
    wDiv_any 92233720368547758080 2 W (by decide) (by decide) (by decide)
  have h4 : ∀ W : World, Calls Try.prog 36 #[.int .u64 9223372036854775808, .int .u64 6] W fun e w' => e = .returned (.agg #[.int .u64 3, .int .u64 0]) ∧ Below W.heap.size W w' := fun W =>
    wMul_any 9223372036854775808 6 W (by decide) (by decide)
  have h5 : ∀ W : World, Calls Try.prog 22 #[.agg #[.int .u64 1, .int .u64 0]] W fun e w' => e = .returned (.int .u64 4294967296) ∧ Below W.heap.size W w' := fun W => by
    have := wRoot_any 18446744073709551616 W (by decide)
    rw [show rootN 18446744073709551616 = 4294967296 by decide +kernel] at this
    exact this
  have h6 : ∀ W : World, Calls Try.prog 27 #[.int .i64 3, .int .i64 5, .int .i64 (-2), .int .i64 (-8)] W fun e w' => e = .returned (.int .i64 (-1)) ∧ Below W.heap.size W w' := fun W =>
    wProds_any 3 5 (-2) (-8) W (by decide) (by decide) (by decide) (by decide)
  have h7 : ∀ W : World, Calls Try.prog 23 #[.agg #[.int .u64 1, .int .u64 0]] W fun e w' => e = .returned (.string ⟨#[49, 56, 52, 52, 54, 55, 52, 52, 48, 55, 51, 55, 48, 57, 53, 53, 49, 54, 49, 54]⟩) ∧ Below W.heap.size W w' := fun W => by
    have := wText_any 18446744073709551616 W (by decide)
    rw [show strOfNums (textF 3 18446744073709551616) = ⟨#[49, 56, 52, 52, 54, 55, 52, 52, 48, 55, 51, 55, 48, 57, 53, 53, 49, 54, 49, 54]⟩ by decide +kernel] at this
    exact this
  have h8 : ∀ W : World, Calls Try.prog 31 #[.int .u64 7] W fun e w' => e = .returned (.agg #[.int .u64 0, .int .u64 7]) ∧ Below W.heap.size W w' := fun W =>
    wOf_any 7 W (by decide)
  have h9 : ∀ W : World, Calls Try.prog 34 #[.agg #[.int .u64 1, .int .u64 0], .agg #[.int .u64 0, .int .u64 7]] W fun e w' => e = .returned (.int .i64 1) ∧ Below W.heap.size W w' := fun W => by
    have := wCmp_any 18446744073709551616 7 W (by decide) (by decide)
    rw [show cmpN 18446744073709551616 7 = 1 by decide] at this
    exact this
  have H1 := Lib.hid h1; have H2 := Lib.hid h2; have H3 := Lib.hid h3; have H4 := Lib.hid h4
  have H5 := Lib.hid h5; have H6 := Lib.hid h6; have H7 := Lib.hid h7; have H8 := Lib.hid h8
  have H9 := Lib.hid h9
  clear h1 h2 h3 h4 h5 h6 h7 h8 h9
  go_enter Try.func16, Try.ntmps16
  go_wp2_with fail
  refine (H1.out _).mono ?_
  rintro e w1 ⟨rfl, b1⟩
  have B1 := Lib.hid b1
  have z1 := b1.size
  clear b1
  go_wp2_with fail
  refine (H2.out _).mono ?_
  rintro e w2 ⟨rfl, b2⟩
  have B2 := Lib.hid (show Below w.heap.size w w2 from below_tr (by (repeat (first | with_reducible exact Below.refl _ _ | ((with_reducible refine Below.setCell ?_ ?_ _); rotate_left; (focus (first | omega | (simp; done) | (simp; omega)))) | ((with_reducible refine Below.alloc ?_ ?_ _); rotate_left; (focus (first | omega | (simp; done) | (simp; omega)))) | (with_reducible refine Below.drew ?_) | (with_reducible refine below_drewN ?_ _) | ((with_reducible refine Below.trans ?_ (Below.mono B1.out ?_)); rotate_left; (focus (first | omega | (simp; done) | (simp; omega))))))) (b2.mono (by simp; omega)))
  have z2 : w1.heap.size + 1 ≤ w2.heap.size := by have := b2.size; simp at this; omega
  have a0 := b2.cell (p := ⟨w1.heap.size, 0, none⟩) (by simp)
  have a1 := b2.cell (p := ⟨w1.heap.size, 1, none⟩) (by simp)
  clear b2
  go_wp2_with fail
  refine (H3.out _).mono ?_
  rintro e w3 ⟨rfl, b3⟩
  have B3 := Lib.hid (show Below w.heap.size w w3 from below_tr (by (repeat (first | with_reducible exact Below.refl _ _ | ((with_reducible refine Below.setCell ?_ ?_ _); rotate_left; (focus (first | omega | (simp; done) | (simp; omega)))) | ((with_reducible refine Below.alloc ?_ ?_ _); rotate_left; (focus (first | omega | (simp; done) | (simp; omega)))) | (with_reducible refine Below.drew ?_) | (with_reducible refine below_drewN ?_ _) | ((with_reducible refine Below.trans ?_ (Below.mono B2.out ?_)); rotate_left; (focus (first | omega | (simp; done) | (simp; omega))))))) (b3.mono (by simp; omega)))
  have z3 : w2.heap.size + 1 ≤ w3.heap.size := by have := b3.size; simp at this; omega
  have n1 : w1.heap.size ≠ w2.heap.size := by omega
  have n2 : w2.heap.size ≠ w1.heap.size := by omega
  have n1' : w1.heap.size < w2.heap.size := by omega
  have c0 := b3.cell (p := ⟨w1.heap.size, 0, none⟩) (by simp; omega)
  have c1 := b3.cell (p := ⟨w1.heap.size, 1, none⟩) (by simp; omega)
  have A0 : w3.cell? ⟨w1.heap.size, 0, none⟩ = some (.int .u64 1) := by go_simp
  have A1 : w3.cell? ⟨w1.heap.size, 1, none⟩ = some (.int .u64 0) := by go_simp
  clear b3 a0 a1 c0 c1
  have n3 : w1.heap.size ≠ w3.heap.size := by omega
  have n4 : w3.heap.size ≠ w1.heap.size := by omega
  go_wp2_with fail
  have BB := Lib.hid (show Below w.heap.size w (w3.alloc (.cells #[.int .u64 2, .int .u64 9223372036854775808] 24)) from by (repeat (first | with_reducible exact Below.refl _ _ | ((with_reducible refine Below.setCell ?_ ?_ _); rotate_left; (focus (first | omega | (simp; done) | (simp; omega)))) | ((with_reducible refine Below.alloc ?_ ?_ _); rotate_left; (focus (first | omega | (simp; done) | (simp; omega)))) | (with_reducible refine Below.drew ?_) | (with_reducible refine below_drewN ?_ _) | ((with_reducible refine Below.trans ?_ (Below.mono B3.out ?_)); rotate_left; (focus (first | omega | (simp; done) | (simp; omega)))))))
  have n5 : w1.heap.size < w3.heap.size := by omega
  go_region_held3 (fun w' => w'.cell? ⟨w1.heap.size, 0, none⟩ = some (.int .u64 1) ∧ w'.cell? ⟨w1.heap.size, 1, none⟩ = some (.int .u64 0) ∧ w'.cell? ⟨w3.heap.size, 0, none⟩ = some (.int .u64 2) ∧ w'.cell? ⟨w3.heap.size, 1, none⟩ = some (.int .u64 9223372036854775808)) (first | (go_simp; done) | (go_keep; done) | (refine ⟨?_, ?_, ?_, ?_⟩ <;> first | (go_simp; done) | (go_keep; done))) (first | (first | (go_at_call 36; (with_reducible refine (H4.out _).mono ?_); rintro e v ⟨rfl, hb⟩; have zz : w3.heap.size + 1 ≤ v.heap.size := (by have := hb.size; first | omega | (simp at this; omega)); have k0 := hb.cell (p := ⟨w1.heap.size, 0, none⟩) (by first | omega | (simp; done) | (simp; omega)); have k1 := hb.cell (p := ⟨w1.heap.size, 1, none⟩) (by first | omega | (simp; done) | (simp; omega)); have k2 := hb.cell (p := ⟨w3.heap.size, 0, none⟩) (by first | omega | (simp; done) | (simp; omega)); have k3 := hb.cell (p := ⟨w3.heap.size, 1, none⟩) (by first | omega | (simp; done) | (simp; omega)); have BB := Lib.hid (show Below w.heap.size w v from below_tr (by (repeat (first | with_reducible exact Below.refl _ _ | ((with_reducible refine Below.setCell ?_ ?_ _); rotate_left; (focus (first | omega | (simp; done) | (simp; omega)))) | ((with_reducible refine Below.alloc ?_ ?_ _); rotate_left; (focus (first | omega | (simp; done) | (simp; omega)))) | (with_reducible refine Below.drew ?_) | (with_reducible refine below_drewN ?_ _) | ((with_reducible refine Below.trans ?_ (Below.mono BB.out ?_)); rotate_left; (focus (first | omega | (simp; done) | (simp; omega)))) | ((with_reducible refine Below.trans ?_ (Below.mono B3.out ?_)); rotate_left; (focus (first | omega | (simp; done) | (simp; omega))))))) (hb.mono (by first | omega | (simp; done) | (simp; omega)))); clear hb) | (go_at_call 22; (with_reducible refine (H5.out _).mono ?_); rintro e v ⟨rfl, hb⟩; have zz : w3.heap.size + 1 ≤ v.heap.size := (by have := hb.size; first | omega | (simp at this; omega)); have k0 := hb.cell (p := ⟨w1.heap.size, 0, none⟩) (by first | omega | (simp; done) | (simp; omega)); have k1 := hb.cell (p := ⟨w1.heap.size, 1, none⟩) (by first | omega | (simp; done) | (simp; omega)); have k2 := hb.cell (p := ⟨w3.heap.size, 0, none⟩) (by first | omega | (simp; done) | (simp; omega)); have k3 := hb.cell (p := ⟨w3.heap.size, 1, none⟩) (by first | omega | (simp; done) | (simp; omega)); have BB := Lib.hid (show Below w.heap.size w v from below_tr (by (repeat (first | with_reducible exact Below.refl _ _ | ((with_reducible refine Below.setCell ?_ ?_ _); rotate_left; (focus (first | omega | (simp; done) | (simp; omega)))) | ((with_reducible refine Below.alloc ?_ ?_ _); rotate_left; (focus (first | omega | (simp; done) | (simp; omega)))) | (with_reducible refine Below.drew ?_) | (with_reducible refine below_drewN ?_ _) | ((with_reducible refine Below.trans ?_ (Below.mono BB.out ?_)); rotate_left; (focus (first | omega | (simp; done) | (simp; omega)))) | ((with_reducible refine Below.trans ?_ (Below.mono B3.out ?_)); rotate_left; (focus (first | omega | (simp; done) | (simp; omega))))))) (hb.mono (by first | omega | (simp; done) | (simp; omega)))); clear hb) | (go_at_call 27; (with_reducible refine (H6.out _).mono ?_); rintro e v ⟨rfl, hb⟩; have zz : w3.heap.size + 1 ≤ v.heap.size := (by have := hb.size; first | omega | (simp at this; omega)); have k0 := hb.cell (p := ⟨w1.heap.size, 0, none⟩) (by first | omega | (simp; done) | (simp; omega)); have k1 := hb.cell (p := ⟨w1.heap.size, 1, none⟩) (by first | omega | (simp; done) | (simp; omega)); have k2 := hb.cell (p := ⟨w3.heap.size, 0, none⟩) (by first | omega | (simp; done) | (simp; omega)); have k3 := hb.cell (p := ⟨w3.heap.size, 1, none⟩) (by first | omega | (simp; done) | (simp; omega)); have BB := Lib.hid (show Below w.heap.size w v from below_tr (by (repeat (first | with_reducible exact Below.refl _ _ | ((with_reducible refine Below.setCell ?_ ?_ _); rotate_left; (focus (first | omega | (simp; done) | (simp; omega)))) | ((with_reducible refine Below.alloc ?_ ?_ _); rotate_left; (focus (first | omega | (simp; done) | (simp; omega)))) | (with_reducible refine Below.drew ?_) | (with_reducible refine below_drewN ?_ _) | ((with_reducible refine Below.trans ?_ (Below.mono BB.out ?_)); rotate_left; (focus (first | omega | (simp; done) | (simp; omega)))) | ((with_reducible refine Below.trans ?_ (Below.mono B3.out ?_)); rotate_left; (focus (first | omega | (simp; done) | (simp; omega))))))) (hb.mono (by first | omega | (simp; done) | (simp; omega)))); clear hb) | (go_at_call 23; (with_reducible refine (H7.out _).mono ?_); rintro e v ⟨rfl, hb⟩; have zz : w3.heap.size + 1 ≤ v.heap.size := (by have := hb.size; first | omega | (simp at this; omega)); have k0 := hb.cell (p := ⟨w1.heap.size, 0, none⟩) (by first | omega | (simp; done) | (simp; omega)); have k1 := hb.cell (p := ⟨w1.heap.size, 1, none⟩) (by first | omega | (simp; done) | (simp; omega)); have k2 := hb.cell (p := ⟨w3.heap.size, 0, none⟩) (by first | omega | (simp; done) | (simp; omega)); have k3 := hb.cell (p := ⟨w3.heap.size, 1, none⟩) (by first | omega | (simp; done) | (simp; omega)); have BB := Lib.hid (show Below w.heap.size w v from below_tr (by (repeat (first | with_reducible exact Below.refl _ _ | ((with_reducible refine Below.setCell ?_ ?_ _); rotate_left; (focus (first | omega | (simp; done) | (simp; omega)))) | ((with_reducible refine Below.alloc ?_ ?_ _); rotate_left; (focus (first | omega | (simp; done) | (simp; omega)))) | (with_reducible refine Below.drew ?_) | (with_reducible refine below_drewN ?_ _) | ((with_reducible refine Below.trans ?_ (Below.mono BB.out ?_)); rotate_left; (focus (first | omega | (simp; done) | (simp; omega)))) | ((with_reducible refine Below.trans ?_ (Below.mono B3.out ?_)); rotate_left; (focus (first | omega | (simp; done) | (simp; omega))))))) (hb.mono (by first | omega | (simp; done) | (simp; omega)))); clear hb) | (go_at_call 31; (with_reducible refine (H8.out _).mono ?_); rintro e v ⟨rfl, hb⟩; have zz : w3.heap.size + 1 ≤ v.heap.size := (by have := hb.size; first | omega | (simp at this; omega)); have k0 := hb.cell (p := ⟨w1.heap.size, 0, none⟩) (by first | omega | (simp; done) | (simp; omega)); have k1 := hb.cell (p := ⟨w1.heap.size, 1, none⟩) (by first | omega | (simp; done) | (simp; omega)); have k2 := hb.cell (p := ⟨w3.heap.size, 0, none⟩) (by first | omega | (simp; done) | (simp; omega)); have k3 := hb.cell (p := ⟨w3.heap.size, 1, none⟩) (by first | omega | (simp; done) | (simp; omega)); have BB := Lib.hid (show Below w.heap.size w v from below_tr (by (repeat (first | with_reducible exact Below.refl _ _ | ((with_reducible refine Below.setCell ?_ ?_ _); rotate_left; (focus (first | omega | (simp; done) | (simp; omega)))) | ((with_reducible refine Below.alloc ?_ ?_ _); rotate_left; (focus (first | omega | (simp; done) | (simp; omega)))) | (with_reducible refine Below.drew ?_) | (with_reducible refine below_drewN ?_ _) | ((with_reducible refine Below.trans ?_ (Below.mono BB.out ?_)); rotate_left; (focus (first | omega | (simp; done) | (simp; omega)))) | ((with_reducible refine Below.trans ?_ (Below.mono B3.out ?_)); rotate_left; (focus (first | omega | (simp; done) | (simp; omega))))))) (hb.mono (by first | omega | (simp; done) | (simp; omega)))); clear hb) | (go_at_call 34; (with_reducible refine (H9.out _).mono ?_); rintro e v ⟨rfl, hb⟩; have zz : w3.heap.size + 1 ≤ v.heap.size := (by have := hb.size; first | omega | (simp at this; omega)); have k0 := hb.cell (p := ⟨w1.heap.size, 0, none⟩) (by first | omega | (simp; done) | (simp; omega)); have k1 := hb.cell (p := ⟨w1.heap.size, 1, none⟩) (by first | omega | (simp; done) | (simp; omega)); have k2 := hb.cell (p := ⟨w3.heap.size, 0, none⟩) (by first | omega | (simp; done) | (simp; omega)); have k3 := hb.cell (p := ⟨w3.heap.size, 1, none⟩) (by first | omega | (simp; done) | (simp; omega)); have BB := Lib.hid (show Below w.heap.size w v from below_tr (by (repeat (first | with_reducible exact Below.refl _ _ | ((with_reducible refine Below.setCell ?_ ?_ _); rotate_left; (focus (first | omega | (simp; done) | (simp; omega)))) | ((with_reducible refine Below.alloc ?_ ?_ _); rotate_left; (focus (first | omega | (simp; done) | (simp; omega)))) | (with_reducible refine Below.drew ?_) | (with_reducible refine below_drewN ?_ _) | ((with_reducible refine Below.trans ?_ (Below.mono BB.out ?_)); rotate_left; (focus (first | omega | (simp; done) | (simp; omega)))) | ((with_reducible refine Below.trans ?_ (Below.mono B3.out ?_)); rotate_left; (focus (first | omega | (simp; done) | (simp; omega))))))) (hb.mono (by first | omega | (simp; done) | (simp; omega)))); clear hb)))
  go_wp2
  go_ret
  exact ⟨rfl, by (repeat (first | with_reducible exact Below.refl _ _ | ((with_reducible refine Below.setCell ?_ ?_ _); rotate_left; (focus (first | omega | (simp; done) | (simp; omega)))) | ((with_reducible refine Below.alloc ?_ ?_ _); rotate_left; (focus (first | omega | (simp; done) | (simp; omega)))) | (with_reducible refine Below.drew ?_) | (with_reducible refine below_drewN ?_ _) | ((with_reducible refine Below.trans ?_ (Below.mono BB.out ?_)); rotate_left; (focus (first | omega | (simp; done) | (simp; omega))))))⟩
end Go.Proofs.Yticpmcghdoiceaa
