/-
  Walk of PickSamples.
-/
import Derived.Test.YtoljilbldkbjpaaLaws07w
namespace Go.Proofs.Ytoljilbldkbjpaa
open Go.RowKit

theorem made_bools (n : Nat) : (madeCells #[Value.bool false] n).toList = (List.replicate n false).map Value.bool := by
  apply List.ext_getElem
  · simp [madeCells]
  · intro i h1 h2
    simp [madeCells, Nat.mod_one]

theorem eiBool : EI Try.prog 4 (.bool false) 1 1 := .of (by kernel_rfl) rfl (by decide) (by decide)

/-- What was seen behind so many: just these are marked. -/
def SeenOk (N : Nat) (L : List Int) (j : Nat) (bs : List Bool) : Prop := bs.length = N ∧ ∀ y : Nat, bs[y]? = some true → ∃ i, i < j ∧ L[i]? = some (y : Int)

theorem SeenOk.start (N : Nat) (L : List Int) : SeenOk N L 0 (List.replicate N false) := ⟨by simp, fun y h => by
  rw [List.getElem?_replicate] at h
  split at h <;> simp at h⟩

theorem SeenOk.next {N : Nat} {L : List Int} {j y : Nat} {bs : List Bool} (h : SeenOk N L j bs) (hy : L[j]? = some (y : Int)) : SeenOk N L (j + 1) (bs.set y true) := by
  refine ⟨by rw [List.length_set]; exact h.1, fun z hz => ?_⟩
  by_cases e : z = y
  · subst e
    exact ⟨j, by omega, hy⟩
  · rw [List.getElem?_set_ne (Ne.symm e)] at hz
    obtain ⟨i, h1, h2⟩ := h.2 z hz
    exact ⟨i, by omega, h2⟩

theorem SeenOk.new {N : Nat} {L : List Int} {j y : Nat} {bs : List Bool} (h : SeenOk N L j bs) (hy : L[j]? = some (y : Int)) (hN : y < N) (hu : ∀ (i j : Nat) (x : Int), L[i]? = some x → L[j]? = some x → i = j) : bs[y]? = some false := by
  obtain ⟨b, hb⟩ := getElem?_ex (l := bs) (k := y) (by rw [h.1]; exact hN)
  cases b with
  | false => exact hb
  | true =>
    obtain ⟨i, h1, h2⟩ := h.2 y hb
    have := hu i j _ h2 hy
    omega

set_option maxRecDepth 100000 in
set_option maxHeartbeats 8000000 in
theorem pickSamples_mid {w : World} (ad : Option Addr) (m c : Nat) (l L M : List Int) (a n k t A E A2 E2 : Int) (i0 : Ints .u64 w (.slice ad m c) l) (hm : (m : Int) ≤ 300)
    (h1 : ∀ W, Ints .u64 W (.slice ad m c) l → Calls Try.prog 12 #[.slice ad m c, .int .i64 a, .int .i64 n, .int .i64 k, .int .i64 t] W fun e w' => ∃ vo, e = .returned (.tuple #[vo, .int .i64 A, .int .i64 E]) ∧ Ints .i64 w' vo L ∧ Below W.heap.size W w')
    (h2 : ∀ W, Ints .u64 W (.slice ad m c) l → Calls Try.prog 13 #[.slice ad m c, .int .i64 a, .int .i64 n, .int .i64 k, .int .i64 t] W fun e w' => ∃ vo, e = .returned (.tuple #[vo, .int .i64 A, .int .i64 E]) ∧ Ints .i64 w' vo L ∧ Below W.heap.size W w')
    (h3 : ∀ W, Ints .u64 W (.slice ad m c) l → Calls Try.prog 15 #[.slice ad m c, .int .i64 a, .int .i64 n, .int .i64 t] W fun e w' => ∃ vo, e = .returned (.tuple #[vo, .int .i64 A2, .int .i64 E2]) ∧ Ints .i64 w' vo M ∧ Below W.heap.size W w')
    (h4 : ∀ W, Ints .u64 W (.slice ad m c) l → Calls Try.prog 13 #[.slice ad m c, .int .i64 a, .int .i64 n, .int .i64 n, .int .i64 t] W fun e w' => ∃ vo, e = .returned (.tuple #[vo, .int .i64 A2, .int .i64 E2]) ∧ Ints .i64 w' vo M ∧ Below W.heap.size W w')
    (h5 : E = 0 → (0 ≤ n ∧ n ≤ 256 ∧ 0 ≤ k ∧ k ≤ n ∧ 1 ≤ t ∧ t ≤ 64) ∧ L.length = k.toNat ∧ (∀ x ∈ L, 0 ≤ x ∧ x < n) ∧ (∀ (i j : Nat) (x : Int), L[i]? = some x → L[j]? = some x → i = j) ∧ k ≤ A - a ∧ A - a ≤ k * t) :
    Calls Try.prog 3 #[.slice ad m c, .int .i64 a, .int .i64 n, .int .i64 k, .int .i64 t] w fun e w' => e = .returned (.bool true) ∧ Below w.heap.size w w' := by
  have H1 := Lib.hid h1; have H2 := Lib.hid h2; have H3 := Lib.hid h3; have H4 := Lib.hid h4; have H5 := Lib.hid h5
  have I0 := Lib.hid i0
  clear h1 h2 h3 h4 h5 i0
  by_cases hE : E = 0
  · obtain ⟨g1, g2, g3, g4, g5, g6⟩ := H5.out hE
    subst hE
    have G3 := Lib.hid g3; have G4 := Lib.hid g4; have G2 := Lib.hid g2; have G5 := Lib.hid g5; have G6 := Lib.hid g6
    obtain ⟨N, rfl⟩ : ∃ N : Nat, n = (N : Int) := ⟨n.toNat, by omega⟩
    obtain ⟨K, rfl⟩ : ∃ K : Nat, k = (K : Int) := ⟨k.toNat, by omega⟩
    obtain ⟨n1, n2, n3, n4, n5, n6⟩ := g1
    clear g2 g3 g4 g5 g6 H5
    go_enter Try.func3, Try.ntmps3
    go_wp2_with fail
    (with_reducible refine (H1.out _ (I0.out.below (by (repeat (first | with_reducible exact Below.refl _ _ | ((with_reducible refine Below.setCell ?_ ?_ _); rotate_left; (focus (first | omega | (simp; done) | (simp; omega)))) | ((with_reducible refine Below.alloc ?_ ?_ _); rotate_left; (focus (first | omega | (simp; done) | (simp; omega)))) | (with_reducible refine Below.drew ?_) | (with_reducible refine below_drewN ?_ _)))))).mono ?_); rintro e w1 ⟨v1, rfl, i1, b1⟩; have s1 : w.heap.size ≤ w1.heap.size := (by have := b1.size; first | omega | (simp at this; omega)); have B1 := Lib.hid (show Below w.heap.size w w1 from below_tr (by (repeat (first | with_reducible exact Below.refl _ _ | ((with_reducible refine Below.setCell ?_ ?_ _); rotate_left; (focus (first | omega | (simp; done) | (simp; omega)))) | ((with_reducible refine Below.alloc ?_ ?_ _); rotate_left; (focus (first | omega | (simp; done) | (simp; omega)))) | (with_reducible refine Below.drew ?_) | (with_reducible refine below_drewN ?_ _)))) (b1.mono (by first | omega | (simp; done) | (simp; omega)))); have I0 := Lib.hid ((I0.out.below (by (repeat (first | with_reducible exact Below.refl _ _ | ((with_reducible refine Below.setCell ?_ ?_ _); rotate_left; (focus (first | omega | (simp; done) | (simp; omega)))) | ((with_reducible refine Below.alloc ?_ ?_ _); rotate_left; (focus (first | omega | (simp; done) | (simp; omega)))) | (with_reducible refine Below.drew ?_) | (with_reducible refine below_drewN ?_ _))))).below b1); clear b1
    have I1 := Lib.hid i1
    obtain ⟨a1, q1, rfl, hq2, hq3, hq4, _⟩ := i1
    rw [G2.out] at I1 hq2 hq4 ⊢
    go_wp2_with fail
    (with_reducible refine (H2.out _ I0.out).mono ?_); rintro e w2 ⟨v2, rfl, i2, b2⟩; have s2 : w1.heap.size ≤ w2.heap.size := (by have := b2.size; first | omega | (simp at this; omega)); have B2 := Lib.hid (show Below w.heap.size w w2 from below_tr (by (repeat (first | with_reducible exact Below.refl _ _ | ((with_reducible refine Below.setCell ?_ ?_ _); rotate_left; (focus (first | omega | (simp; done) | (simp; omega)))) | ((with_reducible refine Below.alloc ?_ ?_ _); rotate_left; (focus (first | omega | (simp; done) | (simp; omega)))) | (with_reducible refine Below.drew ?_) | (with_reducible refine below_drewN ?_ _) | ((with_reducible refine Below.trans ?_ (Below.mono B1.out ?_)); rotate_left; (focus (first | omega | (simp; done) | (simp; omega))))))) (b2.mono (by first | omega | (simp; done) | (simp; omega)))); have I0 := Lib.hid ((I0.out.below (by (repeat (first | with_reducible exact Below.refl _ _ | ((with_reducible refine Below.setCell ?_ ?_ _); rotate_left; (focus (first | omega | (simp; done) | (simp; omega)))) | ((with_reducible refine Below.alloc ?_ ?_ _); rotate_left; (focus (first | omega | (simp; done) | (simp; omega)))) | (with_reducible refine Below.drew ?_) | (with_reducible refine below_drewN ?_ _))))).below b2); have I1 := Lib.hid ((I1.out.below (by (repeat (first | with_reducible exact Below.refl _ _ | ((with_reducible refine Below.setCell ?_ ?_ _); rotate_left; (focus (first | omega | (simp; done) | (simp; omega)))) | ((with_reducible refine Below.alloc ?_ ?_ _); rotate_left; (focus (first | omega | (simp; done) | (simp; omega)))) | (with_reducible refine Below.drew ?_) | (with_reducible refine below_drewN ?_ _))))).below b2); clear b2
    have I2 := Lib.hid i2
    obtain ⟨a2, q2, rfl, _⟩ := i2
    go_wp2_with fail
    (with_reducible refine (same_self7 _ _ L _ ?_ ?_).mono ?_)
    · exact I1.out
    · exact I2.out
    rintro e wa ⟨rfl, da, rfl⟩
    go_wp2_with fail
    (with_reducible refine (H3.out _ (I0.out.drewN da)).mono ?_); rintro e w3 ⟨v3, rfl, i3, b3⟩; have s3 : w2.heap.size ≤ w3.heap.size := (by have := b3.size; first | omega | (simp at this; omega)); have B3 := Lib.hid (show Below w.heap.size w w3 from below_tr (by (repeat (first | with_reducible exact Below.refl _ _ | ((with_reducible refine Below.setCell ?_ ?_ _); rotate_left; (focus (first | omega | (simp; done) | (simp; omega)))) | ((with_reducible refine Below.alloc ?_ ?_ _); rotate_left; (focus (first | omega | (simp; done) | (simp; omega)))) | (with_reducible refine Below.drew ?_) | (with_reducible refine below_drewN ?_ _) | ((with_reducible refine Below.trans ?_ (Below.mono B2.out ?_)); rotate_left; (focus (first | omega | (simp; done) | (simp; omega))))))) (b3.mono (by first | omega | (simp; done) | (simp; omega)))); have I0 := Lib.hid ((I0.out.below (by (repeat (first | with_reducible exact Below.refl _ _ | ((with_reducible refine Below.setCell ?_ ?_ _); rotate_left; (focus (first | omega | (simp; done) | (simp; omega)))) | ((with_reducible refine Below.alloc ?_ ?_ _); rotate_left; (focus (first | omega | (simp; done) | (simp; omega)))) | (with_reducible refine Below.drew ?_) | (with_reducible refine below_drewN ?_ _))))).below b3); have I1 := Lib.hid ((I1.out.below (by (repeat (first | with_reducible exact Below.refl _ _ | ((with_reducible refine Below.setCell ?_ ?_ _); rotate_left; (focus (first | omega | (simp; done) | (simp; omega)))) | ((with_reducible refine Below.alloc ?_ ?_ _); rotate_left; (focus (first | omega | (simp; done) | (simp; omega)))) | (with_reducible refine Below.drew ?_) | (with_reducible refine below_drewN ?_ _))))).below b3); clear b3
    have I3 := Lib.hid i3
    obtain ⟨a3, q3, rfl, _⟩ := i3
    go_wp2_with fail
    (with_reducible refine (H4.out _ (I0.out.below (by (repeat (first | with_reducible exact Below.refl _ _ | ((with_reducible refine Below.setCell ?_ ?_ _); rotate_left; (focus (first | omega | (simp; done) | (simp; omega)))) | ((with_reducible refine Below.alloc ?_ ?_ _); rotate_left; (focus (first | omega | (simp; done) | (simp; omega)))) | (with_reducible refine Below.drew ?_) | (with_reducible refine below_drewN ?_ _)))))).mono ?_); rintro e w4 ⟨v4, rfl, i4, b4⟩; have s4 : w3.heap.size ≤ w4.heap.size := (by have := b4.size; first | omega | (simp at this; omega)); have B4 := Lib.hid (show Below w.heap.size w w4 from below_tr (by (repeat (first | with_reducible exact Below.refl _ _ | ((with_reducible refine Below.setCell ?_ ?_ _); rotate_left; (focus (first | omega | (simp; done) | (simp; omega)))) | ((with_reducible refine Below.alloc ?_ ?_ _); rotate_left; (focus (first | omega | (simp; done) | (simp; omega)))) | (with_reducible refine Below.drew ?_) | (with_reducible refine below_drewN ?_ _) | ((with_reducible refine Below.trans ?_ (Below.mono B3.out ?_)); rotate_left; (focus (first | omega | (simp; done) | (simp; omega))))))) (b4.mono (by first | omega | (simp; done) | (simp; omega)))); have I1 := Lib.hid ((I1.out.below (by (repeat (first | with_reducible exact Below.refl _ _ | ((with_reducible refine Below.setCell ?_ ?_ _); rotate_left; (focus (first | omega | (simp; done) | (simp; omega)))) | ((with_reducible refine Below.alloc ?_ ?_ _); rotate_left; (focus (first | omega | (simp; done) | (simp; omega)))) | (with_reducible refine Below.drew ?_) | (with_reducible refine below_drewN ?_ _))))).below b4); have I3 := Lib.hid ((I3.out.below (by (repeat (first | with_reducible exact Below.refl _ _ | ((with_reducible refine Below.setCell ?_ ?_ _); rotate_left; (focus (first | omega | (simp; done) | (simp; omega)))) | ((with_reducible refine Below.alloc ?_ ?_ _); rotate_left; (focus (first | omega | (simp; done) | (simp; omega)))) | (with_reducible refine Below.drew ?_) | (with_reducible refine below_drewN ?_ _))))).below b4); clear b4
    have I4 := Lib.hid i4
    obtain ⟨a4, q4, rfl, _⟩ := i4
    go_wp2_with fail
    (with_reducible refine (same_self7 _ _ M _ ?_ ?_).mono ?_)
    · exact I3.out
    · exact I4.out
    rintro e wb ⟨rfl, db, rfl⟩
    go_wp2_with (at_make; go_must (refine mkfull rfl _ _ 30 rfl Try.underlying30 eiBool w4.heap.size N (by rfl) (by rfl) (by rfl) (by rfl) (by omega) (by simp) ?_))
    intro w5 hown hb5 _
    rw [made_bools] at hown
    have B5 := Lib.hid (show Below w.heap.size w w5 from below_tr (by (repeat (first | with_reducible exact Below.refl _ _ | ((with_reducible refine Below.setCell ?_ ?_ _); rotate_left; (focus (first | omega | (simp; done) | (simp; omega)))) | ((with_reducible refine Below.alloc ?_ ?_ _); rotate_left; (focus (first | omega | (simp; done) | (simp; omega)))) | (with_reducible refine Below.drew ?_) | (with_reducible refine below_drewN ?_ _) | ((with_reducible refine Below.trans ?_ (Below.mono B4.out ?_)); rotate_left; (focus (first | omega | (simp; done) | (simp; omega))))))) (hb5.mono (by omega)))
    have I5 := Lib.hid (show ∀ (i : Nat) (x : Int), L[i]? = some x → ∃ b o, a1 = some ⟨b, o, none⟩ ∧ b < w4.heap.size ∧ w5.cell? ⟨b, o + i, none⟩ = some (.int .i64 x) from fun i x hi => by
      obtain ⟨b, o, e, hb, hc⟩ := I1.out.cells i x hi
      exact ⟨b, o, e, hb, (hb5.cell (p := ⟨b, o + i, none⟩) hb).trans (by simp; exact hc)⟩)
    have s5 : w4.heap.size < w5.heap.size := (hown.lt _ rfl).2
    obtain ⟨G, hG⟩ : ∃ G, w4.heap.size = G := ⟨_, rfl⟩
    have hG2 : w.heap.size ≤ G := by omega
    rw [hG] at hown I5 s5 ⊢
    have HOWN := Lib.hid hown
    clear hown hb5 hG s1 s2 s3 s4
    go_wp2_with fail
    go_loopw [24] (fun idx wr => ∃ (j : Nat) (bs : List Bool), idx = .int .i64 j ∧ j ≤ K ∧ wr.ownsRow G 4 1 (.slice (some ⟨G, 0, none⟩) N N) N (bs.map .bool) ∧ SeenOk N L j bs ∧ Below G w5 wr ∧ G < wr.heap.size) (fun idx _ => K - (intOf idx).toNat)
    case atStart => exact ⟨0, List.replicate N false, rfl, by omega, HOWN.out, SeenOk.start N L, Below.refl _ _, s5⟩
    case round =>
      obtain ⟨j, bs, rfl, hj, hown, hseen, hbr, hsz⟩ := hrel
      have HOWN := Lib.hid hown
      have HS := Lib.hid hseen
      have HBR := Lib.hid hbr
      have i1 : (0 : Int) ≤ (j : Int) := by omega
      by_cases hlt : j < K
      · have i2 : (j : Int) < (K : Int) := by omega
        obtain ⟨x, hx⟩ := getElem?_ex (l := L) (k := j) (by rw [G2.out]; exact hlt)
        obtain ⟨b, o, rfl, hbw, c0⟩ := I5.out j x hx
        have e0 := (hbr.cell (p := ⟨b, o + j, none⟩) hbw).trans c0
        obtain ⟨y0, y1⟩ := G3.out x (List.mem_of_getElem? hx)
        obtain ⟨y, rfl⟩ : ∃ y : Nat, x = (y : Int) := ⟨x.toNat, by omega⟩
        have cb := (hown.cellAt y (by omega)).trans (by rw [List.getElem?_map, hseen.new hx (by omega) G4.out]; try rfl)
        have HNX := Lib.hid (hseen.next hx)
        have hbG : b ≠ G := by omega
        have hGb : G ≠ b := by omega
        have f1 := hown.frozenAt y
        clear hown hseen hbr c0 hx
        go_wp2_with fail
        go_roundw
        case rel => exact ⟨j + 1, bs.set y true, by go_num, by omega, by rw [List.map_set]; exact (HOWN.out.stored y _).1, HNX.out, below_tr HBR.out (by (repeat (first | with_reducible exact Below.refl _ _ | ((with_reducible refine Below.setCell ?_ ?_ _); rotate_left; (focus (first | omega | (simp; done) | (simp; omega)))) | ((with_reducible refine Below.alloc ?_ ?_ _); rotate_left; (focus (first | omega | (simp; done) | (simp; omega)))) | (with_reducible refine Below.drew ?_) | (with_reducible refine below_drewN ?_ _)))), by simp; omega⟩
        case measure => simp [intOf] <;> omega
      · obtain rfl : j = K := by omega
        have g5 := G5.out
        have g6 := G6.out
        have hk1 : 0 ≤ (j : Int) * t := Int.mul_nonneg (by omega) (by omega)
        have hk2 : (j : Int) * t ≤ 256 * 64 := Int.mul_le_mul (by omega) (by omega) (by omega) (by omega)
        have e1 : wrap64 (A - a) = A - a := IntWalk.wrap64_in _ (by omega)
        have e2 : wrap64 ((j : Int) * t) = (j : Int) * t := IntWalk.wrap64_in _ (by omega)
        have HBW := Lib.hid (below_tr B5.out (HBR.out.mono hG2))
        clear hown hseen hbr hk1 hk2
        go_wp2_with fail
        (with_reducible refine (lives07_any _).mono ?_); rintro e w6 ⟨rfl, b6⟩; have B6 := Lib.hid (show Below wr.heap.size wr w6 from below_tr (by (repeat (first | with_reducible exact Below.refl _ _ | ((with_reducible refine Below.setCell ?_ ?_ _); rotate_left; (focus (first | omega | (simp; done) | (simp; omega)))) | ((with_reducible refine Below.alloc ?_ ?_ _); rotate_left; (focus (first | omega | (simp; done) | (simp; omega)))) | (with_reducible refine Below.drew ?_) | (with_reducible refine below_drewN ?_ _)))) (b6.mono (by first | omega | (simp; done) | (simp; omega)))); clear b6
        go_wp2_with fail
        go_ret
        exact ⟨rfl, below_tr HBW.out ((show Below wr.heap.size wr _ from by (repeat (first | with_reducible exact Below.refl _ _ | ((with_reducible refine Below.setCell ?_ ?_ _); rotate_left; (focus (first | omega | (simp; done) | (simp; omega)))) | ((with_reducible refine Below.alloc ?_ ?_ _); rotate_left; (focus (first | omega | (simp; done) | (simp; omega)))) | (with_reducible refine Below.drew ?_) | (with_reducible refine below_drewN ?_ _) | ((with_reducible refine Below.trans ?_ (Below.mono B6.out ?_)); rotate_left; (focus (first | omega | (simp; done) | (simp; omega))))))).mono (by omega))⟩
  · have hE' : (E != 0) = true := by simpa using hE
    clear H5 hE
    go_enter Try.func3, Try.ntmps3
    go_wp2_with fail
    (with_reducible refine (H1.out _ (I0.out.below (by (repeat (first | with_reducible exact Below.refl _ _ | ((with_reducible refine Below.setCell ?_ ?_ _); rotate_left; (focus (first | omega | (simp; done) | (simp; omega)))) | ((with_reducible refine Below.alloc ?_ ?_ _); rotate_left; (focus (first | omega | (simp; done) | (simp; omega)))) | (with_reducible refine Below.drew ?_) | (with_reducible refine below_drewN ?_ _)))))).mono ?_); rintro e w1 ⟨v1, rfl, i1, b1⟩; have s1 : w.heap.size ≤ w1.heap.size := (by have := b1.size; first | omega | (simp at this; omega)); have B1 := Lib.hid (show Below w.heap.size w w1 from below_tr (by (repeat (first | with_reducible exact Below.refl _ _ | ((with_reducible refine Below.setCell ?_ ?_ _); rotate_left; (focus (first | omega | (simp; done) | (simp; omega)))) | ((with_reducible refine Below.alloc ?_ ?_ _); rotate_left; (focus (first | omega | (simp; done) | (simp; omega)))) | (with_reducible refine Below.drew ?_) | (with_reducible refine below_drewN ?_ _)))) (b1.mono (by first | omega | (simp; done) | (simp; omega)))); have I0 := Lib.hid ((I0.out.below (by (repeat (first | with_reducible exact Below.refl _ _ | ((with_reducible refine Below.setCell ?_ ?_ _); rotate_left; (focus (first | omega | (simp; done) | (simp; omega)))) | ((with_reducible refine Below.alloc ?_ ?_ _); rotate_left; (focus (first | omega | (simp; done) | (simp; omega)))) | (with_reducible refine Below.drew ?_) | (with_reducible refine below_drewN ?_ _))))).below b1); clear b1
    have I1 := Lib.hid i1
    obtain ⟨a1, q1, rfl, _⟩ := i1
    go_wp2_with fail
    (with_reducible refine (H2.out _ I0.out).mono ?_); rintro e w2 ⟨v2, rfl, i2, b2⟩; have s2 : w1.heap.size ≤ w2.heap.size := (by have := b2.size; first | omega | (simp at this; omega)); have B2 := Lib.hid (show Below w.heap.size w w2 from below_tr (by (repeat (first | with_reducible exact Below.refl _ _ | ((with_reducible refine Below.setCell ?_ ?_ _); rotate_left; (focus (first | omega | (simp; done) | (simp; omega)))) | ((with_reducible refine Below.alloc ?_ ?_ _); rotate_left; (focus (first | omega | (simp; done) | (simp; omega)))) | (with_reducible refine Below.drew ?_) | (with_reducible refine below_drewN ?_ _) | ((with_reducible refine Below.trans ?_ (Below.mono B1.out ?_)); rotate_left; (focus (first | omega | (simp; done) | (simp; omega))))))) (b2.mono (by first | omega | (simp; done) | (simp; omega)))); have I0 := Lib.hid ((I0.out.below (by (repeat (first | with_reducible exact Below.refl _ _ | ((with_reducible refine Below.setCell ?_ ?_ _); rotate_left; (focus (first | omega | (simp; done) | (simp; omega)))) | ((with_reducible refine Below.alloc ?_ ?_ _); rotate_left; (focus (first | omega | (simp; done) | (simp; omega)))) | (with_reducible refine Below.drew ?_) | (with_reducible refine below_drewN ?_ _))))).below b2); have I1 := Lib.hid ((I1.out.below (by (repeat (first | with_reducible exact Below.refl _ _ | ((with_reducible refine Below.setCell ?_ ?_ _); rotate_left; (focus (first | omega | (simp; done) | (simp; omega)))) | ((with_reducible refine Below.alloc ?_ ?_ _); rotate_left; (focus (first | omega | (simp; done) | (simp; omega)))) | (with_reducible refine Below.drew ?_) | (with_reducible refine below_drewN ?_ _))))).below b2); clear b2
    have I2 := Lib.hid i2
    obtain ⟨a2, q2, rfl, _⟩ := i2
    go_wp2_with fail
    (with_reducible refine (same_self7 _ _ L _ ?_ ?_).mono ?_)
    · exact I1.out
    · exact I2.out
    rintro e wa ⟨rfl, da, rfl⟩
    go_wp2_with fail
    (with_reducible refine (H3.out _ (I0.out.drewN da)).mono ?_); rintro e w3 ⟨v3, rfl, i3, b3⟩; have s3 : w2.heap.size ≤ w3.heap.size := (by have := b3.size; first | omega | (simp at this; omega)); have B3 := Lib.hid (show Below w.heap.size w w3 from below_tr (by (repeat (first | with_reducible exact Below.refl _ _ | ((with_reducible refine Below.setCell ?_ ?_ _); rotate_left; (focus (first | omega | (simp; done) | (simp; omega)))) | ((with_reducible refine Below.alloc ?_ ?_ _); rotate_left; (focus (first | omega | (simp; done) | (simp; omega)))) | (with_reducible refine Below.drew ?_) | (with_reducible refine below_drewN ?_ _) | ((with_reducible refine Below.trans ?_ (Below.mono B2.out ?_)); rotate_left; (focus (first | omega | (simp; done) | (simp; omega))))))) (b3.mono (by first | omega | (simp; done) | (simp; omega)))); have I0 := Lib.hid ((I0.out.below (by (repeat (first | with_reducible exact Below.refl _ _ | ((with_reducible refine Below.setCell ?_ ?_ _); rotate_left; (focus (first | omega | (simp; done) | (simp; omega)))) | ((with_reducible refine Below.alloc ?_ ?_ _); rotate_left; (focus (first | omega | (simp; done) | (simp; omega)))) | (with_reducible refine Below.drew ?_) | (with_reducible refine below_drewN ?_ _))))).below b3); clear b3
    have I3 := Lib.hid i3
    obtain ⟨a3, q3, rfl, _⟩ := i3
    go_wp2_with fail
    (with_reducible refine (H4.out _ (I0.out.below (by (repeat (first | with_reducible exact Below.refl _ _ | ((with_reducible refine Below.setCell ?_ ?_ _); rotate_left; (focus (first | omega | (simp; done) | (simp; omega)))) | ((with_reducible refine Below.alloc ?_ ?_ _); rotate_left; (focus (first | omega | (simp; done) | (simp; omega)))) | (with_reducible refine Below.drew ?_) | (with_reducible refine below_drewN ?_ _)))))).mono ?_); rintro e w4 ⟨v4, rfl, i4, b4⟩; have s4 : w3.heap.size ≤ w4.heap.size := (by have := b4.size; first | omega | (simp at this; omega)); have B4 := Lib.hid (show Below w.heap.size w w4 from below_tr (by (repeat (first | with_reducible exact Below.refl _ _ | ((with_reducible refine Below.setCell ?_ ?_ _); rotate_left; (focus (first | omega | (simp; done) | (simp; omega)))) | ((with_reducible refine Below.alloc ?_ ?_ _); rotate_left; (focus (first | omega | (simp; done) | (simp; omega)))) | (with_reducible refine Below.drew ?_) | (with_reducible refine below_drewN ?_ _) | ((with_reducible refine Below.trans ?_ (Below.mono B3.out ?_)); rotate_left; (focus (first | omega | (simp; done) | (simp; omega))))))) (b4.mono (by first | omega | (simp; done) | (simp; omega)))); have I3 := Lib.hid ((I3.out.below (by (repeat (first | with_reducible exact Below.refl _ _ | ((with_reducible refine Below.setCell ?_ ?_ _); rotate_left; (focus (first | omega | (simp; done) | (simp; omega)))) | ((with_reducible refine Below.alloc ?_ ?_ _); rotate_left; (focus (first | omega | (simp; done) | (simp; omega)))) | (with_reducible refine Below.drew ?_) | (with_reducible refine below_drewN ?_ _))))).below b4); clear b4
    have I4 := Lib.hid i4
    obtain ⟨a4, q4, rfl, _⟩ := i4
    go_wp2_with fail
    (with_reducible refine (same_self7 _ _ M _ ?_ ?_).mono ?_)
    · exact I3.out
    · exact I4.out
    rintro e wb ⟨rfl, db, rfl⟩
    go_wp2_with fail
    (with_reducible refine (lives07_any _).mono ?_); rintro e w6 ⟨rfl, b6⟩; have s6 : w4.heap.size ≤ w6.heap.size := (by have := b6.size; first | omega | (simp at this; omega)); have B6 := Lib.hid (show Below w.heap.size w w6 from below_tr (by (repeat (first | with_reducible exact Below.refl _ _ | ((with_reducible refine Below.setCell ?_ ?_ _); rotate_left; (focus (first | omega | (simp; done) | (simp; omega)))) | ((with_reducible refine Below.alloc ?_ ?_ _); rotate_left; (focus (first | omega | (simp; done) | (simp; omega)))) | (with_reducible refine Below.drew ?_) | (with_reducible refine below_drewN ?_ _) | ((with_reducible refine Below.trans ?_ (Below.mono B4.out ?_)); rotate_left; (focus (first | omega | (simp; done) | (simp; omega))))))) (b6.mono (by first | omega | (simp; done) | (simp; omega)))); clear b6
    go_wp2_with fail
    go_ret
    exact ⟨rfl, by (repeat (first | with_reducible exact Below.refl _ _ | ((with_reducible refine Below.setCell ?_ ?_ _); rotate_left; (focus (first | omega | (simp; done) | (simp; omega)))) | ((with_reducible refine Below.alloc ?_ ?_ _); rotate_left; (focus (first | omega | (simp; done) | (simp; omega)))) | (with_reducible refine Below.drew ?_) | (with_reducible refine below_drewN ?_ _) | ((with_reducible refine Below.trans ?_ (Below.mono B6.out ?_)); rotate_left; (focus (first | omega | (simp; done) | (simp; omega))))))⟩

set_option maxRecDepth 100000 in
set_option maxHeartbeats 4000000 in
theorem pickSamples_walk {w : World} (v : Value) (l : List Int) (h : ArgInts .u64 w v l) (a : Int) (ha : (Lit.int .i64 a).wf = true) (n : Int) (_hn : (Lit.int .i64 n).wf = true) (k : Int) (_hk : (Lit.int .i64 k).wf = true) (t : Int) (_ht : (Lit.int .i64 t).wf = true) :
    Calls Try.prog 3 #[v, .int .i64 a, .int .i64 n, .int .i64 k, .int .i64 t] w fun e w' => e = .returned (.bool true) ∧ Below w.heap.size w w' := by
  have ha := wf_ok ha
  clear _ht _hn _hk
  by_cases hl : (300 : Int) < l.length
  · obtain ⟨ad, c, rfl, _⟩ := argInts_shape7 h
    generalize l.length = m at *
    clear ha h
    go_enter Try.func3, Try.ntmps3
    go_wp2_with fail
    (with_reducible refine (lives07_any _).mono ?_); rintro e w1 ⟨rfl, b1⟩; have s1 : w.heap.size ≤ w1.heap.size := (by have := b1.size; first | omega | (simp at this; omega)); have B1 := Lib.hid (show Below w.heap.size w w1 from below_tr (by (repeat (first | with_reducible exact Below.refl _ _ | ((with_reducible refine Below.setCell ?_ ?_ _); rotate_left; (focus (first | omega | (simp; done) | (simp; omega)))) | ((with_reducible refine Below.alloc ?_ ?_ _); rotate_left; (focus (first | omega | (simp; done) | (simp; omega)))) | (with_reducible refine Below.drew ?_) | (with_reducible refine below_drewN ?_ _)))) (b1.mono (by first | omega | (simp; done) | (simp; omega)))); clear b1
    go_wp2_with fail
    go_ret
    exact ⟨rfl, by (repeat (first | with_reducible exact Below.refl _ _ | ((with_reducible refine Below.setCell ?_ ?_ _); rotate_left; (focus (first | omega | (simp; done) | (simp; omega)))) | ((with_reducible refine Below.alloc ?_ ?_ _); rotate_left; (focus (first | omega | (simp; done) | (simp; omega)))) | (with_reducible refine Below.drew ?_) | (with_reducible refine below_drewN ?_ _) | ((with_reducible refine Below.trans ?_ (Below.mono B1.out ?_)); rotate_left; (focus (first | omega | (simp; done) | (simp; omega))))))⟩
  · have i0 := h.ints (by omega)
    have hu := argsU7 h
    clear h
    obtain ⟨ad, c, rfl⟩ := i0.shape
    exact pickSamples_mid ad l.length c l (sampV l a n k t) (sampV l a n n t) a n k t (sampA l a n k t) (sampE l a n k t) (sampA l a n n t) (sampE l a n n t) i0 (by omega) (fun W hW => sample_any _ l a n k t W hW hu ha) (fun W hW => rsample_any _ l a n k t W hW hu ha) (fun W hW => perm_any _ l a n t W hW hu ha) (fun W hW => rsample_any _ l a n n t W hW hu ha) (samp_ok hu)
end Go.Proofs.Ytoljilbldkbjpaa
