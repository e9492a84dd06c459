/-
  Walk of PickCoefs.
-/
import Derived.Test.YtoljilbldkbjpaaLaws07w
namespace Go.Proofs.Ytoljilbldkbjpaa
open Go.RowKit

theorem any_take {L : List Int} {k : Nat} {x : Int} (h : L[k]? = some x) : (L.take (k + 1)).any (fun y => y != 0) = ((L.take k).any (fun y => y != 0) || (x != 0)) := by
  rw [take_snoc' h, List.any_append]; simp

set_option maxRecDepth 100000 in
set_option maxHeartbeats 8000000 in
theorem pickCoefs_mid {w : World} (ad : Option Addr) (m c : Nat) (l L : List Int) (a d t A E : Int) (i0 : Ints .u64 w (.slice ad m c) l) (hm : (m : Int) ≤ 300)
    (h1 : ∀ W, Ints .u64 W (.slice ad m c) l → Calls Try.prog 20 #[.slice ad m c, .int .i64 a, .int .i64 d, .int .i64 t] W fun e w' => ∃ vo, e = .returned (.tuple #[vo, .int .i64 A, .int .i64 E]) ∧ Ints .i64 w' vo L ∧ Below W.heap.size W w')
    (h2 : ∀ W, Ints .u64 W (.slice ad m c) l → Calls Try.prog 21 #[.slice ad m c, .int .i64 a, .int .i64 d, .int .i64 t] W fun e w' => ∃ vo, e = .returned (.tuple #[vo, .int .i64 A, .int .i64 E]) ∧ Ints .i64 w' vo L ∧ Below W.heap.size W w')
    (h3 : E = 0 → (L.length : Int) = d ∧ L.any (fun x => x != 0) = true) (h4 : ∀ x ∈ L, -4 ≤ x ∧ x ≤ 4) :
    Calls Try.prog 5 #[.slice ad m c, .int .i64 a, .int .i64 d, .int .i64 t] w fun e w' => e = .returned (.bool true) ∧ Below w.heap.size w w' := by
  have H1 := Lib.hid h1; have H2 := Lib.hid h2; have H3 := Lib.hid h3; have H4 := Lib.hid h4
  have I0 := Lib.hid i0
  clear h1 h2 h3 h4 i0
  go_enter Try.func5, Try.ntmps5
  go_wp2_with fail
  (with_reducible refine (H1.out _ (I0.out.below (by (repeat (first | with_reducible exact Below.refl _ _ | ((with_reducible refine Below.setCell ?_ ?_ _); rotate_left; (focus (first | omega | (simp; done) | (simp; omega)))) | ((with_reducible refine Below.alloc ?_ ?_ _); rotate_left; (focus (first | omega | (simp; done) | (simp; omega)))) | (with_reducible refine Below.drew ?_) | (with_reducible refine below_drewN ?_ _)))))).mono ?_); rintro e w1 ⟨v1, rfl, i1, b1⟩; have s1 : w.heap.size ≤ w1.heap.size := (by have := b1.size; first | omega | (simp at this; omega)); have B1 := Lib.hid (show Below w.heap.size w w1 from below_tr (by (repeat (first | with_reducible exact Below.refl _ _ | ((with_reducible refine Below.setCell ?_ ?_ _); rotate_left; (focus (first | omega | (simp; done) | (simp; omega)))) | ((with_reducible refine Below.alloc ?_ ?_ _); rotate_left; (focus (first | omega | (simp; done) | (simp; omega)))) | (with_reducible refine Below.drew ?_) | (with_reducible refine below_drewN ?_ _)))) (b1.mono (by first | omega | (simp; done) | (simp; omega)))); have I0 := Lib.hid ((I0.out.below (by (repeat (first | with_reducible exact Below.refl _ _ | ((with_reducible refine Below.setCell ?_ ?_ _); rotate_left; (focus (first | omega | (simp; done) | (simp; omega)))) | ((with_reducible refine Below.alloc ?_ ?_ _); rotate_left; (focus (first | omega | (simp; done) | (simp; omega)))) | (with_reducible refine Below.drew ?_) | (with_reducible refine below_drewN ?_ _))))).below b1); clear b1
  have I1 := Lib.hid i1
  obtain ⟨a1, q1, rfl, hq2, hq3, hq4, _⟩ := i1
  obtain ⟨n, hn⟩ : ∃ n, L.length = n := ⟨_, rfl⟩
  rw [hn] at I1 H3 hq2 hq4 ⊢
  have HN := Lib.hid hn
  clear hn
  go_wp2_with fail
  (with_reducible refine (H2.out _ I0.out).mono ?_); rintro e w2 ⟨v2, rfl, i2, b2⟩; have s2 : w1.heap.size ≤ w2.heap.size := (by have := b2.size; first | omega | (simp at this; omega)); have B2 := Lib.hid (show Below w.heap.size w w2 from below_tr (by (repeat (first | with_reducible exact Below.refl _ _ | ((with_reducible refine Below.setCell ?_ ?_ _); rotate_left; (focus (first | omega | (simp; done) | (simp; omega)))) | ((with_reducible refine Below.alloc ?_ ?_ _); rotate_left; (focus (first | omega | (simp; done) | (simp; omega)))) | (with_reducible refine Below.drew ?_) | (with_reducible refine below_drewN ?_ _) | ((with_reducible refine Below.trans ?_ (Below.mono B1.out ?_)); rotate_left; (focus (first | omega | (simp; done) | (simp; omega))))))) (b2.mono (by first | omega | (simp; done) | (simp; omega)))); have I0 := Lib.hid ((I0.out.below (by (repeat (first | with_reducible exact Below.refl _ _ | ((with_reducible refine Below.setCell ?_ ?_ _); rotate_left; (focus (first | omega | (simp; done) | (simp; omega)))) | ((with_reducible refine Below.alloc ?_ ?_ _); rotate_left; (focus (first | omega | (simp; done) | (simp; omega)))) | (with_reducible refine Below.drew ?_) | (with_reducible refine below_drewN ?_ _))))).below b2); have I1 := Lib.hid ((I1.out.below (by (repeat (first | with_reducible exact Below.refl _ _ | ((with_reducible refine Below.setCell ?_ ?_ _); rotate_left; (focus (first | omega | (simp; done) | (simp; omega)))) | ((with_reducible refine Below.alloc ?_ ?_ _); rotate_left; (focus (first | omega | (simp; done) | (simp; omega)))) | (with_reducible refine Below.drew ?_) | (with_reducible refine below_drewN ?_ _))))).below b2); clear b2
  have I2 := Lib.hid i2
  obtain ⟨a2, q2, rfl, _⟩ := i2
  have HX := Lib.hid I1.out.cells
  go_wp2_with fail
  (with_reducible refine (same_self7 _ _ L _ ?_ ?_).mono ?_)
  · exact I1.out
  · exact I2.out
  rintro e wa ⟨rfl, da, rfl⟩
  go_wp2_with fail
  go_loopw [15, 16] (fun s i wr => ∃ k q : Nat, s = .bool ((L.take k).any (fun y => y != 0)) ∧ i = .int .i64 k ∧ k ≤ n ∧ wr = w2.drewN q) (fun _ i _ => n - (intOf i).toNat)
  case atStart => exact ⟨0, _, rfl, rfl, by omega, rfl⟩
  case round =>
    obtain ⟨k, q, rfl, rfl, hk, rfl⟩ := hrel
    have i1 : (0 : Int) ≤ (k : Int) := by omega
    by_cases hlt : k < n
    · have i2 : (k : Int) < (n : Int) := by omega
      obtain ⟨x, hx⟩ := getElem?_ex (l := L) (k := k) (by rw [HN.out]; exact hlt)
      obtain ⟨b, o, rfl, hbw, c0⟩ := HX.out k x hx
      obtain ⟨y0, y1⟩ := H4.out x (List.mem_of_getElem? hx)
      have HAT := Lib.hid (any_take hx)
      generalize (L.take k).any (fun y => y != 0) = S at *
      clear hx
      cases S with
      | true =>
        go_wp2_with fail
        go_roundw
        case rel => exact ⟨k + 1, q, by rw [HAT.out]; rfl, by go_num, by omega, rfl⟩
        case measure => simp [intOf] <;> omega
      | false =>
        go_wp2_with fail
        go_roundw
        case rel => exact ⟨k + 1, q, by rw [HAT.out]; rfl, by go_num, by omega, rfl⟩
        case measure => simp [intOf] <;> omega
    · obtain rfl : k = n := by omega
      have htk : L.take k = L := List.take_of_length_le (by rw [HN.out]; exact Nat.le_refl _)
      rw [htk]
      clear htk
      by_cases hE : E = 0
      · obtain ⟨f1, f2⟩ := H3.out hE
        subst hE f1
        rw [f2]
        clear f2
        go_wp2_with fail
        (with_reducible refine (lives07_any _).mono ?_); rintro e w4 ⟨rfl, b4⟩; have s4 : w2.heap.size ≤ w4.heap.size := (by have := b4.size; first | omega | (simp at this; omega)); have B4 := Lib.hid (show Below w.heap.size w w4 from below_tr (by (repeat (first | with_reducible exact Below.refl _ _ | ((with_reducible refine Below.setCell ?_ ?_ _); rotate_left; (focus (first | omega | (simp; done) | (simp; omega)))) | ((with_reducible refine Below.alloc ?_ ?_ _); rotate_left; (focus (first | omega | (simp; done) | (simp; omega)))) | (with_reducible refine Below.drew ?_) | (with_reducible refine below_drewN ?_ _) | ((with_reducible refine Below.trans ?_ (Below.mono B2.out ?_)); rotate_left; (focus (first | omega | (simp; done) | (simp; omega))))))) (b4.mono (by first | omega | (simp; done) | (simp; omega)))); clear b4
        go_wp2_with fail
        go_ret
        exact ⟨rfl, by (repeat (first | with_reducible exact Below.refl _ _ | ((with_reducible refine Below.setCell ?_ ?_ _); rotate_left; (focus (first | omega | (simp; done) | (simp; omega)))) | ((with_reducible refine Below.alloc ?_ ?_ _); rotate_left; (focus (first | omega | (simp; done) | (simp; omega)))) | (with_reducible refine Below.drew ?_) | (with_reducible refine below_drewN ?_ _) | ((with_reducible refine Below.trans ?_ (Below.mono B4.out ?_)); rotate_left; (focus (first | omega | (simp; done) | (simp; omega))))))⟩
      · have hE' : (E != 0) = true := by simpa using hE
        generalize L.any (fun y => y != 0) = S at *
        go_wp2_with fail
        (with_reducible refine (lives07_any _).mono ?_); rintro e w4 ⟨rfl, b4⟩; have s4 : w2.heap.size ≤ w4.heap.size := (by have := b4.size; first | omega | (simp at this; omega)); have B4 := Lib.hid (show Below w.heap.size w w4 from below_tr (by (repeat (first | with_reducible exact Below.refl _ _ | ((with_reducible refine Below.setCell ?_ ?_ _); rotate_left; (focus (first | omega | (simp; done) | (simp; omega)))) | ((with_reducible refine Below.alloc ?_ ?_ _); rotate_left; (focus (first | omega | (simp; done) | (simp; omega)))) | (with_reducible refine Below.drew ?_) | (with_reducible refine below_drewN ?_ _) | ((with_reducible refine Below.trans ?_ (Below.mono B2.out ?_)); rotate_left; (focus (first | omega | (simp; done) | (simp; omega))))))) (b4.mono (by first | omega | (simp; done) | (simp; omega)))); clear b4
        go_wp2_with fail
        go_ret
        exact ⟨rfl, by (repeat (first | with_reducible exact Below.refl _ _ | ((with_reducible refine Below.setCell ?_ ?_ _); rotate_left; (focus (first | omega | (simp; done) | (simp; omega)))) | ((with_reducible refine Below.alloc ?_ ?_ _); rotate_left; (focus (first | omega | (simp; done) | (simp; omega)))) | (with_reducible refine Below.drew ?_) | (with_reducible refine below_drewN ?_ _) | ((with_reducible refine Below.trans ?_ (Below.mono B4.out ?_)); rotate_left; (focus (first | omega | (simp; done) | (simp; omega))))))⟩

set_option maxRecDepth 100000 in
set_option maxHeartbeats 4000000 in
theorem pickCoefs_walk {w : World} (v : Value) (l : List Int) (h : ArgInts .u64 w v l) (a : Int) (ha : (Lit.int .i64 a).wf = true) (d : Int) (_hd : (Lit.int .i64 d).wf = true) (t : Int) (_ht : (Lit.int .i64 t).wf = true) :
    Calls Try.prog 5 #[v, .int .i64 a, .int .i64 d, .int .i64 t] w fun e w' => e = .returned (.bool true) ∧ Below w.heap.size w w' := by
  have ha := wf_ok ha
  clear _ht _hd
  by_cases hl : (300 : Int) < l.length
  · obtain ⟨ad, c, rfl, _⟩ := argInts_shape7 h
    generalize l.length = m at *
    clear ha h
    go_enter Try.func5, Try.ntmps5
    go_wp2_with fail
    (with_reducible refine (lives07_any _).mono ?_); rintro e w1 ⟨rfl, b1⟩; have s1 : w.heap.size ≤ w1.heap.size := (by have := b1.size; first | omega | (simp at this; omega)); have B1 := Lib.hid (show Below w.heap.size w w1 from below_tr (by (repeat (first | with_reducible exact Below.refl _ _ | ((with_reducible refine Below.setCell ?_ ?_ _); rotate_left; (focus (first | omega | (simp; done) | (simp; omega)))) | ((with_reducible refine Below.alloc ?_ ?_ _); rotate_left; (focus (first | omega | (simp; done) | (simp; omega)))) | (with_reducible refine Below.drew ?_) | (with_reducible refine below_drewN ?_ _)))) (b1.mono (by first | omega | (simp; done) | (simp; omega)))); clear b1
    go_wp2_with fail
    go_ret
    exact ⟨rfl, by (repeat (first | with_reducible exact Below.refl _ _ | ((with_reducible refine Below.setCell ?_ ?_ _); rotate_left; (focus (first | omega | (simp; done) | (simp; omega)))) | ((with_reducible refine Below.alloc ?_ ?_ _); rotate_left; (focus (first | omega | (simp; done) | (simp; omega)))) | (with_reducible refine Below.drew ?_) | (with_reducible refine below_drewN ?_ _) | ((with_reducible refine Below.trans ?_ (Below.mono B1.out ?_)); rotate_left; (focus (first | omega | (simp; done) | (simp; omega))))))⟩
  · have i0 := h.ints (by omega)
    have hu := argsU7 h
    clear h
    obtain ⟨ad, c, rfl⟩ := i0.shape
    refine pickCoefs_mid ad l.length c l (coefV l a d t).1 a d t (coefV l a d t).2.1 (coefV l a d t).2.2 i0 (by omega) (fun W hW => coefs_any _ l a d t W hW hu ha) (fun W hW => rcoefs_any _ l a d t W hW hu ha) ?_ ?_
    · intro hE
      unfold coefV at hE ⊢
      by_cases hb : coefBad a d t
      · rw [if_pos hb] at hE; exact absurd hE (by decide)
      · rw [if_neg hb] at hE ⊢
        obtain ⟨h1, h2⟩ := (coefL_in hu t.toNat a).1 hE
        refine ⟨?_, h2⟩
        unfold coefBad at hb
        rw [h1]
        omega
    · unfold coefV
      by_cases hb : coefBad a d t
      · rw [if_pos hb]; intro x hx; simp at hx
      · rw [if_neg hb]
        exact (coefL_in hu t.toNat a).2
end Go.Proofs.Ytoljilbldkbjpaa
