/-
  Walk of QuantShares.
-/
import Derived.Test.YtoljilbldkbjpaaLaws19
import Derived.Test.YtoljilbldkbjpaaArgPair
namespace Go.Proofs.Ytoljilbldkbjpaa
open Go.RowKit

theorem oddP_next {l : List (Int × Int)} {k : Nat} {x line : Int × Int} (h : l[k]? = some x) : oddP line (l.take (k + 1)) = oddP line (l.take k) + if 0 < oddI x line then 1 else 0 := by
  unfold oddP
  rw [take_snoc' h, List.countP_append, List.countP_singleton]
  by_cases h : 0 < oddI x line
  · rw [decide_eq_true h, if_pos h]; rfl
  · rw [decide_eq_false h, if_neg h]; rfl

theorem oddP_le {l : List (Int × Int)} {line : Int × Int} : oddP line l ≤ l.length := List.countP_le_length

theorem mul_100 {a b : Int} (h1 : 0 ≤ a ∧ a ≤ 100) (h2 : 0 ≤ b ∧ b ≤ 1000) : 0 ≤ a * b ∧ a * b ≤ 100000 := by
  refine ⟨Int.mul_nonneg h1.1 h2.1, ?_⟩
  have := Int.mul_le_mul (a := a) (b := b) (c := 100) (d := 1000) h1.2 h2.2 h2.1 (by omega)
  omega

set_option maxRecDepth 100000 in
set_option maxHeartbeats 8000000 in
theorem quantShares_mid {w : World} (ad : Option Addr) (m c : Nat) (l : List (Int × Int)) (p t x y E : Int) (i0 : PairsR w (.slice ad m c) l) (hm : (m : Int) ≤ 100)
    (h1 : ∀ W, PairsR W (.slice ad m c) l → Calls Try.prog 34 #[.slice ad m c, .int .i64 p, .int .i64 t] W fun e w' => e = .returned (.tuple #[.agg #[.int .i64 x, .int .i64 y], .int .i64 E]) ∧ Below W.heap.size W w')
    (he : E ≠ 0 → x = 0 ∧ y = 0)
    (hs : E = 0 → scoreB (x, y) = true ∧ allS l = true ∧ (0 ≤ p ∧ p ≤ 1000) ∧ (0 ≤ t ∧ t ≤ 1000) ∧ (oddP (x, y) l : Int) * t ≤ p * m ∧ p * m < (countP (x, y) l : Int) * t) :
    Calls Try.prog 9 #[.slice ad m c, .int .i64 p, .int .i64 t] w fun e w' => e = .returned (.bool true) ∧ Below w.heap.size w w' := by
  have H1 := Lib.hid h1
  have I0 := Lib.hid i0
  obtain ⟨hN, _⟩ := i0.capN
  clear h1 i0
  by_cases hE : E = 0
  · subst hE
    obtain ⟨s1, s2, p1, t1, f1, f2⟩ := hs rfl
    have HC := Lib.hid (fun W (hW : PairsR W (.slice ad m c) l) => qcount_any _ l x y W hW (by omega))
    rw [show countV l (x, y) = (countP (x, y) l : Int) by unfold countV countOk; rw [s1, s2]; rfl, show countE l (x, y) = 0 by unfold countE countOk; rw [s1, s2]; rfl] at HC
    have HS := Lib.hid s2
    have HOD := Lib.hid (fun r s W (h1 : scoreB (r, s) = true) => rodder_any r s x y W (scoreB_is.1 h1).2.1 (by have := (scoreB_is.1 h1).1; omega) (scoreB_is.1 s1).2.1 (by have := (scoreB_is.1 s1).1; omega))
    have c1 := countP_le (l := l) (line := (x, y))
    have c2 := oddP_le (l := l) (line := (x, y))
    have m1 := mul_100 (a := (countP (x, y) l : Int)) (b := t) (by omega) t1
    have m2 := mul_100 (a := (oddP (x, y) l : Int)) (b := t) (by omega) t1
    have m3 := mul_100 (a := (m : Int)) (b := p) (by omega) p1
    rw [Int.mul_comm (m : Int) p] at m3
    obtain ⟨C, hC⟩ : ∃ C, countP (x, y) l = C := ⟨_, rfl⟩
    rw [hC] at HC m1 f2
    have w1 : wrap64 ((C : Int) * t) = (C : Int) * t := IntWalk.wrap64_in _ (by omega)
    have w2 : wrap64 ((oddP (x, y) l : Int) * t) = (oddP (x, y) l : Int) * t := IntWalk.wrap64_in _ (by omega)
    have w3 : wrap64 (p * (m : Int)) = p * (m : Int) := IntWalk.wrap64_in _ (by omega)
    have HN := Lib.hid hN
    have W1 := Lib.hid w1; have W2 := Lib.hid w2; have W3 := Lib.hid w3; have F1 := Lib.hid f1; have F2 := Lib.hid f2
    clear m1 m2 m3 hC s1 s2 p1 t1 hs he c1 c2 w1 w2 w3 f1 f2 hN
    go_enter Try.func9, Try.ntmps9
    go_wp2_with fail
    (with_reducible refine (H1.out _ (I0.out.below (by (repeat (first | with_reducible exact Below.refl _ _ | ((with_reducible refine Below.setCell ?_ ?_ _); rotate_left; (focus (first | omega | (simp; done) | (simp; omega)))) | ((with_reducible refine Below.alloc ?_ ?_ _); rotate_left; (focus (first | omega | (simp; done) | (simp; omega)))) | (with_reducible refine Below.drew ?_) | (with_reducible refine below_drewN ?_ _)))))).mono ?_); rintro e w1 ⟨rfl, b1⟩; have s1 : w.heap.size ≤ w1.heap.size := (by have := b1.size; first | omega | (simp at this; omega)); have B1 := Lib.hid (show Below w.heap.size w w1 from below_tr (by (repeat (first | with_reducible exact Below.refl _ _ | ((with_reducible refine Below.setCell ?_ ?_ _); rotate_left; (focus (first | omega | (simp; done) | (simp; omega)))) | ((with_reducible refine Below.alloc ?_ ?_ _); rotate_left; (focus (first | omega | (simp; done) | (simp; omega)))) | (with_reducible refine Below.drew ?_) | (with_reducible refine below_drewN ?_ _)))) (b1.mono (by first | omega | (simp; done) | (simp; omega)))); clear b1
    have I1 := Lib.hid (I0.out.below (show Below w.heap.size w w1 from B1.out))
    go_wp2_with fail
    (with_reducible refine (HC.out _ (I1.out.below (by (repeat (first | with_reducible exact Below.refl _ _ | ((with_reducible refine Below.setCell ?_ ?_ _); rotate_left; (focus (first | omega | (simp; done) | (simp; omega)))) | ((with_reducible refine Below.alloc ?_ ?_ _); rotate_left; (focus (first | omega | (simp; done) | (simp; omega)))) | (with_reducible refine Below.drew ?_) | (with_reducible refine below_drewN ?_ _)))))).mono ?_); rintro e w2 ⟨rfl, b2⟩; have s2 : w1.heap.size + 1 ≤ w2.heap.size := (by have := b2.size; first | omega | (simp at this; omega)); have B2 := Lib.hid (show Below w.heap.size w w2 from below_tr (by (repeat (first | with_reducible exact Below.refl _ _ | ((with_reducible refine Below.setCell ?_ ?_ _); rotate_left; (focus (first | omega | (simp; done) | (simp; omega)))) | ((with_reducible refine Below.alloc ?_ ?_ _); rotate_left; (focus (first | omega | (simp; done) | (simp; omega)))) | (with_reducible refine Below.drew ?_) | (with_reducible refine below_drewN ?_ _) | ((with_reducible refine Below.trans ?_ (Below.mono B1.out ?_)); rotate_left; (focus (first | omega | (simp; done) | (simp; omega))))))) (b2.mono (by first | omega | (simp; done) | (simp; omega)))); have c2_0 : w2.cell? ⟨w1.heap.size, 0, none⟩ = some (.int .i64 x) := (b2.cell (by first | omega | (simp; done) | (simp; omega))).trans (by go_simp); have c2_1 : w2.cell? ⟨w1.heap.size, 1, none⟩ = some (.int .i64 y) := (b2.cell (by first | omega | (simp; done) | (simp; omega))).trans (by go_simp); have l2_0 : w1.heap.size < w2.heap.size := (by omega); have n2_0 : w1.heap.size ≠ w2.heap.size := (by omega); have m2_0 : w2.heap.size ≠ w1.heap.size := (by omega); have I1 := Lib.hid ((I1.out.below (by (repeat (first | with_reducible exact Below.refl _ _ | ((with_reducible refine Below.setCell ?_ ?_ _); rotate_left; (focus (first | omega | (simp; done) | (simp; omega)))) | ((with_reducible refine Below.alloc ?_ ?_ _); rotate_left; (focus (first | omega | (simp; done) | (simp; omega)))) | (with_reducible refine Below.drew ?_) | (with_reducible refine below_drewN ?_ _))))).below b2); clear b2
    go_wp2_with fail
    go_loopw [11, 12] (fun c i wr => ∃ k : Nat, i = .int .i64 k ∧ c = .int .i64 (oddP (x, y) (l.take k)) ∧ k ≤ m ∧ Below w2.heap.size w2 wr ∧ wr.cell? ⟨w1.heap.size, 0, none⟩ = some (.int .i64 x) ∧ wr.cell? ⟨w1.heap.size, 1, none⟩ = some (.int .i64 y) ∧ w1.heap.size < wr.heap.size) (fun _ i _ => m - (intOf i).toNat)
    case atStart => exact ⟨0, rfl, rfl, by omega, Below.refl _ _, by go_simp, by go_simp, by omega⟩
    case round =>
      obtain ⟨k, rfl, rfl, hk, hbr, g0, g1, hG⟩ := hrel
      have HBR := Lib.hid hbr
      have hsz := hbr.size
      have i1 : (0 : Int) ≤ (k : Int) := by omega
      have hck : oddP (x, y) (l.take k) ≤ k := by have := oddP_le (l := l.take k) (line := (x, y)); rw [List.length_take] at this; omega
      by_cases hlt : k < m
      · obtain ⟨⟨r, s⟩, hx⟩ := getElem?_ex (l := l) (k := k) (by rw [← HN.out]; exact hlt)
        obtain ⟨b, o, rfl⟩ := I1.out.addr (by rw [← HN.out]; omega)
        obtain ⟨hb, c0, c1⟩ := I1.out.at hx
        have e0 := (hbr.cell (p := ⟨b, o + k * 2, none⟩) hb).trans c0
        have e1 := (hbr.cell (p := ⟨b, o + k * 2 + 1, none⟩) hb).trans c1
        have i2 : (k : Int) < (m : Int) := by omega
        have hbz : b < wr.heap.size := by omega
        have hbz2 : b ≠ wr.heap.size := by omega
        have HNX := Lib.hid (oddP_next (line := (x, y)) hx)
        have HO2 := Lib.hid (fun W => HOD.out r s W (allS_mem HS.out (List.mem_of_getElem? hx)))
        generalize oddP (x, y) (l.take k) = D at *
        clear c0 c1 hx hbr
        generalize oddI (r, s) (x, y) = R at *
        by_cases hR : 0 < R
        · have HC2 := Lib.hid (HNX.out.trans (by rw [if_pos hR]))
          clear HNX
          go_wp2_with fail
          refine wp_region_tail_quiet 5 (by kernel_rfl) (by kernel_rfl) ?_; simp only [List.take_succ_cons, List.take_zero, List.drop_succ_cons, List.drop_zero]; (repeat (go_big_quiet_step (fail))); refine wpQuiet_nil ?_
          go_wp2_with fail
          (with_reducible refine (HO2.out _).mono ?_)
          rintro e w4 ⟨rfl, b4⟩
          have B4 := Lib.hid (show Below wr.heap.size wr w4 from below_tr (by (repeat (first | with_reducible exact Below.refl _ _ | ((with_reducible refine Below.setCell ?_ ?_ _); rotate_left; (focus (first | omega | (simp; done) | (simp; omega)))) | ((with_reducible refine Below.alloc ?_ ?_ _); rotate_left; (focus (first | omega | (simp; done) | (simp; omega)))) | (with_reducible refine Below.drew ?_) | (with_reducible refine below_drewN ?_ _)))) (b4.mono (by first | omega | (simp; done) | (simp; omega))))
          have z0 := (B4.out.cell (p := ⟨w1.heap.size, 0, none⟩) hG).trans g0
          have z1 := (B4.out.cell (p := ⟨w1.heap.size, 1, none⟩) hG).trans g1
          have s4 := B4.out.size
          clear b4
          go_wp2_with fail
          go_roundw
          case rel => exact ⟨k + 1, by go_num, by rw [HC2.out]; go_num, by omega, by (repeat (first | with_reducible exact Below.refl _ _ | ((with_reducible refine Below.setCell ?_ ?_ _); rotate_left; (focus (first | omega | (simp; done) | (simp; omega)))) | ((with_reducible refine Below.alloc ?_ ?_ _); rotate_left; (focus (first | omega | (simp; done) | (simp; omega)))) | (with_reducible refine Below.drew ?_) | (with_reducible refine below_drewN ?_ _) | ((with_reducible refine Below.trans ?_ (Below.mono B4.out ?_)); rotate_left; (focus (first | omega | (simp; done) | (simp; omega)))) | ((with_reducible refine Below.trans ?_ (Below.mono HBR.out ?_)); rotate_left; (focus (first | omega | (simp; done) | (simp; omega)))))), z0, z1, by omega⟩
          case measure => simp [intOf] <;> omega
        · have HC2 := Lib.hid (HNX.out.trans (by rw [if_neg hR]))
          clear HNX
          go_wp2_with fail
          refine wp_region_tail_quiet 5 (by kernel_rfl) (by kernel_rfl) ?_; simp only [List.take_succ_cons, List.take_zero, List.drop_succ_cons, List.drop_zero]; (repeat (go_big_quiet_step (fail))); refine wpQuiet_nil ?_
          go_wp2_with fail
          (with_reducible refine (HO2.out _).mono ?_)
          rintro e w4 ⟨rfl, b4⟩
          have B4 := Lib.hid (show Below wr.heap.size wr w4 from below_tr (by (repeat (first | with_reducible exact Below.refl _ _ | ((with_reducible refine Below.setCell ?_ ?_ _); rotate_left; (focus (first | omega | (simp; done) | (simp; omega)))) | ((with_reducible refine Below.alloc ?_ ?_ _); rotate_left; (focus (first | omega | (simp; done) | (simp; omega)))) | (with_reducible refine Below.drew ?_) | (with_reducible refine below_drewN ?_ _)))) (b4.mono (by first | omega | (simp; done) | (simp; omega))))
          have z0 := (B4.out.cell (p := ⟨w1.heap.size, 0, none⟩) hG).trans g0
          have z1 := (B4.out.cell (p := ⟨w1.heap.size, 1, none⟩) hG).trans g1
          have s4 := B4.out.size
          clear b4
          go_wp2_with fail
          go_roundw
          case rel => exact ⟨k + 1, by go_num, by rw [HC2.out]; rfl, by omega, by (repeat (first | with_reducible exact Below.refl _ _ | ((with_reducible refine Below.setCell ?_ ?_ _); rotate_left; (focus (first | omega | (simp; done) | (simp; omega)))) | ((with_reducible refine Below.alloc ?_ ?_ _); rotate_left; (focus (first | omega | (simp; done) | (simp; omega)))) | (with_reducible refine Below.drew ?_) | (with_reducible refine below_drewN ?_ _) | ((with_reducible refine Below.trans ?_ (Below.mono B4.out ?_)); rotate_left; (focus (first | omega | (simp; done) | (simp; omega)))) | ((with_reducible refine Below.trans ?_ (Below.mono HBR.out ?_)); rotate_left; (focus (first | omega | (simp; done) | (simp; omega)))))), z0, z1, by omega⟩
          case measure => simp [intOf] <;> omega
      · obtain rfl : k = m := by omega
        have htk : l.take k = l := List.take_of_length_le (by rw [← HN.out]; exact Nat.le_refl _)
        rw [htk]
        have w1 := W1.out; have w2 := W2.out; have w3 := W3.out; have f1 := F1.out; have f2 := F2.out
        generalize oddP (x, y) l = D at *
        have BW := Lib.hid (below_tr B2.out (HBR.out.mono B2.out.size))
        clear htk hbr
        go_wp2_with fail
        (with_reducible refine (lives19_any _).mono ?_)
        rintro e w6 ⟨rfl, b6⟩
        have B6 := Lib.hid (show Below w.heap.size w w6 from below_tr BW.out (below_tr (by (repeat (first | with_reducible exact Below.refl _ _ | ((with_reducible refine Below.setCell ?_ ?_ _); rotate_left; (focus (first | omega | (simp; done) | (simp; omega)))) | ((with_reducible refine Below.alloc ?_ ?_ _); rotate_left; (focus (first | omega | (simp; done) | (simp; omega)))) | (with_reducible refine Below.drew ?_) | (with_reducible refine below_drewN ?_ _)))) (b6.mono (by first | omega | (simp; done) | (simp; omega)))))
        go_wp2_with fail
        go_ret
        exact ⟨rfl, B6.out⟩
  · obtain ⟨rfl, rfl⟩ := he hE
    have j1 : (E != 0) = true := by simpa using hE
    clear hs he hE hN
    go_enter Try.func9, Try.ntmps9
    go_wp2_with fail
    (with_reducible refine (H1.out _ (I0.out.below (by (repeat (first | with_reducible exact Below.refl _ _ | ((with_reducible refine Below.setCell ?_ ?_ _); rotate_left; (focus (first | omega | (simp; done) | (simp; omega)))) | ((with_reducible refine Below.alloc ?_ ?_ _); rotate_left; (focus (first | omega | (simp; done) | (simp; omega)))) | (with_reducible refine Below.drew ?_) | (with_reducible refine below_drewN ?_ _)))))).mono ?_); rintro e w1 ⟨rfl, b1⟩; have s1 : w.heap.size ≤ w1.heap.size := (by have := b1.size; first | omega | (simp at this; omega)); have B1 := Lib.hid (show Below w.heap.size w w1 from below_tr (by (repeat (first | with_reducible exact Below.refl _ _ | ((with_reducible refine Below.setCell ?_ ?_ _); rotate_left; (focus (first | omega | (simp; done) | (simp; omega)))) | ((with_reducible refine Below.alloc ?_ ?_ _); rotate_left; (focus (first | omega | (simp; done) | (simp; omega)))) | (with_reducible refine Below.drew ?_) | (with_reducible refine below_drewN ?_ _)))) (b1.mono (by first | omega | (simp; done) | (simp; omega)))); clear b1
    go_wp2_with fail
    (with_reducible refine (lives19_any _).mono ?_); rintro e w2 ⟨rfl, b2⟩; have s2 : w1.heap.size + 1 ≤ w2.heap.size := (by have := b2.size; first | omega | (simp at this; omega)); have B2 := Lib.hid (show Below w.heap.size w w2 from below_tr (by (repeat (first | with_reducible exact Below.refl _ _ | ((with_reducible refine Below.setCell ?_ ?_ _); rotate_left; (focus (first | omega | (simp; done) | (simp; omega)))) | ((with_reducible refine Below.alloc ?_ ?_ _); rotate_left; (focus (first | omega | (simp; done) | (simp; omega)))) | (with_reducible refine Below.drew ?_) | (with_reducible refine below_drewN ?_ _) | ((with_reducible refine Below.trans ?_ (Below.mono B1.out ?_)); rotate_left; (focus (first | omega | (simp; done) | (simp; omega))))))) (b2.mono (by first | omega | (simp; done) | (simp; omega)))); clear b2
    go_wp2_with fail
    go_ret
    exact ⟨rfl, by (repeat (first | with_reducible exact Below.refl _ _ | ((with_reducible refine Below.setCell ?_ ?_ _); rotate_left; (focus (first | omega | (simp; done) | (simp; omega)))) | ((with_reducible refine Below.alloc ?_ ?_ _); rotate_left; (focus (first | omega | (simp; done) | (simp; omega)))) | (with_reducible refine Below.drew ?_) | (with_reducible refine below_drewN ?_ _) | ((with_reducible refine Below.trans ?_ (Below.mono B2.out ?_)); rotate_left; (focus (first | omega | (simp; done) | (simp; omega))))))⟩

set_option maxRecDepth 100000 in
set_option maxHeartbeats 4000000 in
theorem quantShares_walk {w : World} (v : Value) (rows : List (List Int)) (h : ArgRows 2 w v rows) (p : Int) (hp : (Lit.int .i64 p).wf = true) (t : Int) (ht : (Lit.int .i64 t).wf = true) :
    Calls Try.prog 9 #[v, .int .i64 p, .int .i64 t] w fun e w' => e = .returned (.bool true) ∧ Below w.heap.size w w' := by
  have hp := wf_ok hp
  have ht := wf_ok ht
  by_cases hl : (100 : Int) < rows.length
  · obtain ⟨ad, c, rfl, _⟩ := h.shape
    generalize rows.length = m at *
    clear h hp ht
    go_enter Try.func9, Try.ntmps9
    go_wp2_with fail
    (with_reducible refine (lives19_any _).mono ?_); rintro e w1 ⟨rfl, b1⟩; have s1 : w.heap.size ≤ w1.heap.size := (by have := b1.size; first | omega | (simp at this; omega)); have B1 := Lib.hid (show Below w.heap.size w w1 from below_tr (by (repeat (first | with_reducible exact Below.refl _ _ | ((with_reducible refine Below.setCell ?_ ?_ _); rotate_left; (focus (first | omega | (simp; done) | (simp; omega)))) | ((with_reducible refine Below.alloc ?_ ?_ _); rotate_left; (focus (first | omega | (simp; done) | (simp; omega)))) | (with_reducible refine Below.drew ?_) | (with_reducible refine below_drewN ?_ _)))) (b1.mono (by first | omega | (simp; done) | (simp; omega)))); clear b1
    go_wp2_with fail
    go_ret
    exact ⟨rfl, by (repeat (first | with_reducible exact Below.refl _ _ | ((with_reducible refine Below.setCell ?_ ?_ _); rotate_left; (focus (first | omega | (simp; done) | (simp; omega)))) | ((with_reducible refine Below.alloc ?_ ?_ _); rotate_left; (focus (first | omega | (simp; done) | (simp; omega)))) | (with_reducible refine Below.drew ?_) | (with_reducible refine below_drewN ?_ _) | ((with_reducible refine Below.trans ?_ (Below.mono B1.out ?_)); rotate_left; (focus (first | omega | (simp; done) | (simp; omega))))))⟩
  · have i0 := h.pairs (by omega)
    have hlen : (rows.map pairOf).length = rows.length := by rw [List.length_map]
    obtain ⟨ad, c, rfl, _⟩ := h.shape
    clear h
    generalize rows.map pairOf = l at *
    obtain ⟨⟨x, y⟩, hxy⟩ : ∃ X, lineV l p t = X := ⟨_, rfl⟩
    refine quantShares_mid ad rows.length c l p t x y (lineE l p t) i0 (by omega) (fun W hW => ?_) (fun hE => ?_) (fun hE => ?_)
    · have h := qline_any _ l p t W hW (by omega) hp ht
      rw [hxy] at h
      exact h
    · rw [lineV_no hE] at hxy
      injection hxy with e1 e2
      exact ⟨e1.symm, e2.symm⟩
    · obtain ⟨a1, a2, a3⟩ := shares hE
      obtain ⟨b1, b2⟩ := line_ok hE
      unfold indexBad at b1
      rw [hxy] at a1 a2 a3
      rw [hlen] at a2 a3 b1
      exact ⟨a1, b2, by omega, by omega, a2, a3⟩
end Go.Proofs.Ytoljilbldkbjpaa
