/-
  Walks of the reference's Count, of quant.Share and of the reference's Share.
-/
import Derived.Test.YtoljilbldkbjpaaQuantC
namespace Go.Proofs.Ytoljilbldkbjpaa
open Go.RowKit

set_option maxRecDepth 100000 in
set_option maxHeartbeats 8000000 in
theorem rcount19_any (v : Value) (l : List (Int × Int)) (p q : Int) (w : World) (h : PairsR w v l) (hl : l.length ≤ 10000) :
    Calls Try.prog 29 #[v, .agg #[.int .i64 p, .int .i64 q]] w fun e w' => e = .returned (.tuple #[.int .i64 (countV l (p, q)), .int .i64 (countE l (p, q))]) ∧ Below w.heap.size w w' := by
  have HX := Lib.hid h
  obtain ⟨xa, xc, rfl⟩ := h.shape
  have HI := Lib.hid (fun W => ris13_any p q W)
  have HALL := Lib.hid (fun W (hW : PairsR W (.slice xa l.length xc) l) => rall13_any _ l W hW)
  obtain ⟨n, hn⟩ : ∃ n, l.length = n := ⟨_, rfl⟩
  rw [hn] at HX HALL hl ⊢
  have HN := Lib.hid hn
  clear h hn
  cases hs : scoreB (p, q) with
  | false =>
    have e0 : countOk l (p, q) = false := by unfold countOk; rw [hs]; rfl
    have e1 : countV l (p, q) = 0 := by unfold countV; rw [e0]; rfl
    have e2 : countE l (p, q) = 130 := by unfold countE; rw [e0]; rfl
    rw [e1, e2]
    rw [hs] at HI
    clear e0 e1 e2 hs HN HALL
    go_enter Try.func29, Try.ntmps29
    go_wp2_with fail
    (with_reducible refine (HI.out _).mono ?_); rintro e w1 ⟨rfl, b1⟩; have s1 : w.heap.size + 1 ≤ w1.heap.size := (by have := b1.size; first | omega | (simp at this; omega)); have B1 := Lib.hid (show Below w.heap.size w w1 from below_tr (by (repeat (first | with_reducible exact Below.refl _ _ | ((with_reducible refine Below.setCell ?_ ?_ _); rotate_left; (focus (first | omega | (simp; done) | (simp; omega)))) | ((with_reducible refine Below.alloc ?_ ?_ _); rotate_left; (focus (first | omega | (simp; done) | (simp; omega)))) | (with_reducible refine Below.drew ?_) | (with_reducible refine below_drewN ?_ _)))) (b1.mono (by first | omega | (simp; done) | (simp; omega)))); clear b1
    go_wp2_with fail
    go_ret2
    exact ⟨rfl, by (repeat (first | with_reducible exact Below.refl _ _ | ((with_reducible refine Below.setCell ?_ ?_ _); rotate_left; (focus (first | omega | (simp; done) | (simp; omega)))) | ((with_reducible refine Below.alloc ?_ ?_ _); rotate_left; (focus (first | omega | (simp; done) | (simp; omega)))) | (with_reducible refine Below.drew ?_) | (with_reducible refine below_drewN ?_ _) | ((with_reducible refine Below.trans ?_ (Below.mono B1.out ?_)); rotate_left; (focus (first | omega | (simp; done) | (simp; omega))))))⟩
  | true =>
    rw [hs] at HI
    cases ha : allS l with
    | false =>
      have e0 : countOk l (p, q) = false := by unfold countOk; rw [hs, ha]; rfl
      have e1 : countV l (p, q) = 0 := by unfold countV; rw [e0]; rfl
      have e2 : countE l (p, q) = 130 := by unfold countE; rw [e0]; rfl
      rw [e1, e2]
      rw [ha] at HALL
      clear e0 e1 e2 hs HN ha
      go_enter Try.func29, Try.ntmps29
      go_wp2_with fail
      (with_reducible refine (HI.out _).mono ?_); rintro e w1 ⟨rfl, b1⟩; have s1 : w.heap.size + 1 ≤ w1.heap.size := (by have := b1.size; first | omega | (simp at this; omega)); have B1 := Lib.hid (show Below w.heap.size w w1 from below_tr (by (repeat (first | with_reducible exact Below.refl _ _ | ((with_reducible refine Below.setCell ?_ ?_ _); rotate_left; (focus (first | omega | (simp; done) | (simp; omega)))) | ((with_reducible refine Below.alloc ?_ ?_ _); rotate_left; (focus (first | omega | (simp; done) | (simp; omega)))) | (with_reducible refine Below.drew ?_) | (with_reducible refine below_drewN ?_ _)))) (b1.mono (by first | omega | (simp; done) | (simp; omega)))); clear b1
      go_wp2_with fail
      (with_reducible refine (HALL.out _ (HX.out.below (by (repeat (first | with_reducible exact Below.refl _ _ | ((with_reducible refine Below.setCell ?_ ?_ _); rotate_left; (focus (first | omega | (simp; done) | (simp; omega)))) | ((with_reducible refine Below.alloc ?_ ?_ _); rotate_left; (focus (first | omega | (simp; done) | (simp; omega)))) | (with_reducible refine Below.drew ?_) | (with_reducible refine below_drewN ?_ _) | ((with_reducible refine Below.trans ?_ (Below.mono B1.out ?_)); rotate_left; (focus (first | omega | (simp; done) | (simp; omega))))))))).mono ?_); rintro e w2 ⟨rfl, b2⟩; have s2 : w1.heap.size ≤ w2.heap.size := (by have := b2.size; first | omega | (simp at this; omega)); have B2 := Lib.hid (show Below w.heap.size w w2 from below_tr (by (repeat (first | with_reducible exact Below.refl _ _ | ((with_reducible refine Below.setCell ?_ ?_ _); rotate_left; (focus (first | omega | (simp; done) | (simp; omega)))) | ((with_reducible refine Below.alloc ?_ ?_ _); rotate_left; (focus (first | omega | (simp; done) | (simp; omega)))) | (with_reducible refine Below.drew ?_) | (with_reducible refine below_drewN ?_ _) | ((with_reducible refine Below.trans ?_ (Below.mono B1.out ?_)); rotate_left; (focus (first | omega | (simp; done) | (simp; omega))))))) (b2.mono (by first | omega | (simp; done) | (simp; omega)))); clear b2
      go_wp2_with fail
      go_ret2
      exact ⟨rfl, by (repeat (first | with_reducible exact Below.refl _ _ | ((with_reducible refine Below.setCell ?_ ?_ _); rotate_left; (focus (first | omega | (simp; done) | (simp; omega)))) | ((with_reducible refine Below.alloc ?_ ?_ _); rotate_left; (focus (first | omega | (simp; done) | (simp; omega)))) | (with_reducible refine Below.drew ?_) | (with_reducible refine below_drewN ?_ _) | ((with_reducible refine Below.trans ?_ (Below.mono B2.out ?_)); rotate_left; (focus (first | omega | (simp; done) | (simp; omega))))))⟩
    | true =>
      have e0 : countOk l (p, q) = true := by unfold countOk; rw [hs, ha]; rfl
      have e1 : countV l (p, q) = (countP (p, q) l : Int) := by unfold countV; rw [e0]; rfl
      have e2 : countE l (p, q) = 0 := by unfold countE; rw [e0]; rfl
      rw [e1, e2]
      rw [ha] at HALL
      have HS := Lib.hid ha
      have HOD := Lib.hid (fun r s W (h1 : scoreB (r, s) = true) => rodder_any r s p q W (scoreB_is.1 h1).2.1 (by have := (scoreB_is.1 h1).1; omega) (scoreB_is.1 hs).2.1 (by have := (scoreB_is.1 hs).1; omega))
      clear e0 e1 e2 hs ha
      go_enter Try.func29, Try.ntmps29
      go_wp2_with fail
      (with_reducible refine (HI.out _).mono ?_); rintro e w1 ⟨rfl, b1⟩; have s1 : w.heap.size + 1 ≤ w1.heap.size := (by have := b1.size; first | omega | (simp at this; omega)); have B1 := Lib.hid (show Below w.heap.size w w1 from below_tr (by (repeat (first | with_reducible exact Below.refl _ _ | ((with_reducible refine Below.setCell ?_ ?_ _); rotate_left; (focus (first | omega | (simp; done) | (simp; omega)))) | ((with_reducible refine Below.alloc ?_ ?_ _); rotate_left; (focus (first | omega | (simp; done) | (simp; omega)))) | (with_reducible refine Below.drew ?_) | (with_reducible refine below_drewN ?_ _)))) (b1.mono (by first | omega | (simp; done) | (simp; omega)))); have c1_0 : w1.cell? ⟨w.heap.size, 0, none⟩ = some (.int .i64 p) := (b1.cell (by first | omega | (simp; done) | (simp; omega))).trans (by go_simp); have c1_1 : w1.cell? ⟨w.heap.size, 1, none⟩ = some (.int .i64 q) := (b1.cell (by first | omega | (simp; done) | (simp; omega))).trans (by go_simp); have l1_0 : w.heap.size < w1.heap.size := (by omega); have n1_0 : w.heap.size ≠ w1.heap.size := (by omega); have m1_0 : w1.heap.size ≠ w.heap.size := (by omega); clear b1
      go_wp2_with fail
      (with_reducible refine (HALL.out _ (HX.out.below (by (repeat (first | with_reducible exact Below.refl _ _ | ((with_reducible refine Below.setCell ?_ ?_ _); rotate_left; (focus (first | omega | (simp; done) | (simp; omega)))) | ((with_reducible refine Below.alloc ?_ ?_ _); rotate_left; (focus (first | omega | (simp; done) | (simp; omega)))) | (with_reducible refine Below.drew ?_) | (with_reducible refine below_drewN ?_ _) | ((with_reducible refine Below.trans ?_ (Below.mono B1.out ?_)); rotate_left; (focus (first | omega | (simp; done) | (simp; omega))))))))).mono ?_); rintro e w2 ⟨rfl, b2⟩; have s2 : w1.heap.size ≤ w2.heap.size := (by have := b2.size; first | omega | (simp at this; omega)); have B2 := Lib.hid (show Below w.heap.size w w2 from below_tr (by (repeat (first | with_reducible exact Below.refl _ _ | ((with_reducible refine Below.setCell ?_ ?_ _); rotate_left; (focus (first | omega | (simp; done) | (simp; omega)))) | ((with_reducible refine Below.alloc ?_ ?_ _); rotate_left; (focus (first | omega | (simp; done) | (simp; omega)))) | (with_reducible refine Below.drew ?_) | (with_reducible refine below_drewN ?_ _) | ((with_reducible refine Below.trans ?_ (Below.mono B1.out ?_)); rotate_left; (focus (first | omega | (simp; done) | (simp; omega))))))) (b2.mono (by first | omega | (simp; done) | (simp; omega)))); have c2_0 : w2.cell? ⟨w.heap.size, 0, none⟩ = some (.int .i64 p) := (b2.cell (by first | omega | (simp; done) | (simp; omega))).trans (by go_simp); have c2_1 : w2.cell? ⟨w.heap.size, 1, none⟩ = some (.int .i64 q) := (b2.cell (by first | omega | (simp; done) | (simp; omega))).trans (by go_simp); have l2_0 : w.heap.size < w2.heap.size := (by omega); have n2_0 : w.heap.size ≠ w2.heap.size := (by omega); have m2_0 : w2.heap.size ≠ w.heap.size := (by omega); clear b2
      go_wp2_with fail
      go_loopw [6, 7] (fun c i wr => ∃ k : Nat, i = .int .i64 k ∧ c = .int .i64 (countP (p, q) (l.take k)) ∧ k ≤ n ∧ Below w.heap.size w wr ∧ wr.cell? ⟨w.heap.size, 0, none⟩ = some (.int .i64 p) ∧ wr.cell? ⟨w.heap.size, 1, none⟩ = some (.int .i64 q) ∧ w.heap.size < wr.heap.size) (fun _ i _ => n - (intOf i).toNat)
      case atStart => exact ⟨0, rfl, rfl, by omega, by (repeat (first | with_reducible exact Below.refl _ _ | ((with_reducible refine Below.setCell ?_ ?_ _); rotate_left; (focus (first | omega | (simp; done) | (simp; omega)))) | ((with_reducible refine Below.alloc ?_ ?_ _); rotate_left; (focus (first | omega | (simp; done) | (simp; omega)))) | (with_reducible refine Below.drew ?_) | (with_reducible refine below_drewN ?_ _) | ((with_reducible refine Below.trans ?_ (Below.mono B2.out ?_)); rotate_left; (focus (first | omega | (simp; done) | (simp; omega)))))), by go_simp, by go_simp, by omega⟩
      case round =>
        obtain ⟨k, rfl, rfl, hk, hbr, g0, g1, hG⟩ := hrel
        have HBR := Lib.hid hbr
        have hsz := hbr.size
        have i1 : (0 : Int) ≤ (k : Int) := by omega
        have hck : countP (p, q) (l.take k) ≤ k := by have := countP_le (l := l.take k) (line := (p, q)); rw [List.length_take] at this; omega
        by_cases hlt : k < n
        · obtain ⟨⟨r, s⟩, hx⟩ := getElem?_ex (l := l) (k := k) (by rw [HN.out]; exact hlt)
          obtain ⟨b, o, rfl⟩ := HX.out.addr (by rw [HN.out]; omega)
          obtain ⟨hb, c0, c1⟩ := HX.out.at hx
          have e0 := (hbr.cell (p := ⟨b, o + k * 2, none⟩) hb).trans c0
          have e1 := (hbr.cell (p := ⟨b, o + k * 2 + 1, none⟩) hb).trans c1
          have i2 : (k : Int) < (n : Int) := by omega
          have hbz : b < wr.heap.size := by omega
          have hbz2 : b ≠ wr.heap.size := by omega
          have HNX := Lib.hid (countP_next (line := (p, q)) hx)
          have HO2 := Lib.hid (fun W => HOD.out r s W (allS_mem HS.out (List.mem_of_getElem? hx)))
          generalize countP (p, q) (l.take k) = C at *
          clear c0 c1 hx hbr
          generalize oddI (r, s) (p, q) = R at *
          by_cases hR : 0 ≤ R
          · have HC2 := Lib.hid (HNX.out.trans (by rw [if_pos hR]))
            clear HNX
            go_wp2_with fail
            refine wp_region_tail_quiet 5 (by kernel_rfl) (by kernel_rfl) ?_; simp only [List.take_succ_cons, List.take_zero, List.drop_succ_cons, List.drop_zero]; (repeat (go_big_quiet_step (fail))); refine wpQuiet_nil ?_
            go_wp2_with fail
            (with_reducible refine (HO2.out _).mono ?_)
            rintro e w4 ⟨rfl, b4⟩
            have B4 := Lib.hid (show Below wr.heap.size wr w4 from below_tr (by (repeat (first | with_reducible exact Below.refl _ _ | ((with_reducible refine Below.setCell ?_ ?_ _); rotate_left; (focus (first | omega | (simp; done) | (simp; omega)))) | ((with_reducible refine Below.alloc ?_ ?_ _); rotate_left; (focus (first | omega | (simp; done) | (simp; omega)))) | (with_reducible refine Below.drew ?_) | (with_reducible refine below_drewN ?_ _)))) (b4.mono (by first | omega | (simp; done) | (simp; omega))))
            have z0 := (B4.out.cell (p := ⟨w.heap.size, 0, none⟩) hG).trans g0
            have z1 := (B4.out.cell (p := ⟨w.heap.size, 1, none⟩) hG).trans g1
            have s4 := B4.out.size
            clear b4
            go_wp2_with fail
            go_roundw
            case rel => exact ⟨k + 1, by go_num, by rw [HC2.out]; go_num, by omega, by (repeat (first | with_reducible exact Below.refl _ _ | ((with_reducible refine Below.setCell ?_ ?_ _); rotate_left; (focus (first | omega | (simp; done) | (simp; omega)))) | ((with_reducible refine Below.alloc ?_ ?_ _); rotate_left; (focus (first | omega | (simp; done) | (simp; omega)))) | (with_reducible refine Below.drew ?_) | (with_reducible refine below_drewN ?_ _) | ((with_reducible refine Below.trans ?_ (Below.mono B4.out ?_)); rotate_left; (focus (first | omega | (simp; done) | (simp; omega)))) | ((with_reducible refine Below.trans ?_ (Below.mono HBR.out ?_)); rotate_left; (focus (first | omega | (simp; done) | (simp; omega)))))), z0, z1, by omega⟩
            case measure => simp [intOf] <;> omega
          · have HC2 := Lib.hid (HNX.out.trans (by rw [if_neg hR]))
            clear HNX
            go_wp2_with fail
            refine wp_region_tail_quiet 5 (by kernel_rfl) (by kernel_rfl) ?_; simp only [List.take_succ_cons, List.take_zero, List.drop_succ_cons, List.drop_zero]; (repeat (go_big_quiet_step (fail))); refine wpQuiet_nil ?_
            go_wp2_with fail
            (with_reducible refine (HO2.out _).mono ?_)
            rintro e w4 ⟨rfl, b4⟩
            have B4 := Lib.hid (show Below wr.heap.size wr w4 from below_tr (by (repeat (first | with_reducible exact Below.refl _ _ | ((with_reducible refine Below.setCell ?_ ?_ _); rotate_left; (focus (first | omega | (simp; done) | (simp; omega)))) | ((with_reducible refine Below.alloc ?_ ?_ _); rotate_left; (focus (first | omega | (simp; done) | (simp; omega)))) | (with_reducible refine Below.drew ?_) | (with_reducible refine below_drewN ?_ _)))) (b4.mono (by first | omega | (simp; done) | (simp; omega))))
            have z0 := (B4.out.cell (p := ⟨w.heap.size, 0, none⟩) hG).trans g0
            have z1 := (B4.out.cell (p := ⟨w.heap.size, 1, none⟩) hG).trans g1
            have s4 := B4.out.size
            clear b4
            go_wp2_with fail
            go_roundw
            case rel => exact ⟨k + 1, by go_num, by rw [HC2.out]; rfl, by omega, by (repeat (first | with_reducible exact Below.refl _ _ | ((with_reducible refine Below.setCell ?_ ?_ _); rotate_left; (focus (first | omega | (simp; done) | (simp; omega)))) | ((with_reducible refine Below.alloc ?_ ?_ _); rotate_left; (focus (first | omega | (simp; done) | (simp; omega)))) | (with_reducible refine Below.drew ?_) | (with_reducible refine below_drewN ?_ _) | ((with_reducible refine Below.trans ?_ (Below.mono B4.out ?_)); rotate_left; (focus (first | omega | (simp; done) | (simp; omega)))) | ((with_reducible refine Below.trans ?_ (Below.mono HBR.out ?_)); rotate_left; (focus (first | omega | (simp; done) | (simp; omega)))))), z0, z1, by omega⟩
            case measure => simp [intOf] <;> omega
        · obtain rfl : k = n := by omega
          have htk : l.take k = l := List.take_of_length_le (by rw [HN.out]; exact Nat.le_refl _)
          rw [htk]
          clear htk hbr
          go_wp2_with fail
          go_ret2
          exact ⟨rfl, HBR.out⟩

set_option maxRecDepth 100000 in
set_option maxHeartbeats 4000000 in
theorem qshare_any (v : Value) (l : List (Int × Int)) (p q : Int) (w : World) (h : PairsR w v l) (hl : l.length ≤ 10000) :
    Calls Try.prog 30 #[v, .agg #[.int .i64 p, .int .i64 q]] w fun e w' => e = .returned (.tuple #[.agg #[.int .i64 (shareV l (p, q)).1, .int .i64 (shareV l (p, q)).2], .int .i64 (shareE l (p, q))]) ∧ Below w.heap.size w w' := by
  have HX := Lib.hid h
  obtain ⟨xa, xc, rfl⟩ := h.shape
  have HC := Lib.hid (fun W (hW : PairsR W (.slice xa l.length xc) l) => qcount_any _ l p q W hW hl)
  have hle := countP_le (l := l) (line := (p, q))
  unfold countV countE at HC
  unfold shareV shareE
  cases hk : countOk l (p, q) with
  | false =>
    rw [hk] at HC
    simp only [Bool.false_eq_true, if_false] at HC ⊢
    clear hk h hl hle
    generalize l.length = n at *
    go_enter Try.func30, Try.ntmps30
    go_wp2_with fail
    (with_reducible refine (HC.out _ (HX.out.below (by (repeat (first | with_reducible exact Below.refl _ _ | ((with_reducible refine Below.setCell ?_ ?_ _); rotate_left; (focus (first | omega | (simp; done) | (simp; omega)))) | ((with_reducible refine Below.alloc ?_ ?_ _); rotate_left; (focus (first | omega | (simp; done) | (simp; omega)))) | (with_reducible refine Below.drew ?_) | (with_reducible refine below_drewN ?_ _)))))).mono ?_); rintro e w1 ⟨rfl, b1⟩; have s1 : w.heap.size + 1 + 1 ≤ w1.heap.size := (by have := b1.size; first | omega | (simp at this; omega)); have B1 := Lib.hid (show Below w.heap.size w w1 from below_tr (by (repeat (first | with_reducible exact Below.refl _ _ | ((with_reducible refine Below.setCell ?_ ?_ _); rotate_left; (focus (first | omega | (simp; done) | (simp; omega)))) | ((with_reducible refine Below.alloc ?_ ?_ _); rotate_left; (focus (first | omega | (simp; done) | (simp; omega)))) | (with_reducible refine Below.drew ?_) | (with_reducible refine below_drewN ?_ _)))) (b1.mono (by first | omega | (simp; done) | (simp; omega)))); have c1_0 : w1.cell? ⟨w.heap.size + 1, 0, none⟩ = some (.int .i64 0) := (b1.cell (by first | omega | (simp; done) | (simp; omega))).trans (by go_simp); have f1_0 : w1.frozen? ⟨w.heap.size + 1, 0, none⟩ = false := (b1.frozen (by first | omega | (simp; done) | (simp; omega))).trans (by go_simp); have c1_1 : w1.cell? ⟨w.heap.size + 1, 1, none⟩ = some (.int .i64 0) := (b1.cell (by first | omega | (simp; done) | (simp; omega))).trans (by go_simp); have f1_1 : w1.frozen? ⟨w.heap.size + 1, 1, none⟩ = false := (b1.frozen (by first | omega | (simp; done) | (simp; omega))).trans (by go_simp); have l1_0 : w.heap.size + 1 < w1.heap.size := (by omega); have n1_0 : w.heap.size + 1 ≠ w1.heap.size := (by omega); have m1_0 : w1.heap.size ≠ w.heap.size + 1 := (by omega); clear b1
    go_wp2_with fail
    exact bodyPost_ret (v := .tuple #[.agg #[.int .i64 0, .int .i64 0], .int .i64 130]) (by simp [results, Try.results30, go_sem, *]) rfl ⟨rfl, by (repeat (first | with_reducible exact Below.refl _ _ | ((with_reducible refine Below.setCell ?_ ?_ _); rotate_left; (focus (first | omega | (simp; done) | (simp; omega)))) | ((with_reducible refine Below.alloc ?_ ?_ _); rotate_left; (focus (first | omega | (simp; done) | (simp; omega)))) | (with_reducible refine Below.drew ?_) | (with_reducible refine below_drewN ?_ _) | ((with_reducible refine Below.trans ?_ (Below.mono B1.out ?_)); rotate_left; (focus (first | omega | (simp; done) | (simp; omega))))))⟩
  | true =>
    rw [hk] at HC
    simp only [if_true] at HC ⊢
    have HR := Lib.hid (fun W => ratio_any (countP (p, q) l) l.length W (by omega) (by omega))
    clear hk h hl
    generalize countP (p, q) l = C at *
    generalize l.length = n at *
    obtain ⟨⟨x, y⟩, hxy⟩ : ∃ X, ratV C n = X := ⟨_, rfl⟩
    generalize ratE n = E at *
    rw [hxy] at HR ⊢
    clear hxy
    dsimp only at HR ⊢
    go_enter Try.func30, Try.ntmps30
    go_wp2_with fail
    (with_reducible refine (HC.out _ (HX.out.below (by (repeat (first | with_reducible exact Below.refl _ _ | ((with_reducible refine Below.setCell ?_ ?_ _); rotate_left; (focus (first | omega | (simp; done) | (simp; omega)))) | ((with_reducible refine Below.alloc ?_ ?_ _); rotate_left; (focus (first | omega | (simp; done) | (simp; omega)))) | (with_reducible refine Below.drew ?_) | (with_reducible refine below_drewN ?_ _)))))).mono ?_); rintro e w1 ⟨rfl, b1⟩; have s1 : w.heap.size + 1 + 1 ≤ w1.heap.size := (by have := b1.size; first | omega | (simp at this; omega)); have B1 := Lib.hid (show Below w.heap.size w w1 from below_tr (by (repeat (first | with_reducible exact Below.refl _ _ | ((with_reducible refine Below.setCell ?_ ?_ _); rotate_left; (focus (first | omega | (simp; done) | (simp; omega)))) | ((with_reducible refine Below.alloc ?_ ?_ _); rotate_left; (focus (first | omega | (simp; done) | (simp; omega)))) | (with_reducible refine Below.drew ?_) | (with_reducible refine below_drewN ?_ _)))) (b1.mono (by first | omega | (simp; done) | (simp; omega)))); have c1_0 : w1.cell? ⟨w.heap.size + 1, 0, none⟩ = some (.int .i64 0) := (b1.cell (by first | omega | (simp; done) | (simp; omega))).trans (by go_simp); have f1_0 : w1.frozen? ⟨w.heap.size + 1, 0, none⟩ = false := (b1.frozen (by first | omega | (simp; done) | (simp; omega))).trans (by go_simp); have c1_1 : w1.cell? ⟨w.heap.size + 1, 1, none⟩ = some (.int .i64 0) := (b1.cell (by first | omega | (simp; done) | (simp; omega))).trans (by go_simp); have f1_1 : w1.frozen? ⟨w.heap.size + 1, 1, none⟩ = false := (b1.frozen (by first | omega | (simp; done) | (simp; omega))).trans (by go_simp); have l1_0 : w.heap.size + 1 < w1.heap.size := (by omega); have n1_0 : w.heap.size + 1 ≠ w1.heap.size := (by omega); have m1_0 : w1.heap.size ≠ w.heap.size + 1 := (by omega); clear b1
    go_wp2_with fail
    (with_reducible refine (HR.out _).mono ?_); rintro e w2 ⟨rfl, b2⟩; have s2 : w1.heap.size ≤ w2.heap.size := (by have := b2.size; first | omega | (simp at this; omega)); have B2 := Lib.hid (show Below w.heap.size w w2 from below_tr (by (repeat (first | with_reducible exact Below.refl _ _ | ((with_reducible refine Below.setCell ?_ ?_ _); rotate_left; (focus (first | omega | (simp; done) | (simp; omega)))) | ((with_reducible refine Below.alloc ?_ ?_ _); rotate_left; (focus (first | omega | (simp; done) | (simp; omega)))) | (with_reducible refine Below.drew ?_) | (with_reducible refine below_drewN ?_ _) | ((with_reducible refine Below.trans ?_ (Below.mono B1.out ?_)); rotate_left; (focus (first | omega | (simp; done) | (simp; omega))))))) (b2.mono (by first | omega | (simp; done) | (simp; omega)))); have c2_0 : w2.cell? ⟨w.heap.size + 1, 0, none⟩ = some (.int .i64 0) := (b2.cell (by first | omega | (simp; done) | (simp; omega))).trans (by go_simp); have f2_0 : w2.frozen? ⟨w.heap.size + 1, 0, none⟩ = false := (b2.frozen (by first | omega | (simp; done) | (simp; omega))).trans (by go_simp); have c2_1 : w2.cell? ⟨w.heap.size + 1, 1, none⟩ = some (.int .i64 0) := (b2.cell (by first | omega | (simp; done) | (simp; omega))).trans (by go_simp); have f2_1 : w2.frozen? ⟨w.heap.size + 1, 1, none⟩ = false := (b2.frozen (by first | omega | (simp; done) | (simp; omega))).trans (by go_simp); have l2_0 : w.heap.size + 1 < w2.heap.size := (by omega); have n2_0 : w.heap.size + 1 ≠ w2.heap.size := (by omega); have m2_0 : w2.heap.size ≠ w.heap.size + 1 := (by omega); clear b2
    go_wp2_with fail
    exact bodyPost_ret (v := .tuple #[.agg #[.int .i64 x, .int .i64 y], .int .i64 E]) (by simp [results, Try.results30, go_sem, *]) rfl ⟨rfl, by (repeat (first | with_reducible exact Below.refl _ _ | ((with_reducible refine Below.setCell ?_ ?_ _); rotate_left; (focus (first | omega | (simp; done) | (simp; omega)))) | ((with_reducible refine Below.alloc ?_ ?_ _); rotate_left; (focus (first | omega | (simp; done) | (simp; omega)))) | (with_reducible refine Below.drew ?_) | (with_reducible refine below_drewN ?_ _) | ((with_reducible refine Below.trans ?_ (Below.mono B2.out ?_)); rotate_left; (focus (first | omega | (simp; done) | (simp; omega))))))⟩

set_option maxRecDepth 100000 in
set_option maxHeartbeats 4000000 in
theorem rshare_any (v : Value) (l : List (Int × Int)) (p q : Int) (w : World) (h : PairsR w v l) (hl : l.length ≤ 10000) :
    Calls Try.prog 31 #[v, .agg #[.int .i64 p, .int .i64 q]] w fun e w' => e = .returned (.tuple #[.agg #[.int .i64 (shareV l (p, q)).1, .int .i64 (shareV l (p, q)).2], .int .i64 (shareE l (p, q))]) ∧ Below w.heap.size w w' := by
  have HX := Lib.hid h
  obtain ⟨xa, xc, rfl⟩ := h.shape
  have HC := Lib.hid (fun W (hW : PairsR W (.slice xa l.length xc) l) => rcount19_any _ l p q W hW hl)
  have hle := countP_le (l := l) (line := (p, q))
  unfold countV countE at HC
  unfold shareV shareE
  cases hk : countOk l (p, q) with
  | false =>
    rw [hk] at HC
    simp only [Bool.false_eq_true, if_false] at HC ⊢
    clear hk h hl hle
    generalize l.length = n at *
    go_enter Try.func31, Try.ntmps31
    go_wp2_with fail
    (with_reducible refine (HC.out _ (HX.out.below (by (repeat (first | with_reducible exact Below.refl _ _ | ((with_reducible refine Below.setCell ?_ ?_ _); rotate_left; (focus (first | omega | (simp; done) | (simp; omega)))) | ((with_reducible refine Below.alloc ?_ ?_ _); rotate_left; (focus (first | omega | (simp; done) | (simp; omega)))) | (with_reducible refine Below.drew ?_) | (with_reducible refine below_drewN ?_ _)))))).mono ?_); rintro e w1 ⟨rfl, b1⟩; have s1 : w.heap.size + 1 + 1 ≤ w1.heap.size := (by have := b1.size; first | omega | (simp at this; omega)); have B1 := Lib.hid (show Below w.heap.size w w1 from below_tr (by (repeat (first | with_reducible exact Below.refl _ _ | ((with_reducible refine Below.setCell ?_ ?_ _); rotate_left; (focus (first | omega | (simp; done) | (simp; omega)))) | ((with_reducible refine Below.alloc ?_ ?_ _); rotate_left; (focus (first | omega | (simp; done) | (simp; omega)))) | (with_reducible refine Below.drew ?_) | (with_reducible refine below_drewN ?_ _)))) (b1.mono (by first | omega | (simp; done) | (simp; omega)))); have c1_0 : w1.cell? ⟨w.heap.size + 1, 0, none⟩ = some (.int .i64 0) := (b1.cell (by first | omega | (simp; done) | (simp; omega))).trans (by go_simp); have f1_0 : w1.frozen? ⟨w.heap.size + 1, 0, none⟩ = false := (b1.frozen (by first | omega | (simp; done) | (simp; omega))).trans (by go_simp); have c1_1 : w1.cell? ⟨w.heap.size + 1, 1, none⟩ = some (.int .i64 0) := (b1.cell (by first | omega | (simp; done) | (simp; omega))).trans (by go_simp); have f1_1 : w1.frozen? ⟨w.heap.size + 1, 1, none⟩ = false := (b1.frozen (by first | omega | (simp; done) | (simp; omega))).trans (by go_simp); have l1_0 : w.heap.size + 1 < w1.heap.size := (by omega); have n1_0 : w.heap.size + 1 ≠ w1.heap.size := (by omega); have m1_0 : w1.heap.size ≠ w.heap.size + 1 := (by omega); clear b1
    go_wp2_with fail
    exact bodyPost_ret (v := .tuple #[.agg #[.int .i64 0, .int .i64 0], .int .i64 130]) (by simp [results, Try.results31, go_sem, *]) rfl ⟨rfl, by (repeat (first | with_reducible exact Below.refl _ _ | ((with_reducible refine Below.setCell ?_ ?_ _); rotate_left; (focus (first | omega | (simp; done) | (simp; omega)))) | ((with_reducible refine Below.alloc ?_ ?_ _); rotate_left; (focus (first | omega | (simp; done) | (simp; omega)))) | (with_reducible refine Below.drew ?_) | (with_reducible refine below_drewN ?_ _) | ((with_reducible refine Below.trans ?_ (Below.mono B1.out ?_)); rotate_left; (focus (first | omega | (simp; done) | (simp; omega))))))⟩
  | true =>
    rw [hk] at HC
    simp only [if_true] at HC ⊢
    have HR := Lib.hid (fun W => rratio_any (countP (p, q) l) l.length W (by omega) (by omega))
    clear hk h hl
    generalize countP (p, q) l = C at *
    generalize l.length = n at *
    obtain ⟨⟨x, y⟩, hxy⟩ : ∃ X, ratV C n = X := ⟨_, rfl⟩
    generalize ratE n = E at *
    rw [hxy] at HR ⊢
    clear hxy
    dsimp only at HR ⊢
    go_enter Try.func31, Try.ntmps31
    go_wp2_with fail
    (with_reducible refine (HC.out _ (HX.out.below (by (repeat (first | with_reducible exact Below.refl _ _ | ((with_reducible refine Below.setCell ?_ ?_ _); rotate_left; (focus (first | omega | (simp; done) | (simp; omega)))) | ((with_reducible refine Below.alloc ?_ ?_ _); rotate_left; (focus (first | omega | (simp; done) | (simp; omega)))) | (with_reducible refine Below.drew ?_) | (with_reducible refine below_drewN ?_ _)))))).mono ?_); rintro e w1 ⟨rfl, b1⟩; have s1 : w.heap.size + 1 + 1 ≤ w1.heap.size := (by have := b1.size; first | omega | (simp at this; omega)); have B1 := Lib.hid (show Below w.heap.size w w1 from below_tr (by (repeat (first | with_reducible exact Below.refl _ _ | ((with_reducible refine Below.setCell ?_ ?_ _); rotate_left; (focus (first | omega | (simp; done) | (simp; omega)))) | ((with_reducible refine Below.alloc ?_ ?_ _); rotate_left; (focus (first | omega | (simp; done) | (simp; omega)))) | (with_reducible refine Below.drew ?_) | (with_reducible refine below_drewN ?_ _)))) (b1.mono (by first | omega | (simp; done) | (simp; omega)))); have c1_0 : w1.cell? ⟨w.heap.size + 1, 0, none⟩ = some (.int .i64 0) := (b1.cell (by first | omega | (simp; done) | (simp; omega))).trans (by go_simp); have f1_0 : w1.frozen? ⟨w.heap.size + 1, 0, none⟩ = false := (b1.frozen (by first | omega | (simp; done) | (simp; omega))).trans (by go_simp); have c1_1 : w1.cell? ⟨w.heap.size + 1, 1, none⟩ = some (.int .i64 0) := (b1.cell (by first | omega | (simp; done) | (simp; omega))).trans (by go_simp); have f1_1 : w1.frozen? ⟨w.heap.size + 1, 1, none⟩ = false := (b1.frozen (by first | omega | (simp; done) | (simp; omega))).trans (by go_simp); have l1_0 : w.heap.size + 1 < w1.heap.size := (by omega); have n1_0 : w.heap.size + 1 ≠ w1.heap.size := (by omega); have m1_0 : w1.heap.size ≠ w.heap.size + 1 := (by omega); clear b1
    go_wp2_with fail
    (with_reducible refine (HR.out _).mono ?_); rintro e w2 ⟨rfl, b2⟩; have s2 : w1.heap.size ≤ w2.heap.size := (by have := b2.size; first | omega | (simp at this; omega)); have B2 := Lib.hid (show Below w.heap.size w w2 from below_tr (by (repeat (first | with_reducible exact Below.refl _ _ | ((with_reducible refine Below.setCell ?_ ?_ _); rotate_left; (focus (first | omega | (simp; done) | (simp; omega)))) | ((with_reducible refine Below.alloc ?_ ?_ _); rotate_left; (focus (first | omega | (simp; done) | (simp; omega)))) | (with_reducible refine Below.drew ?_) | (with_reducible refine below_drewN ?_ _) | ((with_reducible refine Below.trans ?_ (Below.mono B1.out ?_)); rotate_left; (focus (first | omega | (simp; done) | (simp; omega))))))) (b2.mono (by first | omega | (simp; done) | (simp; omega)))); have c2_0 : w2.cell? ⟨w.heap.size + 1, 0, none⟩ = some (.int .i64 0) := (b2.cell (by first | omega | (simp; done) | (simp; omega))).trans (by go_simp); have f2_0 : w2.frozen? ⟨w.heap.size + 1, 0, none⟩ = false := (b2.frozen (by first | omega | (simp; done) | (simp; omega))).trans (by go_simp); have c2_1 : w2.cell? ⟨w.heap.size + 1, 1, none⟩ = some (.int .i64 0) := (b2.cell (by first | omega | (simp; done) | (simp; omega))).trans (by go_simp); have f2_1 : w2.frozen? ⟨w.heap.size + 1, 1, none⟩ = false := (b2.frozen (by first | omega | (simp; done) | (simp; omega))).trans (by go_simp); have l2_0 : w.heap.size + 1 < w2.heap.size := (by omega); have n2_0 : w.heap.size + 1 ≠ w2.heap.size := (by omega); have m2_0 : w2.heap.size ≠ w.heap.size + 1 := (by omega); clear b2
    go_wp2_with fail
    exact bodyPost_ret (v := .tuple #[.agg #[.int .i64 x, .int .i64 y], .int .i64 E]) (by simp [results, Try.results31, go_sem, *]) rfl ⟨rfl, by (repeat (first | with_reducible exact Below.refl _ _ | ((with_reducible refine Below.setCell ?_ ?_ _); rotate_left; (focus (first | omega | (simp; done) | (simp; omega)))) | ((with_reducible refine Below.alloc ?_ ?_ _); rotate_left; (focus (first | omega | (simp; done) | (simp; omega)))) | (with_reducible refine Below.drew ?_) | (with_reducible refine below_drewN ?_ _) | ((with_reducible refine Below.trans ?_ (Below.mono B2.out ?_)); rotate_left; (focus (first | omega | (simp; done) | (simp; omega))))))⟩

end Go.Proofs.Ytoljilbldkbjpaa
