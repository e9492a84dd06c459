/-
  Walks of quant.Line, quant.Over, quant.Count, quant.Share and of the reference's.
-/
import Derived.Test.YtoljilbldkbjpaaQuantA
namespace Go.Proofs.Ytoljilbldkbjpaa
open Go.RowKit

theorem quantOf_nil (p t : Int) (w : World) : Calls Try.prog 39 #[.pointer none, .int .i64 p, .int .i64 t] w fun e w' => e = .returned (.tuple #[.agg #[.int .i64 0, .int .i64 0], .int .i64 7]) ∧ Below w.heap.size w w' := by
  go_enter Try.func39, Try.ntmps39
  go_wp2_with fail
  exact bodyPost_ret (v := .tuple #[.agg #[.int .i64 0, .int .i64 0], .int .i64 7]) (by simp [results, Try.results39, go_sem]) rfl ⟨rfl, by (repeat (first | with_reducible exact Below.refl _ _ | ((with_reducible refine Below.setCell ?_ ?_ _); rotate_left; (focus (first | omega | (simp; done) | (simp; omega)))) | ((with_reducible refine Below.alloc ?_ ?_ _); rotate_left; (focus (first | omega | (simp; done) | (simp; omega)))) | (with_reducible refine Below.drew ?_) | (with_reducible refine below_drewN ?_ _)))⟩

theorem line_at {l : List (Int × Int)} {p t : Int} (h : lineE l p t = 0) : ∃ (k : Nat) (x : Int × Int), indexV l.length p t = (k : Int) + 1 ∧ (k : Int) + 1 ≤ l.length ∧ (sortS l)[k]? = some x ∧ lineV l p t = x := by
  obtain ⟨hb, hs⟩ := line_ok h
  obtain ⟨⟨k1, k2⟩, _, _⟩ := index_is hb
  obtain ⟨k, hk⟩ : ∃ k : Nat, indexV l.length p t = (k : Int) + 1 := ⟨(indexV l.length p t - 1).toNat, by omega⟩
  obtain ⟨x, hx⟩ := getElem?_ex (l := sortS l) (k := k) (by rw [sortS_len hs]; omega)
  refine ⟨k, x, hk, by omega, hx, ?_⟩
  unfold lineV
  rw [if_pos h, hk, show ((k : Int) + 1).toNat - 1 = k by omega, getD_of hx]

theorem lineV_no {l : List (Int × Int)} {p t : Int} (h : lineE l p t ≠ 0) : lineV l p t = (0, 0) := if_neg h

set_option maxRecDepth 100000 in
set_option maxHeartbeats 4000000 in
theorem qline_any (v : Value) (l : List (Int × Int)) (p t : Int) (w : World) (h : PairsR w v l) (hl : l.length ≤ 10000) (hp : Ok64 p) (ht : Ok64 t) :
    Calls Try.prog 34 #[v, .int .i64 p, .int .i64 t] w fun e w' => e = .returned (.tuple #[.agg #[.int .i64 (lineV l p t).1, .int .i64 (lineV l p t).2], .int .i64 (lineE l p t)]) ∧ Below w.heap.size w w' := by
  have HX := Lib.hid h
  obtain ⟨xa, xc, rfl⟩ := h.shape
  have HI := Lib.hid (fun W => qindex_any l.length p t W hp ht)
  have HSO := Lib.hid (fun W (hW : PairsR W (.slice xa l.length xc) l) => ssort_any _ l W hW hl)
  have hcap := h.capN
  clear hp ht
  by_cases hb : indexBad l.length p t
  · have e1 : lineE l p t = 1 := if_pos hb
    have e2 : indexE l.length p t = 1 := if_pos hb
    have e3 : indexV l.length p t = 0 := if_pos hb
    have e4 : lineV l p t = (0, 0) := lineV_no (by omega)
    rw [e1, e4]
    rw [e2, e3] at HI
    clear e1 e2 e3 e4 hb hl h HSO
    generalize l.length = n at *
    go_enter Try.func34, Try.ntmps34
    go_wp2_with fail
    (with_reducible refine (HI.out _).mono ?_)
    rintro e w1 ⟨rfl, rfl⟩
    go_wp2_with fail
    exact bodyPost_ret (v := .tuple #[.agg #[.int .i64 0, .int .i64 0], .int .i64 1]) (by simp [results, Try.results34, go_sem]) rfl ⟨rfl, by (repeat (first | with_reducible exact Below.refl _ _ | ((with_reducible refine Below.setCell ?_ ?_ _); rotate_left; (focus (first | omega | (simp; done) | (simp; omega)))) | ((with_reducible refine Below.alloc ?_ ?_ _); rotate_left; (focus (first | omega | (simp; done) | (simp; omega)))) | (with_reducible refine Below.drew ?_) | (with_reducible refine below_drewN ?_ _)))⟩
  · have e2 : indexE l.length p t = 0 := if_neg hb
    rw [e2] at HI
    cases hs : allS l with
    | false =>
      have e1 : lineE l p t = 130 := by unfold lineE; rw [if_neg hb, hs]; rfl
      have e4 : lineV l p t = (0, 0) := lineV_no (by omega)
      rw [e1, e4]
      rw [hs] at HSO
      clear e1 e2 e4 hb hl h hs
      simp only [Bool.false_eq_true, if_false] at HSO
      generalize indexV l.length p t = K at *
      generalize l.length = n at *
      go_enter Try.func34, Try.ntmps34
      go_wp2_with fail
      (with_reducible refine (HI.out _).mono ?_)
      rintro e w1 ⟨rfl, rfl⟩
      go_wp2_with fail
      (with_reducible refine (HSO.out _ (HX.out.below (by (repeat (first | with_reducible exact Below.refl _ _ | ((with_reducible refine Below.setCell ?_ ?_ _); rotate_left; (focus (first | omega | (simp; done) | (simp; omega)))) | ((with_reducible refine Below.alloc ?_ ?_ _); rotate_left; (focus (first | omega | (simp; done) | (simp; omega)))) | (with_reducible refine Below.drew ?_) | (with_reducible refine below_drewN ?_ _)))))).mono ?_); rintro e w1 ⟨v1, rfl, p1, b1⟩; have s1 : w.heap.size + 1 ≤ w1.heap.size := (by have := b1.size; first | omega | (simp at this; omega)); have B1 := Lib.hid (show Below w.heap.size w w1 from below_tr (by (repeat (first | with_reducible exact Below.refl _ _ | ((with_reducible refine Below.setCell ?_ ?_ _); rotate_left; (focus (first | omega | (simp; done) | (simp; omega)))) | ((with_reducible refine Below.alloc ?_ ?_ _); rotate_left; (focus (first | omega | (simp; done) | (simp; omega)))) | (with_reducible refine Below.drew ?_) | (with_reducible refine below_drewN ?_ _)))) (b1.mono (by first | omega | (simp; done) | (simp; omega)))); have c1_0 : w1.cell? ⟨w.heap.size, 0, none⟩ = some (.int .i64 0) := (b1.cell (by first | omega | (simp; done) | (simp; omega))).trans (by go_simp); have f1_0 : w1.frozen? ⟨w.heap.size, 0, none⟩ = false := (b1.frozen (by first | omega | (simp; done) | (simp; omega))).trans (by go_simp); have c1_1 : w1.cell? ⟨w.heap.size, 1, none⟩ = some (.int .i64 0) := (b1.cell (by first | omega | (simp; done) | (simp; omega))).trans (by go_simp); have f1_1 : w1.frozen? ⟨w.heap.size, 1, none⟩ = false := (b1.frozen (by first | omega | (simp; done) | (simp; omega))).trans (by go_simp); have l1_0 : w.heap.size < w1.heap.size := (by omega); have n1_0 : w.heap.size ≠ w1.heap.size := (by omega); have m1_0 : w1.heap.size ≠ w.heap.size := (by omega); clear b1
      clear p1
      go_wp2_with fail
      exact bodyPost_ret (v := .tuple #[.agg #[.int .i64 0, .int .i64 0], .int .i64 130]) (by simp [results, Try.results34, go_sem, *]) rfl ⟨rfl, by (repeat (first | with_reducible exact Below.refl _ _ | ((with_reducible refine Below.setCell ?_ ?_ _); rotate_left; (focus (first | omega | (simp; done) | (simp; omega)))) | ((with_reducible refine Below.alloc ?_ ?_ _); rotate_left; (focus (first | omega | (simp; done) | (simp; omega)))) | (with_reducible refine Below.drew ?_) | (with_reducible refine below_drewN ?_ _) | ((with_reducible refine Below.trans ?_ (Below.mono B1.out ?_)); rotate_left; (focus (first | omega | (simp; done) | (simp; omega))))))⟩
    | true =>
      have e1 : lineE l p t = 0 := by unfold lineE; rw [if_neg hb, hs]; rfl
      obtain ⟨k, ⟨x, y⟩, hk, hkl, hx, e4⟩ := line_at e1
      rw [e1, e4]
      rw [hk] at HI
      rw [hs] at HSO
      have hlen := sortS_len hs
      have HXK := Lib.hid hx
      clear e1 e2 e4 hb h hs hk hx
      simp only [if_true] at HSO
      generalize sortS l = L at *
      have HLEN := Lib.hid hlen
      generalize hn : l.length = n at *
      clear hlen hn
      have w1 : wrap64 ((k : Int) + 1 - 1) = (k : Int) := by rw [IntWalk.wrap64_in _ (by omega)]; omega
      have k0 : (0 : Int) ≤ (k : Int) := by omega
      have k1 : (k : Int) < (n : Int) := by omega
      go_enter Try.func34, Try.ntmps34
      go_wp2_with fail
      (with_reducible refine (HI.out _).mono ?_)
      rintro e w1 ⟨rfl, rfl⟩
      go_wp2_with fail
      (with_reducible refine (HSO.out _ (HX.out.below (by (repeat (first | with_reducible exact Below.refl _ _ | ((with_reducible refine Below.setCell ?_ ?_ _); rotate_left; (focus (first | omega | (simp; done) | (simp; omega)))) | ((with_reducible refine Below.alloc ?_ ?_ _); rotate_left; (focus (first | omega | (simp; done) | (simp; omega)))) | (with_reducible refine Below.drew ?_) | (with_reducible refine below_drewN ?_ _)))))).mono ?_); rintro e w1 ⟨v1, rfl, p1, b1⟩; have s1 : w.heap.size + 1 ≤ w1.heap.size := (by have := b1.size; first | omega | (simp at this; omega)); have B1 := Lib.hid (show Below w.heap.size w w1 from below_tr (by (repeat (first | with_reducible exact Below.refl _ _ | ((with_reducible refine Below.setCell ?_ ?_ _); rotate_left; (focus (first | omega | (simp; done) | (simp; omega)))) | ((with_reducible refine Below.alloc ?_ ?_ _); rotate_left; (focus (first | omega | (simp; done) | (simp; omega)))) | (with_reducible refine Below.drew ?_) | (with_reducible refine below_drewN ?_ _)))) (b1.mono (by first | omega | (simp; done) | (simp; omega)))); have c1_0 : w1.cell? ⟨w.heap.size, 0, none⟩ = some (.int .i64 0) := (b1.cell (by first | omega | (simp; done) | (simp; omega))).trans (by go_simp); have f1_0 : w1.frozen? ⟨w.heap.size, 0, none⟩ = false := (b1.frozen (by first | omega | (simp; done) | (simp; omega))).trans (by go_simp); have c1_1 : w1.cell? ⟨w.heap.size, 1, none⟩ = some (.int .i64 0) := (b1.cell (by first | omega | (simp; done) | (simp; omega))).trans (by go_simp); have f1_1 : w1.frozen? ⟨w.heap.size, 1, none⟩ = false := (b1.frozen (by first | omega | (simp; done) | (simp; omega))).trans (by go_simp); have l1_0 : w.heap.size < w1.heap.size := (by omega); have n1_0 : w.heap.size ≠ w1.heap.size := (by omega); have m1_0 : w1.heap.size ≠ w.heap.size := (by omega); clear b1
      obtain ⟨a1, q1, rfl⟩ := p1.shape
      obtain ⟨b, o, rfl⟩ := p1.addr (by rw [HLEN.out]; omega)
      obtain ⟨g1, g2, g3⟩ := p1.at HXK.out
      rw [HLEN.out]
      clear p1
      go_wp2_with fail
      exact bodyPost_ret (v := .tuple #[.agg #[.int .i64 x, .int .i64 y], .int .i64 0]) (by simp [results, Try.results34, go_sem, *]) rfl ⟨rfl, by (repeat (first | with_reducible exact Below.refl _ _ | ((with_reducible refine Below.setCell ?_ ?_ _); rotate_left; (focus (first | omega | (simp; done) | (simp; omega)))) | ((with_reducible refine Below.alloc ?_ ?_ _); rotate_left; (focus (first | omega | (simp; done) | (simp; omega)))) | (with_reducible refine Below.drew ?_) | (with_reducible refine below_drewN ?_ _) | ((with_reducible refine Below.trans ?_ (Below.mono B1.out ?_)); rotate_left; (focus (first | omega | (simp; done) | (simp; omega))))))⟩

set_option maxRecDepth 100000 in
set_option maxHeartbeats 4000000 in
theorem rqline_any (v : Value) (l : List (Int × Int)) (p t : Int) (w : World) (h : PairsR w v l) (hl : l.length ≤ 10000) :
    Calls Try.prog 35 #[v, .int .i64 p, .int .i64 t] w fun e w' => e = .returned (.tuple #[.agg #[.int .i64 (lineV l p t).1, .int .i64 (lineV l p t).2], .int .i64 (lineE l p t)]) ∧ Below w.heap.size w w' := by
  have HX := Lib.hid h
  obtain ⟨xa, xc, rfl⟩ := h.shape
  have HI := Lib.hid (fun W => rqindex_any l.length p t W)
  have HSO := Lib.hid (fun W (hW : PairsR W (.slice xa l.length xc) l) => rsort13_any _ l W hW hl)
  have hcap := h.capN
  by_cases hb : indexBad l.length p t
  · have e1 : lineE l p t = 1 := if_pos hb
    have e2 : indexE l.length p t = 1 := if_pos hb
    have e3 : indexV l.length p t = 0 := if_pos hb
    have e4 : lineV l p t = (0, 0) := lineV_no (by omega)
    rw [e1, e4]
    rw [e2, e3] at HI
    clear e1 e2 e3 e4 hb hl h HSO
    generalize l.length = n at *
    go_enter Try.func35, Try.ntmps35
    go_wp2_with fail
    (with_reducible refine (HI.out _).mono ?_)
    rintro e w1 ⟨rfl, rfl⟩
    go_wp2_with fail
    exact bodyPost_ret (v := .tuple #[.agg #[.int .i64 0, .int .i64 0], .int .i64 1]) (by simp [results, Try.results35, go_sem]) rfl ⟨rfl, by (repeat (first | with_reducible exact Below.refl _ _ | ((with_reducible refine Below.setCell ?_ ?_ _); rotate_left; (focus (first | omega | (simp; done) | (simp; omega)))) | ((with_reducible refine Below.alloc ?_ ?_ _); rotate_left; (focus (first | omega | (simp; done) | (simp; omega)))) | (with_reducible refine Below.drew ?_) | (with_reducible refine below_drewN ?_ _)))⟩
  · have e2 : indexE l.length p t = 0 := if_neg hb
    rw [e2] at HI
    cases hs : allS l with
    | false =>
      have e1 : lineE l p t = 130 := by unfold lineE; rw [if_neg hb, hs]; rfl
      have e4 : lineV l p t = (0, 0) := lineV_no (by omega)
      rw [e1, e4]
      rw [hs] at HSO
      clear e1 e2 e4 hb hl h hs
      simp only [Bool.false_eq_true, if_false] at HSO
      generalize indexV l.length p t = K at *
      generalize l.length = n at *
      go_enter Try.func35, Try.ntmps35
      go_wp2_with fail
      (with_reducible refine (HI.out _).mono ?_)
      rintro e w1 ⟨rfl, rfl⟩
      go_wp2_with fail
      (with_reducible refine (HSO.out _ (HX.out.below (by (repeat (first | with_reducible exact Below.refl _ _ | ((with_reducible refine Below.setCell ?_ ?_ _); rotate_left; (focus (first | omega | (simp; done) | (simp; omega)))) | ((with_reducible refine Below.alloc ?_ ?_ _); rotate_left; (focus (first | omega | (simp; done) | (simp; omega)))) | (with_reducible refine Below.drew ?_) | (with_reducible refine below_drewN ?_ _)))))).mono ?_); rintro e w1 ⟨v1, rfl, p1, b1⟩; have s1 : w.heap.size + 1 ≤ w1.heap.size := (by have := b1.size; first | omega | (simp at this; omega)); have B1 := Lib.hid (show Below w.heap.size w w1 from below_tr (by (repeat (first | with_reducible exact Below.refl _ _ | ((with_reducible refine Below.setCell ?_ ?_ _); rotate_left; (focus (first | omega | (simp; done) | (simp; omega)))) | ((with_reducible refine Below.alloc ?_ ?_ _); rotate_left; (focus (first | omega | (simp; done) | (simp; omega)))) | (with_reducible refine Below.drew ?_) | (with_reducible refine below_drewN ?_ _)))) (b1.mono (by first | omega | (simp; done) | (simp; omega)))); have c1_0 : w1.cell? ⟨w.heap.size, 0, none⟩ = some (.int .i64 0) := (b1.cell (by first | omega | (simp; done) | (simp; omega))).trans (by go_simp); have f1_0 : w1.frozen? ⟨w.heap.size, 0, none⟩ = false := (b1.frozen (by first | omega | (simp; done) | (simp; omega))).trans (by go_simp); have c1_1 : w1.cell? ⟨w.heap.size, 1, none⟩ = some (.int .i64 0) := (b1.cell (by first | omega | (simp; done) | (simp; omega))).trans (by go_simp); have f1_1 : w1.frozen? ⟨w.heap.size, 1, none⟩ = false := (b1.frozen (by first | omega | (simp; done) | (simp; omega))).trans (by go_simp); have l1_0 : w.heap.size < w1.heap.size := (by omega); have n1_0 : w.heap.size ≠ w1.heap.size := (by omega); have m1_0 : w1.heap.size ≠ w.heap.size := (by omega); clear b1
      clear p1
      go_wp2_with fail
      exact bodyPost_ret (v := .tuple #[.agg #[.int .i64 0, .int .i64 0], .int .i64 130]) (by simp [results, Try.results35, go_sem, *]) rfl ⟨rfl, by (repeat (first | with_reducible exact Below.refl _ _ | ((with_reducible refine Below.setCell ?_ ?_ _); rotate_left; (focus (first | omega | (simp; done) | (simp; omega)))) | ((with_reducible refine Below.alloc ?_ ?_ _); rotate_left; (focus (first | omega | (simp; done) | (simp; omega)))) | (with_reducible refine Below.drew ?_) | (with_reducible refine below_drewN ?_ _) | ((with_reducible refine Below.trans ?_ (Below.mono B1.out ?_)); rotate_left; (focus (first | omega | (simp; done) | (simp; omega))))))⟩
    | true =>
      have e1 : lineE l p t = 0 := by unfold lineE; rw [if_neg hb, hs]; rfl
      obtain ⟨k, ⟨x, y⟩, hk, hkl, hx, e4⟩ := line_at e1
      rw [e1, e4]
      rw [hk] at HI
      rw [hs] at HSO
      have hlen := sortS_len hs
      have HXK := Lib.hid hx
      clear e1 e2 e4 hb h hs hk hx
      simp only [if_true] at HSO
      generalize sortS l = L at *
      have HLEN := Lib.hid hlen
      generalize hn : l.length = n at *
      clear hlen hn
      have w1 : wrap64 ((k : Int) + 1 - 1) = (k : Int) := by rw [IntWalk.wrap64_in _ (by omega)]; omega
      have k0 : (0 : Int) ≤ (k : Int) := by omega
      have k1 : (k : Int) < (n : Int) := by omega
      go_enter Try.func35, Try.ntmps35
      go_wp2_with fail
      (with_reducible refine (HI.out _).mono ?_)
      rintro e w1 ⟨rfl, rfl⟩
      go_wp2_with fail
      (with_reducible refine (HSO.out _ (HX.out.below (by (repeat (first | with_reducible exact Below.refl _ _ | ((with_reducible refine Below.setCell ?_ ?_ _); rotate_left; (focus (first | omega | (simp; done) | (simp; omega)))) | ((with_reducible refine Below.alloc ?_ ?_ _); rotate_left; (focus (first | omega | (simp; done) | (simp; omega)))) | (with_reducible refine Below.drew ?_) | (with_reducible refine below_drewN ?_ _)))))).mono ?_); rintro e w1 ⟨v1, rfl, p1, b1⟩; have s1 : w.heap.size + 1 ≤ w1.heap.size := (by have := b1.size; first | omega | (simp at this; omega)); have B1 := Lib.hid (show Below w.heap.size w w1 from below_tr (by (repeat (first | with_reducible exact Below.refl _ _ | ((with_reducible refine Below.setCell ?_ ?_ _); rotate_left; (focus (first | omega | (simp; done) | (simp; omega)))) | ((with_reducible refine Below.alloc ?_ ?_ _); rotate_left; (focus (first | omega | (simp; done) | (simp; omega)))) | (with_reducible refine Below.drew ?_) | (with_reducible refine below_drewN ?_ _)))) (b1.mono (by first | omega | (simp; done) | (simp; omega)))); have c1_0 : w1.cell? ⟨w.heap.size, 0, none⟩ = some (.int .i64 0) := (b1.cell (by first | omega | (simp; done) | (simp; omega))).trans (by go_simp); have f1_0 : w1.frozen? ⟨w.heap.size, 0, none⟩ = false := (b1.frozen (by first | omega | (simp; done) | (simp; omega))).trans (by go_simp); have c1_1 : w1.cell? ⟨w.heap.size, 1, none⟩ = some (.int .i64 0) := (b1.cell (by first | omega | (simp; done) | (simp; omega))).trans (by go_simp); have f1_1 : w1.frozen? ⟨w.heap.size, 1, none⟩ = false := (b1.frozen (by first | omega | (simp; done) | (simp; omega))).trans (by go_simp); have l1_0 : w.heap.size < w1.heap.size := (by omega); have n1_0 : w.heap.size ≠ w1.heap.size := (by omega); have m1_0 : w1.heap.size ≠ w.heap.size := (by omega); clear b1
      obtain ⟨a1, q1, rfl⟩ := p1.shape
      obtain ⟨b, o, rfl⟩ := p1.addr (by rw [HLEN.out]; omega)
      obtain ⟨g1, g2, g3⟩ := p1.at HXK.out
      rw [HLEN.out]
      clear p1
      go_wp2_with fail
      exact bodyPost_ret (v := .tuple #[.agg #[.int .i64 x, .int .i64 y], .int .i64 0]) (by simp [results, Try.results35, go_sem, *]) rfl ⟨rfl, by (repeat (first | with_reducible exact Below.refl _ _ | ((with_reducible refine Below.setCell ?_ ?_ _); rotate_left; (focus (first | omega | (simp; done) | (simp; omega)))) | ((with_reducible refine Below.alloc ?_ ?_ _); rotate_left; (focus (first | omega | (simp; done) | (simp; omega)))) | (with_reducible refine Below.drew ?_) | (with_reducible refine below_drewN ?_ _) | ((with_reducible refine Below.trans ?_ (Below.mono B1.out ?_)); rotate_left; (focus (first | omega | (simp; done) | (simp; omega))))))⟩

/-! ### over -/
def overB (s line : Int × Int) : Bool := scoreB s && scoreB line && decide (0 ≤ oddI s line)
def overE (s line : Int × Int) : Int := if scoreB s && scoreB line then 0 else 130

theorem over_any (p q : Int) (w : World) (s : Nat) (hs : w.heap.size = s) :
    Calls Try.prog 55 #[.agg #[.int .i64 p, .int .i64 q]] w fun e w' => e = .returned (.func (.func 74) #[] #[.pointer (some ⟨s, 0, none⟩)]) ∧ w' = w.alloc (.cells #[.int .i64 p, .int .i64 q] 44) := by
  subst hs
  go_enter Try.func55, Try.ntmps55
  go_wp2_with fail
  go_ret
  exact ⟨rfl, rfl⟩

set_option maxRecDepth 100000 in
set_option maxHeartbeats 4000000 in
theorem over1_any (r s p q : Int) (B : Nat) (w : World) (c0 : w.cell? ⟨B, 0, none⟩ = some (.int .i64 p)) (c1 : w.cell? ⟨B, 1, none⟩ = some (.int .i64 q)) (hB : B < w.heap.size) :
    Calls Try.prog 74 #[.agg #[.int .i64 r, .int .i64 s], .pointer (some ⟨B, 0, none⟩)] w fun e w' => e = .returned (.tuple #[.bool (overB (r, s) (p, q)), .int .i64 (overE (r, s) (p, q))]) ∧ Below w.heap.size w w' := by
  have HC := Lib.hid (fun W => scmp_any r s p q W)
  have h1 : B ≠ w.heap.size := by omega
  cases hb : (scoreB (r, s) && scoreB (p, q)) with
  | false =>
    have e1 : overB (r, s) (p, q) = false := by unfold overB; rw [hb]; rfl
    have e2 : overE (r, s) (p, q) = 130 := by unfold overE; rw [hb]; rfl
    rw [e1, e2]
    rw [hb] at HC
    clear e1 e2 hb
    simp only [Bool.false_eq_true, if_false] at HC
    go_enter Try.func74, Try.ntmps74
    go_wp2_with fail
    (with_reducible refine (HC.out _).mono ?_); rintro e w1 ⟨rfl, b1⟩; have s1 : w.heap.size + 1 ≤ w1.heap.size := (by have := b1.size; first | omega | (simp at this; omega)); have B1 := Lib.hid (show Below w.heap.size w w1 from below_tr (by (repeat (first | with_reducible exact Below.refl _ _ | ((with_reducible refine Below.setCell ?_ ?_ _); rotate_left; (focus (first | omega | (simp; done) | (simp; omega)))) | ((with_reducible refine Below.alloc ?_ ?_ _); rotate_left; (focus (first | omega | (simp; done) | (simp; omega)))) | (with_reducible refine Below.drew ?_) | (with_reducible refine below_drewN ?_ _)))) (b1.mono (by first | omega | (simp; done) | (simp; omega)))); clear b1
    go_wp2_with fail
    go_ret2
    exact ⟨rfl, by (repeat (first | with_reducible exact Below.refl _ _ | ((with_reducible refine Below.setCell ?_ ?_ _); rotate_left; (focus (first | omega | (simp; done) | (simp; omega)))) | ((with_reducible refine Below.alloc ?_ ?_ _); rotate_left; (focus (first | omega | (simp; done) | (simp; omega)))) | (with_reducible refine Below.drew ?_) | (with_reducible refine below_drewN ?_ _) | ((with_reducible refine Below.trans ?_ (Below.mono B1.out ?_)); rotate_left; (focus (first | omega | (simp; done) | (simp; omega))))))⟩
  | true =>
    have e1 : overB (r, s) (p, q) = decide (0 ≤ oddI (r, s) (p, q)) := by unfold overB; rw [hb]; rfl
    have e2 : overE (r, s) (p, q) = 0 := by unfold overE; rw [hb]; rfl
    rw [e1, e2]
    rw [hb] at HC
    clear e1 e2 hb
    simp only [if_true] at HC
    generalize oddI (r, s) (p, q) = R at *
    go_enter Try.func74, Try.ntmps74
    go_wp2_with fail
    (with_reducible refine (HC.out _).mono ?_); rintro e w1 ⟨rfl, b1⟩; have s1 : w.heap.size + 1 ≤ w1.heap.size := (by have := b1.size; first | omega | (simp at this; omega)); have B1 := Lib.hid (show Below w.heap.size w w1 from below_tr (by (repeat (first | with_reducible exact Below.refl _ _ | ((with_reducible refine Below.setCell ?_ ?_ _); rotate_left; (focus (first | omega | (simp; done) | (simp; omega)))) | ((with_reducible refine Below.alloc ?_ ?_ _); rotate_left; (focus (first | omega | (simp; done) | (simp; omega)))) | (with_reducible refine Below.drew ?_) | (with_reducible refine below_drewN ?_ _)))) (b1.mono (by first | omega | (simp; done) | (simp; omega)))); clear b1
    go_wp2_with fail
    go_ret2
    exact ⟨rfl, by (repeat (first | with_reducible exact Below.refl _ _ | ((with_reducible refine Below.setCell ?_ ?_ _); rotate_left; (focus (first | omega | (simp; done) | (simp; omega)))) | ((with_reducible refine Below.alloc ?_ ?_ _); rotate_left; (focus (first | omega | (simp; done) | (simp; omega)))) | (with_reducible refine Below.drew ?_) | (with_reducible refine below_drewN ?_ _) | ((with_reducible refine Below.trans ?_ (Below.mono B1.out ?_)); rotate_left; (focus (first | omega | (simp; done) | (simp; omega))))))⟩

set_option maxRecDepth 100000 in
set_option maxHeartbeats 4000000 in
theorem overQ_any (r s p q : Int) (w : World) :
    Calls Try.prog 27 #[.agg #[.int .i64 r, .int .i64 s], .agg #[.int .i64 p, .int .i64 q]] w fun e w' => e = .returned (.tuple #[.bool (overB (r, s) (p, q)), .int .i64 (overE (r, s) (p, q))]) ∧ Below w.heap.size w w' := by
  have HO := Lib.hid (fun W => over_any p q W)
  have H1 := Lib.hid (fun B W => over1_any r s p q B W)
  generalize overB (r, s) (p, q) = R at *
  generalize overE (r, s) (p, q) = E at *
  go_enter Try.func27, Try.ntmps27
  go_wp2_with fail
  go_region_held3 (fun w' => w'.cell? ⟨w.heap.size, 0, none⟩ = some (.int .i64 r) ∧ w'.cell? ⟨w.heap.size, 1, none⟩ = some (.int .i64 s) ∧ w'.cell? ⟨w.heap.size + 1, 0, none⟩ = some (.int .i64 p) ∧ w'.cell? ⟨w.heap.size + 1, 1, none⟩ = some (.int .i64 q)) (first | (go_simp; done) | (go_keep; done) | (refine ⟨?_, ?_, ?_, ?_⟩ <;> first | (go_simp; done) | (go_keep; done))) (first | (first | (go_at_call 55; (with_reducible refine (HO.out _ _ rfl).mono ?_); rintro e w4 ⟨rfl, rfl⟩) | (go_at_call 74; (with_reducible refine (H1.out _ _ (by go_simp) (by go_simp) (by simp)).mono ?_); rintro e w5 ⟨rfl, b5⟩; have B5 := Lib.hid (show Below w.heap.size w w5 from below_tr (by (repeat (first | with_reducible exact Below.refl _ _ | ((with_reducible refine Below.setCell ?_ ?_ _); rotate_left; (focus (first | omega | (simp; done) | (simp; omega)))) | ((with_reducible refine Below.alloc ?_ ?_ _); rotate_left; (focus (first | omega | (simp; done) | (simp; omega)))) | (with_reducible refine Below.drew ?_) | (with_reducible refine below_drewN ?_ _)))) (b5.mono (by first | omega | (simp; done) | (simp; omega)))); have z0 : w5.cell? ⟨w.heap.size, 0, none⟩ = some (.int .i64 r) := (b5.cell (by first | omega | (simp; done) | (simp; omega))).trans (by go_simp); have z1 : w5.cell? ⟨w.heap.size, 1, none⟩ = some (.int .i64 s) := (b5.cell (by first | omega | (simp; done) | (simp; omega))).trans (by go_simp); have z2 : w5.cell? ⟨w.heap.size + 1, 0, none⟩ = some (.int .i64 p) := (b5.cell (by first | omega | (simp; done) | (simp; omega))).trans (by go_simp); have z3 : w5.cell? ⟨w.heap.size + 1, 1, none⟩ = some (.int .i64 q) := (b5.cell (by first | omega | (simp; done) | (simp; omega))).trans (by go_simp); clear b5)))
  go_wp2_with fail
  go_ret2
  exact ⟨rfl, B5.out⟩

end Go.Proofs.Ytoljilbldkbjpaa
