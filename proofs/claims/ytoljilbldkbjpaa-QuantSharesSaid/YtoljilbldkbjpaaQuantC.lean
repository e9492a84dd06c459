/-
  Walks of quant.Count, quant.Share and of the reference's.
-/
import Derived.Test.YtoljilbldkbjpaaQuantB
namespace Go.Proofs.Ytoljilbldkbjpaa
open Go.RowKit

def countOk (l : List (Int × Int)) (line : Int × Int) : Bool := scoreB line && allS l
def countV (l : List (Int × Int)) (line : Int × Int) : Int := if countOk l line = true then (countP line l : Int) else 0
def countE (l : List (Int × Int)) (line : Int × Int) : Int := if countOk l line = true then 0 else 130
def shareV (l : List (Int × Int)) (line : Int × Int) : Int × Int := if countOk l line = true then ratV (countP line l) l.length else (0, 0)
def shareE (l : List (Int × Int)) (line : Int × Int) : Int := if countOk l line = true then ratE l.length else 130

theorem countP_next {l : List (Int × Int)} {k : Nat} {x line : Int × Int} (h : l[k]? = some x) : countP line (l.take (k + 1)) = countP line (l.take k) + if 0 ≤ oddI x line then 1 else 0 := by
  unfold countP
  rw [take_snoc' h, List.countP_append, List.countP_singleton]
  by_cases h : 0 ≤ oddI x line
  · rw [decide_eq_true h, if_pos h]; rfl
  · rw [decide_eq_false h, if_neg h]; rfl

theorem countP_le {l : List (Int × Int)} {line : Int × Int} : countP line l ≤ l.length := List.countP_le_length

set_option maxRecDepth 100000 in
set_option maxHeartbeats 8000000 in
theorem qcount_any (v : Value) (l : List (Int × Int)) (p q : Int) (w : World) (h : PairsR w v l) (hl : l.length ≤ 10000) :
    Calls Try.prog 28 #[v, .agg #[.int .i64 p, .int .i64 q]] w fun e w' => e = .returned (.tuple #[.int .i64 (countV l (p, q)), .int .i64 (countE l (p, q))]) ∧ Below w.heap.size w w' := by
  have HX := Lib.hid h
  obtain ⟨xa, xc, rfl⟩ := h.shape
  have HI := Lib.hid (fun W => sis_any p q W)
  have HO := Lib.hid (fun W => over_any p q W)
  have HCL := Lib.hid (fun r s B W => over1_any r s p q B W)
  obtain ⟨n, hn⟩ : ∃ n, l.length = n := ⟨_, rfl⟩
  rw [hn] at HX hl ⊢
  have HN := Lib.hid hn
  clear h hn
  cases hs : scoreB (p, q) with
  | false =>
    have e0 : countOk l (p, q) = false := by unfold countOk; rw [hs]; rfl
    have e1 : countV l (p, q) = 0 := by unfold countV; rw [e0]; rfl
    have e2 : countE l (p, q) = 130 := by unfold countE; rw [e0]; rfl
    rw [e1, e2]
    rw [hs] at HI
    clear e0 e1 e2 hs HN
    go_enter Try.func28, Try.ntmps28
    go_wp2_with fail
    (with_reducible refine (HI.out _).mono ?_); rintro e w1 ⟨rfl, b1⟩; have s1 : w.heap.size + 1 ≤ w1.heap.size := (by have := b1.size; first | omega | (simp at this; omega)); have B1 := Lib.hid (show Below w.heap.size w w1 from below_tr (by (repeat (first | with_reducible exact Below.refl _ _ | ((with_reducible refine Below.setCell ?_ ?_ _); rotate_left; (focus (first | omega | (simp; done) | (simp; omega)))) | ((with_reducible refine Below.alloc ?_ ?_ _); rotate_left; (focus (first | omega | (simp; done) | (simp; omega)))) | (with_reducible refine Below.drew ?_) | (with_reducible refine below_drewN ?_ _)))) (b1.mono (by first | omega | (simp; done) | (simp; omega)))); clear b1
    go_wp2_with fail
    go_ret2
    exact ⟨rfl, by (repeat (first | with_reducible exact Below.refl _ _ | ((with_reducible refine Below.setCell ?_ ?_ _); rotate_left; (focus (first | omega | (simp; done) | (simp; omega)))) | ((with_reducible refine Below.alloc ?_ ?_ _); rotate_left; (focus (first | omega | (simp; done) | (simp; omega)))) | (with_reducible refine Below.drew ?_) | (with_reducible refine below_drewN ?_ _) | ((with_reducible refine Below.trans ?_ (Below.mono B1.out ?_)); rotate_left; (focus (first | omega | (simp; done) | (simp; omega))))))⟩
  | true =>
    have HS := Lib.hid hs
    rw [hs] at HI
    clear hs
    obtain ⟨V, hV⟩ : ∃ V, countV l (p, q) = V := ⟨_, rfl⟩
    obtain ⟨E, hE⟩ : ∃ E, countE l (p, q) = E := ⟨_, rfl⟩
    rw [hV, hE]
    have HV := Lib.hid hV
    have HE := Lib.hid hE
    clear hV hE
    go_enter Try.func28, Try.ntmps28
    go_wp2_with fail
    (with_reducible refine (HI.out _).mono ?_); rintro e w1 ⟨rfl, b1⟩; have s1 : w.heap.size + 1 ≤ w1.heap.size := (by have := b1.size; first | omega | (simp at this; omega)); have B1 := Lib.hid (show Below w.heap.size w w1 from below_tr (by (repeat (first | with_reducible exact Below.refl _ _ | ((with_reducible refine Below.setCell ?_ ?_ _); rotate_left; (focus (first | omega | (simp; done) | (simp; omega)))) | ((with_reducible refine Below.alloc ?_ ?_ _); rotate_left; (focus (first | omega | (simp; done) | (simp; omega)))) | (with_reducible refine Below.drew ?_) | (with_reducible refine below_drewN ?_ _)))) (b1.mono (by first | omega | (simp; done) | (simp; omega)))); have c1_0 : w1.cell? ⟨w.heap.size, 0, none⟩ = some (.int .i64 p) := (b1.cell (by first | omega | (simp; done) | (simp; omega))).trans (by go_simp); have c1_1 : w1.cell? ⟨w.heap.size, 1, none⟩ = some (.int .i64 q) := (b1.cell (by first | omega | (simp; done) | (simp; omega))).trans (by go_simp); have l1_0 : w.heap.size < w1.heap.size := (by omega); have n1_0 : w.heap.size ≠ w1.heap.size := (by omega); have m1_0 : w1.heap.size ≠ w.heap.size := (by omega); clear b1
    go_wp2_with fail
    (with_reducible refine (HO.out _ _ rfl).mono ?_)
    rintro e w2 ⟨rfl, rfl⟩
    go_wp2_with fail
    go_loopw [6, 19] (fun c i wr => ∃ k : Nat, i = .int .i64 k ∧ c = .int .i64 (countP (p, q) (l.take k)) ∧ k ≤ n ∧ allS (l.take k) = true ∧ Below w.heap.size w wr ∧ wr.cell? ⟨w1.heap.size, 0, none⟩ = some (.int .i64 p) ∧ wr.cell? ⟨w1.heap.size, 1, none⟩ = some (.int .i64 q) ∧ w1.heap.size < wr.heap.size) (fun _ i _ => n - (intOf i).toNat)
    case atStart => exact ⟨0, rfl, rfl, by omega, rfl, by (repeat (first | with_reducible exact Below.refl _ _ | ((with_reducible refine Below.setCell ?_ ?_ _); rotate_left; (focus (first | omega | (simp; done) | (simp; omega)))) | ((with_reducible refine Below.alloc ?_ ?_ _); rotate_left; (focus (first | omega | (simp; done) | (simp; omega)))) | (with_reducible refine Below.drew ?_) | (with_reducible refine below_drewN ?_ _) | ((with_reducible refine Below.trans ?_ (Below.mono B1.out ?_)); rotate_left; (focus (first | omega | (simp; done) | (simp; omega)))))), by go_simp, by go_simp, by simp⟩
    case round =>
      obtain ⟨k, rfl, rfl, hk, hall, hbr, g0, g1, hG⟩ := hrel
      have HA := Lib.hid hall
      have HBR := Lib.hid hbr
      have hsz := hbr.size
      have i1 : (0 : Int) ≤ (k : Int) := by omega
      have hck : countP (p, q) (l.take k) ≤ k := by have := countP_le (l := l.take k) (line := (p, q)); rw [List.length_take] at this; omega
      by_cases hlt : k < n
      · obtain ⟨⟨r, s⟩, hx⟩ := getElem?_ex (l := l) (k := k) (by rw [HN.out]; exact hlt)
        obtain ⟨b, o, rfl⟩ := HX.out.addr (by rw [HN.out]; omega)
        obtain ⟨hb, c0, c1⟩ := HX.out.at hx
        have e0 := (hbr.cell (p := ⟨b, o + k * 2, none⟩) hb).trans c0
        have e1 := (hbr.cell (p := ⟨b, o + k * 2 + 1, none⟩) hb).trans c1
        have i2 : (k : Int) < (n : Int) := by omega
        have hbz : b < wr.heap.size := by omega
        have hbz2 : b ≠ wr.heap.size := by omega
        have HK := Lib.hid hx
        have HNX := Lib.hid (countP_next (line := (p, q)) hx)
        have HOVB := Lib.hid (show scoreB (r, s) = true → overB (r, s) (p, q) = decide (0 ≤ oddI (r, s) (p, q)) from fun h => by unfold overB; rw [h, HS.out]; rfl)
        have HOVE := Lib.hid (show overE (r, s) (p, q) = if scoreB (r, s) = true then 0 else 130 by unfold overE; rw [HS.out, Bool.and_true])
        have HCK := Lib.hid (fun W c0 c1 hB => HCL.out r s w1.heap.size W c0 c1 hB)
        have HYES := Lib.hid (fun hs : scoreB (r, s) = true => allS_take HK.out HA.out hs)
        have HNO := Lib.hid (fun hs : scoreB (r, s) = false => allS_not HK.out hs)
        generalize countP (p, q) (l.take k) = C at *
        clear c0 c1 hx hall hbr
        cases hsc : scoreB (r, s) with
        | false =>
          rw [hsc] at HOVE
          rw [HOVE.out] at HCK
          have HN2 := Lib.hid (HNO.out hsc)
          clear hsc HYES HNO HOVB HOVE
          generalize overB (r, s) (p, q) = OB at *
          simp only [Bool.false_eq_true, if_false] at HCK
          go_wp2_with fail
          (with_reducible refine (HCK.out _ (by go_simp) (by go_simp) (by simp; omega)).mono ?_)
          rintro e w4 ⟨rfl, b4⟩
          have B4 := Lib.hid (show Below wr.heap.size wr w4 from below_tr (by (repeat (first | with_reducible exact Below.refl _ _ | ((with_reducible refine Below.setCell ?_ ?_ _); rotate_left; (focus (first | omega | (simp; done) | (simp; omega)))) | ((with_reducible refine Below.alloc ?_ ?_ _); rotate_left; (focus (first | omega | (simp; done) | (simp; omega)))) | (with_reducible refine Below.drew ?_) | (with_reducible refine below_drewN ?_ _)))) (b4.mono (by first | omega | (simp; done) | (simp; omega))))
          clear b4
          go_wp2_with fail
          exact bodyPost_ret (v := .tuple #[.int .i64 0, .int .i64 130]) (by simp [results, Try.results28, go_sem]) rfl ⟨ret2 (by rw [← HV.out]; unfold countV countOk; rw [HN2.out, Bool.and_false]; rfl) (by rw [← HE.out]; unfold countE countOk; rw [HN2.out, Bool.and_false]; rfl), by (repeat (first | with_reducible exact Below.refl _ _ | ((with_reducible refine Below.setCell ?_ ?_ _); rotate_left; (focus (first | omega | (simp; done) | (simp; omega)))) | ((with_reducible refine Below.alloc ?_ ?_ _); rotate_left; (focus (first | omega | (simp; done) | (simp; omega)))) | (with_reducible refine Below.drew ?_) | (with_reducible refine below_drewN ?_ _) | ((with_reducible refine Below.trans ?_ (Below.mono B4.out ?_)); rotate_left; (focus (first | omega | (simp; done) | (simp; omega)))) | ((with_reducible refine Below.trans ?_ (Below.mono HBR.out ?_)); rotate_left; (focus (first | omega | (simp; done) | (simp; omega))))))⟩
        | true =>
          rw [hsc] at HOVE
          rw [HOVE.out, HOVB.out hsc] at HCK
          have HN2 := Lib.hid (HYES.out hsc)
          clear hsc HYES HNO HOVB HOVE
          simp only [if_true] at HCK
          generalize oddI (r, s) (p, q) = R at *
          by_cases hR : 0 ≤ R
          · have HC2 := Lib.hid (HNX.out.trans (by rw [if_pos hR]))
            rw [decide_eq_true hR] at HCK
            clear HNX
            go_wp2_with fail
            (with_reducible refine (HCK.out _ (by go_simp) (by go_simp) (by simp; omega)).mono ?_)
            rintro e w4 ⟨rfl, b4⟩
            have B4 := Lib.hid (show Below wr.heap.size wr w4 from below_tr (by (repeat (first | with_reducible exact Below.refl _ _ | ((with_reducible refine Below.setCell ?_ ?_ _); rotate_left; (focus (first | omega | (simp; done) | (simp; omega)))) | ((with_reducible refine Below.alloc ?_ ?_ _); rotate_left; (focus (first | omega | (simp; done) | (simp; omega)))) | (with_reducible refine Below.drew ?_) | (with_reducible refine below_drewN ?_ _)))) (b4.mono (by first | omega | (simp; done) | (simp; omega))))
            have z0 := (B4.out.cell (p := ⟨w1.heap.size, 0, none⟩) hG).trans g0
            have z1 := (B4.out.cell (p := ⟨w1.heap.size, 1, none⟩) hG).trans g1
            have s4 := B4.out.size
            clear b4
            go_wp2_with fail
            go_roundw
            case rel => exact ⟨k + 1, by go_num, by rw [HC2.out]; go_num, by omega, HN2.out, by (repeat (first | with_reducible exact Below.refl _ _ | ((with_reducible refine Below.setCell ?_ ?_ _); rotate_left; (focus (first | omega | (simp; done) | (simp; omega)))) | ((with_reducible refine Below.alloc ?_ ?_ _); rotate_left; (focus (first | omega | (simp; done) | (simp; omega)))) | (with_reducible refine Below.drew ?_) | (with_reducible refine below_drewN ?_ _) | ((with_reducible refine Below.trans ?_ (Below.mono B4.out ?_)); rotate_left; (focus (first | omega | (simp; done) | (simp; omega)))) | ((with_reducible refine Below.trans ?_ (Below.mono HBR.out ?_)); rotate_left; (focus (first | omega | (simp; done) | (simp; omega)))))), z0, z1, by omega⟩
            case measure => simp [intOf] <;> omega
          · have HC2 := Lib.hid (HNX.out.trans (by rw [if_neg hR]))
            rw [decide_eq_false hR] at HCK
            clear HNX
            go_wp2_with fail
            (with_reducible refine (HCK.out _ (by go_simp) (by go_simp) (by simp; omega)).mono ?_)
            rintro e w4 ⟨rfl, b4⟩
            have B4 := Lib.hid (show Below wr.heap.size wr w4 from below_tr (by (repeat (first | with_reducible exact Below.refl _ _ | ((with_reducible refine Below.setCell ?_ ?_ _); rotate_left; (focus (first | omega | (simp; done) | (simp; omega)))) | ((with_reducible refine Below.alloc ?_ ?_ _); rotate_left; (focus (first | omega | (simp; done) | (simp; omega)))) | (with_reducible refine Below.drew ?_) | (with_reducible refine below_drewN ?_ _)))) (b4.mono (by first | omega | (simp; done) | (simp; omega))))
            have z0 := (B4.out.cell (p := ⟨w1.heap.size, 0, none⟩) hG).trans g0
            have z1 := (B4.out.cell (p := ⟨w1.heap.size, 1, none⟩) hG).trans g1
            have s4 := B4.out.size
            clear b4
            go_wp2_with fail
            go_roundw
            case rel => exact ⟨k + 1, by go_num, by rw [HC2.out]; rfl, by omega, HN2.out, by (repeat (first | with_reducible exact Below.refl _ _ | ((with_reducible refine Below.setCell ?_ ?_ _); rotate_left; (focus (first | omega | (simp; done) | (simp; omega)))) | ((with_reducible refine Below.alloc ?_ ?_ _); rotate_left; (focus (first | omega | (simp; done) | (simp; omega)))) | (with_reducible refine Below.drew ?_) | (with_reducible refine below_drewN ?_ _) | ((with_reducible refine Below.trans ?_ (Below.mono B4.out ?_)); rotate_left; (focus (first | omega | (simp; done) | (simp; omega)))) | ((with_reducible refine Below.trans ?_ (Below.mono HBR.out ?_)); rotate_left; (focus (first | omega | (simp; done) | (simp; omega)))))), z0, z1, by omega⟩
            case measure => simp [intOf] <;> omega
      · obtain rfl : k = n := by omega
        have htk : l.take k = l := List.take_of_length_le (by rw [HN.out]; exact Nat.le_refl _)
        have HN2 := Lib.hid (show allS l = true from htk ▸ HA.out)
        rw [htk]
        clear htk hall hbr
        go_wp2_with fail
        go_ret2
        exact ⟨ret2 (by rw [← HV.out]; unfold countV countOk; rw [HS.out, HN2.out]; rfl) (by rw [← HE.out]; unfold countE countOk; rw [HS.out, HN2.out]; rfl), HBR.out⟩
end Go.Proofs.Ytoljilbldkbjpaa
