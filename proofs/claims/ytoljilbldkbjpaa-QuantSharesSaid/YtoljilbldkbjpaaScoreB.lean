/-
  Walks of score.all and of the reference's All.
-/
import Derived.Test.YtoljilbldkbjpaaScoreA
namespace Go.Proofs.Ytoljilbldkbjpaa
open Go.RowKit

theorem allS_take {l : List (Int × Int)} {k : Nat} {x : Int × Int} (hx : l[k]? = some x) (h : allS (l.take k) = true) (hs : scoreB x = true) : allS (l.take (k + 1)) = true := by
  rw [take_snoc' hx]
  unfold allS at *
  rw [List.all_append, h]
  simp [hs]

theorem allS_not {l : List (Int × Int)} {k : Nat} {x : Int × Int} (hx : l[k]? = some x) (hs : scoreB x = false) : allS l = false := by
  unfold allS
  rw [List.all_eq_false]
  exact ⟨x, List.mem_of_getElem? hx, by rw [hs]; simp⟩

set_option maxRecDepth 100000 in
set_option maxHeartbeats 4000000 in
theorem sall_any (v : Value) (l : List (Int × Int)) (w : World) (h : PairsR w v l) : Calls Try.prog 80 #[v] w fun e w' => e = .returned (.int .i64 (if allS l = true then 0 else 130)) ∧ Below w.heap.size w w' := by
  have HX := Lib.hid h
  obtain ⟨ad, c, rfl, q1, q2, q3, _⟩ := h
  obtain ⟨n, hn⟩ : ∃ n, l.length = n := ⟨_, rfl⟩
  rw [hn] at q1 q3 HX ⊢
  have HN := Lib.hid hn
  clear hn
  obtain ⟨R, hR⟩ : ∃ R, (if allS l = true then (0 : Int) else 130) = R := ⟨_, rfl⟩
  rw [hR]
  have HR := Lib.hid hR
  clear hR
  go_enter Try.func80, Try.ntmps80
  go_wp2_with fail
  go_loopw [4, 7] (fun _ i wr => ∃ k : Nat, i = .int .i64 k ∧ k ≤ n ∧ allS (l.take k) = true ∧ Below w.heap.size w wr) (fun _ i _ => n - (intOf i).toNat)
  case atStart => exact ⟨0, rfl, by omega, rfl, by (repeat (first | with_reducible exact Below.refl _ _ | ((with_reducible refine Below.setCell ?_ ?_ _); rotate_left; (focus (first | omega | (simp; done) | (simp; omega)))) | ((with_reducible refine Below.alloc ?_ ?_ _); rotate_left; (focus (first | omega | (simp; done) | (simp; omega)))) | (with_reducible refine Below.drew ?_) | (with_reducible refine below_drewN ?_ _)))⟩
  case round =>
    obtain ⟨k, rfl, hk, hall, hbr⟩ := hrel
    have HA := Lib.hid hall
    have HBR := Lib.hid hbr
    have hsz := hbr.size
    have i1 : (0 : Int) ≤ (k : Int) := by omega
    by_cases hlt : k < n
    · obtain ⟨⟨p, q⟩, hx⟩ := getElem?_ex (l := l) (k := k) (by rw [HN.out]; exact hlt)
      obtain ⟨b, o, rfl⟩ := HX.out.addr (by rw [HN.out]; omega)
      obtain ⟨hb, c0, c1⟩ := HX.out.at hx
      have e0 := (hbr.cell (p := ⟨b, o + k * 2, none⟩) hb).trans c0
      have e1 := (hbr.cell (p := ⟨b, o + k * 2 + 1, none⟩) hb).trans c1
      have HK := Lib.hid hx
      have i2 : (k : Int) < (n : Int) := by omega
      have hbz : b < wr.heap.size := by omega
      have hbz2 : b ≠ wr.heap.size := by omega
      have HIS := Lib.hid (fun W => sis_any p q W)
      have HYES := Lib.hid (fun hs : scoreB (p, q) = true => allS_take HK.out HA.out hs)
      have HNO := Lib.hid (fun hs : scoreB (p, q) = false => allS_not HK.out hs)
      clear c0 c1 hx hall hbr
      obtain ⟨TB, hTB⟩ : ∃ TB, scoreB (p, q) = TB := ⟨_, rfl⟩
      rw [hTB] at HIS HYES HNO
      clear hTB
      cases TB with
      | false =>
        have HN2 := Lib.hid (HNO.out rfl)
        clear HYES
        go_wp2_with fail
        (with_reducible refine (HIS.out _).mono ?_)
        rintro e w4 ⟨rfl, b4⟩
        have B4 := Lib.hid (show Below wr.heap.size wr w4 from below_tr (by (repeat (first | with_reducible exact Below.refl _ _ | ((with_reducible refine Below.setCell ?_ ?_ _); rotate_left; (focus (first | omega | (simp; done) | (simp; omega)))) | ((with_reducible refine Below.alloc ?_ ?_ _); rotate_left; (focus (first | omega | (simp; done) | (simp; omega)))) | (with_reducible refine Below.drew ?_) | (with_reducible refine below_drewN ?_ _)))) (b4.mono (by first | omega | (simp; done) | (simp; omega))))
        clear b4
        go_wp2_with fail
        exact bodyPost_ret (v := .int .i64 130) (by simp [results, Try.results80, go_sem]) rfl ⟨by rw [← HR.out, HN2.out]; try rfl, by (repeat (first | with_reducible exact Below.refl _ _ | ((with_reducible refine Below.setCell ?_ ?_ _); rotate_left; (focus (first | omega | (simp; done) | (simp; omega)))) | ((with_reducible refine Below.alloc ?_ ?_ _); rotate_left; (focus (first | omega | (simp; done) | (simp; omega)))) | (with_reducible refine Below.drew ?_) | (with_reducible refine below_drewN ?_ _) | ((with_reducible refine Below.trans ?_ (Below.mono B4.out ?_)); rotate_left; (focus (first | omega | (simp; done) | (simp; omega)))) | ((with_reducible refine Below.trans ?_ (Below.mono HBR.out ?_)); rotate_left; (focus (first | omega | (simp; done) | (simp; omega))))))⟩
      | true =>
        have HN2 := Lib.hid (HYES.out rfl)
        clear HNO
        go_wp2_with fail
        (with_reducible refine (HIS.out _).mono ?_)
        rintro e w4 ⟨rfl, b4⟩
        have B4 := Lib.hid (show Below wr.heap.size wr w4 from below_tr (by (repeat (first | with_reducible exact Below.refl _ _ | ((with_reducible refine Below.setCell ?_ ?_ _); rotate_left; (focus (first | omega | (simp; done) | (simp; omega)))) | ((with_reducible refine Below.alloc ?_ ?_ _); rotate_left; (focus (first | omega | (simp; done) | (simp; omega)))) | (with_reducible refine Below.drew ?_) | (with_reducible refine below_drewN ?_ _)))) (b4.mono (by first | omega | (simp; done) | (simp; omega))))
        clear b4
        go_wp2_with fail
        go_roundw
        case rel => exact ⟨k + 1, by go_num, by omega, HN2.out, by (repeat (first | with_reducible exact Below.refl _ _ | ((with_reducible refine Below.setCell ?_ ?_ _); rotate_left; (focus (first | omega | (simp; done) | (simp; omega)))) | ((with_reducible refine Below.alloc ?_ ?_ _); rotate_left; (focus (first | omega | (simp; done) | (simp; omega)))) | (with_reducible refine Below.drew ?_) | (with_reducible refine below_drewN ?_ _) | ((with_reducible refine Below.trans ?_ (Below.mono B4.out ?_)); rotate_left; (focus (first | omega | (simp; done) | (simp; omega)))) | ((with_reducible refine Below.trans ?_ (Below.mono HBR.out ?_)); rotate_left; (focus (first | omega | (simp; done) | (simp; omega))))))⟩
        case measure => simp [intOf] <;> omega
    · obtain rfl : k = n := by omega
      have htk : l.take k = l := List.take_of_length_le (by rw [HN.out]; exact Nat.le_refl _)
      have HN2 := Lib.hid (htk ▸ HA.out)
      clear htk hall hbr
      go_wp2_with fail
      go_ret
      exact ⟨by rw [← HR.out, HN2.out]; try rfl, by (repeat (first | with_reducible exact Below.refl _ _ | ((with_reducible refine Below.setCell ?_ ?_ _); rotate_left; (focus (first | omega | (simp; done) | (simp; omega)))) | ((with_reducible refine Below.alloc ?_ ?_ _); rotate_left; (focus (first | omega | (simp; done) | (simp; omega)))) | (with_reducible refine Below.drew ?_) | (with_reducible refine below_drewN ?_ _) | ((with_reducible refine Below.trans ?_ (Below.mono HBR.out ?_)); rotate_left; (focus (first | omega | (simp; done) | (simp; omega))))))⟩

set_option maxRecDepth 100000 in
set_option maxHeartbeats 4000000 in
theorem rall13_any (v : Value) (l : List (Int × Int)) (w : World) (h : PairsR w v l) : Calls Try.prog 36 #[v] w fun e w' => e = .returned (.bool (allS l)) ∧ Below w.heap.size w w' := by
  have HX := Lib.hid h
  obtain ⟨ad, c, rfl, q1, q2, q3, _⟩ := h
  obtain ⟨n, hn⟩ : ∃ n, l.length = n := ⟨_, rfl⟩
  rw [hn] at q1 q3 HX ⊢
  have HN := Lib.hid hn
  clear hn
  obtain ⟨R, hR⟩ : ∃ R, allS l = R := ⟨_, rfl⟩
  rw [hR]
  have HR := Lib.hid hR
  clear hR
  go_enter Try.func36, Try.ntmps36
  go_wp2_with fail
  go_loopw [3] (fun i wr => ∃ k : Nat, i = .int .i64 k ∧ k ≤ n ∧ allS (l.take k) = true ∧ Below w.heap.size w wr) (fun i _ => n - (intOf i).toNat)
  case atStart => exact ⟨0, rfl, by omega, rfl, by (repeat (first | with_reducible exact Below.refl _ _ | ((with_reducible refine Below.setCell ?_ ?_ _); rotate_left; (focus (first | omega | (simp; done) | (simp; omega)))) | ((with_reducible refine Below.alloc ?_ ?_ _); rotate_left; (focus (first | omega | (simp; done) | (simp; omega)))) | (with_reducible refine Below.drew ?_) | (with_reducible refine below_drewN ?_ _)))⟩
  case round =>
    obtain ⟨k, rfl, hk, hall, hbr⟩ := hrel
    have HA := Lib.hid hall
    have HBR := Lib.hid hbr
    have hsz := hbr.size
    have i1 : (0 : Int) ≤ (k : Int) := by omega
    by_cases hlt : k < n
    · obtain ⟨⟨p, q⟩, hx⟩ := getElem?_ex (l := l) (k := k) (by rw [HN.out]; exact hlt)
      obtain ⟨b, o, rfl⟩ := HX.out.addr (by rw [HN.out]; omega)
      obtain ⟨hb, c0, c1⟩ := HX.out.at hx
      have e0 := (hbr.cell (p := ⟨b, o + k * 2, none⟩) hb).trans c0
      have e1 := (hbr.cell (p := ⟨b, o + k * 2 + 1, none⟩) hb).trans c1
      have HK := Lib.hid hx
      have i2 : (k : Int) < (n : Int) := by omega
      have hbz : b < wr.heap.size := by omega
      have hbz2 : b ≠ wr.heap.size := by omega
      have HIS := Lib.hid (fun W => ris13_any p q W)
      have HYES := Lib.hid (fun hs : scoreB (p, q) = true => allS_take HK.out HA.out hs)
      have HNO := Lib.hid (fun hs : scoreB (p, q) = false => allS_not HK.out hs)
      clear c0 c1 hx hall hbr
      obtain ⟨TB, hTB⟩ : ∃ TB, scoreB (p, q) = TB := ⟨_, rfl⟩
      rw [hTB] at HIS HYES HNO
      clear hTB
      cases TB with
      | false =>
        have HN2 := Lib.hid (HNO.out rfl)
        clear HYES
        go_wp2_with fail
        (with_reducible refine (HIS.out _).mono ?_)
        rintro e w4 ⟨rfl, b4⟩
        have B4 := Lib.hid (show Below wr.heap.size wr w4 from below_tr (by (repeat (first | with_reducible exact Below.refl _ _ | ((with_reducible refine Below.setCell ?_ ?_ _); rotate_left; (focus (first | omega | (simp; done) | (simp; omega)))) | ((with_reducible refine Below.alloc ?_ ?_ _); rotate_left; (focus (first | omega | (simp; done) | (simp; omega)))) | (with_reducible refine Below.drew ?_) | (with_reducible refine below_drewN ?_ _)))) (b4.mono (by first | omega | (simp; done) | (simp; omega))))
        clear b4
        go_wp2_with fail
        exact bodyPost_ret (v := .bool false) (by simp [results, Try.results36, go_sem]) rfl ⟨by rw [← HR.out, HN2.out]; try rfl, by (repeat (first | with_reducible exact Below.refl _ _ | ((with_reducible refine Below.setCell ?_ ?_ _); rotate_left; (focus (first | omega | (simp; done) | (simp; omega)))) | ((with_reducible refine Below.alloc ?_ ?_ _); rotate_left; (focus (first | omega | (simp; done) | (simp; omega)))) | (with_reducible refine Below.drew ?_) | (with_reducible refine below_drewN ?_ _) | ((with_reducible refine Below.trans ?_ (Below.mono B4.out ?_)); rotate_left; (focus (first | omega | (simp; done) | (simp; omega)))) | ((with_reducible refine Below.trans ?_ (Below.mono HBR.out ?_)); rotate_left; (focus (first | omega | (simp; done) | (simp; omega))))))⟩
      | true =>
        have HN2 := Lib.hid (HYES.out rfl)
        clear HNO
        go_wp2_with fail
        (with_reducible refine (HIS.out _).mono ?_)
        rintro e w4 ⟨rfl, b4⟩
        have B4 := Lib.hid (show Below wr.heap.size wr w4 from below_tr (by (repeat (first | with_reducible exact Below.refl _ _ | ((with_reducible refine Below.setCell ?_ ?_ _); rotate_left; (focus (first | omega | (simp; done) | (simp; omega)))) | ((with_reducible refine Below.alloc ?_ ?_ _); rotate_left; (focus (first | omega | (simp; done) | (simp; omega)))) | (with_reducible refine Below.drew ?_) | (with_reducible refine below_drewN ?_ _)))) (b4.mono (by first | omega | (simp; done) | (simp; omega))))
        clear b4
        go_wp2_with fail
        go_roundw
        case rel => exact ⟨k + 1, by go_num, by omega, HN2.out, by (repeat (first | with_reducible exact Below.refl _ _ | ((with_reducible refine Below.setCell ?_ ?_ _); rotate_left; (focus (first | omega | (simp; done) | (simp; omega)))) | ((with_reducible refine Below.alloc ?_ ?_ _); rotate_left; (focus (first | omega | (simp; done) | (simp; omega)))) | (with_reducible refine Below.drew ?_) | (with_reducible refine below_drewN ?_ _) | ((with_reducible refine Below.trans ?_ (Below.mono B4.out ?_)); rotate_left; (focus (first | omega | (simp; done) | (simp; omega)))) | ((with_reducible refine Below.trans ?_ (Below.mono HBR.out ?_)); rotate_left; (focus (first | omega | (simp; done) | (simp; omega))))))⟩
        case measure => simp [intOf] <;> omega
    · obtain rfl : k = n := by omega
      have htk : l.take k = l := List.take_of_length_le (by rw [HN.out]; exact Nat.le_refl _)
      have HN2 := Lib.hid (htk ▸ HA.out)
      clear htk hall hbr
      go_wp2_with fail
      go_ret
      exact ⟨by rw [← HR.out, HN2.out]; try rfl, by (repeat (first | with_reducible exact Below.refl _ _ | ((with_reducible refine Below.setCell ?_ ?_ _); rotate_left; (focus (first | omega | (simp; done) | (simp; omega)))) | ((with_reducible refine Below.alloc ?_ ?_ _); rotate_left; (focus (first | omega | (simp; done) | (simp; omega)))) | (with_reducible refine Below.drew ?_) | (with_reducible refine below_drewN ?_ _) | ((with_reducible refine Below.trans ?_ (Below.mono HBR.out ?_)); rotate_left; (focus (first | omega | (simp; done) | (simp; omega))))))⟩
end Go.Proofs.Ytoljilbldkbjpaa
