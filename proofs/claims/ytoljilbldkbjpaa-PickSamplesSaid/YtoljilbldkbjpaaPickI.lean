/-
  Walk of copseref07.Weigh.
-/
import Derived.Test.YtoljilbldkbjpaaPickE
import Derived.Test.YtoljilbldkbjpaaPickF
namespace Go.Proofs.Ytoljilbldkbjpaa
open Go.RowKit

set_option maxRecDepth 100000 in
set_option maxHeartbeats 4000000 in
theorem rweigh_any (v vw : Value) (l ws : List Int) (a t : Int) (w : World) (h : Ints .u64 w v l) (hu : AllU l) (ha : Ok64 a) (hw : Ints .i64 w vw ws) :
    Calls Try.prog 23 #[v, .int .i64 a, vw, .int .i64 t] w fun e w' => e = .returned (.tuple #[.int .i64 (weighV l a ws t).1, .int .i64 (weighV l a ws t).2.1, .int .i64 (weighV l a ws t).2.2]) ∧ Below w.heap.size w w' := by
  have HX := Lib.hid h
  have HU := Lib.hid hu
  have HO := Lib.hid ha
  have HW := Lib.hid hw
  obtain ⟨ax, cx, rfl, _⟩ := h
  obtain ⟨aw, cw, rfl, _, hcw, hl3, hwc⟩ := hw
  have HC := Lib.hid hwc
  have HBD := Lib.hid (fun h => weigh_bad (l := l) (a := a) (ws := ws) (t := t) h)
  have HWV := Lib.hid (show ¬ weighBad a ws t → weighV l a ws t = (if (boundB l a (sumW ws).toNat t).2.2 = 0 then weighK (boundB l a (sumW ws).toNat t).2.1 (atW ws (boundB l a (sumW ws).toNat t).1 0) else (0, 0, (boundB l a (sumW ws).toNat t).2.2)) from fun h => by unfold weighV; rw [if_neg h])
  obtain ⟨WV, hWV⟩ : ∃ X, weighV l a ws t = X := ⟨_, rfl⟩
  rw [hWV] at HBD HWV ⊢
  obtain ⟨n, hn⟩ : ∃ n, ws.length = n := ⟨_, rfl⟩
  have HN := Lib.hid hn
  rw [hn] at HW hl3 ⊢
  have hlb : (n : Int) ≤ 140737488351232 := by omega
  generalize l.length = m at *
  clear hWV hu ha hwc
  · skip
    by_cases h2 : 256 < n
    · have h2' : (256 : Int) < n := by omega
      have HR := Lib.hid (HBD.out (by unfold weighBad; omega))
      clear hn
      go_enter Try.func23, Try.ntmps23
      go_wp2_with fail
      exact bodyPost_ret (v := .tuple #[.int .i64 0, .int .i64 0, .int .i64 1]) (by simp [results, Try.results23, go_sem]) rfl ⟨by rw [HR.out], by (repeat (first | with_reducible exact Below.refl _ _ | ((with_reducible refine Below.setCell ?_ ?_ _); rotate_left; (focus (first | omega | (simp; done) | (simp; omega)))) | ((with_reducible refine Below.alloc ?_ ?_ _); rotate_left; (focus (first | omega | (simp; done) | (simp; omega)))) | (with_reducible refine Below.drew ?_) | (with_reducible refine below_drewN ?_ _)))⟩
    · have h2' : (n : Int) ≤ 256 := by omega
      by_cases hq : 0 ≤ a ∧ 1 ≤ t ∧ t ≤ 64
      · have HAS := Lib.hid (decide_eq_true hq ▸ rasked07_any a t w)
        obtain ⟨q1, q2, q3⟩ := hq
        clear hn
        go_enter Try.func23, Try.ntmps23
        go_wp2_with fail
        (with_reducible refine HAS.out.mono ?_)
        rintro e w1 ⟨rfl, rfl⟩
        go_wp2_with fail
        go_loopw [11, 12] (fun s i wr => ∃ k : Nat, s = .int .i64 (sumW (ws.take k)) ∧ i = .int .i64 k ∧ k ≤ n ∧ (∀ x ∈ ws.take k, 0 ≤ x ∧ x ≤ 1099511627776) ∧ wr = w) (fun _ i _ => n - (intOf i).toNat)
        case atStart => exact ⟨0, rfl, rfl, by omega, fun x hx => by simp at hx, rfl⟩
        case round =>
          obtain ⟨k, rfl, rfl, hk, hal, rfl⟩ := hrel
          have HAL := Lib.hid hal
          have hsb := sumW_bd (ws.take k) 1099511627776 hal
          have hsl : (ws.take k).length ≤ k := by rw [List.length_take]; omega
          have i1 : (0 : Int) ≤ (k : Int) := by omega
          have hs1 : 0 ≤ sumW (ws.take k) := hsb.1
          have hs2 : sumW (ws.take k) ≤ 281474976710656 := by omega
          clear hal hsb hsl
          by_cases hlt : k < n
          · have i2 : (k : Int) < (n : Int) := by omega
            obtain ⟨x, hx⟩ := getElem?_ex (l := ws) (k := k) (by rw [HN.out]; exact hlt)
            obtain ⟨b, o, rfl, hbw, c0⟩ := HC.out k x hx
            have HX2 := Lib.hid hx
            have HST := Lib.hid (sumW_take hx)
            have HBX := Lib.hid (show ¬ (0 ≤ x ∧ x ≤ 1099511627776) → weighBad a ws t from fun hh => .inr (.inr (.inr (.inr (.inl (List.any_eq_true.2 ⟨x, List.mem_of_getElem? hx, decide_eq_true (by omega)⟩))))))
            have HTK := Lib.hid (take_snoc' hx)
            generalize sumW (ws.take k) = S at *
            clear hx
            by_cases h3 : x < 0
            · have HR := Lib.hid (HBD.out (HBX.out (by omega)))
              go_wp2_with fail
              exact bodyPost_ret (v := .tuple #[.int .i64 0, .int .i64 0, .int .i64 1]) (by simp [results, Try.results23, go_sem]) rfl ⟨by rw [HR.out], by (repeat (first | with_reducible exact Below.refl _ _ | ((with_reducible refine Below.setCell ?_ ?_ _); rotate_left; (focus (first | omega | (simp; done) | (simp; omega)))) | ((with_reducible refine Below.alloc ?_ ?_ _); rotate_left; (focus (first | omega | (simp; done) | (simp; omega)))) | (with_reducible refine Below.drew ?_) | (with_reducible refine below_drewN ?_ _)))⟩
            · by_cases h4 : 1099511627776 < x
              · have HR := Lib.hid (HBD.out (HBX.out (by omega)))
                go_wp2_with fail
                exact bodyPost_ret (v := .tuple #[.int .i64 0, .int .i64 0, .int .i64 1]) (by simp [results, Try.results23, go_sem]) rfl ⟨by rw [HR.out], by (repeat (first | with_reducible exact Below.refl _ _ | ((with_reducible refine Below.setCell ?_ ?_ _); rotate_left; (focus (first | omega | (simp; done) | (simp; omega)))) | ((with_reducible refine Below.alloc ?_ ?_ _); rotate_left; (focus (first | omega | (simp; done) | (simp; omega)))) | (with_reducible refine Below.drew ?_) | (with_reducible refine below_drewN ?_ _)))⟩
              · have h3' : 0 ≤ x := by omega
                have h4' : x ≤ 1099511627776 := by omega
                have HNX := Lib.hid (show ∀ y ∈ ws.take (k + 1), 0 ≤ y ∧ y ≤ 1099511627776 by
                  rw [HTK.out]
                  intro y hy
                  rcases List.mem_append.1 hy with hy | hy
                  · exact HAL.out y hy
                  · rw [List.mem_singleton.1 hy]; exact ⟨h3', h4'⟩)
                go_wp2_with fail
                go_roundw
                case rel => exact ⟨k + 1, by rw [HST.out], by go_num, by omega, HNX.out, trivial⟩
                case measure => simp [intOf] <;> omega
          · obtain rfl : k = n := by omega
            have htk : ws.take k = ws := List.take_of_length_le (by rw [HN.out]; exact Nat.le_refl _)
            rw [htk] at hs1 hs2 ⊢
            rw [htk] at HAL
            have hnany : ws.any (fun w => decide (w < 0 ∨ 1099511627776 < w)) = false := by
              rw [List.any_eq_false]
              intro x hx
              have := HAL.out x hx
              simp; omega
            by_cases hz : sumW ws = 0
            · have HR := Lib.hid (HBD.out (by unfold weighBad; exact .inr (.inr (.inr (.inr (.inr hz))))))
              rw [hz]
              clear htk hnany
              go_wp2_with fail
              exact bodyPost_ret (v := .tuple #[.int .i64 0, .int .i64 0, .int .i64 1]) (by simp [results, Try.results23, go_sem]) rfl ⟨by rw [HR.out], by (repeat (first | with_reducible exact Below.refl _ _ | ((with_reducible refine Below.setCell ?_ ?_ _); rotate_left; (focus (first | omega | (simp; done) | (simp; omega)))) | ((with_reducible refine Below.alloc ?_ ?_ _); rotate_left; (focus (first | omega | (simp; done) | (simp; omega)))) | (with_reducible refine Below.drew ?_) | (with_reducible refine below_drewN ?_ _)))⟩
            · have hnb : ¬ weighBad a ws t := by
                unfold weighBad
                rw [hnany, HN.out]
                simp only [Bool.false_eq_true, false_or]
                omega
              have hwv := HWV.out hnb
              have j1 : (sumW ws == 0) = false := by simp [hz]
              obtain ⟨S, hS⟩ : ∃ S : Nat, sumW ws = (S : Int) := ⟨(sumW ws).toNat, by omega⟩
              rw [hS] at hs1 hs2 j1 hz hwv ⊢
              rw [show (S : Int).toNat = S from rfl] at hwv
              have hbo := fun W (hW : Ints .u64 W (.slice ax m cx) l) => rboundB_any (.slice ax m cx) l a S t W hW HU.out (by omega) HO.out
              have HIN := Lib.hid (boundB_in (l := l) (a := a) (n := S) (t := t) HU.out)
              have HAT := Lib.hid (rfl : atW ws (boundB l a S t).1 0 = atW ws (boundB l a S t).1 0)
              obtain ⟨p, hp⟩ : ∃ X, (boundB l a S t).1 = X := ⟨_, rfl⟩
              obtain ⟨A2, hA2⟩ : ∃ X, (boundB l a S t).2.1 = X := ⟨_, rfl⟩
              obtain ⟨E, hE⟩ : ∃ X, (boundB l a S t).2.2 = X := ⟨_, rfl⟩
              rw [hp, hA2, hE] at hbo HIN hwv
              have HBO := Lib.hid hbo
              have HWV2 := Lib.hid hwv
              clear htk hnany hnb hwv hbo hp hA2 hE hS HAT
              by_cases hE0 : E = 0
              · subst hE0
                obtain ⟨⟨p0, p1⟩, _, _, _⟩ := HIN.out rfl
                have hwv := HWV2.out
                rw [if_pos rfl] at hwv
                have HWV3 := Lib.hid hwv
                clear hwv
                go_wp2_with fail
                (with_reducible refine (HBO.out _ HX.out).mono ?_)
                rintro e w4 ⟨rfl, d4, rfl⟩
                have B4 := Lib.hid True.intro
                go_wp2_with fail
                go_loopw [16, 17] (fun up i wz => ∃ (j : Nat), up = .int .i64 (sumW (ws.take j)) ∧ i = .int .i64 j ∧ j ≤ k ∧ sumW (ws.take j) ≤ p ∧ atW ws p 0 = atW (ws.drop j) (p - sumW (ws.take j)) j ∧ wz = wr.drewN d4) (fun _ i _ => k - (intOf i).toNat)
                case atStart => exact ⟨0, rfl, rfl, by omega, p0, by simp [sumW], rfl⟩
                case round =>
                  obtain ⟨j, rfl, rfl, hj, hup, hat, rfl⟩ := hrel
                  have i1 : (0 : Int) ≤ (j : Int) := by omega
                  have hsb := sumW_bd (ws.take j) 1099511627776 (fun x hx => HAL.out x (List.mem_of_mem_take hx))
                  have hsl : (ws.take j).length ≤ j := by rw [List.length_take]; omega
                  have u1 : 0 ≤ sumW (ws.take j) := hsb.1
                  have u2 : sumW (ws.take j) ≤ 281474976710656 := by omega
                  clear hsb hsl
                  by_cases hlt2 : j < k
                  · have i2 : (j : Int) < (k : Int) := by omega
                    obtain ⟨y, hy⟩ := getElem?_ex (l := ws) (k := j) (by rw [HN.out]; exact hlt2)
                    obtain ⟨b, o, rfl, hbw, c0⟩ := HC.out j y hy
                    obtain ⟨y0, y1⟩ := HAL.out y (List.mem_of_getElem? hy)
                    have HST := Lib.hid (sumW_take hy)
                    rw [drop_cons' hy] at hat
                    simp only [atW] at hat
                    have HAT := Lib.hid hat
                    generalize sumW (ws.take j) = U at *
                    clear hat hy
                    by_cases hxy : p < U + y
                    · have HR := Lib.hid (show WV = ((j : Int), A2, 0) by
                        rw [HWV3.out, HAT.out, if_pos (by omega)]
                        rfl)
                      go_wp2_with fail
                      exact bodyPost_ret (v := .tuple #[.int .i64 j, .int .i64 A2, .int .i64 0]) (by simp [results, Try.results23, go_sem]) rfl ⟨by rw [HR.out], by (repeat (first | with_reducible exact Below.refl _ _ | ((with_reducible refine Below.setCell ?_ ?_ _); rotate_left; (focus (first | omega | (simp; done) | (simp; omega)))) | ((with_reducible refine Below.alloc ?_ ?_ _); rotate_left; (focus (first | omega | (simp; done) | (simp; omega)))) | (with_reducible refine Below.drew ?_) | (with_reducible refine below_drewN ?_ _)))⟩
                    · have hxy' : U + y ≤ p := by omega
                      have HR := Lib.hid (show atW ws p 0 = atW (ws.drop (j + 1)) (p - (U + y)) (j + 1) by rw [HAT.out, if_neg (by omega), Int.sub_sub])
                      go_wp2_with fail
                      go_roundw
                      case rel => exact ⟨j + 1, by rw [HST.out], by go_num, by omega, by rw [HST.out]; exact hxy', by rw [HST.out]; exact HR.out, trivial⟩
                      case measure => simp [intOf] <;> omega
                  · obtain rfl : j = k := by omega
                    have HR := Lib.hid (show WV = (0, 0, 1) by
                      rw [HWV3.out, hat, List.drop_of_length_le (by rw [HN.out]; exact Nat.le_refl _)]
                      rfl)
                    clear hat
                    go_wp2_with fail
                    exact bodyPost_ret (v := .tuple #[.int .i64 0, .int .i64 0, .int .i64 1]) (by simp [results, Try.results23, go_sem]) rfl ⟨by rw [HR.out], by (repeat (first | with_reducible exact Below.refl _ _ | ((with_reducible refine Below.setCell ?_ ?_ _); rotate_left; (focus (first | omega | (simp; done) | (simp; omega)))) | ((with_reducible refine Below.alloc ?_ ?_ _); rotate_left; (focus (first | omega | (simp; done) | (simp; omega)))) | (with_reducible refine Below.drew ?_) | (with_reducible refine below_drewN ?_ _)))⟩
              · have j2 : (E != 0) = true := by simp [hE0]
                have HR := Lib.hid (show WV = (0, 0, E) by rw [HWV2.out, if_neg hE0])
                go_wp2_with fail
                (with_reducible refine (HBO.out _ HX.out).mono ?_)
                rintro e w4 ⟨rfl, d4, rfl⟩
                go_wp2_with fail
                exact bodyPost_ret (v := .tuple #[.int .i64 0, .int .i64 0, .int .i64 E]) (by simp [results, Try.results23, go_sem]) rfl ⟨by rw [HR.out], by (repeat (first | with_reducible exact Below.refl _ _ | ((with_reducible refine Below.setCell ?_ ?_ _); rotate_left; (focus (first | omega | (simp; done) | (simp; omega)))) | ((with_reducible refine Below.alloc ?_ ?_ _); rotate_left; (focus (first | omega | (simp; done) | (simp; omega)))) | (with_reducible refine Below.drew ?_) | (with_reducible refine below_drewN ?_ _)))⟩
      · have HAS := Lib.hid (decide_eq_false hq ▸ rasked07_any a t w)
        have HR := Lib.hid (HBD.out (by unfold weighBad; omega))
        clear hn hq
        go_enter Try.func23, Try.ntmps23
        go_wp2_with fail
        (with_reducible refine HAS.out.mono ?_)
        rintro e w1 ⟨rfl, rfl⟩
        go_wp2_with fail
        exact bodyPost_ret (v := .tuple #[.int .i64 0, .int .i64 0, .int .i64 1]) (by simp [results, Try.results23, go_sem]) rfl ⟨by rw [HR.out], by (repeat (first | with_reducible exact Below.refl _ _ | ((with_reducible refine Below.setCell ?_ ?_ _); rotate_left; (focus (first | omega | (simp; done) | (simp; omega)))) | ((with_reducible refine Below.alloc ?_ ?_ _); rotate_left; (focus (first | omega | (simp; done) | (simp; omega)))) | (with_reducible refine Below.drew ?_) | (with_reducible refine below_drewN ?_ _)))⟩
end Go.Proofs.Ytoljilbldkbjpaa
