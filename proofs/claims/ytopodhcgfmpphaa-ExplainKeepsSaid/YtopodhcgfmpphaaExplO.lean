/-
  Walks of explain.Main and copseref16.Main.
-/
import Derived.Test.YtopodhcgfmpphaaExplN
namespace Go.Proofs.Ytopodhcgfmpphaa
open Go.RowKit

noncomputable def whySs (l : List TreeP) (x : List Int) : List Int := (List.range x.length).map (whyS l x)
noncomputable def mostN (l : List TreeP) (x : List Int) : Nat := mostUp (whySs l x) x.length
noncomputable def mainE (l : List TreeP) (x : List Int) : Int := if sumE l x = 0 then (if whyS l x (mostN l x) = 0 then 4 else 0) else sumE l x
noncomputable def mainV (l : List TreeP) (x : List Int) : Int := if mainE l x = 0 then (mostN l x : Int) else 0

theorem whySs_at {l : List TreeP} {x : List Int} {k : Nat} (h : k < x.length) : (whySs l x).getD k 0 = whyS l x k := by
  unfold whySs
  rw [List.getD_eq_getElem?_getD, List.getElem?_map, List.getElem?_range h]
  rfl

theorem whyL_at {l : List TreeP} {x : List Int} {k : Nat} (h : k < x.length) : (whyL l x)[k]? = some (whyS l x k, whyLo l x k, whyHi l x k) := by
  unfold whyL
  rw [List.getElem?_map, List.getElem?_range h]
  rfl

theorem whyL_len (l : List TreeP) (x : List Int) : (whyL l x).length = x.length := by simp [whyL]

set_option maxRecDepth 100000 in
set_option maxHeartbeats 4000000 in
theorem emain_any (v vx : Value) (l : List TreeP) (x : List Int) (w : World) (h : TreesR w v l) (hx : Ints .i64 w vx x) :
    Calls Try.prog 27 #[v, vx] w fun e w' => e = .returned (.tuple #[.int .i64 (mainV l x), .int .i64 (mainE l x)]) ∧ Below w.heap.size w w' := by
  have HTR := Lib.hid h
  have HX := Lib.hid hx
  have HA := Lib.hid (fun W (hW : TreesR W v l) (hX : Ints .i64 W vx x) => eall_any v vx l x W hW hX)
  obtain ⟨ad, cc, rfl, _, _, q3, hcell⟩ := h
  obtain ⟨ax, cx, rfl, _⟩ := hx
  have HP := Lib.hid (show mainE l x = if sumE l x = 0 then (if whyS l x (mostN l x) = 0 then 4 else 0) else sumE l x from rfl)
  have HQ := Lib.hid (show mainV l x = if mainE l x = 0 then (mostN l x : Int) else 0 from rfl)
  by_cases hE : sumE l x = 0
  · obtain ⟨z1, z2, z3, z4⟩ := sumE_zero hE
    obtain ⟨v1, v2, v3, v4⟩ := vecB_yes z4
    rw [hE] at HA HP
    simp only [if_true] at HA HP
    have HST := Lib.hid (fun k => mostUp_succ (whySs l x) k)
    have HLT := Lib.hid (fun k => mostUp_lt (whySs l x) k)
    have HAT := Lib.hid (fun k (hk : k < x.length) => whySs_at (l := l) hk)
    have HWT := Lib.hid (fun k (hk : k < x.length) => whyL_at (l := l) hk)
    have HWN := Lib.hid (whyL_len l x)
    have HMN := Lib.hid (show mostN l x = mostUp (whySs l x) x.length from rfl)
    obtain ⟨n, hn⟩ : ∃ n, x.length = n := ⟨_, rfl⟩
    rw [hn] at HX HA HAT HWT HWN HMN v3 ⊢
    have n1 : 0 < n := by omega
    have i8 : (n : Int) ≤ 8 := by omega
    obtain ⟨E, hEE⟩ : ∃ E, mainE l x = E := ⟨_, rfl⟩
    obtain ⟨V, hVV⟩ : ∃ V, mainV l x = V := ⟨_, rfl⟩
    rw [hEE] at HP HQ
    rw [hVV] at HQ
    rw [hEE, hVV]
    generalize l.length = m at *
    clear hE z1 z2 z3 z4 v1 v2 v3 v4 hEE hVV hcell hn
    generalize mostN l x = MN at *
    generalize whySs l x = SS at *
    go_enter Try.func27, Try.ntmps27
    go_wp2_with fail
    (with_reducible refine (HA.out _ HTR.out HX.out).mono ?_); rintro e w1 ⟨vo, rfl, iv, b1⟩; have s1 : w.heap.size ≤ w1.heap.size := (by have := b1.size; first | omega | (simp at this; omega)); have B1 := Lib.hid (show Below w.heap.size w w1 from below_tr (by (repeat (first | with_reducible exact Below.refl _ _ | ((with_reducible refine Below.setCell ?_ ?_ _); rotate_left; (focus (first | omega | (simp; done) | (simp; omega)))) | ((with_reducible refine Below.alloc ?_ ?_ _); rotate_left; (focus (first | omega | (simp; done) | (simp; omega)))) | (with_reducible refine Below.drew ?_) | (with_reducible refine below_drewN ?_ _)))) (b1.mono (by first | omega | (simp; done) | (simp; omega)))); clear b1
    have IV := Lib.hid iv
    obtain ⟨pa, pc, rfl, _, _, hcv⟩ := iv
    rw [HWN.out] at IV ⊢
    have HCV := Lib.hid hcv
    obtain ⟨pb, po, rfl, hpb, _⟩ := hcv 0 _ (HWT.out 0 n1)
    clear hcv
    go_wp2_with fail
    go_loopw [8, 9, 21] (fun a _ i wr => ∃ k : Nat, i = .int .i64 k ∧ k ≤ n ∧ a = .int .i64 (mostUp SS k : Int) ∧ ∃ d, wr = w1.drewN d) (fun _ _ i _ => n - (intOf i).toNat)
    case atStart => exact ⟨0, rfl, by omega, rfl, 0, rfl⟩
    case round =>
      obtain ⟨k, rfl, hk, rfl, d, rfl⟩ := hrel
      have i1 : (0 : Int) ≤ (k : Int) := by omega
      have HML := Lib.hid (HLT.out k)
      have HMS := Lib.hid (HST.out k)
      obtain ⟨A, hA⟩ : ∃ A, mostUp SS k = A := ⟨_, rfl⟩
      rw [hA] at HML HMS ⊢
      have ha : A < n := by have := HML.out; omega
      have ia1 : (0 : Int) ≤ (A : Int) := by omega
      have ia2 : (A : Int) < (n : Int) := by omega
      obtain ⟨ab, ao, e, _, ac, _⟩ := HCV.out A _ (HWT.out A ha)
      injection e with e
      injection e with e1 e2
      subst e1 e2
      obtain ⟨SA, hSA⟩ : ∃ SA, whyS l x A = SA := ⟨_, rfl⟩
      have hga := HAT.out A ha
      simp only [hSA] at ac hga
      have c1 : (w1.drewN d).cell? ⟨pb, po + A * 3, none⟩ = some (.int .i64 SA) := ac
      by_cases hlt : k < n
      · have i2 : (k : Int) < (n : Int) := by omega
        obtain ⟨kb, ko, e, _, kc, _⟩ := HCV.out k _ (HWT.out k hlt)
        injection e with e
        injection e with e1 e2
        subst e1 e2
        obtain ⟨SK, hSK⟩ : ∃ SK, whyS l x k = SK := ⟨_, rfl⟩
        have hgk := HAT.out k hlt
        simp only [hSK] at kc hgk
        have c2 : (w1.drewN d).cell? ⟨pb, po + k * 3, none⟩ = some (.int .i64 SK) := kc
        have HGA := Lib.hid hga
        have HGK := Lib.hid hgk
        clear hA hSA hga hSK hgk
        by_cases hgt : SA < SK
        · go_wp2_with fail
          go_quiet (fail)
          go_wp2_with fail
          go_roundw
          case rel => exact ⟨k + 1, by go_num, by omega, by rw [HMS.out, if_pos (by rw [HGA.out, HGK.out]; exact hgt)], _, rfl⟩
          case measure => simp [intOf] <;> omega
        · have hge : SK ≤ SA := by omega
          go_wp2_with fail
          go_quiet (fail)
          go_wp2_with fail
          go_roundw
          case rel => exact ⟨k + 1, by go_num, by omega, by rw [HMS.out, if_neg (by rw [HGA.out, HGK.out]; omega)], _, rfl⟩
          case measure => simp [intOf] <;> omega
      · obtain rfl : k = n := by omega
        have hmn : MN = A := by rw [HMN.out, hA]
        by_cases hz : SA = 0
        · have HEE := Lib.hid (show E = 4 by rw [HP.out, hmn, hSA, if_pos hz])
          have HVV := Lib.hid (show V = 0 by rw [HQ.out, HEE.out]; rfl)
          subst hz
          clear hA hSA hga hmn
          go_wp2_with fail
          exact bodyPost_ret (v := .tuple #[.int .i64 0, .int .i64 4]) (by simp [results, Try.results27, go_sem]) rfl ⟨by rw [HEE.out, HVV.out], by (repeat (first | with_reducible exact Below.refl _ _ | ((with_reducible refine Below.setCell ?_ ?_ _); rotate_left; (focus (first | omega | (simp; done) | (simp; omega)))) | ((with_reducible refine Below.alloc ?_ ?_ _); rotate_left; (focus (first | omega | (simp; done) | (simp; omega)))) | (with_reducible refine Below.drew ?_) | (with_reducible refine below_drewN ?_ _) | ((with_reducible refine Below.trans ?_ (Below.mono B1.out ?_)); rotate_left; (focus (first | omega | (simp; done) | (simp; omega))))))⟩
        · have HEE := Lib.hid (show E = 0 by rw [HP.out, hmn, hSA, if_neg hz])
          have HVV := Lib.hid (show V = (A : Int) by rw [HQ.out, HEE.out, hmn]; rfl)
          clear hA hSA hga hmn
          go_wp2_with fail
          exact bodyPost_ret (v := .tuple #[.int .i64 A, .int .i64 0]) (by simp [results, Try.results27, go_sem]) rfl ⟨by rw [HEE.out, HVV.out], by (repeat (first | with_reducible exact Below.refl _ _ | ((with_reducible refine Below.setCell ?_ ?_ _); rotate_left; (focus (first | omega | (simp; done) | (simp; omega)))) | ((with_reducible refine Below.alloc ?_ ?_ _); rotate_left; (focus (first | omega | (simp; done) | (simp; omega)))) | (with_reducible refine Below.drew ?_) | (with_reducible refine below_drewN ?_ _) | ((with_reducible refine Below.trans ?_ (Below.mono B1.out ?_)); rotate_left; (focus (first | omega | (simp; done) | (simp; omega))))))⟩
  · simp only [if_neg hE] at HA HP
    obtain ⟨E, hE2⟩ : ∃ E, sumE l x = E := ⟨_, rfl⟩
    rw [hE2] at hE HA HP
    rw [HP.out] at HQ
    rw [if_neg hE] at HQ
    rw [HP.out, HQ.out]
    have j1 : (E != 0) = true := by simp [hE]
    clear hE2 hE HP HQ hcell
    generalize l.length = m at *
    generalize x.length = n at *
    go_enter Try.func27, Try.ntmps27
    go_wp2_with fail
    (with_reducible refine (HA.out _ HTR.out HX.out).mono ?_); rintro e w1 ⟨vo, rfl, iv, b1⟩; have s1 : w.heap.size ≤ w1.heap.size := (by have := b1.size; first | omega | (simp at this; omega)); have B1 := Lib.hid (show Below w.heap.size w w1 from below_tr (by (repeat (first | with_reducible exact Below.refl _ _ | ((with_reducible refine Below.setCell ?_ ?_ _); rotate_left; (focus (first | omega | (simp; done) | (simp; omega)))) | ((with_reducible refine Below.alloc ?_ ?_ _); rotate_left; (focus (first | omega | (simp; done) | (simp; omega)))) | (with_reducible refine Below.drew ?_) | (with_reducible refine below_drewN ?_ _)))) (b1.mono (by first | omega | (simp; done) | (simp; omega)))); clear b1
    obtain ⟨pa, pc, rfl, _⟩ := iv
    go_wp2_with fail
    exact bodyPost_ret (v := .tuple #[.int .i64 0, .int .i64 E]) (by simp [results, Try.results27, go_sem]) rfl ⟨rfl, by (repeat (first | with_reducible exact Below.refl _ _ | ((with_reducible refine Below.setCell ?_ ?_ _); rotate_left; (focus (first | omega | (simp; done) | (simp; omega)))) | ((with_reducible refine Below.alloc ?_ ?_ _); rotate_left; (focus (first | omega | (simp; done) | (simp; omega)))) | (with_reducible refine Below.drew ?_) | (with_reducible refine below_drewN ?_ _) | ((with_reducible refine Below.trans ?_ (Below.mono B1.out ?_)); rotate_left; (focus (first | omega | (simp; done) | (simp; omega))))))⟩

set_option maxRecDepth 100000 in
set_option maxHeartbeats 4000000 in
theorem rmain16_any (v vx : Value) (l : List TreeP) (x : List Int) (w : World) (h : TreesR w v l) (hx : Ints .i64 w vx x) :
    Calls Try.prog 28 #[v, vx] w fun e w' => e = .returned (.tuple #[.int .i64 (mainV l x), .int .i64 (mainE l x)]) ∧ Below w.heap.size w w' := by
  have HTR := Lib.hid h
  have HX := Lib.hid hx
  have HA := Lib.hid (fun W (hW : TreesR W v l) (hX : Ints .i64 W vx x) => rall16_any v vx l x W hW hX)
  obtain ⟨ad, cc, rfl, _, _, q3, hcell⟩ := h
  obtain ⟨ax, cx, rfl, _⟩ := hx
  have HP := Lib.hid (show mainE l x = if sumE l x = 0 then (if whyS l x (mostN l x) = 0 then 4 else 0) else sumE l x from rfl)
  have HQ := Lib.hid (show mainV l x = if mainE l x = 0 then (mostN l x : Int) else 0 from rfl)
  by_cases hE : sumE l x = 0
  · obtain ⟨z1, z2, z3, z4⟩ := sumE_zero hE
    obtain ⟨v1, v2, v3, v4⟩ := vecB_yes z4
    rw [hE] at HA HP
    simp only [if_true] at HA HP
    have HST := Lib.hid (fun k => mostUp_succ (whySs l x) k)
    have HLT := Lib.hid (fun k => mostUp_lt (whySs l x) k)
    have HAT := Lib.hid (fun k (hk : k < x.length) => whySs_at (l := l) hk)
    have HWT := Lib.hid (fun k (hk : k < x.length) => whyL_at (l := l) hk)
    have HWN := Lib.hid (whyL_len l x)
    have HMN := Lib.hid (show mostN l x = mostUp (whySs l x) x.length from rfl)
    obtain ⟨n, hn⟩ : ∃ n, x.length = n := ⟨_, rfl⟩
    rw [hn] at HX HA HAT HWT HWN HMN v3 ⊢
    have n1 : 0 < n := by omega
    have i8 : (n : Int) ≤ 8 := by omega
    obtain ⟨E, hEE⟩ : ∃ E, mainE l x = E := ⟨_, rfl⟩
    obtain ⟨V, hVV⟩ : ∃ V, mainV l x = V := ⟨_, rfl⟩
    rw [hEE] at HP HQ
    rw [hVV] at HQ
    rw [hEE, hVV]
    generalize l.length = m at *
    clear hE z1 z2 z3 z4 v1 v2 v3 v4 hEE hVV hcell hn
    generalize mostN l x = MN at *
    generalize whySs l x = SS at *
    go_enter Try.func28, Try.ntmps28
    go_wp2_with fail
    (with_reducible refine (HA.out _ HTR.out HX.out).mono ?_); rintro e w1 ⟨vo, rfl, iv, b1⟩; have s1 : w.heap.size ≤ w1.heap.size := (by have := b1.size; first | omega | (simp at this; omega)); have B1 := Lib.hid (show Below w.heap.size w w1 from below_tr (by (repeat (first | with_reducible exact Below.refl _ _ | ((with_reducible refine Below.setCell ?_ ?_ _); rotate_left; (focus (first | omega | (simp; done) | (simp; omega)))) | ((with_reducible refine Below.alloc ?_ ?_ _); rotate_left; (focus (first | omega | (simp; done) | (simp; omega)))) | (with_reducible refine Below.drew ?_) | (with_reducible refine below_drewN ?_ _)))) (b1.mono (by first | omega | (simp; done) | (simp; omega)))); clear b1
    have IV := Lib.hid iv
    obtain ⟨pa, pc, rfl, _, _, hcv⟩ := iv
    rw [HWN.out] at IV ⊢
    have HCV := Lib.hid hcv
    obtain ⟨pb, po, rfl, hpb, _⟩ := hcv 0 _ (HWT.out 0 n1)
    clear hcv
    go_wp2_with fail
    go_loopw [8, 9] (fun a i wr => ∃ k : Nat, i = .int .i64 k ∧ k ≤ n ∧ a = .int .i64 (mostUp SS k : Int) ∧ ∃ d, wr = w1.drewN d) (fun _ i _ => n - (intOf i).toNat)
    case atStart => exact ⟨0, rfl, by omega, rfl, 0, rfl⟩
    case round =>
      obtain ⟨k, rfl, hk, rfl, d, rfl⟩ := hrel
      have i1 : (0 : Int) ≤ (k : Int) := by omega
      have HML := Lib.hid (HLT.out k)
      have HMS := Lib.hid (HST.out k)
      obtain ⟨A, hA⟩ : ∃ A, mostUp SS k = A := ⟨_, rfl⟩
      rw [hA] at HML HMS ⊢
      have ha : A < n := by have := HML.out; omega
      have ia1 : (0 : Int) ≤ (A : Int) := by omega
      have ia2 : (A : Int) < (n : Int) := by omega
      obtain ⟨ab, ao, e, _, ac, _⟩ := HCV.out A _ (HWT.out A ha)
      injection e with e
      injection e with e1 e2
      subst e1 e2
      obtain ⟨SA, hSA⟩ : ∃ SA, whyS l x A = SA := ⟨_, rfl⟩
      have hga := HAT.out A ha
      simp only [hSA] at ac hga
      have c1 : (w1.drewN d).cell? ⟨pb, po + A * 3, none⟩ = some (.int .i64 SA) := ac
      by_cases hlt : k < n
      · have i2 : (k : Int) < (n : Int) := by omega
        obtain ⟨kb, ko, e, _, kc, _⟩ := HCV.out k _ (HWT.out k hlt)
        injection e with e
        injection e with e1 e2
        subst e1 e2
        obtain ⟨SK, hSK⟩ : ∃ SK, whyS l x k = SK := ⟨_, rfl⟩
        have hgk := HAT.out k hlt
        simp only [hSK] at kc hgk
        have c2 : (w1.drewN d).cell? ⟨pb, po + k * 3, none⟩ = some (.int .i64 SK) := kc
        have HGA := Lib.hid hga
        have HGK := Lib.hid hgk
        clear hA hSA hga hSK hgk
        by_cases hgt : SA < SK
        · go_wp2_with fail
          go_quiet (fail)
          go_wp2_with fail
          go_roundw
          case rel => exact ⟨k + 1, by go_num, by omega, by rw [HMS.out, if_pos (by rw [HGA.out, HGK.out]; exact hgt)], _, rfl⟩
          case measure => simp [intOf] <;> omega
        · have hge : SK ≤ SA := by omega
          go_wp2_with fail
          go_quiet (fail)
          go_wp2_with fail
          go_roundw
          case rel => exact ⟨k + 1, by go_num, by omega, by rw [HMS.out, if_neg (by rw [HGA.out, HGK.out]; omega)], _, rfl⟩
          case measure => simp [intOf] <;> omega
      · obtain rfl : k = n := by omega
        have hmn : MN = A := by rw [HMN.out, hA]
        by_cases hz : SA = 0
        · have HEE := Lib.hid (show E = 4 by rw [HP.out, hmn, hSA, if_pos hz])
          have HVV := Lib.hid (show V = 0 by rw [HQ.out, HEE.out]; rfl)
          subst hz
          clear hA hSA hga hmn
          go_wp2_with fail
          exact bodyPost_ret (v := .tuple #[.int .i64 0, .int .i64 4]) (by simp [results, Try.results28, go_sem]) rfl ⟨by rw [HEE.out, HVV.out], by (repeat (first | with_reducible exact Below.refl _ _ | ((with_reducible refine Below.setCell ?_ ?_ _); rotate_left; (focus (first | omega | (simp; done) | (simp; omega)))) | ((with_reducible refine Below.alloc ?_ ?_ _); rotate_left; (focus (first | omega | (simp; done) | (simp; omega)))) | (with_reducible refine Below.drew ?_) | (with_reducible refine below_drewN ?_ _) | ((with_reducible refine Below.trans ?_ (Below.mono B1.out ?_)); rotate_left; (focus (first | omega | (simp; done) | (simp; omega))))))⟩
        · have HEE := Lib.hid (show E = 0 by rw [HP.out, hmn, hSA, if_neg hz])
          have HVV := Lib.hid (show V = (A : Int) by rw [HQ.out, HEE.out, hmn]; rfl)
          clear hA hSA hga hmn
          go_wp2_with fail
          exact bodyPost_ret (v := .tuple #[.int .i64 A, .int .i64 0]) (by simp [results, Try.results28, go_sem]) rfl ⟨by rw [HEE.out, HVV.out], by (repeat (first | with_reducible exact Below.refl _ _ | ((with_reducible refine Below.setCell ?_ ?_ _); rotate_left; (focus (first | omega | (simp; done) | (simp; omega)))) | ((with_reducible refine Below.alloc ?_ ?_ _); rotate_left; (focus (first | omega | (simp; done) | (simp; omega)))) | (with_reducible refine Below.drew ?_) | (with_reducible refine below_drewN ?_ _) | ((with_reducible refine Below.trans ?_ (Below.mono B1.out ?_)); rotate_left; (focus (first | omega | (simp; done) | (simp; omega))))))⟩
  · simp only [if_neg hE] at HA HP
    obtain ⟨E, hE2⟩ : ∃ E, sumE l x = E := ⟨_, rfl⟩
    rw [hE2] at hE HA HP
    rw [HP.out] at HQ
    rw [if_neg hE] at HQ
    rw [HP.out, HQ.out]
    have j1 : (E != 0) = true := by simp [hE]
    clear hE2 hE HP HQ hcell
    generalize l.length = m at *
    generalize x.length = n at *
    go_enter Try.func28, Try.ntmps28
    go_wp2_with fail
    (with_reducible refine (HA.out _ HTR.out HX.out).mono ?_); rintro e w1 ⟨vo, rfl, iv, b1⟩; have s1 : w.heap.size ≤ w1.heap.size := (by have := b1.size; first | omega | (simp at this; omega)); have B1 := Lib.hid (show Below w.heap.size w w1 from below_tr (by (repeat (first | with_reducible exact Below.refl _ _ | ((with_reducible refine Below.setCell ?_ ?_ _); rotate_left; (focus (first | omega | (simp; done) | (simp; omega)))) | ((with_reducible refine Below.alloc ?_ ?_ _); rotate_left; (focus (first | omega | (simp; done) | (simp; omega)))) | (with_reducible refine Below.drew ?_) | (with_reducible refine below_drewN ?_ _)))) (b1.mono (by first | omega | (simp; done) | (simp; omega)))); clear b1
    obtain ⟨pa, pc, rfl, _⟩ := iv
    go_wp2_with fail
    exact bodyPost_ret (v := .tuple #[.int .i64 0, .int .i64 E]) (by simp [results, Try.results28, go_sem]) rfl ⟨rfl, by (repeat (first | with_reducible exact Below.refl _ _ | ((with_reducible refine Below.setCell ?_ ?_ _); rotate_left; (focus (first | omega | (simp; done) | (simp; omega)))) | ((with_reducible refine Below.alloc ?_ ?_ _); rotate_left; (focus (first | omega | (simp; done) | (simp; omega)))) | (with_reducible refine Below.drew ?_) | (with_reducible refine below_drewN ?_ _) | ((with_reducible refine Below.trans ?_ (Below.mono B1.out ?_)); rotate_left; (focus (first | omega | (simp; done) | (simp; omega))))))⟩
end Go.Proofs.Ytopodhcgfmpphaa
