/-
  Walks of copseref07: Play, Back.
-/
import Derived.Test.YtoljilbldkbjpaaPickF
namespace Go.Proofs.Ytoljilbldkbjpaa
open Go.RowKit

set_option maxRecDepth 100000 in
set_option maxHeartbeats 4000000 in
theorem rplay_any (n : Int) (v : Value) (P : List Int) (w : World) (h : Ints .i64 w v P) :
    Calls Try.prog 19 #[.int .i64 n, v] w fun e w' => ∃ vo, e = .returned (.tuple #[vo, .bool (playB n P)]) ∧ Ints .i64 w' vo (if playB n P = true then playL P P.length else []) ∧ Below w.heap.size w w' := by
  have HX := Lib.hid h
  obtain ⟨ax, cx, rfl, _, hc2, hl3, hx⟩ := h
  have HC := Lib.hid hx
  have hlb : (P.length : Int) ≤ 9223372036854775807 := by omega
  by_cases hb : playBad n P
  · have hz : playB n P = false := by unfold playB; rw [if_pos hb]
    rw [hz]
    simp only [Bool.false_eq_true, if_false]
    unfold playBad at hb
    clear hx hz
    by_cases h1 : n < 0
    · go_enter Try.func19, Try.ntmps19
      go_wp2_with fail
      exact bodyPost_ret (v := .tuple #[.slice none 0 0, .bool false]) (by simp [results, Try.results19, go_sem]) rfl ⟨_, rfl, ints_nil _ _ _ _ (by omega), by (repeat (first | with_reducible exact Below.refl _ _ | ((with_reducible refine Below.setCell ?_ ?_ _); rotate_left; (focus (first | omega | (simp; done) | (simp; omega)))) | ((with_reducible refine Below.alloc ?_ ?_ _); rotate_left; (focus (first | omega | (simp; done) | (simp; omega)))) | (with_reducible refine Below.drew ?_) | (with_reducible refine below_drewN ?_ _)))⟩
    · by_cases h2 : 256 < n
      · go_enter Try.func19, Try.ntmps19
        go_wp2_with fail
        exact bodyPost_ret (v := .tuple #[.slice none 0 0, .bool false]) (by simp [results, Try.results19, go_sem]) rfl ⟨_, rfl, ints_nil _ _ _ _ (by omega), by (repeat (first | with_reducible exact Below.refl _ _ | ((with_reducible refine Below.setCell ?_ ?_ _); rotate_left; (focus (first | omega | (simp; done) | (simp; omega)))) | ((with_reducible refine Below.alloc ?_ ?_ _); rotate_left; (focus (first | omega | (simp; done) | (simp; omega)))) | (with_reducible refine Below.drew ?_) | (with_reducible refine below_drewN ?_ _)))⟩
      · have h3 : n < (P.length : Int) := by omega
        go_enter Try.func19, Try.ntmps19
        go_wp2_with fail
        exact bodyPost_ret (v := .tuple #[.slice none 0 0, .bool false]) (by simp [results, Try.results19, go_sem]) rfl ⟨_, rfl, ints_nil _ _ _ _ (by omega), by (repeat (first | with_reducible exact Below.refl _ _ | ((with_reducible refine Below.setCell ?_ ?_ _); rotate_left; (focus (first | omega | (simp; done) | (simp; omega)))) | ((with_reducible refine Below.alloc ?_ ?_ _); rotate_left; (focus (first | omega | (simp; done) | (simp; omega)))) | (with_reducible refine Below.drew ?_) | (with_reducible refine below_drewN ?_ _)))⟩
  · have hz : playB n P = pickB n P := by unfold playB; rw [if_neg hb]
    rw [hz]
    unfold playBad at hb
    obtain ⟨N, rfl⟩ : ∃ N : Nat, n = (N : Int) := ⟨n.toNat, by omega⟩
    have HNO := Lib.hid (fun i p (hp : P[i]? = some p) h => pickB_no (n := N) hp h)
    have HYE := Lib.hid (pickB_true (n := N) (P := P))
    obtain ⟨m, hm⟩ : ∃ m, P.length = m := ⟨_, rfl⟩
    rw [hm] at HX HYE hb hlb ⊢
    have HL := Lib.hid hm
    have n256 : (N : Int) ≤ 256 := by omega
    have hmn : (m : Int) ≤ N := by omega
    obtain ⟨R, hR⟩ : ∃ R, pickB N P = R := ⟨_, rfl⟩
    rw [hR] at HNO HYE ⊢
    obtain ⟨OUT, hOUT⟩ : ∃ OUT, (if R = true then playL P m else []) = OUT := ⟨_, rfl⟩
    rw [hOUT]
    have HOUT := Lib.hid hOUT
    clear hx hz hb hm hR hOUT
    by_cases hN0 : N = 0
    · subst hN0
      obtain rfl : m = 0 := by omega
      have HR := Lib.hid (show R = true from HYE.out.2 fun i hi => by omega)
      have HRW := Lib.hid (show ∀ W, Calls Try.prog 44 #[.int .i64 0] W _ from fun W => rrow_any 0 W (by omega))
      clear n256 hmn hlb
      go_enter Try.func19, Try.ntmps19
      go_wp2_with fail
      (with_reducible refine (HRW.out _).mono ?_)
      rintro e w2 ⟨vo, rfl, hown, b2⟩
      rcases row_form hown with ⟨rfl, _⟩ | ⟨g, cap, rfl, _, hcap⟩
      · go_wp2_with fail
        refine wp_loop_rounds 1 ?_
        rw [rounds_succ]
        go_wp2_with fail
        exact bodyPost_ret (v := .tuple #[.slice none 0 0, .bool true]) (by simp [results, Try.results19, go_sem]) rfl ⟨_, by rw [HR.out], by rw [← HOUT.out, HR.out]; exact ints_nil _ _ _ _ (by omega), b2⟩
      · go_wp2_with fail
        refine wp_loop_rounds 1 ?_
        rw [rounds_succ]
        go_wp2_with fail
        exact bodyPost_ret (v := .tuple #[.slice (some ⟨g, 0, none⟩) 0 cap, .bool true]) (by simp [results, Try.results19, go_sem]) rfl ⟨_, by rw [HR.out], by rw [← HOUT.out, HR.out]; exact ints_nil _ _ _ _ hcap, b2⟩
    · have hN1 : 0 < N := by omega
      have HRW := Lib.hid (fun W => rrow_any N W (by omega))
      go_enter Try.func19, Try.ntmps19
      go_wp2_with fail
      (with_reducible refine (HRW.out _).mono ?_)
      rintro e w2 ⟨vo, rfl, hown, b2⟩
      obtain ⟨G, cap, rfl, hcap1, hcap2⟩ := (row_form hown).resolve_left (fun h => by omega)
      have HOW0 := Lib.hid hown
      have hGw := (hown.lt G rfl).1
      have B2 := Lib.hid b2
      clear hown b2
      go_wp2_with fail
      go_loopw [7, 8] (fun i _ wr => ∃ k : Nat, i = .int .i64 k ∧ k ≤ m ∧ PickOk N P k ∧ wr.ownsRow w.heap.size 3 1 (.slice (some ⟨G, 0, none⟩) N cap) N ((rowL (stepF P k) N).map (.int .i64)) ∧ Below w.heap.size w wr) (fun i _ _ => m - (intOf i).toNat)
      case atStart => exact ⟨0, rfl, by omega, fun i hi => by omega, HOW0.out, B2.out⟩
      case round =>
        obtain ⟨k, rfl, hk, hok, hown, hbr⟩ := hrel
        have HOK := Lib.hid hok
        have HOWR := Lib.hid hown
        have HBR := Lib.hid hbr
        have i1 : (0 : Int) ≤ (k : Int) := by omega
        clear hok hown hbr
        by_cases hlt : k < m
        · have i2 : (k : Int) < (m : Int) := by omega
          obtain ⟨p, hp⟩ := getElem?_ex (l := P) (k := k) (by rw [HL.out]; exact hlt)
          obtain ⟨b, o, rfl, hbw, c0⟩ := HC.out k p hp
          have e0 := (HBR.out.cell (p := ⟨b, o + k, none⟩) hbw).trans c0
          have HP := Lib.hid hp
          clear c0 hp
          by_cases h0 : p < 0
          · have HR := Lib.hid (HNO.out k p HP.out (by omega))
            go_wp2_with fail
            exact bodyPost_ret (v := .tuple #[.slice none 0 0, .bool false]) (by simp [results, Try.results19, go_sem]) rfl ⟨_, by rw [HR.out], by rw [← HOUT.out, HR.out]; exact ints_nil _ _ _ _ (by omega), HBR.out⟩
          · by_cases h1 : (N : Int) - k - 1 < p
            · have HR := Lib.hid (HNO.out k p HP.out (by omega))
              go_wp2_with fail
              exact bodyPost_ret (v := .tuple #[.slice none 0 0, .bool false]) (by simp [results, Try.results19, go_sem]) rfl ⟨_, by rw [HR.out], by rw [← HOUT.out, HR.out]; exact ints_nil _ _ _ _ (by omega), HBR.out⟩
            · obtain ⟨q, rfl⟩ : ∃ q : Nat, p = (q : Int) := ⟨p.toNat, by omega⟩
              have h1' : (q : Int) ≤ (N : Int) - k - 1 := by omega
              have HOK2 := Lib.hid (show PickOk N P (k + 1) from fun i hi => by
                rcases Nat.lt_or_ge i k with h | h
                · exact HOK.out i h
                · obtain rfl : i = k := by omega
                  rw [getD_of HP.out]
                  omega)
              have HST := Lib.hid (show rowL (stepF P (k + 1)) N = ((rowL (stepF P k) N).set (k + q) (stepF P k k : Int)).set k (stepF P k (k + q) : Int) by
                rw [rowL_swap _ (by omega) (by omega)]
                congr 1
                show swapF _ _ _ = _
                rw [getD_of HP.out]
                rfl)
              have HC1 := Lib.hid (rowL_at (stepF P k) (n := N) (i := k) (by omega))
              have HC2 := Lib.hid (rowL_at (stepF P k) (n := N) (i := k + q) (by omega))
              obtain ⟨X1, hX1⟩ : ∃ X, stepF P k k = X := ⟨_, rfl⟩
              obtain ⟨X2, hX2⟩ : ∃ X, stepF P k (k + q) = X := ⟨_, rfl⟩
              rw [hX1] at HC1
              rw [hX2] at HC2
              rw [hX1, hX2] at HST
              have hq1 : (0 : Int) ≤ (k : Int) + (q : Int) := by omega
              have hq2 : (k : Int) + (q : Int) < (N : Int) := by omega
              have hjN : (k : Int) < (N : Int) := by omega
              clear hX1 hX2
              have cj := (HOWR.out.cellAt k (by omega)).trans (by rw [List.getElem?_map, HC1.out, Option.map_some])
              have ck := (HOWR.out.cellAt (k + q) (by omega)).trans (by rw [List.getElem?_map, HC2.out, Option.map_some])
              have fj := HOWR.out.frozenAt k
              have fk := HOWR.out.frozenAt (k + q)
              have c5 : (wr.setCell ⟨G, k + q, none⟩ (.int .i64 (X1 : Int))).cell? ⟨G, k, none⟩ = some (.int .i64 (X1 : Int)) := by
                by_cases h : q = 0
                · subst h
                  exact World.cell?_setCell_same _ _ _ (u := .int .i64 X1) cj
                · exact (World.cell?_setCell_other _ _ _ _ (by intro e; injection e with _ e _; omega)).trans cj
              go_wp2_with fail
              go_region
              go_wp2_with fail
              go_roundw
              case rel =>
                refine ⟨k + 1, by go_num, by omega, HOK2.out, ?_, by (repeat (first | with_reducible exact Below.refl _ _ | ((with_reducible refine Below.setCell ?_ ?_ _); rotate_left; (focus (first | omega | (simp; done) | (simp; omega)))) | ((with_reducible refine Below.alloc ?_ ?_ _); rotate_left; (focus (first | omega | (simp; done) | (simp; omega)))) | (with_reducible refine Below.drew ?_) | (with_reducible refine below_drewN ?_ _) | ((with_reducible refine Below.trans ?_ (Below.mono HBR.out ?_)); rotate_left; (focus (first | omega | (simp; done) | (simp; omega))))))⟩
                rw [HST.out, List.map_set, List.map_set]
                exact ((HOWR.out.stored (k + q) _).1.stored k _).1
              case measure => simp [intOf] <;> omega
        · obtain rfl : k = m := by omega
          have HR := Lib.hid (show R = true from HYE.out.2 HOK.out)
          have HI := Lib.hid (row_cut HOWR.out (by omega) (by omega))
          have hjc : (k : Int) ≤ (cap : Int) := by omega
          go_wp2_with fail
          exact bodyPost_ret (v := .tuple #[.slice (some ⟨G, 0, none⟩) k cap, .bool true]) (by simp [results, Try.results19, go_sem]) rfl ⟨_, by rw [HR.out], by rw [← HOUT.out, HR.out]; exact HI.out, HBR.out⟩
end Go.Proofs.Ytoljilbldkbjpaa
