/-
  Walk of copseref07.Coefs.
-/
import Derived.Test.YtoljilbldkbjpaaPickF
namespace Go.Proofs.Ytoljilbldkbjpaa
open Go.RowKit

theorem partL_glue {l : List Int} {t : Int} {D j : Nat} {A : Int} (hj : j < D) (h : (rangeB l A (-4) 4 t).2.2 = 0) {C : List Int} {a : Int}
    (e : partL l t D a = (C ++ (partL l t (D - j) A).1, (partL l t (D - j) A).2)) :
    partL l t D a = ((C ++ [(rangeB l A (-4) 4 t).1]) ++ (partL l t (D - (j + 1)) (rangeB l A (-4) 4 t).2.1).1, (partL l t (D - (j + 1)) (rangeB l A (-4) 4 t).2.1).2) := by
  rw [e, show D - j = (D - (j + 1)) + 1 by omega]
  conv => lhs; unfold partL
  rw [if_pos h]
  simp

theorem partL_fell {l : List Int} {t : Int} {D j : Nat} {A : Int} (hj : j < D) (h : ¬ (rangeB l A (-4) 4 t).2.2 = 0) {C : List Int} {a : Int}
    (e : partL l t D a = (C ++ (partL l t (D - j) A).1, (partL l t (D - j) A).2)) :
    (partL l t D a).2.2 = (rangeB l A (-4) 4 t).2.2 := by
  rw [e, show D - j = (D - (j + 1)) + 1 by omega]
  conv => lhs; unfold partL
  rw [if_neg h]

theorem coefL_fell {l : List Int} {t : Int} {d f : Nat} {a : Int} (h : ¬ (partL l t d a).2.2 = 0) : coefL l t d (f + 1) a = ([], 0, (partL l t d a).2.2) := by
  conv => lhs; unfold coefL
  rw [if_neg h]
theorem coefL_some {l : List Int} {t : Int} {d f : Nat} {a : Int} (h : (partL l t d a).2.2 = 0) (h2 : (partL l t d a).1.any (fun x => x != 0) = true) : coefL l t d (f + 1) a = ((partL l t d a).1, (partL l t d a).2.1, 0) := by
  conv => lhs; unfold coefL
  rw [if_pos h, if_pos h2]
theorem coefL_on {l : List Int} {t : Int} {d f : Nat} {a : Int} (h : (partL l t d a).2.2 = 0) (h2 : (partL l t d a).1.any (fun x => x != 0) = false) : coefL l t d (f + 1) a = coefL l t d f (partL l t d a).2.1 := by
  conv => lhs; unfold coefL
  rw [if_pos h, h2]
  rfl

set_option maxRecDepth 100000 in
set_option maxHeartbeats 4000000 in
theorem rcoefs_any (v : Value) (l : List Int) (a d t : Int) (w : World) (h : Ints .u64 w v l) (hu : AllU l) (ha : Ok64 a) :
    Calls Try.prog 21 #[v, .int .i64 a, .int .i64 d, .int .i64 t] w fun e w' => ∃ vo, e = .returned (.tuple #[vo, .int .i64 (coefV l a d t).2.1, .int .i64 (coefV l a d t).2.2]) ∧ Ints .i64 w' vo (coefV l a d t).1 ∧ Below w.heap.size w w' := by
  have HX := Lib.hid h
  have HU := Lib.hid hu
  obtain ⟨ax, cx, rfl, _⟩ := h
  have hl3 : l.length ≤ 140737488351232 := by obtain ⟨_, _, e, _, _, h3, _⟩ := HX.out; exact h3
  by_cases hb : coefBad a d t
  · have e1 : coefV l a d t = ([], 0, 1) := by unfold coefV; rw [if_pos hb]
    rw [e1]
    unfold coefBad at hb
    generalize l.length = m at *
    clear e1 hu
    by_cases h1 : d < 1
    · go_enter Try.func21, Try.ntmps21
      go_wp2_with fail
      exact bodyPost_ret (v := .tuple #[.slice none 0 0, .int .i64 0, .int .i64 1]) (by simp [results, Try.results21, go_sem]) rfl ⟨_, rfl, ints_nil _ _ _ _ (by omega), by (repeat (first | with_reducible exact Below.refl _ _ | ((with_reducible refine Below.setCell ?_ ?_ _); rotate_left; (focus (first | omega | (simp; done) | (simp; omega)))) | ((with_reducible refine Below.alloc ?_ ?_ _); rotate_left; (focus (first | omega | (simp; done) | (simp; omega)))) | (with_reducible refine Below.drew ?_) | (with_reducible refine below_drewN ?_ _)))⟩
    · by_cases h2 : 8 < d
      · go_enter Try.func21, Try.ntmps21
        go_wp2_with fail
        exact bodyPost_ret (v := .tuple #[.slice none 0 0, .int .i64 0, .int .i64 1]) (by simp [results, Try.results21, go_sem]) rfl ⟨_, rfl, ints_nil _ _ _ _ (by omega), by (repeat (first | with_reducible exact Below.refl _ _ | ((with_reducible refine Below.setCell ?_ ?_ _); rotate_left; (focus (first | omega | (simp; done) | (simp; omega)))) | ((with_reducible refine Below.alloc ?_ ?_ _); rotate_left; (focus (first | omega | (simp; done) | (simp; omega)))) | (with_reducible refine Below.drew ?_) | (with_reducible refine below_drewN ?_ _)))⟩
      · have h5 : decide (0 ≤ a ∧ 1 ≤ t ∧ t ≤ 64) = false := decide_eq_false (by omega)
        have HA := Lib.hid (h5 ▸ rasked07_any a t w)
        clear hb h5
        go_enter Try.func21, Try.ntmps21
        go_wp2_with fail
        (with_reducible refine HA.out.mono ?_)
        rintro e w1 ⟨rfl, rfl⟩
        go_wp2_with fail
        exact bodyPost_ret (v := .tuple #[.slice none 0 0, .int .i64 0, .int .i64 1]) (by simp [results, Try.results21, go_sem]) rfl ⟨_, rfl, ints_nil _ _ _ _ (by omega), by (repeat (first | with_reducible exact Below.refl _ _ | ((with_reducible refine Below.setCell ?_ ?_ _); rotate_left; (focus (first | omega | (simp; done) | (simp; omega)))) | ((with_reducible refine Below.alloc ?_ ?_ _); rotate_left; (focus (first | omega | (simp; done) | (simp; omega)))) | (with_reducible refine Below.drew ?_) | (with_reducible refine below_drewN ?_ _)))⟩
  · have HV := Lib.hid (show coefV l a d t = coefL l t d.toNat t.toNat a by unfold coefV; rw [if_neg hb])
    obtain ⟨CV, hCV⟩ : ∃ X, coefV l a d t = X := ⟨_, rfl⟩
    rw [hCV] at HV ⊢
    unfold coefBad at hb
    obtain ⟨D, rfl⟩ : ∃ D : Nat, d = (D : Int) := ⟨d.toNat, by omega⟩
    obtain ⟨T, rfl⟩ : ∃ T : Nat, t = (T : Int) := ⟨t.toNat, by omega⟩
    rw [show (D : Int).toNat = D from rfl, show (T : Int).toNat = T from rfl] at HV
    have d1 : 1 ≤ (D : Int) := by omega
    have d8 : (D : Int) ≤ 8 := by omega
    have t1 : 1 ≤ (T : Int) := by omega
    have t64 : (T : Int) ≤ 64 := by omega
    have HO := Lib.hid ha
    have HAS := Lib.hid (decide_eq_true (show 0 ≤ a ∧ 1 ≤ (T : Int) ∧ (T : Int) ≤ 64 by omega) ▸ rasked07_any a T w)
    have HRG := Lib.hid (fun A W (hW : Ints .u64 W (.slice ax l.length cx) l) (hA : Ok64 A) => rrange_any (.slice ax l.length cx) l A (-4) 4 T W hW HU.out hA (by unfold Ok64; omega) (by unfold Ok64; omega))
    have HRI := Lib.hid (fun A (hh : (rangeB l A (-4) 4 T).2.2 = 0) => rangeB_in HU.out hh)
    have HOK := Lib.hid (show ∀ A : Int, 0 ≤ A → A ≤ l.length → Ok64 A from fun A h1 h2 => by unfold Ok64; omega)
    obtain ⟨m, hm⟩ : ∃ m, l.length = m := ⟨_, rfl⟩
    rw [hm] at HX HRG HRI HOK hl3 ⊢
    clear hb hCV hu ha hm
    go_enter Try.func21, Try.ntmps21
    go_wp2_with fail
    (with_reducible refine HAS.out.mono ?_)
    rintro e w1 ⟨rfl, rfl⟩
    go_wp2_with fail
    go_loopw [1, 11, 12, 13, 14, 15, 16, 17] (fun av i _ _ _ _ _ _ wr => ∃ (j : Nat) (A : Int), av = .int .i64 A ∧ i = .int .i64 j ∧ j ≤ T ∧ CV = coefL l T D (T - j) A ∧ Ok64 A ∧ Below w.heap.size w wr) (fun _ i _ _ _ _ _ _ _ => T - (intOf i).toNat)
    case atStart => exact ⟨0, a, rfl, rfl, by omega, HV.out, HO.out, Below.refl _ _⟩
    case round =>
      obtain ⟨j, A, rfl, rfl, hj, hcv, hA, hbr⟩ := hrel
      have HCV := Lib.hid hcv
      have HAO := Lib.hid hA
      have HBR := Lib.hid hbr
      have hbs := hbr.size
      have i1 : (0 : Int) ≤ (j : Int) := by omega
      clear hcv hA hbr
      by_cases hlt : j < T
      · have i2 : (j : Int) < (T : Int) := by omega
        have hfu : T - j = (T - (j + 1)) + 1 := by omega
        have HFE := Lib.hid (show ¬ (partL l T D A).2.2 = 0 → CV = ([], 0, (partL l T D A).2.2) from fun hh => by rw [HCV.out, hfu, coefL_fell hh])
        have HSO := Lib.hid (show (partL l T D A).2.2 = 0 → (partL l T D A).1.any (fun x => x != 0) = true → CV = ((partL l T D A).1, (partL l T D A).2.1, 0) from fun hh h2 => by rw [HCV.out, hfu, coefL_some hh h2])
        have HON := Lib.hid (show (partL l T D A).2.2 = 0 → (partL l T D A).1.any (fun x => x != 0) = false → CV = coefL l T D (T - (j + 1)) (partL l T D A).2.1 from fun hh h2 => by rw [HCV.out, hfu, coefL_on hh h2])
        clear hfu
        go_wp2_with fail
        obtain ⟨B0, hB0⟩ : ∃ B0, wr.heap.size = B0 := ⟨_, rfl⟩
        have hB1 : B0 ≤ wr.heap.size := by omega
        rw [hB0] at hbs
        clear hB0
        go_loopw [1, 12, 13, 14, 15, 16, 17] (fun av c sm i _ _ _ wi => ∃ (k : Nat) (C : List Int) (A2 : Int), av = .int .i64 A2 ∧ i = .int .i64 k ∧ k ≤ D ∧ C.length = k ∧ sm = .bool (C.any fun x => x != 0) ∧ partL l T D A = (C ++ (partL l T (D - k) A2).1, (partL l T (D - k) A2).2) ∧ Ok64 A2 ∧
          wi.ownsRow B0 3 1 c k (C.map (.int .i64)) ∧ Below w.heap.size w wi ∧ B0 ≤ wi.heap.size) (fun _ _ _ i _ _ _ _ => D - (intOf i).toNat)
        case atStart => exact ⟨0, [], A, rfl, rfl, by omega, rfl, rfl, by simp, HAO.out, World.ownsRow_nil _ _ _ _, HBR.out, hB1⟩
        case round =>
          obtain ⟨k, C, A2, rfl, rfl, hk, hcl, rfl, hpa, hA2, hown, hbi, hsi⟩ := hrel
          have HCL := Lib.hid hcl
          have HPA := Lib.hid hpa
          have HA2 := Lib.hid hA2
          have HOWR := Lib.hid hown
          have HBI := Lib.hid hbi
          have j1 : (0 : Int) ≤ (k : Int) := by omega
          clear hcl hpa hA2 hown hbi
          obtain ⟨SM, hSM⟩ : ∃ SM, (C.any fun x => x != 0) = SM := ⟨_, rfl⟩
          rw [hSM]
          have HSM := Lib.hid hSM
          clear hSM
          by_cases hlt2 : k < D
          · have j2 : (k : Int) < (D : Int) := by omega
            have hgl := fun hh => partL_glue hlt2 hh HPA.out
            have hfe := fun hh => partL_fell hlt2 hh HPA.out
            have hri := HRI.out A2
            have hrg := fun W hW => HRG.out A2 W hW HA2.out
            obtain ⟨p, hp⟩ : ∃ X, (rangeB l A2 (-4) 4 T).1 = X := ⟨_, rfl⟩
            obtain ⟨A3, hA3⟩ : ∃ X, (rangeB l A2 (-4) 4 T).2.1 = X := ⟨_, rfl⟩
            obtain ⟨E, hE⟩ : ∃ X, (rangeB l A2 (-4) 4 T).2.2 = X := ⟨_, rfl⟩
            rw [hp, hA3, hE] at hri hrg
            rw [hp, hA3, hE] at hgl
            rw [hE] at hfe
            have HGL := Lib.hid hgl
            have HFL := Lib.hid hfe
            have HRJ := Lib.hid hri
            have HRH := Lib.hid hrg
            clear hgl hfe hri hrg hp hA3 hE
            by_cases hE0 : E = 0
            · subst hE0
              obtain ⟨⟨p0, p1⟩, q1, q2⟩ := HRJ.out rfl
              have HA3 := Lib.hid (HOK.out A3 q1 q2)
              have HG2 := Lib.hid (HGL.out rfl)
              have HC2 := Lib.hid (show (C ++ [p]).length = k + 1 by rw [List.length_append, HCL.out]; rfl)
              have HS2 := Lib.hid (show ((C ++ [p]).any fun x => x != 0) = (SM || (p != 0)) by rw [List.any_append, HSM.out]; simp)
              cases SM with
              | true =>
                go_wp2_with fail
                (with_reducible refine (HRH.out _ (HX.out.below HBI.out)).mono ?_)
                rintro e w4 ⟨rfl, d4, rfl⟩
                go_wp2_with (at_builtin; go_must (refine app1 rfl _ _ 24 rfl Try.underlying24 eiInt B0 (by rfl) (own_keep (w' := wr.drewN d4) HOWR.out fun g _ _ => rfl) (by rfl) rfl (by simp [Value.oneCell']) (by omega) (by exact hsi) ?_))
                intro v6 w6 hown6 hb6 _
                have OWN6 := Lib.hid hown6
                have B6 := Lib.hid (show Below w.heap.size w w6 from below_tr (by (repeat (first | with_reducible exact Below.refl _ _ | ((with_reducible refine Below.setCell ?_ ?_ _); rotate_left; (focus (first | omega | (simp; done) | (simp; omega)))) | ((with_reducible refine Below.alloc ?_ ?_ _); rotate_left; (focus (first | omega | (simp; done) | (simp; omega)))) | (with_reducible refine Below.drew ?_) | (with_reducible refine below_drewN ?_ _) | ((with_reducible refine Below.trans ?_ (Below.mono HBI.out ?_)); rotate_left; (focus (first | omega | (simp; done) | (simp; omega))))))) (hb6.mono hbs))
                have hs6 : B0 ≤ w6.heap.size := by have := hb6.size; simp at this; omega
                clear hown6 hb6
                go_wp2_with fail
                go_roundw
                case rel => exact ⟨k + 1, C ++ [p], A3, rfl, by go_num, by omega, HC2.out, by rw [HS2.out]; rfl, HG2.out, HA3.out, by rw [List.map_append]; exact OWN6.out, B6.out, hs6⟩
                case measure => simp [intOf] <;> omega
              | false =>
                go_wp2_with fail
                (with_reducible refine (HRH.out _ (HX.out.below HBI.out)).mono ?_)
                rintro e w4 ⟨rfl, d4, rfl⟩
                go_wp2_with (at_builtin; go_must (refine app1 rfl _ _ 24 rfl Try.underlying24 eiInt B0 (by rfl) (own_keep (w' := wr.drewN d4) HOWR.out fun g _ _ => rfl) (by rfl) rfl (by simp [Value.oneCell']) (by omega) (by exact hsi) ?_))
                intro v6 w6 hown6 hb6 _
                have OWN6 := Lib.hid hown6
                have B6 := Lib.hid (show Below w.heap.size w w6 from below_tr (by (repeat (first | with_reducible exact Below.refl _ _ | ((with_reducible refine Below.setCell ?_ ?_ _); rotate_left; (focus (first | omega | (simp; done) | (simp; omega)))) | ((with_reducible refine Below.alloc ?_ ?_ _); rotate_left; (focus (first | omega | (simp; done) | (simp; omega)))) | (with_reducible refine Below.drew ?_) | (with_reducible refine below_drewN ?_ _) | ((with_reducible refine Below.trans ?_ (Below.mono HBI.out ?_)); rotate_left; (focus (first | omega | (simp; done) | (simp; omega))))))) (hb6.mono hbs))
                have hs6 : B0 ≤ w6.heap.size := by have := hb6.size; simp at this; omega
                clear hown6 hb6
                go_wp2_with fail
                go_roundw
                case rel => exact ⟨k + 1, C ++ [p], A3, rfl, by go_num, by omega, HC2.out, by rw [HS2.out]; rfl, HG2.out, HA3.out, by rw [List.map_append]; exact OWN6.out, B6.out, hs6⟩
                case measure => simp [intOf] <;> omega
            · have e1 : (E != 0) = true := by simp [hE0]
              have HR := Lib.hid (show CV = ([], 0, E) by
                have h1 := HFL.out hE0
                rw [← h1]
                exact HFE.out (by rw [h1]; exact hE0))
              go_wp2_with fail
              (with_reducible refine (HRH.out _ (HX.out.below HBI.out)).mono ?_)
              rintro e w4 ⟨rfl, d4, rfl⟩
              go_wp2_with fail
              exact bodyPost_ret (v := .tuple #[.slice none 0 0, .int .i64 0, .int .i64 E]) (by simp [results, Try.results21, go_sem]) rfl ⟨_, by rw [HR.out], by rw [HR.out]; exact ints_nil _ _ _ _ (by omega), by (repeat (first | with_reducible exact Below.refl _ _ | ((with_reducible refine Below.setCell ?_ ?_ _); rotate_left; (focus (first | omega | (simp; done) | (simp; omega)))) | ((with_reducible refine Below.alloc ?_ ?_ _); rotate_left; (focus (first | omega | (simp; done) | (simp; omega)))) | (with_reducible refine Below.drew ?_) | (with_reducible refine below_drewN ?_ _) | ((with_reducible refine Below.trans ?_ (Below.mono HBI.out ?_)); rotate_left; (focus (first | omega | (simp; done) | (simp; omega))))))⟩
          · obtain rfl : k = D := by omega
            have hp := HPA.out
            rw [Nat.sub_self] at hp
            simp only [partL, List.append_nil] at hp
            have HP2 := Lib.hid hp
            cases SM with
            | true =>
              have HR := Lib.hid (show CV = (C, A2, 0) by
                have := HSO.out (by rw [HP2.out]) (by rw [HP2.out]; exact HSM.out)
                rw [HP2.out] at this
                exact this)
              have HI := Lib.hid (Ints.own (l := C) HOWR.out (by rw [HCL.out]; omega)).2
              clear hp
              go_wp2_with fail
              exact bodyPost_ret (v := .tuple #[u12, .int .i64 A2, .int .i64 0]) (by simp [results, Try.results21, go_sem]) rfl ⟨_, by rw [HR.out], by rw [HR.out]; exact HI.out, HBI.out⟩
            | false =>
              have HR := Lib.hid (show CV = coefL l T k (T - (j + 1)) A2 by
                have := HON.out (by rw [HP2.out]) (by rw [HP2.out]; exact HSM.out)
                rw [HP2.out] at this
                exact this)
              clear hp
              go_wp2_with fail
              go_roundw
              case rel => exact ⟨j + 1, A2, rfl, by go_num, by omega, HR.out, HA2.out, HBI.out⟩
              case measure => simp [intOf] <;> omega
      · obtain rfl : j = T := by omega
        have HR := Lib.hid (show CV = ([], 0, 61) by rw [HCV.out, Nat.sub_self]; rfl)
        go_wp2_with fail
        exact bodyPost_ret (v := .tuple #[.slice none 0 0, .int .i64 0, .int .i64 61]) (by simp [results, Try.results21, go_sem]) rfl ⟨_, by rw [HR.out], by rw [HR.out]; exact ints_nil _ _ _ _ (by omega), HBR.out⟩
end Go.Proofs.Ytoljilbldkbjpaa
