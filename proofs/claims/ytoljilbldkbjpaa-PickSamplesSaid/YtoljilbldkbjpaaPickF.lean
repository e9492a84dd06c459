/-
  Walks of copseref07: row, Asked, Sample.
-/
import Derived.Test.YtoljilbldkbjpaaPickD
import Derived.Test.YtoljilbldkbjpaaDrawC
namespace Go.Proofs.Ytoljilbldkbjpaa
open Go.RowKit

set_option maxHeartbeats 1000000 in
theorem rasked07_any (a t : Int) (w : World) :
    Calls Try.prog 43 #[.int .i64 a, .int .i64 t] w fun e w' => e = .returned (.bool (decide (0 ≤ a ∧ 1 ≤ t ∧ t ≤ 64))) ∧ w = w' := by
  by_cases h1 : 0 ≤ a
  · by_cases h2 : 1 ≤ t
    · by_cases h3 : t ≤ 64
      · go_enter Try.func43, Try.ntmps43
        go_wp2_with fail
        go_ret
        exact ⟨ret_bool (by simp; omega), rfl⟩
      · go_enter Try.func43, Try.ntmps43
        go_wp2_with fail
        go_ret
        exact ⟨ret_bool (by simp; omega), rfl⟩
    · go_enter Try.func43, Try.ntmps43
      go_wp2_with fail
      go_ret
      exact ⟨ret_bool (by simp; omega), rfl⟩
  · go_enter Try.func43, Try.ntmps43
    go_wp2_with fail
    go_ret
    exact ⟨ret_bool (by simp; omega), rfl⟩

theorem rowL_id_succ (n : Nat) : rowL id (n + 1) = rowL id n ++ [(n : Int)] := by
  unfold rowL
  rw [List.range_succ, List.map_append]
  rfl

set_option maxRecDepth 100000 in
set_option maxHeartbeats 1000000 in
theorem rrow_any (n : Nat) (w : World) (hn : n ≤ 256) :
    Calls Try.prog 44 #[.int .i64 (n : Int)] w fun e w' => ∃ vo, e = .returned vo ∧ w'.ownsRow w.heap.size 3 1 vo n ((rowL id n).map (.int .i64)) ∧ Below w.heap.size w w' := by
  go_enter Try.func44, Try.ntmps44
  go_wp2_with fail
  go_loopw [3, 4] (fun out i wr => ∃ k : Nat, i = .int .i64 k ∧ k ≤ n ∧ wr.ownsRow w.heap.size 3 1 out k ((rowL id k).map (.int .i64)) ∧ Below w.heap.size w wr) (fun _ i _ => n - (intOf i).toNat)
  case atStart => exact ⟨0, rfl, by omega, World.ownsRow_nil _ _ _ _, Below.refl _ _⟩
  case round =>
    obtain ⟨k, rfl, hk, hown, hbr⟩ := hrel
    have HOWR := Lib.hid hown
    have HBR := Lib.hid hbr
    have hsz := hbr.size
    clear hown hbr
    by_cases hlt : k < n
    · have i2 : (k : Int) < (n : Int) := by omega
      have HRS := Lib.hid (rowL_id_succ k)
      go_wp2_with (at_builtin; go_must (refine app1 rfl _ _ 24 rfl Try.underlying24 eiInt w.heap.size (by rfl) HOWR.out (by rfl) rfl (by simp [Value.oneCell']) (by omega) (by omega) ?_))
      intro v6 w6 hown6 hb6 _
      have OWN6 := Lib.hid hown6
      have B6 := Lib.hid hb6
      clear hown6 hb6
      go_wp2_with fail
      go_roundw
      case rel => exact ⟨k + 1, by go_num, by omega, by rw [HRS.out, List.map_append]; exact OWN6.out, by (repeat (first | with_reducible exact Below.refl _ _ | ((with_reducible refine Below.setCell ?_ ?_ _); rotate_left; (focus (first | omega | (simp; done) | (simp; omega)))) | ((with_reducible refine Below.alloc ?_ ?_ _); rotate_left; (focus (first | omega | (simp; done) | (simp; omega)))) | (with_reducible refine Below.drew ?_) | (with_reducible refine below_drewN ?_ _) | ((with_reducible refine Below.trans ?_ (Below.mono B6.out ?_)); rotate_left; (focus (first | omega | (simp; done) | (simp; omega)))) | ((with_reducible refine Below.trans ?_ (Below.mono HBR.out ?_)); rotate_left; (focus (first | omega | (simp; done) | (simp; omega))))))⟩
      case measure => simp [intOf] <;> omega
    · obtain rfl : k = n := by omega
      go_wp2_with fail
      go_ret
      exact ⟨_, rfl, HOWR.out, HBR.out⟩

theorem row_form {w : World} {base e size n : Nat} {v : Value} {xs : List Value} (h : w.ownsRow base e size v n xs) : (v = .slice none 0 0 ∧ n = 0) ∨ ∃ g cap, v = .slice (some ⟨g, 0, none⟩) n cap ∧ n ≤ cap ∧ cap ≤ 9223372036854775807 := by
  rcases h.2 with h | ⟨g, cap, cur, e, _, _, h1, h2, _⟩
  · exact .inl h
  · exact .inr ⟨g, cap, e, h1, by unfold maxLen at h2; omega⟩

/-- A row of the call's own, of which the first ones are handed on. -/
theorem row_cut {w : World} {base e G n cap k : Nat} {P : List Int} (h : w.ownsRow base e 1 (.slice (some ⟨G, 0, none⟩) n cap) n ((rowL (stepF P k) n).map (Value.int .i64))) (hk : k ≤ n) (hn : n ≤ 256) : Ints .i64 w (.slice (some ⟨G, 0, none⟩) k cap) (playL P k) := by
  have h1 := (Ints.own (l := rowL (stepF P k) n) h (by rw [rowL_len]; omega)).2
  have h2 := h1.take (k := k) (by rw [rowL_len]; exact hk)
  rw [rowL_take P hk] at h2
  exact h2.2

set_option maxRecDepth 100000 in
set_option maxHeartbeats 4000000 in
theorem rsample_bad (v : Value) (a n k t : Int) (w : World) (hb : sampBad a n k t) :
    Calls Try.prog 13 #[v, .int .i64 a, .int .i64 n, .int .i64 k, .int .i64 t] w fun e w' => e = .returned (.tuple #[.slice none 0 0, .int .i64 0, .int .i64 1]) ∧ Below w.heap.size w w' := by
  unfold sampBad at hb
  by_cases h1 : n < 0
  · go_enter Try.func13, Try.ntmps13
    go_wp2_with fail
    exact bodyPost_ret (v := .tuple #[.slice none 0 0, .int .i64 0, .int .i64 1]) (by simp [results, Try.results13, go_sem]) rfl ⟨rfl, by (repeat (first | with_reducible exact Below.refl _ _ | ((with_reducible refine Below.setCell ?_ ?_ _); rotate_left; (focus (first | omega | (simp; done) | (simp; omega)))) | ((with_reducible refine Below.alloc ?_ ?_ _); rotate_left; (focus (first | omega | (simp; done) | (simp; omega)))) | (with_reducible refine Below.drew ?_) | (with_reducible refine below_drewN ?_ _)))⟩
  · by_cases h2 : 256 < n
    · go_enter Try.func13, Try.ntmps13
      go_wp2_with fail
      exact bodyPost_ret (v := .tuple #[.slice none 0 0, .int .i64 0, .int .i64 1]) (by simp [results, Try.results13, go_sem]) rfl ⟨rfl, by (repeat (first | with_reducible exact Below.refl _ _ | ((with_reducible refine Below.setCell ?_ ?_ _); rotate_left; (focus (first | omega | (simp; done) | (simp; omega)))) | ((with_reducible refine Below.alloc ?_ ?_ _); rotate_left; (focus (first | omega | (simp; done) | (simp; omega)))) | (with_reducible refine Below.drew ?_) | (with_reducible refine below_drewN ?_ _)))⟩
    · by_cases h3 : k < 0
      · go_enter Try.func13, Try.ntmps13
        go_wp2_with fail
        exact bodyPost_ret (v := .tuple #[.slice none 0 0, .int .i64 0, .int .i64 1]) (by simp [results, Try.results13, go_sem]) rfl ⟨rfl, by (repeat (first | with_reducible exact Below.refl _ _ | ((with_reducible refine Below.setCell ?_ ?_ _); rotate_left; (focus (first | omega | (simp; done) | (simp; omega)))) | ((with_reducible refine Below.alloc ?_ ?_ _); rotate_left; (focus (first | omega | (simp; done) | (simp; omega)))) | (with_reducible refine Below.drew ?_) | (with_reducible refine below_drewN ?_ _)))⟩
      · by_cases h4 : n < k
        · go_enter Try.func13, Try.ntmps13
          go_wp2_with fail
          exact bodyPost_ret (v := .tuple #[.slice none 0 0, .int .i64 0, .int .i64 1]) (by simp [results, Try.results13, go_sem]) rfl ⟨rfl, by (repeat (first | with_reducible exact Below.refl _ _ | ((with_reducible refine Below.setCell ?_ ?_ _); rotate_left; (focus (first | omega | (simp; done) | (simp; omega)))) | ((with_reducible refine Below.alloc ?_ ?_ _); rotate_left; (focus (first | omega | (simp; done) | (simp; omega)))) | (with_reducible refine Below.drew ?_) | (with_reducible refine below_drewN ?_ _)))⟩
        · have h5 : decide (0 ≤ a ∧ 1 ≤ t ∧ t ≤ 64) = false := decide_eq_false (by omega)
          have HA := Lib.hid (h5 ▸ rasked07_any a t w)
          clear hb h5
          go_enter Try.func13, Try.ntmps13
          go_wp2_with fail
          (with_reducible refine HA.out.mono ?_)
          rintro e w1 ⟨rfl, rfl⟩
          go_wp2_with fail
          exact bodyPost_ret (v := .tuple #[.slice none 0 0, .int .i64 0, .int .i64 1]) (by simp [results, Try.results13, go_sem]) rfl ⟨rfl, by (repeat (first | with_reducible exact Below.refl _ _ | ((with_reducible refine Below.setCell ?_ ?_ _); rotate_left; (focus (first | omega | (simp; done) | (simp; omega)))) | ((with_reducible refine Below.alloc ?_ ?_ _); rotate_left; (focus (first | omega | (simp; done) | (simp; omega)))) | (with_reducible refine Below.drew ?_) | (with_reducible refine below_drewN ?_ _)))⟩

set_option maxRecDepth 100000 in
set_option maxHeartbeats 4000000 in
theorem rsample_any (v : Value) (l : List Int) (a n k t : Int) (w : World) (h : Ints .u64 w v l) (hu : AllU l) (ha : Ok64 a) :
    Calls Try.prog 13 #[v, .int .i64 a, .int .i64 n, .int .i64 k, .int .i64 t] w fun e w' => ∃ vo, e = .returned (.tuple #[vo, .int .i64 (sampA l a n k t), .int .i64 (sampE l a n k t)]) ∧ Ints .i64 w' vo (sampV l a n k t) ∧ Below w.heap.size w w' := by
  by_cases hb : sampBad a n k t
  · have e1 : sampE l a n k t = 1 := by unfold sampE; rw [if_pos hb]
    have e2 : sampA l a n k t = 0 := by unfold sampA; rw [e1]; rfl
    have e3 : sampV l a n k t = [] := by unfold sampV; rw [e1]; rfl
    rw [e1, e2, e3]
    exact (rsample_bad v a n k t w hb).mono fun e w' ⟨g1, g2⟩ => ⟨_, g1, ints_nil _ _ _ _ (by omega), g2⟩
  · have HE := Lib.hid (show sampE l a n k t = (sampL l n.toNat t k.toNat 0 a).2.2 by unfold sampE; rw [if_neg hb])
    have HA := Lib.hid (show sampA l a n k t = if sampE l a n k t = 0 then (sampL l n.toNat t k.toNat 0 a).2.1 else 0 from rfl)
    have HV := Lib.hid (show sampV l a n k t = if sampE l a n k t = 0 then playL (sampL l n.toNat t k.toNat 0 a).1 k.toNat else [] from rfl)
    obtain ⟨SE, hSE⟩ : ∃ X, sampE l a n k t = X := ⟨_, rfl⟩
    obtain ⟨SA, hSA⟩ : ∃ X, sampA l a n k t = X := ⟨_, rfl⟩
    obtain ⟨SV, hSV⟩ : ∃ X, sampV l a n k t = X := ⟨_, rfl⟩
    rw [hSE] at HE HA HV
    rw [hSA] at HA
    rw [hSV] at HV
    rw [hSE, hSA, hSV]
    unfold sampBad at hb
    obtain ⟨N, rfl⟩ : ∃ N : Nat, n = (N : Int) := ⟨n.toNat, by omega⟩
    obtain ⟨K, rfl⟩ : ∃ K : Nat, k = (K : Int) := ⟨k.toNat, by omega⟩
    rw [show (N : Int).toNat = N from rfl, show (K : Int).toNat = K from rfl] at HE HA HV
    have HX := Lib.hid h
    have HU := Lib.hid hu
    have HO := Lib.hid ha
    obtain ⟨ax, cx, rfl, _⟩ := h
    have n256 : (N : Int) ≤ 256 := by omega
    have kn : (K : Int) ≤ N := by omega
    have t1 : 1 ≤ t := by omega
    have t64 : t ≤ 64 := by omega
    have HAS := Lib.hid (decide_eq_true (show 0 ≤ a ∧ 1 ≤ t ∧ t ≤ 64 by omega) ▸ rasked07_any a t w)
    generalize l.length = m at *
    clear hb hSE hSA hSV hu ha
    by_cases hN0 : N = 0
    · subst hN0
      obtain rfl : K = 0 := by omega
      have HFF := Lib.hid (show SE = 0 by rw [HE.out]; rfl)
      have HF2 := Lib.hid (show SA = a by rw [HA.out, HFF.out]; rfl)
      have HF3 := Lib.hid (show SV = [] by rw [HV.out, HFF.out]; rfl)
      have HRW := Lib.hid (show ∀ W, Calls Try.prog 44 #[.int .i64 0] W _ from fun W => rrow_any 0 W (by omega))
      clear n256 kn
      go_enter Try.func13, Try.ntmps13
      go_wp2_with fail
      (with_reducible refine HAS.out.mono ?_)
      rintro e w1 ⟨rfl, rfl⟩
      go_wp2_with fail
      (with_reducible refine (HRW.out _).mono ?_)
      rintro e w2 ⟨vo, rfl, hown, b2⟩
      rcases row_form hown with ⟨rfl, _⟩ | ⟨g, cap, rfl, _, hcap⟩
      · go_wp2_with fail
        refine wp_loop_rounds 1 ?_
        rw [rounds_succ]
        go_wp2_with fail
        exact bodyPost_ret (v := .tuple #[.slice none 0 0, .int .i64 a, .int .i64 0]) (by simp [results, Try.results13, go_sem]) rfl ⟨_, by rw [HF2.out, HFF.out], by rw [HF3.out]; exact ints_nil _ _ _ _ (by omega), b2⟩
      · go_wp2_with fail
        refine wp_loop_rounds 1 ?_
        rw [rounds_succ]
        go_wp2_with fail
        exact bodyPost_ret (v := .tuple #[.slice (some ⟨g, 0, none⟩) 0 cap, .int .i64 a, .int .i64 0]) (by simp [results, Try.results13, go_sem]) rfl ⟨_, by rw [HF2.out, HFF.out], by rw [HF3.out]; exact ints_nil _ _ _ _ hcap, b2⟩
    · have hN1 : 0 < N := by omega
      have HRW := Lib.hid (fun W => rrow_any N W (by omega))
      go_enter Try.func13, Try.ntmps13
      go_wp2_with fail
      (with_reducible refine HAS.out.mono ?_)
      rintro e w1 ⟨rfl, rfl⟩
      go_wp2_with fail
      (with_reducible refine (HRW.out _).mono ?_)
      rintro e w2 ⟨vo, rfl, hown, b2⟩
      obtain ⟨G, cap, rfl, hcap1, hcap2⟩ := (row_form hown).resolve_left (fun h => by omega)
      have HOW0 := Lib.hid hown
      have hGw := (hown.lt G rfl).1
      have B2 := Lib.hid b2
      clear hown b2
      go_wp2_with fail
      go_loopw [1, 14, 15, 16, 17, 18] (fun av i _ _ _ _ wr => ∃ (j : Nat) (P : List Int) (A : Int), av = .int .i64 A ∧ i = .int .i64 j ∧ j ≤ K ∧ P.length = j ∧ PickOk N P j ∧ sampL l N t K 0 a = (P ++ (sampL l N t (K - j) j A).1, (sampL l N t (K - j) j A).2) ∧
        wr.ownsRow w.heap.size 3 1 (.slice (some ⟨G, 0, none⟩) N cap) N ((rowL (stepF P j) N).map (.int .i64)) ∧ Below w.heap.size w wr ∧ Ok64 A) (fun _ i _ _ _ _ _ => K - (intOf i).toNat)
      case atStart => exact ⟨0, [], a, rfl, rfl, by omega, rfl, fun i hi => by omega, by simp, HOW0.out, B2.out, HO.out⟩
      case round =>
        obtain ⟨j, P, A, rfl, rfl, hj, hpl, hok, hse, hown, hbr, hA⟩ := hrel
        have HPL := Lib.hid hpl
        have HOK := Lib.hid hok
        have HSE := Lib.hid hse
        have HOWR := Lib.hid hown
        have HBR := Lib.hid hbr
        have HAO := Lib.hid hA
        have i1 : (0 : Int) ≤ (j : Int) := by omega
        clear hpl hok hse hown hbr hA
        by_cases hlt : j < K
        · have i2 : (j : Int) < (K : Int) := by omega
          have hbo := fun W (hW : Ints .u64 W (.slice ax m cx) l) => rboundB_any (.slice ax m cx) l A (N - j) t W hW HU.out (by omega) HAO.out
          have hin := boundB_in (l := l) (a := A) (n := N - j) (t := t) HU.out
          have hgl := fun hh => sampL_glue hlt hh HSE.out
          have hfe := fun hh => sampL_fell hlt hh HSE.out
          rw [show ((N - j : Nat) : Int) = (N : Int) - (j : Int) by omega] at hbo hin
          have HBO := Lib.hid hbo
          have HIN := Lib.hid hin
          have HGL := Lib.hid hgl
          have HFE := Lib.hid hfe
          obtain ⟨p, hp⟩ : ∃ X, (boundB l A (N - j) t).1 = X := ⟨_, rfl⟩
          obtain ⟨A2, hA2⟩ : ∃ X, (boundB l A (N - j) t).2.1 = X := ⟨_, rfl⟩
          obtain ⟨E, hE⟩ : ∃ X, (boundB l A (N - j) t).2.2 = X := ⟨_, rfl⟩
          rw [hp, hA2, hE] at HBO HIN
          rw [hp, hA2, hE] at HGL
          rw [hE] at HFE
          clear hbo hin hgl hfe hp hA2 hE
          by_cases hE0 : E = 0
          · subst hE0
            obtain ⟨⟨p0, p1⟩, q1, q2, q3⟩ := HIN.out rfl
            obtain ⟨q, rfl⟩ : ∃ q : Nat, p = (q : Int) := ⟨p.toNat, by omega⟩
            have hoA2 : Ok64 A2 := by
              have h3 : l.length ≤ 140737488351232 := by obtain ⟨_, _, e, _, _, h3, _⟩ := HX.out; exact h3
              have := HAO.out
              unfold Ok64 at this ⊢
              omega
            have HA2 := Lib.hid hoA2
            have HOK2 := Lib.hid (show PickOk N (P ++ [(q : Int)]) (j + 1) from fun i hi => by
              rcases Nat.lt_or_ge i j with h | h
              · have e1 : (P ++ [(q : Int)]).getD i 0 = P.getD i 0 := by
                  rw [List.getD_eq_getElem?_getD, List.getD_eq_getElem?_getD, List.getElem?_append_left (by have := HPL.out; omega)]
                rw [e1]
                exact HOK.out i h
              · obtain rfl : i = j := by omega
                have e1 : (P ++ [(q : Int)]).getD i 0 = q := by
                  have := getD_snoc P (q : Int)
                  rwa [HPL.out] at this
                rw [e1]
                omega)
            have e1 : (P ++ [(q : Int)]).getD j 0 = q := by
              have := getD_snoc P (q : Int)
              rwa [HPL.out] at this
            have e2 : stepF (P ++ [(q : Int)]) j = stepF P j := stepF_snoc P _ j (by have := HPL.out; omega)
            have HST := Lib.hid (show rowL (stepF (P ++ [(q : Int)]) (j + 1)) N = ((rowL (stepF P j) N).set (j + q) (stepF P j j : Int)).set j (stepF P j (j + q) : Int) by
              rw [rowL_swap _ (by omega) (by omega)]
              congr 1
              show swapF _ _ _ = _
              rw [e1, e2]
              rfl)
            have HLN := Lib.hid (show (P ++ [(q : Int)]).length = j + 1 by rw [List.length_append, HPL.out]; rfl)
            have HG2 := Lib.hid (HGL.out rfl)
            have HC1 := Lib.hid (rowL_at (stepF P j) (n := N) (i := j) (by omega))
            have HC2 := Lib.hid (rowL_at (stepF P j) (n := N) (i := j + q) (by omega))
            obtain ⟨X1, hX1⟩ : ∃ X, stepF P j j = X := ⟨_, rfl⟩
            obtain ⟨X2, hX2⟩ : ∃ X, stepF P j (j + q) = X := ⟨_, rfl⟩
            rw [hX1] at HC1
            rw [hX2] at HC2
            rw [hX1, hX2] at HST
            obtain ⟨P2, hP2⟩ : ∃ P2, P ++ [(q : Int)] = P2 := ⟨_, rfl⟩
            rw [hP2] at HOK2 HLN HG2 HST
            have hq1 : (0 : Int) ≤ (j : Int) + (q : Int) := by omega
            have hq2 : (j : Int) + (q : Int) < (N : Int) := by omega
            have hjN : (j : Int) < (N : Int) := by omega
            clear e1 e2 hP2 HGL HFE HIN hX1 hX2 hoA2
            go_wp2_with fail
            (with_reducible refine (HBO.out _ (HX.out.below HBR.out)).mono ?_)
            rintro e w4 ⟨rfl, d4, rfl⟩
            have OWN4 := Lib.hid (own_keep (w' := wr.drewN d4) HOWR.out fun g _ _ => rfl)
            have B4 := Lib.hid (below_drewN HBR.out d4)
            have cj := (HOWR.out.cellAt j (by omega)).trans (by rw [List.getElem?_map, HC1.out, Option.map_some])
            have ck := (HOWR.out.cellAt (j + q) (by omega)).trans (by rw [List.getElem?_map, HC2.out, Option.map_some])
            have fj := HOWR.out.frozenAt j
            have fk := HOWR.out.frozenAt (j + q)
            have c5 : ((wr.drewN d4).setCell ⟨G, j + q, none⟩ (.int .i64 (X1 : Int))).cell? ⟨G, j, none⟩ = some (.int .i64 (X1 : Int)) := by
              by_cases h : q = 0
              · subst h
                exact World.cell?_setCell_same _ _ _ (u := .int .i64 X1) cj
              · exact (World.cell?_setCell_other _ _ _ _ (by intro e; injection e with _ e _; omega)).trans cj
            go_wp2_with fail
            go_roundw
            case rel =>
              refine ⟨j + 1, P2, A2, rfl, by go_num, by omega, HLN.out, HOK2.out, HG2.out, ?_, by (repeat (first | with_reducible exact Below.refl _ _ | ((with_reducible refine Below.setCell ?_ ?_ _); rotate_left; (focus (first | omega | (simp; done) | (simp; omega)))) | ((with_reducible refine Below.alloc ?_ ?_ _); rotate_left; (focus (first | omega | (simp; done) | (simp; omega)))) | (with_reducible refine Below.drew ?_) | (with_reducible refine below_drewN ?_ _) | ((with_reducible refine Below.trans ?_ (Below.mono HBR.out ?_)); rotate_left; (focus (first | omega | (simp; done) | (simp; omega)))))), HA2.out⟩
              rw [HST.out, List.map_set, List.map_set]
              exact ((OWN4.out.stored (j + q) _).1.stored j _).1
            case measure => simp [intOf] <;> omega
          · have j1 : (E != 0) = true := by simp [hE0]
            have HFF := Lib.hid (show SE = E by rw [HE.out, HFE.out hE0])
            have HF2 := Lib.hid (show SA = 0 by rw [HA.out, HFF.out, if_neg hE0])
            have HF3 := Lib.hid (show SV = [] by rw [HV.out, HFF.out, if_neg hE0])
            clear hE0 HGL HFE HIN
            go_wp2_with fail
            (with_reducible refine (HBO.out _ (HX.out.below HBR.out)).mono ?_)
            rintro e w4 ⟨rfl, d4, rfl⟩
            have B4 := Lib.hid (below_drewN HBR.out d4)
            go_wp2_with fail
            exact bodyPost_ret (v := .tuple #[.slice none 0 0, .int .i64 0, .int .i64 E]) (by simp [results, Try.results13, go_sem]) rfl ⟨_, by rw [HF2.out, HFF.out], by rw [HF3.out]; exact ints_nil _ _ _ _ (by omega), by (repeat (first | with_reducible exact Below.refl _ _ | ((with_reducible refine Below.setCell ?_ ?_ _); rotate_left; (focus (first | omega | (simp; done) | (simp; omega)))) | ((with_reducible refine Below.alloc ?_ ?_ _); rotate_left; (focus (first | omega | (simp; done) | (simp; omega)))) | (with_reducible refine Below.drew ?_) | (with_reducible refine below_drewN ?_ _) | ((with_reducible refine Below.trans ?_ (Below.mono HBR.out ?_)); rotate_left; (focus (first | omega | (simp; done) | (simp; omega))))))⟩
        · obtain rfl : j = K := by omega
          have hs := HSE.out
          rw [Nat.sub_self] at hs
          simp only [sampL, List.append_nil] at hs
          have HFF := Lib.hid (show SE = 0 by rw [HE.out, hs])
          have HF2 := Lib.hid (show SA = A by rw [HA.out, HFF.out, if_pos rfl, hs])
          have HF3 := Lib.hid (show SV = playL P j by rw [HV.out, HFF.out, if_pos rfl, hs])
          have HI := Lib.hid (row_cut HOWR.out (by omega) (by omega))
          have hjc : (j : Int) ≤ (cap : Int) := by omega
          clear hs
          go_wp2_with fail
          exact bodyPost_ret (v := .tuple #[.slice (some ⟨G, 0, none⟩) j cap, .int .i64 A, .int .i64 0]) (by simp [results, Try.results13, go_sem]) rfl ⟨_, by rw [HF2.out, HFF.out], by rw [HF3.out]; exact HI.out, HBR.out⟩
end Go.Proofs.Ytoljilbldkbjpaa
