/-
  Walks of pick.Sample and pick.Perm.
-/
import Derived.Test.YtoljilbldkbjpaaPickC
import Derived.Test.YtoljilbldkbjpaaPickQ
namespace Go.Proofs.Ytoljilbldkbjpaa
open Go.RowKit Go.Maps

theorem sampL_glue {l : List Int} {n : Nat} {t : Int} {K j : Nat} {A : Int} (hj : j < K) (h : (boundB l A (n - j) t).2.2 = 0) {P : List Int} {a : Int}
    (e : sampL l n t K 0 a = (P ++ (sampL l n t (K - j) j A).1, (sampL l n t (K - j) j A).2)) :
    sampL l n t K 0 a = ((P ++ [(boundB l A (n - j) t).1]) ++ (sampL l n t (K - (j + 1)) (j + 1) (boundB l A (n - j) t).2.1).1, (sampL l n t (K - (j + 1)) (j + 1) (boundB l A (n - j) t).2.1).2) := by
  rw [e, show K - j = (K - (j + 1)) + 1 by omega, sampL_step h]
  simp

theorem sampL_fell {l : List Int} {n : Nat} {t : Int} {K j : Nat} {A : Int} (hj : j < K) (h : ¬ (boundB l A (n - j) t).2.2 = 0) {P : List Int} {a : Int}
    (e : sampL l n t K 0 a = (P ++ (sampL l n t (K - j) j A).1, (sampL l n t (K - j) j A).2)) :
    (sampL l n t K 0 a).2.2 = (boundB l A (n - j) t).2.2 := by
  rw [e, show K - j = (K - (j + 1)) + 1 by omega, sampL_stop h]

set_option maxRecDepth 100000 in
set_option maxHeartbeats 4000000 in
theorem sample_bad (v : Value) (a n k t : Int) (w : World) (hb : sampBad a n k t) :
    Calls Try.prog 12 #[v, .int .i64 a, .int .i64 n, .int .i64 k, .int .i64 t] w fun e w' => e = .returned (.tuple #[.slice none 0 0, .int .i64 0, .int .i64 1]) ∧ Below w.heap.size w w' := by
  unfold sampBad at hb
  by_cases h1 : n < 0
  · go_enter Try.func12, Try.ntmps12
    go_wp2_with fail
    exact bodyPost_ret (v := .tuple #[.slice none 0 0, .int .i64 0, .int .i64 1]) (by simp [results, Try.results12, go_sem]) rfl ⟨rfl, by (repeat (first | with_reducible exact Below.refl _ _ | ((with_reducible refine Below.setCell ?_ ?_ _); rotate_left; (focus (first | omega | (simp; done) | (simp; omega)))) | ((with_reducible refine Below.alloc ?_ ?_ _); rotate_left; (focus (first | omega | (simp; done) | (simp; omega)))) | (with_reducible refine Below.drew ?_) | (with_reducible refine below_drewN ?_ _)))⟩
  · by_cases h2 : 256 < n
    · go_enter Try.func12, Try.ntmps12
      go_wp2_with fail
      exact bodyPost_ret (v := .tuple #[.slice none 0 0, .int .i64 0, .int .i64 1]) (by simp [results, Try.results12, go_sem]) rfl ⟨rfl, by (repeat (first | with_reducible exact Below.refl _ _ | ((with_reducible refine Below.setCell ?_ ?_ _); rotate_left; (focus (first | omega | (simp; done) | (simp; omega)))) | ((with_reducible refine Below.alloc ?_ ?_ _); rotate_left; (focus (first | omega | (simp; done) | (simp; omega)))) | (with_reducible refine Below.drew ?_) | (with_reducible refine below_drewN ?_ _)))⟩
    · by_cases h3 : k < 0
      · go_enter Try.func12, Try.ntmps12
        go_wp2_with fail
        exact bodyPost_ret (v := .tuple #[.slice none 0 0, .int .i64 0, .int .i64 1]) (by simp [results, Try.results12, go_sem]) rfl ⟨rfl, by (repeat (first | with_reducible exact Below.refl _ _ | ((with_reducible refine Below.setCell ?_ ?_ _); rotate_left; (focus (first | omega | (simp; done) | (simp; omega)))) | ((with_reducible refine Below.alloc ?_ ?_ _); rotate_left; (focus (first | omega | (simp; done) | (simp; omega)))) | (with_reducible refine Below.drew ?_) | (with_reducible refine below_drewN ?_ _)))⟩
      · by_cases h4 : n < k
        · go_enter Try.func12, Try.ntmps12
          go_wp2_with fail
          exact bodyPost_ret (v := .tuple #[.slice none 0 0, .int .i64 0, .int .i64 1]) (by simp [results, Try.results12, go_sem]) rfl ⟨rfl, by (repeat (first | with_reducible exact Below.refl _ _ | ((with_reducible refine Below.setCell ?_ ?_ _); rotate_left; (focus (first | omega | (simp; done) | (simp; omega)))) | ((with_reducible refine Below.alloc ?_ ?_ _); rotate_left; (focus (first | omega | (simp; done) | (simp; omega)))) | (with_reducible refine Below.drew ?_) | (with_reducible refine below_drewN ?_ _)))⟩
        · have h5 : decide (0 ≤ a ∧ 1 ≤ t ∧ t ≤ 64) = false := decide_eq_false (by omega)
          have HA := Lib.hid (h5 ▸ asked07_any a t w)
          clear hb h5
          go_enter Try.func12, Try.ntmps12
          go_wp2_with fail
          (with_reducible refine HA.out.mono ?_)
          rintro e w1 ⟨rfl, rfl⟩
          go_wp2_with fail
          exact bodyPost_ret (v := .tuple #[.slice none 0 0, .int .i64 0, .int .i64 1]) (by simp [results, Try.results12, go_sem]) rfl ⟨rfl, by (repeat (first | with_reducible exact Below.refl _ _ | ((with_reducible refine Below.setCell ?_ ?_ _); rotate_left; (focus (first | omega | (simp; done) | (simp; omega)))) | ((with_reducible refine Below.alloc ?_ ?_ _); rotate_left; (focus (first | omega | (simp; done) | (simp; omega)))) | (with_reducible refine Below.drew ?_) | (with_reducible refine below_drewN ?_ _)))⟩

set_option maxRecDepth 100000 in
set_option maxHeartbeats 4000000 in
theorem sample_any (v : Value) (l : List Int) (a n k t : Int) (w : World) (h : Ints .u64 w v l) (hu : AllU l) (ha : Ok64 a) :
    Calls Try.prog 12 #[v, .int .i64 a, .int .i64 n, .int .i64 k, .int .i64 t] w fun e w' => ∃ vo, e = .returned (.tuple #[vo, .int .i64 (sampA l a n k t), .int .i64 (sampE l a n k t)]) ∧ Ints .i64 w' vo (sampV l a n k t) ∧ Below w.heap.size w w' := by
  by_cases hb : sampBad a n k t
  · have e1 : sampE l a n k t = 1 := by unfold sampE; rw [if_pos hb]
    have e2 : sampA l a n k t = 0 := by unfold sampA; rw [e1]; rfl
    have e3 : sampV l a n k t = [] := by unfold sampV; rw [e1]; rfl
    rw [e1, e2, e3]
    exact (sample_bad v a n k t w hb).mono fun e w' ⟨g1, g2⟩ => ⟨_, g1, ints_nil _ _ _ _ (by omega), g2⟩
  · have HE := Lib.hid (show sampE l a n k t = (sampL l n.toNat t k.toNat 0 a).2.2 by unfold sampE; rw [if_neg hb])
    have HA := Lib.hid (show sampA l a n k t = if sampE l a n k t = 0 then (sampL l n.toNat t k.toNat 0 a).2.1 else 0 from rfl)
    have HV := Lib.hid (show sampV l a n k t = if sampE l a n k t = 0 then playL (sampL l n.toNat t k.toNat 0 a).1 k.toNat else [] from rfl)
    obtain ⟨SE, hSE⟩ : ∃ X, sampE l a n k t = X := ⟨_, rfl⟩
    obtain ⟨SA, hSA⟩ : ∃ X, sampA l a n k t = X := ⟨_, rfl⟩
    obtain ⟨SV, hSV⟩ : ∃ X, sampV l a n k t = X := ⟨_, rfl⟩
    rw [hSE] at HE HA HV
    rw [hSA] at HA
    rw [hSV] at HV
    rw [hSE, hSA, hSV]
    unfold sampBad at hb
    obtain ⟨N, rfl⟩ : ∃ N : Nat, n = (N : Int) := ⟨n.toNat, by omega⟩
    obtain ⟨K, rfl⟩ : ∃ K : Nat, k = (K : Int) := ⟨k.toNat, by omega⟩
    rw [show (N : Int).toNat = N from rfl, show (K : Int).toNat = K from rfl] at HE HA HV
    have HX := Lib.hid h
    have HU := Lib.hid hu
    have HO := Lib.hid ha
    obtain ⟨ax, cx, rfl, _⟩ := h
    have n256 : (N : Int) ≤ 256 := by omega
    have kn : (K : Int) ≤ N := by omega
    have t1 : 1 ≤ t := by omega
    have t64 : t ≤ 64 := by omega
    have HAS := Lib.hid (decide_eq_true (show 0 ≤ a ∧ 1 ≤ t ∧ t ≤ 64 by omega) ▸ asked07_any a t w)
    have hr := @run_makeMap Try.prog
    generalize l.length = m at *
    clear hb hSE hSA hSV hu ha
    go_enter Try.func12, Try.ntmps12
    go_wp2_with fail
    (with_reducible refine HAS.out.mono ?_)
    rintro e w1 ⟨rfl, rfl⟩
    go_wp2_with (at_make; go_must (refine mkown rfl _ _ 24 rfl Try.underlying24 eiInt (w.heap.size + 1) K (by rfl) (by rfl) (by rfl) (by omega) (by simp) ?_))
    intro w2 hown hb2 _
    have hmap := (MapR.made w).keep (hb2.block w.heap.size (by omega))
    have B2 := Lib.hid (show Below w.heap.size w w2 from below_tr ((Below.refl _ w).alloc (Nat.le_refl _) _) (hb2.mono (by omega)))
    have HMA0 := Lib.hid hmap
    have HOW0 := Lib.hid hown
    clear hown hmap hr hb2
    go_wp2_with fail
    go_loopw [1, 14, 15, 16, 17, 18, 44] (fun av out _ _ _ _ i wr => ∃ (j : Nat) (P : List Int) (A : Int), av = .int .i64 A ∧ i = .int .i64 j ∧ j ≤ K ∧ P.length = j ∧ PickOk N P j ∧ sampL l N t K 0 a = (P ++ (sampL l N t (K - j) j A).1, (sampL l N t (K - j) j A).2) ∧
      wr.ownsRow (w.heap.size + 1) 3 1 out j ((playL P j).map (.int .i64)) ∧ MapR wr w.heap.size (2 * j) (stepF P j) ∧ Below w.heap.size w wr ∧ Ok64 A) (fun _ _ _ _ _ _ i _ => K - (intOf i).toNat)
    case atStart => exact ⟨0, [], a, rfl, rfl, by omega, rfl, fun i hi => by omega, by simp, HOW0.out, HMA0.out, B2.out, HO.out⟩
    case round =>
      obtain ⟨j, P, A, rfl, rfl, hj, hpl, hok, hse, hown, hmap, hbr, hA⟩ := hrel
      have HPL := Lib.hid hpl
      have HOK := Lib.hid hok
      have HSE := Lib.hid hse
      have HOWR := Lib.hid hown
      have HMAR := Lib.hid hmap
      have HBR := Lib.hid hbr
      have HAO := Lib.hid hA
      have hsz := hmap.lt
      have i1 : (0 : Int) ≤ (j : Int) := by omega
      clear hpl hok hse hown hmap hbr hA
      by_cases hlt : j < K
      · have i2 : (j : Int) < (K : Int) := by omega
        have hbo := fun W (hW : Ints .u64 W (.slice ax m cx) l) => boundB_any (.slice ax m cx) l A (N - j) t W hW HU.out (by omega) HAO.out
        have hin := boundB_in (l := l) (a := A) (n := N - j) (t := t) HU.out
        have hgl := fun hh => sampL_glue hlt hh HSE.out
        have hfe := fun hh => sampL_fell hlt hh HSE.out
        rw [show ((N - j : Nat) : Int) = (N : Int) - (j : Int) by omega] at hbo hin
        have HBO := Lib.hid hbo
        have HIN := Lib.hid hin
        have HGL := Lib.hid hgl
        have HFE := Lib.hid hfe
        obtain ⟨p, hp⟩ : ∃ X, (boundB l A (N - j) t).1 = X := ⟨_, rfl⟩
        obtain ⟨A2, hA2⟩ : ∃ X, (boundB l A (N - j) t).2.1 = X := ⟨_, rfl⟩
        obtain ⟨E, hE⟩ : ∃ X, (boundB l A (N - j) t).2.2 = X := ⟨_, rfl⟩
        rw [hp, hA2, hE] at HBO HIN
        rw [hp, hA2, hE] at HGL
        rw [hE] at HFE
        clear hbo hin hgl hfe hp hA2 hE
        by_cases hE0 : E = 0
        · subst hE0
          obtain ⟨⟨p0, p1⟩, q1, q2, q3⟩ := HIN.out rfl
          obtain ⟨q, rfl⟩ : ∃ q : Nat, p = (q : Int) := ⟨p.toNat, by omega⟩
          have hoA2 : Ok64 A2 := by
            have h3 : l.length ≤ 140737488351232 := by obtain ⟨_, _, e, _, _, h3, _⟩ := HX.out; exact h3
            have := HAO.out
            unfold Ok64 at this ⊢
            omega
          have HA2 := Lib.hid hoA2
          have HOK2 := Lib.hid (show PickOk N (P ++ [(q : Int)]) (j + 1) from fun i hi => by
            rcases Nat.lt_or_ge i j with h | h
            · have e1 : (P ++ [(q : Int)]).getD i 0 = P.getD i 0 := by
                rw [List.getD_eq_getElem?_getD, List.getD_eq_getElem?_getD, List.getElem?_append_left (by have := HPL.out; omega)]
              rw [e1]
              exact HOK.out i h
            · obtain rfl : i = j := by omega
              have e1 : (P ++ [(q : Int)]).getD i 0 = q := by
                have := getD_snoc P (q : Int)
                rwa [HPL.out] at this
              rw [e1]
              omega)
          have hperm := HOK.out.perm j (Nat.le_refl _)
          have e1 : (P ++ [(q : Int)]).getD j 0 = q := by
            have := getD_snoc P (q : Int)
            rwa [HPL.out] at this
          have e2 : stepF (P ++ [(q : Int)]) j = stepF P j := stepF_snoc P _ j (by have := HPL.out; omega)
          have HPA := Lib.hid (show pickAt (P ++ [(q : Int)]) j = stepF P j (j + q) by unfold pickAt; rw [e1, e2]; rfl)
          have HST := Lib.hid (show stepF (P ++ [(q : Int)]) (j + 1) = swapF (stepF P j) j (j + q) by show swapF _ _ _ = _; rw [e1, e2]; rfl)
          have HPY := Lib.hid (show playL (P ++ [(q : Int)]) (j + 1) = playL P j ++ [(pickAt (P ++ [(q : Int)]) j : Int)] by rw [playL_succ, playL_snoc P _ (by have := HPL.out; omega)])
          have HLN := Lib.hid (show (P ++ [(q : Int)]).length = j + 1 by rw [List.length_append, HPL.out]; rfl)
          have hs := fun W hW => swap_any w.heap.size (2 * j) j (j + q) (stepF P j) W hW (by omega) (by omega) (by omega) (by have := hperm.1 j (by omega); omega) (by have := hperm.1 (j + q) (by omega); omega)
          rw [← HST.out, ← HPA.out, Int.natCast_add] at hs
          have HS := Lib.hid hs
          have HG2 := Lib.hid (HGL.out rfl)
          generalize pickAt (P ++ [(q : Int)]) j = PA at *
          obtain ⟨P2, hP2⟩ : ∃ P2, P ++ [(q : Int)] = P2 := ⟨_, rfl⟩
          rw [hP2] at HOK2 HS HPY HLN HG2
          clear hs hperm e1 e2 hP2 HGL HFE HIN HST HPA hoA2
          go_wp2_with fail
          (with_reducible refine (HBO.out _ (HX.out.below HBR.out)).mono ?_)
          rintro e w4 ⟨rfl, b4⟩
          have HM4 := Lib.hid (HMAR.out.below b4)
          have OWN4 := Lib.hid (own_keep HOWR.out fun g _ hgl => b4.block g hgl)
          have B4 := Lib.hid (below_tr HBR.out (b4.mono (by have := HBR.out.size; omega)))
          have s4 := b4.size
          clear b4
          go_wp2_with fail
          (with_reducible refine (HS.out _ HM4.out).mono ?_)
          rintro e w5 ⟨rfl, hmap5, hon5⟩
          have HM5 := Lib.hid hmap5
          have OWN5 := Lib.hid (own_keep OWN4.out fun g hg hgl => hon5.2 g (by omega) hgl)
          have B5 := Lib.hid (below_tr B4.out (hon5.1.mono (Nat.le_refl _)))
          have s5 := hmap5.lt
          clear hmap5 hon5
          go_wp2_with (at_builtin; go_must (refine app1 rfl _ _ 24 rfl Try.underlying24 eiInt (w.heap.size + 1) (by rfl) OWN5.out (by rfl) rfl (by simp [Value.oneCell']) (by omega) (by omega) ?_))
          intro v6 w6 hown6 hb6 _
          have OWN6 := Lib.hid hown6
          have HM6 := Lib.hid (HM5.out.keep (w' := w6) ((hb6.block w.heap.size (by omega)).trans (by go_simp)))
          have B6 := Lib.hid (show Below w.heap.size w w6 from below_tr (by (repeat (first | with_reducible exact Below.refl _ _ | ((with_reducible refine Below.setCell ?_ ?_ _); rotate_left; (focus (first | omega | (simp; done) | (simp; omega)))) | ((with_reducible refine Below.alloc ?_ ?_ _); rotate_left; (focus (first | omega | (simp; done) | (simp; omega)))) | (with_reducible refine Below.drew ?_) | (with_reducible refine below_drewN ?_ _) | ((with_reducible refine Below.trans ?_ (Below.mono B5.out ?_)); rotate_left; (focus (first | omega | (simp; done) | (simp; omega))))))) (hb6.mono (by omega)))
          clear hown6 hb6
          go_wp2_with fail
          go_roundw
          case rel => exact ⟨j + 1, P2, A2, rfl, by go_num, by omega, HLN.out, HOK2.out, HG2.out, by rw [HPY.out, List.map_append]; exact OWN6.out, by rw [show 2 * (j + 1) = 2 * j + 2 by omega]; exact HM6.out, B6.out, HA2.out⟩
          case measure => simp [intOf] <;> omega
        · have j1 : (E != 0) = true := by simp [hE0]
          have HFF := Lib.hid (show SE = E by rw [HE.out, HFE.out hE0])
          have HF2 := Lib.hid (show SA = 0 by rw [HA.out, HFF.out, if_neg hE0])
          have HF3 := Lib.hid (show SV = [] by rw [HV.out, HFF.out, if_neg hE0])
          clear hE0 HGL HFE HIN
          go_wp2_with fail
          (with_reducible refine (HBO.out _ (HX.out.below HBR.out)).mono ?_)
          rintro e w4 ⟨rfl, b4⟩
          have B4 := Lib.hid (below_tr HBR.out (b4.mono (by have := HBR.out.size; omega)))
          clear b4
          go_wp2_with fail
          exact bodyPost_ret (v := .tuple #[.slice none 0 0, .int .i64 0, .int .i64 E]) (by simp [results, Try.results12, go_sem]) rfl ⟨_, by rw [HF2.out, HFF.out], by rw [HF3.out]; exact ints_nil _ _ _ _ (by omega), B4.out⟩
      · obtain rfl : j = K := by omega
        have hs := HSE.out
        rw [Nat.sub_self] at hs
        simp only [sampL, List.append_nil] at hs
        have HFF := Lib.hid (show SE = 0 by rw [HE.out, hs])
        have HF2 := Lib.hid (show SA = A by rw [HA.out, HFF.out, if_pos rfl, hs])
        have HF3 := Lib.hid (show SV = playL P j by rw [HV.out, HFF.out, if_pos rfl, hs])
        have HI := Lib.hid (Ints.own (l := playL P j) HOWR.out (by rw [playL_len]; omega)).2
        clear hs
        go_wp2_with fail
        exact bodyPost_ret (v := .tuple #[u14, .int .i64 A, .int .i64 0]) (by simp [results, Try.results12, go_sem]) rfl ⟨_, by rw [HF2.out, HFF.out], by rw [HF3.out]; exact HI.out, HBR.out⟩

set_option maxHeartbeats 1000000 in
theorem perm_any (v : Value) (l : List Int) (a n t : Int) (w : World) (h : Ints .u64 w v l) (hu : AllU l) (ha : Ok64 a) :
    Calls Try.prog 15 #[v, .int .i64 a, .int .i64 n, .int .i64 t] w fun e w' => ∃ vo, e = .returned (.tuple #[vo, .int .i64 (sampA l a n n t), .int .i64 (sampE l a n n t)]) ∧ Ints .i64 w' vo (sampV l a n n t) ∧ Below w.heap.size w w' := by
  have HS := Lib.hid (sample_any v l a n n t w h hu ha)
  obtain ⟨ax, cx, rfl, _⟩ := h
  generalize l.length = m at *
  go_enter Try.func15, Try.ntmps15
  go_wp2_with fail
  (with_reducible refine HS.out.mono ?_)
  rintro e w1 ⟨vo, rfl, i1, b1⟩
  go_wp2_with fail
  exact bodyPost_ret (v := .tuple #[vo, .int .i64 (sampA l a n n t), .int .i64 (sampE l a n n t)]) (by simp [results, Try.results15, go_sem]) rfl ⟨_, rfl, i1, b1⟩
end Go.Proofs.Ytoljilbldkbjpaa
