/-
  Walk of DrawNexts.
-/
import Derived.Test.YtfbodloidogliaaLaws06
namespace Go.Proofs.Ytfbodloidogliaa
open Go.RowKit

theorem argsU {w : World} {v : Value} {l : List Int} (h : ArgInts .u64 w v l) : AllU l := by
  obtain ⟨_, _, _, _, _, _, h⟩ := h
  intro x hx
  exact bounds_u64 (h x hx)

theorem used_bad {l : List Int} {a b : Int} (h : a < 0 ∨ b < a ∨ (l.length : Int) < b) : usedL l a b = [] := if_pos h

set_option maxRecDepth 100000 in
set_option maxHeartbeats 2000000 in
theorem drawNexts_walk {w : World} (v : Value) (l : List Int) (h : ArgInts .u64 w v l) (a : Int) (ha : (Lit.int .i64 a).wf = true) (b : Int) (_hb : (Lit.int .i64 b).wf = true) :
    Calls Try.prog 7 #[v, .int .i64 a, .int .i64 b] w fun e w' => e = .returned (.bool true) ∧ Below w.heap.size w w' := by
  have ha := wf_ok ha
  clear _hb
  by_cases hl : (200 : Int) < l.length
  · obtain ⟨ad, c, rfl, _⟩ := h
    go_enter Try.func7, Try.ntmps7
    go_wp2_with fail
    refine (lives06_any w).mono ?_
    rintro e w1 ⟨rfl, b1⟩
    have B1 := Lib.hid b1
    clear b1
    go_wp2
    go_ret
    exact ⟨rfl, B1.out⟩
  · have hi := h.ints (by omega)
    clear h
    have hN : ∀ W : World, Ints .u64 W v l → Calls Try.prog 27 #[v, .int .i64 a] W fun e w' => e = .returned (.tuple #[.int .u64 (nextV l a), .int .i64 (nextA l a), .int .i64 (nextE l a)]) ∧ W = w' := fun W hW => next_any v l a W hW
    have hL : ∀ W : World, Ints .u64 W v l → Calls Try.prog 28 #[v, .int .i64 a] W fun e w' => e = .returned (.int .i64 (leftI l a)) ∧ W = w' := fun W hW => left_any v l a W hW ha
    have hU : ∀ W : World, Ints .u64 W v l → Calls Try.prog 29 #[v, .int .i64 a, .int .i64 b] W fun e w' => ∃ v', e = .returned v' ∧ Ints .u64 w' v' (usedL l a b) ∧ Below W.heap.size W w' := fun W hW => used_any v l a b W hW (by omega)
    by_cases hbad : a < 0 ∨ (l.length : Int) < a ∨ b < a ∨ (l.length : Int) < b
    · have hu : usedL l a b = [] := used_bad (by omega)
      rw [hu] at hU
      clear hu
      have HN := Lib.hid hN; clear hN
      have HL := Lib.hid hL; clear hL
      have HU := Lib.hid hU; clear hU
      have hc : a < 0 ∨ (¬ a < 0 ∧ (l.length : Int) < a) ∨ (¬ a < 0 ∧ ¬ (l.length : Int) < a ∧ b < a) ∨ (¬ a < 0 ∧ ¬ (l.length : Int) < a ∧ ¬ b < a ∧ (l.length : Int) < b) := by omega
      clear hbad
      by_cases h0 : a < 0
      · have e1 : nextV l a = 0 := if_pos h0
        have e2 : nextA l a = 0 := if_pos (.inl h0)
        have e3 : nextE l a = 1 := if_pos h0
        have e4 : leftI l a = 0 := if_pos h0
        rw [e1, e2, e3] at HN
        rw [e4] at HL
        clear e1 e2 e3 e4 hc
        obtain ⟨ad, c, rfl⟩ := hi.shape
        have HI := Lib.hid hi; clear hi
        go_enter Try.func7, Try.ntmps7
        go_wp2_with fail
        refine (HN.out w HI.out).mono ?_
        rintro e w1 ⟨rfl, rfl⟩
        go_wp2_with fail
        refine (HL.out w HI.out).mono ?_
        rintro e w1 ⟨rfl, rfl⟩
        go_wp2_with fail
        refine (HU.out w HI.out).mono ?_
        rintro e w1 ⟨v1, rfl, i1, b1⟩
        obtain ⟨ad1, c1, rfl⟩ := i1.shape
        have B1 := Lib.hid b1
        clear i1 b1
        go_wp2_with fail
        refine (lives06_any w1).mono ?_
        rintro e w2 ⟨rfl, b2⟩
        have B2 := Lib.hid b2
        clear b2
        go_wp2
        go_ret
        exact ⟨rfl, B1.out.trans (B2.out.mono B1.out.size)⟩
      · have hc' : ((l.length : Int) < a) ∨ (¬ (l.length : Int) < a ∧ b < a) ∨ (¬ (l.length : Int) < a ∧ ¬ b < a ∧ (l.length : Int) < b) := by omega
        clear hc
        by_cases hge : (l.length : Int) ≤ a
        · have e1 : nextV l a = 0 := by
            rw [nextV, if_neg h0, List.getD_eq_getElem?_getD, List.getElem?_eq_none (by omega)]; rfl
          have e2 : nextA l a = 0 := if_pos (.inr hge)
          have e3 : nextE l a = 60 := (if_neg h0).trans (if_pos hge)
          have e4 : leftI l a = 0 := (if_neg h0).trans (if_pos hge)
          rw [e1, e2, e3] at HN
          rw [e4] at HL
          clear e1 e2 e3 e4
          obtain ⟨ad, c, rfl⟩ := hi.shape
          have HI := Lib.hid hi; clear hi
          rcases hc' with h1 | ⟨h1, h2⟩ | ⟨h1, h2, h3⟩
          all_goals
            go_enter Try.func7, Try.ntmps7
            go_wp2_with fail
            refine (HN.out w HI.out).mono ?_
            rintro e w1 ⟨rfl, rfl⟩
            go_wp2_with fail
            refine (HL.out w HI.out).mono ?_
            rintro e w1 ⟨rfl, rfl⟩
            go_wp2_with fail
            refine (HU.out w HI.out).mono ?_
            rintro e w1 ⟨v1, rfl, i1, b1⟩
            obtain ⟨ad1, c1, rfl⟩ := i1.shape
            have B1 := Lib.hid b1
            clear i1 b1
            go_wp2_with fail
            refine (lives06_any _).mono ?_
            rintro e w2 ⟨rfl, b2⟩
            have B2 := Lib.hid b2
            clear b2
            go_wp2
            go_ret
            exact ⟨rfl, B1.out.trans (B2.out.mono B1.out.size)⟩
        · obtain ⟨i, rfl⟩ := Int.eq_ofNat_of_zero_le (show 0 ≤ a by omega)
          have hil : i < l.length := by omega
          obtain ⟨x, hx⟩ := getElem?_ex hil
          have e1 : nextV l i = x := by
            rw [nextV, if_neg h0, List.getD_eq_getElem?_getD, Int.toNat_natCast, hx]; rfl
          have e2 : nextA l i = (i : Int) + 1 := if_neg (by omega)
          have e3 : nextE l i = 0 := (if_neg h0).trans (if_neg hge)
          have e4 : leftI l i = (l.length : Int) - i := (if_neg h0).trans (if_neg hge)
          rw [e1, e2, e3] at HN
          rw [e4] at HL
          clear e1 e2 e3 e4
          have HI := Lib.hid hi
          have HX := Lib.hid hx; clear hx
          have hi' : ∀ W : World, Ints .u64 W v l → ∃ bl o c, v = .slice (some ⟨bl, o, none⟩) l.length c ∧ W.cell? ⟨bl, o + i, none⟩ = some (.int .u64 x) := by
            intro W hW
            obtain ⟨ad, c, rfl, _, _, _, h4⟩ := hW
            obtain ⟨bl, o, rfl, _, h5⟩ := h4 i x HX.out
            exact ⟨bl, o, c, rfl, h5⟩
          obtain ⟨bl, o, c, rfl, _⟩ := hi' w hi
          have hcell : ∀ W : World, Ints .u64 W (.slice (some ⟨bl, o, none⟩) l.length c) l → W.cell? ⟨bl, o + i, none⟩ = some (.int .u64 x) := by
            intro W hW
            obtain ⟨bl', o', c', e, h5⟩ := hi' W hW
            injection e with e1 e2 e3
            injection e1 with e1
            injection e1 with e1 e4
            subst e1 e4
            exact h5
          have HC := Lib.hid hcell
          clear hi' hi hcell
          have hbad2 : (b < (i : Int)) ∨ (¬ b < (i : Int) ∧ (l.length : Int) < b) := by omega
          clear hc'
          have h1 : ¬ (l.length : Int) < i := by omega
          have hwr : wrap64 ((i : Int) + 1) = (i : Int) + 1 := IntWalk.wrap64_in _ (by omega)
          have hwr2 : wrap64 ((l.length : Int) - i) = (l.length : Int) - i := IntWalk.wrap64_in _ (by omega)
          have HW := Lib.hid hwr; clear hwr
          have HW2 := Lib.hid hwr2; clear hwr2
          rcases hbad2 with h2 | ⟨h2, h3⟩
          all_goals
            go_enter Try.func7, Try.ntmps7
            go_wp2_with fail
            refine (HN.out w HI.out).mono ?_
            rintro e w1 ⟨rfl, rfl⟩
            go_wp2_with fail
            refine (HL.out w HI.out).mono ?_
            rintro e w1 ⟨rfl, rfl⟩
            go_wp2_with fail
            refine (HU.out w HI.out).mono ?_
            rintro e w1 ⟨v1, rfl, i1, b1⟩
            obtain ⟨ad1, c1, rfl⟩ := i1.shape
            have B1 := Lib.hid b1
            clear i1
            have hcw := HC.out w1 (HI.out.below b1)
            clear b1
            have hw1 := HW.out
            have hw2 := HW2.out
            go_wp2_with fail
            refine (lives06_any _).mono ?_
            rintro e w2 ⟨rfl, b2⟩
            have B2 := Lib.hid b2
            clear b2
            go_wp2
            go_ret
            exact ⟨rfl, B1.out.trans (B2.out.mono B1.out.size)⟩
    · have h0 : ¬ a < 0 := by omega
      obtain ⟨i, rfl⟩ := Int.eq_ofNat_of_zero_le (show 0 ≤ a by omega)
      obtain ⟨j, rfl⟩ := Int.eq_ofNat_of_zero_le (show 0 ≤ b by omega)
      have hij : i ≤ j := by omega
      have hjl : j ≤ l.length := by omega
      have hu : usedL l i j = (l.drop i).take (j - i) := by
        rw [usedL, if_neg (by omega)]
        simp
      rw [hu] at hU
      clear hu hbad
      have HN := Lib.hid hN; clear hN
      have HL := Lib.hid hL; clear hL
      have HU := Lib.hid hU; clear hU
      have h1 : ¬ (l.length : Int) < i := by omega
      have h2 : ¬ (j : Int) < i := by omega
      have h3 : ¬ (l.length : Int) < j := by omega
      by_cases hge : (l.length : Int) ≤ i
      · have e1 : nextV l i = 0 := by
          rw [nextV, if_neg h0, List.getD_eq_getElem?_getD, List.getElem?_eq_none (by omega)]; rfl
        have e2 : nextA l i = 0 := if_pos (.inr hge)
        have e3 : nextE l i = 60 := (if_neg h0).trans (if_pos hge)
        have e4 : leftI l i = 0 := (if_neg h0).trans (if_pos hge)
        rw [e1, e2, e3] at HN
        rw [e4] at HL
        clear e1 e2 e3 e4
        have hi' := hi
        obtain ⟨ad, c, rfl, g1, g2, g3, _⟩ := hi
        have HI := Lib.hid hi'; clear hi'
        go_enter Try.func7, Try.ntmps7
        go_wp2_with fail
        refine (HN.out w HI.out).mono ?_
        rintro e w1 ⟨rfl, rfl⟩
        go_wp2_with fail
        refine (HL.out w HI.out).mono ?_
        rintro e w1 ⟨rfl, rfl⟩
        go_wp2_with fail
        refine (HU.out w HI.out).mono ?_
        rintro e w1 ⟨v1, rfl, i1, b1⟩
        have B1 := Lib.hid b1
        have I1 := Lib.hid i1
        have HI1 := Lib.hid (HI.out.below b1)
        clear b1 i1
        go_wp2_with fail
        all_goals
          refine (same06_any v1 _ ((l.drop i).take (j - i)) ((l.drop i).take (j - i)) w1 I1.out (HI1.out.cutAt (by omega) _ (by omega) (by omega) (fun hm b o e => by first | (exfalso; omega) | (subst e; simp [Addr.add]) | (cases e; rfl)))).mono ?_
          rintro e w2 ⟨rfl, d, rfl⟩
          have hdec : decide ((l.drop i).take (j - i) = (l.drop i).take (j - i)) = true := by simp
          have HD := Lib.hid hdec
          clear hdec
          rw [HD.out]
          go_wp2_with fail
          refine (lives06_any _).mono ?_
          rintro e w2 ⟨rfl, b2⟩
          have B2 := Lib.hid b2
          clear b2
          go_wp2
          go_ret
          exact ⟨rfl, (below_drewN B1.out d).trans (B2.out.mono (below_drewN B1.out d).size)⟩
      · have hil : i < l.length := by omega
        obtain ⟨x, hx⟩ := getElem?_ex hil
        have e1 : nextV l i = x := by
          rw [nextV, if_neg h0, List.getD_eq_getElem?_getD, Int.toNat_natCast, hx]; rfl
        have e2 : nextA l i = (i : Int) + 1 := if_neg (by omega)
        have e3 : nextE l i = 0 := (if_neg h0).trans (if_neg hge)
        have e4 : leftI l i = (l.length : Int) - i := (if_neg h0).trans (if_neg hge)
        rw [e1, e2, e3] at HN
        rw [e4] at HL
        clear e1 e2 e3 e4
        have HX := Lib.hid hx; clear hx
        have hi' := hi
        obtain ⟨ad, c, rfl, g1, g2, g3, h4⟩ := hi
        obtain ⟨bl, o, rfl, _⟩ := h4 i x HX.out
        clear h4
        have hcell : ∀ W : World, Ints .u64 W (.slice (some ⟨bl, o, none⟩) l.length c) l → W.cell? ⟨bl, o + i, none⟩ = some (.int .u64 x) := by
          intro W hW
          obtain ⟨ad', c', e, _, _, _, h4⟩ := hW
          obtain ⟨bl', o', e', _, h5⟩ := h4 i x HX.out
          subst e'
          injection e with e1 e2 e3
          injection e1 with e1
          injection e1 with e1 e4
          subst e1 e4
          exact h5
        have HC := Lib.hid hcell; clear hcell
        have HI := Lib.hid hi'; clear hi'
        have hwr : wrap64 ((i : Int) + 1) = (i : Int) + 1 := IntWalk.wrap64_in _ (by omega)
        have hwr2 : wrap64 ((l.length : Int) - i) = (l.length : Int) - i := IntWalk.wrap64_in _ (by omega)
        have HW := Lib.hid hwr; clear hwr
        have HW2 := Lib.hid hwr2; clear hwr2
        go_enter Try.func7, Try.ntmps7
        go_wp2_with fail
        refine (HN.out w HI.out).mono ?_
        rintro e w1 ⟨rfl, rfl⟩
        go_wp2_with fail
        refine (HL.out w HI.out).mono ?_
        rintro e w1 ⟨rfl, rfl⟩
        go_wp2_with fail
        refine (HU.out w HI.out).mono ?_
        rintro e w1 ⟨v1, rfl, i1, b1⟩
        have B1 := Lib.hid b1
        have I1 := Lib.hid i1
        have HI1 := Lib.hid (HI.out.below b1)
        clear b1 i1
        go_wp2_with fail
        all_goals
          refine (same06_any v1 _ ((l.drop i).take (j - i)) ((l.drop i).take (j - i)) w1 I1.out (HI1.out.cutAt (by omega) _ (by omega) (by omega) (fun hm b o e => by first | (exfalso; omega) | (subst e; simp [Addr.add]) | (cases e; rfl)))).mono ?_
          rintro e w2 ⟨rfl, d, rfl⟩
          have hdec : decide ((l.drop i).take (j - i) = (l.drop i).take (j - i)) = true := by simp
          have HD := Lib.hid hdec
          clear hdec
          rw [HD.out]
          have hcw := HC.out _ (HI1.out.drewN d)
          have hw1 := HW.out
          have hw2 := HW2.out
          go_wp2_with fail
          refine (lives06_any _).mono ?_
          rintro e w2 ⟨rfl, b2⟩
          have B2 := Lib.hid b2
          clear b2
          go_wp2
          go_ret
          exact ⟨rfl, (below_drewN B1.out d).trans (B2.out.mono (below_drewN B1.out d).size)⟩
end Go.Proofs.Ytfbodloidogliaa
