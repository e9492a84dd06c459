/-
  WoodG: Walk of the reference's node: a step.
-/
import Derived.Test.YtdbonlpkmncggaaJ5a
namespace Go.Proofs.Ytdbonlpkmncggaa
open Go.RowKit

set_option maxRecDepth 100000 in
set_option maxHeartbeats 16000000 in
theorem rnode_step (v : Value) (l : List Int) (hb : AllB l) (hl : l.length ≤ 100000) (d : Nat) (hd : d ≤ 8) (ht : Nat) (ih : RNodeC v l d ht) : RNodeC v l d (ht + 1) := by
  intro s hs h7 B w ov ps a hN ha hp
  obtain ⟨pn, hpn⟩ : ∃ x, ps.length = x := ⟨_, rfl⟩
  have HPN := Lib.hid hpn
  have HB := Lib.hid hb
  have IH := Lib.hid ih
  obtain ⟨va, vc, rfl⟩ := hN.vi.shape
  obtain ⟨oa, oc, rfl⟩ := own_shapeN hN.ou
  rw [hpn] at hN ⊢
  have H := Lib.hid hN
  obtain rfl : s = (ht : Int) := by omega
  have hBw : B ≤ w.heap.size := hN.hK.1
  have hpw : 2 ^ (ht + 1) = 2 * 2 ^ ht := by rw [Nat.pow_succ]; omega
  have hp1 : 1 ≤ 2 ^ ht := Nat.one_le_two_pow
  obtain ⟨pw, hpw2⟩ : ∃ x, 2 ^ ht = x := ⟨_, rfl⟩
  rw [hpw] at hp
  rw [hpw2] at hp hp1
  have HPW := Lib.hid hpw2
  rw [hpn] at hp
  obtain ⟨⟨sv, p, e⟩, h1⟩ : ∃ r, rdN' l a 0 64 = r := ⟨_, rfl⟩
  have H1 := Lib.hid h1
  have hple : p ≤ l.length := by have := rdN'_le hb ha 0 64; rw [h1] at this; exact this
  have HPP := Lib.hid hple
  have hf1 := rdN'_facts l hb a 0 64
  rw [h1] at hf1
  have HF1 := Lib.hid hf1
  have HN1 := Lib.hid (fun W hW => show Calls Try.prog 75 #[.agg #[.slice va l.length vc, .int .i64 a, .int .i64 0], .int .i64 64] W fun e' w' => e' = .returned (.tuple #[.agg #[.slice va l.length vc, .int .i64 (p : Int), .int .i64 e], .int .i64 (sv : Int)]) ∧ Below W.heap.size W w' from by
    have := rReadN_all (.slice va l.length vc) l a 0 64 W hW hb ha hl (by unfold Ok64; omega)
    rw [h1] at this
    exact this)
  have i0 : (0 : Int) ≤ (ht : Int) := by omega
  have hown := hN.ok
  have HOK := Lib.hid hown
  have VI := Lib.hid hN.vi
  clear hN ih hb hpw hpw2 hpn h1 hple hf1 hown
  go_enter Try.func77, Try.ntmps77
  go_wp2_with fail
  (with_reducible refine (HN1.out _ (VI.out.below (by (repeat (first | with_reducible exact Below.refl _ _ | with_reducible refine Bs ?_ | with_reducible refine Ba ?_ | with_reducible refine Bd ?_ | with_reducible refine Bn ?_))))).mono ?_); rintro e w1 ⟨rfl, b1⟩; have s1 : w.heap.size + 1 + 1 ≤ w1.heap.size := sz b1; have B1 := Lib.hid (Bc (B := w.heap.size) (a := w) (by (repeat (first | with_reducible exact Below.refl _ _ | with_reducible refine Bs ?_ | with_reducible refine Ba ?_ | with_reducible refine Bd ?_ | with_reducible refine Bn ?_))) b1); obtain ⟨c1_0, f1_0, c1_1, f1_1, c1_2, f1_2⟩ := k3f (w.heap.size + 1) (.slice none 0 0) (.int .i64 0) (.int .i64 0) b1 (by and_intros <;> go_simp); obtain ⟨l1_0, n1_0, m1_0⟩ := lnm (show w.heap.size + 1 < w1.heap.size by omega); clear b1
  by_cases he : e = 0
  · subst he
    by_cases hs0 : sv = 0
    · subst hs0
      have HLT := Lib.hid ((HF1.out.2 rfl).1)
      go_wp2_with fail
      go_loopw [13, 14, 15, 16] (fun cvv jv _ _ wr => ∃ (j : Nat) (acc : List Int) (p' : Nat) (e' : Int), jv = .int .i64 (j : Int) ∧ j ≤ d ∧ p' ≤ l.length ∧ rdXs l j p 0 = (acc, p', e') ∧ acc.length = j ∧ Below w.heap.size w wr ∧ wr.ownsRow (w1.heap.size + 1) 3 1 cvv acc.length (intF acc) ∧ w1.heap.size < wr.heap.size ∧ (wr.cell? ⟨w1.heap.size, 0, none⟩ = some (.slice va l.length vc) ∧ wr.frozen? ⟨w1.heap.size, 0, none⟩ = false ∧ wr.cell? ⟨w1.heap.size, 1, none⟩ = some (.int .i64 (p' : Int)) ∧ wr.frozen? ⟨w1.heap.size, 1, none⟩ = false ∧ wr.cell? ⟨w1.heap.size, 2, none⟩ = some (.int .i64 e') ∧ wr.frozen? ⟨w1.heap.size, 2, none⟩ = false) ∧ (wr.cell? ⟨w.heap.size + 1, 0, none⟩ = some (.slice none 0 0) ∧ wr.frozen? ⟨w.heap.size + 1, 0, none⟩ = false ∧ wr.cell? ⟨w.heap.size + 1, 1, none⟩ = some (.int .i64 0) ∧ wr.frozen? ⟨w.heap.size + 1, 1, none⟩ = false ∧ wr.cell? ⟨w.heap.size + 1, 2, none⟩ = some (.int .i64 0) ∧ wr.frozen? ⟨w.heap.size + 1, 2, none⟩ = false)) (fun _ jv _ _ _ => d - (intOf jv).toNat)
      case atStart => exact ⟨0, [], p, 0, rfl, by omega, HPP.out, rfl, rfl, by (repeat (first | with_reducible exact Below.refl _ _ | with_reducible refine Bs ?_ | with_reducible refine Ba ?_ | with_reducible refine Bd ?_ | with_reducible refine Bn ?_ | with_reducible refine Bt B1.out ?_)), World.ownsRow_nil _ _ _ _, by simp, by and_intros <;> go_simp, by and_intros <;> go_simp⟩
      case round =>
        obtain ⟨j, acc, p', e', rfl, hj, hp', hxs, hal, hbw, ho, hsz', ⟨c0, f0, c1, f1, c2, f2⟩, ⟨t0, g0, t1, g1, t2, g2⟩⟩ := hrel
        rename World => wi
        have HXS := Lib.hid hxs
        have HAL := Lib.hid hal
        have BI := Lib.hid hbw
        have HO := Lib.hid ho
        have yi := hbw.size
        obtain ⟨ca, cc, rfl⟩ := own_shapeN ho
        obtain ⟨⟨x, p4, e4⟩, hx⟩ : ∃ r, rdI' l p' e' = r := ⟨_, rfl⟩
        have HX := Lib.hid hx
        have HP4 := Lib.hid (show p4 ≤ l.length by have := rdI'_le HB.out hp' e'; rw [hx] at this; exact this)
        have HC := Lib.hid (fun W hW => show Calls Try.prog 103 #[.agg #[.slice va l.length vc, .int .i64 (p' : Int), .int .i64 e']] W fun e w' => e = .returned (.tuple #[.agg #[.slice va l.length vc, .int .i64 (p4 : Int), .int .i64 e4], .int .i64 x]) ∧ Below W.heap.size W w' from by
          have := rReadI_all (.slice va l.length vc) l p' e' W hW HB.out hp' hl
          rw [hx] at this
          exact this)
        clear hxs hal hbw ho hx
        by_cases hlt : j < d
        · have jj : (j : Int) < (d : Int) := by omega
          go_wp2_with fail
          (with_reducible refine (HC.out _ (VI.out.below (by (repeat (first | with_reducible exact Below.refl _ _ | with_reducible refine Bs ?_ | with_reducible refine Ba ?_ | with_reducible refine Bd ?_ | with_reducible refine Bn ?_ | with_reducible refine Bt BI.out ?_))))).mono ?_)
          rintro e w4 ⟨rfl, b4⟩
          have z4 := b4.size
          obtain ⟨c0, cf0, c1, cf1, c2, cf2⟩ := k3f (w1.heap.size) (.slice va l.length vc) (.int .i64 (p' : Int)) (.int .i64 e') b4 (by and_intros <;> first | (go_simp; done) | (repeat (first | with_reducible assumption | with_reducible refine dcell ?_ | with_reducible refine dfroz ?_ | with_reducible refine acell _ ?_ (by first | omega | (simp; omega)) | with_reducible refine afroz _ ?_ (by first | omega | (simp; omega)) | with_reducible refine scell ?_ (by first | omega | (simp; omega)) | with_reducible refine sfroz ?_ (by first | omega | (simp; omega))))) (by first | omega | (simp; done) | (simp; omega))
          obtain ⟨t0, tf0, t1, tf1, t2, tf2⟩ := k3f (w.heap.size + 1) (.slice none 0 0) (.int .i64 0) (.int .i64 0) b4 (by and_intros <;> first | (go_simp; done) | (repeat (first | with_reducible assumption | with_reducible refine dcell ?_ | with_reducible refine dfroz ?_ | with_reducible refine acell _ ?_ (by first | omega | (simp; omega)) | with_reducible refine afroz _ ?_ (by first | omega | (simp; omega)) | with_reducible refine scell ?_ (by first | omega | (simp; omega)) | with_reducible refine sfroz ?_ (by first | omega | (simp; omega))))) (by first | omega | (simp; done) | (simp; omega))
          obtain ⟨lq6, lr6, ls6⟩ := lnm (show w1.heap.size < w4.heap.size by first | omega | (simp at *; omega))
          obtain ⟨lq7, lr7, ls7⟩ := lnm (show w.heap.size + 1 < w4.heap.size by first | omega | (simp at *; omega))
          have HO4 := Lib.hid (own_keep HO.out (fun g _ hg => b4.block g hg))
          have B4 := Lib.hid (Bc (B := w.heap.size) (a := w) (by (repeat (first | with_reducible exact Below.refl _ _ | with_reducible refine Bs ?_ | with_reducible refine Ba ?_ | with_reducible refine Bd ?_ | with_reducible refine Bn ?_ | with_reducible refine Bt BI.out ?_))) b4)
          clear b4
          go_wp2_with (at_builtin; go_must (refine appI rfl _ _ rfl (w1.heap.size + 1) (by rfl) (show World.ownsRow _ (w1.heap.size + 1) 3 1 _ _ _ from by (repeat (first | with_reducible exact HO4.out | with_reducible refine own_set ?_ (by first | omega | (simp; done) | (simp; omega)) | with_reducible refine own_drew ?_ | with_reducible refine World.ownsRow.alloc ?_ _ | exact HO4.out))) (by rfl) (newIw x _ _ _ (by first | omega | (simp; done) | (simp; omega))) (by have := HAL.out; simp; omega) (by first | omega | (simp; done) | (simp; omega)) ?_))
          intro v5 w5 o5 g5 nb5
          have z5 := g5.size
          simp only [World.size_alloc, World.size_setCell] at z5
          obtain ⟨c0, cf0, c1, cf1, c2, cf2⟩ := gr3f (w1.heap.size) (.slice va l.length vc) (.int .i64 (p4 : Int)) (.int .i64 e4) g5 (by and_intros <;> first | (go_simp; done) | (repeat (first | with_reducible assumption | with_reducible refine dcell ?_ | with_reducible refine dfroz ?_ | with_reducible refine acell _ ?_ (by first | omega | (simp; omega)) | with_reducible refine afroz _ ?_ (by first | omega | (simp; omega)) | with_reducible refine scell ?_ (by first | omega | (simp; omega)) | with_reducible refine sfroz ?_ (by first | omega | (simp; omega))))) (by first | omega | (simp; done) | (simp; omega)) (fun e => by have := (HO4.out.lt _ e).1; omega)
          obtain ⟨t0, tf0, t1, tf1, t2, tf2⟩ := gr3f (w.heap.size + 1) (.slice none 0 0) (.int .i64 0) (.int .i64 0) g5 (by and_intros <;> first | (go_simp; done) | (repeat (first | with_reducible assumption | with_reducible refine dcell ?_ | with_reducible refine dfroz ?_ | with_reducible refine acell _ ?_ (by first | omega | (simp; omega)) | with_reducible refine afroz _ ?_ (by first | omega | (simp; omega)) | with_reducible refine scell ?_ (by first | omega | (simp; omega)) | with_reducible refine sfroz ?_ (by first | omega | (simp; omega))))) (by first | omega | (simp; done) | (simp; omega)) (fun e => by have := (HO4.out.lt _ e).1; omega)
          have B5 := Lib.hid (below_grown (show Below w.heap.size w _ from by (repeat (first | with_reducible exact Below.refl _ _ | with_reducible refine Bs ?_ | with_reducible refine Ba ?_ | with_reducible refine Bd ?_ | with_reducible refine Bn ?_ | with_reducible refine Bt B4.out ?_))) g5 (fun q hq => by have := (HO4.out.lt q hq).1; omega) (by first | omega | (simp; done) | (simp; omega)))
          have HO5 := Lib.hid o5
          clear o5 g5 nb5
          go_wp2_with fail
          go_roundw
          case rel => exact ⟨j + 1, acc ++ [x], p4, e4, by go_num, by omega, HP4.out, rdXs_next HXS.out HX.out, by have := HAL.out; simp; omega, B5.out, (by simpa using HO5.out), by omega, by and_intros <;> with_reducible assumption, by and_intros <;> with_reducible assumption⟩
          case measure => simp [intOf] <;> omega
        · obtain rfl : d = j := by omega
          have jj : ¬ (d : Int) < (d : Int) := by omega
          go_wp2_with fail
          (with_reducible refine (HC.out _ (VI.out.below (by (repeat (first | with_reducible exact Below.refl _ _ | with_reducible refine Bs ?_ | with_reducible refine Ba ?_ | with_reducible refine Bd ?_ | with_reducible refine Bn ?_ | with_reducible refine Bt BI.out ?_))))).mono ?_)
          rintro e w6 ⟨rfl, b6⟩
          have z6 := b6.size
          obtain ⟨t0, tf0, t1, tf1, t2, tf2⟩ := k3f (w.heap.size + 1) (.slice none 0 0) (.int .i64 0) (.int .i64 0) b6 (by and_intros <;> first | (go_simp; done) | (repeat (first | with_reducible assumption | with_reducible refine dcell ?_ | with_reducible refine dfroz ?_ | with_reducible refine acell _ ?_ (by first | omega | (simp; omega)) | with_reducible refine afroz _ ?_ (by first | omega | (simp; omega)) | with_reducible refine scell ?_ (by first | omega | (simp; omega)) | with_reducible refine sfroz ?_ (by first | omega | (simp; omega))))) (by first | omega | (simp; done) | (simp; omega))
          obtain ⟨lq1, lr1, ls1⟩ := lnm (show w.heap.size + 1 < w6.heap.size by first | omega | (simp at *; omega))
          have HO6 := Lib.hid (own_keep HO.out (fun g _ hg => b6.block g hg))
          have B6 := Lib.hid (Bc (B := w.heap.size) (a := w) (by (repeat (first | with_reducible exact Below.refl _ _ | with_reducible refine Bs ?_ | with_reducible refine Ba ?_ | with_reducible refine Bd ?_ | with_reducible refine Bn ?_ | with_reducible refine Bt BI.out ?_))) b6)
          clear b6
          by_cases he4 : e4 = 0
          · subst he4
            have hmono := rdXs_mono HB.out HPP.out HXS.out HX.out
            have je4 : ¬ ((0 : Int) != 0) = true := by simp
            go_wp2_with (at_builtin; go_must (refine app1N rfl _ _ 36 rfl Try.underlying36 eiNode B (by rfl) (H.out.later (by (repeat (first | with_reducible exact Below.refl _ _ | with_reducible refine Bs ?_ | with_reducible refine Ba ?_ | with_reducible refine Bd ?_ | with_reducible refine Bn ?_ | with_reducible refine Bt B6.out ?_)))).ou (by rfl) (by first | rfl | simp) rfl (by simp [Value.oneCell']) (by have := HPN.out; omega) (by first | omega | (simp; done) | (simp; omega)) ?_))
            intro v7 w7 o7 g7 nb7
            have z7 := g7.size
            simp only [World.size_alloc] at z7
            obtain ⟨a7, c7, rfl⟩ := own_shapeN o7
            obtain ⟨c0, cf0, c1, cf1, c2, cf2⟩ := gr3f (w6.heap.size) (.slice va l.length vc) (.int .i64 (p4 : Int)) (.int .i64 0) g7 (by and_intros <;> first | (go_simp; done) | (repeat (first | with_reducible assumption | with_reducible refine dcell ?_ | with_reducible refine dfroz ?_ | with_reducible refine acell _ ?_ (by first | omega | (simp; omega)) | with_reducible refine afroz _ ?_ (by first | omega | (simp; omega)) | with_reducible refine scell ?_ (by first | omega | (simp; omega)) | with_reducible refine sfroz ?_ (by first | omega | (simp; omega))))) (by first | omega | (simp; done) | (simp; omega)) (fun e => by have := HOK.out _ e; omega)
            obtain ⟨t0, tf0, t1, tf1, t2, tf2⟩ := gr3f (w.heap.size + 1) (.slice none 0 0) (.int .i64 0) (.int .i64 0) g7 (by and_intros <;> first | (go_simp; done) | (repeat (first | with_reducible assumption | with_reducible refine dcell ?_ | with_reducible refine dfroz ?_ | with_reducible refine acell _ ?_ (by first | omega | (simp; omega)) | with_reducible refine afroz _ ?_ (by first | omega | (simp; omega)) | with_reducible refine scell ?_ (by first | omega | (simp; omega)) | with_reducible refine sfroz ?_ (by first | omega | (simp; omega))))) (by first | omega | (simp; done) | (simp; omega)) (fun e => by have := HOK.out _ e; omega)
            obtain ⟨lq3, lr3, ls3⟩ := lnm (show w.heap.size + 1 < w7.heap.size by first | omega | (simp at *; omega))
            obtain ⟨lq4, lr4, ls4⟩ := lnm (show w6.heap.size < w7.heap.size by first | omega | (simp at *; omega))
            have HG7 := Lib.hid (show Grew w (.slice oa pn oc) w7 (.slice a7 (ps.length + 1) c7) from (Grew.ofBelow (show Below w.heap.size w _ from by (repeat (first | with_reducible exact Below.refl _ _ | with_reducible refine Bs ?_ | with_reducible refine Ba ?_ | with_reducible refine Bd ?_ | with_reducible refine Bn ?_ | with_reducible refine Bt B6.out ?_)))).trans ⟨g7, nb7⟩)
            have hbt := Betw.own HO6.out
            have HBT := Lib.hid hbt
            have HFR7 := Lib.hid (show FromB (w1.heap.size + 1) [(nodeN acc x pn, Value.slice ca acc.length cc)] from fun q hq _ g hg => by
              obtain rfl : q = (nodeN acc x pn, .slice ca acc.length cc) := by simpa using hq
              obtain ⟨o', n', c', e⟩ := hg
              exact (HBT.out g o' n' c' e).1)
            have R7 := Lib.hid ((H.out.later (show Below w.heap.size w _ from by (repeat (first | with_reducible exact Below.refl _ _ | with_reducible refine Bs ?_ | with_reducible refine Ba ?_ | with_reducible refine Bd ?_ | with_reducible refine Bn ?_ | with_reducible refine Bt B6.out ?_)))).add (n := nodeN acc x pn) (cv := .slice ca acc.length cc) ((Ints.own (HO6.out.alloc _) (by have := HAL.out; omega)).2) (fun _ g hg => by
              obtain ⟨o', n', c', e⟩ := hg
              have := HBT.out g o' n' c' e
              exact ⟨by omega, by simp; omega, fun e2 => by have := HOK.out g e2; omega⟩) (by simpa [rowN, nodeN] using o7) g7 nb7)
            have HX7 := Lib.hid (Grew.off ⟨g7, nb7⟩ (X := w.heap.size + 1) (fun e => by have := HOK.out _ e; omega) (by first | omega | (simp; done) | (simp; omega)))
            have HO7 := Lib.hid ((H.out.offK (X := w.heap.size + 1) (by omega)).app (HFR7.out.off (X := w.heap.size + 1) (by omega)))
            obtain ⟨⟨ro, p5, e5⟩, h4⟩ : ∃ r, rdB l d ht p4 = r := ⟨_, rfl⟩
            have H4 := Lib.hid h4
            have HS4 := Lib.hid (rdB_spec HB.out d ht p4 HP4.out)
            have IH7 := Lib.hid (show Calls Try.prog 77 #[.agg #[.slice va l.length vc, .int .i64 (p4 : Int), .int .i64 0], .int .i64 (d : Int), .int .i64 ((ht : Int) - 1), .slice a7 (ps.length + 1) c7] w7 fun e w' => ∃ oa' n' c', e = .returned (.tuple #[.agg #[.slice va l.length vc, .int .i64 (p5 : Int), .int .i64 e5], .slice oa' n' c']) ∧ w7.grownBy w' (Value.slice a7 (ps.length + 1) c7).ownBlock ∧ ∀ T, ro = some T → ∃ qs, n' = ((ps ++ [(nodeN acc x pn, Value.slice ca acc.length cc)]) ++ qs).length ∧ qs.map (·.1) = T.flat (ps ++ [(nodeN acc x pn, Value.slice ca acc.length cc)]).length ∧ NewB w7 (.slice a7 (ps.length + 1) c7) (.slice oa' n' c') ∧ RN B w'.heap.size (.slice va l.length vc) l w' (.slice oa' n' c') ((ps ++ [(nodeN acc x pn, Value.slice ca acc.length cc)]) ++ qs) ∧ FromB w7.heap.size qs from by
              have := IH.out ((ht : Int) - 1) (by omega) (by omega) B w7 _ _ p4 R7.out HP4.out (by have := HPN.out; have := HPW.out; simp; omega)
              rw [h4] at this
              exact this)
            clear o7 g7 nb7 hbt h4
            go_wp2_with fail
            (with_reducible refine IH7.out.mono ?_)
            rintro e w8 ⟨a8, n8, c8, rfl, g8, hr8⟩
            have z8 := g8.size
            obtain ⟨t0, tf0, t1, tf1, t2, tf2⟩ := gr3f (w.heap.size + 1) (.slice none 0 0) (.int .i64 0) (.int .i64 0) g8 (by and_intros <;> first | (go_simp; done) | (repeat (first | with_reducible assumption | with_reducible refine dcell ?_ | with_reducible refine dfroz ?_ | with_reducible refine acell _ ?_ (by first | omega | (simp; omega)) | with_reducible refine afroz _ ?_ (by first | omega | (simp; omega)) | with_reducible refine scell ?_ (by first | omega | (simp; omega)) | with_reducible refine sfroz ?_ (by first | omega | (simp; omega))))) (by first | omega | (simp; done) | (simp; omega)) HX7.out
            obtain ⟨lq5, lr5, ls5⟩ := lnm (show w.heap.size + 1 < w8.heap.size by first | omega | (simp at *; omega))
            cases ro with
            | none =>
              have he5 := ((HS4.out).1 p5 e5 H4.out).1
              have je5 : (e5 != 0) = true := by simp [he5]
              have HRD := Lib.hid (rdB_n1 (h := ht) H1.out HXS.out HX.out H4.out)
              have HG8 := Lib.hid (HG7.out.trans (⟨g8, .inl rfl⟩ : Grew w7 (.slice a7 (ps.length + 1) c7) w8 (.slice a7 (ps.length + 1) c7)))
              clear g8 hr8 he5
              go_wp2_with fail
              exact bodyPost_ret (v := .tuple #[.agg #[.slice va l.length vc, .int .i64 (p5 : Int), .int .i64 e5], .slice a8 n8 c8]) (by simp [results, Try.results77, go_sem, *]) rfl (by rw [HRD.out]; exact ⟨_, _, _, rfl, (show Grew w (.slice oa pn oc) _ (.slice a7 (ps.length + 1) c7) from by (repeat (first | exact HG8.out | refine Grew.drew ?_ | refine Grew.new ?_ _ | refine Grew.set _ _ _ (.inl (by first | omega | (simp; omega))) ?_))).gr, fun T hT => by cases hT⟩)
            | some TL =>
              obtain ⟨qL, hn8, hq8, nb8, r8, f8⟩ := hr8 TL rfl
              have he5 := ((HS4.out).2 TL p5 e5 H4.out).1
              subst he5
              have HG8 := Lib.hid (HG7.out.trans (⟨g8, nb8⟩ : Grew w7 (.slice a7 (ps.length + 1) c7) w8 (.slice a8 n8 c8)))
              have HX8 := Lib.hid (Grew.off ⟨g8, nb8⟩ HX7.out (by omega))
              have HO8 := Lib.hid (HO7.out.app (f8.off (X := w.heap.size + 1) (by omega)))
              have HF8 := Lib.hid f8
              have HQ8 := Lib.hid hq8
              have R8 := Lib.hid r8
              have hok := rdB_ok HB.out d ht p4 TL p5 0 H4.out
              have hcb := BT.cnt_bd TL ht hok.2
              have hsb := BT.siz_bd TL hok.1
              rw [HPW.out] at hcb
              have hcl : qL.length = TL.cnt := by rw [← List.length_map (f := (·.1)), hq8, BT.flat_len]
              obtain ⟨cl, hcl2⟩ : ∃ x, TL.cnt = x := ⟨_, rfl⟩
              rw [hcl2] at hcl hcb hsb
              have hlp : (ps ++ [(nodeN acc x pn, Value.slice ca acc.length cc)]).length = pn + 1 := by rw [List.length_append, HPN.out]; rfl
              have hn8' : n8 = pn + 1 + cl := by rw [hn8, List.length_append, hlp, hcl]
              have HCL := Lib.hid hcl
              have HCL2 := Lib.hid hcl2
              have HLP := Lib.hid hlp
              have HN8 := Lib.hid hn8
              have hp5 := ((HS4.out).2 TL p5 0 H4.out).2.1
              obtain ⟨⟨ro2, p6, e6⟩, h5⟩ : ∃ r, rdB l d ht p5 = r := ⟨_, rfl⟩
              have H5 := Lib.hid h5
              have HS5 := Lib.hid (rdB_spec HB.out d ht p5 hp5)
              have IH8 := Lib.hid (fun U (hU : RN B U.heap.size (.slice va l.length vc) l U (.slice a8 n8 c8) ((ps ++ [(nodeN acc x pn, Value.slice ca acc.length cc)]) ++ qL)) => show Calls Try.prog 77 #[.agg #[.slice va l.length vc, .int .i64 (p5 : Int), .int .i64 0], .int .i64 (d : Int), .int .i64 ((ht : Int) - 1), .slice a8 n8 c8] U fun e w' => ∃ oa' n' c', e = .returned (.tuple #[.agg #[.slice va l.length vc, .int .i64 (p6 : Int), .int .i64 e6], .slice oa' n' c']) ∧ U.grownBy w' (Value.slice a8 n8 c8).ownBlock ∧ ∀ T, ro2 = some T → ∃ qs, n' = (((ps ++ [(nodeN acc x pn, Value.slice ca acc.length cc)]) ++ qL) ++ qs).length ∧ qs.map (·.1) = T.flat ((ps ++ [(nodeN acc x pn, Value.slice ca acc.length cc)]) ++ qL).length ∧ NewB U (.slice a8 n8 c8) (.slice oa' n' c') ∧ RN B w'.heap.size (.slice va l.length vc) l w' (.slice oa' n' c') (((ps ++ [(nodeN acc x pn, Value.slice ca acc.length cc)]) ++ qL) ++ qs) ∧ FromB U.heap.size qs from by
                have := IH.out ((ht : Int) - 1) (by omega) (by omega) B U _ _ p5 hU hp5 (by have := HPW.out; rw [List.length_append, HLP.out, HCL.out]; omega)
                rw [h5] at this
                exact this)
              have hn8i : (n8 : Int) ≤ 1000 := by omega
              have hn8l : pn + 1 < n8 := by have := TL.cnt_pos; have := HCL2.out; omega
              clear hn8' g8 hr8 hn8 hq8 nb8 r8 f8 hok hcl hcl2 hlp h5
              go_wp2_with fail
              (with_reducible refine (IH8.out _ (RN.here (R8.out.new _))).mono ?_)
              rintro e w9 ⟨a9, n9, c9, rfl, g9, hr9⟩
              have z9 := g9.size
              simp only [World.size_alloc] at z9
              obtain ⟨t0, tf0, t1, tf1, t2, tf2⟩ := gr3f (w.heap.size + 1) (.slice none 0 0) (.int .i64 0) (.int .i64 0) g9 (by and_intros <;> first | (go_simp; done) | (repeat (first | with_reducible assumption | with_reducible refine dcell ?_ | with_reducible refine dfroz ?_ | with_reducible refine acell _ ?_ (by first | omega | (simp; omega)) | with_reducible refine afroz _ ?_ (by first | omega | (simp; omega)) | with_reducible refine scell ?_ (by first | omega | (simp; omega)) | with_reducible refine sfroz ?_ (by first | omega | (simp; omega))))) (by first | omega | (simp; done) | (simp; omega)) HX8.out
              obtain ⟨lq2, lr2, ls2⟩ := lnm (show w.heap.size + 1 < w9.heap.size by first | omega | (simp at *; omega))
              cases ro2 with
              | none =>
                have he6 := ((HS5.out).1 p6 e6 H5.out).1
                have je6 : (e6 != 0) = true := by simp [he6]
                have HRD := Lib.hid (rdB_n2 (h := ht) H1.out HXS.out HX.out H4.out H5.out)
                have HG9 := Lib.hid ((HG8.out.new _).trans (⟨g9, .inl rfl⟩ : Grew _ (.slice a8 n8 c8) w9 (.slice a8 n8 c8)))
                clear g9 hr9 he6
                go_wp2_with fail
                exact bodyPost_ret (v := .tuple #[.agg #[.slice va l.length vc, .int .i64 (p6 : Int), .int .i64 e6], .slice a9 n9 c9]) (by simp [results, Try.results77, go_sem, *]) rfl (by rw [HRD.out]; exact ⟨_, _, _, rfl, (show Grew w (.slice oa pn oc) _ (.slice a8 n8 c8) from by (repeat (first | exact HG9.out | refine Grew.drew ?_ | refine Grew.new ?_ _ | refine Grew.set _ _ _ (.inl (by first | omega | (simp; omega))) ?_))).gr, fun T hT => by cases hT⟩)
              | some TR =>
                obtain ⟨qR, hn9, hq9, nb9, r9, f9⟩ := hr9 TR rfl
                have he6 := ((HS5.out).2 TR p6 e6 H5.out).1
                subst he6
                have HG9 := Lib.hid ((HG8.out.new _).trans (⟨g9, nb9⟩ : Grew _ (.slice a8 n8 c8) w9 (.slice a9 n9 c9)))
                have HX9 := Lib.hid (Grew.off ⟨g9, nb9⟩ HX8.out (by simp; omega))
                have HO9 := Lib.hid (HO8.out.app (f9.off (X := w.heap.size + 1) (by simp; omega)))
                have HF9 := Lib.hid f9
                have HQ9 := Lib.hid hq9
                have R9 := Lib.hid r9
                have hok2 := rdB_ok HB.out d ht p5 TR p6 0 H5.out
                have hcb2 := BT.cnt_bd TR ht hok2.2
                have hsb2 := BT.siz_bd TR hok2.1
                rw [HPW.out] at hcb2
                obtain ⟨g, c9', hg, hg1, hg2⟩ := own_some2 r9.ou (by rw [List.length_append, List.length_append, HLP.out]; omega)
                injection hg with hg3 hg5 hg4
                subst hg3 hg4
                clear hg5
                have hLR : (((ps ++ [(nodeN acc x pn, Value.slice ca acc.length cc)]) ++ qL) ++ qR)[n8]? = qR[0]? := by
                  rw [show n8 = ((ps ++ [(nodeN acc x pn, Value.slice ca acc.length cc)]) ++ qL).length + 0 from HN8.out]
                  exact mid_at _ _ 0
                have hLE : ((ps ++ [(nodeN acc x pn, Value.slice ca acc.length cc)]) ++ qL) ++ qR = ps ++ (nodeN acc x pn, Value.slice ca acc.length cc) :: (qL ++ qR) := by simp
                have hLn : (((ps ++ [(nodeN acc x pn, Value.slice ca acc.length cc)]) ++ qL) ++ qR).length = n9 := hn9.symm
                obtain ⟨LL, hLL⟩ : ∃ z, ((ps ++ [(nodeN acc x pn, Value.slice ca acc.length cc)]) ++ qL) ++ qR = z := ⟨_, rfl⟩
                rw [hLL] at hLR hLE hLn r9
                have R9 := Lib.hid r9
                have HLE := Lib.hid hLE
                have HLn := Lib.hid hLn
                have hL0 : LL[pn]? = some (nodeN acc x pn, Value.slice ca acc.length cc) := by
                  have := mid_at ps ((nodeN acc x pn, Value.slice ca acc.length cc) :: (qL ++ qR)) 0
                  rw [Nat.add_zero, HPN.out, ← hLE] at this
                  exact this
                have hL1 : LL[pn + 1]? = (qL ++ qR)[0]? := by
                  have := mid_at ps ((nodeN acc x pn, Value.slice ca acc.length cc) :: (qL ++ qR)) 1
                  rw [HPN.out, ← hLE] at this
                  exact this
                rw [List.getElem?_append_left (by rw [HCL.out]; omega)] at hL1
                obtain ⟨nl, hnl, hnl2⟩ := TL.root ((ps ++ [(nodeN acc x pn, Value.slice ca acc.length cc)]).length)
                obtain ⟨pl, hpl, hpl2⟩ := map_at (show (qL.map (·.1))[0]? = some nl by rw [HQ8.out]; exact hnl)
                obtain ⟨nr, hnr, hnr2⟩ := TR.root (((ps ++ [(nodeN acc x pn, Value.slice ca acc.length cc)]) ++ qL).length)
                obtain ⟨pr, hpr, hpr2⟩ := map_at (show (qR.map (·.1))[0]? = some nr by rw [HQ9.out]; exact hnr)
                rw [hpl] at hL1
                rw [hpr] at hLR
                have hou : w9.ownsRow B 85 5 (.slice (some ⟨g, 0, none⟩) n9 c9) n9 (LL.flatMap rowN) := by
                  have h := r9.ou
                  rw [hLn] at h
                  exact h
                have hn9l : n8 < n9 := by rw [← hLn]; exact (List.getElem?_eq_some_iff.1 hLR).1
                obtain ⟨-, -, -, q3, q4⟩ := rowN_at LL pn _ hL0
                obtain ⟨-, -, -, -, u1⟩ := rowN_at _ _ _ hL1
                obtain ⟨-, -, -, -, u2⟩ := rowN_at _ _ _ hLR
                have y3 := (hou.cellAt (pn * 5 + 3) (by omega)).trans q3
                have y4 := (hou.cellAt (pn * 5 + 4) (by omega)).trans q4
                have y1 := (hou.cellAt ((pn + 1) * 5 + 4) (by omega)).trans u1
                have y2 := (hou.cellAt (n8 * 5 + 4) (by omega)).trans u2
                rw [hpl2, hnl2] at y1
                rw [hpr2, hnr2] at y2
                have hfz : ∀ o, w9.frozen? ⟨g, o, none⟩ = false := by
                  obtain ⟨_, _, _, _, hrow, _⟩ := own_rowAt hou
                  exact fun o => hrow.frozen o
                have hf3 := hfz (pn * 5 + 3)
                have hf4 := hfz (pn * 5 + 4)
                have hgX : g ≠ w.heap.size + 1 := fun e => HX9.out (by rw [e]; rfl)
                obtain ⟨sl, hsl⟩ : ∃ z, TL.siz = z := ⟨_, rfl⟩
                obtain ⟨sr, hsr⟩ : ∃ z, TR.siz = z := ⟨_, rfl⟩
                rw [hsl] at y1 hsb
                rw [hsr] at y2 hsb2
                have HSL := Lib.hid hsl
                have HSR := Lib.hid hsr
                obtain ⟨b11, b12⟩ := hsb
                obtain ⟨b21, b22⟩ := hsb2
                have b13 : sl ≤ 100000 := by omega
                have b23 : sr ≤ 100000 := by omega
                have hcr : 1 ≤ n9 := by omega
                have R10 := Lib.hid (fun K U (h : RN B K (.slice va l.length vc) l U (.slice (some ⟨g, 0, none⟩) n9 c9) LL) => h.store (qs := setRV LL pn (n8 : Int)) (k := pn * 5 + 3) (u := .int .i64 (n8 : Int)) (by unfold setRV; exact List.length_modify _ _ _) (rowN_right LL pn (n8 : Int) (by rw [HLn.out]; omega)) (fun p hp => setRV_mem hp))
                have R11 := Lib.hid (fun K U (h : RN B K (.slice va l.length vc) l U (.slice (some ⟨g, 0, none⟩) n9 c9) (setRV LL pn (n8 : Int))) => h.store (qs := setSV (setRV LL pn (n8 : Int)) pn (sl + sr)) (k := pn * 5 + 4) (u := .int .i64 (sl + sr)) (by unfold setSV; exact List.length_modify _ _ _) (rowN_size _ pn (sl + sr) (by unfold setRV; rw [List.length_modify, HLn.out]; omega)) (fun p hp => setSV_mem hp))
                have HO10 := Lib.hid (OffB.same (qs := setRV LL pn (n8 : Int)) (by have h := HO9.out; rw [hLL] at h; exact h) (fun p hp => setRV_mem hp))
                have HO11 := Lib.hid (OffB.same (qs := setSV (setRV LL pn (n8 : Int)) pn (sl + sr)) HO10.out (fun p hp => setSV_mem hp))
                have HE := Lib.hid (show setSV (setRV LL pn (n8 : Int)) pn (sl + sr) = ps ++ (({ nodeN acc x pn with right := (n8 : Int), size := sl + sr } : NodeP), Value.slice ca acc.length cc) :: (qL ++ qR) from by rw [HLE.out]; exact set_mid ps (qL ++ qR) _ _ pn HPN.out _ _)
                have HRD := Lib.hid (rdB_n3 (h := ht) H1.out HXS.out HX.out H4.out H5.out)
                have k0 : (0 : Int) ≤ (pn : Int) := by omega
                have k1 : (pn : Int) < (n9 : Int) := by omega
                have k2 : (pn : Int) + 1 < (n9 : Int) := by omega
                have k3 : (n8 : Int) < (n9 : Int) := by omega
                have k4 : (0 : Int) ≤ (n8 : Int) := by omega
                have k5 : (0 : Int) ≤ (pn : Int) + 1 := by omega
                obtain ⟨q1, hq1⟩ : ∃ q1, q1 = pn + 1 := ⟨_, rfl⟩
                rw [← hq1] at y1
                have kw : IntKind.i64.wrap ((pn : Int) + 1) = (q1 : Int) := by rw [IntKind.wrap_i64]; omega
                have kw2 : IntKind.i64.wrap (sl + sr) = sl + sr := by rw [IntKind.wrap_i64]; omega
                have k2' : (q1 : Int) < (n9 : Int) := by omega
                have k5' : (0 : Int) ≤ (q1 : Int) := by omega
                have hne1 : q1 * 5 + 4 ≠ pn * 5 + 4 := by omega
                have HQ1 := Lib.hid hq1
                clear hq1 hfz g9 hr9 hn9 hq9 nb9 r9 f9 hok2 hLR hLE hLn hLL hL0 hL1 hnl hnl2 hpl hpl2 hnr hnr2 hpr hpr2 hou q3 q4 u1 u2 hsl hsr b12 b22 hcb hcb2
                go_upto_region 26 with fail
                refine wp_region_held_drew (S := fun w' => w'.cell? ⟨g, q1 * 5 + 4, none⟩ = some (.int .i64 sl) ∧ w'.cell? ⟨g, n8 * 5 + 4, none⟩ = some (.int .i64 sr)) (by kernel_rfl) ?_ (fun hHeld => ?_); (focus (first | with_reducible exact True.intro | ((try dsimp only); and_intros <;> first | (go_simp; done) | (go_keep; done)))); (refine lexTk 0 (v := ?_) rfl hHeld ?_ (by kernel_rfl) (fun _ _ _ h => h) ?_ ?_; rotate_left 2; (focus rfl); (focus (intro w hSw; (try dsimp only at hSw); first | (go_simp; done) | (go_simp; with_reducible rfl)))); (try simp only [Act.put, List.setIfInBounds_toArray, List.set_cons_zero, List.set_cons_succ]); (refine lexTk 1 (v := ?_) rfl hHeld ?_ (by kernel_rfl) (fun _ _ _ h => h) ?_ ?_; rotate_left 2; (focus rfl); (focus (intro w hSw; (try dsimp only at hSw); first | (go_simp; done) | (go_simp; with_reducible rfl)))); (try simp only [Act.put, List.setIfInBounds_toArray, List.set_cons_zero, List.set_cons_succ]); (refine lexTk 2 (v := ?_) rfl hHeld ?_ (by kernel_rfl) (fun _ _ _ h => h) ?_ ?_; rotate_left 2; (focus rfl); (focus (intro w hSw; (try dsimp only at hSw); first | (go_simp; done) | (go_simp; with_reducible rfl)))); (try simp only [Act.put, List.setIfInBounds_toArray, List.set_cons_zero, List.set_cons_succ]); (refine lexTk 3 (v := ?_) rfl hHeld ?_ (by kernel_rfl) (fun _ _ _ h => h) ?_ ?_; rotate_left 2; (focus rfl); (focus (intro w hSw; (try dsimp only at hSw); first | (go_simp; done) | (go_simp; with_reducible rfl)))); (try simp only [Act.put, List.setIfInBounds_toArray, List.set_cons_zero, List.set_cons_succ]); (refine lexTk 4 (v := ?_) rfl hHeld ?_ (by kernel_rfl) (fun _ _ _ h => h) ?_ ?_; rotate_left 2; (focus rfl); (focus (intro w hSw; (try dsimp only at hSw); first | (go_simp; done) | (go_simp; with_reducible rfl)))); (try simp only [Act.put, List.setIfInBounds_toArray, List.set_cons_zero, List.set_cons_succ]); (refine lexTk 5 (v := ?_) rfl hHeld ?_ (by kernel_rfl) (fun _ _ _ h => h) ?_ ?_; rotate_left 2; (focus rfl); (focus (intro w hSw; (try dsimp only at hSw); first | (go_simp; done) | (go_simp; with_reducible rfl)))); (try simp only [Act.put, List.setIfInBounds_toArray, List.set_cons_zero, List.set_cons_succ]); (refine lexTk 6 (v := ?_) rfl hHeld ?_ (by kernel_rfl) (fun _ _ _ h => h) ?_ ?_; rotate_left 2; (focus rfl); (focus (intro w hSw; (try dsimp only at hSw); first | (go_simp; done) | (go_simp; with_reducible rfl)))); (try simp only [Act.put, List.setIfInBounds_toArray, List.set_cons_zero, List.set_cons_succ]); (refine lexTk 7 (v := ?_) rfl hHeld ?_ (by kernel_rfl) (fun _ _ _ h => h) ?_ ?_; rotate_left 2; (focus rfl); (focus (intro w hSw; (try dsimp only at hSw); first | (go_simp; done) | (go_simp; with_reducible rfl)))); (try simp only [Act.put, List.setIfInBounds_toArray, List.set_cons_zero, List.set_cons_succ]); (refine lexTk 8 (v := ?_) rfl hHeld ?_ (by kernel_rfl) (fun _ _ _ h => h) ?_ ?_; rotate_left 2; (focus rfl); (focus (intro w hSw; (try dsimp only at hSw); first | (go_simp; done) | (go_simp; with_reducible rfl)))); (try simp only [Act.put, List.setIfInBounds_toArray, List.set_cons_zero, List.set_cons_succ]); (refine lexTk 9 (v := ?_) rfl hHeld ?_ (by kernel_rfl) (fun _ _ _ h => h) ?_ ?_; rotate_left 2; (focus rfl); (focus (intro w hSw; (try dsimp only at hSw); first | (go_simp; done) | (go_simp; with_reducible rfl)))); (try simp only [Act.put, List.setIfInBounds_toArray, List.set_cons_zero, List.set_cons_succ]); (refine lexTk 10 (v := ?_) rfl hHeld ?_ (by kernel_rfl) (fun _ _ _ h => h) ?_ ?_; rotate_left 2; (focus rfl); (focus (intro w hSw; (try dsimp only at hSw); first | (go_simp; done) | (go_simp; with_reducible rfl)))); (try simp only [Act.put, List.setIfInBounds_toArray, List.set_cons_zero, List.set_cons_succ]); (refine lexTk 11 (v := ?_) rfl hHeld ?_ (by kernel_rfl) (fun _ _ _ h => h) ?_ ?_; rotate_left 2; (focus rfl); (focus (intro w hSw; (try dsimp only at hSw); first | (go_simp; done) | (go_simp; with_reducible rfl)))); (try simp only [Act.put, List.setIfInBounds_toArray, List.set_cons_zero, List.set_cons_succ]); (refine lexTk 12 (v := ?_) rfl hHeld ?_ (by kernel_rfl) (fun _ _ _ h => h) ?_ ?_; rotate_left 2; (focus rfl); (focus (intro w hSw; (try dsimp only at hSw); first | (go_simp; done) | (go_simp; with_reducible rfl)))); (try simp only [Act.put, List.setIfInBounds_toArray, List.set_cons_zero, List.set_cons_succ]); (refine lexTk 13 (v := ?_) rfl hHeld ?_ (by kernel_rfl) (fun _ _ _ h => h) ?_ ?_; rotate_left 2; (focus rfl); (focus (intro w hSw; (try dsimp only at hSw); first | (go_simp; done) | (go_simp; with_reducible rfl)))); (try simp only [Act.put, List.setIfInBounds_toArray, List.set_cons_zero, List.set_cons_succ]); (refine lexTk 14 (v := ?_) rfl hHeld ?_ (by kernel_rfl) (fun _ _ _ h => h) ?_ ?_; rotate_left 2; (focus rfl); (focus (intro w hSw; (try dsimp only at hSw); first | (go_simp; done) | (go_simp; with_reducible rfl)))); (try simp only [Act.put, List.setIfInBounds_toArray, List.set_cons_zero, List.set_cons_succ]); (refine lexTk 15 (v := ?_) rfl hHeld ?_ (by kernel_rfl) (fun _ _ _ h => h) ?_ ?_; rotate_left 2; (focus rfl); (focus (intro w hSw; (try dsimp only at hSw); first | (go_simp; done) | (go_simp; with_reducible rfl)))); (try simp only [Act.put, List.setIfInBounds_toArray, List.set_cons_zero, List.set_cons_succ]); refine lexHv 16 rfl ?_ (by kernel_rfl); (intro K hK); (go_simp); refine hK.out _ _ ?_ ?_; (focus (first | with_reducible exact True.intro | ((try dsimp only); and_intros <;> first | (go_simp; done) | (go_keep; done)))); (clear hHeld hK K); (intro hHeld); (try simp only [Act.put]); refine wpAnyH_done (by kernel_rfl) ?_ _
                go_wp2_with fail
                have HMAP := Lib.hid (show ((({ nodeN acc x pn with right := (n8 : Int), size := sl + sr } : NodeP), Value.slice ca acc.length cc) :: (qL ++ qR)).map (·.1) = (BT.node acc x TL TR).flat ps.length from by
                  have e8 : n8 = pn + 1 + cl := by rw [HN8.out, List.length_append, HLP.out, HCL.out]
                  have q8 := HQ8.out
                  rw [HLP.out] at q8
                  have q9 := HQ9.out
                  rw [List.length_append, HLP.out, HCL.out] at q9
                  rw [List.map_cons, List.map_append, q8, q9, HPN.out]
                  show _ = (⟨acc, x, (pn : Int) + 1, ((pn + 1 + TL.cnt : Nat) : Int), TL.siz + TR.siz⟩ : NodeP) :: (TL.flat (pn + 1) ++ TR.flat (pn + 1 + TL.cnt))
                  rw [HCL2.out, HSL.out, HSR.out, e8]
                  rfl)
                have HLEN := Lib.hid (show n9 = (ps ++ (({ nodeN acc x pn with right := (n8 : Int), size := sl + sr } : NodeP), Value.slice ca acc.length cc) :: (qL ++ qR)).length from by
                  rw [← HE.out]
                  unfold setSV setRV
                  rw [List.length_modify, List.length_modify, HLn.out])
                have HFRM := Lib.hid (show FromB w.heap.size ([(({ nodeN acc x pn with right := (n8 : Int), size := sl + sr } : NodeP), Value.slice ca acc.length cc)] ++ (qL ++ qR)) from FromB.app (fun p hp hc g' hg' => by
                  obtain rfl : p = _ := by simpa using hp
                  have := HFR7.out (nodeN acc x pn, .slice ca acc.length cc) (by simp) hc g' hg'
                  omega) (FromB.app (HF8.out.low (by omega)) (HF9.out.low (by simp; omega))))
                exact bodyPost_ret (v := .tuple #[.agg #[.slice va l.length vc, .int .i64 (p6 : Int), .int .i64 0], .slice (some ⟨g, 0, none⟩) n9 c9]) (by simp [results, Try.results77, go_sem, *]) rfl (by rw [HRD.out]; exact ⟨_, _, _, rfl, (show Grew w (.slice oa pn oc) _ (.slice (some ⟨g, 0, none⟩) n9 c9) from by (repeat (first | with_reducible exact HG9.out | with_reducible refine Grew.drew ?_ | with_reducible refine Grew.new ?_ _ | with_reducible refine Grew.set _ _ _ (.inr rfl) ?_ | refine Grew.set _ _ _ (.inl (by first | omega | (simp; omega))) ?_))).gr, fun T hT => by injection hT with hT; subst hT; exact ⟨_, HLEN.out, HMAP.out, (show Grew w (.slice oa pn oc) _ (.slice (some ⟨g, 0, none⟩) n9 c9) from by (repeat (first | with_reducible exact HG9.out | with_reducible refine Grew.drew ?_ | with_reducible refine Grew.new ?_ _ | with_reducible refine Grew.set _ _ _ (.inr rfl) ?_ | refine Grew.set _ _ _ (.inl (by first | omega | (simp; omega))) ?_))).nb, (RN.here (K := w9.heap.size) (by rw [← HE.out]; (repeat (first | with_reducible exact R9.out | with_reducible refine RN.drew ?_ | with_reducible refine RN.new ?_ _ | with_reducible refine R11.out _ _ ?_ | with_reducible refine R10.out _ _ ?_ | refine RN.setX _ _ _ (by first | omega | (simp; omega)) (fun e => by injection e with e; exact hgX e) HO11.out ?_)))), HFRM.out⟩⟩)
          · have je4 : (e4 != 0) = true := by simp [he4]
            have HRD := Lib.hid (rdB_n0 (h := ht) H1.out HXS.out HX.out he4)
            clear he4
            go_wp2_with fail
            exact bodyPost_ret (v := .tuple #[.agg #[.slice va l.length vc, .int .i64 (p4 : Int), .int .i64 e4], .slice oa pn oc]) (by simp [results, Try.results77, go_sem, *]) rfl (by rw [HRD.out]; exact ⟨_, _, _, rfl, (Grew.ofBelow (by (repeat (first | with_reducible exact Below.refl _ _ | with_reducible refine Bs ?_ | with_reducible refine Ba ?_ | with_reducible refine Bd ?_ | with_reducible refine Bn ?_ | with_reducible refine Bt B6.out ?_)))).gr, fun T hT => by cases hT⟩)
    · have je : ¬ ((0 : Int) != 0) = true := by simp
      have js : (0 : Int) < (sv : Int) := by omega
      have HRD := Lib.hid (rdB_leaf (d := d) (h := ht) H1.out hs0)
      clear hs0
      go_wp2_with fail
      refine wp_region_held_drew (S := fun w' => w'.cell? ⟨w1.heap.size, 0, none⟩ = some (.slice va l.length vc) ∧ w'.cell? ⟨w1.heap.size, 1, none⟩ = some (.int .i64 (p : Int)) ∧ w'.cell? ⟨w1.heap.size, 2, none⟩ = some (.int .i64 0)) (by kernel_rfl) ?_ (fun hHeld => ?_); (focus (first | with_reducible exact True.intro | ((try dsimp only); and_intros <;> first | (go_simp; done) | (go_keep; done)))); (refine lexTk 0 (v := ?_) rfl hHeld ?_ (by kernel_rfl) (fun _ _ _ h => h) ?_ ?_; rotate_left 2; (focus rfl); (focus (intro w hSw; (try dsimp only at hSw); first | (go_simp; done) | (go_simp; with_reducible rfl)))); (try simp only [Act.put, List.setIfInBounds_toArray, List.set_cons_zero, List.set_cons_succ]); (refine lexTk 1 (v := ?_) rfl hHeld ?_ (by kernel_rfl) (fun _ _ _ h => h) ?_ ?_; rotate_left 2; (focus rfl); (focus (intro w hSw; (try dsimp only at hSw); first | (go_simp; done) | (go_simp; with_reducible rfl)))); (try simp only [Act.put, List.setIfInBounds_toArray, List.set_cons_zero, List.set_cons_succ]); (refine lexTk 2 (v := ?_) rfl hHeld ?_ (by kernel_rfl) (fun _ _ _ h => h) ?_ ?_; rotate_left 2; (focus rfl); (focus (intro w hSw; (try dsimp only at hSw); first | (go_simp; done) | (go_simp; with_reducible rfl)))); (try simp only [Act.put, List.setIfInBounds_toArray, List.set_cons_zero, List.set_cons_succ]); (refine lexTk 3 (v := ?_) rfl hHeld ?_ (by kernel_rfl) (fun _ _ _ h => h) ?_ ?_; rotate_left 2; (focus rfl); (focus (intro w hSw; (try dsimp only at hSw); first | (go_simp; done) | (go_simp; with_reducible rfl)))); (try simp only [Act.put, List.setIfInBounds_toArray, List.set_cons_zero, List.set_cons_succ]); refine lexHv 4 rfl ?_ (by kernel_rfl); (intro K hK); (go_simp); refine hK.out _ _ ?_ ?_; (focus (first | with_reducible exact True.intro | ((try dsimp only); and_intros <;> first | (go_simp; done) | (go_keep; done)))); (clear hHeld hK K); (intro hHeld); (try simp only [Act.put, List.setIfInBounds_toArray, List.set_cons_zero, List.set_cons_succ]); refine lexHv 5 rfl ?_ (by kernel_rfl); (intro K hK); ((refine appS_step rfl _ _ 36 rfl Try.underlying36 eiNode B (by rfl) (H.out.later (by (repeat (first | with_reducible exact Below.refl _ _ | with_reducible refine Bs ?_ | with_reducible refine Ba ?_ | with_reducible refine Bd ?_ | with_reducible refine Bn ?_ | with_reducible refine Bt B1.out ?_)))).ou (by rfl) (ys := [.slice none 0 0, .int .i64 0, .int .i64 0, .int .i64 0, .int .i64 (sv : Int)]) rfl (new5d _ _ _ _ _ _ _ _ (by first | omega | (simp; done) | (simp; omega))) (by simp [Value.oneCell']) (by have := HPN.out; omega) (by first | omega | (simp; done) | (simp; omega)) ?_); (intro v5 w5 o5 g5 nb5); (have z5 := g5.size); (simp only [World.size_alloc, World.size_drew] at z5); (obtain ⟨a5, c5, rfl⟩ := own_shapeN o5); (obtain ⟨t0, tf0, t1, tf1, t2, tf2⟩ := gr3f (w.heap.size + 1) (.slice none 0 0) (.int .i64 0) (.int .i64 0) g5 (by and_intros <;> first | (go_simp; done) | (repeat (first | with_reducible assumption | with_reducible refine dcell ?_ | with_reducible refine dfroz ?_ | with_reducible refine acell _ ?_ (by first | omega | (simp; omega)) | with_reducible refine afroz _ ?_ (by first | omega | (simp; omega)) | with_reducible refine scell ?_ (by first | omega | (simp; omega)) | with_reducible refine sfroz ?_ (by first | omega | (simp; omega))))) (by first | omega | (simp; done) | (simp; omega)) (fun e => by have := HOK.out _ e; omega)); (obtain ⟨u0, uf0, u1, uf1, u2, uf2⟩ := gr3f (w1.heap.size) (.slice va l.length vc) (.int .i64 (p : Int)) (.int .i64 0) g5 (by and_intros <;> first | (go_simp; done) | (repeat (first | with_reducible assumption | with_reducible refine dcell ?_ | with_reducible refine dfroz ?_ | with_reducible refine acell _ ?_ (by first | omega | (simp; omega)) | with_reducible refine afroz _ ?_ (by first | omega | (simp; omega)) | with_reducible refine scell ?_ (by first | omega | (simp; omega)) | with_reducible refine sfroz ?_ (by first | omega | (simp; omega))))) (by first | omega | (simp; done) | (simp; omega)) (fun e => by have := HOK.out _ e; omega)); (have HG5 := Lib.hid (show Grew w (.slice oa pn oc) w5 (.slice a5 (ps.length + 1) c5) from (Grew.ofBelow (show Below w.heap.size w _ from by (repeat (first | with_reducible exact Below.refl _ _ | with_reducible refine Bs ?_ | with_reducible refine Ba ?_ | with_reducible refine Bd ?_ | with_reducible refine Bn ?_ | with_reducible refine Bt B1.out ?_)))).trans ⟨g5, nb5⟩)); (have R5 := Lib.hid ((H.out.later (show Below w.heap.size w _ from by (repeat (first | with_reducible exact Below.refl _ _ | with_reducible refine Bs ?_ | with_reducible refine Ba ?_ | with_reducible refine Bd ?_ | with_reducible refine Bn ?_ | with_reducible refine Bt B1.out ?_)))).add (n := leafN sv) (cv := .slice none 0 0) (ints_nil _ _ _ _ (by omega)) (fun h => absurd rfl h) (by simpa [rowN, leafN] using o5) g5 nb5)); (have HX5 := Lib.hid (Grew.off ⟨g5, nb5⟩ (X := w.heap.size + 1) (fun e => by have := HOK.out _ e; omega) (by first | omega | (simp; done) | (simp; omega)))); (have HO5 := Lib.hid ((H.out.offK (X := w.heap.size + 1) (by omega)).app (leaf_off _ sv (.slice none 0 0)))); (clear o5 g5 nb5)); refine hK.out _ _ ?_ ?_; (focus (first | with_reducible exact True.intro | ((try dsimp only); and_intros <;> first | (go_simp; done) | (go_keep; done)))); (clear hHeld hK K); (intro hHeld); (try simp only [Act.put, List.setIfInBounds_toArray, List.set_cons_zero, List.set_cons_succ]); refine lexHv 6 rfl ?_ (by kernel_rfl); (intro K hK); (go_simp); refine hK.out _ _ ?_ ?_; (focus (first | with_reducible exact True.intro | ((try dsimp only); and_intros <;> first | (go_simp; done) | (go_keep; done)))); (clear hHeld hK K); (intro hHeld); (try simp only [Act.put]); (refine lexTk 7 (v := ?_) rfl hHeld ?_ (by kernel_rfl) (fun _ _ _ h => h) ?_ ?_; rotate_left 2; (focus rfl); (focus (intro w hSw; (try dsimp only at hSw); first | (go_simp; done) | (go_simp; with_reducible rfl)))); (try simp only [Act.put, List.setIfInBounds_toArray, List.set_cons_zero, List.set_cons_succ]); refine wpAnyH_done (by kernel_rfl) ?_ _
      go_wp2_with fail
      exact bodyPost_ret (v := .tuple #[.agg #[.slice va l.length vc, .int .i64 (p : Int), .int .i64 0], .slice a5 (ps.length + 1) c5]) (by simp [results, Try.results77, go_sem, *]) rfl (by rw [HRD.out]; exact ⟨_, _, _, rfl, (show Grew w (.slice oa pn oc) _ (.slice a5 (ps.length + 1) c5) from by (repeat (first | exact HG5.out | refine Grew.drew ?_ | refine Grew.new ?_ _ | refine Grew.set _ _ _ (.inl (by first | omega | (simp; omega))) ?_))).gr, fun T hT => by injection hT with hT; subst hT; exact ⟨[(leafN sv, .slice none 0 0)], by simp, rfl, (show Grew w (.slice oa pn oc) _ (.slice a5 (ps.length + 1) c5) from by (repeat (first | exact HG5.out | refine Grew.drew ?_ | refine Grew.new ?_ _ | refine Grew.set _ _ _ (.inl (by first | omega | (simp; omega))) ?_))).nb, (RN.here (K := w5.heap.size) (by (repeat (first | exact R5.out | refine RN.drew ?_ | refine RN.new ?_ _ | refine RN.setX _ _ _ (by first | omega | (simp; omega)) HX5.out HO5.out ?_)))), leaf_from _ _ _⟩⟩)
  · have je : (e != 0) = true := by simp [he]
    have HRD := Lib.hid (rdB_bad (d := d) (h := ht) H1.out he)
    have hs0 := (HF1.out.1 he).1
    subst hs0
    clear he
    go_wp2_with fail
    refine wp_region_held_drew (S := fun w' => w'.cell? ⟨w1.heap.size, 0, none⟩ = some (.slice va l.length vc) ∧ w'.cell? ⟨w1.heap.size, 1, none⟩ = some (.int .i64 (p : Int)) ∧ w'.cell? ⟨w1.heap.size, 2, none⟩ = some (.int .i64 e)) (by kernel_rfl) ?_ (fun hHeld => ?_); (focus (first | with_reducible exact True.intro | ((try dsimp only); and_intros <;> first | (go_simp; done) | (go_keep; done)))); (refine lexTk 0 (v := ?_) rfl hHeld ?_ (by kernel_rfl) (fun _ _ _ h => h) ?_ ?_; rotate_left 2; (focus rfl); (focus (intro w hSw; (try dsimp only at hSw); first | (go_simp; done) | (go_simp; with_reducible rfl)))); (try simp only [Act.put, List.setIfInBounds_toArray, List.set_cons_zero, List.set_cons_succ]); (refine lexTk 1 (v := ?_) rfl hHeld ?_ (by kernel_rfl) (fun _ _ _ h => h) ?_ ?_; rotate_left 2; (focus rfl); (focus (intro w hSw; (try dsimp only at hSw); first | (go_simp; done) | (go_simp; with_reducible rfl)))); (try simp only [Act.put, List.setIfInBounds_toArray, List.set_cons_zero, List.set_cons_succ]); (refine lexTk 2 (v := ?_) rfl hHeld ?_ (by kernel_rfl) (fun _ _ _ h => h) ?_ ?_; rotate_left 2; (focus rfl); (focus (intro w hSw; (try dsimp only at hSw); first | (go_simp; done) | (go_simp; with_reducible rfl)))); (try simp only [Act.put, List.setIfInBounds_toArray, List.set_cons_zero, List.set_cons_succ]); (refine lexTk 3 (v := ?_) rfl hHeld ?_ (by kernel_rfl) (fun _ _ _ h => h) ?_ ?_; rotate_left 2; (focus rfl); (focus (intro w hSw; (try dsimp only at hSw); first | (go_simp; done) | (go_simp; with_reducible rfl)))); (try simp only [Act.put, List.setIfInBounds_toArray, List.set_cons_zero, List.set_cons_succ]); refine lexHv 4 rfl ?_ (by kernel_rfl); (intro K hK); (go_simp); refine hK.out _ _ ?_ ?_; (focus (first | with_reducible exact True.intro | ((try dsimp only); and_intros <;> first | (go_simp; done) | (go_keep; done)))); (clear hHeld hK K); (intro hHeld); (try simp only [Act.put, List.setIfInBounds_toArray, List.set_cons_zero, List.set_cons_succ]); refine lexHv 5 rfl ?_ (by kernel_rfl); (intro K hK); ((refine appS_step rfl _ _ 36 rfl Try.underlying36 eiNode B (by rfl) (H.out.later (by (repeat (first | with_reducible exact Below.refl _ _ | with_reducible refine Bs ?_ | with_reducible refine Ba ?_ | with_reducible refine Bd ?_ | with_reducible refine Bn ?_ | with_reducible refine Bt B1.out ?_)))).ou (by rfl) (ys := [.slice none 0 0, .int .i64 0, .int .i64 0, .int .i64 0, .int .i64 (0 : Int)]) rfl (new5d _ _ _ _ _ _ _ _ (by first | omega | (simp; done) | (simp; omega))) (by simp [Value.oneCell']) (by have := HPN.out; omega) (by first | omega | (simp; done) | (simp; omega)) ?_); (intro v5 w5 o5 g5 nb5); (have z5 := g5.size); (simp only [World.size_alloc, World.size_drew] at z5); (obtain ⟨a5, c5, rfl⟩ := own_shapeN o5); (obtain ⟨t0, tf0, t1, tf1, t2, tf2⟩ := gr3f (w.heap.size + 1) (.slice none 0 0) (.int .i64 0) (.int .i64 0) g5 (by and_intros <;> first | (go_simp; done) | (repeat (first | with_reducible assumption | with_reducible refine dcell ?_ | with_reducible refine dfroz ?_ | with_reducible refine acell _ ?_ (by first | omega | (simp; omega)) | with_reducible refine afroz _ ?_ (by first | omega | (simp; omega)) | with_reducible refine scell ?_ (by first | omega | (simp; omega)) | with_reducible refine sfroz ?_ (by first | omega | (simp; omega))))) (by first | omega | (simp; done) | (simp; omega)) (fun e => by have := HOK.out _ e; omega)); (obtain ⟨u0, uf0, u1, uf1, u2, uf2⟩ := gr3f (w1.heap.size) (.slice va l.length vc) (.int .i64 (p : Int)) (.int .i64 e) g5 (by and_intros <;> first | (go_simp; done) | (repeat (first | with_reducible assumption | with_reducible refine dcell ?_ | with_reducible refine dfroz ?_ | with_reducible refine acell _ ?_ (by first | omega | (simp; omega)) | with_reducible refine afroz _ ?_ (by first | omega | (simp; omega)) | with_reducible refine scell ?_ (by first | omega | (simp; omega)) | with_reducible refine sfroz ?_ (by first | omega | (simp; omega))))) (by first | omega | (simp; done) | (simp; omega)) (fun e => by have := HOK.out _ e; omega)); (have HG5 := Lib.hid (show Grew w (.slice oa pn oc) w5 (.slice a5 (ps.length + 1) c5) from (Grew.ofBelow (show Below w.heap.size w _ from by (repeat (first | with_reducible exact Below.refl _ _ | with_reducible refine Bs ?_ | with_reducible refine Ba ?_ | with_reducible refine Bd ?_ | with_reducible refine Bn ?_ | with_reducible refine Bt B1.out ?_)))).trans ⟨g5, nb5⟩)); (have R5 := Lib.hid ((H.out.later (show Below w.heap.size w _ from by (repeat (first | with_reducible exact Below.refl _ _ | with_reducible refine Bs ?_ | with_reducible refine Ba ?_ | with_reducible refine Bd ?_ | with_reducible refine Bn ?_ | with_reducible refine Bt B1.out ?_)))).add (n := leafN 0) (cv := .slice none 0 0) (ints_nil _ _ _ _ (by omega)) (fun h => absurd rfl h) (by simpa [rowN, leafN] using o5) g5 nb5)); (have HX5 := Lib.hid (Grew.off ⟨g5, nb5⟩ (X := w.heap.size + 1) (fun e => by have := HOK.out _ e; omega) (by first | omega | (simp; done) | (simp; omega)))); (have HO5 := Lib.hid ((H.out.offK (X := w.heap.size + 1) (by omega)).app (leaf_off _ 0 (.slice none 0 0)))); (clear o5 g5 nb5)); refine hK.out _ _ ?_ ?_; (focus (first | with_reducible exact True.intro | ((try dsimp only); and_intros <;> first | (go_simp; done) | (go_keep; done)))); (clear hHeld hK K); (intro hHeld); (try simp only [Act.put, List.setIfInBounds_toArray, List.set_cons_zero, List.set_cons_succ]); refine lexHv 6 rfl ?_ (by kernel_rfl); (intro K hK); (go_simp); refine hK.out _ _ ?_ ?_; (focus (first | with_reducible exact True.intro | ((try dsimp only); and_intros <;> first | (go_simp; done) | (go_keep; done)))); (clear hHeld hK K); (intro hHeld); (try simp only [Act.put]); (refine lexTk 7 (v := ?_) rfl hHeld ?_ (by kernel_rfl) (fun _ _ _ h => h) ?_ ?_; rotate_left 2; (focus rfl); (focus (intro w hSw; (try dsimp only at hSw); first | (go_simp; done) | (go_simp; with_reducible rfl)))); (try simp only [Act.put, List.setIfInBounds_toArray, List.set_cons_zero, List.set_cons_succ]); refine wpAnyH_done (by kernel_rfl) ?_ _
    go_wp2_with fail
    exact bodyPost_ret (v := .tuple #[.agg #[.slice va l.length vc, .int .i64 (p : Int), .int .i64 e], .slice a5 (ps.length + 1) c5]) (by simp [results, Try.results77, go_sem, *]) rfl (by rw [HRD.out]; exact ⟨_, _, _, rfl, (show Grew w (.slice oa pn oc) _ (.slice a5 (ps.length + 1) c5) from by (repeat (first | exact HG5.out | refine Grew.drew ?_ | refine Grew.new ?_ _ | refine Grew.set _ _ _ (.inl (by first | omega | (simp; omega))) ?_))).gr, fun T hT => by cases hT⟩)
end Go.Proofs.Ytdbonlpkmncggaa
