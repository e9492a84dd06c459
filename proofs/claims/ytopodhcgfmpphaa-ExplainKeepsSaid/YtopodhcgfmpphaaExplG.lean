/-
  Walk of explain.Steps.
-/
import Derived.Test.YtopodhcgfmpphaaExplF
import Derived.Test.YtopodhcgfmpphaaPathC
namespace Go.Proofs.Ytopodhcgfmpphaa
open Go.RowKit

theorem Fresh.at {B g o n c : Nat} (h : B ≤ g) : Fresh B (.slice (some ⟨g, o, none⟩) n c) := fun a n' c' e _ => by
  injection e with e
  injection e with e
  subst e
  exact h
theorem Fresh.no (B n c : Nat) : Fresh B (.slice none n c) := fun a n' c' e _ => by
  injection e with e
  cases e

/-- The counts, behind k steps, of the next one the columns below j. -/
def mixL (SL : List NodeP) (n k j : Nat) : List Int := (List.range n).map fun c => (cntP (SL.take (if c < j then k + 1 else k)) c : Int)

theorem mix_len (SL : List NodeP) (n k j : Nat) : (mixL SL n k j).length = n := by simp [mixL]

theorem mix_at {SL : List NodeP} {n k j c : Nat} (hc : c < n) : (mixL SL n k j)[c]? = some (cntP (SL.take (if c < j then k + 1 else k)) c : Int) := by
  unfold mixL
  rw [List.getElem?_map, List.getElem?_range hc]
  rfl

theorem mix_zero (SL : List NodeP) (n k : Nat) : mixL SL n (k + 1) 0 = mixL SL n k n := by
  apply List.ext_getElem?
  intro c
  rcases Nat.lt_or_ge c n with hc | hc
  · rw [mix_at hc, mix_at hc, if_neg (by omega), if_pos hc]
  · rw [List.getElem?_eq_none (by rw [mix_len]; exact hc), List.getElem?_eq_none (by rw [mix_len]; exact hc)]

theorem mix_set {SL : List NodeP} {n k j : Nat} (hj : j < n) : (mixL SL n k j).set j (cntP (SL.take (k + 1)) j : Int) = mixL SL n k (j + 1) := by
  apply List.ext_getElem?
  intro c
  rcases Nat.lt_or_ge c n with hc | hc
  · rw [mix_at hc, List.getElem?_set]
    by_cases h : j = c
    · subst h
      rw [if_pos rfl, if_pos (by rw [mix_len]; exact hj), if_pos (by omega)]
    · rw [if_neg h, mix_at hc]
      by_cases h2 : c < j
      · rw [if_pos h2, if_pos (by omega)]
      · rw [if_neg h2, if_neg (by omega)]
  · rw [List.getElem?_eq_none (by rw [List.length_set, mix_len]; exact hc), List.getElem?_eq_none (by rw [mix_len]; exact hc)]

theorem mix_same {SL : List NodeP} {n k j : Nat} (hj : j < n) (h : cntP (SL.take (k + 1)) j = cntP (SL.take k) j) : mixL SL n k j = mixL SL n k (j + 1) := by
  rw [← mix_set hj, h]
  have := mix_at (SL := SL) (n := n) (k := k) (j := j) hj
  rw [if_neg (by omega)] at this
  rw [List.getElem?_eq_some_iff] at this
  obtain ⟨h1, h2⟩ := this
  rw [← h2, List.set_getElem_self]

theorem cnt_step {SL : List NodeP} {k c : Nat} {nd : NodeP} {y : Int} (h : SL[k]? = some nd) (hy : nd.coef[c]? = some y) : cntP (SL.take (k + 1)) c = cntP (SL.take k) c + if y = 0 then 0 else 1 := by
  rw [take_snoc' h, cntP_snoc, getD_of hy]

set_option maxRecDepth 100000 in
set_option maxHeartbeats 4000000 in
theorem esteps_any (v vx : Value) (t : TreeP) (x : List Int) (w : World) (h : TreeR w v t) (hx : Ints .i64 w vx x) :
    Calls Try.prog 15 #[v, vx] w fun e w' => ∃ vo, e = .returned (.tuple #[vo, .int .i64 (pathE t x)]) ∧ Ints .i64 w' vo (if pathE t x = 0 then cntL t x else []) ∧ Fresh w.heap.size vo ∧ Below w.heap.size w w' := by
  have HTR := Lib.hid h
  have HX := Lib.hid hx
  have HAS := Lib.hid (fun W (hW : TreeR W v t) (hX : Ints .i64 W vx x) => easked_any v vx t x W hW hX)
  have HWA := Lib.hid (fun hB hV W (hW : Below w.heap.size w W) (hX : Ints .i64 W vx x) => eway_any v vx t x w W h hW hX hB hV)
  obtain ⟨nv, rfl, ad, cc, rfl, _, _, q3, _⟩ := h
  obtain ⟨ax, cx, rfl, _⟩ := hx
  by_cases hE : pathE t x = 0
  · obtain ⟨hB, hV⟩ := pathE_zero hE
    rw [hE] at HAS ⊢
    have hw := HWA.out hB hV
    have HW := Lib.hid hw
    have HSC := Lib.hid (fun n (hn : n ∈ stepL t x) => step_coef hB hn)
    obtain ⟨v1, v2, v3, v4⟩ := vecB_yes hV
    have s6 := (stepL_ok hB x).2.1
    have e1 : cntL t x = mixL (stepL t x) x.length (stepL t x).length 0 := by
      unfold cntL mixL cntI
      rw [show t.dim.toNat = x.length by omega]
      congr 1
      funext c
      rw [if_neg (by omega), List.take_length]
    simp only [if_true]
    rw [e1]
    obtain ⟨SL, hSL⟩ : ∃ SL, stepL t x = SL := ⟨_, rfl⟩
    rw [hSL] at HW HSC s6 ⊢
    obtain ⟨m, hm⟩ : ∃ m, SL.length = m := ⟨_, rfl⟩
    rw [hm] at s6 ⊢
    have HM := Lib.hid hm
    have i6 : (m : Int) ≤ 6 := by omega
    obtain ⟨n, hn⟩ : ∃ n, t.nodes.length = n := ⟨_, rfl⟩
    rw [hn] at q3 HTR HAS HW ⊢
    obtain ⟨D, hD⟩ : ∃ D, t.dim = D := ⟨_, rfl⟩
    rw [hD] at HTR HAS HW HSC v2 v3 ⊢
    obtain ⟨xl, hxl⟩ : ∃ xl, x.length = xl := ⟨_, rfl⟩
    rw [hxl] at HX HAS HW v3 ⊢
    have HXL := Lib.hid hxl
    have HDX := Lib.hid v3
    have x8 : xl ≤ 8 := by omega
    have i8 : (xl : Int) ≤ 8 := by omega
    clear e1 hB hV hE hw HWA v1 v2 v3 v4 hSL hm hn hD hxl
    go_enter Try.func15, Try.ntmps15
    go_wp2_with fail
    (with_reducible refine (HAS.out _ (HTR.out.below (by (repeat (first | with_reducible exact Below.refl _ _ | ((with_reducible refine Below.setCell ?_ ?_ _); rotate_left; (focus (first | omega | (simp; done) | (simp; omega)))) | ((with_reducible refine Below.alloc ?_ ?_ _); rotate_left; (focus (first | omega | (simp; done) | (simp; omega)))) | (with_reducible refine Below.drew ?_) | (with_reducible refine below_drewN ?_ _))))) (HX.out.below (by (repeat (first | with_reducible exact Below.refl _ _ | ((with_reducible refine Below.setCell ?_ ?_ _); rotate_left; (focus (first | omega | (simp; done) | (simp; omega)))) | ((with_reducible refine Below.alloc ?_ ?_ _); rotate_left; (focus (first | omega | (simp; done) | (simp; omega)))) | (with_reducible refine Below.drew ?_) | (with_reducible refine below_drewN ?_ _)))))).mono ?_); rintro e w1 ⟨rfl, b1⟩; have s1 : w.heap.size + 1 ≤ w1.heap.size := (by have := b1.size; first | omega | (simp at this; omega)); have B1 := Lib.hid (show Below w.heap.size w w1 from below_tr (by (repeat (first | with_reducible exact Below.refl _ _ | ((with_reducible refine Below.setCell ?_ ?_ _); rotate_left; (focus (first | omega | (simp; done) | (simp; omega)))) | ((with_reducible refine Below.alloc ?_ ?_ _); rotate_left; (focus (first | omega | (simp; done) | (simp; omega)))) | (with_reducible refine Below.drew ?_) | (with_reducible refine below_drewN ?_ _)))) (b1.mono (by first | omega | (simp; done) | (simp; omega)))); have c1_0 : w1.cell? ⟨w.heap.size, 0, none⟩ = some (.int .i64 D) := (b1.cell (by first | omega | (simp; done) | (simp; omega))).trans (by go_simp); have c1_1 : w1.cell? ⟨w.heap.size, 1, none⟩ = some (.slice ad n cc) := (b1.cell (by first | omega | (simp; done) | (simp; omega))).trans (by go_simp); have l1_0 : w.heap.size < w1.heap.size := (by omega); have n1_0 : w.heap.size ≠ w1.heap.size := (by omega); have m1_0 : w1.heap.size ≠ w.heap.size := (by omega); clear b1
    go_wp2_with (at_make; go_must (refine mkfull rfl _ _ 25 rfl Try.underlying25 eiInt w1.heap.size xl (by rfl) (by rfl) HDX.out.symm HDX.out.symm (by omega) (Nat.le_refl _) ?_))
    intro w2 hown hb2 _
    rw [made_intsC] at hown
    have g0 := (hb2.cell (p := ⟨w.heap.size, 0, none⟩) (by simp; omega)).trans c1_0
    have g1 := (hb2.cell (p := ⟨w.heap.size, 1, none⟩) (by simp; omega)).trans c1_1
    have s2 := hb2.size
    have B2 := Lib.hid (show Below w.heap.size w w2 from below_tr (by (repeat (first | with_reducible exact Below.refl _ _ | ((with_reducible refine Below.setCell ?_ ?_ _); rotate_left; (focus (first | omega | (simp; done) | (simp; omega)))) | ((with_reducible refine Below.alloc ?_ ?_ _); rotate_left; (focus (first | omega | (simp; done) | (simp; omega)))) | (with_reducible refine Below.drew ?_) | (with_reducible refine below_drewN ?_ _) | ((with_reducible refine Below.trans ?_ (Below.mono B1.out ?_)); rotate_left; (focus (first | omega | (simp; done) | (simp; omega))))))) (hb2.mono (by omega)))
    obtain ⟨G, hG⟩ : ∃ G, w1.heap.size = G := ⟨_, rfl⟩
    rw [hG] at hown s1 s2 ⊢
    have HOWN := Lib.hid hown
    have s2' : G < w2.heap.size := (hown.lt G rfl).2
    clear hown hb2 hG c1_0 c1_1 l1_0 n1_0 m1_0
    go_wp2_with fail
    (with_reducible refine (HW.out _ B2.out (HX.out.below B2.out)).mono ?_)
    rintro e w3 ⟨vo, rfl, hst, b3⟩
    have B3 := Lib.hid (show Below w.heap.size w w3 from below_tr B2.out (b3.mono (by omega)))
    have s3 := b3.size
    have HST := Lib.hid hst
    have OWN3 := Lib.hid (own_keep HOWN.out fun g _ hg => b3.block g hg)
    obtain ⟨sa, sc, rfl, _⟩ := hst
    rw [HM.out] at HST ⊢
    clear b3
    go_wp2_with fail
    go_loopw [9, 10, 11, 25, 33] (fun _ _ _ i _ wr => ∃ k : Nat, i = .int .i64 k ∧ k ≤ m ∧ wr.ownsRow G 3 1 (.slice (some ⟨G, 0, none⟩) xl xl) xl ((mixL SL xl k 0).map (.int .i64)) ∧ StepsR w w2.heap.size wr (.slice sa m sc) x SL ∧ Below w.heap.size w wr ∧ w2.heap.size ≤ wr.heap.size) (fun _ _ _ i _ _ => m - (intOf i).toNat)
    case atStart =>
      refine ⟨0, rfl, by omega, ?_, HST.out, B3.out, s3⟩
      have : mixL SL xl 0 0 = List.replicate xl 0 := by
        apply List.ext_getElem?
        intro c
        rcases Nat.lt_or_ge c xl with hc | hc
        · rw [mix_at hc, if_neg (by omega), List.getElem?_replicate, if_pos hc]; rfl
        · rw [List.getElem?_eq_none (by rw [mix_len]; exact hc), List.getElem?_eq_none (by simpa using hc)]
      rw [this]
      exact OWN3.out
    case round =>
      obtain ⟨k, rfl, hk, hown, hst, hbr, hsz⟩ := hrel
      have HOW := Lib.hid hown
      have HSR := Lib.hid hst
      have HBR := Lib.hid hbr
      clear hst hbr
      by_cases hlt : k < m
      · obtain ⟨nd, hnd⟩ := getElem?_ex (l := SL) (k := k) (by rw [HM.out]; exact hlt)
        have HND := Lib.hid hnd
        obtain ⟨h1, h2, h3, h4⟩ := HSC.out nd (List.mem_of_getElem? hnd)
        have hcl : nd.coef.length = xl := by have := HDX.out; omega
        have HCL := Lib.hid hcl
        obtain ⟨_, _, e, _, _, g⟩ := HSR.out
        rw [HM.out] at e
        injection e with q1 q2 q3'
        subst q1 q3'
        obtain ⟨b, o, cv, rfl, ⟨hb1, hb2⟩, k0, k1, k2, hcv⟩ := g k nd hnd
        obtain ⟨ca, cc2, rfl, _, _, _, hcv⟩ := hcv
        rw [hcl] at k0
        have HCV := Lib.hid hcv
        have i1 : (0 : Int) ≤ (k : Int) := by omega
        have i2 : (k : Int) < (m : Int) := by omega
        generalize nd.at_ = AT at *
        generalize leftB nd x = LB at *
        clear hnd h1 h2 h3 h4 g hcv hown hcl
        go_wp2_with fail
        obtain ⟨W5, hW5⟩ : ∃ W5, W5 = wr.alloc (.cells #[.slice ca xl cc2, .int .i64 AT, .bool LB] 101) := ⟨_, rfl⟩
        have B5 := Lib.hid (show Below wr.heap.size wr W5 by rw [hW5]; (repeat (first | with_reducible exact Below.refl _ _ | ((with_reducible refine Below.setCell ?_ ?_ _); rotate_left; (focus (first | omega | (simp; done) | (simp; omega)))) | ((with_reducible refine Below.alloc ?_ ?_ _); rotate_left; (focus (first | omega | (simp; done) | (simp; omega)))) | (with_reducible refine Below.drew ?_) | (with_reducible refine below_drewN ?_ _))))
        have OWN5 := Lib.hid (show W5.ownsRow G _ _ _ _ _ from by rw [hW5]; exact HOW.out.alloc _)
        have s5 : wr.heap.size ≤ W5.heap.size := B5.out.size
        rw [← hW5]
        clear hW5 k0 k1 k2
        go_loopw [10, 11, 33] (fun _ _ i wr => ∃ j : Nat, i = .int .i64 j ∧ j ≤ xl ∧ wr.ownsRow G 3 1 (.slice (some ⟨G, 0, none⟩) xl xl) xl ((mixL SL xl k j).map (.int .i64)) ∧ Only G W5 wr) (fun _ _ i _ => xl - (intOf i).toNat)
        case atStart => exact ⟨0, rfl, by omega, OWN5.out, Only.refl _ _⟩
        case round =>
          obtain ⟨j, rfl, hj, hown, honly⟩ := hrel
          have HOW2 := Lib.hid hown
          have HON := Lib.hid honly
          clear honly
          have hszi := HON.out.1.size
          have HBI := Lib.hid (show Below w.heap.size w wr from below_tr HBR.out (below_tr (B5.out.mono (by omega)) (HON.out.1.mono (by omega))))
          by_cases hlt2 : j < xl
          · obtain ⟨y, hy⟩ := getElem?_ex (l := nd.coef) (k := j) (by rw [HCL.out]; exact hlt2)
            obtain ⟨yb, yo, rfl, hyb, hyc0⟩ := HCV.out j y hy
            have hyc := (HBI.out.cell (p := ⟨yb, yo + j, none⟩) hyb).trans hyc0
            have HCS := Lib.hid (cnt_step HND.out hy)
            have j1 : (0 : Int) ≤ (j : Int) := by omega
            have j2 : (j : Int) < (xl : Int) := by omega
            by_cases hy0 : y = 0
            · subst hy0
              have HMX := Lib.hid (mix_same (SL := SL) (k := k) hlt2 (by rw [HCS.out, if_pos rfl]; rfl))
              clear hy hyc0 hown
              go_wp2_with fail
              go_roundw
              case rel => exact ⟨j + 1, by go_num, by omega, by rw [← HMX.out]; exact HOW2.out, HON.out⟩
              case measure => simp [intOf] <;> omega
            · have cd : wr.cell? ⟨G, j, none⟩ = some (.int .i64 (cntP (SL.take k) j : Int)) := (hown.cellAt j (by omega)).trans (by rw [List.getElem?_map, mix_at hlt2, if_neg (by omega)]; rfl)
              have fd := hown.frozenAt j
              have hcb := cntP_le (SL.take k) j
              have hcb2 : (cntP (SL.take k) j : Int) ≤ 6 := by rw [List.length_take] at hcb; omega
              have HMX := Lib.hid (mix_set (SL := SL) (k := k) hlt2)
              have HCE := Lib.hid (show (cntP (SL.take (k + 1)) j : Int) = (cntP (SL.take k) j : Int) + 1 by rw [HCS.out, if_neg hy0]; rfl)
              generalize cntP (SL.take k) j = q at *
              rw [HCE.out] at HMX
              clear hy hyc0 hown hcb
              go_wp2_with fail
              go_roundw
              case rel =>
                refine ⟨j + 1, by go_num, by omega, ?_, HON.out.trans ⟨by (repeat (first | with_reducible exact Below.refl _ _ | ((with_reducible refine Below.setCell ?_ ?_ _); rotate_left; (focus (first | omega | (simp; done) | (simp; omega)))) | ((with_reducible refine Below.alloc ?_ ?_ _); rotate_left; (focus (first | omega | (simp; done) | (simp; omega)))) | (with_reducible refine Below.drew ?_) | (with_reducible refine below_drewN ?_ _))), fun q hq _ => Below.heap_setCell _ _ _ _ hq⟩⟩
                rw [← HMX.out, List.map_set]
                exact (HOW2.out.stored j _).1
              case measure => simp [intOf] <;> omega
          · obtain rfl : j = xl := by omega
            go_wp2_with fail
            go_roundw
            case rel =>
              exact ⟨k + 1, by go_num, by omega, by rw [mix_zero]; exact HOW2.out, HSR.out.keep (fun q h1 h2 => (HON.out.2 q (by omega) (by omega)).trans (B5.out.block q h2)) (by omega), HBI.out, by omega⟩
            case measure => simp [intOf] <;> omega
      · obtain rfl : k = m := by omega
        have i5 := Ints.own (l := mixL SL xl k 0) hown (by rw [mix_len]; omega)
        have I5 := Lib.hid i5.2
        clear hown i5
        go_wp2_with fail
        exact bodyPost_ret (v := .tuple #[.slice (some ⟨G, 0, none⟩) xl xl, .int .i64 0]) (by simp [results, Try.results15, go_sem]) rfl ⟨_, rfl, I5.out, Fresh.at (by omega), HBR.out⟩
  · simp only [if_neg hE]
    obtain ⟨E, hE2⟩ : ∃ E, pathE t x = E := ⟨_, rfl⟩
    rw [hE2] at hE HAS ⊢
    have j1 : (E != 0) = true := by simp [hE]
    clear HWA hE2 hE
    generalize t.nodes.length = n at *
    generalize t.dim = D at *
    generalize x.length = m at *
    go_enter Try.func15, Try.ntmps15
    go_wp2_with fail
    (with_reducible refine (HAS.out _ (HTR.out.below (by (repeat (first | with_reducible exact Below.refl _ _ | ((with_reducible refine Below.setCell ?_ ?_ _); rotate_left; (focus (first | omega | (simp; done) | (simp; omega)))) | ((with_reducible refine Below.alloc ?_ ?_ _); rotate_left; (focus (first | omega | (simp; done) | (simp; omega)))) | (with_reducible refine Below.drew ?_) | (with_reducible refine below_drewN ?_ _))))) (HX.out.below (by (repeat (first | with_reducible exact Below.refl _ _ | ((with_reducible refine Below.setCell ?_ ?_ _); rotate_left; (focus (first | omega | (simp; done) | (simp; omega)))) | ((with_reducible refine Below.alloc ?_ ?_ _); rotate_left; (focus (first | omega | (simp; done) | (simp; omega)))) | (with_reducible refine Below.drew ?_) | (with_reducible refine below_drewN ?_ _)))))).mono ?_); rintro e w1 ⟨rfl, b1⟩; have s1 : w.heap.size + 1 ≤ w1.heap.size := (by have := b1.size; first | omega | (simp at this; omega)); have B1 := Lib.hid (show Below w.heap.size w w1 from below_tr (by (repeat (first | with_reducible exact Below.refl _ _ | ((with_reducible refine Below.setCell ?_ ?_ _); rotate_left; (focus (first | omega | (simp; done) | (simp; omega)))) | ((with_reducible refine Below.alloc ?_ ?_ _); rotate_left; (focus (first | omega | (simp; done) | (simp; omega)))) | (with_reducible refine Below.drew ?_) | (with_reducible refine below_drewN ?_ _)))) (b1.mono (by first | omega | (simp; done) | (simp; omega)))); have c1_0 : w1.cell? ⟨w.heap.size, 0, none⟩ = some (.int .i64 D) := (b1.cell (by first | omega | (simp; done) | (simp; omega))).trans (by go_simp); have c1_1 : w1.cell? ⟨w.heap.size, 1, none⟩ = some (.slice ad n cc) := (b1.cell (by first | omega | (simp; done) | (simp; omega))).trans (by go_simp); have l1_0 : w.heap.size < w1.heap.size := (by omega); have n1_0 : w.heap.size ≠ w1.heap.size := (by omega); have m1_0 : w1.heap.size ≠ w.heap.size := (by omega); clear b1
    go_wp2_with fail
    exact bodyPost_ret (v := .tuple #[.slice none 0 0, .int .i64 E]) (by simp [results, Try.results15, go_sem]) rfl ⟨_, rfl, ints_nil _ _ _ _ (by omega), Fresh.no _ _ _, by (repeat (first | with_reducible exact Below.refl _ _ | ((with_reducible refine Below.setCell ?_ ?_ _); rotate_left; (focus (first | omega | (simp; done) | (simp; omega)))) | ((with_reducible refine Below.alloc ?_ ?_ _); rotate_left; (focus (first | omega | (simp; done) | (simp; omega)))) | (with_reducible refine Below.drew ?_) | (with_reducible refine below_drewN ?_ _) | ((with_reducible refine Below.trans ?_ (Below.mono B1.out ?_)); rotate_left; (focus (first | omega | (simp; done) | (simp; omega))))))⟩
end Go.Proofs.Ytopodhcgfmpphaa
