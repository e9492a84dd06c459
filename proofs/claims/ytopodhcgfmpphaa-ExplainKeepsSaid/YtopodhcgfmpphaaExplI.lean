/-
  Walk of copseref16.Steps.
-/
import Derived.Test.YtopodhcgfmpphaaExplH
namespace Go.Proofs.Ytopodhcgfmpphaa
open Go.RowKit

theorem Only.drewN {b : Nat} {w w' : World} (h : Only b w w') (n : Nat) : Only b w (w'.drewN n) := ⟨below_drewN h.1 n, h.2⟩
theorem Only.set {b o : Nat} {w w' : World} (h : Only b w w') (v : Value) : Only b w (w'.setCell ⟨b, o, none⟩ v) :=
  h.trans ⟨(Below.refl _ _).setCell (by simp) _, fun q hq _ => Below.heap_setCell _ _ _ _ hq⟩

set_option maxRecDepth 100000 in
set_option maxHeartbeats 4000000 in
theorem rsteps_any (v vx : Value) (t : TreeP) (x : List Int) (w : World) (h : TreeR w v t) (hx : Ints .i64 w vx x) :
    Calls Try.prog 16 #[v, vx] w fun e w' => ∃ vo, e = .returned (.tuple #[vo, .int .i64 (pathE t x)]) ∧ Ints .i64 w' vo (if pathE t x = 0 then cntL t x else []) ∧ Below w.heap.size w w' := by
  have HTR := Lib.hid h
  have HX := Lib.hid hx
  have HAS := Lib.hid (fun W (hW : TreeR W v t) (hX : Ints .i64 W vx x) => rasked_any v vx t x W hW hX)
  have HWA := Lib.hid (fun hB hV W (hW : TreeR W v t) (hX : Ints .i64 W vx x) => rabove_any v vx t x W hW hX hB hV)
  obtain ⟨nv, rfl, ad, cc, rfl, _, _, q3, _⟩ := h
  obtain ⟨ax, cx, rfl, _⟩ := hx
  by_cases hE : pathE t x = 0
  · obtain ⟨hB, hV⟩ := pathE_zero hE
    rw [hE] at HAS ⊢
    have HW := Lib.hid (fun W hW hX => HWA.out hB hV W hW hX)
    have HSC := Lib.hid (fun n (hn : n ∈ stepL t x) => step_coef hB hn)
    obtain ⟨v1, v2, v3, v4⟩ := vecB_yes hV
    obtain ⟨s1, s6, s3⟩ := stepL_ok hB x
    have HS3 := Lib.hid s3
    have e1 : cntL t x = mixL (stepL t x) x.length (stepL t x).length 0 := by
      unfold cntL mixL cntI
      rw [show t.dim.toNat = x.length by omega]
      congr 1
      funext c
      rw [if_neg (by omega), List.take_length]
    simp only [if_true]
    rw [e1]
    obtain ⟨SL, hSL⟩ : ∃ SL, stepL t x = SL := ⟨_, rfl⟩
    rw [hSL] at HS3 HSC s1 s6 ⊢
    obtain ⟨m, hm⟩ : ∃ m, SL.length = m := ⟨_, rfl⟩
    rw [hm] at s1 s6 ⊢
    have HM := Lib.hid hm
    have HWL := Lib.hid s1
    have i6 : (m : Int) ≤ 6 := by omega
    obtain ⟨b, o, rfl⟩ := HTR.out.addr (i := 0) (by have := (treeB_true.1 hB).len; omega)
    obtain ⟨n, hn⟩ : ∃ n, t.nodes.length = n := ⟨_, rfl⟩
    rw [hn] at q3 HTR HAS HW ⊢
    have HL := Lib.hid hn
    obtain ⟨D, hD⟩ : ∃ D, t.dim = D := ⟨_, rfl⟩
    rw [hD] at HTR HAS HW HSC v2 v3 ⊢
    obtain ⟨xl, hxl⟩ : ∃ xl, x.length = xl := ⟨_, rfl⟩
    rw [hxl] at HX HAS HW v3 ⊢
    have HXL := Lib.hid hxl
    have HDX := Lib.hid v3
    have x8 : xl ≤ 8 := by omega
    have i8 : (xl : Int) ≤ 8 := by omega
    clear e1 hB hV hE HWA v1 v2 v3 v4 hSL hm hn hD hxl s1 s3
    go_enter Try.func16, Try.ntmps16
    go_wp2_with fail
    (with_reducible refine (HAS.out _ (HTR.out.below (by (repeat (first | with_reducible exact Below.refl _ _ | ((with_reducible refine Below.setCell ?_ ?_ _); rotate_left; (focus (first | omega | (simp; done) | (simp; omega)))) | ((with_reducible refine Below.alloc ?_ ?_ _); rotate_left; (focus (first | omega | (simp; done) | (simp; omega)))) | (with_reducible refine Below.drew ?_) | (with_reducible refine below_drewN ?_ _))))) (HX.out.below (by (repeat (first | with_reducible exact Below.refl _ _ | ((with_reducible refine Below.setCell ?_ ?_ _); rotate_left; (focus (first | omega | (simp; done) | (simp; omega)))) | ((with_reducible refine Below.alloc ?_ ?_ _); rotate_left; (focus (first | omega | (simp; done) | (simp; omega)))) | (with_reducible refine Below.drew ?_) | (with_reducible refine below_drewN ?_ _)))))).mono ?_); rintro e w1 ⟨rfl, b1⟩; have s1 : w.heap.size + 1 ≤ w1.heap.size := (by have := b1.size; first | omega | (simp at this; omega)); have B1 := Lib.hid (show Below w.heap.size w w1 from below_tr (by (repeat (first | with_reducible exact Below.refl _ _ | ((with_reducible refine Below.setCell ?_ ?_ _); rotate_left; (focus (first | omega | (simp; done) | (simp; omega)))) | ((with_reducible refine Below.alloc ?_ ?_ _); rotate_left; (focus (first | omega | (simp; done) | (simp; omega)))) | (with_reducible refine Below.drew ?_) | (with_reducible refine below_drewN ?_ _)))) (b1.mono (by first | omega | (simp; done) | (simp; omega)))); have c1_0 : w1.cell? ⟨w.heap.size, 0, none⟩ = some (.int .i64 D) := (b1.cell (by first | omega | (simp; done) | (simp; omega))).trans (by go_simp); have c1_1 : w1.cell? ⟨w.heap.size, 1, none⟩ = some (.slice (some ⟨b, o, none⟩) n cc) := (b1.cell (by first | omega | (simp; done) | (simp; omega))).trans (by go_simp); have l1_0 : w.heap.size < w1.heap.size := (by omega); have n1_0 : w.heap.size ≠ w1.heap.size := (by omega); have m1_0 : w1.heap.size ≠ w.heap.size := (by omega); clear b1
    go_wp2_with fail
    (with_reducible refine (HW.out _ (HTR.out.below (by (repeat (first | with_reducible exact Below.refl _ _ | ((with_reducible refine Below.setCell ?_ ?_ _); rotate_left; (focus (first | omega | (simp; done) | (simp; omega)))) | ((with_reducible refine Below.alloc ?_ ?_ _); rotate_left; (focus (first | omega | (simp; done) | (simp; omega)))) | (with_reducible refine Below.drew ?_) | (with_reducible refine below_drewN ?_ _) | ((with_reducible refine Below.trans ?_ (Below.mono B1.out ?_)); rotate_left; (focus (first | omega | (simp; done) | (simp; omega)))))))) (HX.out.below (by (repeat (first | with_reducible exact Below.refl _ _ | ((with_reducible refine Below.setCell ?_ ?_ _); rotate_left; (focus (first | omega | (simp; done) | (simp; omega)))) | ((with_reducible refine Below.alloc ?_ ?_ _); rotate_left; (focus (first | omega | (simp; done) | (simp; omega)))) | (with_reducible refine Below.drew ?_) | (with_reducible refine below_drewN ?_ _) | ((with_reducible refine Below.trans ?_ (Below.mono B1.out ?_)); rotate_left; (focus (first | omega | (simp; done) | (simp; omega))))))))).mono ?_); rintro e w2 ⟨vo, rfl, iv, b2⟩; have s2 : w1.heap.size ≤ w2.heap.size := (by have := b2.size; first | omega | (simp at this; omega)); have B2 := Lib.hid (show Below w.heap.size w w2 from below_tr (by (repeat (first | with_reducible exact Below.refl _ _ | ((with_reducible refine Below.setCell ?_ ?_ _); rotate_left; (focus (first | omega | (simp; done) | (simp; omega)))) | ((with_reducible refine Below.alloc ?_ ?_ _); rotate_left; (focus (first | omega | (simp; done) | (simp; omega)))) | (with_reducible refine Below.drew ?_) | (with_reducible refine below_drewN ?_ _) | ((with_reducible refine Below.trans ?_ (Below.mono B1.out ?_)); rotate_left; (focus (first | omega | (simp; done) | (simp; omega))))))) (b2.mono (by first | omega | (simp; done) | (simp; omega)))); have c2_0 : w2.cell? ⟨w.heap.size, 0, none⟩ = some (.int .i64 D) := (b2.cell (by first | omega | (simp; done) | (simp; omega))).trans (by go_simp); have c2_1 : w2.cell? ⟨w.heap.size, 1, none⟩ = some (.slice (some ⟨b, o, none⟩) n cc) := (b2.cell (by first | omega | (simp; done) | (simp; omega))).trans (by go_simp); have l2_0 : w.heap.size < w2.heap.size := (by omega); have n2_0 : w.heap.size ≠ w2.heap.size := (by omega); have m2_0 : w2.heap.size ≠ w.heap.size := (by omega); clear b2
    have IV := Lib.hid iv
    obtain ⟨pa, pc, rfl, _⟩ := iv
    rw [List.length_map, ← HWL.out] at IV ⊢
    go_wp2_with (at_make; go_must (refine mkfull rfl _ _ 25 rfl Try.underlying25 eiInt w2.heap.size xl (by rfl) (by rfl) HDX.out.symm HDX.out.symm (by omega) (Nat.le_refl _) ?_))
    intro w3 hown hb3 _
    rw [made_intsC] at hown
    have g0 := (hb3.cell (p := ⟨w.heap.size, 0, none⟩) (by simp; omega)).trans c2_0
    have g1 := (hb3.cell (p := ⟨w.heap.size, 1, none⟩) (by simp; omega)).trans c2_1
    have s3 := hb3.size
    have B3 := Lib.hid (show Below w.heap.size w w3 from below_tr (by (repeat (first | with_reducible exact Below.refl _ _ | ((with_reducible refine Below.setCell ?_ ?_ _); rotate_left; (focus (first | omega | (simp; done) | (simp; omega)))) | ((with_reducible refine Below.alloc ?_ ?_ _); rotate_left; (focus (first | omega | (simp; done) | (simp; omega)))) | (with_reducible refine Below.drew ?_) | (with_reducible refine below_drewN ?_ _) | ((with_reducible refine Below.trans ?_ (Below.mono B2.out ?_)); rotate_left; (focus (first | omega | (simp; done) | (simp; omega))))))) (hb3.mono (by omega)))
    have IV3 := Lib.hid (IV.out.below hb3)
    have hivb : ∀ (ad : Option Addr) (bb oo : Nat), pa = some ⟨bb, oo, none⟩ → bb < w2.heap.size := by
      intro ad bb oo e
      obtain ⟨_, _, e2, _, _, _, g⟩ := IV.out
      rw [List.length_map, ← HWL.out] at e2
      injection e2 with e2
      subst e2
      obtain ⟨j, hj⟩ := getElem?_ex (l := (wayL t x).map fun (j : Nat) => (j : Int)) (k := 0) (by rw [List.length_map, ← HWL.out]; omega)
      obtain ⟨b', o', e3, hlt, _⟩ := g 0 j hj
      rw [e] at e3
      injection e3 with e3
      injection e3 with e3
      omega
    have HIVB := Lib.hid (hivb none)
    obtain ⟨G, hG⟩ : ∃ G, w2.heap.size = G := ⟨_, rfl⟩
    rw [hG] at hown s2 s3 HIVB ⊢
    have HOWN := Lib.hid hown
    have s3' : G < w3.heap.size := (hown.lt G rfl).2
    clear hown hb3 hG hivb c1_0 c1_1 l1_0 n1_0 m1_0 c2_0 c2_1 l2_0 n2_0 m2_0
    go_wp2_with fail
    go_loopw [9, 10] (fun i _ wr => ∃ k : Nat, i = .int .i64 k ∧ k ≤ m ∧ wr.ownsRow G 3 1 (.slice (some ⟨G, 0, none⟩) xl xl) xl ((mixL SL xl k 0).map (.int .i64)) ∧ Only G w3 wr) (fun i _ _ => m - (intOf i).toNat)
    case atStart =>
      refine ⟨0, rfl, by omega, ?_, Only.refl _ _⟩
      have : mixL SL xl 0 0 = List.replicate xl 0 := by
        apply List.ext_getElem?
        intro c
        rcases Nat.lt_or_ge c xl with hc | hc
        · rw [mix_at hc, if_neg (by omega), List.getElem?_replicate, if_pos hc]; rfl
        · rw [List.getElem?_eq_none (by rw [mix_len]; exact hc), List.getElem?_eq_none (by simpa using hc)]
      rw [this]
      exact HOWN.out
    case round =>
      obtain ⟨k, rfl, hk, hown, honly⟩ := hrel
      have HOW := Lib.hid hown
      have HON := Lib.hid honly
      clear honly
      by_cases hlt : k < m
      · obtain ⟨nd, hnd⟩ := getElem?_ex (l := SL) (k := k) (by rw [HM.out]; exact hlt)
        have HND := Lib.hid hnd
        obtain ⟨h1, h2, h3, h4⟩ := HSC.out nd (List.mem_of_getElem? hnd)
        have hcl : nd.coef.length = xl := by have := HDX.out; omega
        have HCL := Lib.hid hcl
        obtain ⟨j, mm, q1, q2, q3, q4, q5, q6, q7⟩ := HS3.out k nd hnd
        have hjn : j < n := by have := (List.getElem?_eq_some_iff.1 q2).1; have := HL.out; omega
        obtain ⟨hbw, hat⟩ := HTR.out.node q2
        obtain ⟨ca, ccc, hci, e00, _⟩ := hat.val
        obtain ⟨_, _, _, _, _, _, hcv⟩ := hci
        have HCV := Lib.hid hcv
        rw [hcl] at e00
        have e0 := (B3.out.cell (p := ⟨b, o + j * 5, none⟩) hbw).trans e00
        obtain ⟨_, _, e, _, _, _, g⟩ := IV3.out
        rw [List.length_map, ← HWL.out] at e
        injection e with z1 z2 z3
        subst z1 z3
        obtain ⟨xb, xo, rfl, xlt, xc⟩ := g k (j : Int) (by rw [List.getElem?_map, q1]; rfl)
        have hxb := HIVB.out xb xo rfl
        have i1 : (0 : Int) ≤ (k : Int) := by omega
        have i2 : (k : Int) + 1 < (m : Int) + 1 := by omega
        have i3 : (0 : Int) ≤ (j : Int) := by omega
        have i4 : (j : Int) < (n : Int) := by omega
        have i5 : (k : Int) < (m : Int) + 1 := by omega
        have hb9 : b < G := by omega
        have HXC := Lib.hid xc
        have HE0 := Lib.hid e0
        clear hnd h1 h2 h3 h4 q1 q2 q3 q4 q5 q6 q7 g hat hcv e00 hcl hown e0 xc
        go_wp2_with fail
        go_loopw [10] (fun i wr => ∃ c : Nat, i = .int .i64 c ∧ c ≤ xl ∧ wr.ownsRow G 3 1 (.slice (some ⟨G, 0, none⟩) xl xl) xl ((mixL SL xl k c).map (.int .i64)) ∧ Only G w3 wr) (fun i _ => xl - (intOf i).toNat)
        case atStart => exact ⟨0, rfl, by omega, HOW.out, HON.out⟩
        case round =>
          obtain ⟨c, rfl, hc, hown, honly⟩ := hrel
          have HOW2 := Lib.hid hown
          have HON2 := Lib.hid honly
          have hszi := honly.1.size
          have t0 := (honly.cell (o := 0) (show w.heap.size ≠ G by omega) (by omega)).trans g0
          have t1 := (honly.cell (o := 1) (show w.heap.size ≠ G by omega) (by omega)).trans g1
          clear honly
          by_cases hlt2 : c < xl
          · obtain ⟨y, hy⟩ := getElem?_ex (l := nd.coef) (k := c) (by rw [HCL.out]; exact hlt2)
            obtain ⟨yb, yo, rfl, hyb, hyc0⟩ := HCV.out c y hy
            have t2 := (HON2.out.cell (o := yo + c) (show yb ≠ G by omega) (by omega)).trans ((B3.out.cell (p := ⟨yb, yo + c, none⟩) hyb).trans hyc0)
            have t3 := (HON2.out.cell (o := o + j * 5) (show b ≠ G by omega) (by omega)).trans HE0.out
            have t4 := (HON2.out.cell (o := xo + k) (show xb ≠ G by omega) (by omega)).trans HXC.out
            have HCS := Lib.hid (cnt_step HND.out hy)
            have j1 : (0 : Int) ≤ (c : Int) := by omega
            have j2 : (c : Int) < (xl : Int) := by omega
            have j3 : (c : Int) < D := by have := HDX.out; omega
            by_cases hy0 : y = 0
            · subst hy0
              have HMX := Lib.hid (mix_same (SL := SL) (k := k) hlt2 (by rw [HCS.out, if_pos rfl]; rfl))
              clear hy hyc0 hown
              go_wp2_with fail
              go_quiet (fail)
              go_wp2_with fail
              go_roundw
              case rel => exact ⟨c + 1, by go_num, by omega, by rw [← HMX.out]; exact HOW2.out, HON2.out.drewN _⟩
              case measure => simp [intOf] <;> omega
            · have cd : wr.cell? ⟨G, c, none⟩ = some (.int .i64 (cntP (SL.take k) c : Int)) := (hown.cellAt c (by omega)).trans (by rw [List.getElem?_map, mix_at hlt2, if_neg (by omega)]; rfl)
              have fd := hown.frozenAt c
              have hcb := cntP_le (SL.take k) c
              have hcb2 : (cntP (SL.take k) c : Int) ≤ 6 := by rw [List.length_take] at hcb; omega
              have HMX := Lib.hid (mix_set (SL := SL) (k := k) hlt2)
              have HCE := Lib.hid (show (cntP (SL.take (k + 1)) c : Int) = (cntP (SL.take k) c : Int) + 1 by rw [HCS.out, if_neg hy0]; rfl)
              generalize cntP (SL.take k) c = q at *
              rw [HCE.out] at HMX
              clear hy hyc0 hown hcb
              go_wp2_with fail
              go_quiet (fail)
              go_wp2_with fail
              go_roundw
              case rel =>
                refine ⟨c + 1, by go_num, by omega, ?_, (HON2.out.drewN _).set _⟩
                rw [← HMX.out, List.map_set]
                exact (HOW2.out.stored c _).1
              case measure => simp [intOf] <;> omega
          · obtain rfl : c = xl := by omega
            have j3 : D ≤ (c : Int) := by have := HDX.out; omega
            go_wp2_with fail
            go_roundw
            case rel => exact ⟨k + 1, by go_num, by omega, by rw [mix_zero]; exact HOW2.out, HON2.out⟩
            case measure => simp [intOf] <;> omega
      · obtain rfl : k = m := by omega
        have i5 := Ints.own (l := mixL SL xl k 0) hown (by rw [mix_len]; omega)
        have I5 := Lib.hid i5.2
        have hz : ¬ (k : Int) + 1 < (k : Int) + 1 := by omega
        clear hown i5
        go_wp2_with fail
        exact bodyPost_ret (v := .tuple #[.slice (some ⟨G, 0, none⟩) xl xl, .int .i64 0]) (by simp [results, Try.results16, go_sem]) rfl ⟨_, rfl, I5.out, below_tr B3.out (HON.out.1.mono (by omega))⟩
  · simp only [if_neg hE]
    obtain ⟨E, hE2⟩ : ∃ E, pathE t x = E := ⟨_, rfl⟩
    rw [hE2] at hE HAS ⊢
    have j1 : (E != 0) = true := by simp [hE]
    clear HWA hE2 hE
    generalize t.nodes.length = n at *
    generalize t.dim = D at *
    generalize x.length = m at *
    go_enter Try.func16, Try.ntmps16
    go_wp2_with fail
    (with_reducible refine (HAS.out _ (HTR.out.below (by (repeat (first | with_reducible exact Below.refl _ _ | ((with_reducible refine Below.setCell ?_ ?_ _); rotate_left; (focus (first | omega | (simp; done) | (simp; omega)))) | ((with_reducible refine Below.alloc ?_ ?_ _); rotate_left; (focus (first | omega | (simp; done) | (simp; omega)))) | (with_reducible refine Below.drew ?_) | (with_reducible refine below_drewN ?_ _))))) (HX.out.below (by (repeat (first | with_reducible exact Below.refl _ _ | ((with_reducible refine Below.setCell ?_ ?_ _); rotate_left; (focus (first | omega | (simp; done) | (simp; omega)))) | ((with_reducible refine Below.alloc ?_ ?_ _); rotate_left; (focus (first | omega | (simp; done) | (simp; omega)))) | (with_reducible refine Below.drew ?_) | (with_reducible refine below_drewN ?_ _)))))).mono ?_); rintro e w1 ⟨rfl, b1⟩; have s1 : w.heap.size + 1 ≤ w1.heap.size := (by have := b1.size; first | omega | (simp at this; omega)); have B1 := Lib.hid (show Below w.heap.size w w1 from below_tr (by (repeat (first | with_reducible exact Below.refl _ _ | ((with_reducible refine Below.setCell ?_ ?_ _); rotate_left; (focus (first | omega | (simp; done) | (simp; omega)))) | ((with_reducible refine Below.alloc ?_ ?_ _); rotate_left; (focus (first | omega | (simp; done) | (simp; omega)))) | (with_reducible refine Below.drew ?_) | (with_reducible refine below_drewN ?_ _)))) (b1.mono (by first | omega | (simp; done) | (simp; omega)))); have c1_0 : w1.cell? ⟨w.heap.size, 0, none⟩ = some (.int .i64 D) := (b1.cell (by first | omega | (simp; done) | (simp; omega))).trans (by go_simp); have c1_1 : w1.cell? ⟨w.heap.size, 1, none⟩ = some (.slice ad n cc) := (b1.cell (by first | omega | (simp; done) | (simp; omega))).trans (by go_simp); have l1_0 : w.heap.size < w1.heap.size := (by omega); have n1_0 : w.heap.size ≠ w1.heap.size := (by omega); have m1_0 : w1.heap.size ≠ w.heap.size := (by omega); clear b1
    go_wp2_with fail
    exact bodyPost_ret (v := .tuple #[.slice none 0 0, .int .i64 E]) (by simp [results, Try.results16, go_sem]) rfl ⟨_, rfl, ints_nil _ _ _ _ (by omega), by (repeat (first | with_reducible exact Below.refl _ _ | ((with_reducible refine Below.setCell ?_ ?_ _); rotate_left; (focus (first | omega | (simp; done) | (simp; omega)))) | ((with_reducible refine Below.alloc ?_ ?_ _); rotate_left; (focus (first | omega | (simp; done) | (simp; omega)))) | (with_reducible refine Below.drew ?_) | (with_reducible refine below_drewN ?_ _) | ((with_reducible refine Below.trans ?_ (Below.mono B1.out ?_)); rotate_left; (focus (first | omega | (simp; done) | (simp; omega))))))⟩
end Go.Proofs.Ytopodhcgfmpphaa
