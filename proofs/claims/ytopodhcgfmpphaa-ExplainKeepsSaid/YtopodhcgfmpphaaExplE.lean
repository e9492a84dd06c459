/-
  Walks of layer 16: the room of a column in a tree.
-/
import Derived.Test.YtopodhcgfmpphaaExplD
namespace Go.Proofs.Ytopodhcgfmpphaa
open Go.RowKit

theorem roomF_step {x : List Int} {c k : Nat} {l : List NodeP} {n : NodeP} (h : l[k]? = some n) : roomF x c (l.take (k + 1)) = narrowP x c (roomF x c (l.take k)) n := by
  unfold roomF
  rw [take_snoc' h, List.foldl_append]
  rfl

set_option maxRecDepth 100000 in
set_option maxHeartbeats 4000000 in
theorem roomOf_any (v vx : Value) (t : TreeP) (x : List Int) (c : Nat) (w : World) (h : TreeR w v t) (hx : Ints .i64 w vx x) (hB : treeB t = true) (hV : vecB x t.dim = true) (hc : c < x.length) :
    Calls Try.prog 68 #[v, vx, .int .i64 (c : Int)] w fun e w' => e = .returned (.agg #[.int .i64 (roomP t x c).1, .int .i64 (roomP t x c).2]) ∧ Below w.heap.size w w' := by
  have HTR := Lib.hid h
  have HX := Lib.hid hx
  have HW := Lib.hid (fun W (hW : Below w.heap.size w W) (hX : Ints .i64 W vx x) => eway_any v vx t x w W h hW hX hB hV)
  have HSC := Lib.hid (fun n (hn : n ∈ stepL t x) => step_coef hB hn)
  obtain ⟨v1, v2, v3, v4⟩ := vecB_yes hV
  have HV4 := Lib.hid v4
  have h8 : x.length ≤ 8 := by omega
  have HDM := Lib.hid v3
  have s6 := (stepL_ok hB x).2.1
  have e1 : roomP t x c = roomF x c (stepL t x) := rfl
  rw [e1]
  obtain ⟨nv, rfl, ad, cc, rfl, _, _, q3, _⟩ := h
  obtain ⟨ax, cx, rfl, _⟩ := hx
  obtain ⟨SL, hSL⟩ : ∃ SL, stepL t x = SL := ⟨_, rfl⟩
  rw [hSL] at HW HSC s6 ⊢
  obtain ⟨m, hm⟩ : ∃ m, SL.length = m := ⟨_, rfl⟩
  rw [hm] at s6
  have HM := Lib.hid hm
  have i6 : (m : Int) ≤ 6 := by omega
  obtain ⟨n, hn⟩ : ∃ n, t.nodes.length = n := ⟨_, rfl⟩
  rw [hn] at q3 HTR HW ⊢
  obtain ⟨D, hD⟩ : ∃ D, t.dim = D := ⟨_, rfl⟩
  rw [hD] at HTR HW HSC HDM ⊢
  obtain ⟨xl, hxl⟩ : ∃ xl, x.length = xl := ⟨_, rfl⟩
  rw [hxl] at HX HW h8 HDM hc ⊢
  have HXL := Lib.hid hxl
  clear e1 hB hV v1 v2 v3 v4 hSL hm hn hD hxl
  go_enter Try.func68, Try.ntmps68
  go_wp2_with fail
  (with_reducible refine (all0_any _).mono ?_); rintro e w1 ⟨rfl, b1⟩; have s1 : w.heap.size + 2 ≤ w1.heap.size := (by have := b1.size; first | omega | (simp at this; omega)); have B1 := Lib.hid (show Below w.heap.size w w1 from below_tr (by (repeat (first | with_reducible exact Below.refl _ _ | ((with_reducible refine Below.setCell ?_ ?_ _); rotate_left; (focus (first | omega | (simp; done) | (simp; omega)))) | ((with_reducible refine Below.alloc ?_ ?_ _); rotate_left; (focus (first | omega | (simp; done) | (simp; omega)))) | (with_reducible refine Below.drew ?_) | (with_reducible refine below_drewN ?_ _)))) (b1.mono (by first | omega | (simp; done) | (simp; omega)))); have c1_0 : w1.cell? ⟨w.heap.size, 0, none⟩ = some (.int .i64 D) := (b1.cell (by first | omega | (simp; done) | (simp; omega))).trans (by go_simp); have c1_1 : w1.cell? ⟨w.heap.size, 1, none⟩ = some (.slice ad n cc) := (b1.cell (by first | omega | (simp; done) | (simp; omega))).trans (by go_simp); have c1_2 : w1.cell? ⟨w.heap.size + 1, 0, none⟩ = some (.int .i64 0) := (b1.cell (by first | omega | (simp; done) | (simp; omega))).trans (by go_simp); have f1_2 : w1.frozen? ⟨w.heap.size + 1, 0, none⟩ = false := (b1.frozen (by first | omega | (simp; done) | (simp; omega))).trans (by go_simp); have c1_3 : w1.cell? ⟨w.heap.size + 1, 1, none⟩ = some (.int .i64 0) := (b1.cell (by first | omega | (simp; done) | (simp; omega))).trans (by go_simp); have f1_3 : w1.frozen? ⟨w.heap.size + 1, 1, none⟩ = false := (b1.frozen (by first | omega | (simp; done) | (simp; omega))).trans (by go_simp); have l1_0 : w.heap.size < w1.heap.size := (by omega); have n1_0 : w.heap.size ≠ w1.heap.size := (by omega); have m1_0 : w1.heap.size ≠ w.heap.size := (by omega); have l1_1 : w.heap.size + 1 < w1.heap.size := (by omega); have n1_1 : w.heap.size + 1 ≠ w1.heap.size := (by omega); have m1_1 : w1.heap.size ≠ w.heap.size + 1 := (by omega); clear b1
  go_wp2_with fail
  (with_reducible refine (HW.out _ (by (repeat (first | with_reducible exact Below.refl _ _ | ((with_reducible refine Below.setCell ?_ ?_ _); rotate_left; (focus (first | omega | (simp; done) | (simp; omega)))) | ((with_reducible refine Below.alloc ?_ ?_ _); rotate_left; (focus (first | omega | (simp; done) | (simp; omega)))) | (with_reducible refine Below.drew ?_) | (with_reducible refine below_drewN ?_ _) | ((with_reducible refine Below.trans ?_ (Below.mono B1.out ?_)); rotate_left; (focus (first | omega | (simp; done) | (simp; omega))))))) (HX.out.below (by (repeat (first | with_reducible exact Below.refl _ _ | ((with_reducible refine Below.setCell ?_ ?_ _); rotate_left; (focus (first | omega | (simp; done) | (simp; omega)))) | ((with_reducible refine Below.alloc ?_ ?_ _); rotate_left; (focus (first | omega | (simp; done) | (simp; omega)))) | (with_reducible refine Below.drew ?_) | (with_reducible refine below_drewN ?_ _) | ((with_reducible refine Below.trans ?_ (Below.mono B1.out ?_)); rotate_left; (focus (first | omega | (simp; done) | (simp; omega))))))))).mono ?_)
  rintro e w2 ⟨vo, rfl, hst, b2⟩
  have B2 := Lib.hid (show Below w.heap.size w w2 from below_tr (by (repeat (first | with_reducible exact Below.refl _ _ | ((with_reducible refine Below.setCell ?_ ?_ _); rotate_left; (focus (first | omega | (simp; done) | (simp; omega)))) | ((with_reducible refine Below.alloc ?_ ?_ _); rotate_left; (focus (first | omega | (simp; done) | (simp; omega)))) | (with_reducible refine Below.drew ?_) | (with_reducible refine below_drewN ?_ _) | ((with_reducible refine Below.trans ?_ (Below.mono B1.out ?_)); rotate_left; (focus (first | omega | (simp; done) | (simp; omega))))))) (b2.mono (by simp; omega)))
  have s2 : w1.heap.size + 1 ≤ w2.heap.size := by have := b2.size; simpa using this
  have HST := Lib.hid (show StepsR w (w1.heap.size + 1) w2 vo x SL by rw [World.size_alloc] at hst; exact hst)
  have R2 := Lib.hid (show RoomAt w2 w1.heap.size 0 all0 from ⟨by omega, (b2.cell (by simp)).trans (by go_simp; rfl), (b2.cell (by simp)).trans (by go_simp; rfl), (b2.frozen (by simp)).trans (by go_simp), (b2.frozen (by simp)).trans (by go_simp)⟩)
  have c0 : w2.cell? ⟨w.heap.size + 1, 0, none⟩ = some (.int .i64 0) := (b2.cell (by simp; omega)).trans (by go_simp)
  have c1 : w2.cell? ⟨w.heap.size + 1, 1, none⟩ = some (.int .i64 0) := (b2.cell (by simp; omega)).trans (by go_simp)
  have g0 : w2.frozen? ⟨w.heap.size + 1, 0, none⟩ = false := (b2.frozen (by simp; omega)).trans (by go_simp)
  have g1 : w2.frozen? ⟨w.heap.size + 1, 1, none⟩ = false := (b2.frozen (by simp; omega)).trans (by go_simp)
  obtain ⟨sa, sc, rfl, _⟩ := hst
  rw [HM.out] at HST ⊢
  obtain ⟨G, hG⟩ : ∃ G, w1.heap.size = G := ⟨_, rfl⟩
  rw [hG] at HST R2 s2 s1 ⊢
  clear b2 hG c1_0 c1_1 c1_2 c1_3 f1_2 f1_3 l1_0 l1_1 n1_0 n1_1 m1_0 m1_1
  go_wp2_with fail
  go_loopw [9, 15] (fun _ i wr => ∃ k : Nat, i = .int .i64 k ∧ k ≤ m ∧ RoomAt wr G 0 (roomF x c (SL.take k)) ∧ StepsR w (G + 1) wr (.slice sa m sc) x SL ∧ Below w.heap.size w wr ∧ G + 1 ≤ wr.heap.size ∧
      wr.cell? ⟨w.heap.size + 1, 0, none⟩ = some (.int .i64 0) ∧ wr.cell? ⟨w.heap.size + 1, 1, none⟩ = some (.int .i64 0) ∧ wr.frozen? ⟨w.heap.size + 1, 0, none⟩ = false ∧ wr.frozen? ⟨w.heap.size + 1, 1, none⟩ = false) (fun _ i _ => m - (intOf i).toNat)
  case atStart => exact ⟨0, rfl, by omega, R2.out, HST.out, B2.out, s2, c0, c1, g0, g1⟩
  case round =>
    obtain ⟨k, rfl, hk, hroom, hst, hbr, hsz, y0, y1, z0, z1⟩ := hrel
    have HRO := Lib.hid hroom
    have HSR := Lib.hid hst
    have HBR := Lib.hid hbr
    have hne : w.heap.size + 1 ≠ G := by omega
    clear hroom hst hbr c0 c1 g0 g1
    by_cases hlt : k < m
    · obtain ⟨nd, hnd⟩ := getElem?_ex (l := SL) (k := k) (by rw [HM.out]; exact hlt)
      have HND := Lib.hid hnd
      obtain ⟨h1, h2, h3, h4⟩ := HSC.out nd (List.mem_of_getElem? hnd)
      obtain ⟨_, _, e, _, _, g⟩ := HSR.out
      rw [HM.out] at e
      injection e with q1 q2 q3'
      subst q1 q3'
      obtain ⟨b, o, cv, rfl, ⟨hb1, hb2⟩, k0, k1, k2, hcv⟩ := g k nd hnd
      have HCV := Lib.hid hcv
      obtain ⟨ca, cc2, rfl⟩ := hcv.shape
      have HNA := Lib.hid (fun W hR hn hx => narrow_any G 0 c (roomF x c (SL.take k)) nd (.slice ca nd.coef.length cc2) (.slice ax xl cx) x W hR hn hx (by have := HDM.out; have := HXL.out; omega) (by rw [HXL.out]; exact h8) h2 HV4.out h3 h4 (by rw [HXL.out]; exact hc))
      have HRS := Lib.hid (roomF_step (x := x) (c := c) hnd)
      have i1 : (0 : Int) ≤ (k : Int) := by omega
      have i2 : (k : Int) < (m : Int) := by omega
      generalize nd.at_ = AT at *
      generalize leftB nd x = LB at *
      generalize narrowP x c (roomF x c (SL.take k)) nd = NR at *
      clear hnd h1 h2 h3 h4 g hcv
      go_wp2_with fail
      obtain ⟨W5, hW5⟩ : ∃ W5, W5 = wr.alloc (.cells #[.slice ca nd.coef.length cc2, .int .i64 AT, .bool LB] 101) := ⟨_, rfl⟩
      have B5 := Lib.hid (show Below wr.heap.size wr W5 by rw [hW5]; (repeat (first | with_reducible exact Below.refl _ _ | ((with_reducible refine Below.setCell ?_ ?_ _); rotate_left; (focus (first | omega | (simp; done) | (simp; omega)))) | ((with_reducible refine Below.alloc ?_ ?_ _); rotate_left; (focus (first | omega | (simp; done) | (simp; omega)))) | (with_reducible refine Below.drew ?_) | (with_reducible refine below_drewN ?_ _))))
      rw [← hW5]
      (with_reducible refine (HNA.out W5 (HRO.out.below B5.out) (HCV.out.below (below_tr HBR.out (B5.out.mono (by omega)))) (HX.out.below (below_tr HBR.out (B5.out.mono (by omega))))).mono ?_)
      rintro e w6 ⟨⟨r, rfl⟩, hr6, ho6⟩
      have O6 := Lib.hid (show Only G wr w6 from (Only.of B5.out (by omega)).trans ho6)
      have HR6 := Lib.hid hr6
      have s6 := O6.out.1.size
      have a0 := (O6.out.cell (o := 0) hne (by omega)).trans y0
      have a1 := (O6.out.cell (o := 1) hne (by omega)).trans y1
      have a2 := (O6.out.frozen (o := 0) hne (by omega)).trans z0
      have a3 := (O6.out.frozen (o := 1) hne (by omega)).trans z1
      clear hr6 ho6 hW5
      go_wp2_with fail
      go_roundw
      case rel => exact ⟨k + 1, by go_num, by omega, by rw [HRS.out]; exact HR6.out, HSR.out.keep (fun q h1 h2 => O6.out.2 q (by omega) h2) s6, below_tr HBR.out (O6.out.1.mono (by omega)), by omega, a0, a1, a2, a3⟩
      case measure => simp [intOf] <;> omega
    · obtain rfl : k = m := by omega
      obtain ⟨r1, r2, r3, _, _⟩ := HRO.out
      rw [List.take_of_length_le (by rw [HM.out]; exact Nat.le_refl _)] at r2 r3
      go_wp2_with fail
      exact bodyPost_ret (v := .agg #[.int .i64 (roomF x c SL).fst, .int .i64 (roomF x c SL).snd]) (by simp [results, Try.results68, go_sem, y0, y1]) rfl ⟨rfl, by (repeat (first | with_reducible exact Below.refl _ _ | ((with_reducible refine Below.setCell ?_ ?_ _); rotate_left; (focus (first | omega | (simp; done) | (simp; omega)))) | ((with_reducible refine Below.alloc ?_ ?_ _); rotate_left; (focus (first | omega | (simp; done) | (simp; omega)))) | (with_reducible refine Below.drew ?_) | (with_reducible refine below_drewN ?_ _) | ((with_reducible refine Below.trans ?_ (Below.mono HBR.out ?_)); rotate_left; (focus (first | omega | (simp; done) | (simp; omega))))))⟩
end Go.Proofs.Ytopodhcgfmpphaa
