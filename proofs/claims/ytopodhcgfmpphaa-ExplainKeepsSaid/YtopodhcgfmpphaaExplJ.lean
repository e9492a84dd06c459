/-
  Walk of copseref16.edge.
-/
import Derived.Test.YtopodhcgfmpphaaExplI
import Derived.Test.YtopodhcgfmpphaaSame01
namespace Go.Proofs.Ytopodhcgfmpphaa
open Go.RowKit

theorem map_nat_eq {l l' : List Nat} : (l.map (fun (j : Nat) => (j : Int)) = l'.map (fun (j : Nat) => (j : Int))) ↔ l = l' :=
  ⟨fun h => List.map_inj_right (fun _ _ h => Int.ofNat_inj.1 h) |>.1 h, fun h => by rw [h]⟩

theorem room_same {t : TreeP} (h : treeB t = true) {x : List Int} (hx : vecB x t.dim = true) {c : Nat} (hc : c < x.length) {v : Int} (h1 : -2147483648 ≤ v) (h2 : v ≤ 2147483647) :
    decide ((wayL t x).map (fun (j : Nat) => (j : Int)) = (wayL t (x.set c v)).map (fun (j : Nat) => (j : Int))) = decide ((roomP t x c).1 ≤ v ∧ v ≤ (roomP t x c).2) := by
  have := room_in h hx hc v
  rw [decide_eq_decide, map_nat_eq, this]
  exact ⟨fun h => ⟨⟨h1, h2⟩, h⟩, fun h => h.2⟩

theorem mid_bd {g b : Int} (h : 1 < g - b ∨ 1 < b - g) : (b < (g + b).tdiv 2 ∧ (g + b).tdiv 2 < g) ∨ (g < (g + b).tdiv 2 ∧ (g + b).tdiv 2 < b) := by
  obtain ⟨t1, t2, _⟩ := div_tell (g + b) 2 (by decide)
  have h2 := tmod_bd (a := g + b) (b := 2) (by decide)
  by_cases hs : 0 ≤ (g + b).tmod 2
  · have := t1 hs; omega
  · have := t2 (by omega) (by decide); omega

/-- bad lies beyond the room, towards the end. -/
def Far (e lo hi b : Int) : Prop := (e < 0 ∧ b < lo) ∨ (0 ≤ e ∧ hi < b)

set_option maxRecDepth 100000 in
set_option maxHeartbeats 4000000 in
theorem redge_any (v vx : Value) (t : TreeP) (x : List Int) (c : Nat) (en : Int) (w : World) (h : TreeR w v t) (hx : Ints .i64 w vx x) (hB : treeB t = true) (hV : vecB x t.dim = true) (hc : c < x.length) (he : en = -2147483648 ∨ en = 2147483647) :
    Calls Try.prog 69 #[v, vx, .int .i64 (c : Int), .int .i64 en] w fun e w' => e = .returned (.int .i64 (if en < 0 then (roomP t x c).1 else (roomP t x c).2)) ∧ Below w.heap.size w w' := by
  have HTR := Lib.hid h
  have HX := Lib.hid hx
  have hlen := (vecB_yes hV).2.2.1
  have hd8 := (vecB_yes hV).2.1
  have HWA := Lib.hid (fun W (hW : TreeR W v t) (hX : Ints .i64 W vx x) => rabove_any v vx t x W hW hX hB hV)
  have HWI := Lib.hid (fun z W (hX : Ints .i64 W vx x) => rwith_any vx x c z W hX hc (by omega))
  have HWB := Lib.hid (fun z vo W (hW : TreeR W v t) (hX : Ints .i64 W vo (x.set c z)) h1 h2 => rabove_any v vo t (x.set c z) W hW hX hB (vec_set hV c h1 h2))
  have HSA := Lib.hid (fun z (h1 : -2147483648 ≤ z) (h2 : z ≤ 2147483647) va vb W ha hb => room_same hB hV hc h1 h2 ▸ same_any va vb _ ((wayL t (x.set c z)).map (fun (j : Nat) => (j : Int))) W ha hb)
  have HBD := Lib.hid (room_bd t x c)
  have HSF := Lib.hid (room_self hB hV hc)
  have hva := vec_at hV hc
  obtain ⟨nv, rfl, ad, cc, rfl, _, _, q3, _⟩ := h
  obtain ⟨ax, cx, rfl, _, _, _, hxc⟩ := hx
  obtain ⟨g0, hg0⟩ := getElem?_ex hc
  obtain ⟨xb, xo, rfl, xlt, xcell⟩ := hxc c g0 hg0
  rw [getD_of hg0] at HSF hva
  obtain ⟨lo, hlo⟩ : ∃ lo, (roomP t x c).1 = lo := ⟨_, rfl⟩
  obtain ⟨hi, hhi⟩ : ∃ hi, (roomP t x c).2 = hi := ⟨_, rfl⟩
  rw [hlo, hhi] at HBD HSF
  simp only [hlo, hhi] at HSA
  rw [hlo, hhi]
  obtain ⟨RV, hRV⟩ : ∃ RV, (if en < 0 then lo else hi) = RV := ⟨_, rfl⟩
  rw [hRV]
  have HRV := Lib.hid hRV
  obtain ⟨n, hn⟩ : ∃ n, t.nodes.length = n := ⟨_, rfl⟩
  rw [hn] at q3 HTR HWA HWB ⊢
  obtain ⟨D, hD⟩ : ∃ D, t.dim = D := ⟨_, rfl⟩
  rw [hD] at HTR HWA HWB ⊢
  obtain ⟨xl, hxl⟩ : ∃ xl, x.length = xl := ⟨_, rfl⟩
  rw [hxl] at HX HWA HWI hc ⊢
  have i1 : (0 : Int) ≤ (c : Int) := by omega
  have i2 : (c : Int) < (xl : Int) := by omega
  have e1 : -2147483648 ≤ en := by omega
  have e2 : en ≤ 2147483647 := by omega
  have xn : xb ≠ w.heap.size := by omega
  have hs0 := HSA.out en e1 e2
  obtain ⟨S0, hS0⟩ : ∃ S0, decide (lo ≤ en ∧ en ≤ hi) = S0 := ⟨_, rfl⟩
  rw [hS0] at hs0
  have HS0 := Lib.hid hs0
  have HSB := Lib.hid hS0
  clear hB hV hlen hd8 hxc hg0 hlo hhi hRV hn hD hxl hs0 hS0
  go_enter Try.func69, Try.ntmps69
  go_wp2_with fail
  (with_reducible refine (HWA.out _ (HTR.out.below (by (repeat (first | with_reducible exact Below.refl _ _ | ((with_reducible refine Below.setCell ?_ ?_ _); rotate_left; (focus (first | omega | (simp; done) | (simp; omega)))) | ((with_reducible refine Below.alloc ?_ ?_ _); rotate_left; (focus (first | omega | (simp; done) | (simp; omega)))) | (with_reducible refine Below.drew ?_) | (with_reducible refine below_drewN ?_ _))))) (HX.out.below (by (repeat (first | with_reducible exact Below.refl _ _ | ((with_reducible refine Below.setCell ?_ ?_ _); rotate_left; (focus (first | omega | (simp; done) | (simp; omega)))) | ((with_reducible refine Below.alloc ?_ ?_ _); rotate_left; (focus (first | omega | (simp; done) | (simp; omega)))) | (with_reducible refine Below.drew ?_) | (with_reducible refine below_drewN ?_ _)))))).mono ?_); rintro e w1 ⟨vw, rfl, iw, b1⟩; have s1 : w.heap.size + 1 ≤ w1.heap.size := (by have := b1.size; first | omega | (simp at this; omega)); have B1 := Lib.hid (show Below w.heap.size w w1 from below_tr (by (repeat (first | with_reducible exact Below.refl _ _ | ((with_reducible refine Below.setCell ?_ ?_ _); rotate_left; (focus (first | omega | (simp; done) | (simp; omega)))) | ((with_reducible refine Below.alloc ?_ ?_ _); rotate_left; (focus (first | omega | (simp; done) | (simp; omega)))) | (with_reducible refine Below.drew ?_) | (with_reducible refine below_drewN ?_ _)))) (b1.mono (by first | omega | (simp; done) | (simp; omega)))); have c1_0 : w1.cell? ⟨w.heap.size, 0, none⟩ = some (.int .i64 D) := (b1.cell (by first | omega | (simp; done) | (simp; omega))).trans (by go_simp); have c1_1 : w1.cell? ⟨w.heap.size, 1, none⟩ = some (.slice ad n cc) := (b1.cell (by first | omega | (simp; done) | (simp; omega))).trans (by go_simp); have c1_2 : w1.cell? ⟨xb, xo + c, none⟩ = some (.int .i64 g0) := (b1.cell (by first | omega | (simp; done) | (simp; omega))).trans (by go_simp); have l1_0 : w.heap.size < w1.heap.size := (by omega); have n1_0 : w.heap.size ≠ w1.heap.size := (by omega); have m1_0 : w1.heap.size ≠ w.heap.size := (by omega); have l1_1 : xb < w1.heap.size := (by omega); have n1_1 : xb ≠ w1.heap.size := (by omega); have m1_1 : w1.heap.size ≠ xb := (by omega); clear b1
  have IW := Lib.hid iw
  clear iw
  go_wp2_with fail
  go_region_held3 (fun w' => w'.cell? ⟨w.heap.size, 0, none⟩ = some (.int .i64 D) ∧ w'.cell? ⟨w.heap.size, 1, none⟩ = some (.slice ad n cc)) (first | (go_simp; done) | (go_keep; done) | (refine ⟨?_, ?_⟩ <;> first | (go_simp; done) | (go_keep; done))) (first | (first | (go_at_call 23; (with_reducible refine (HWI.out en _ (HX.out.below (by (repeat (first | with_reducible exact Below.refl _ _ | ((with_reducible refine Below.setCell ?_ ?_ _); rotate_left; (focus (first | omega | (simp; done) | (simp; omega)))) | ((with_reducible refine Below.alloc ?_ ?_ _); rotate_left; (focus (first | omega | (simp; done) | (simp; omega)))) | (with_reducible refine Below.drew ?_) | (with_reducible refine below_drewN ?_ _) | ((with_reducible refine Below.trans ?_ (Below.mono B1.out ?_)); rotate_left; (focus (first | omega | (simp; done) | (simp; omega))))))))).mono ?_); rintro e w2 ⟨vo2, rfl, i2, b2⟩; have s2 : w1.heap.size ≤ w2.heap.size := (by have := b2.size; first | omega | (simp at this; omega)); have B2 := Lib.hid (show Below w.heap.size w w2 from below_tr (by (repeat (first | with_reducible exact Below.refl _ _ | ((with_reducible refine Below.setCell ?_ ?_ _); rotate_left; (focus (first | omega | (simp; done) | (simp; omega)))) | ((with_reducible refine Below.alloc ?_ ?_ _); rotate_left; (focus (first | omega | (simp; done) | (simp; omega)))) | (with_reducible refine Below.drew ?_) | (with_reducible refine below_drewN ?_ _) | ((with_reducible refine Below.trans ?_ (Below.mono B1.out ?_)); rotate_left; (focus (first | omega | (simp; done) | (simp; omega))))))) (b2.mono (by first | omega | (simp; done) | (simp; omega)))); have c2_0 : w2.cell? ⟨w.heap.size, 0, none⟩ = some (.int .i64 D) := (b2.cell (by first | omega | (simp; done) | (simp; omega))).trans (by go_simp); have c2_1 : w2.cell? ⟨w.heap.size, 1, none⟩ = some (.slice ad n cc) := (b2.cell (by first | omega | (simp; done) | (simp; omega))).trans (by go_simp); have c2_2 : w2.cell? ⟨xb, xo + c, none⟩ = some (.int .i64 g0) := (b2.cell (by first | omega | (simp; done) | (simp; omega))).trans (by go_simp); have l2_0 : w.heap.size < w2.heap.size := (by omega); have n2_0 : w.heap.size ≠ w2.heap.size := (by omega); have m2_0 : w2.heap.size ≠ w.heap.size := (by omega); have l2_1 : xb < w2.heap.size := (by omega); have n2_1 : xb ≠ w2.heap.size := (by omega); have m2_1 : w2.heap.size ≠ xb := (by omega); have IW := Lib.hid ((IW.out.below (by (repeat (first | with_reducible exact Below.refl _ _ | ((with_reducible refine Below.setCell ?_ ?_ _); rotate_left; (focus (first | omega | (simp; done) | (simp; omega)))) | ((with_reducible refine Below.alloc ?_ ?_ _); rotate_left; (focus (first | omega | (simp; done) | (simp; omega)))) | (with_reducible refine Below.drew ?_) | (with_reducible refine below_drewN ?_ _))))).below b2); clear b2; have I2 := Lib.hid i2; clear i2) | (go_at_call 22; (with_reducible refine (HWB.out en _ _ (HTR.out.below (by (repeat (first | with_reducible exact Below.refl _ _ | ((with_reducible refine Below.setCell ?_ ?_ _); rotate_left; (focus (first | omega | (simp; done) | (simp; omega)))) | ((with_reducible refine Below.alloc ?_ ?_ _); rotate_left; (focus (first | omega | (simp; done) | (simp; omega)))) | (with_reducible refine Below.drew ?_) | (with_reducible refine below_drewN ?_ _) | ((with_reducible refine Below.trans ?_ (Below.mono B2.out ?_)); rotate_left; (focus (first | omega | (simp; done) | (simp; omega)))))))) (I2.out.below (by (repeat (first | with_reducible exact Below.refl _ _ | ((with_reducible refine Below.setCell ?_ ?_ _); rotate_left; (focus (first | omega | (simp; done) | (simp; omega)))) | ((with_reducible refine Below.alloc ?_ ?_ _); rotate_left; (focus (first | omega | (simp; done) | (simp; omega)))) | (with_reducible refine Below.drew ?_) | (with_reducible refine below_drewN ?_ _))))) e1 e2).mono ?_); rintro e w3 ⟨vo3, rfl, i3, b3⟩; have s3 : w2.heap.size ≤ w3.heap.size := (by have := b3.size; first | omega | (simp at this; omega)); have B3 := Lib.hid (show Below w.heap.size w w3 from below_tr (by (repeat (first | with_reducible exact Below.refl _ _ | ((with_reducible refine Below.setCell ?_ ?_ _); rotate_left; (focus (first | omega | (simp; done) | (simp; omega)))) | ((with_reducible refine Below.alloc ?_ ?_ _); rotate_left; (focus (first | omega | (simp; done) | (simp; omega)))) | (with_reducible refine Below.drew ?_) | (with_reducible refine below_drewN ?_ _) | ((with_reducible refine Below.trans ?_ (Below.mono B2.out ?_)); rotate_left; (focus (first | omega | (simp; done) | (simp; omega))))))) (b3.mono (by first | omega | (simp; done) | (simp; omega)))); have c3_0 : w3.cell? ⟨w.heap.size, 0, none⟩ = some (.int .i64 D) := (b3.cell (by first | omega | (simp; done) | (simp; omega))).trans (by go_simp); have c3_1 : w3.cell? ⟨w.heap.size, 1, none⟩ = some (.slice ad n cc) := (b3.cell (by first | omega | (simp; done) | (simp; omega))).trans (by go_simp); have c3_2 : w3.cell? ⟨xb, xo + c, none⟩ = some (.int .i64 g0) := (b3.cell (by first | omega | (simp; done) | (simp; omega))).trans (by go_simp); have l3_0 : w.heap.size < w3.heap.size := (by omega); have n3_0 : w.heap.size ≠ w3.heap.size := (by omega); have m3_0 : w3.heap.size ≠ w.heap.size := (by omega); have l3_1 : xb < w3.heap.size := (by omega); have n3_1 : xb ≠ w3.heap.size := (by omega); have m3_1 : w3.heap.size ≠ xb := (by omega); have IW := Lib.hid ((IW.out.below (by (repeat (first | with_reducible exact Below.refl _ _ | ((with_reducible refine Below.setCell ?_ ?_ _); rotate_left; (focus (first | omega | (simp; done) | (simp; omega)))) | ((with_reducible refine Below.alloc ?_ ?_ _); rotate_left; (focus (first | omega | (simp; done) | (simp; omega)))) | (with_reducible refine Below.drew ?_) | (with_reducible refine below_drewN ?_ _))))).below b3); clear b3; have I3 := Lib.hid i3; clear i3) | (go_at_call 19; refine (HS0.out _ _ _ (IW.out.below (by (repeat (first | with_reducible exact Below.refl _ _ | ((with_reducible refine Below.setCell ?_ ?_ _); rotate_left; (focus (first | omega | (simp; done) | (simp; omega)))) | ((with_reducible refine Below.alloc ?_ ?_ _); rotate_left; (focus (first | omega | (simp; done) | (simp; omega)))) | (with_reducible refine Below.drew ?_) | (with_reducible refine below_drewN ?_ _))))) (I3.out.below (by (repeat (first | with_reducible exact Below.refl _ _ | ((with_reducible refine Below.setCell ?_ ?_ _); rotate_left; (focus (first | omega | (simp; done) | (simp; omega)))) | ((with_reducible refine Below.alloc ?_ ?_ _); rotate_left; (focus (first | omega | (simp; done) | (simp; omega)))) | (with_reducible refine Below.drew ?_) | (with_reducible refine below_drewN ?_ _)))))).mono ?_; rintro e w4 ⟨rfl, d4, rfl⟩)))
  have BB3 := Lib.hid (show Below w.heap.size w (w3.drewN d4) from below_drewN B3.out _)
  have IW3 := Lib.hid (IW.out.drewN d4)
  have s33 : w.heap.size < w3.heap.size := by omega
  cases S0 with
  | true =>
    have hen : en = RV := by
      have h1 := HSB.out
      have h2 := HRV.out
      have h3 := HBD.out
      simp only [decide_eq_true_eq] at h1
      rw [← h2]
      split <;> omega
    have HEN := Lib.hid hen
    clear hen
    go_wp2_with fail
    go_ret
    exact ⟨by rw [HEN.out]; rfl, BB3.out⟩
  | false =>
    have hfar : Far en lo hi en := by
      have h1 := HSB.out
      have h3 := HBD.out
      have h4 := HSF.out
      simp only [decide_eq_false_iff_not] at h1
      unfold Far
      omega
    have HFR := Lib.hid hfar
    clear hfar
    go_wp2_with fail
    go_loopw [10, 11, 12] (fun g bd _ wr => ∃ gi bi : Int, g = .int .i64 gi ∧ bd = .int .i64 bi ∧ lo ≤ gi ∧ gi ≤ hi ∧ Far en lo hi bi ∧ -2147483648 ≤ bi ∧ bi ≤ 2147483647 ∧ Ints .i64 wr vw ((wayL t x).map fun (j : Nat) => (j : Int)) ∧ Below w.heap.size w wr ∧ w.heap.size < wr.heap.size ∧ wr.cell? ⟨w.heap.size, 0, none⟩ = some (.int .i64 D) ∧ wr.cell? ⟨w.heap.size, 1, none⟩ = some (.slice ad n cc)) (fun g bd _ _ => (intOf g - intOf bd).natAbs)
    case atStart => exact ⟨g0, en, rfl, rfl, HSF.out.1, HSF.out.2, HFR.out, e1, e2, IW3.out, BB3.out, s33, c3_0, c3_1⟩
    case round =>
      obtain ⟨gi, bi, rfl, rfl, hl1, hl2, hfar, hb1, hb2, hiw, hbr, hsz, y0, y1⟩ := hrel
      have hg1 : -2147483648 ≤ gi := by have := HBD.out; omega
      have hg2 : gi ≤ 2147483647 := by have := HBD.out; omega
      by_cases h1 : 1 < gi - bi
      · have h1' : (1 : Int) < gi - bi := h1
        have HBR := Lib.hid (show Below w.heap.size w wr from hbr)
        have IW2 := Lib.hid hiw
        have wz : w.heap.size < wr.heap.size := hsz
        have wn : w.heap.size ≠ wr.heap.size := by omega
        have hmb := mid_bd (g := gi) (b := bi) (.inl h1)
        obtain ⟨M, hM⟩ : ∃ M, (gi + bi).tdiv 2 = M := ⟨_, rfl⟩
        rw [hM] at hmb
        have m1 : -2147483648 ≤ M := by omega
        have m2 : M ≤ 2147483647 := by omega
        have hs0 := HSA.out M m1 m2
        obtain ⟨S1, hS1⟩ : ∃ S1, decide (lo ≤ M ∧ M ≤ hi) = S1 := ⟨_, rfl⟩
        rw [hS1] at hs0
        have HS1 := Lib.hid hs0
        have HSC := Lib.hid hS1
        have HFAR := Lib.hid hfar
        have HMB := Lib.hid hmb
        clear hbr hiw hs0 hS1 hsz hfar hmb
        go_wp2_with fail
        go_region_held3 (fun w' => w'.cell? ⟨w.heap.size, 0, none⟩ = some (.int .i64 D) ∧ w'.cell? ⟨w.heap.size, 1, none⟩ = some (.slice ad n cc)) (first | (go_simp; done) | (go_keep; done) | (refine ⟨?_, ?_⟩ <;> first | (go_simp; done) | (go_keep; done))) (first | (first | (go_at_call 23; (with_reducible refine (HWI.out M _ (HX.out.below (by (repeat (first | with_reducible exact Below.refl _ _ | ((with_reducible refine Below.setCell ?_ ?_ _); rotate_left; (focus (first | omega | (simp; done) | (simp; omega)))) | ((with_reducible refine Below.alloc ?_ ?_ _); rotate_left; (focus (first | omega | (simp; done) | (simp; omega)))) | (with_reducible refine Below.drew ?_) | (with_reducible refine below_drewN ?_ _) | ((with_reducible refine Below.trans ?_ (Below.mono HBR.out ?_)); rotate_left; (focus (first | omega | (simp; done) | (simp; omega))))))))).mono ?_); rintro e w5 ⟨vo5, rfl, i5, b5⟩; have s5 : wr.heap.size ≤ w5.heap.size := (by have := b5.size; first | omega | (simp at this; omega)); have B5 := Lib.hid (show Below wr.heap.size wr w5 from below_tr (by (repeat (first | with_reducible exact Below.refl _ _ | ((with_reducible refine Below.setCell ?_ ?_ _); rotate_left; (focus (first | omega | (simp; done) | (simp; omega)))) | ((with_reducible refine Below.alloc ?_ ?_ _); rotate_left; (focus (first | omega | (simp; done) | (simp; omega)))) | (with_reducible refine Below.drew ?_) | (with_reducible refine below_drewN ?_ _)))) (b5.mono (by first | omega | (simp; done) | (simp; omega)))); have c5_0 : w5.cell? ⟨w.heap.size, 0, none⟩ = some (.int .i64 D) := (b5.cell (by first | omega | (simp; done) | (simp; omega))).trans (by go_simp); have c5_1 : w5.cell? ⟨w.heap.size, 1, none⟩ = some (.slice ad n cc) := (b5.cell (by first | omega | (simp; done) | (simp; omega))).trans (by go_simp); have I5 := Lib.hid i5; clear i5 b5) | (go_at_call 22; (with_reducible refine (HWB.out M _ _ (HTR.out.below (by (repeat (first | with_reducible exact Below.refl _ _ | ((with_reducible refine Below.setCell ?_ ?_ _); rotate_left; (focus (first | omega | (simp; done) | (simp; omega)))) | ((with_reducible refine Below.alloc ?_ ?_ _); rotate_left; (focus (first | omega | (simp; done) | (simp; omega)))) | (with_reducible refine Below.drew ?_) | (with_reducible refine below_drewN ?_ _) | ((with_reducible refine Below.trans ?_ (Below.mono B5.out ?_)); rotate_left; (focus (first | omega | (simp; done) | (simp; omega)))) | ((with_reducible refine Below.trans ?_ (Below.mono HBR.out ?_)); rotate_left; (focus (first | omega | (simp; done) | (simp; omega)))))))) (I5.out.below (by (repeat (first | with_reducible exact Below.refl _ _ | ((with_reducible refine Below.setCell ?_ ?_ _); rotate_left; (focus (first | omega | (simp; done) | (simp; omega)))) | ((with_reducible refine Below.alloc ?_ ?_ _); rotate_left; (focus (first | omega | (simp; done) | (simp; omega)))) | (with_reducible refine Below.drew ?_) | (with_reducible refine below_drewN ?_ _))))) m1 m2).mono ?_); rintro e w6 ⟨vo6, rfl, i6, b6⟩; have s6 : w5.heap.size ≤ w6.heap.size := (by have := b6.size; first | omega | (simp at this; omega)); have B6 := Lib.hid (show Below wr.heap.size wr w6 from below_tr (by (repeat (first | with_reducible exact Below.refl _ _ | ((with_reducible refine Below.setCell ?_ ?_ _); rotate_left; (focus (first | omega | (simp; done) | (simp; omega)))) | ((with_reducible refine Below.alloc ?_ ?_ _); rotate_left; (focus (first | omega | (simp; done) | (simp; omega)))) | (with_reducible refine Below.drew ?_) | (with_reducible refine below_drewN ?_ _) | ((with_reducible refine Below.trans ?_ (Below.mono B5.out ?_)); rotate_left; (focus (first | omega | (simp; done) | (simp; omega))))))) (b6.mono (by first | omega | (simp; done) | (simp; omega)))); have c6_0 : w6.cell? ⟨w.heap.size, 0, none⟩ = some (.int .i64 D) := (b6.cell (by first | omega | (simp; done) | (simp; omega))).trans (by go_simp); have c6_1 : w6.cell? ⟨w.heap.size, 1, none⟩ = some (.slice ad n cc) := (b6.cell (by first | omega | (simp; done) | (simp; omega))).trans (by go_simp); have I6 := Lib.hid i6; clear i6 b6) | (go_at_call 19; refine (HS1.out _ _ _ (IW2.out.below (by (repeat (first | with_reducible exact Below.refl _ _ | ((with_reducible refine Below.setCell ?_ ?_ _); rotate_left; (focus (first | omega | (simp; done) | (simp; omega)))) | ((with_reducible refine Below.alloc ?_ ?_ _); rotate_left; (focus (first | omega | (simp; done) | (simp; omega)))) | (with_reducible refine Below.drew ?_) | (with_reducible refine below_drewN ?_ _) | ((with_reducible refine Below.trans ?_ (Below.mono B6.out ?_)); rotate_left; (focus (first | omega | (simp; done) | (simp; omega)))))))) (I6.out.below (by (repeat (first | with_reducible exact Below.refl _ _ | ((with_reducible refine Below.setCell ?_ ?_ _); rotate_left; (focus (first | omega | (simp; done) | (simp; omega)))) | ((with_reducible refine Below.alloc ?_ ?_ _); rotate_left; (focus (first | omega | (simp; done) | (simp; omega)))) | (with_reducible refine Below.drew ?_) | (with_reducible refine below_drewN ?_ _)))))).mono ?_; rintro e w7 ⟨rfl, d7, rfl⟩)))
        have IW6 := Lib.hid (IW2.out.below B6.out)
        have BB6 := Lib.hid (show Below w.heap.size w w6 from below_tr HBR.out (B6.out.mono (by omega)))
        cases S1 with
        | true =>
          have hin : lo ≤ M ∧ M ≤ hi := by have := HSC.out; simpa using this
          have HLT := Lib.hid (show (M - bi).natAbs < (gi - bi).natAbs by have := HMB.out; omega)
          clear hM
          go_wp2_with fail
          go_roundw
          case rel => exact ⟨M, bi, rfl, rfl, hin.1, hin.2, HFAR.out, hb1, hb2, IW6.out.drewN _, below_drewN BB6.out _, by simp; omega, c6_0, c6_1⟩
          case measure => exact HLT.out
        | false =>
          have hin : ¬ (lo ≤ M ∧ M ≤ hi) := by have := HSC.out; simpa using this
          have HLT := Lib.hid (show (gi - M).natAbs < (gi - bi).natAbs by have := HMB.out; omega)
          have HF2 := Lib.hid (show Far en lo hi M by have := HFAR.out; have := HMB.out; unfold Far at *; omega)
          clear hM hin
          go_wp2_with fail
          go_roundw
          case rel => exact ⟨gi, M, rfl, rfl, hl1, hl2, HF2.out, m1, m2, IW6.out.drewN _, below_drewN BB6.out _, by simp; omega, c6_0, c6_1⟩
          case measure => exact HLT.out
      · by_cases h2 : 1 < bi - gi
        · have h2' : (1 : Int) < bi - gi := h2
          have HBR := Lib.hid (show Below w.heap.size w wr from hbr)
          have IW2 := Lib.hid hiw
          have wz : w.heap.size < wr.heap.size := hsz
          have wn : w.heap.size ≠ wr.heap.size := by omega
          have hmb := mid_bd (g := gi) (b := bi) (.inr h2)
          obtain ⟨M, hM⟩ : ∃ M, (gi + bi).tdiv 2 = M := ⟨_, rfl⟩
          rw [hM] at hmb
          have m1 : -2147483648 ≤ M := by omega
          have m2 : M ≤ 2147483647 := by omega
          have hs0 := HSA.out M m1 m2
          obtain ⟨S1, hS1⟩ : ∃ S1, decide (lo ≤ M ∧ M ≤ hi) = S1 := ⟨_, rfl⟩
          rw [hS1] at hs0
          have HS1 := Lib.hid hs0
          have HSC := Lib.hid hS1
          have HFAR := Lib.hid hfar
          have HMB := Lib.hid hmb
          clear hbr hiw hs0 hS1 hsz hfar hmb
          go_wp2_with fail
          go_region_held3 (fun w' => w'.cell? ⟨w.heap.size, 0, none⟩ = some (.int .i64 D) ∧ w'.cell? ⟨w.heap.size, 1, none⟩ = some (.slice ad n cc)) (first | (go_simp; done) | (go_keep; done) | (refine ⟨?_, ?_⟩ <;> first | (go_simp; done) | (go_keep; done))) (first | (first | (go_at_call 23; (with_reducible refine (HWI.out M _ (HX.out.below (by (repeat (first | with_reducible exact Below.refl _ _ | ((with_reducible refine Below.setCell ?_ ?_ _); rotate_left; (focus (first | omega | (simp; done) | (simp; omega)))) | ((with_reducible refine Below.alloc ?_ ?_ _); rotate_left; (focus (first | omega | (simp; done) | (simp; omega)))) | (with_reducible refine Below.drew ?_) | (with_reducible refine below_drewN ?_ _) | ((with_reducible refine Below.trans ?_ (Below.mono HBR.out ?_)); rotate_left; (focus (first | omega | (simp; done) | (simp; omega))))))))).mono ?_); rintro e w5 ⟨vo5, rfl, i5, b5⟩; have s5 : wr.heap.size ≤ w5.heap.size := (by have := b5.size; first | omega | (simp at this; omega)); have B5 := Lib.hid (show Below wr.heap.size wr w5 from below_tr (by (repeat (first | with_reducible exact Below.refl _ _ | ((with_reducible refine Below.setCell ?_ ?_ _); rotate_left; (focus (first | omega | (simp; done) | (simp; omega)))) | ((with_reducible refine Below.alloc ?_ ?_ _); rotate_left; (focus (first | omega | (simp; done) | (simp; omega)))) | (with_reducible refine Below.drew ?_) | (with_reducible refine below_drewN ?_ _)))) (b5.mono (by first | omega | (simp; done) | (simp; omega)))); have c5_0 : w5.cell? ⟨w.heap.size, 0, none⟩ = some (.int .i64 D) := (b5.cell (by first | omega | (simp; done) | (simp; omega))).trans (by go_simp); have c5_1 : w5.cell? ⟨w.heap.size, 1, none⟩ = some (.slice ad n cc) := (b5.cell (by first | omega | (simp; done) | (simp; omega))).trans (by go_simp); have I5 := Lib.hid i5; clear i5 b5) | (go_at_call 22; (with_reducible refine (HWB.out M _ _ (HTR.out.below (by (repeat (first | with_reducible exact Below.refl _ _ | ((with_reducible refine Below.setCell ?_ ?_ _); rotate_left; (focus (first | omega | (simp; done) | (simp; omega)))) | ((with_reducible refine Below.alloc ?_ ?_ _); rotate_left; (focus (first | omega | (simp; done) | (simp; omega)))) | (with_reducible refine Below.drew ?_) | (with_reducible refine below_drewN ?_ _) | ((with_reducible refine Below.trans ?_ (Below.mono B5.out ?_)); rotate_left; (focus (first | omega | (simp; done) | (simp; omega)))) | ((with_reducible refine Below.trans ?_ (Below.mono HBR.out ?_)); rotate_left; (focus (first | omega | (simp; done) | (simp; omega)))))))) (I5.out.below (by (repeat (first | with_reducible exact Below.refl _ _ | ((with_reducible refine Below.setCell ?_ ?_ _); rotate_left; (focus (first | omega | (simp; done) | (simp; omega)))) | ((with_reducible refine Below.alloc ?_ ?_ _); rotate_left; (focus (first | omega | (simp; done) | (simp; omega)))) | (with_reducible refine Below.drew ?_) | (with_reducible refine below_drewN ?_ _))))) m1 m2).mono ?_); rintro e w6 ⟨vo6, rfl, i6, b6⟩; have s6 : w5.heap.size ≤ w6.heap.size := (by have := b6.size; first | omega | (simp at this; omega)); have B6 := Lib.hid (show Below wr.heap.size wr w6 from below_tr (by (repeat (first | with_reducible exact Below.refl _ _ | ((with_reducible refine Below.setCell ?_ ?_ _); rotate_left; (focus (first | omega | (simp; done) | (simp; omega)))) | ((with_reducible refine Below.alloc ?_ ?_ _); rotate_left; (focus (first | omega | (simp; done) | (simp; omega)))) | (with_reducible refine Below.drew ?_) | (with_reducible refine below_drewN ?_ _) | ((with_reducible refine Below.trans ?_ (Below.mono B5.out ?_)); rotate_left; (focus (first | omega | (simp; done) | (simp; omega))))))) (b6.mono (by first | omega | (simp; done) | (simp; omega)))); have c6_0 : w6.cell? ⟨w.heap.size, 0, none⟩ = some (.int .i64 D) := (b6.cell (by first | omega | (simp; done) | (simp; omega))).trans (by go_simp); have c6_1 : w6.cell? ⟨w.heap.size, 1, none⟩ = some (.slice ad n cc) := (b6.cell (by first | omega | (simp; done) | (simp; omega))).trans (by go_simp); have I6 := Lib.hid i6; clear i6 b6) | (go_at_call 19; refine (HS1.out _ _ _ (IW2.out.below (by (repeat (first | with_reducible exact Below.refl _ _ | ((with_reducible refine Below.setCell ?_ ?_ _); rotate_left; (focus (first | omega | (simp; done) | (simp; omega)))) | ((with_reducible refine Below.alloc ?_ ?_ _); rotate_left; (focus (first | omega | (simp; done) | (simp; omega)))) | (with_reducible refine Below.drew ?_) | (with_reducible refine below_drewN ?_ _) | ((with_reducible refine Below.trans ?_ (Below.mono B6.out ?_)); rotate_left; (focus (first | omega | (simp; done) | (simp; omega)))))))) (I6.out.below (by (repeat (first | with_reducible exact Below.refl _ _ | ((with_reducible refine Below.setCell ?_ ?_ _); rotate_left; (focus (first | omega | (simp; done) | (simp; omega)))) | ((with_reducible refine Below.alloc ?_ ?_ _); rotate_left; (focus (first | omega | (simp; done) | (simp; omega)))) | (with_reducible refine Below.drew ?_) | (with_reducible refine below_drewN ?_ _)))))).mono ?_; rintro e w7 ⟨rfl, d7, rfl⟩)))
          have IW6 := Lib.hid (IW2.out.below B6.out)
          have BB6 := Lib.hid (show Below w.heap.size w w6 from below_tr HBR.out (B6.out.mono (by omega)))
          cases S1 with
          | true =>
            have hin : lo ≤ M ∧ M ≤ hi := by have := HSC.out; simpa using this
            have HLT := Lib.hid (show (M - bi).natAbs < (gi - bi).natAbs by have := HMB.out; omega)
            clear hM
            go_wp2_with fail
            go_roundw
            case rel => exact ⟨M, bi, rfl, rfl, hin.1, hin.2, HFAR.out, hb1, hb2, IW6.out.drewN _, below_drewN BB6.out _, by simp; omega, c6_0, c6_1⟩
            case measure => exact HLT.out
          | false =>
            have hin : ¬ (lo ≤ M ∧ M ≤ hi) := by have := HSC.out; simpa using this
            have HLT := Lib.hid (show (gi - M).natAbs < (gi - bi).natAbs by have := HMB.out; omega)
            have HF2 := Lib.hid (show Far en lo hi M by have := HFAR.out; have := HMB.out; unfold Far at *; omega)
            clear hM hin
            go_wp2_with fail
            go_roundw
            case rel => exact ⟨gi, M, rfl, rfl, hl1, hl2, HF2.out, m1, m2, IW6.out.drewN _, below_drewN BB6.out _, by simp; omega, c6_0, c6_1⟩
            case measure => exact HLT.out
        · have hen : gi = RV := by
            have h1 := HRV.out
            unfold Far at hfar
            rw [← h1]
            split <;> omega
          have HEN := Lib.hid hen
          have HBR := Lib.hid hbr
          clear hen hbr hiw hfar
          go_wp2_with fail
          go_ret
          exact ⟨by rw [HEN.out]; rfl, HBR.out⟩
end Go.Proofs.Ytopodhcgfmpphaa
