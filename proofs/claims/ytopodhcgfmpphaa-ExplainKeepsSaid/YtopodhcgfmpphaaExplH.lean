/-
  Walks of copseref16: asked, With, Steps.
-/
import Derived.Test.YtopodhcgfmpphaaExplG
import Derived.Test.YtopodhcgfmpphaaRefPathB
namespace Go.Proofs.Ytopodhcgfmpphaa
open Go.RowKit

set_option maxRecDepth 100000 in
set_option maxHeartbeats 2000000 in
theorem rasked_any (v vx : Value) (t : TreeP) (x : List Int) (w : World) (h : TreeR w v t) (hx : Ints .i64 w vx x) :
    Calls Try.prog 67 #[v, vx] w fun e w' => e = .returned (.int .i64 (pathE t x)) ∧ Below w.heap.size w w' := by
  have HTR := Lib.hid h
  have HX := Lib.hid hx
  have HC1 := Lib.hid (fun W (hW : TreeR W v t) => ristree_any v t W hW)
  have HC2 := Lib.hid (fun W (hW : Ints .i64 W vx x) => risv_any vx x t.dim W hW)
  obtain ⟨nv, rfl, ad, cc, rfl, _, _, q3, _⟩ := h
  obtain ⟨ax, cx, rfl, _⟩ := hx
  have HP := Lib.hid (show pathE t x = (if treeB t = true then (if vecB x t.dim = true then 0 else 80) else 100) from rfl)
  obtain ⟨E, hE⟩ : ∃ E, pathE t x = E := ⟨_, rfl⟩
  rw [hE] at HP ⊢
  obtain ⟨TB, hTB⟩ : ∃ TB, treeB t = TB := ⟨_, rfl⟩
  obtain ⟨VB, hVB⟩ : ∃ VB, vecB x t.dim = VB := ⟨_, rfl⟩
  rw [hTB, hVB] at HP
  rw [hTB] at HC1
  rw [hVB] at HC2
  clear hE hTB hVB
  generalize t.nodes.length = n at *
  generalize t.dim = D at *
  generalize x.length = m at *
  cases TB with
  | false =>
    go_enter Try.func67, Try.ntmps67
    go_wp2_with fail
    (with_reducible refine (HC1.out _ (HTR.out.below (by (repeat (first | with_reducible exact Below.refl _ _ | ((with_reducible refine Below.setCell ?_ ?_ _); rotate_left; (focus (first | omega | (simp; done) | (simp; omega)))) | ((with_reducible refine Below.alloc ?_ ?_ _); rotate_left; (focus (first | omega | (simp; done) | (simp; omega)))) | (with_reducible refine Below.drew ?_) | (with_reducible refine below_drewN ?_ _)))))).mono ?_); rintro e w1 ⟨rfl, b1⟩; have s1 : w.heap.size + 1 ≤ w1.heap.size := (by have := b1.size; first | omega | (simp at this; omega)); have B1 := Lib.hid (show Below w.heap.size w w1 from below_tr (by (repeat (first | with_reducible exact Below.refl _ _ | ((with_reducible refine Below.setCell ?_ ?_ _); rotate_left; (focus (first | omega | (simp; done) | (simp; omega)))) | ((with_reducible refine Below.alloc ?_ ?_ _); rotate_left; (focus (first | omega | (simp; done) | (simp; omega)))) | (with_reducible refine Below.drew ?_) | (with_reducible refine below_drewN ?_ _)))) (b1.mono (by first | omega | (simp; done) | (simp; omega)))); have c1_0 : w1.cell? ⟨w.heap.size, 0, none⟩ = some (.int .i64 D) := (b1.cell (by first | omega | (simp; done) | (simp; omega))).trans (by go_simp); have c1_1 : w1.cell? ⟨w.heap.size, 1, none⟩ = some (.slice ad n cc) := (b1.cell (by first | omega | (simp; done) | (simp; omega))).trans (by go_simp); have l1_0 : w.heap.size < w1.heap.size := (by omega); have n1_0 : w.heap.size ≠ w1.heap.size := (by omega); have m1_0 : w1.heap.size ≠ w.heap.size := (by omega); clear b1
    go_wp2_with fail
    go_ret
    exact ⟨by rw [HP.out]; rfl, by (repeat (first | with_reducible exact Below.refl _ _ | ((with_reducible refine Below.setCell ?_ ?_ _); rotate_left; (focus (first | omega | (simp; done) | (simp; omega)))) | ((with_reducible refine Below.alloc ?_ ?_ _); rotate_left; (focus (first | omega | (simp; done) | (simp; omega)))) | (with_reducible refine Below.drew ?_) | (with_reducible refine below_drewN ?_ _) | ((with_reducible refine Below.trans ?_ (Below.mono B1.out ?_)); rotate_left; (focus (first | omega | (simp; done) | (simp; omega))))))⟩
  | true =>
    cases VB with
    | false =>
      go_enter Try.func67, Try.ntmps67
      go_wp2_with fail
      (with_reducible refine (HC1.out _ (HTR.out.below (by (repeat (first | with_reducible exact Below.refl _ _ | ((with_reducible refine Below.setCell ?_ ?_ _); rotate_left; (focus (first | omega | (simp; done) | (simp; omega)))) | ((with_reducible refine Below.alloc ?_ ?_ _); rotate_left; (focus (first | omega | (simp; done) | (simp; omega)))) | (with_reducible refine Below.drew ?_) | (with_reducible refine below_drewN ?_ _)))))).mono ?_); rintro e w1 ⟨rfl, b1⟩; have s1 : w.heap.size + 1 ≤ w1.heap.size := (by have := b1.size; first | omega | (simp at this; omega)); have B1 := Lib.hid (show Below w.heap.size w w1 from below_tr (by (repeat (first | with_reducible exact Below.refl _ _ | ((with_reducible refine Below.setCell ?_ ?_ _); rotate_left; (focus (first | omega | (simp; done) | (simp; omega)))) | ((with_reducible refine Below.alloc ?_ ?_ _); rotate_left; (focus (first | omega | (simp; done) | (simp; omega)))) | (with_reducible refine Below.drew ?_) | (with_reducible refine below_drewN ?_ _)))) (b1.mono (by first | omega | (simp; done) | (simp; omega)))); have c1_0 : w1.cell? ⟨w.heap.size, 0, none⟩ = some (.int .i64 D) := (b1.cell (by first | omega | (simp; done) | (simp; omega))).trans (by go_simp); have c1_1 : w1.cell? ⟨w.heap.size, 1, none⟩ = some (.slice ad n cc) := (b1.cell (by first | omega | (simp; done) | (simp; omega))).trans (by go_simp); have l1_0 : w.heap.size < w1.heap.size := (by omega); have n1_0 : w.heap.size ≠ w1.heap.size := (by omega); have m1_0 : w1.heap.size ≠ w.heap.size := (by omega); clear b1
      go_wp2_with fail
      refine (HC2.out _ (HX.out.below (by (repeat (first | with_reducible exact Below.refl _ _ | ((with_reducible refine Below.setCell ?_ ?_ _); rotate_left; (focus (first | omega | (simp; done) | (simp; omega)))) | ((with_reducible refine Below.alloc ?_ ?_ _); rotate_left; (focus (first | omega | (simp; done) | (simp; omega)))) | (with_reducible refine Below.drew ?_) | (with_reducible refine below_drewN ?_ _) | ((with_reducible refine Below.trans ?_ (Below.mono B1.out ?_)); rotate_left; (focus (first | omega | (simp; done) | (simp; omega))))))))).mono ?_
      rintro e w2 ⟨rfl, rfl⟩
      go_wp2_with fail
      go_ret
      exact ⟨by rw [HP.out]; rfl, by (repeat (first | with_reducible exact Below.refl _ _ | ((with_reducible refine Below.setCell ?_ ?_ _); rotate_left; (focus (first | omega | (simp; done) | (simp; omega)))) | ((with_reducible refine Below.alloc ?_ ?_ _); rotate_left; (focus (first | omega | (simp; done) | (simp; omega)))) | (with_reducible refine Below.drew ?_) | (with_reducible refine below_drewN ?_ _) | ((with_reducible refine Below.trans ?_ (Below.mono B1.out ?_)); rotate_left; (focus (first | omega | (simp; done) | (simp; omega))))))⟩
    | true =>
      go_enter Try.func67, Try.ntmps67
      go_wp2_with fail
      (with_reducible refine (HC1.out _ (HTR.out.below (by (repeat (first | with_reducible exact Below.refl _ _ | ((with_reducible refine Below.setCell ?_ ?_ _); rotate_left; (focus (first | omega | (simp; done) | (simp; omega)))) | ((with_reducible refine Below.alloc ?_ ?_ _); rotate_left; (focus (first | omega | (simp; done) | (simp; omega)))) | (with_reducible refine Below.drew ?_) | (with_reducible refine below_drewN ?_ _)))))).mono ?_); rintro e w1 ⟨rfl, b1⟩; have s1 : w.heap.size + 1 ≤ w1.heap.size := (by have := b1.size; first | omega | (simp at this; omega)); have B1 := Lib.hid (show Below w.heap.size w w1 from below_tr (by (repeat (first | with_reducible exact Below.refl _ _ | ((with_reducible refine Below.setCell ?_ ?_ _); rotate_left; (focus (first | omega | (simp; done) | (simp; omega)))) | ((with_reducible refine Below.alloc ?_ ?_ _); rotate_left; (focus (first | omega | (simp; done) | (simp; omega)))) | (with_reducible refine Below.drew ?_) | (with_reducible refine below_drewN ?_ _)))) (b1.mono (by first | omega | (simp; done) | (simp; omega)))); have c1_0 : w1.cell? ⟨w.heap.size, 0, none⟩ = some (.int .i64 D) := (b1.cell (by first | omega | (simp; done) | (simp; omega))).trans (by go_simp); have c1_1 : w1.cell? ⟨w.heap.size, 1, none⟩ = some (.slice ad n cc) := (b1.cell (by first | omega | (simp; done) | (simp; omega))).trans (by go_simp); have l1_0 : w.heap.size < w1.heap.size := (by omega); have n1_0 : w.heap.size ≠ w1.heap.size := (by omega); have m1_0 : w1.heap.size ≠ w.heap.size := (by omega); clear b1
      go_wp2_with fail
      refine (HC2.out _ (HX.out.below (by (repeat (first | with_reducible exact Below.refl _ _ | ((with_reducible refine Below.setCell ?_ ?_ _); rotate_left; (focus (first | omega | (simp; done) | (simp; omega)))) | ((with_reducible refine Below.alloc ?_ ?_ _); rotate_left; (focus (first | omega | (simp; done) | (simp; omega)))) | (with_reducible refine Below.drew ?_) | (with_reducible refine below_drewN ?_ _) | ((with_reducible refine Below.trans ?_ (Below.mono B1.out ?_)); rotate_left; (focus (first | omega | (simp; done) | (simp; omega))))))))).mono ?_
      rintro e w2 ⟨rfl, rfl⟩
      go_wp2_with fail
      go_ret
      exact ⟨by rw [HP.out]; rfl, by (repeat (first | with_reducible exact Below.refl _ _ | ((with_reducible refine Below.setCell ?_ ?_ _); rotate_left; (focus (first | omega | (simp; done) | (simp; omega)))) | ((with_reducible refine Below.alloc ?_ ?_ _); rotate_left; (focus (first | omega | (simp; done) | (simp; omega)))) | (with_reducible refine Below.drew ?_) | (with_reducible refine below_drewN ?_ _) | ((with_reducible refine Below.trans ?_ (Below.mono B1.out ?_)); rotate_left; (focus (first | omega | (simp; done) | (simp; omega))))))⟩

set_option maxHeartbeats 1000000 in
theorem rwith_any (vx : Value) (x : List Int) (c : Nat) (z : Int) (w : World) (hx : Ints .i64 w vx x) (hc : c < x.length) (h8 : x.length ≤ 1000) :
    Calls Try.prog 23 #[vx, .int .i64 (c : Int), .int .i64 z] w fun e w' => ∃ vo, e = .returned vo ∧ Ints .i64 w' vo (x.set c z) ∧ Below w.heap.size w w' := by
  have HX := Lib.hid hx
  obtain ⟨ax, cx, rfl, _⟩ := hx
  obtain ⟨n, hn⟩ : ∃ n, x.length = n := ⟨_, rfl⟩
  rw [hn] at HX hc h8 ⊢
  have HN := Lib.hid hn
  clear hn
  have i1 : (0 : Int) ≤ (c : Int) := by omega
  have i2 : (c : Int) < (n : Int) := by omega
  go_enter Try.func23, Try.ntmps23
  have hl := World.ownsRow_lit (base := w.heap.size) (e := 3) (size := 1) w #[] 0 (by simp) (by simp [maxLen]) rfl
  have HO := Lib.hid hl
  have HB := Lib.hid (show Below w.heap.size w (w.alloc (.cells #[] 3)) by (repeat (first | with_reducible exact Below.refl _ _ | ((with_reducible refine Below.setCell ?_ ?_ _); rotate_left; (focus (first | omega | (simp; done) | (simp; omega)))) | ((with_reducible refine Below.alloc ?_ ?_ _); rotate_left; (focus (first | omega | (simp; done) | (simp; omega)))) | (with_reducible refine Below.drew ?_) | (with_reducible refine below_drewN ?_ _))))
  clear hl
  go_wp2_with (at_builtin; go_must (refine appInts rfl _ _ 25 rfl Try.underlying25 eiInt w.heap.size (by rfl) HO.out (by rfl) (HX.out.below HB.out) (by have := HN.out; omega) (by simp) ?_))
  intro v1 w1 hown hb _
  have hown2 : w1.ownsRow w.heap.size 3 1 v1 n (x.map (Value.int .i64)) := by simpa [HN.out] using hown
  obtain ⟨g, cp, rfl⟩ : ∃ g cp, v1 = .slice (some ⟨g, 0, none⟩) n cp := by
    rcases hown2.2 with ⟨_, h0⟩ | ⟨g, cap, cur, e, _⟩
    · omega
    · exact ⟨g, cap, e⟩
  obtain ⟨y, hy⟩ := getElem?_ex (l := x) (k := c) (by rw [HN.out]; exact hc)
  have cd : w1.cell? ⟨g, c, none⟩ = some (.int .i64 y) := (hown2.cellAt c (by omega)).trans (by rw [List.getElem?_map, hy]; rfl)
  have fd := hown2.frozenAt c
  have hg := hown2.lt g rfl
  have HO2 := Lib.hid hown2
  have B1 := Lib.hid (show Below w.heap.size w w1 from below_tr HB.out hb)
  clear hown hown2 hb hy
  go_wp2_with fail
  go_ret
  have hst := (HO2.out.stored c (.int .i64 z)).1
  rw [← List.map_set] at hst
  have hi := Ints.own hst (by simp; have := HN.out; omega)
  exact ⟨_, rfl, hi.2, below_tr B1.out (by (repeat (first | with_reducible exact Below.refl _ _ | ((with_reducible refine Below.setCell ?_ ?_ _); rotate_left; (focus (first | omega | (simp; done) | (simp; omega)))) | ((with_reducible refine Below.alloc ?_ ?_ _); rotate_left; (focus (first | omega | (simp; done) | (simp; omega)))) | (with_reducible refine Below.drew ?_) | (with_reducible refine below_drewN ?_ _))))⟩
end Go.Proofs.Ytopodhcgfmpphaa
