/-
  Walks of layer 16: meet and narrow.
-/
import Derived.Test.YtopodhcgfmpphaaExplA
namespace Go.Proofs.Ytopodhcgfmpphaa
open Go.RowKit

theorem below_set {B : Nat} {a w : World} (h : Below B a w) (p : Addr) (v : Value) : Below B (a.setCell p v) (w.setCell p v) := by
  refine ⟨h.os, h.tape, h.output, by simpa [World.setCell] using h.size, fun k hk => ?_⟩
  have hk' : k < a.heap.size ∨ a.heap.size ≤ k := by omega
  simp only [World.setCell, Array.getElem?_modify]
  rw [h.block k hk]

theorem RoomAt.below {w w' : World} {b o : Nat} {r : Int × Int} (h : RoomAt w b o r) (hb : Below w.heap.size w w') : RoomAt w' b o r := by
  obtain ⟨h1, h2, h3, h4, h5⟩ := h
  exact ⟨Nat.lt_of_lt_of_le h1 hb.size, (hb.cell (p := ⟨b, _, none⟩) h1).trans h2, (hb.cell (p := ⟨b, _, none⟩) h1).trans h3, (hb.frozen (p := ⟨b, _, none⟩) h1).trans h4, (hb.frozen (p := ⟨b, _, none⟩) h1).trans h5⟩

theorem RoomAt.set2 {w : World} {b o : Nat} {r : Int × Int} (h : RoomAt w b o r) (z : Int) : RoomAt (w.setCell ⟨b, o + 1, none⟩ (.int .i64 z)) b o (r.1, z) := by
  obtain ⟨h1, h2, h3, h4, h5⟩ := h
  exact ⟨by simpa using h1, by go_simp, by go_simp, by go_simp, by go_simp⟩

theorem RoomAt.set1 {w : World} {b o : Nat} {r : Int × Int} (h : RoomAt w b o r) (z : Int) : RoomAt (w.setCell ⟨b, o, none⟩ (.int .i64 z)) b o (z, r.2) := by
  obtain ⟨h1, h2, h3, h4, h5⟩ := h
  exact ⟨by simpa using h1, by go_simp, by go_simp, by go_simp, by go_simp⟩

theorem room_only {b o o' : Nat} {r : Int × Int} {v : Value} {w W w' : World} (h1 : b < w.heap.size) (hW : Below w.heap.size w W) (h' : Below W.heap.size (W.setCell ⟨b, o', none⟩ v) w') (hr : RoomAt (W.setCell ⟨b, o', none⟩ v) b o r) :
    RoomAt w' b o r ∧ Below b w w' ∧ ∀ q, q ≠ b → q < w.heap.size → w'.heap[q]? = w.heap[q]? := by
  have hs := hW.size
  have e : (W.setCell ⟨b, o', none⟩ v).heap.size = W.heap.size := by simp [World.setCell]
  refine ⟨hr.below (by rw [e]; exact h'), ?_, fun q hq hlt => ?_⟩
  · exact below_tr (hW.mono (by omega)) (below_tr ((Below.refl _ _).setCell (by simp) _) (h'.mono (by omega)))
  · rw [h'.block q (by omega), Below.heap_setCell _ _ _ _ hq, hW.block q hlt]

set_option maxHeartbeats 1000000 in
theorem meet_any (b o : Nat) (r : Int × Int) (y z : Int) (w : World) (h : RoomAt w b o r) :
    Calls Try.prog 74 #[.pointer (some ⟨b, o, none⟩), .agg #[.int .i64 y, .int .i64 z]] w
      fun e w' => (∃ r, e = .returned r) ∧ Below w.heap.size ((w.setCell ⟨b, o, none⟩ (.int .i64 (max r.1 y))).setCell ⟨b, o + 1, none⟩ (.int .i64 (min r.2 z))) w' := by
  have hlt := h.1
  have H := Lib.hid h
  have H1 := Lib.hid (fun W hW => least_any b o r y W hW)
  have H2 := Lib.hid (fun W hW => most_any b o (max r.1 y, r.2) z W hW)
  clear h
  simp only at H2
  obtain ⟨lo, hi⟩ := r
  simp only at H1 H2 ⊢
  have hne : b ≠ w.heap.size := by omega
  go_enter Try.func74, Try.ntmps74
  go_wp2_with fail
  have R1 := Lib.hid (H.out.below (w' := w.alloc (.cells #[.int .i64 y, .int .i64 z] 103)) (by (repeat (first | with_reducible exact Below.refl _ _ | ((with_reducible refine Below.setCell ?_ ?_ _); rotate_left; (focus (first | omega | (simp; done) | (simp; omega)))) | ((with_reducible refine Below.alloc ?_ ?_ _); rotate_left; (focus (first | omega | (simp; done) | (simp; omega)))) | (with_reducible refine Below.drew ?_) | (with_reducible refine below_drewN ?_ _)))))
  (with_reducible refine (H1.out _ R1.out).mono ?_)
  rintro e w1 ⟨⟨r1, rfl⟩, b1⟩
  have R2 := Lib.hid ((R1.out.set1 (max lo y)).below (w' := w1) (by simpa using b1))
  have c1 : w1.cell? ⟨w.heap.size, 1, none⟩ = some (.int .i64 z) := (b1.cell (by simp)).trans (by go_simp)
  have s1 : w.heap.size + 1 ≤ w1.heap.size := by have := b1.size; simpa using this
  have B1 := Lib.hid b1
  clear b1
  go_wp2_with fail
  (with_reducible refine (H2.out _ R2.out).mono ?_)
  rintro e w2 ⟨⟨r2, rfl⟩, b2⟩
  have B2 := Lib.hid b2
  clear b2
  go_wp2_with fail
  go_end0
  refine ⟨⟨_, rfl⟩, ?_⟩
  have b1 := B1.out
  rw [World.size_alloc] at b1
  have g1 : Below w.heap.size (w.setCell ⟨b, o, none⟩ (.int .i64 (max lo y))) w1 := below_tr (below_set (show Below w.heap.size w (w.alloc (.cells #[.int .i64 y, .int .i64 z] 103)) by (repeat (first | with_reducible exact Below.refl _ _ | ((with_reducible refine Below.setCell ?_ ?_ _); rotate_left; (focus (first | omega | (simp; done) | (simp; omega)))) | ((with_reducible refine Below.alloc ?_ ?_ _); rotate_left; (focus (first | omega | (simp; done) | (simp; omega)))) | (with_reducible refine Below.drew ?_) | (with_reducible refine below_drewN ?_ _)))) _ _) (b1.mono (by omega))
  exact below_tr (below_set g1 _ _) (B2.out.mono (by omega))
end Go.Proofs.Ytopodhcgfmpphaa
