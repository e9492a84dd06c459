/-
  Walks of copseref01: whole numbers turned, and multiplied.
-/
import Derived.Test.YtoljilbldkbjpaaRefTimes
namespace Go.Proofs.Ytoljilbldkbjpaa
open Go.RowKit

attribute [local go_sem ↓] Go.wp_at_zero Go.wp_at_succ

theorem Sm.ok {z : Int} (h : Ok64 z) : Sm z.natAbs := Sm.of (k := 4) (by unfold Ok64 at h; omega) (by omega)

set_option maxRecDepth 100000 in
set_option maxHeartbeats 400000 in
theorem turn_any (v : Value) (z : Int) (w : World) (h : WholeR w v z) :
    Calls Try.prog 98 #[v] w fun e w' => ∃ v', e = .returned v' ∧ WholeR w' v' (-z) ∧ Below w.heap.size w w' := by
  obtain ⟨neg, vb, rfl, h1, h2, h3⟩ := h
  have H1 := Lib.hid h1
  obtain ⟨a, c, rfl, _, _, _, _⟩ := h1
  have H2 := Lib.hid h2; clear h2
  have H3 := Lib.hid h3; clear h3
  go_enter Try.func98, Try.ntmps98
  go_wp2
  refine bodyPost_ret (v := .agg #[.bool (!neg), .slice a (digs z.natAbs).length c]) (by simp [results, Try.results98, go_sem, *]) rfl ⟨_, rfl, ⟨_, _, rfl, ?_, fun h => ?_, fun h => ?_⟩, ?_⟩
  · rw [Int.natAbs_neg]
    exact H1.out.below (by (repeat (first | with_reducible exact Below.refl _ _ | ((with_reducible refine Below.setCell ?_ ?_ _); rotate_left; (focus (first | omega | (simp; done) | (simp; omega)))) | ((with_reducible refine Below.alloc ?_ ?_ _); rotate_left; (focus (first | omega | (simp; done) | (simp; omega)))) | (with_reducible refine Below.drew ?_) | (with_reducible refine below_drewN ?_ _))))
  · have := H3.out (by simpa using h); omega
  · have := H2.out (by simpa using h); omega
  · (repeat (first | with_reducible exact Below.refl _ _ | ((with_reducible refine Below.setCell ?_ ?_ _); rotate_left; (focus (first | omega | (simp; done) | (simp; omega)))) | ((with_reducible refine Below.alloc ?_ ?_ _); rotate_left; (focus (first | omega | (simp; done) | (simp; omega)))) | (with_reducible refine Below.drew ?_) | (with_reducible refine below_drewN ?_ _)))

end Go.Proofs.Ytoljilbldkbjpaa
