/-
  Walks of copseref01: whole numbers turned, and multiplied.
-/
import Derived.Test.YticpmcghdoiceaaRefTimes
namespace Go.Proofs.Yticpmcghdoiceaa
open Go.RowKit

attribute [local go_sem ↓] Go.wp_at_zero Go.wp_at_succ

theorem Sm.ok {z : Int} (h : Ok64 z) : Sm z.natAbs := Sm.of (k := 4) (by unfold Ok64 at h; omega) (by omega)

set_option maxRecDepth 100000 in
set_option maxHeartbeats 400000 in
theorem turn_any (v : Value) (z : Int) (w : World) (h : WholeR w v z) :
    Calls Try.prog 79 #[v] w fun e w' => ∃ v', e = .returned v' ∧ WholeR w' v' (-z) ∧ Below w.heap.size w w' := by
  obtain ⟨neg, vb, rfl, h1, h2, h3⟩ := h
  have H1 := Lib.hid h1
  obtain ⟨a, c, rfl, _, _, _, _⟩ := h1
  have H2 := Lib.hid h2; clear h2
  have H3 := Lib.hid h3; clear h3
  go_enter Try.func79, Try.ntmps79
  go_wp2
  refine bodyPost_ret (v := .agg #[.bool (!neg), .slice a (digs z.natAbs).length c]) (by simp [results, Try.results79, go_sem, *]) rfl ⟨_, rfl, ⟨_, _, rfl, ?_, fun h => ?_, fun h => ?_⟩, ?_⟩
  · rw [Int.natAbs_neg]
    exact H1.out.below (by (repeat (first | with_reducible exact Below.refl _ _ | ((with_reducible refine Below.setCell ?_ ?_ _); rotate_left; (focus (first | omega | (simp; done) | (simp; omega)))) | ((with_reducible refine Below.alloc ?_ ?_ _); rotate_left; (focus (first | omega | (simp; done) | (simp; omega)))) | (with_reducible refine Below.drew ?_) | (with_reducible refine below_drewN ?_ _))))
  · have := H3.out (by simpa using h); omega
  · have := H2.out (by simpa using h); omega
  · (repeat (first | with_reducible exact Below.refl _ _ | ((with_reducible refine Below.setCell ?_ ?_ _); rotate_left; (focus (first | omega | (simp; done) | (simp; omega)))) | ((with_reducible refine Below.alloc ?_ ?_ _); rotate_left; (focus (first | omega | (simp; done) | (simp; omega)))) | (with_reducible refine Below.drew ?_) | (with_reducible refine below_drewN ?_ _)))

set_option maxRecDepth 100000 in
set_option maxHeartbeats 1000000 in
theorem product_any (va vb : Value) (a b : Int) (w : World) (ha : WholeR w va a) (hb : WholeR w vb b) (sa : (digs a.natAbs).length ≤ 1000) (sb : (digs b.natAbs).length ≤ 1000) :
    Calls Try.prog 77 #[va, vb] w fun e w' => WholeP w e w' (a * b) := by
  obtain ⟨na, xa, rfl, ha1, ha2, ha3⟩ := ha
  obtain ⟨nb, xb, rfl, hb1, hb2, hb3⟩ := hb
  have HA2 := Lib.hid ha2; clear ha2
  have HB2 := Lib.hid hb2; clear hb2
  have HA3 := Lib.hid ha3; clear ha3
  have HB3 := Lib.hid hb3; clear hb3
  have hb0 : Below w.heap.size w (((w.alloc (.cells #[.bool na, xa] 103)).alloc (.cells #[.bool nb, xb] 103)).alloc (.cells #[.bool false, .slice none 0 0] 103)) :=
      (((Below.refl _ _).alloc (Nat.le_refl _) _).alloc (by simp) _).alloc (by simp; omega) _
  have HA1 := Lib.hid (ha1.below hb0)
  have HB1 := Lib.hid (hb1.below hb0)
  clear ha1 hb1
  have HS : Hid ((digs a.natAbs).length ≤ 1000 ∧ (digs b.natAbs).length ≤ 1000) := ⟨sa, sb⟩
  clear sa sb
  have HBZ := Lib.hid hb0; clear hb0
  go_enter Try.func77, Try.ntmps77
  go_wp2
  go_region_held3 (fun w' => w'.cell? ⟨w.heap.size, 0, none⟩ = some (.bool na) ∧ w'.cell? ⟨w.heap.size + 1, 0, none⟩ = some (.bool nb) ∧ w'.cell? ⟨w.heap.size, 1, none⟩ = some (xa) ∧ w'.cell? ⟨w.heap.size + 1, 1, none⟩ = some (xb)) (first | (go_simp; done) | (go_keep; done) | (refine ⟨?_, ?_, ?_, ?_⟩ <;> first | (go_simp; done) | (go_keep; done))) (first | (go_at_call 18; refine (times_any _ _ a.natAbs b.natAbs _ (HA1.out.drewN 1) (HB1.out.drewN 1) HS.out.1 HS.out.2).mono ?_; rintro e w1 ⟨v, rfl, hv, hfv, hbw⟩; obtain ⟨av, cv, hve⟩ := hv.shape; subst hve; have c0_0 := hbw.cell (p := ⟨w.heap.size, 0, none⟩) (by first | omega | (simp <;> omega)); have f0_0 := hbw.frozen (p := ⟨w.heap.size, 0, none⟩) (by first | omega | (simp <;> omega)); have c0_1 := hbw.cell (p := ⟨w.heap.size, 1, none⟩) (by first | omega | (simp <;> omega)); have f0_1 := hbw.frozen (p := ⟨w.heap.size, 1, none⟩) (by first | omega | (simp <;> omega)); have c1_0 := hbw.cell (p := ⟨w.heap.size + 1, 0, none⟩) (by first | omega | (simp <;> omega)); have f1_0 := hbw.frozen (p := ⟨w.heap.size + 1, 0, none⟩) (by first | omega | (simp <;> omega)); have c1_1 := hbw.cell (p := ⟨w.heap.size + 1, 1, none⟩) (by first | omega | (simp <;> omega)); have f1_1 := hbw.frozen (p := ⟨w.heap.size + 1, 1, none⟩) (by first | omega | (simp <;> omega)); have c2_0 := hbw.cell (p := ⟨w.heap.size + 1 + 1, 0, none⟩) (by first | omega | (simp <;> omega)); have f2_0 := hbw.frozen (p := ⟨w.heap.size + 1 + 1, 0, none⟩) (by first | omega | (simp <;> omega)); have c2_1 := hbw.cell (p := ⟨w.heap.size + 1 + 1, 1, none⟩) (by first | omega | (simp <;> omega)); have f2_1 := hbw.frozen (p := ⟨w.heap.size + 1 + 1, 1, none⟩) (by first | omega | (simp <;> omega)); have hz : w.heap.size + 1 + 1 < w1.heap.size := by have := hbw.size; simp at this; omega))
  go_wp2
  have e0 : (a * b).natAbs = a.natAbs * b.natAbs := Int.natAbs_mul a b
  refine bodyPost_ret (v := .agg #[.bool (!na == nb), .slice av (digs (a.natAbs * b.natAbs)).length cv]) (by simp [results, Try.results77, go_sem, *]) rfl ⟨_, rfl, ⟨_, _, rfl, ?_, fun h => ?_, fun h => ?_⟩, ⟨_, _, rfl, hfv.mono (by simp; omega)⟩, ?_⟩
  · rw [e0]; exact (hv.setCell hfv (by simp) _).setCell hfv (by simp) _
  · cases na <;> cases nb <;> simp at h
    · exact Int.mul_nonpos_of_nonneg_of_nonpos (HA3.out rfl) (HB2.out rfl)
    · exact Int.mul_nonpos_of_nonpos_of_nonneg (HA2.out rfl) (HB3.out rfl)
  · cases na <;> cases nb <;> simp at h
    · exact Int.mul_nonneg (HA3.out rfl) (HB3.out rfl)
    · exact Int.mul_nonneg_of_nonpos_of_nonpos (HA2.out rfl) (HB2.out rfl)
  · exact ((HBZ.out.drew.trans (hbw.mono (by simp; omega))).setCell (by simp; omega) _).setCell (by simp; omega) _

end Go.Proofs.Yticpmcghdoiceaa
