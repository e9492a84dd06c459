/-
  Walks of copseref01's whole numbers with a sign.
-/
import Derived.Test.YtoljilbldkbjpaaRefBig2
namespace Go.Proofs.Ytoljilbldkbjpaa
open Go.RowKit

def WholeR (w : World) (v : Value) (z : Int) : Prop :=
  ∃ neg vb, v = .agg #[.bool neg, vb] ∧ Ints .i64 w vb (digs z.natAbs) ∧ (neg = true → z ≤ 0) ∧ (neg = false → 0 ≤ z)

theorem WholeR.below {w w' : World} {v : Value} {z : Int} (h : WholeR w v z) (hb : Below w.heap.size w w') : WholeR w' v z := by
  obtain ⟨neg, vb, rfl, h1, h2, h3⟩ := h
  exact ⟨neg, vb, rfl, h1.below hb, h2, h3⟩

def Sm (n : Nat) : Prop := (digs n).length ≤ 400000
theorem Sm.of {n : Nat} {k : Nat} (h : n < 65536 ^ k) (hk : k ≤ 400000) : Sm n := Nat.le_trans (digs_len n k h) hk

def WFresh (B : Nat) (v : Value) : Prop := ∃ neg vb, v = .agg #[.bool neg, vb] ∧ Fresh B vb
def WholeP (w : World) (e : Ending) (w' : World) (z : Int) : Prop := ∃ v, e = .returned v ∧ WholeR w' v z ∧ WFresh w.heap.size v ∧ Below w.heap.size w w'

attribute [local go_sem ↓] Go.wp_at_zero Go.wp_at_succ

set_option maxRecDepth 100000 in
set_option maxHeartbeats 400000 in
theorem int_any (a : Int) (w : World) (h1 : -9223372036854775808 ≤ a) (h2 : a ≤ 9223372036854775807) :
    Calls Try.prog 97 #[.int .i64 a] w fun e w' => WholeP w e w' a := by
  have hb0 : Below w.heap.size w (w.alloc (.cells #[.bool false, .slice none 0 0] 117)) := (Below.refl _ _).alloc (Nat.le_refl _) _
  by_cases hn : a < 0
  · have hof := of_any a.natAbs (w.alloc (.cells #[.bool false, .slice none 0 0] 117)) (by omega)
    rw [show ((a.natAbs : Nat) : Int) = -(a + 1) + 1 by omega] at hof
    have HOF := Lib.hid hof; clear hof
    go_enter Try.func97, Try.ntmps97
    go_wp2_with (go_at_call 104; refine (HOF.out).mono ?_; rintro e w1 ⟨v, rfl, hv, hfv, hbw⟩; obtain ⟨av, cv, hve⟩ := hv.shape; subst hve; have c0_0 := hbw.cell (p := ⟨w.heap.size, 0, none⟩) (by first | omega | (simp <;> omega)); have f0_0 := hbw.frozen (p := ⟨w.heap.size, 0, none⟩) (by first | omega | (simp <;> omega)); have c0_1 := hbw.cell (p := ⟨w.heap.size, 1, none⟩) (by first | omega | (simp <;> omega)); have f0_1 := hbw.frozen (p := ⟨w.heap.size, 1, none⟩) (by first | omega | (simp <;> omega)); have hz : w.heap.size < w1.heap.size := by have := hbw.size; simp at this; omega)
    refine bodyPost_ret (v := .agg #[.bool true, .slice av (digs a.natAbs).length cv]) (by simp [results, Try.results97, go_sem, *]) rfl ⟨_, rfl, ⟨_, _, rfl, ?_, by omega, by simp⟩, ⟨_, _, rfl, hfv.mono (by simp)⟩, ?_⟩
    · exact (hv.setCell hfv (by simp) _).setCell hfv (by simp) _
    · exact ((hb0.trans (hbw.mono (by simp))).setCell (Nat.le_refl _) _).setCell (Nat.le_refl _) _
  · have hof := of_any a.natAbs (w.alloc (.cells #[.bool false, .slice none 0 0] 117)) (by omega)
    rw [show ((a.natAbs : Nat) : Int) = a by omega] at hof
    have HOF := Lib.hid hof; clear hof
    go_enter Try.func97, Try.ntmps97
    go_wp2_with (go_at_call 104; refine (HOF.out).mono ?_; rintro e w1 ⟨v, rfl, hv, hfv, hbw⟩; obtain ⟨av, cv, hve⟩ := hv.shape; subst hve; have c0_0 := hbw.cell (p := ⟨w.heap.size, 0, none⟩) (by first | omega | (simp <;> omega)); have f0_0 := hbw.frozen (p := ⟨w.heap.size, 0, none⟩) (by first | omega | (simp <;> omega)); have c0_1 := hbw.cell (p := ⟨w.heap.size, 1, none⟩) (by first | omega | (simp <;> omega)); have f0_1 := hbw.frozen (p := ⟨w.heap.size, 1, none⟩) (by first | omega | (simp <;> omega)); have hz : w.heap.size < w1.heap.size := by have := hbw.size; simp at this; omega)
    refine bodyPost_ret (v := .agg #[.bool false, .slice av (digs a.natAbs).length cv]) (by simp [results, Try.results97, go_sem, *]) rfl ⟨_, rfl, ⟨_, _, rfl, ?_, by simp, by omega⟩, ⟨_, _, rfl, hfv.mono (by simp)⟩, ?_⟩
    · exact (hv.setCell hfv (by simp) _).setCell hfv (by simp) _
    · exact ((hb0.trans (hbw.mono (by simp))).setCell (Nat.le_refl _) _).setCell (Nat.le_refl _) _

theorem shape_agg {w : World} {v : Value} {z : Int} (h : WholeR w v z) : ∃ neg a n c, v = .agg #[.bool neg, .slice a n c] := by
  obtain ⟨neg, vb, rfl, h1, _⟩ := h
  obtain ⟨a, c, rfl⟩ := h1.shape
  exact ⟨_, _, _, _, rfl⟩

set_option maxRecDepth 100000 in
set_option maxHeartbeats 1000000 in
theorem both_any (va vb : Value) (a b : Int) (w : World) (ha : WholeR w va a) (hb : WholeR w vb b) (sa : Sm a.natAbs) (sb : Sm b.natAbs) :
    Calls Try.prog 96 #[va, vb] w fun e w' => WholeP w e w' (a + b) := by
  obtain ⟨na, xa, rfl, ha1, ha2, ha3⟩ := ha
  obtain ⟨nb, xb, rfl, hb1, hb2, hb3⟩ := hb
  have HA2 := Lib.hid ha2; clear ha2
  have HB2 := Lib.hid hb2; clear hb2
  have HA3 := Lib.hid ha3; clear ha3
  have HB3 := Lib.hid hb3; clear hb3
  have hb0 : Below w.heap.size w (((w.alloc (.cells #[.bool na, xa] 117)).alloc (.cells #[.bool nb, xb] 117)).alloc (.cells #[.bool false, .slice none 0 0] 117)) :=
      (((Below.refl _ _).alloc (Nat.le_refl _) _).alloc (by simp) _).alloc (by simp; omega) _
  have HA1 := Lib.hid (ha1.below hb0)
  have HB1 := Lib.hid (hb1.below hb0)
  clear ha1 hb1
  have HS : Hid ((digs a.natAbs).length + (digs b.natAbs).length ≤ 1000000 ∧ (digs a.natAbs).length ≤ 1000000 ∧ (digs b.natAbs).length ≤ 1000000) := by unfold Sm at sa sb; exact ⟨by omega, by omega, by omega⟩
  clear sa sb
  have HBZ := Lib.hid hb0; clear hb0
  by_cases hs : na = nb
  · subst hs
    have hq : (na == na) = true := by simp
    go_enter Try.func96, Try.ntmps96
    go_wp2
    go_region_held3 (fun w' => w'.cell? ⟨w.heap.size, 0, none⟩ = some (.bool na) ∧ w'.cell? ⟨w.heap.size, 1, none⟩ = some (xa) ∧ w'.cell? ⟨w.heap.size + 1, 1, none⟩ = some (xb)) (first | (go_simp; done) | (go_keep; done) | (refine ⟨?_, ?_, ?_⟩ <;> first | (go_simp; done) | (go_keep; done))) (first | (go_at_call 106; refine (plus_any _ _ a.natAbs b.natAbs _ (HA1.out.drewN 1) (HB1.out.drewN 1) HS.out.1).mono ?_; rintro e w1 ⟨v, rfl, hv, hfv, hbw⟩; obtain ⟨av, cv, hve⟩ := hv.shape; subst hve; have c0_0 := hbw.cell (p := ⟨w.heap.size, 0, none⟩) (by first | omega | (simp <;> omega)); have f0_0 := hbw.frozen (p := ⟨w.heap.size, 0, none⟩) (by first | omega | (simp <;> omega)); have c0_1 := hbw.cell (p := ⟨w.heap.size, 1, none⟩) (by first | omega | (simp <;> omega)); have f0_1 := hbw.frozen (p := ⟨w.heap.size, 1, none⟩) (by first | omega | (simp <;> omega)); have c1_0 := hbw.cell (p := ⟨w.heap.size + 1, 0, none⟩) (by first | omega | (simp <;> omega)); have f1_0 := hbw.frozen (p := ⟨w.heap.size + 1, 0, none⟩) (by first | omega | (simp <;> omega)); have c1_1 := hbw.cell (p := ⟨w.heap.size + 1, 1, none⟩) (by first | omega | (simp <;> omega)); have f1_1 := hbw.frozen (p := ⟨w.heap.size + 1, 1, none⟩) (by first | omega | (simp <;> omega)); have c2_0 := hbw.cell (p := ⟨w.heap.size + 1 + 1, 0, none⟩) (by first | omega | (simp <;> omega)); have f2_0 := hbw.frozen (p := ⟨w.heap.size + 1 + 1, 0, none⟩) (by first | omega | (simp <;> omega)); have c2_1 := hbw.cell (p := ⟨w.heap.size + 1 + 1, 1, none⟩) (by first | omega | (simp <;> omega)); have f2_1 := hbw.frozen (p := ⟨w.heap.size + 1 + 1, 1, none⟩) (by first | omega | (simp <;> omega)); have hz : w.heap.size + 1 + 1 < w1.heap.size := by have := hbw.size; simp at this; omega))
    go_wp2
    have e0 : (a + b).natAbs = a.natAbs + b.natAbs := by
      have := HA2.out; have := HB2.out; have := HA3.out; have := HB3.out
      cases na <;> simp_all <;> omega
    refine bodyPost_ret (v := .agg #[.bool na, .slice av (digs (a.natAbs + b.natAbs)).length cv]) (by simp [results, Try.results96, go_sem, *]) rfl ⟨_, rfl, ⟨_, _, rfl, ?_, fun h => ?_, fun h => ?_⟩, ⟨_, _, rfl, hfv.mono (by simp; omega)⟩, ?_⟩
    · rw [e0]; exact (hv.setCell hfv (by simp) _).setCell hfv (by simp) _
    · have := HA2.out h; have := HB2.out h; omega
    · have := HA3.out h; have := HB3.out h; omega
    · exact ((HBZ.out.drew.trans (hbw.mono (by simp; omega))).setCell (by simp; omega) _).setCell (by simp; omega) _
  · have hq : (na == nb) = false := by simp [hs]
    have HNN := Lib.hid hs; clear hs
    have hor := order_any xa xb a.natAbs b.natAbs _ HA1.out HB1.out
    have HOR := Lib.hid hor; clear hor
    obtain ⟨r, hr⟩ : ∃ r, ordI a.natAbs b.natAbs = r := ⟨_, rfl⟩
    rw [hr] at HOR
    by_cases hge : 0 ≤ r
    · have hle : b.natAbs ≤ a.natAbs := by rw [← hr] at hge; unfold ordI at hge; split at hge <;> omega
      have HR := Lib.hid hr; clear hr
      go_enter Try.func96, Try.ntmps96
      go_wp2_with (go_at_call 105; refine HOR.out.mono ?_; rintro e w0 ⟨rfl, d, rfl⟩)
      go_region_held3 (fun w' => w'.cell? ⟨w.heap.size, 0, none⟩ = some (.bool na) ∧ w'.cell? ⟨w.heap.size, 1, none⟩ = some (xa) ∧ w'.cell? ⟨w.heap.size + 1, 1, none⟩ = some (xb)) (first | (go_simp; done) | (go_keep; done) | (refine ⟨?_, ?_, ?_⟩ <;> first | (go_simp; done) | (go_keep; done))) (first | (go_at_call 107; refine (minus_any _ _ a.natAbs b.natAbs _ (HA1.out.drewN _) (HB1.out.drewN _) HS.out.2.1 hle).mono ?_; rintro e w1 ⟨v, rfl, hv, hfv, hbw⟩; obtain ⟨av, cv, hve⟩ := hv.shape; subst hve; have c0_0 := hbw.cell (p := ⟨w.heap.size, 0, none⟩) (by first | omega | (simp <;> omega)); have f0_0 := hbw.frozen (p := ⟨w.heap.size, 0, none⟩) (by first | omega | (simp <;> omega)); have c0_1 := hbw.cell (p := ⟨w.heap.size, 1, none⟩) (by first | omega | (simp <;> omega)); have f0_1 := hbw.frozen (p := ⟨w.heap.size, 1, none⟩) (by first | omega | (simp <;> omega)); have c1_0 := hbw.cell (p := ⟨w.heap.size + 1, 0, none⟩) (by first | omega | (simp <;> omega)); have f1_0 := hbw.frozen (p := ⟨w.heap.size + 1, 0, none⟩) (by first | omega | (simp <;> omega)); have c1_1 := hbw.cell (p := ⟨w.heap.size + 1, 1, none⟩) (by first | omega | (simp <;> omega)); have f1_1 := hbw.frozen (p := ⟨w.heap.size + 1, 1, none⟩) (by first | omega | (simp <;> omega)); have c2_0 := hbw.cell (p := ⟨w.heap.size + 1 + 1, 0, none⟩) (by first | omega | (simp <;> omega)); have f2_0 := hbw.frozen (p := ⟨w.heap.size + 1 + 1, 0, none⟩) (by first | omega | (simp <;> omega)); have c2_1 := hbw.cell (p := ⟨w.heap.size + 1 + 1, 1, none⟩) (by first | omega | (simp <;> omega)); have f2_1 := hbw.frozen (p := ⟨w.heap.size + 1 + 1, 1, none⟩) (by first | omega | (simp <;> omega)); have hz : w.heap.size + 1 + 1 < w1.heap.size := by have := hbw.size; simp at this; omega))
      go_wp2
      have e0 : (a + b).natAbs = a.natAbs - b.natAbs := by
        have := HA2.out; have := HB2.out; have := HA3.out; have := HB3.out; have := HNN.out
        cases na <;> cases nb <;> simp_all <;> omega
      refine bodyPost_ret (v := .agg #[.bool na, .slice av (digs (a.natAbs - b.natAbs)).length cv]) (by simp [results, Try.results96, go_sem, *]) rfl ⟨_, rfl, ⟨_, _, rfl, ?_, fun h => ?_, fun h => ?_⟩, ⟨_, _, rfl, hfv.mono (by simp; omega)⟩, ?_⟩
      · rw [e0]; exact (hv.setCell hfv (by simp) _).setCell hfv (by simp) _
      · have := HA2.out h; omega
      · have := HA3.out h; omega
      · exact (((below_drewN HBZ.out _).trans (hbw.mono (by simp; omega))).setCell (by simp; omega) _).setCell (by simp; omega) _
    · have hle : a.natAbs < b.natAbs := by rw [← hr] at hge; unfold ordI at hge; split at hge <;> omega
      have HR := Lib.hid hr; clear hr
      go_enter Try.func96, Try.ntmps96
      go_wp2_with (go_at_call 105; refine HOR.out.mono ?_; rintro e w0 ⟨rfl, d, rfl⟩)
      go_region_held3 (fun w' => w'.cell? ⟨w.heap.size + 1, 0, none⟩ = some (.bool nb) ∧ w'.cell? ⟨w.heap.size, 1, none⟩ = some (xa) ∧ w'.cell? ⟨w.heap.size + 1, 1, none⟩ = some (xb)) (first | (go_simp; done) | (go_keep; done) | (refine ⟨?_, ?_, ?_⟩ <;> first | (go_simp; done) | (go_keep; done))) (first | (go_at_call 107; refine (minus_any _ _ b.natAbs a.natAbs _ (HB1.out.drewN _) (HA1.out.drewN _) HS.out.2.2 (Nat.le_of_lt hle)).mono ?_; rintro e w1 ⟨v, rfl, hv, hfv, hbw⟩; obtain ⟨av, cv, hve⟩ := hv.shape; subst hve; have c0_0 := hbw.cell (p := ⟨w.heap.size, 0, none⟩) (by first | omega | (simp <;> omega)); have f0_0 := hbw.frozen (p := ⟨w.heap.size, 0, none⟩) (by first | omega | (simp <;> omega)); have c0_1 := hbw.cell (p := ⟨w.heap.size, 1, none⟩) (by first | omega | (simp <;> omega)); have f0_1 := hbw.frozen (p := ⟨w.heap.size, 1, none⟩) (by first | omega | (simp <;> omega)); have c1_0 := hbw.cell (p := ⟨w.heap.size + 1, 0, none⟩) (by first | omega | (simp <;> omega)); have f1_0 := hbw.frozen (p := ⟨w.heap.size + 1, 0, none⟩) (by first | omega | (simp <;> omega)); have c1_1 := hbw.cell (p := ⟨w.heap.size + 1, 1, none⟩) (by first | omega | (simp <;> omega)); have f1_1 := hbw.frozen (p := ⟨w.heap.size + 1, 1, none⟩) (by first | omega | (simp <;> omega)); have c2_0 := hbw.cell (p := ⟨w.heap.size + 1 + 1, 0, none⟩) (by first | omega | (simp <;> omega)); have f2_0 := hbw.frozen (p := ⟨w.heap.size + 1 + 1, 0, none⟩) (by first | omega | (simp <;> omega)); have c2_1 := hbw.cell (p := ⟨w.heap.size + 1 + 1, 1, none⟩) (by first | omega | (simp <;> omega)); have f2_1 := hbw.frozen (p := ⟨w.heap.size + 1 + 1, 1, none⟩) (by first | omega | (simp <;> omega)); have hz : w.heap.size + 1 + 1 < w1.heap.size := by have := hbw.size; simp at this; omega))
      go_wp2
      have e0 : (a + b).natAbs = b.natAbs - a.natAbs := by
        have := HA2.out; have := HB2.out; have := HA3.out; have := HB3.out; have := HNN.out
        cases na <;> cases nb <;> simp_all <;> omega
      refine bodyPost_ret (v := .agg #[.bool nb, .slice av (digs (b.natAbs - a.natAbs)).length cv]) (by simp [results, Try.results96, go_sem, *]) rfl ⟨_, rfl, ⟨_, _, rfl, ?_, fun h => ?_, fun h => ?_⟩, ⟨_, _, rfl, hfv.mono (by simp; omega)⟩, ?_⟩
      · rw [e0]; exact (hv.setCell hfv (by simp) _).setCell hfv (by simp) _
      · have := HB2.out h; omega
      · have := HB3.out h; omega
      · exact (((below_drewN HBZ.out _).trans (hbw.mono (by simp; omega))).setCell (by simp; omega) _).setCell (by simp; omega) _
end Go.Proofs.Ytoljilbldkbjpaa
