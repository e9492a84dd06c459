/-
  Walks of copseref01: sums of lists.
-/
import Derived.Test.YtfbodloidogliaaRefDiv
import Derived.Test.YtfbodloidogliaaNumD
namespace Go.Proofs.Ytfbodloidogliaa
open Go.RowKit

attribute [local go_sem ↓] Go.wp_at_zero Go.wp_at_succ

theorem Near.sm {z : Int} (h : Near z) : Sm z.natAbs := Sm.of (k := 12) (by unfold Near at h; omega) (by omega)

theorem All64.take {l : List Int} (h : All64 l) (k : Nat) : All64 (l.take k) := fun x hx => h x (List.mem_of_mem_take hx)

theorem sum_near {l : List Int} (h : All64 l) (hl : l.length ≤ 1000000) : Near (sumZ l) := by
  have := sumZ_bd h
  unfold Near; omega

theorem whole_parts {w : World} {v : Value} {z : Int} {B : Nat} (h : WholeR w v z) (hf : WFresh B v) : ∃ neg a n c, v = .agg #[.bool neg, .slice a n c] ∧ Fresh B (.slice a n c) := by
  obtain ⟨neg, vb, e, h1, _⟩ := h
  obtain ⟨a, c, rfl⟩ := h1.shape
  obtain ⟨neg', vb', e', hf⟩ := hf
  rw [e] at e'
  injection e' with e'
  injection e' with e'
  simp at e'
  obtain ⟨_, rfl⟩ := e'
  exact ⟨_, _, _, _, e, hf⟩

theorem WholeR.setCell {w : World} {neg : Bool} {a : Option Addr} {n c : Nat} {z : Int} {B : Nat} {A : Addr} (h : WholeR w (.agg #[.bool neg, .slice a n c]) z) (hf : Fresh B (.slice a n c)) (hA : A.block < B) (u : Value) : WholeR (w.setCell A u) (.agg #[.bool neg, .slice a n c]) z := by
  obtain ⟨neg', vb, e, h1, h2, h3⟩ := h
  injection e with e
  injection e with e
  simp at e
  obtain ⟨rfl, rfl⟩ := e
  exact ⟨_, _, rfl, h1.setCell hf hA u, h2, h3⟩

set_option maxRecDepth 100000 in
set_option maxHeartbeats 1000000 in
theorem rsum_any (v : Value) (l : List Int) (w : World) (h : Ints .i64 w v l) (hl : All64 l) (hlen : l.length ≤ 1000000) :
    Calls Try.prog 17 #[v] w fun e w' => FitB w e w' (sumZ l) := by
  obtain ⟨a, c, rfl, _, _, h3, h⟩ := h
  have H := Lib.hid h; clear h
  have HL := Lib.hid hl; clear hl
  go_enter Try.func17, Try.ntmps17
  go_wp2
  go_loopw [5] (fun i wr => ∃ (k : Nat) (z : Int) (neg : Bool) (a' : Option Addr) (n' c' : Nat), i = .int .i64 k ∧ k ≤ l.length ∧ sumZ (l.take k) = z ∧ WholeR wr (.agg #[.bool neg, .slice a' n' c']) z ∧ Fresh (w.heap.size + 1) (.slice a' n' c') ∧ wr.cell? ⟨w.heap.size, 0, none⟩ = some (.bool neg) ∧ wr.cell? ⟨w.heap.size, 1, none⟩ = some (.slice a' n' c') ∧ wr.frozen? ⟨w.heap.size, 0, none⟩ = false ∧ wr.frozen? ⟨w.heap.size, 1, none⟩ = false ∧ w.heap.size < wr.heap.size ∧ Below w.heap.size w wr) (fun i _ => l.length - (intOf i).toNat)
  case atStart =>
    exact ⟨0, 0, false, none, 0, 0, rfl, by omega, rfl, ⟨_, _, rfl, by simp [digs_zero]; exact Ints.nil _ _, by simp, by simp⟩, fun a n c e _ => (by simp at e), by simp, by simp, by simp, by simp, by simp, (Below.refl _ _).alloc (Nat.le_refl _) _⟩
  case round =>
    obtain ⟨k, z, neg, a', n', c', rfl, hk, hz, hw, hfr, c0, c1, f0, f1, hsz, hb⟩ := hrel
    have HZ := Lib.hid hz; clear hz
    have HW := Lib.hid hw; clear hw
    have hnz : Near z := by rw [← HZ.out]; exact sum_near (HL.out.take k) (by simp; omega)
    have HNZ := Lib.hid hnz; clear hnz
    by_cases hlt : k < l.length
    · obtain ⟨x, hx⟩ := getElem?_ex hlt
      obtain ⟨b1, o1, rfl, hb1, hc1⟩ := H.out k x hx
      have hx64 := HL.out x (List.mem_of_getElem? hx)
      have cx := (hb.cell (p := ⟨b1, o1 + k, none⟩) hb1).trans hc1
      have HX := Lib.hid hx; clear hx hc1
      have i1 : (0 : Int) ≤ (k : Int) := by omega
      have i2 : (k : Int) < (l.length : Int) := by omega
      have HX64 := Lib.hid hx64; clear hx64
      go_wp2
      go_region_with (first | (go_at_call 79; refine (int_any x _ HX64.out.1 HX64.out.2).mono ?_; rintro e w1 ⟨v1, rfl, hv1, hf1, hb1'⟩; obtain ⟨neg1, a1, n1, cc1, rfl, hf1'⟩ := whole_parts hv1 hf1; have d0 := (hb1'.cell (p := ⟨w.heap.size, 0, none⟩) hsz).trans c0; have d1 := (hb1'.cell (p := ⟨w.heap.size, 1, none⟩) hsz).trans c1; have g0 := (hb1'.frozen (p := ⟨w.heap.size, 0, none⟩) hsz).trans f0; have g1 := (hb1'.frozen (p := ⟨w.heap.size, 1, none⟩) hsz).trans f1) | (go_at_call 78; refine (both_any _ _ z x _ ((HW.out.below (Below.drew (Below.refl _ _))).below hb1') hv1 HNZ.out.sm (Sm.ok HX64.out)).mono ?_; rintro e w2 ⟨v2, rfl, hv2, hf2, hb2'⟩; obtain ⟨neg2, a2, n2, cc2, rfl, hf2'⟩ := whole_parts hv2 hf2; have hz1 := Nat.lt_of_lt_of_le hsz hb1'.size; have e0 := (hb2'.cell (p := ⟨w.heap.size, 0, none⟩) hz1).trans d0; have e1 := (hb2'.cell (p := ⟨w.heap.size, 1, none⟩) hz1).trans d1; have k0 := (hb2'.frozen (p := ⟨w.heap.size, 0, none⟩) hz1).trans g0; have k1 := (hb2'.frozen (p := ⟨w.heap.size, 1, none⟩) hz1).trans g1))
      all_goals
        have hz2 := Nat.lt_of_lt_of_le hz1 hb2'.size
        have hbt : Below w.heap.size w w2 := hb.trans ((Below.drew (Below.refl _ _)).trans ((hb1'.trans (hb2'.mono hb1'.size)).mono (Nat.le_of_lt hsz)))
        have hf3 : Fresh (w.heap.size + 1) (.slice a2 n2 cc2) := hf2'.mono hz1
        have HV2 := Lib.hid hv2
        have HF3 := Lib.hid hf3
        clear hv1 hv2 hf1' hf2 hf2' hf3 c0 c1 d0 d1 g0 g1 f0 f1
        go_wp2
        go_roundw
        case rel =>
          refine ⟨k + 1, z + x, neg2, a2, n2, cc2, by go_num, by omega, by rw [take_snoc' HX.out, sumZ_snoc, HZ.out], ?_, HF3.out, by go_simp, by go_simp, by go_simp, by go_simp, by simp [World.setCell]; exact hz2, ?_⟩
          · exact (HV2.out.setCell HF3.out (by simp) _).setCell HF3.out (by simp) _
          · exact (hbt.setCell (Nat.le_refl _) _).setCell (Nat.le_refl _) _
        case measure => simp [intOf] <;> omega
    · obtain rfl : k = l.length := by omega
      have hfin : sumZ l = z := by rw [← HZ.out, List.take_length]
      have HFI := Lib.hid hfin; clear hfin
      go_wp2_with (go_at_call 80; refine (fits_any _ z _ HW.out).mono ?_; rintro e w1 ⟨rfl, hbw⟩)
      go_ret2
      rw [HFI.out]
      exact ⟨rfl, hb.trans (hbw.mono (Nat.le_of_lt hsz))⟩
end Go.Proofs.Ytfbodloidogliaa
