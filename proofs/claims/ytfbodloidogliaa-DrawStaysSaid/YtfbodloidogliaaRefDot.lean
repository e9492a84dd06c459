/-
  Walks of copseref01: sums of products.
-/
import Derived.Test.YtfbodloidogliaaRefSum
namespace Go.Proofs.Ytfbodloidogliaa
open Go.RowKit

attribute [local go_sem ↓] Go.wp_at_zero Go.wp_at_succ

theorem dot_near {a b : List Int} (ha : All64 a) (hb : All64 b) (hl : a.length ≤ 1000000) : Near (dotZ a b) := by
  have := dot_bd ha hb
  unfold Near; omega

theorem len_ok {z : Int} (h : Ok64 z) : (digs z.natAbs).length ≤ 1000 := by
  have := digs_len z.natAbs 4 (by unfold Ok64 at h; omega); omega

theorem prod_sm {x y : Int} (hx : Ok64 x) (hy : Ok64 y) : Sm (x * y).natAbs := Sm.of (k := 8) (by have := mul_bd hx hy; omega) (by omega)

set_option maxRecDepth 100000 in
set_option maxHeartbeats 4000000 in
theorem rdot_any (va vb : Value) (la lb : List Int) (w : World) (ha : Ints .i64 w va la) (hb : Ints .i64 w vb lb) (hla : All64 la) (hlb : All64 lb) (hlen : la.length ≤ 1000000) :
    Calls Try.prog 19 #[va, vb] w fun e w' => e = .returned (.tuple #[.int .i64 (if la.length = lb.length then fitV (dotZ la lb) else 0), .int .i64 (if la.length = lb.length then fitE (dotZ la lb) else 1)]) ∧ Below w.heap.size w w' := by
  obtain ⟨aa, ca, rfl, _, _, h3, hA⟩ := ha
  obtain ⟨ab, cb, rfl, _, _, h3', hB⟩ := hb
  have HA := Lib.hid hA; clear hA
  have HB := Lib.hid hB; clear hB
  have HLA := Lib.hid hla; clear hla
  have HLB := Lib.hid hlb; clear hlb
  obtain ⟨q, hq⟩ : ∃ q, lb.length = q := ⟨_, rfl⟩
  rw [hq] at h3' ⊢
  have HQ := Lib.hid hq; clear hq
  by_cases hl : la.length = q
  · have hpost : ∀ (e : Ending) w', (e = .returned (.tuple #[.int .i64 (fitV (dotZ la lb)), .int .i64 (fitE (dotZ la lb))]) ∧ Below w.heap.size w w') → (e = .returned (.tuple #[.int .i64 (if la.length = q then fitV (dotZ la lb) else 0), .int .i64 (if la.length = q then fitE (dotZ la lb) else 1)]) ∧ Below w.heap.size w w') := fun e w' h => by rw [if_pos hl, if_pos hl]; exact h
    refine Calls.mono ?_ hpost
    clear hpost
    obtain rfl := hl
    have hb : ((la.length : Int) != la.length) = false := by simp
    go_enter Try.func19, Try.ntmps19
    go_wp2
    go_loopw [7] (fun i wr => ∃ (k : Nat) (z : Int) (neg : Bool) (a' : Option Addr) (n' c' : Nat), i = .int .i64 k ∧ k ≤ la.length ∧ dotZ (la.take k) (lb.take k) = z ∧ WholeR wr (.agg #[.bool neg, .slice a' n' c']) z ∧ Fresh (w.heap.size + 1) (.slice a' n' c') ∧ wr.cell? ⟨w.heap.size, 0, none⟩ = some (.bool neg) ∧ wr.cell? ⟨w.heap.size, 1, none⟩ = some (.slice a' n' c') ∧ wr.frozen? ⟨w.heap.size, 0, none⟩ = false ∧ wr.frozen? ⟨w.heap.size, 1, none⟩ = false ∧ w.heap.size < wr.heap.size ∧ Below w.heap.size w wr) (fun i _ => la.length - (intOf i).toNat)
    case atStart =>
      exact ⟨0, 0, false, none, 0, 0, rfl, by omega, rfl, ⟨_, _, rfl, by simp [digs_zero]; exact Ints.nil _ _, by simp, by simp⟩, fun a n c e _ => (by simp at e), by simp, by simp, by simp, by simp, by simp, (Below.refl _ _).alloc (Nat.le_refl _) _⟩
    case round =>
      obtain ⟨k, z, neg, a', n', c', rfl, hk, hz, hw, hfr, c0, c1, f0, f1, hsz, hb⟩ := hrel
      have HZ := Lib.hid hz; clear hz
      have HW := Lib.hid hw; clear hw
      have hnz : Near z := by rw [← HZ.out]; exact dot_near (HLA.out.take k) (HLB.out.take k) (by simp; omega)
      have HNZ := Lib.hid hnz; clear hnz
      by_cases hlt : k < la.length
      · obtain ⟨x, hx⟩ := getElem?_ex hlt
        obtain ⟨y, hy⟩ := getElem?_ex (l := lb) (k := k) (by rw [HQ.out]; exact hlt)
        obtain ⟨b1, o1, rfl, hb1, hc1⟩ := HA.out k x hx
        obtain ⟨b2, o2, rfl, hb2, hc2⟩ := HB.out k y hy
        have hx64 := HLA.out x (List.mem_of_getElem? hx)
        have hy64 := HLB.out y (List.mem_of_getElem? hy)
        have cx := (hb.cell (p := ⟨b1, o1 + k, none⟩) hb1).trans hc1
        have cy := (hb.cell (p := ⟨b2, o2 + k, none⟩) hb2).trans hc2
        have hb2r : b2 < wr.heap.size := Nat.lt_of_lt_of_le hb2 hb.size
        have HX := Lib.hid hx; clear hx hc1
        have HY := Lib.hid hy; clear hy hc2
        have i1 : (0 : Int) ≤ (k : Int) := by omega
        have i2 : (k : Int) < (la.length : Int) := by omega
        have HX64 := Lib.hid hx64; clear hx64
        have HY64 := Lib.hid hy64; clear hy64
        go_wp2
        go_region_with (first | (go_at_call_of 79 (Value.int IntKind.i64 x); refine (int_any x _ HX64.out.1 HX64.out.2).mono ?_; rintro e w1 ⟨v1, rfl, hv1, hf1, hb1'⟩; obtain ⟨neg1, a1, n1, cc1, rfl, hf1'⟩ := whole_parts hv1 hf1; have d0 := (hb1'.cell (p := ⟨w.heap.size, 0, none⟩) hsz).trans c0; have d1 := (hb1'.cell (p := ⟨w.heap.size, 1, none⟩) hsz).trans c1; have g0 := (hb1'.frozen (p := ⟨w.heap.size, 0, none⟩) hsz).trans f0; have g1 := (hb1'.frozen (p := ⟨w.heap.size, 1, none⟩) hsz).trans f1; have dy := (hb1'.cell (p := ⟨b2, o2 + k, none⟩) hb2r).trans cy; have hz1 := Nat.lt_of_lt_of_le hsz hb1'.size) | (go_at_call_of 79 (Value.int IntKind.i64 y); refine (int_any y _ HY64.out.1 HY64.out.2).mono ?_; rintro e w2 ⟨v2, rfl, hv2, hf2, hb2'⟩; obtain ⟨neg2, a2, n2, cc2, rfl, hf2'⟩ := whole_parts hv2 hf2; have e0 := (hb2'.cell (p := ⟨w.heap.size, 0, none⟩) hz1).trans d0; have e1 := (hb2'.cell (p := ⟨w.heap.size, 1, none⟩) hz1).trans d1; have k0 := (hb2'.frozen (p := ⟨w.heap.size, 0, none⟩) hz1).trans g0; have k1 := (hb2'.frozen (p := ⟨w.heap.size, 1, none⟩) hz1).trans g1; have hz2 := Nat.lt_of_lt_of_le hz1 hb2'.size) | (go_at_call 82; refine (product_any _ _ x y _ (hv1.below hb2') hv2 (len_ok HX64.out) (len_ok HY64.out)).mono ?_; rintro e w3 ⟨v3, rfl, hv3, hf3, hb3'⟩; obtain ⟨neg3, a3, n3, cc3, rfl, hf3'⟩ := whole_parts hv3 hf3; have m0 := (hb3'.cell (p := ⟨w.heap.size, 0, none⟩) hz2).trans e0; have m1 := (hb3'.cell (p := ⟨w.heap.size, 1, none⟩) hz2).trans e1; have p0 := (hb3'.frozen (p := ⟨w.heap.size, 0, none⟩) hz2).trans k0; have p1 := (hb3'.frozen (p := ⟨w.heap.size, 1, none⟩) hz2).trans k1; have hz3 := Nat.lt_of_lt_of_le hz2 hb3'.size) | (go_at_call 78; refine (both_any _ _ z (x * y) _ (((((HW.out.below (Below.drew (Below.refl _ _))).below hb1')).below hb2').below hb3') hv3 HNZ.out.sm (prod_sm HX64.out HY64.out)).mono ?_; rintro e w4 ⟨v4, rfl, hv4, hf4, hb4'⟩; obtain ⟨neg4, a4, n4, cc4, rfl, hf4'⟩ := whole_parts hv4 hf4; have q0 := (hb4'.cell (p := ⟨w.heap.size, 0, none⟩) hz3).trans m0; have q1 := (hb4'.cell (p := ⟨w.heap.size, 1, none⟩) hz3).trans m1; have r0 := (hb4'.frozen (p := ⟨w.heap.size, 0, none⟩) hz3).trans p0; have r1 := (hb4'.frozen (p := ⟨w.heap.size, 1, none⟩) hz3).trans p1))
        all_goals
          have hz4 := Nat.lt_of_lt_of_le hz3 hb4'.size
          have hbt : Below w.heap.size w w4 := hb.trans ((Below.drew (Below.refl _ _)).trans ((hb1'.trans ((hb2'.trans ((hb3'.trans (hb4'.mono hb3'.size)).mono hb2'.size)).mono hb1'.size)).mono (Nat.le_of_lt hsz)))
          have hf3 : Fresh (w.heap.size + 1) (.slice a4 n4 cc4) := hf4'.mono hz3
          have HV2 := Lib.hid hv4
          have HF3 := Lib.hid hf3
          clear hv1 hv2 hv3 hv4 hf1' hf2 hf2' hf3 hf3' hf4 hf4' c0 c1 d0 d1 g0 g1 f0 f1 e0 e1 k0 k1 m0 m1 p0 p1 dy
          go_wp2
          go_roundw
          case rel =>
            refine ⟨k + 1, z + x * y, neg4, a4, n4, cc4, by go_num, by omega, by unfold dotZ at *; rw [take_snoc' HX.out, take_snoc' HY.out, List.zipWith_append (by simp [HQ.out]), sumZ_append, HZ.out]; simp [sumZ], ?_, HF3.out, by go_simp, by go_simp, by go_simp, by go_simp, by simp [World.setCell]; exact hz4, ?_⟩
            · exact (HV2.out.setCell HF3.out (by simp) _).setCell HF3.out (by simp) _
            · exact (hbt.setCell (Nat.le_refl _) _).setCell (Nat.le_refl _) _
          case measure => simp [intOf] <;> omega
      · obtain rfl : k = la.length := by omega
        have hfin : dotZ la lb = z := by rw [← HZ.out, List.take_length, List.take_of_length_le (by rw [HQ.out]; omega)]
        have HFI := Lib.hid hfin; clear hfin
        go_wp2_with (go_at_call 80; refine (fits_any _ z _ HW.out).mono ?_; rintro e w1 ⟨rfl, hbw⟩)
        go_ret2
        rw [HFI.out]
        exact ⟨rfl, hb.trans (hbw.mono (Nat.le_of_lt hsz))⟩
  · have hb : ((la.length : Int) != q) = true := by simp; omega
    go_enter Try.func19, Try.ntmps19
    go_wp2
    go_ret2
    exact ⟨rfl, Below.refl _ _⟩
end Go.Proofs.Ytfbodloidogliaa
