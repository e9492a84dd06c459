/-
  Walks of package num: sums of numbers and of products.
-/
import Derived.Test.YtfbodloidogliaaNumM
import Derived.StillTailTactics
namespace Go.Proofs.Ytfbodloidogliaa
open Go.RowKit

def Near (z : Int) : Prop := -1000000000000000000000000000000000000000000000000 ≤ z ∧ z ≤ 1000000000000000000000000000000000000000000000000

set_option maxRecDepth 100000 in
set_option maxHeartbeats 800000 in
theorem lfits_any (z : Int) (w : World) (hz : Near z) :
    Calls Try.prog 77 #[longV z] w fun e w' => e = .returned (.tuple #[.int .i64 (fitV z), .int .i64 (fitE z)]) ∧ Below w.heap.size w w' := by
  unfold longV
  obtain ⟨s0, hs0⟩ : ∃ s0, z % 18446744073709551616 = s0 := ⟨_, rfl⟩
  obtain ⟨s1, hs1⟩ : ∃ s1, z / 18446744073709551616 % 18446744073709551616 = s1 := ⟨_, rfl⟩
  obtain ⟨s2, hs2⟩ : ∃ s2, z / 340282366920938463463374607431768211456 % 18446744073709551616 = s2 := ⟨_, rfl⟩
  rw [hs0, hs1, hs2]
  have b0 : 0 ≤ s0 := by omega
  have b0' : s0 ≤ 18446744073709551615 := by omega
  have b1 : 0 ≤ s1 := by omega
  have b1' : s1 ≤ 18446744073709551615 := by omega
  have b2 : 0 ≤ s2 := by omega
  have b2' : s2 ≤ 18446744073709551615 := by omega
  have HS : Hid (z % 18446744073709551616 = s0 ∧ z / 18446744073709551616 % 18446744073709551616 = s1 ∧ z / 340282366920938463463374607431768211456 % 18446744073709551616 = s2 ∧ Near z) := ⟨hs0, hs1, hs2, hz⟩
  clear hs0 hs1 hs2 hz
  have xm : bits .xor .u64 IntKind.u64.max 0 = 18446744073709551615 := by rw [xor_max (by omega) (by omega)]; omega
  by_cases hn : s0 ≤ 9223372036854775807
  · have hw : wrap64 s0 = s0 := IntWalk.wrap64_in _ (by omega)
    have hb : Below w.heap.size w (w.alloc (.cells #[.int .u64 s0, .int .u64 s1, .int .u64 s2] 85)) := (Below.refl _ _).alloc (Nat.le_refl _) _
    have HN := Lib.hid hn
    by_cases h1 : s1 = 0
    · have q1 : (s1 != 0) = false := by simp [h1]
      have H1 := Lib.hid h1; clear h1
      by_cases h2 : s2 = 0
      · have q2 : (s2 != 0) = false := by simp [h2]
        have H2 := Lib.hid h2; clear h2
        have ok : Ok64 z := by
          have := H1.out; have := H2.out; obtain ⟨r0, r1, r2, r3⟩ := HS.out; have := HN.out; unfold Near at r3; unfold Ok64; omega
        have HOK := Lib.hid ok; clear ok
        go_enter Try.func77, Try.ntmps77
        go_wp2
        go_ret2
        refine ⟨ret2 ?_ (fitE_yes HOK.out).symm, by (repeat (first | exact Below.refl _ _ | refine Below.setCell ?_ (by simp <;> omega) _ | refine Below.alloc ?_ (by simp <;> omega) _ | refine Below.drew ?_ | refine below_drewN ?_ _))⟩
        rw [fitV_yes HOK.out]
        have := H1.out; have := H2.out; obtain ⟨r0, r1, r2, r3⟩ := HS.out; have := HN.out; unfold Near at r3; have := HOK.out; unfold Ok64 at this; (try unfold wrap64); omega
      · have q2 : (s2 != 0) = true := by simp [h2]
        have H2 := Lib.hid h2; clear h2
        have no : ¬ Ok64 z := by
          have := H1.out; have := H2.out; obtain ⟨r0, r1, r2, r3⟩ := HS.out; have := HN.out; unfold Near at r3; unfold Ok64; omega
        have HNO := Lib.hid no; clear no
        go_enter Try.func77, Try.ntmps77
        go_wp2
        go_ret2
        exact ⟨ret2 (fitV_no HNO.out).symm (fitE_no HNO.out).symm, by (repeat (first | exact Below.refl _ _ | refine Below.setCell ?_ (by simp <;> omega) _ | refine Below.alloc ?_ (by simp <;> omega) _ | refine Below.drew ?_ | refine below_drewN ?_ _))⟩
    · have q1 : (s1 != 0) = true := by simp [h1]
      have H1 := Lib.hid h1; clear h1
      have no : ¬ Ok64 z := by
        have := H1.out; obtain ⟨r0, r1, r2, r3⟩ := HS.out; have := HN.out; unfold Near at r3; unfold Ok64; omega
      have HNO := Lib.hid no; clear no
      go_enter Try.func77, Try.ntmps77
      go_wp2
      go_ret2
      exact ⟨ret2 (fitV_no HNO.out).symm (fitE_no HNO.out).symm, by (repeat (first | exact Below.refl _ _ | refine Below.setCell ?_ (by simp <;> omega) _ | refine Below.alloc ?_ (by simp <;> omega) _ | refine Below.drew ?_ | refine below_drewN ?_ _))⟩
  · have hw : wrap64 s0 < 0 := by unfold wrap64; omega
    have hb : Below w.heap.size w (w.alloc (.cells #[.int .u64 s0, .int .u64 s1, .int .u64 s2] 85)) := (Below.refl _ _).alloc (Nat.le_refl _) _
    have HN := Lib.hid hn
    by_cases h1 : s1 = 18446744073709551615
    · have q1 : (s1 != 18446744073709551615) = false := by simp [h1]
      have H1 := Lib.hid h1; clear h1
      by_cases h2 : s2 = 18446744073709551615
      · have q2 : (s2 != 18446744073709551615) = false := by simp [h2]
        have H2 := Lib.hid h2; clear h2
        have ok : Ok64 z := by
          have := H1.out; have := H2.out; obtain ⟨r0, r1, r2, r3⟩ := HS.out; have := HN.out; unfold Near at r3; unfold Ok64; omega
        have HOK := Lib.hid ok; clear ok
        go_enter Try.func77, Try.ntmps77
        go_wp2
        go_ret2
        refine ⟨ret2 ?_ (fitE_yes HOK.out).symm, by (repeat (first | exact Below.refl _ _ | refine Below.setCell ?_ (by simp <;> omega) _ | refine Below.alloc ?_ (by simp <;> omega) _ | refine Below.drew ?_ | refine below_drewN ?_ _))⟩
        rw [fitV_yes HOK.out]
        have := H1.out; have := H2.out; obtain ⟨r0, r1, r2, r3⟩ := HS.out; have := HN.out; unfold Near at r3; have := HOK.out; unfold Ok64 at this; (try unfold wrap64); omega
      · have q2 : (s2 != 18446744073709551615) = true := by simp [h2]
        have H2 := Lib.hid h2; clear h2
        have no : ¬ Ok64 z := by
          have := H1.out; have := H2.out; obtain ⟨r0, r1, r2, r3⟩ := HS.out; have := HN.out; unfold Near at r3; unfold Ok64; omega
        have HNO := Lib.hid no; clear no
        go_enter Try.func77, Try.ntmps77
        go_wp2
        go_ret2
        exact ⟨ret2 (fitV_no HNO.out).symm (fitE_no HNO.out).symm, by (repeat (first | exact Below.refl _ _ | refine Below.setCell ?_ (by simp <;> omega) _ | refine Below.alloc ?_ (by simp <;> omega) _ | refine Below.drew ?_ | refine below_drewN ?_ _))⟩
    · have q1 : (s1 != 18446744073709551615) = true := by simp [h1]
      have H1 := Lib.hid h1; clear h1
      have no : ¬ Ok64 z := by
        have := H1.out; obtain ⟨r0, r1, r2, r3⟩ := HS.out; have := HN.out; unfold Near at r3; unfold Ok64; omega
      have HNO := Lib.hid no; clear no
      go_enter Try.func77, Try.ntmps77
      go_wp2
      go_ret2
      exact ⟨ret2 (fitV_no HNO.out).symm (fitE_no HNO.out).symm, by (repeat (first | exact Below.refl _ _ | refine Below.setCell ?_ (by simp <;> omega) _ | refine Below.alloc ?_ (by simp <;> omega) _ | refine Below.drew ?_ | refine below_drewN ?_ _))⟩

/-- The numbers of a list together. -/
def sumZ : List Int → Int
  | [] => 0
  | x :: l => x + sumZ l
theorem sumZ_append (l m : List Int) : sumZ (l ++ m) = sumZ l + sumZ m := by
  induction l with
  | nil => simp [sumZ]
  | cons x l ih => simp only [List.cons_append, sumZ, ih]; omega
theorem sumZ_snoc (l : List Int) (x : Int) : sumZ (l ++ [x]) = sumZ l + x := by rw [sumZ_append]; simp [sumZ]

def All64 (l : List Int) : Prop := ∀ x ∈ l, Ok64 x

theorem sumZ_bd {l : List Int} (h : All64 l) : -(9223372036854775808 * (l.length : Int)) ≤ sumZ l ∧ sumZ l ≤ 9223372036854775808 * (l.length : Int) := by
  induction l with
  | nil => simp [sumZ]
  | cons x l ih =>
    have h1 := h x (by simp)
    obtain ⟨h2, h3⟩ := ih (fun y hy => h y (by simp [hy]))
    unfold Ok64 at h1
    simp only [sumZ, List.length_cons]
    omega

set_option maxRecDepth 100000 in
set_option maxHeartbeats 1000000 in
theorem sum_any (v : Value) (l : List Int) (w : World) (h : Ints .i64 w v l) (hl : All64 l) (hlen : l.length ≤ 1000000) :
    Calls Try.prog 16 #[v] w fun e w' => e = .returned (.tuple #[.int .i64 (fitV (sumZ l)), .int .i64 (fitE (sumZ l))]) ∧ Below w.heap.size w w' := by
  obtain ⟨a, c, rfl, _, _, h3, h⟩ := h
  have H := Lib.hid h; clear h
  have HL := Lib.hid hl; clear hl
  go_enter Try.func16, Try.ntmps16
  go_wp2
  go_loopw [9] (fun i wr => ∃ (k : Nat) (z : Int), i = .int .i64 k ∧ k ≤ l.length ∧ sumZ (l.take k) = z ∧ wr.cell? ⟨w.heap.size, 0, none⟩ = some (.int .u64 (z % 18446744073709551616)) ∧ wr.cell? ⟨w.heap.size, 1, none⟩ = some (.int .u64 (z / 18446744073709551616 % 18446744073709551616)) ∧ wr.cell? ⟨w.heap.size, 2, none⟩ = some (.int .u64 (z / 340282366920938463463374607431768211456 % 18446744073709551616)) ∧ wr.frozen? ⟨w.heap.size, 0, none⟩ = false ∧ wr.frozen? ⟨w.heap.size, 1, none⟩ = false ∧ wr.frozen? ⟨w.heap.size, 2, none⟩ = false ∧ w.heap.size < wr.heap.size ∧ Below w.heap.size w wr) (fun i _ => l.length - (intOf i).toNat)
  case atStart => exact ⟨0, 0, rfl, by omega, rfl, by simp, by simp, by simp, by simp, by simp, by simp, by simp, (Below.refl _ _).alloc (Nat.le_refl _) _⟩
  case round =>
    obtain ⟨k, z, rfl, hk, hz, c0, c1, c2, f0, f1, f2, hsz, hb⟩ := hrel
    have HZ := Lib.hid hz; clear hz
    by_cases hlt : k < l.length
    · obtain ⟨x, hx⟩ := getElem?_ex hlt
      obtain ⟨b1, o1, rfl, hb1, hc1⟩ := H.out k x hx
      have hx64 := HL.out x (List.mem_of_getElem? hx)
      have cx := (hb.cell (p := ⟨b1, o1 + k, none⟩) hb1).trans hc1
      have HX := Lib.hid hx; clear hx hc1
      have bx : (x.natAbs : Int) ≤ 18446744073709551615 := by have := hx64.1; have := hx64.2; omega
      obtain ⟨y, hy⟩ : ∃ y, z + x = y := ⟨_, rfl⟩
      have HY := Lib.hid hy
      have hpl : ∀ W : World, Calls Try.prog 75 #[.agg #[.int .u64 (z % 18446744073709551616), .int .u64 (z / 18446744073709551616 % 18446744073709551616), .int .u64 (z / 340282366920938463463374607431768211456 % 18446744073709551616)], .int .u64 0, .int .u64 (x.natAbs : Int), .bool (decide (x < 0))] W fun e w' => e = .returned (.agg #[.int .u64 (y % 18446744073709551616), .int .u64 (y / 18446744073709551616 % 18446744073709551616), .int .u64 (y / 340282366920938463463374607431768211456 % 18446744073709551616)]) ∧ Below W.heap.size W w' := by
        intro W
        by_cases hn : x < 0
        · have := plus_no z 0 x.natAbs W (by omega) (by omega) (by omega) bx
          rw [show z - (0 * 18446744073709551616 + (x.natAbs : Int)) = y by omega] at this
          simpa [longV, hn] using this
        · have := plus_yes z 0 x.natAbs W (by omega) (by omega) (by omega) bx
          rw [show z + (0 * 18446744073709551616 + (x.natAbs : Int)) = y by omega] at this
          simpa [longV, hn] using this
      have HPL := Lib.hid hpl
      clear hpl hy
      go_wp2
      go_still_tail 5, (by kernel_rfl)
      still_call (((size_any x _ hx64).mono fun e w' h => ⟨h.1, h.2.symm⟩))
      repeat still_step
      refine wpStill_nil ?_
      go_wp2_with (go_at_call 75; refine (HPL.out _).mono ?_; rintro e w1 ⟨rfl, hbw⟩; have d0 := (hbw.cell (p := ⟨w.heap.size, 0, none⟩) hsz).trans c0; have d1 := (hbw.cell (p := ⟨w.heap.size, 1, none⟩) hsz).trans c1; have d2 := (hbw.cell (p := ⟨w.heap.size, 2, none⟩) hsz).trans c2; have g0 := (hbw.frozen (p := ⟨w.heap.size, 0, none⟩) hsz).trans f0; have g1 := (hbw.frozen (p := ⟨w.heap.size, 1, none⟩) hsz).trans f1; have g2 := (hbw.frozen (p := ⟨w.heap.size, 2, none⟩) hsz).trans f2; clear c0 c1 c2 f0 f1 f2)
      have hz1 : w.heap.size < w1.heap.size := Nat.lt_of_lt_of_le hsz hbw.size
      have hb2 : Below w.heap.size w w1 := hb.trans (Below.trans (Below.drew (Below.refl _ _)) (hbw.mono (Nat.le_of_lt hsz)))
      clear hbw
      go_roundw
      case rel =>
        refine ⟨k + 1, y, by go_num, by omega, by rw [take_snoc' HX.out, sumZ_snoc, HZ.out, HY.out], by go_simp, by go_simp, by go_simp, by go_simp, by go_simp, by go_simp, by simp [World.setCell]; exact hz1, ?_⟩
        exact ((hb2.setCell (Nat.le_refl _) _).setCell (Nat.le_refl _) _).setCell (Nat.le_refl _) _
      case measure => simp [intOf] <;> omega
    · obtain rfl : k = l.length := by omega
      have hfin : sumZ l = z := by rw [← HZ.out, List.take_length]
      have hnr : Near z := by
        have := sumZ_bd HL.out
        rw [hfin] at this
        unfold Near; omega
      have hfit := fun W => lfits_any z W hnr
      unfold longV at hfit
      have HF := Lib.hid hfit
      have HFI := Lib.hid hfin
      clear hfit hfin hnr
      go_wp2_with (go_at_call 77; refine (HF.out _).mono ?_; rintro e w1 ⟨rfl, hbw⟩)
      go_ret2
      rw [HFI.out]
      exact ⟨rfl, hb.trans (hbw.mono (Nat.le_of_lt hsz))⟩
end Go.Proofs.Ytfbodloidogliaa
