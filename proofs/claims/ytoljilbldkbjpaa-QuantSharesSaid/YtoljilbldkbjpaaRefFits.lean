/-
  Walks of copseref01: whole numbers back to numbers; sums, differences, products.
-/
import Derived.Test.YtoljilbldkbjpaaRefTimes
import Derived.Test.YtoljilbldkbjpaaNumC
namespace Go.Proofs.Ytoljilbldkbjpaa
open Go.RowKit

theorem bv_drop {l : List Int} {j : Nat} {x : Int} (h : l[j]? = some x) : bv (l.drop j) = x.toNat + 65536 * bv (l.drop (j + 1)) := by
  have hk : j < l.length := (List.getElem?_eq_some_iff.1 h).1
  rw [drop_getD hk, getD_of h]; rfl

theorem bv_drop_le (l : List Int) (j : Nat) : bv (l.drop j) ≤ bv l := by
  have h := bv_append (l.take j) (l.drop j)
  rw [List.take_append_drop] at h
  have h1 : 1 ≤ 65536 ^ (l.take j).length := Nat.pow_pos (by omega)
  have h2 : 1 * bv (l.drop j) ≤ 65536 ^ (l.take j).length * bv (l.drop j) := Nat.mul_le_mul_right _ h1
  omega

def FitB (w : World) (e : Ending) (w' : World) (z : Int) : Prop := e = .returned (.tuple #[.int .i64 (fitV z), .int .i64 (fitE z)]) ∧ Below w.heap.size w w'

set_option maxRecDepth 100000 in
set_option maxHeartbeats 1000000 in
theorem fits_any (v : Value) (z : Int) (w : World) (h : WholeR w v z) :
    Calls Try.prog 95 #[v] w fun e w' => FitB w e w' z := by
  obtain ⟨neg, vb, rfl, h1, h2, h3⟩ := h
  obtain ⟨l, hl⟩ : ∃ l, digs z.natAbs = l := ⟨_, rfl⟩
  have hd : Dig l := by rw [← hl]; exact digs_dig _
  have hv : bv l = z.natAbs := by rw [← hl]; exact bv_digs _
  have HD := Lib.hid hd; clear hd
  have HV := Lib.hid hv; clear hv
  rw [hl] at h1
  have h1' := h1
  obtain ⟨a, c, rfl, hc1, hc2, hc3, hA⟩ := h1
  have hb0 : Below w.heap.size w (w.alloc (.cells #[.bool neg, .slice a l.length c] 117)) := (Below.refl _ _).alloc (Nat.le_refl _) _
  have hof := of_any 9223372036854775808 (w.alloc (.cells #[.bool neg, .slice a l.length c] 117)) (by omega)
  rw [show ((9223372036854775808 : Nat) : Int) = 9223372036854775808 from rfl] at hof
  have HOF := Lib.hid hof; clear hof
  have HB1 := Lib.hid (h1'.below hb0); clear h1'
  have HA := Lib.hid hA; clear hA
  have HBZ := Lib.hid hb0; clear hb0
  have H2 := Lib.hid h2; clear h2
  have H3 := Lib.hid h3; clear h3
  have HL := Lib.hid hl
  by_cases hbig : 9223372036854775808 < z.natAbs ∨ (z.natAbs = 9223372036854775808 ∧ neg = false)
  · have hno : ¬ Ok64 z := by
      have := H2.out; have := H3.out; unfold Ok64
      rcases hbig with h | ⟨h, rfl⟩
      · omega
      · have := H3.out rfl; omega
    have HNO := Lib.hid hno; clear hno
    rcases hbig with h | ⟨h, rfl⟩
    · have ho : ordI z.natAbs 9223372036854775808 = 1 := by unfold ordI; rw [if_neg (by omega), if_pos h]
      have HO := Lib.hid ho; clear ho h hl
      go_enter Try.func95, Try.ntmps95
      go_wp2_with (first | (go_at_call 104; refine HOF.out.mono ?_; rintro e w1 ⟨vt, rfl, hvt, hft, hbw⟩; have c0_0 := hbw.cell (p := ⟨w.heap.size, 0, none⟩) (by first | omega | (simp <;> omega)); have f0_0 := hbw.frozen (p := ⟨w.heap.size, 0, none⟩) (by first | omega | (simp <;> omega)); have c0_1 := hbw.cell (p := ⟨w.heap.size, 1, none⟩) (by first | omega | (simp <;> omega)); have f0_1 := hbw.frozen (p := ⟨w.heap.size, 1, none⟩) (by first | omega | (simp <;> omega))) | (go_at_call 105; refine (order_any _ _ z.natAbs 9223372036854775808 _ (HL.out ▸ HB1.out.below hbw) hvt).mono ?_; rw [HO.out]; rintro e w2 ⟨rfl, d, rfl⟩))
      go_ret2
      exact ⟨ret2 (fitV_no HNO.out).symm (fitE_no HNO.out).symm, below_drewN (HBZ.out.trans (hbw.mono (by simp))) _⟩
    · have ho : ordI z.natAbs 9223372036854775808 = 0 := by unfold ordI; rw [if_neg (by omega), if_neg (by omega)]
      have HO := Lib.hid ho; clear ho h hl
      go_enter Try.func95, Try.ntmps95
      go_wp2_with (first | (go_at_call 104; refine HOF.out.mono ?_; rintro e w1 ⟨vt, rfl, hvt, hft, hbw⟩; have c0_0 := hbw.cell (p := ⟨w.heap.size, 0, none⟩) (by first | omega | (simp <;> omega)); have f0_0 := hbw.frozen (p := ⟨w.heap.size, 0, none⟩) (by first | omega | (simp <;> omega)); have c0_1 := hbw.cell (p := ⟨w.heap.size, 1, none⟩) (by first | omega | (simp <;> omega)); have f0_1 := hbw.frozen (p := ⟨w.heap.size, 1, none⟩) (by first | omega | (simp <;> omega))) | (go_at_call 105; refine (order_any _ _ z.natAbs 9223372036854775808 _ (HL.out ▸ HB1.out.below hbw) hvt).mono ?_; rw [HO.out]; rintro e w2 ⟨rfl, d, rfl⟩))
      go_ret2
      exact ⟨ret2 (fitV_no HNO.out).symm (fitE_no HNO.out).symm, below_drewN (HBZ.out.trans (hbw.mono (by simp))) _⟩
  · have hok : Ok64 z := by
      have := H2.out; have := H3.out; unfold Ok64
      cases neg with
      | false => have := H3.out rfl; simp at hbig; omega
      | true => have := H2.out rfl; simp at hbig; omega
    have hbn : bv l ≤ 9223372036854775808 := by rw [HV.out]; omega
    have HOK := Lib.hid hok; clear hok
    have ho : ∃ r, ordI z.natAbs 9223372036854775808 = r ∧ (r = -1 ∨ (r = 0 ∧ neg = true)) := by
      refine ⟨_, rfl, ?_⟩
      unfold ordI
      by_cases h : z.natAbs < 9223372036854775808
      · left; rw [if_pos h]
      · right; refine ⟨by rw [if_neg h, if_neg (by omega)], ?_⟩
        cases neg with
        | true => rfl
        | false => simp at hbig; omega
    clear hbig hl
    have HBN := Lib.hid hbn; clear hbn
    obtain ⟨r, ho, hr⟩ := ho
    have HO := Lib.hid ho; clear ho
    have hcases : (neg = false ∧ r = -1) ∨ (neg = true ∧ r = -1) ∨ (neg = true ∧ r = 0) := by
      cases neg <;> simp_all
    clear hr
    have hbn1 : r = -1 → bv l ≤ 9223372036854775807 := fun h => by
      have := HO.out; rw [h] at this; unfold ordI at this; rw [HV.out]
      by_cases h1 : z.natAbs < 9223372036854775808
      · omega
      · rw [if_neg h1] at this; split at this <;> omega
    rcases hcases with ⟨rfl, rfl⟩ | ⟨rfl, rfl⟩ | ⟨rfl, rfl⟩
    all_goals have HBN1 := Lib.hid hbn1
    all_goals clear hbn1
    · go_enter Try.func95, Try.ntmps95
      go_wp2_with (first | (go_at_call 104; refine HOF.out.mono ?_; rintro e w1 ⟨vt, rfl, hvt, hft, hbw⟩; have c0_0 := hbw.cell (p := ⟨w.heap.size, 0, none⟩) (by first | omega | (simp <;> omega)); have f0_0 := hbw.frozen (p := ⟨w.heap.size, 0, none⟩) (by first | omega | (simp <;> omega)); have c0_1 := hbw.cell (p := ⟨w.heap.size, 1, none⟩) (by first | omega | (simp <;> omega)); have f0_1 := hbw.frozen (p := ⟨w.heap.size, 1, none⟩) (by first | omega | (simp <;> omega))) | (go_at_call 105; refine (order_any _ _ z.natAbs 9223372036854775808 _ (HL.out ▸ HB1.out.below hbw) hvt).mono ?_; rw [HO.out]; rintro e w2 ⟨rfl, d, rfl⟩))
      go_loopw [6, 7] (fun m i wr => ∃ (k p : Nat), k ≤ l.length ∧ i = .int .i64 ((k : Int) - 1) ∧ m = .int .i64 (p : Int) ∧ bv (l.drop k) = p ∧ p ≤ 9223372036854775807 ∧ wr = w1.drewN d) (fun _ i _ => (intOf i + 1).toNat)
      case atStart => exact ⟨l.length, 0, Nat.le_refl _, rfl, rfl, by rw [List.drop_of_length_le (Nat.le_refl _)]; rfl, by omega, rfl⟩
      case round =>
        obtain ⟨k, p, hk, rfl, rfl, hp, hpb, rfl⟩ := hrel
        have HP := Lib.hid hp; clear hp
        by_cases h0 : 0 < k
        · obtain ⟨j, hj⟩ : ∃ j, k = j + 1 := ⟨k - 1, by omega⟩
          subst hj
          have e1 : ((j + 1 : Nat) : Int) - 1 = j := by omega
          rw [e1]
          clear e1
          have hjl : j < l.length := by omega
          obtain ⟨x, hx⟩ := getElem?_ex hjl
          have hxb := HD.out x (List.mem_of_getElem? hx)
          have hst := bv_drop hx
          rw [HP.out] at hst
          have hle := bv_drop_le l j
          have hle2 := Nat.le_trans hle (HBN1.out (by first | rfl | trivial))
          obtain ⟨b1, o1, rfl, hb1, hc1'⟩ := HA.out j x hx
          have cx := (((Below.refl w.heap.size w).alloc (Nat.le_refl _) _).trans (hbw.mono (by simp)) |>.cell (p := ⟨b1, o1 + j, none⟩) hb1).trans hc1'
          clear hle hc1'
          obtain ⟨p', hp'⟩ : ∃ p', bv (l.drop j) = p' := ⟨_, rfl⟩
          rw [hp'] at hst hle2
          have HX := Lib.hid hx; clear hx
          have HP' := Lib.hid hp'; clear hp'
          have b1 : 65536 * (p : Int) + x ≤ 9223372036854775807 := by omega
          have HST := Lib.hid hst; clear hst
          go_wp2
          go_roundw
          case rel => exact ⟨j, p', by omega, rfl, by have := HST.out; go_num, HP'.out, hle2, by first | rfl | trivial⟩
          case measure => simp [intOf] <;> omega
        · obtain rfl : k = 0 := by omega
          have hz : z = p := by
            have := HP.out; have := H3.out (by simp); have h5 := HV.out; have h6 := HP.out; simp at h6; omega
          have HZ := Lib.hid hz; clear hz
          go_wp2
          go_ret2
          refine ⟨ret2 (by rw [fitV_yes HOK.out]; exact HZ.out.symm) (fitE_yes HOK.out).symm, below_drewN (HBZ.out.trans (hbw.mono (by simp))) _⟩
    · go_enter Try.func95, Try.ntmps95
      go_wp2_with (first | (go_at_call 104; refine HOF.out.mono ?_; rintro e w1 ⟨vt, rfl, hvt, hft, hbw⟩; have c0_0 := hbw.cell (p := ⟨w.heap.size, 0, none⟩) (by first | omega | (simp <;> omega)); have f0_0 := hbw.frozen (p := ⟨w.heap.size, 0, none⟩) (by first | omega | (simp <;> omega)); have c0_1 := hbw.cell (p := ⟨w.heap.size, 1, none⟩) (by first | omega | (simp <;> omega)); have f0_1 := hbw.frozen (p := ⟨w.heap.size, 1, none⟩) (by first | omega | (simp <;> omega))) | (go_at_call 105; refine (order_any _ _ z.natAbs 9223372036854775808 _ (HL.out ▸ HB1.out.below hbw) hvt).mono ?_; rw [HO.out]; rintro e w2 ⟨rfl, d, rfl⟩))
      go_loopw [6, 7] (fun m i wr => ∃ (k p : Nat), k ≤ l.length ∧ i = .int .i64 ((k : Int) - 1) ∧ m = .int .i64 (-(p : Int)) ∧ bv (l.drop k) = p ∧ p ≤ 9223372036854775808 ∧ wr = w1.drewN d) (fun _ i _ => (intOf i + 1).toNat)
      case atStart => exact ⟨l.length, 0, Nat.le_refl _, rfl, rfl, by rw [List.drop_of_length_le (Nat.le_refl _)]; rfl, by omega, rfl⟩
      case round =>
        obtain ⟨k, p, hk, rfl, rfl, hp, hpb, rfl⟩ := hrel
        have HP := Lib.hid hp; clear hp
        by_cases h0 : 0 < k
        · obtain ⟨j, hj⟩ : ∃ j, k = j + 1 := ⟨k - 1, by omega⟩
          subst hj
          have e1 : ((j + 1 : Nat) : Int) - 1 = j := by omega
          rw [e1]
          clear e1
          have hjl : j < l.length := by omega
          obtain ⟨x, hx⟩ := getElem?_ex hjl
          have hxb := HD.out x (List.mem_of_getElem? hx)
          have hst := bv_drop hx
          rw [HP.out] at hst
          have hle := bv_drop_le l j
          have hle2 := Nat.le_trans hle HBN.out
          obtain ⟨b1, o1, rfl, hb1, hc1'⟩ := HA.out j x hx
          have cx := (((Below.refl w.heap.size w).alloc (Nat.le_refl _) _).trans (hbw.mono (by simp)) |>.cell (p := ⟨b1, o1 + j, none⟩) hb1).trans hc1'
          clear hle hc1'
          obtain ⟨p', hp'⟩ : ∃ p', bv (l.drop j) = p' := ⟨_, rfl⟩
          rw [hp'] at hst hle2
          have HX := Lib.hid hx; clear hx
          have HP' := Lib.hid hp'; clear hp'
          have b1 : 65536 * (p : Int) + x ≤ 9223372036854775808 := by omega
          have HST := Lib.hid hst; clear hst
          go_wp2
          go_roundw
          case rel => exact ⟨j, p', by omega, rfl, by have := HST.out; go_num, HP'.out, hle2, by first | rfl | trivial⟩
          case measure => simp [intOf] <;> omega
        · obtain rfl : k = 0 := by omega
          have hz : z = -(p : Int) := by
            have := HP.out; have := H2.out (by simp); have h5 := HV.out; have h6 := HP.out; simp at h6; omega
          have HZ := Lib.hid hz; clear hz
          go_wp2
          go_ret2
          refine ⟨ret2 (by rw [fitV_yes HOK.out]; exact HZ.out.symm) (fitE_yes HOK.out).symm, below_drewN (HBZ.out.trans (hbw.mono (by simp))) _⟩
    · go_enter Try.func95, Try.ntmps95
      go_wp2_with (first | (go_at_call 104; refine HOF.out.mono ?_; rintro e w1 ⟨vt, rfl, hvt, hft, hbw⟩; have c0_0 := hbw.cell (p := ⟨w.heap.size, 0, none⟩) (by first | omega | (simp <;> omega)); have f0_0 := hbw.frozen (p := ⟨w.heap.size, 0, none⟩) (by first | omega | (simp <;> omega)); have c0_1 := hbw.cell (p := ⟨w.heap.size, 1, none⟩) (by first | omega | (simp <;> omega)); have f0_1 := hbw.frozen (p := ⟨w.heap.size, 1, none⟩) (by first | omega | (simp <;> omega))) | (go_at_call 105; refine (order_any _ _ z.natAbs 9223372036854775808 _ (HL.out ▸ HB1.out.below hbw) hvt).mono ?_; rw [HO.out]; rintro e w2 ⟨rfl, d, rfl⟩))
      go_loopw [6, 7] (fun m i wr => ∃ (k p : Nat), k ≤ l.length ∧ i = .int .i64 ((k : Int) - 1) ∧ m = .int .i64 (-(p : Int)) ∧ bv (l.drop k) = p ∧ p ≤ 9223372036854775808 ∧ wr = w1.drewN d) (fun _ i _ => (intOf i + 1).toNat)
      case atStart => exact ⟨l.length, 0, Nat.le_refl _, rfl, rfl, by rw [List.drop_of_length_le (Nat.le_refl _)]; rfl, by omega, rfl⟩
      case round =>
        obtain ⟨k, p, hk, rfl, rfl, hp, hpb, rfl⟩ := hrel
        have HP := Lib.hid hp; clear hp
        by_cases h0 : 0 < k
        · obtain ⟨j, hj⟩ : ∃ j, k = j + 1 := ⟨k - 1, by omega⟩
          subst hj
          have e1 : ((j + 1 : Nat) : Int) - 1 = j := by omega
          rw [e1]
          clear e1
          have hjl : j < l.length := by omega
          obtain ⟨x, hx⟩ := getElem?_ex hjl
          have hxb := HD.out x (List.mem_of_getElem? hx)
          have hst := bv_drop hx
          rw [HP.out] at hst
          have hle := bv_drop_le l j
          have hle2 := Nat.le_trans hle HBN.out
          obtain ⟨b1, o1, rfl, hb1, hc1'⟩ := HA.out j x hx
          have cx := (((Below.refl w.heap.size w).alloc (Nat.le_refl _) _).trans (hbw.mono (by simp)) |>.cell (p := ⟨b1, o1 + j, none⟩) hb1).trans hc1'
          clear hle hc1'
          obtain ⟨p', hp'⟩ : ∃ p', bv (l.drop j) = p' := ⟨_, rfl⟩
          rw [hp'] at hst hle2
          have HX := Lib.hid hx; clear hx
          have HP' := Lib.hid hp'; clear hp'
          have b1 : 65536 * (p : Int) + x ≤ 9223372036854775808 := by omega
          have HST := Lib.hid hst; clear hst
          go_wp2
          go_roundw
          case rel => exact ⟨j, p', by omega, rfl, by have := HST.out; go_num, HP'.out, hle2, by first | rfl | trivial⟩
          case measure => simp [intOf] <;> omega
        · obtain rfl : k = 0 := by omega
          have hz : z = -(p : Int) := by
            have := HP.out; have := H2.out (by simp); have h5 := HV.out; have h6 := HP.out; simp at h6; omega
          have HZ := Lib.hid hz; clear hz
          go_wp2
          go_ret2
          refine ⟨ret2 (by rw [fitV_yes HOK.out]; exact HZ.out.symm) (fitE_yes HOK.out).symm, below_drewN (HBZ.out.trans (hbw.mono (by simp))) _⟩
end Go.Proofs.Ytoljilbldkbjpaa
