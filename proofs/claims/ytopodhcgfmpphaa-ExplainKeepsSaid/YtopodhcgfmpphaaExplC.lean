/-
  Walk of layer 16: narrow.
-/
import Derived.Test.YtopodhcgfmpphaaExplB
namespace Go.Proofs.Ytopodhcgfmpphaa
open Go.RowKit

theorem narrow_cases (x : List Int) (c : Nat) (r : Int × Int) (n : NodeP) {p0 xc R : Int} (h0 : n.coef[c]? = some p0) (h1 : x[c]? = some xc) (hR : dotI n.coef x + -p0 * xc = R) :
    (p0 = 0 → narrowP x c r n = r) ∧
    (leftB n x = true → 0 < p0 → narrowP x c r n = (r.1, min r.2 (divQ (n.at_ - 1 - R) p0))) ∧
    (leftB n x = true → p0 < 0 → narrowP x c r n = (max r.1 (ceilV (-(n.at_ - 1 - R)) (-p0)), r.2)) ∧
    (leftB n x = false → p0 < 0 → narrowP x c r n = (r.1, min r.2 (divQ (R - n.at_) (-p0)))) ∧
    (leftB n x = false → 0 < p0 → narrowP x c r n = (max r.1 (ceilV (-(R - n.at_)) p0), r.2)) := by
  have e : restP x n c = R := by unfold restP; rw [getD_of h0, getD_of h1, ← hR, Int.neg_mul]; omega
  unfold narrowP boundP partP
  rw [getD_of h0, e]
  refine ⟨fun h => by rw [if_pos h], fun h hp => ?_, fun h hp => ?_, fun h hp => ?_, fun h hp => ?_⟩
  · simp only [h, if_true]
    rw [if_neg (show ¬ p0 = 0 by omega), if_pos hp]
  · simp only [h, if_true]
    rw [if_neg (show ¬ p0 = 0 by omega), if_neg (show ¬ 0 < p0 by omega)]
  · simp only [h, Bool.false_eq_true, if_false]
    rw [if_neg (show ¬ p0 = 0 by omega), if_pos (show 0 < -p0 by omega)]
  · simp only [h, Bool.false_eq_true, if_false]
    rw [if_neg (show ¬ p0 = 0 by omega), if_neg (show ¬ 0 < -p0 by omega), Int.neg_neg]

set_option maxRecDepth 100000 in
set_option maxHeartbeats 4000000 in
theorem narrow_any (b o c : Nat) (r : Int × Int) (n : NodeP) (cv vx : Value) (x : List Int) (w : World) (h : RoomAt w b o r) (hn : Ints .i64 w cv n.coef) (hx : Ints .i64 w vx x)
    (hl : n.coef.length = x.length) (h8 : x.length ≤ 8) (hc : n.coef.all isC = true) (hv : x.all isV = true) (ha1 : -137438953472 ≤ n.at_) (ha2 : n.at_ ≤ 137438953472) (hcx : c < x.length) :
    Calls Try.prog 106 #[.pointer (some ⟨b, o, none⟩), .agg #[cv, .int .i64 n.at_, .bool (leftB n x)], vx, .int .i64 (c : Int)] w
      fun e w' => (∃ r, e = .returned r) ∧ RoomAt w' b o (narrowP x c r n) ∧ Below b w w' ∧ ∀ q, q ≠ b → q < w.heap.size → w'.heap[q]? = w.heap[q]? := by
  have hlt := h.1
  have H := Lib.hid h
  obtain ⟨ca, cc, rfl, _, _, n3, hn⟩ := hn
  obtain ⟨xa, xcc, rfl, _, _, x3, hx⟩ := hx
  obtain ⟨p0, hp0⟩ := getElem?_ex (l := n.coef) (k := c) (by omega)
  obtain ⟨xc, hxc⟩ := getElem?_ex (l := x) (k := c) hcx
  obtain ⟨cb, co, rfl, hcb, hcc⟩ := hn c p0 hp0
  obtain ⟨xb, xo, rfl, hxb, hxcl⟩ := hx c xc hxc
  have hmb := mul_bd (all_at hc hp0) (all_at hv hxc)
  have ic := all_at hc hp0
  unfold isC at ic
  simp only [Bool.and_eq_true, decide_eq_true_eq] at ic
  obtain ⟨ic1, ic2⟩ := ic
  obtain ⟨Q, hQ⟩ : ∃ Q, -p0 * xc = Q := ⟨_, rfl⟩
  have hQ1 : -8589934592 ≤ Q := by rw [Int.neg_mul] at hQ; omega
  have hQ2 : Q ≤ 8589934592 := by rw [Int.neg_mul] at hQ; omega
  have hdb := dot_bd hc hv (by omega)
  obtain ⟨R, hR⟩ : ∃ R, dotI n.coef x + Q = R := ⟨_, rfl⟩
  have hR1 : -77309411328 ≤ R := by omega
  have hR2 : R ≤ 77309411328 := by omega
  have HN := Lib.hid (narrow_cases (R := R) x c r n hp0 hxc (by rw [hQ]; exact hR))
  have HR := Lib.hid hR
  have HP4 := Lib.hid hc
  have HR4 := Lib.hid hv
  have HA := Lib.hid hn
  have HB := Lib.hid hx
  obtain ⟨NP, hNP⟩ : ∃ NP, narrowP x c r n = NP := ⟨_, rfl⟩
  rw [hNP] at HN ⊢
  obtain ⟨LB, hLB⟩ : ∃ LB, leftB n x = LB := ⟨_, rfl⟩
  rw [hLB] at HN ⊢
  obtain ⟨AT, hAT⟩ : ∃ AT, n.at_ = AT := ⟨_, rfl⟩
  rw [hAT] at HN ha1 ha2 ⊢
  have HL := Lib.hid hl
  obtain ⟨m, hm⟩ : ∃ m, x.length = m := ⟨_, rfl⟩
  rw [hl]
  rw [hm] at HL h8 x3 hcx ⊢
  have HM := Lib.hid hm
  have i8 : (m : Int) ≤ 8 := by omega
  have c1 : (0 : Int) ≤ (c : Int) := by omega
  have c2 : (c : Int) < (m : Int) := by omega
  have hne : b ≠ w.heap.size := by omega
  clear h hn hx hmb hdb hR hc hv hNP hLB hAT hl hm hp0 hxc n3
  by_cases hz : p0 = 0
  · subst hz
    have HN0 := Lib.hid (HN.out.1 rfl)
    clear hQ
    go_enter Try.func106, Try.ntmps106
    go_wp2_with fail
    refine bodyPost_ret (results_none rfl _ _ _) rfl ?_
    refine ⟨⟨_, rfl⟩, by rw [HN0.out]; exact H.out.below (by (repeat (first | with_reducible exact Below.refl _ _ | ((with_reducible refine Below.setCell ?_ ?_ _); rotate_left; (focus (first | omega | (simp; done) | (simp; omega)))) | ((with_reducible refine Below.alloc ?_ ?_ _); rotate_left; (focus (first | omega | (simp; done) | (simp; omega)))) | (with_reducible refine Below.drew ?_) | (with_reducible refine below_drewN ?_ _)))), by (repeat (first | with_reducible exact Below.refl _ _ | ((with_reducible refine Below.setCell ?_ ?_ _); rotate_left; (focus (first | omega | (simp; done) | (simp; omega)))) | ((with_reducible refine Below.alloc ?_ ?_ _); rotate_left; (focus (first | omega | (simp; done) | (simp; omega)))) | (with_reducible refine Below.drew ?_) | (with_reducible refine below_drewN ?_ _))), fun q _ hq => ?_⟩
    exact Below.heap_alloc _ _ _ hq
  · go_enter Try.func106, Try.ntmps106
    go_wp2_with fail
    go_loopw [9, 10, 11, 37] (fun s _ _ i wr => ∃ k : Nat, i = .int .i64 k ∧ k ≤ m ∧ s = .int .i64 (dotI (n.coef.take k) (x.take k) + Q) ∧ wr = w.alloc (.cells #[.slice (some ⟨cb, co, none⟩) m cc, .int .i64 AT, .bool LB] 101)) (fun _ _ _ i _ => m - (intOf i).toNat)
    case atStart => exact ⟨0, rfl, by omega, by simp [dotI], rfl⟩
    case round =>
      obtain ⟨k, rfl, hk, rfl, rfl⟩ := hrel
      by_cases hlt2 : k < m
      · obtain ⟨y, hy⟩ := getElem?_ex (l := n.coef) (k := k) (by rw [HL.out]; exact hlt2)
        obtain ⟨z, hzz⟩ := getElem?_ex (l := x) (k := k) (by rw [HM.out]; exact hlt2)
        obtain ⟨b1, o1, e1, hb1, hc1⟩ := HA.out k y hy
        obtain ⟨b2, o2, e2, hb2, hc2⟩ := HB.out k z hzz
        injection e1 with e1
        injection e1 with e1 e1'
        injection e2 with e2
        injection e2 with e2 e2'
        subst e1 e1' e2 e2'
        have hs := dot_step hy hzz
        have hb := dot_bd (all_take HP4.out k) (all_take HR4.out k) (by simp; omega)
        have hmb := mul_bd (all_at HP4.out hy) (all_at HR4.out hzz)
        have hlk : (((n.coef.take k).length : Nat) : Int) ≤ 8 := by simp; omega
        obtain ⟨A, hA⟩ : ∃ A, dotI (n.coef.take k) (x.take k) = A := ⟨_, rfl⟩
        have hb1' : -68719476736 ≤ A := by omega
        have hb2' : A ≤ 68719476736 := by omega
        rw [hA] at hs ⊢
        obtain ⟨p, hp⟩ : ∃ p, y * z = p := ⟨_, rfl⟩
        have hm1 := hmb.1
        have hm2 := hmb.2
        rw [hp] at hs hm1 hm2
        have HS := Lib.hid hs
        have i1 : (0 : Int) ≤ (k : Int) := by omega
        have i2 : (k : Int) < (m : Int) := by omega
        have j1 : cb ≠ w.heap.size := by omega
        have j2 : xb ≠ w.heap.size := by omega
        clear hy hzz hs hb hmb hA hlk hQ
        go_wp2_with fail
        go_roundw
        case rel => exact ⟨k + 1, by go_num, by omega, by rw [HS.out]; congr 1; omega, trivial⟩
        case measure => simp [intOf] <;> omega
      · obtain rfl : k = m := by omega
        have hT : dotI (n.coef.take k) (x.take k) + Q = R := by
          rw [List.take_of_length_le (by rw [HL.out]; exact Nat.le_refl _), List.take_of_length_le (by rw [HM.out]; exact Nat.le_refl _)]
          exact HR.out
        rw [hT]
        clear hT hQ
        have t1 : (w.alloc (.cells #[.slice (some ⟨cb, co, none⟩) k cc, .int .i64 AT, .bool LB] 101)).cell? ⟨w.heap.size, 1, none⟩ = some (.int .i64 AT) := by go_simp
        have t2 : (w.alloc (.cells #[.slice (some ⟨cb, co, none⟩) k cc, .int .i64 AT, .bool LB] 101)).cell? ⟨w.heap.size, 2, none⟩ = some (.bool LB) := by go_simp
        have b0 : Below w.heap.size w (w.alloc (.cells #[.slice (some ⟨cb, co, none⟩) k cc, .int .i64 AT, .bool LB] 101)) := by (repeat (first | with_reducible exact Below.refl _ _ | ((with_reducible refine Below.setCell ?_ ?_ _); rotate_left; (focus (first | omega | (simp; done) | (simp; omega)))) | ((with_reducible refine Below.alloc ?_ ?_ _); rotate_left; (focus (first | omega | (simp; done) | (simp; omega)))) | (with_reducible refine Below.drew ?_) | (with_reducible refine below_drewN ?_ _)))
        obtain ⟨W0, hW0⟩ : ∃ W0, w.alloc (.cells #[.slice (some ⟨cb, co, none⟩) k cc, .int .i64 AT, .bool LB] 101) = W0 := ⟨_, rfl⟩
        rw [hW0] at t1 t2 b0 ⊢
        have B0 := Lib.hid b0
        clear b0
        have R0 := Lib.hid (H.out.below B0.out)
        clear hW0 hcc hxcl
        cases LB with
        | true =>
          obtain ⟨BD, hBD⟩ : ∃ BD, AT - 1 - R = BD := ⟨_, rfl⟩
          have bd1 : -300000000000 ≤ BD := by omega
          have bd2 : BD ≤ 300000000000 := by omega
          rcases Int.lt_or_gt_of_ne hz with hs | hs
          · have HE := Lib.hid (HN.out.2.2.1 rfl hs)
            rw [hBD] at HE
            have HC := Lib.hid (fun W => ceil_any (-BD) (-p0) W ⟨by omega, by omega⟩ ⟨by omega, by omega⟩)
            have HS := Lib.hid (fun W hW => least_any b o r (ceilV (-BD) (-p0)) W hW)
            generalize ceilV (-BD) (-p0) = V at *
            go_wp2_with fail
            refine (HC.out _).mono ?_
            rintro e w1 ⟨rfl, rfl⟩
            go_wp2_with fail
            refine (HS.out _ R0.out).mono ?_
            rintro e w2 ⟨⟨r2, rfl⟩, b2⟩
            have B2 := Lib.hid b2
            clear b2
            go_wp2_with fail
            go_end0
            exact ⟨⟨_, rfl⟩, by rw [HE.out]; exact room_only hlt B0.out B2.out (R0.out.set1 _)⟩
          · have HE := Lib.hid (HN.out.2.1 rfl hs)
            rw [hBD] at HE
            have HC := Lib.hid (fun W => div_any BD p0 W ⟨by omega, by omega⟩ ⟨by omega, by omega⟩)
            have HS := Lib.hid (fun W hW => most_any b o r (divQ BD p0) W hW)
            generalize divQ BD p0 = V at *
            go_wp2_with fail
            refine (HC.out _).mono ?_
            rintro e w1 ⟨rfl, d, rfl⟩
            go_wp2_with fail
            have R1 := Lib.hid (R0.out.below (w' := W0.drewN d) (below_drewN (Below.refl _ _) _))
            refine (HS.out _ R1.out).mono ?_
            rintro e w2 ⟨⟨r2, rfl⟩, b2⟩
            have B2 := Lib.hid b2
            clear b2
            go_wp2_with fail
            refine bodyPost_ret (results_none rfl _ _ _) rfl ?_
            exact ⟨⟨_, rfl⟩, by rw [HE.out]; exact room_only hlt (below_drewN B0.out d) B2.out (R1.out.set2 _)⟩
        | false =>
          obtain ⟨BD, hBD⟩ : ∃ BD, R - AT = BD := ⟨_, rfl⟩
          have bd1 : -300000000000 ≤ BD := by omega
          have bd2 : BD ≤ 300000000000 := by omega
          rcases Int.lt_or_gt_of_ne hz with hs | hs
          · have HE := Lib.hid (HN.out.2.2.2.1 rfl hs)
            rw [hBD] at HE
            have HC := Lib.hid (fun W => div_any BD (-p0) W ⟨by omega, by omega⟩ ⟨by omega, by omega⟩)
            have HS := Lib.hid (fun W hW => most_any b o r (divQ BD (-p0)) W hW)
            generalize divQ BD (-p0) = V at *
            go_wp2_with fail
            go_quiet (fail)
            go_wp2_with fail
            refine (HC.out _).mono ?_
            rintro e w1 ⟨rfl, d, rfl⟩
            go_wp2_with fail
            refine (HS.out _ (R0.out.below (below_drewN (Below.refl _ _) _))).mono ?_
            rintro e w2 ⟨⟨r2, rfl⟩, b2⟩
            have B2 := Lib.hid b2
            clear b2
            go_wp2_with fail
            refine bodyPost_ret (results_none rfl _ _ _) rfl ?_
            exact ⟨⟨_, rfl⟩, by rw [HE.out]; exact room_only hlt (below_drewN B0.out _) B2.out ((R0.out.below (below_drewN (Below.refl _ _) _)).set2 _)⟩
          · have HE := Lib.hid (HN.out.2.2.2.2 rfl hs)
            rw [hBD] at HE
            have HC := Lib.hid (fun W => ceil_any (-BD) p0 W ⟨by omega, by omega⟩ ⟨by omega, by omega⟩)
            have HS := Lib.hid (fun W hW => least_any b o r (ceilV (-BD) p0) W hW)
            generalize ceilV (-BD) p0 = V at *
            go_wp2_with fail
            go_quiet (fail)
            go_wp2_with fail
            refine (HC.out _).mono ?_
            rintro e w1 ⟨rfl, rfl⟩
            go_wp2_with fail
            refine (HS.out _ (R0.out.below (below_drewN (Below.refl _ _) _))).mono ?_
            rintro e w2 ⟨⟨r2, rfl⟩, b2⟩
            have B2 := Lib.hid b2
            clear b2
            go_wp2_with fail
            go_end0
            exact ⟨⟨_, rfl⟩, by rw [HE.out]; exact room_only hlt (below_drewN B0.out _) B2.out ((R0.out.below (below_drewN (Below.refl _ _) _)).set1 _)⟩
end Go.Proofs.Ytopodhcgfmpphaa
