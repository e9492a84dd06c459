/-
  Laws18c: Walk of BagOrders.
-/
import Derived.Test.YtjmjnkilgoelbaaJ4a
import Derived.Test.YtjmjnkilgoelbaaJ0c
namespace Go.Proofs.Ytjmjnkilgoelbaa
open Go.RowKit

/-- Two bags that share no block. -/
structure Two (w : World) (B P1 P2 : Nat) (F1 F2 : List Nat) (l1 l2 : List (Int × Int)) : Prop where
  one : BagIn w P1 F1 l1
  two : BagIn w P2 F2 l2
  apart : ∀ b, b ∈ F1 → b ∉ F2
  low1 : ∀ b ∈ F1, B ≤ b
  low2 : ∀ b ∈ F2, B ≤ b

theorem Two.below {w w' : World} {B P1 P2 : Nat} {F1 F2 : List Nat} {l1 l2 : List (Int × Int)} (h : Two w B P1 P2 F1 F2 l1 l2) (b : Below w.heap.size w w') : Two w' B P1 P2 F1 F2 l1 l2 :=
  ⟨h.one.below b, h.two.below b, h.apart, h.low1, h.low2⟩

theorem Two.act1 {w w' : World} {B P1 P2 : Nat} {F1 F2 F1' : List Nat} {l1 l2 l1' : List (Int × Int)} (h : Two w B P1 P2 F1 F2 l1 l2) (hb : BagIn w' P1 F1' l1') (m : Moved w w' F1 F1') (hB : B ≤ w.heap.size) : Two w' B P1 P2 F1' F2 l1' l2 ∧ Below B w w' := by
  obtain ⟨hw, hlow⟩ := m.low h.low1 hB
  refine ⟨⟨hb, h.two.only m.1 fun b hb2 hb1 => h.apart b hb1 hb2, fun b hb1 hb2 => ?_, hlow, h.low2⟩, hw⟩
  rcases m.2 b hb1 with h1 | h1
  · exact h.apart b h1 hb2
  · have := h.two.lt hb2; omega

theorem Two.act2 {w w' : World} {B P1 P2 : Nat} {F1 F2 F2' : List Nat} {l1 l2 l2' : List (Int × Int)} (h : Two w B P1 P2 F1 F2 l1 l2) (hb : BagIn w' P2 F2' l2') (m : Moved w w' F2 F2') (hB : B ≤ w.heap.size) : Two w' B P1 P2 F1 F2' l1 l2' ∧ Below B w w' := by
  obtain ⟨hw, hlow⟩ := m.low h.low2 hB
  refine ⟨⟨h.one.only m.1 fun b hb1 hb2 => h.apart b hb1 hb2, hb, fun b hb1 hb2 => ?_, h.low1, hlow⟩, hw⟩
  rcases m.2 b hb2 with h1 | h1
  · exact h.apart b hb1 h1
  · have := h.one.lt hb1; omega

theorem puts_back {l : List (Int × Int)} {j : Nat} {x : Int × Int} (h : l[l.length - 1 - j]? = some x) (hj : j < l.length) : puts (l.reverse.take (j + 1)) = putS (puts (l.reverse.take j)) x :=
  puts_next (by rw [List.getElem?_reverse hj]; exact h)

set_option maxRecDepth 100000 in
set_option maxHeartbeats 8000000 in
theorem bagOrders_mid {w : World} (a : Option Addr) (n c : Nat) (l : List (Int × Int)) (p q : Int) (h0 : PairsR w (.slice a n c) l) (hn : l.length = n) (hbig : ¬ (150 : Int) < (n : Int)) :
    Calls Try.prog 4 #[.slice a n c, .agg #[.int .i64 p, .int .i64 q]] w fun e w' => e = .returned (.bool true) ∧ Below w.heap.size w w' := by
  have HL := Lib.hid h0
  have HN := Lib.hid hn
  have hn4 : n ≤ 150 := by omega
  clear h0 hn
  go_enter Try.func4, Try.ntmps4
  go_wp2_with fail
  (with_reducible refine (newIn_any _).mono ?_); rintro e w1 ⟨rfl, bg1, b1⟩; have s1 : w.heap.size + 1 ≤ w1.heap.size := sz b1; have B1 := Lib.hid (Bc (B := w.heap.size) (a := w) (by (repeat (first | with_reducible exact Below.refl _ _ | with_reducible refine Bs ?_ | with_reducible refine Ba ?_ | with_reducible refine Bd ?_ | with_reducible refine Bn ?_))) b1); obtain ⟨c1_0, c1_1⟩ := k2 (w.heap.size) (.int .i64 p) (.int .i64 q) b1 (by and_intros <;> go_simp); obtain ⟨l1_0, n1_0, m1_0⟩ := lnm (show w.heap.size < w1.heap.size by omega); clear b1
  have BG1 := Lib.hid (show BagIn w1 (w.heap.size + 1) [w.heap.size + 1] [] by simpa using bg1)
  clear bg1
  have hP1 : w.heap.size + 1 < w1.heap.size := BG1.out.lt (by simp)
  go_wp2_with fail
  (with_reducible refine (newIn_any _).mono ?_); rintro e w2 ⟨rfl, bg2, b2⟩; have s2 : w1.heap.size ≤ w2.heap.size := sz b2; have B2 := Lib.hid (Bc (B := w.heap.size) (a := w) (by (repeat (first | with_reducible exact Below.refl _ _ | with_reducible refine Bs ?_ | with_reducible refine Ba ?_ | with_reducible refine Bd ?_ | with_reducible refine Bn ?_ | with_reducible refine Bt B1.out ?_))) b2); obtain ⟨c2_0, c2_1⟩ := k2 (w.heap.size) (.int .i64 p) (.int .i64 q) b2 (by and_intros <;> go_simp); obtain ⟨l2_0, n2_0, m2_0⟩ := lnm (show w.heap.size < w2.heap.size by omega); have BG1 := Lib.hid ((BG1.out.below (by (repeat (first | with_reducible exact Below.refl _ _ | with_reducible refine Bs ?_ | with_reducible refine Ba ?_ | with_reducible refine Bd ?_ | with_reducible refine Bn ?_)))).below b2); clear b2
  have TW := Lib.hid (show Two w2 (w.heap.size + 1) (w.heap.size + 1) w1.heap.size [w.heap.size + 1] [w1.heap.size] [] [] from ⟨BG1.out, bg2, fun b h1 h2 => by simp at h1 h2; omega, by simp, by simp; omega⟩)
  clear bg2
  go_wp2_with fail
  go_loopw [7] (fun i wr => ∃ (j : Nat) (F1 F2 : List Nat), i = .int .i64 j ∧ j ≤ n ∧ Two wr (w.heap.size + 1) (w.heap.size + 1) w1.heap.size F1 F2 (puts (l.take j)) (puts (l.reverse.take j)) ∧ Below (w.heap.size + 1) w2 wr) (fun i _ => n - (intOf i).toNat)
  case atStart => exact ⟨0, _, _, rfl, by omega, TW.out, Below.refl _ _⟩
  case round =>
    obtain ⟨W0, rfl⟩ : ∃ W0, W0 = wr := ⟨wr, rfl⟩
    obtain ⟨j, F1, F2, rfl, hj, htw, hbr⟩ := hrel
    have HTW := Lib.hid htw
    have BR := Lib.hid hbr
    have BW := Lib.hid (show Below w.heap.size w W0 from below_tr B2.out (hbr.mono (by omega)))
    have hzr := hbr.size
    clear htw hbr
    by_cases hjn : j < n
    · obtain ⟨⟨x, y⟩, hx⟩ := getElem?_ex (l := l) (k := j) (by rw [HN.out]; exact hjn)
      obtain ⟨m, hm⟩ : ∃ m, n - 1 - j = m := ⟨_, rfl⟩
      obtain ⟨⟨x2, y2⟩, hx2⟩ := getElem?_ex (l := l) (k := m) (by rw [HN.out]; omega)
      obtain ⟨b, o, rfl, hb0, _, _⟩ := HL.out.cells hx
      obtain ⟨hb, g0, g1⟩ := (HL.out.below BW.out).at hx
      have HL2 := Lib.hid (fun W (hW : Below w.heap.size w W) => (HL.out.below hW).at hx2)
      dsimp only at g0 g1
      have HNX := Lib.hid (puts_next hx)
      have HN2 := Lib.hid (puts_back (l := l) (j := j) (x := (x2, y2)) (by rw [HN.out, hm]; exact hx2) (by rw [HN.out]; exact hjn))
      have hl2 := puts_take (l := l.reverse) (j + 1) (by rw [List.length_reverse, HN.out]; omega)
      have HL3 := Lib.hid hl2
      have hl4 := puts_take (l := l.reverse) j (by rw [List.length_reverse, HN.out]; omega)
      have HPE := Lib.hid (show ∀ hs : scoreB (x2, y2) = true, putE (puts (l.reverse.take j)) (x2, y2) = 0 from fun hs => putE_ok hs (by omega))
      have HPF := Lib.hid (show ∀ hs : scoreB (x2, y2) = false, putE (puts (l.reverse.take j)) (x2, y2) = 130 from fun hs => putE_no hs)
      have HA := Lib.hid (fun W (hW : BagIn W (w.heap.size + 1) F1 (puts (l.take j))) => addIn_any _ F1 _ x y W hW)
      have HB := Lib.hid (fun W (hW : BagIn W w1.heap.size F2 (puts (l.reverse.take j))) => addIn_any _ F2 _ x2 y2 W hW)
      rw [← HNX.out] at HA
      rw [← HN2.out] at HB
      obtain ⟨L1, hL1⟩ : ∃ L, puts (l.take (j + 1)) = L := ⟨_, rfl⟩
      obtain ⟨L2, hL2⟩ : ∃ L, puts (l.reverse.take (j + 1)) = L := ⟨_, rfl⟩
      have HE1 := Lib.hid hL1
      have HE2 := Lib.hid hL2
      rw [hL1] at HA
      rw [hL2] at HB hl2
      have HIS := Lib.hid (fun W => ris13_any x2 y2 W)
      have HC := Lib.hid (fun F W (hW : BagIn W w1.heap.size F L2) => addIn_any _ F L2 p q W hW)
      have HPT := Lib.hid (fun F W (hW : BagIn W w1.heap.size F L2) => put_tak hW.scores (by omega) (p, q))
      have HD := Lib.hid (fun F W (hW : BagIn W w1.heap.size F (putS L2 (p, q))) => dropIn_any _ F _ p q W hW)
      obtain ⟨E1, hE1⟩ : ∃ E, putE (puts (l.take j)) (x, y) = E := ⟨_, rfl⟩
      obtain ⟨E2, hE2⟩ : ∃ E, putE (puts (l.reverse.take j)) (x2, y2) = E := ⟨_, rfl⟩
      rw [hE1] at HA
      rw [hE2] at HB HPE HPF
      obtain ⟨E3, hE3⟩ : ∃ E, putE L2 (p, q) = E := ⟨_, rfl⟩
      rw [hE3] at HC HPT
      have i1 : (0 : Int) ≤ (j : Int) := by omega
      have i2 : (j : Int) < (n : Int) := by omega
      have i3 : (0 : Int) ≤ (m : Int) := by omega
      have i4 : (m : Int) < (n : Int) := by omega
      have i5 : IntKind.i64.wrap ((n : Int) - 1) = (n : Int) - 1 := by rw [IntKind.wrap_i64]; omega
      have i6 : IntKind.i64.wrap ((n : Int) - 1 - (j : Int)) = (m : Int) := by rw [IntKind.wrap_i64]; omega
      have hjl : j + 1 ≤ n := hjn
      have hzw : w.heap.size + 1 ≤ W0.heap.size := by omega
      clear hx hx2 hL1 hL2 hE1 hE2 hE3 hl4 hm hl2
      go_wp2_with fail
      (with_reducible refine (HA.out _ HTW.out.one).mono ?_)
      rintro e w3 ⟨rfl, F3, bg3, m3⟩
      obtain ⟨t3, b3⟩ := HTW.out.act1 bg3 m3 hzw
      have T3 := Lib.hid t3
      have B3 := Lib.hid (below_tr BR.out b3)
      have BW3 := Lib.hid (show Below w.heap.size w w3 from below_tr BW.out (b3.mono (by omega)))
      have hz3 := b3.size
      obtain ⟨_, g2, g3⟩ := HL2.out w3 BW3.out
      clear bg3 m3 t3 b3
      cases hs : scoreB (x2, y2) with
      | false =>
        rw [hs] at HIS
        have he := HPF.out hs
        subst he
        clear hs
        go_wp2_with fail
        (with_reducible refine (HB.out _ T3.out.two).mono ?_)
        rintro e w4 ⟨rfl, F4, bg4, m4⟩
        obtain ⟨t4, b4⟩ := T3.out.act2 bg4 m4 (by omega)
        have T4 := Lib.hid t4
        have B4 := Lib.hid (below_tr B3.out b4)
        have BW4 := Lib.hid (show Below w.heap.size w w4 from below_tr BW3.out (b4.mono (by omega)))
        have hz4 := b4.size
        obtain ⟨hb4, q2, q3⟩ := HL2.out w4 BW4.out
        have d0 : w4.cell? ⟨w.heap.size, 0, none⟩ = some (.int .i64 p) := kc B4.out c2_0 (by omega)
        have d1 : w4.cell? ⟨w.heap.size, 1, none⟩ = some (.int .i64 q) := kc B4.out c2_1 (by omega)
        clear bg4 m4 t4 b4
        go_wp2_with fail
        (with_reducible refine (HIS.out _).mono ?_)
        rintro e w5 ⟨rfl, b5⟩
        have T5 := Lib.hid (T4.out.below b5)
        have B5 := Lib.hid (below_tr B4.out (b5.mono (by omega)))
        have hz5 := b5.size
        have d0 : w5.cell? ⟨w.heap.size, 0, none⟩ = some (.int .i64 p) := kc B5.out c2_0 (by omega)
        have d1 : w5.cell? ⟨w.heap.size, 1, none⟩ = some (.int .i64 q) := kc B5.out c2_1 (by omega)
        clear b5
        go_wp2_with fail
        have pt := HPT.out F4 _ T5.out.two
        (with_reducible refine (HC.out F4 _ T5.out.two).mono ?_)
        rintro e w6 ⟨rfl, F6, bg6, m6⟩
        obtain ⟨t6, b6⟩ := T5.out.act2 bg6 m6 (by omega)
        have T6 := Lib.hid t6
        have B6 := Lib.hid (below_tr B5.out b6)
        have hz6 := b6.size
        have d0 : w6.cell? ⟨w.heap.size, 0, none⟩ = some (.int .i64 p) := kc B6.out c2_0 (by omega)
        have d1 : w6.cell? ⟨w.heap.size, 1, none⟩ = some (.int .i64 q) := kc B6.out c2_1 (by omega)
        have hd := HD.out F6 _ T6.out.two
        rw [pt.1, pt.2] at hd
        have HDD := Lib.hid hd
        clear bg6 m6 t6 b6 hd pt
        go_wp2_with fail
        (with_reducible refine HDD.out.mono ?_)
        rintro e w7 ⟨rfl, F7, bg7, m7⟩
        obtain ⟨t7, b7⟩ := T6.out.act2 bg7 m7 (by omega)
        have T7 := Lib.hid t7
        have B7 := Lib.hid (below_tr B6.out b7)
        clear bg7 m7 t7 b7
        go_wp2_with fail
        refine ⟨⟨j + 1, F3, F7, by go_num, hjl, by rw [HE1.out, HE2.out]; exact T7.out, B7.out⟩, by simp [intOf]; omega⟩
      | true =>
        have he := HPE.out hs
        subst he
        clear hs HIS
        go_wp2_with fail
        (with_reducible refine (HB.out _ T3.out.two).mono ?_)
        rintro e w4 ⟨rfl, F4, bg4, m4⟩
        obtain ⟨t4, b4⟩ := T3.out.act2 bg4 m4 (by omega)
        have T4 := Lib.hid t4
        have B4 := Lib.hid (below_tr B3.out b4)
        have BW4 := Lib.hid (show Below w.heap.size w w4 from below_tr BW3.out (b4.mono (by omega)))
        have hz4 := b4.size
        obtain ⟨hb4, q2, q3⟩ := HL2.out w4 BW4.out
        have d0 : w4.cell? ⟨w.heap.size, 0, none⟩ = some (.int .i64 p) := kc B4.out c2_0 (by omega)
        have d1 : w4.cell? ⟨w.heap.size, 1, none⟩ = some (.int .i64 q) := kc B4.out c2_1 (by omega)
        clear bg4 m4 t4 b4
        go_wp2_with fail
        have pt := HPT.out F4 _ T4.out.two
        (with_reducible refine (HC.out F4 _ T4.out.two).mono ?_)
        rintro e w6 ⟨rfl, F6, bg6, m6⟩
        obtain ⟨t6, b6⟩ := T4.out.act2 bg6 m6 (by omega)
        have T6 := Lib.hid t6
        have B6 := Lib.hid (below_tr B4.out b6)
        have hz6 := b6.size
        have d0 : w6.cell? ⟨w.heap.size, 0, none⟩ = some (.int .i64 p) := kc B6.out c2_0 (by omega)
        have d1 : w6.cell? ⟨w.heap.size, 1, none⟩ = some (.int .i64 q) := kc B6.out c2_1 (by omega)
        have hd := HD.out F6 _ T6.out.two
        rw [pt.1, pt.2] at hd
        have HDD := Lib.hid hd
        clear bg6 m6 t6 b6 hd pt
        go_wp2_with fail
        (with_reducible refine HDD.out.mono ?_)
        rintro e w7 ⟨rfl, F7, bg7, m7⟩
        obtain ⟨t7, b7⟩ := T6.out.act2 bg7 m7 (by omega)
        have T7 := Lib.hid t7
        have B7 := Lib.hid (below_tr B6.out b7)
        clear bg7 m7 t7 b7
        go_wp2_with fail
        refine ⟨⟨j + 1, F3, F7, by go_num, hjl, by rw [HE1.out, HE2.out]; exact T7.out, B7.out⟩, by simp [intOf]; omega⟩
    · obtain rfl : j = n := by omega
      rw [List.take_of_length_le (by rw [HN.out]; exact Nat.le_refl _), List.take_of_length_le (l := l.reverse) (by rw [List.length_reverse, HN.out]; exact Nat.le_refl _), puts_rev (by rw [HN.out]; omega)] at HTW
      have hpl := puts_len (l := l) (by rw [HN.out]; omega)
      rw [HN.out] at hpl
      obtain ⟨D, hD⟩ : ∃ D, puts l = D := ⟨_, rfl⟩
      rw [hD] at HTW hpl
      have HSC := Lib.hid HTW.out.one.scores
      have HALL := Lib.hid (fun W (hW : BagIn W (w.heap.size + 1) F1 D) => allIn_any _ F1 D W hW)
      have HAL2 := Lib.hid (fun W (hW : BagIn W w1.heap.size F2 D) => allIn_any _ F2 D W hW)
      have HLEN := Lib.hid (fun W (hW : BagIn W (w.heap.size + 1) F1 D) => lenIn_any _ F1 D W hW)
      have HSA := Lib.hid (fun v u W (hv : PairsR W v D) (hu : PairsR W u D) => same13_eq v u D W hv hu)
      obtain ⟨N, hN⟩ : ∃ N, D.length = N := ⟨_, rfl⟩
      have HND := Lib.hid hN
      rw [hN] at HLEN hpl
      clear hD hN hj hjn
      go_wp2_with fail
      have B0 := BW
      (with_reducible refine (HALL.out _ HTW.out.one).mono ?_); rintro e w3 ⟨v3, rfl, p3, b3⟩; have s3 : W0.heap.size ≤ w3.heap.size := sz b3; have B3 := Lib.hid (Bc (B := w.heap.size) (a := w) (by (repeat (first | with_reducible exact Below.refl _ _ | with_reducible refine Bs ?_ | with_reducible refine Ba ?_ | with_reducible refine Bd ?_ | with_reducible refine Bn ?_ | with_reducible refine Bt B0.out ?_))) b3); have HTW := Lib.hid ((HTW.out.below (by (repeat (first | with_reducible exact Below.refl _ _ | with_reducible refine Bs ?_ | with_reducible refine Ba ?_ | with_reducible refine Bd ?_ | with_reducible refine Bn ?_)))).below b3); clear b3
      have P3 := Lib.hid p3
      obtain ⟨a3, k3, rfl⟩ := p3.shape
      rw [HND.out] at P3 ⊢
      clear p3
      go_wp2_with fail
      go_loopw [11] (fun i wr => ∃ (k : Nat), i = .int .i64 k ∧ k ≤ N ∧ Two wr (w.heap.size + 1) (w.heap.size + 1) w1.heap.size F1 F2 D D ∧ PairsR wr (.slice a3 N k3) D ∧ Below w.heap.size w wr) (fun i _ => N - (intOf i).toNat)
      case atStart => exact ⟨0, rfl, by omega, HTW.out, P3.out, B3.out⟩
      case round =>
        obtain ⟨k, rfl, hk, htw, hpr, hbr⟩ := hrel
        have HT := Lib.hid htw
        have HP := Lib.hid hpr
        have BR2 := Lib.hid hbr
        have hzz := hbr.size
        clear htw hpr hbr
        by_cases hkn : k + 1 < N
        · obtain ⟨⟨x, y⟩, hx⟩ := getElem?_ex (l := D) (k := k) (by rw [HND.out]; omega)
          obtain ⟨⟨r, t⟩, hy⟩ := getElem?_ex (l := D) (k := k + 1) (by rw [HND.out]; omega)
          obtain ⟨b, o, rfl, hb, g0, g1⟩ := HP.out.cells hx
          obtain ⟨_, g2, g3⟩ := HP.out.at hy
          dsimp only at g0 g1 g2 g3
          have hx0 := scoreB_is.1 (allS_mem HSC.out.all (List.mem_of_getElem? hx))
          have hy0 := scoreB_is.1 (allS_mem HSC.out.all (List.mem_of_getElem? hy))
          dsimp only at hx0 hy0
          have hso := List.pairwise_iff_getElem.1 HSC.out.sort k (k + 1) (by rw [HND.out]; omega) (by rw [HND.out]; omega) (by omega)
          rw [(List.getElem?_eq_some_iff.1 hx).2, (List.getElem?_eq_some_iff.1 hy).2] at hso
          have HO := Lib.hid (fun W => rodder_any x y r t W hx0.2.1 (by omega) hy0.2.1 (by omega))
          obtain ⟨R, hR⟩ : ∃ R, oddI (x, y) (r, t) = R := ⟨_, rfl⟩
          rw [hR] at HO hso
          have i0 : ¬ 0 < R := by omega
          have i1 : (0 : Int) ≤ (k : Int) := by omega
          have i2 : (k : Int) < (N : Int) := by omega
          have i3 : (k : Int) + 1 < (N : Int) := by omega
          have i4 : (0 : Int) ≤ (k : Int) + 1 := by omega
          have i5 : IntKind.i64.wrap ((k : Int) + 1) = (k : Int) + 1 := by rw [IntKind.wrap_i64]; omega
          have i6 : ((k : Int) + 1).toNat = k + 1 := by omega
          clear hx hy hx0 hy0 hR hso
          go_wp2_with fail
          refine wp_region_held_drew (S := fun w' => w'.cell? ⟨b, o + k * 2, none⟩ = some (.int .i64 x) ∧ w'.cell? ⟨b, o + k * 2 + 1, none⟩ = some (.int .i64 y) ∧ w'.cell? ⟨b, o + (k + 1) * 2, none⟩ = some (.int .i64 r) ∧ w'.cell? ⟨b, o + (k + 1) * 2 + 1, none⟩ = some (.int .i64 t)) (by kernel_rfl) ?_ (fun hHeld => ?_); (focus (first | with_reducible exact True.intro | ((try dsimp only); and_intros <;> first | (go_simp; done) | (go_keep; done)))); (refine lexTk 0 (v := ?_) rfl hHeld ?_ (by kernel_rfl) (fun _ _ _ h => h) ?_ ?_; rotate_left 2; (focus rfl); (focus (intro w hSw; (try dsimp only at hSw); first | (go_simp; done) | (go_simp; with_reducible rfl)))); (try simp only [Act.put, List.setIfInBounds_toArray, List.set_cons_zero, List.set_cons_succ]); (refine lexTk 1 (v := ?_) rfl hHeld ?_ (by kernel_rfl) (fun _ _ _ h => h) ?_ ?_; rotate_left 2; (focus rfl); (focus (intro w hSw; (try dsimp only at hSw); first | (go_simp; done) | (go_simp; with_reducible rfl)))); (try simp only [Act.put, List.setIfInBounds_toArray, List.set_cons_zero, List.set_cons_succ]); (refine lexTk 2 (v := ?_) rfl hHeld ?_ (by kernel_rfl) (fun _ _ _ h => h) ?_ ?_; rotate_left 2; (focus rfl); (focus (intro w hSw; (try dsimp only at hSw); first | (go_simp; done) | (go_simp; with_reducible rfl)))); (try simp only [Act.put, List.setIfInBounds_toArray, List.set_cons_zero, List.set_cons_succ]); (refine lexTk 3 (v := ?_) rfl hHeld ?_ (by kernel_rfl) (fun _ _ _ h => h) ?_ ?_; rotate_left 2; (focus rfl); (focus (intro w hSw; (try dsimp only at hSw); first | (go_simp; done) | (go_simp; with_reducible rfl)))); (try simp only [Act.put, List.setIfInBounds_toArray, List.set_cons_zero, List.set_cons_succ]); (refine lexTk 4 (v := ?_) rfl hHeld ?_ (by kernel_rfl) (fun _ _ _ h => h) ?_ ?_; rotate_left 2; (focus rfl); (focus (intro w hSw; (try dsimp only at hSw); first | (go_simp; done) | (go_simp; with_reducible rfl)))); (try simp only [Act.put, List.setIfInBounds_toArray, List.set_cons_zero, List.set_cons_succ]); (refine lexTk 5 (v := ?_) rfl hHeld ?_ (by kernel_rfl) (fun _ _ _ h => h) ?_ ?_; rotate_left 2; (focus rfl); (focus (intro w hSw; (try dsimp only at hSw); first | (go_simp; done) | (go_simp; with_reducible rfl)))); (try simp only [Act.put, List.setIfInBounds_toArray, List.set_cons_zero, List.set_cons_succ]); (refine lexTk 6 (v := ?_) rfl hHeld ?_ (by kernel_rfl) (fun _ _ _ h => h) ?_ ?_; rotate_left 2; (focus rfl); (focus (intro w hSw; (try dsimp only at hSw); first | (go_simp; done) | (go_simp; with_reducible rfl)))); (try simp only [Act.put, List.setIfInBounds_toArray, List.set_cons_zero, List.set_cons_succ]); (refine lexTk 7 (v := ?_) rfl hHeld ?_ (by kernel_rfl) (fun _ _ _ h => h) ?_ ?_; rotate_left 2; (focus rfl); (focus (intro w hSw; (try dsimp only at hSw); first | (go_simp; done) | (go_simp; with_reducible rfl)))); (try simp only [Act.put, List.setIfInBounds_toArray, List.set_cons_zero, List.set_cons_succ]); (refine lexTk 8 (v := ?_) rfl hHeld ?_ (by kernel_rfl) (fun _ _ _ h => h) ?_ ?_; rotate_left 2; (focus rfl); (focus (intro w hSw; (try dsimp only at hSw); first | (go_simp; done) | (go_simp; with_reducible rfl)))); (try simp only [Act.put, List.setIfInBounds_toArray, List.set_cons_zero, List.set_cons_succ]); refine lexHv 9 rfl ?_ (by kernel_rfl); (intro K hK); (go_simp; go_at_call 26; (with_reducible refine (HO.out _).mono ?_); rintro e w5 ⟨rfl, b5⟩; have s5 : wr.heap.size ≤ w5.heap.size := sz b5; have B5 := Lib.hid (Bc (B := w.heap.size) (a := w) (by (repeat (first | with_reducible exact Below.refl _ _ | with_reducible refine Bs ?_ | with_reducible refine Ba ?_ | with_reducible refine Bd ?_ | with_reducible refine Bn ?_ | with_reducible refine Bt BR2.out ?_))) b5); have c5_0 : w5.cell? ⟨b, o + k * 2, none⟩ = some (.int .i64 x) := kc b5 (by go_simp) (by first | omega | (simp; done) | (simp; omega)); have c5_1 : w5.cell? ⟨b, o + k * 2 + 1, none⟩ = some (.int .i64 y) := kc b5 (by go_simp) (by first | omega | (simp; done) | (simp; omega)); have c5_2 : w5.cell? ⟨b, o + (k + 1) * 2, none⟩ = some (.int .i64 r) := kc b5 (by go_simp) (by first | omega | (simp; done) | (simp; omega)); have c5_3 : w5.cell? ⟨b, o + (k + 1) * 2 + 1, none⟩ = some (.int .i64 t) := kc b5 (by go_simp) (by first | omega | (simp; done) | (simp; omega)); obtain ⟨l5_0, n5_0, m5_0⟩ := lnm (show b < w5.heap.size by omega); have HT := Lib.hid ((HT.out.below (by (repeat (first | with_reducible exact Below.refl _ _ | with_reducible refine Bs ?_ | with_reducible refine Ba ?_ | with_reducible refine Bd ?_ | with_reducible refine Bn ?_)))).below b5); have HP := Lib.hid ((HP.out.below (by (repeat (first | with_reducible exact Below.refl _ _ | with_reducible refine Bs ?_ | with_reducible refine Ba ?_ | with_reducible refine Bd ?_ | with_reducible refine Bn ?_)))).below b5); clear b5; (try go_wp2_with fail)); refine hK.out _ _ ?_ ?_; (focus (first | with_reducible exact True.intro | ((try dsimp only); and_intros <;> first | (go_simp; done) | (go_keep; done)))); (clear hHeld hK K); (intro hHeld); (try simp only [Act.put, List.setIfInBounds_toArray, List.set_cons_zero, List.set_cons_succ]); (refine lexTk 10 (v := ?_) rfl hHeld ?_ (by kernel_rfl) (fun _ _ _ h => h) ?_ ?_; rotate_left 2; (focus rfl); (focus (intro w hSw; (try dsimp only at hSw); first | (go_simp; done) | (go_simp; with_reducible rfl)))); (try simp only [Act.put, List.setIfInBounds_toArray, List.set_cons_zero, List.set_cons_succ]); refine wpAnyH_done (by kernel_rfl) ?_ _
          go_wp2_with fail
          refine ⟨⟨k + 1, by go_num, by omega, HT.out, HP.out, B5.out⟩, by simp [intOf]; omega⟩
        · have i3 : ¬ (k : Int) + 1 < (N : Int) := by omega
          have i4 : (k : Int) ≤ 150 := by omega
          have i5 : IntKind.i64.wrap ((k : Int) + 1) = (k : Int) + 1 := by rw [IntKind.wrap_i64]; omega
          go_wp2_with fail
          (with_reducible refine (HAL2.out _ HT.out.two).mono ?_); rintro e w5 ⟨v5, rfl, p5, b5⟩; have s5 : wr.heap.size ≤ w5.heap.size := sz b5; have B5 := Lib.hid (Bc (B := w.heap.size) (a := w) (by (repeat (first | with_reducible exact Below.refl _ _ | with_reducible refine Bs ?_ | with_reducible refine Ba ?_ | with_reducible refine Bd ?_ | with_reducible refine Bn ?_ | with_reducible refine Bt BR2.out ?_))) b5); have HT := Lib.hid ((HT.out.below (by (repeat (first | with_reducible exact Below.refl _ _ | with_reducible refine Bs ?_ | with_reducible refine Ba ?_ | with_reducible refine Bd ?_ | with_reducible refine Bn ?_)))).below b5); have HP := Lib.hid ((HP.out.below (by (repeat (first | with_reducible exact Below.refl _ _ | with_reducible refine Bs ?_ | with_reducible refine Ba ?_ | with_reducible refine Bd ?_ | with_reducible refine Bn ?_)))).below b5); clear b5
          have P5 := Lib.hid p5
          clear p5
          go_wp2_with fail
          (with_reducible refine (HSA.out _ _ _ HP.out P5.out).mono ?_); rintro e w6 ⟨rfl, b6⟩; have s6 : w5.heap.size ≤ w6.heap.size := sz b6; have B6 := Lib.hid (Bc (B := w.heap.size) (a := w) (by (repeat (first | with_reducible exact Below.refl _ _ | with_reducible refine Bs ?_ | with_reducible refine Ba ?_ | with_reducible refine Bd ?_ | with_reducible refine Bn ?_ | with_reducible refine Bt B5.out ?_))) b6); have HT := Lib.hid ((HT.out.below (by (repeat (first | with_reducible exact Below.refl _ _ | with_reducible refine Bs ?_ | with_reducible refine Ba ?_ | with_reducible refine Bd ?_ | with_reducible refine Bn ?_)))).below b6); clear b6
          go_wp2_with fail
          (with_reducible refine (HLEN.out _ HT.out.one).mono ?_)
          rintro e w7 ⟨rfl, rfl⟩
          go_wp2_with fail
          (with_reducible refine (lives18_any _).mono ?_); rintro e w8 ⟨rfl, b8⟩; have s8 : w6.heap.size ≤ w8.heap.size := sz b8; have B8 := Lib.hid (Bc (B := w.heap.size) (a := w) (by (repeat (first | with_reducible exact Below.refl _ _ | with_reducible refine Bs ?_ | with_reducible refine Ba ?_ | with_reducible refine Bd ?_ | with_reducible refine Bn ?_ | with_reducible refine Bt B6.out ?_))) b8); clear b8
          go_wp2_with fail
          go_ret
          exact ⟨rfl, B8.out⟩

set_option maxRecDepth 100000 in
set_option maxHeartbeats 4000000 in
theorem bagOrders_walk {w : World} (v : Value) (rows : List (List Int)) (h : ArgRows 2 w v rows) (v1 : Value) (s : Int × Int) (h1 : ArgPair v1 s) :
    Calls Try.prog 4 #[v, v1] w fun e w' => e = .returned (.bool true) ∧ Below w.heap.size w w' := by
  obtain ⟨p, q⟩ := s
  obtain ⟨rfl, _⟩ := h1
  dsimp only
  by_cases hl : (150 : Int) < rows.length
  · obtain ⟨ad, c, rfl, _⟩ := h.shape
    generalize rows.length = m at *
    clear h
    go_enter Try.func4, Try.ntmps4
    go_wp2_with fail
    (with_reducible refine (newIn_any _).mono ?_); rintro e w1 ⟨rfl, bg1, b1⟩; have s1 : w.heap.size + 1 ≤ w1.heap.size := sz b1; have B1 := Lib.hid (Bc (B := w.heap.size) (a := w) (by (repeat (first | with_reducible exact Below.refl _ _ | with_reducible refine Bs ?_ | with_reducible refine Ba ?_ | with_reducible refine Bd ?_ | with_reducible refine Bn ?_))) b1); clear b1
    clear bg1
    go_wp2_with fail
    (with_reducible refine (newIn_any _).mono ?_); rintro e w2 ⟨rfl, bg2, b2⟩; have s2 : w1.heap.size ≤ w2.heap.size := sz b2; have B2 := Lib.hid (Bc (B := w.heap.size) (a := w) (by (repeat (first | with_reducible exact Below.refl _ _ | with_reducible refine Bs ?_ | with_reducible refine Ba ?_ | with_reducible refine Bd ?_ | with_reducible refine Bn ?_ | with_reducible refine Bt B1.out ?_))) b2); clear b2
    clear bg2
    go_wp2_with fail
    (with_reducible refine (lives18_any _).mono ?_); rintro e w3 ⟨rfl, b3⟩; have s3 : w2.heap.size ≤ w3.heap.size := sz b3; have B3 := Lib.hid (Bc (B := w.heap.size) (a := w) (by (repeat (first | with_reducible exact Below.refl _ _ | with_reducible refine Bs ?_ | with_reducible refine Ba ?_ | with_reducible refine Bd ?_ | with_reducible refine Bn ?_ | with_reducible refine Bt B2.out ?_))) b3); clear b3
    go_wp2_with fail
    go_ret
    exact ⟨rfl, by (repeat (first | with_reducible exact Below.refl _ _ | with_reducible refine Bs ?_ | with_reducible refine Ba ?_ | with_reducible refine Bd ?_ | with_reducible refine Bn ?_ | with_reducible refine Bt B3.out ?_))⟩
  · have i0 := h.pairs (by omega)
    have hlen : (rows.map pairOf).length = rows.length := by rw [List.length_map]
    obtain ⟨ad, c, rfl, _⟩ := h.shape
    exact bagOrders_mid ad rows.length c (rows.map pairOf) p q i0 hlen hl
end Go.Proofs.Ytjmjnkilgoelbaa
