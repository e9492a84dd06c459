/-
  Laws18b: Walk of BagRanks.
-/
import Derived.Test.YtjmjnkilgoelbaaJ4a
import Derived.Test.YtjmjnkilgoelbaaJ0c
namespace Go.Proofs.Ytjmjnkilgoelbaa
open Go.RowKit

set_option maxRecDepth 100000 in
set_option maxHeartbeats 8000000 in
theorem bagRanks_mid {w : World} (a : Option Addr) (n c : Nat) (l : List (Int × Int)) (h0 : PairsR w (.slice a n c) l) (hn : l.length = n) (hbig : ¬ (100 : Int) < (n : Int)) :
    Calls Try.prog 5 #[.slice a n c] w fun e w' => e = .returned (.bool true) ∧ Below w.heap.size w w' := by
  have HL := Lib.hid h0
  have HN := Lib.hid hn
  have hn4 : n ≤ 100 := by omega
  clear h0 hn
  go_enter Try.func5, Try.ntmps5
  go_wp2_with fail
  (with_reducible refine (newIn_any _).mono ?_); rintro e w1 ⟨rfl, bg1, b1⟩; have s1 : w.heap.size ≤ w1.heap.size := sz b1; have B1 := Lib.hid (Bc (B := w.heap.size) (a := w) (by (repeat (first | with_reducible exact Below.refl _ _ | with_reducible refine Bs ?_ | with_reducible refine Ba ?_ | with_reducible refine Bd ?_ | with_reducible refine Bn ?_))) b1); clear b1
  have BG1 := Lib.hid bg1
  clear bg1
  go_wp2_with fail
  go_loopw [4] (fun i wr => ∃ (j : Nat) (F : List Nat), i = .int .i64 j ∧ j ≤ n ∧ BagIn wr w.heap.size F (puts (l.take j)) ∧ (∀ x ∈ F, w.heap.size ≤ x) ∧ Below w.heap.size w wr) (fun i _ => n - (intOf i).toNat)
  case atStart => exact ⟨0, _, rfl, by omega, BG1.out, by simp, B1.out⟩
  case round =>
    obtain ⟨W0, rfl⟩ : ∃ W0, W0 = wr := ⟨wr, rfl⟩
    obtain ⟨j, F, rfl, hj, hbg, hlo, hbr⟩ := hrel
    have HBG := Lib.hid hbg
    have HLO := Lib.hid hlo
    have BR := Lib.hid hbr
    have hzr := hbr.size
    clear hbg hlo hbr
    by_cases hjn : j < n
    · obtain ⟨⟨x, y⟩, hx⟩ := getElem?_ex (l := l) (k := j) (by rw [HN.out]; exact hjn)
      obtain ⟨b, o, rfl, hb0, _, _⟩ := HL.out.cells hx
      obtain ⟨hb, g0, g1⟩ := (HL.out.below BR.out).at hx
      dsimp only at g0 g1
      have HNX := Lib.hid (puts_next hx)
      have HAD := Lib.hid (addIn_any _ F _ x y W0 HBG.out)
      rw [← HNX.out] at HAD
      have i1 : (0 : Int) ≤ (j : Int) := by omega
      have i2 : (j : Int) < (n : Int) := by omega
      have hjl : j + 1 ≤ n := hjn
      clear hx
      generalize putE (puts (l.take j)) (x, y) = E at HAD
      go_wp2_with fail
      (with_reducible refine HAD.out.mono ?_)
      rintro e w2 ⟨rfl, F2, bg2, m2⟩
      have BG2 := Lib.hid bg2
      obtain ⟨b2, lo2⟩ := m2.low (B := w.heap.size) HLO.out hzr
      have LO2 := Lib.hid lo2
      have B2 := Lib.hid (below_tr BR.out b2)
      clear bg2 m2 b2 lo2
      go_wp2_with fail
      refine ⟨⟨j + 1, F2, by go_num, hjl, BG2.out, LO2.out, B2.out⟩, by simp [intOf]; omega⟩
    · obtain rfl : j = n := by omega
      rw [List.take_of_length_le (by rw [HN.out]; exact Nat.le_refl _)] at HBG
      have hpl := puts_len (l := l) (by rw [HN.out]; omega)
      rw [HN.out] at hpl
      have HRT := Lib.hid (fun s (hs : scoreB s = true) (hm : s ∈ l) => ranks_tell HBG.out.scores (puts_mem (by rw [HN.out]; omega) hm hs) hs)
      obtain ⟨D, hD⟩ : ∃ D, puts l = D := ⟨_, rfl⟩
      rw [hD] at HBG HRT hpl
      have HLEN := Lib.hid (fun W (hW : BagIn W w.heap.size F D) => lenIn_any _ F D W hW)
      have HSC := Lib.hid HBG.out.scores
      have HRK := Lib.hid (fun p q W (hW : BagIn W w.heap.size F D) => rankIn_all _ F D p q W hW)
      have HKT := Lib.hid (fun k W (hW : BagIn W w.heap.size F D) => kthIn_any _ F D k W hW)
      obtain ⟨N, hN⟩ : ∃ N, D.length = N := ⟨_, rfl⟩
      have HND := Lib.hid hN
      rw [hN] at HLEN hpl HRT
      clear hD hN hj hjn
      go_wp2_with fail
      go_loopw [5] (fun i wr => ∃ (k : Nat), i = .int .i64 k ∧ k ≤ j ∧ BagIn wr w.heap.size F D ∧ Below w.heap.size w wr) (fun i _ => j - (intOf i).toNat)
      case atStart => exact ⟨0, rfl, by omega, HBG.out, BR.out⟩
      case round =>
        obtain ⟨k, rfl, hk, hb2, hb3⟩ := hrel
        have BR2 := Lib.hid hb3
        have HBG2 := Lib.hid hb2
        have hz3 := hb3.size
        clear hb3 hb2
        by_cases hkn : k < j
        · obtain ⟨⟨x, y⟩, hx⟩ := getElem?_ex (l := l) (k := k) (by rw [HN.out]; exact hkn)
          obtain ⟨b, o, rfl, hb0, _, _⟩ := HL.out.cells hx
          obtain ⟨hb, g0, g1⟩ := (HL.out.below BR2.out).at hx
          dsimp only at g0 g1
          have hmem := List.mem_of_getElem? hx
          have i1 : (0 : Int) ≤ (k : Int) := by omega
          have i2 : (k : Int) < (j : Int) := by omega
          clear hx
          have HIS := Lib.hid (fun W => ris13_any x y W)
          cases hs : scoreB (x, y) with
          | false =>
            rw [hs] at HIS
            clear hs hmem
            go_wp2_with fail
            (with_reducible refine (HIS.out _).mono ?_); rintro e w4 ⟨rfl, b4⟩; have s4 : wr.heap.size ≤ w4.heap.size := sz b4; have B4 := Lib.hid (Bc (B := w.heap.size) (a := w) (by (repeat (first | with_reducible exact Below.refl _ _ | with_reducible refine Bs ?_ | with_reducible refine Ba ?_ | with_reducible refine Bd ?_ | with_reducible refine Bn ?_ | with_reducible refine Bt BR2.out ?_))) b4); have HBG2 := Lib.hid ((HBG2.out.below (by (repeat (first | with_reducible exact Below.refl _ _ | with_reducible refine Bs ?_ | with_reducible refine Ba ?_ | with_reducible refine Bd ?_ | with_reducible refine Bn ?_)))).below b4); clear b4
            go_wp2_with fail
            refine ⟨⟨k + 1, by go_num, by omega, HBG2.out, B4.out⟩, by simp [intOf]; omega⟩
          | true =>
            rw [hs] at HIS
            obtain ⟨r0, r1, r2, r3, r4⟩ := HRT.out _ hs hmem
            have HR := Lib.hid (HRK.out x y)
            rw [r0] at HR
            obtain ⟨A, hA⟩ : ∃ A, rankA D (x, y) = A := ⟨_, rfl⟩
            obtain ⟨B, hB⟩ : ∃ B, rankB D (x, y) = B := ⟨_, rfl⟩
            rw [hA, hB] at r2 r4 HR
            rw [hA] at r3
            rw [hB] at r1
            have hK1 := HKT.out ((A : Int) + 1)
            have hK2 := HKT.out ((A : Int) + (B : Int))
            rw [show kthV D ((A : Int) + 1) = (x, y) by unfold kthV; rw [HND.out, if_neg (by omega), show ((A : Int) + 1).toNat - 1 = A by omega, getD_of r3], show kthE D ((A : Int) + 1) = 0 by unfold kthE; rw [HND.out, if_neg (by omega)]] at hK1
            rw [show kthV D ((A : Int) + (B : Int)) = (x, y) by unfold kthV; rw [HND.out, if_neg (by omega), show ((A : Int) + (B : Int)).toNat - 1 = A + B - 1 by omega, getD_of r4], show kthE D ((A : Int) + (B : Int)) = 0 by unfold kthE; rw [HND.out, if_neg (by omega)]] at hK2
            have K1 := Lib.hid hK1
            have K2 := Lib.hid hK2
            clear hK1 hK2 r0 r3 r4 hA hB hs hmem
            have q1 : ¬ (B : Int) < 1 := by omega
            have q2 : ¬ (A : Int) < 0 := by omega
            have q3 : ¬ (N : Int) < (A : Int) + (B : Int) := by omega
            have q4 : (A : Int) ≤ 100 := by omega
            have q5 : (B : Int) ≤ 100 := by omega
            go_wp2_with fail
            (with_reducible refine (HIS.out _).mono ?_); rintro e w4 ⟨rfl, b4⟩; have s4 : wr.heap.size ≤ w4.heap.size := sz b4; have B4 := Lib.hid (Bc (B := w.heap.size) (a := w) (by (repeat (first | with_reducible exact Below.refl _ _ | with_reducible refine Bs ?_ | with_reducible refine Ba ?_ | with_reducible refine Bd ?_ | with_reducible refine Bn ?_ | with_reducible refine Bt BR2.out ?_))) b4); have c4_0 : w4.cell? ⟨b, o + k * 2, none⟩ = some (.int .i64 x) := kc b4 (by go_simp) (by first | omega | (simp; done) | (simp; omega)); have c4_1 : w4.cell? ⟨b, o + k * 2 + 1, none⟩ = some (.int .i64 y) := kc b4 (by go_simp) (by first | omega | (simp; done) | (simp; omega)); obtain ⟨l4_0, n4_0, m4_0⟩ := lnm (show b < w4.heap.size by omega); have HBG2 := Lib.hid ((HBG2.out.below (by (repeat (first | with_reducible exact Below.refl _ _ | with_reducible refine Bs ?_ | with_reducible refine Ba ?_ | with_reducible refine Bd ?_ | with_reducible refine Bn ?_)))).below b4); clear b4
            go_wp2_with fail
            (with_reducible refine (HR.out _ HBG2.out).mono ?_); rintro e w5 ⟨rfl, b5⟩; have s5 : w4.heap.size ≤ w5.heap.size := sz b5; have B5 := Lib.hid (Bc (B := w.heap.size) (a := w) (by (repeat (first | with_reducible exact Below.refl _ _ | with_reducible refine Bs ?_ | with_reducible refine Ba ?_ | with_reducible refine Bd ?_ | with_reducible refine Bn ?_ | with_reducible refine Bt B4.out ?_))) b5); have c5_0 : w5.cell? ⟨b, o + k * 2, none⟩ = some (.int .i64 x) := kc b5 (by go_simp) (by first | omega | (simp; done) | (simp; omega)); have c5_1 : w5.cell? ⟨b, o + k * 2 + 1, none⟩ = some (.int .i64 y) := kc b5 (by go_simp) (by first | omega | (simp; done) | (simp; omega)); obtain ⟨l5_0, n5_0, m5_0⟩ := lnm (show b < w5.heap.size by omega); have HBG2 := Lib.hid ((HBG2.out.below (by (repeat (first | with_reducible exact Below.refl _ _ | with_reducible refine Bs ?_ | with_reducible refine Ba ?_ | with_reducible refine Bd ?_ | with_reducible refine Bn ?_)))).below b5); clear b5
            go_wp2_with fail
            (with_reducible refine (HLEN.out _ HBG2.out).mono ?_)
            rintro e w6 ⟨rfl, rfl⟩
            go_wp2_with fail
            (with_reducible refine (K1.out _ HBG2.out).mono ?_); rintro e w7 ⟨rfl, b7⟩; have s7 : w5.heap.size ≤ w7.heap.size := sz b7; have B7 := Lib.hid (Bc (B := w.heap.size) (a := w) (by (repeat (first | with_reducible exact Below.refl _ _ | with_reducible refine Bs ?_ | with_reducible refine Ba ?_ | with_reducible refine Bd ?_ | with_reducible refine Bn ?_ | with_reducible refine Bt B5.out ?_))) b7); have c7_0 : w7.cell? ⟨b, o + k * 2, none⟩ = some (.int .i64 x) := kc b7 (by go_simp) (by first | omega | (simp; done) | (simp; omega)); have c7_1 : w7.cell? ⟨b, o + k * 2 + 1, none⟩ = some (.int .i64 y) := kc b7 (by go_simp) (by first | omega | (simp; done) | (simp; omega)); obtain ⟨l7_0, n7_0, m7_0⟩ := lnm (show b < w7.heap.size by omega); have HBG2 := Lib.hid ((HBG2.out.below (by (repeat (first | with_reducible exact Below.refl _ _ | with_reducible refine Bs ?_ | with_reducible refine Ba ?_ | with_reducible refine Bd ?_ | with_reducible refine Bn ?_)))).below b7); clear b7
            go_wp2_with fail
            (with_reducible refine (K2.out _ (HBG2.out.below (by (repeat (first | with_reducible exact Below.refl _ _ | with_reducible refine Bs ?_ | with_reducible refine Ba ?_ | with_reducible refine Bd ?_ | with_reducible refine Bn ?_))))).mono ?_); rintro e w8 ⟨rfl, b8⟩; have s8 : w7.heap.size + 1 ≤ w8.heap.size := sz b8; have B8 := Lib.hid (Bc (B := w.heap.size) (a := w) (by (repeat (first | with_reducible exact Below.refl _ _ | with_reducible refine Bs ?_ | with_reducible refine Ba ?_ | with_reducible refine Bd ?_ | with_reducible refine Bn ?_ | with_reducible refine Bt B7.out ?_))) b8); have c8_0 : w8.cell? ⟨b, o + k * 2, none⟩ = some (.int .i64 x) := kc b8 (by go_simp) (by first | omega | (simp; done) | (simp; omega)); have c8_1 : w8.cell? ⟨b, o + k * 2 + 1, none⟩ = some (.int .i64 y) := kc b8 (by go_simp) (by first | omega | (simp; done) | (simp; omega)); obtain ⟨c8_2, c8_3⟩ := k2 (w7.heap.size) (.int .i64 x) (.int .i64 y) b8 (by and_intros <;> go_simp); obtain ⟨l8_0, n8_0, m8_0⟩ := lnm (show b < w8.heap.size by omega); obtain ⟨l8_1, n8_1, m8_1⟩ := lnm (show w7.heap.size < w8.heap.size by omega); have HBG2 := Lib.hid ((HBG2.out.below (by (repeat (first | with_reducible exact Below.refl _ _ | with_reducible refine Bs ?_ | with_reducible refine Ba ?_ | with_reducible refine Bd ?_ | with_reducible refine Bn ?_)))).below b8); clear b8
            go_wp2_with fail
            refine wp_region_held_drew (S := fun w' => w'.cell? ⟨b, o + k * 2, none⟩ = some (.int .i64 x) ∧ w'.cell? ⟨b, o + k * 2 + 1, none⟩ = some (.int .i64 y) ∧ w'.cell? ⟨w7.heap.size, 0, none⟩ = some (.int .i64 x) ∧ w'.cell? ⟨w7.heap.size, 1, none⟩ = some (.int .i64 y) ∧ w'.cell? ⟨w8.heap.size, 0, none⟩ = some (.int .i64 x) ∧ w'.cell? ⟨w8.heap.size, 1, none⟩ = some (.int .i64 y)) (by kernel_rfl) ?_ (fun hHeld => ?_); (focus (first | with_reducible exact True.intro | ((try dsimp only); and_intros <;> first | (go_simp; done) | (go_keep; done)))); (refine lexTk 0 (v := ?_) rfl hHeld ?_ (by kernel_rfl) (fun _ _ _ h => h) ?_ ?_; rotate_left 2; (focus rfl); (focus (intro w hSw; (try dsimp only at hSw); first | (go_simp; done) | (go_simp; with_reducible rfl)))); (try simp only [Act.put, List.setIfInBounds_toArray, List.set_cons_zero, List.set_cons_succ]); (refine lexTk 1 (v := ?_) rfl hHeld ?_ (by kernel_rfl) (fun _ _ _ h => h) ?_ ?_; rotate_left 2; (focus rfl); (focus (intro w hSw; (try dsimp only at hSw); first | (go_simp; done) | (go_simp; with_reducible rfl)))); (try simp only [Act.put, List.setIfInBounds_toArray, List.set_cons_zero, List.set_cons_succ]); (refine lexTk 2 (v := ?_) rfl hHeld ?_ (by kernel_rfl) (fun _ _ _ h => h) ?_ ?_; rotate_left 2; (focus rfl); (focus (intro w hSw; (try dsimp only at hSw); first | (go_simp; done) | (go_simp; with_reducible rfl)))); (try simp only [Act.put, List.setIfInBounds_toArray, List.set_cons_zero, List.set_cons_succ]); (refine lexTk 3 (v := ?_) rfl hHeld ?_ (by kernel_rfl) (fun _ _ _ h => h) ?_ ?_; rotate_left 2; (focus rfl); (focus (intro w hSw; (try dsimp only at hSw); first | (go_simp; done) | (go_simp; with_reducible rfl)))); (try simp only [Act.put, List.setIfInBounds_toArray, List.set_cons_zero, List.set_cons_succ]); (refine lexTk 4 (v := ?_) rfl hHeld ?_ (by kernel_rfl) (fun _ _ _ h => h) ?_ ?_; rotate_left 2; (focus rfl); (focus (intro w hSw; (try dsimp only at hSw); first | (go_simp; done) | (go_simp; with_reducible rfl)))); (try simp only [Act.put, List.setIfInBounds_toArray, List.set_cons_zero, List.set_cons_succ]); (refine lexTk 5 (v := ?_) rfl hHeld ?_ (by kernel_rfl) (fun _ _ _ h => h) ?_ ?_; rotate_left 2; (focus rfl); (focus (intro w hSw; (try dsimp only at hSw); first | (go_simp; done) | (go_simp; with_reducible rfl)))); (try simp only [Act.put, List.setIfInBounds_toArray, List.set_cons_zero, List.set_cons_succ]); (refine lexTk 6 (v := ?_) rfl hHeld ?_ (by kernel_rfl) (fun _ _ _ h => h) ?_ ?_; rotate_left 2; (focus rfl); (focus (intro w hSw; (try dsimp only at hSw); first | (go_simp; done) | (go_simp; with_reducible rfl)))); (try simp only [Act.put, List.setIfInBounds_toArray, List.set_cons_zero, List.set_cons_succ]); (first | (refine lexTk 7 (v := ?_) rfl hHeld ?_ (by kernel_rfl) (fun _ _ _ h => h) ?_ ?_; rotate_left 2; (focus rfl); (focus (intro w hSw; (try dsimp only at hSw); first | (go_simp; done) | (go_simp; with_reducible rfl)))) | refine lexSk 7 rfl hHeld ?_ (by kernel_rfl) (fun _ _ _ h => h) (by rfl)); (try simp only [Act.put, List.setIfInBounds_toArray, List.set_cons_zero, List.set_cons_succ]); (first | (refine lexTk 8 (v := ?_) rfl hHeld ?_ (by kernel_rfl) (fun _ _ _ h => h) ?_ ?_; rotate_left 2; (focus rfl); (focus (intro w hSw; (try dsimp only at hSw); first | (go_simp; done) | (go_simp; with_reducible rfl)))) | refine lexSk 8 rfl hHeld ?_ (by kernel_rfl) (fun _ _ _ h => h) (by rfl)); (try simp only [Act.put, List.setIfInBounds_toArray, List.set_cons_zero, List.set_cons_succ]); (first | (refine lexTk 9 (v := ?_) rfl hHeld ?_ (by kernel_rfl) (fun _ _ _ h => h) ?_ ?_; rotate_left 2; (focus rfl); (focus (intro w hSw; (try dsimp only at hSw); first | (go_simp; done) | (go_simp; with_reducible rfl)))) | refine lexSk 9 rfl hHeld ?_ (by kernel_rfl) (fun _ _ _ h => h) (by rfl)); (try simp only [Act.put, List.setIfInBounds_toArray, List.set_cons_zero, List.set_cons_succ]); (first | (refine lexTk 10 (v := ?_) rfl hHeld ?_ (by kernel_rfl) (fun _ _ _ h => h) ?_ ?_; rotate_left 2; (focus rfl); (focus (intro w hSw; (try dsimp only at hSw); first | (go_simp; done) | (go_simp; with_reducible rfl)))) | refine lexSk 10 rfl hHeld ?_ (by kernel_rfl) (fun _ _ _ h => h) (by rfl)); (try simp only [Act.put, List.setIfInBounds_toArray, List.set_cons_zero, List.set_cons_succ]); (first | (refine lexTk 11 (v := ?_) rfl hHeld ?_ (by kernel_rfl) (fun _ _ _ h => h) ?_ ?_; rotate_left 2; (focus rfl); (focus (intro w hSw; (try dsimp only at hSw); first | (go_simp; done) | (go_simp; with_reducible rfl)))) | refine lexSk 11 rfl hHeld ?_ (by kernel_rfl) (fun _ _ _ h => h) (by rfl)); (try simp only [Act.put, List.setIfInBounds_toArray, List.set_cons_zero, List.set_cons_succ]); (first | (refine lexTk 12 (v := ?_) rfl hHeld ?_ (by kernel_rfl) (fun _ _ _ h => h) ?_ ?_; rotate_left 2; (focus rfl); (focus (intro w hSw; (try dsimp only at hSw); first | (go_simp; done) | (go_simp; with_reducible rfl)))) | refine lexSk 12 rfl hHeld ?_ (by kernel_rfl) (fun _ _ _ h => h) (by rfl)); (try simp only [Act.put, List.setIfInBounds_toArray, List.set_cons_zero, List.set_cons_succ]); (refine lexTk 13 (v := ?_) rfl hHeld ?_ (by kernel_rfl) (fun _ _ _ h => h) ?_ ?_; rotate_left 2; (focus rfl); (focus (intro w hSw; (try dsimp only at hSw); first | (go_simp; done) | (go_simp; with_reducible rfl)))); (try simp only [Act.put, List.setIfInBounds_toArray, List.set_cons_zero, List.set_cons_succ]); (refine lexTk 14 (v := ?_) rfl hHeld ?_ (by kernel_rfl) (fun _ _ _ h => h) ?_ ?_; rotate_left 2; (focus rfl); (focus (intro w hSw; (try dsimp only at hSw); first | (go_simp; done) | (go_simp; with_reducible rfl)))); (try simp only [Act.put, List.setIfInBounds_toArray, List.set_cons_zero, List.set_cons_succ]); (first | (refine lexTk 15 (v := ?_) rfl hHeld ?_ (by kernel_rfl) (fun _ _ _ h => h) ?_ ?_; rotate_left 2; (focus rfl); (focus (intro w hSw; (try dsimp only at hSw); first | (go_simp; done) | (go_simp; with_reducible rfl)))) | refine lexSk 15 rfl hHeld ?_ (by kernel_rfl) (fun _ _ _ h => h) (by rfl)); (try simp only [Act.put, List.setIfInBounds_toArray, List.set_cons_zero, List.set_cons_succ]); (first | (refine lexTk 16 (v := ?_) rfl hHeld ?_ (by kernel_rfl) (fun _ _ _ h => h) ?_ ?_; rotate_left 2; (focus rfl); (focus (intro w hSw; (try dsimp only at hSw); first | (go_simp; done) | (go_simp; with_reducible rfl)))) | refine lexSk 16 rfl hHeld ?_ (by kernel_rfl) (fun _ _ _ h => h) (by rfl)); (try simp only [Act.put, List.setIfInBounds_toArray, List.set_cons_zero, List.set_cons_succ]); (refine lexTk 17 (v := ?_) rfl hHeld ?_ (by kernel_rfl) (fun _ _ _ h => h) ?_ ?_; rotate_left 2; (focus rfl); (focus (intro w hSw; (try dsimp only at hSw); first | (go_simp; done) | (go_simp; with_reducible rfl)))); (try simp only [Act.put, List.setIfInBounds_toArray, List.set_cons_zero, List.set_cons_succ]); (refine lexTk 18 (v := ?_) rfl hHeld ?_ (by kernel_rfl) (fun _ _ _ h => h) ?_ ?_; rotate_left 2; (focus rfl); (focus (intro w hSw; (try dsimp only at hSw); first | (go_simp; done) | (go_simp; with_reducible rfl)))); (try simp only [Act.put, List.setIfInBounds_toArray, List.set_cons_zero, List.set_cons_succ]); (first | (refine lexTk 19 (v := ?_) rfl hHeld ?_ (by kernel_rfl) (fun _ _ _ h => h) ?_ ?_; rotate_left 2; (focus rfl); (focus (intro w hSw; (try dsimp only at hSw); first | (go_simp; done) | (go_simp; with_reducible rfl)))) | refine lexSk 19 rfl hHeld ?_ (by kernel_rfl) (fun _ _ _ h => h) (by rfl)); (try simp only [Act.put, List.setIfInBounds_toArray, List.set_cons_zero, List.set_cons_succ]); (first | (refine lexTk 20 (v := ?_) rfl hHeld ?_ (by kernel_rfl) (fun _ _ _ h => h) ?_ ?_; rotate_left 2; (focus rfl); (focus (intro w hSw; (try dsimp only at hSw); first | (go_simp; done) | (go_simp; with_reducible rfl)))) | refine lexSk 20 rfl hHeld ?_ (by kernel_rfl) (fun _ _ _ h => h) (by rfl)); (try simp only [Act.put, List.setIfInBounds_toArray, List.set_cons_zero, List.set_cons_succ]); (refine lexTk 21 (v := ?_) rfl hHeld ?_ (by kernel_rfl) (fun _ _ _ h => h) ?_ ?_; rotate_left 2; (focus rfl); (focus (intro w hSw; (try dsimp only at hSw); first | (go_simp; done) | (go_simp; with_reducible rfl)))); (try simp only [Act.put, List.setIfInBounds_toArray, List.set_cons_zero, List.set_cons_succ]); refine wpAnyH_done (by kernel_rfl) ?_ _
            go_wp2_with fail
            refine ⟨⟨k + 1, by go_num, by omega, HBG2.out.below (by (repeat (first | with_reducible exact Below.refl _ _ | with_reducible refine Bs ?_ | with_reducible refine Ba ?_ | with_reducible refine Bd ?_ | with_reducible refine Bn ?_))), by (repeat (first | with_reducible exact Below.refl _ _ | with_reducible refine Bs ?_ | with_reducible refine Ba ?_ | with_reducible refine Bd ?_ | with_reducible refine Bn ?_ | with_reducible refine Bt B8.out ?_))⟩, by simp [intOf]; omega⟩
        · obtain rfl : k = j := by omega
          go_wp2_with fail
          (with_reducible refine (lives18_any _).mono ?_); rintro e w4 ⟨rfl, b4⟩; have s4 : wr.heap.size ≤ w4.heap.size := sz b4; have B4 := Lib.hid (Bc (B := w.heap.size) (a := w) (by (repeat (first | with_reducible exact Below.refl _ _ | with_reducible refine Bs ?_ | with_reducible refine Ba ?_ | with_reducible refine Bd ?_ | with_reducible refine Bn ?_ | with_reducible refine Bt BR2.out ?_))) b4); clear b4
          go_wp2_with fail
          go_ret
          exact ⟨rfl, B4.out⟩

set_option maxRecDepth 100000 in
set_option maxHeartbeats 4000000 in
theorem bagRanks_walk {w : World} (v : Value) (rows : List (List Int)) (h : ArgRows 2 w v rows) :
    Calls Try.prog 5 #[v] w fun e w' => e = .returned (.bool true) ∧ Below w.heap.size w w' := by
  by_cases hl : (100 : Int) < rows.length
  · obtain ⟨ad, c, rfl, _⟩ := h.shape
    generalize rows.length = m at *
    clear h
    go_enter Try.func5, Try.ntmps5
    go_wp2_with fail
    (with_reducible refine (newIn_any _).mono ?_); rintro e w1 ⟨rfl, bg1, b1⟩; have s1 : w.heap.size ≤ w1.heap.size := sz b1; have B1 := Lib.hid (Bc (B := w.heap.size) (a := w) (by (repeat (first | with_reducible exact Below.refl _ _ | with_reducible refine Bs ?_ | with_reducible refine Ba ?_ | with_reducible refine Bd ?_ | with_reducible refine Bn ?_))) b1); clear b1
    clear bg1
    go_wp2_with fail
    (with_reducible refine (lives18_any _).mono ?_); rintro e w2 ⟨rfl, b2⟩; have s2 : w1.heap.size ≤ w2.heap.size := sz b2; have B2 := Lib.hid (Bc (B := w.heap.size) (a := w) (by (repeat (first | with_reducible exact Below.refl _ _ | with_reducible refine Bs ?_ | with_reducible refine Ba ?_ | with_reducible refine Bd ?_ | with_reducible refine Bn ?_ | with_reducible refine Bt B1.out ?_))) b2); clear b2
    go_wp2_with fail
    go_ret
    exact ⟨rfl, by (repeat (first | with_reducible exact Below.refl _ _ | with_reducible refine Bs ?_ | with_reducible refine Ba ?_ | with_reducible refine Bd ?_ | with_reducible refine Bn ?_ | with_reducible refine Bt B2.out ?_))⟩
  · have i0 := h.pairs (by omega)
    have hlen : (rows.map pairOf).length = rows.length := by rw [List.length_map]
    obtain ⟨ad, c, rfl, _⟩ := h.shape
    exact bagRanks_mid ad rows.length c (rows.map pairOf) i0 hlen hl
end Go.Proofs.Ytjmjnkilgoelbaa
