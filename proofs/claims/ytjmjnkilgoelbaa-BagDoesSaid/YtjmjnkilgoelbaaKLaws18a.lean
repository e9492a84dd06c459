/-
  Laws18a: Walk of BagDoes.
-/
import Derived.Test.YtjmjnkilgoelbaaJ4a
import Derived.Test.YtjmjnkilgoelbaaJ0c
namespace Go.Proofs.Ytjmjnkilgoelbaa
open Go.RowKit

/-- What acts make, one behind the other. -/
def doAll (l : List (Int × (Int × Int))) : List (Int × Int) := l.foldl (fun a o => doL a o.1 o.2) []

theorem doAll_next {l : List (Int × (Int × Int))} {j : Nat} {x : Int × (Int × Int)} (h : l[j]? = some x) : doAll (l.take (j + 1)) = doL (doAll (l.take j)) x.1 x.2 := by
  unfold doAll
  rw [List.take_add_one, h, List.foldl_append]
  rfl

set_option maxRecDepth 100000 in
set_option maxHeartbeats 8000000 in
theorem bagDoes_walk {w : World} (v0 : Value) (l : List (Int × (Int × Int))) (h0 : ArgOps w v0 l) (v1 : Value) (s : Int × Int) (h1 : ArgPair v1 s) (k : Int) (hk : (Lit.int .i64 k).wf = true) :
    Calls Try.prog 3 #[v0, v1, .int .i64 k] w fun e w' => e = .returned (.bool true) ∧ Below w.heap.size w w' := by
  have hk := wf_ok hk
  obtain ⟨p, q⟩ := s
  obtain ⟨rfl, _⟩ := h1
  dsimp only
  have HL := Lib.hid h0
  obtain ⟨a, c, rfl⟩ := h0.shape
  clear h0
  obtain ⟨n, hn⟩ : ∃ n, l.length = n := ⟨_, rfl⟩
  have HN := Lib.hid hn
  rw [hn] at HL ⊢
  clear hn
  unfold Ok64 at hk
  by_cases hbig : (200 : Int) < (n : Int)
  · clear hk
    go_enter Try.func3, Try.ntmps3
    go_wp2_with fail
    (with_reducible refine (newIn_any _).mono ?_); rintro e w1 ⟨rfl, bg1, b1⟩; have s1 : w.heap.size + 1 ≤ w1.heap.size := sz b1; have B1 := Lib.hid (Bc (B := w.heap.size) (a := w) (by (repeat (first | with_reducible exact Below.refl _ _ | with_reducible refine Bs ?_ | with_reducible refine Ba ?_ | with_reducible refine Bd ?_ | with_reducible refine Bn ?_))) b1); clear b1
    clear bg1
    go_wp2_with fail
    (with_reducible refine (lives18_any _).mono ?_); rintro e w2 ⟨rfl, b2⟩; have s2 : w1.heap.size ≤ w2.heap.size := sz b2; have B2 := Lib.hid (Bc (B := w.heap.size) (a := w) (by (repeat (first | with_reducible exact Below.refl _ _ | with_reducible refine Bs ?_ | with_reducible refine Ba ?_ | with_reducible refine Bd ?_ | with_reducible refine Bn ?_ | with_reducible refine Bt B1.out ?_))) b2); clear b2
    go_wp2_with fail
    go_ret
    exact ⟨rfl, B2.out⟩
  · go_enter Try.func3, Try.ntmps3
    go_wp2_with fail
    (with_reducible refine (newIn_any _).mono ?_); rintro e w1 ⟨rfl, bg1, b1⟩; have s1 : w.heap.size + 1 ≤ w1.heap.size := sz b1; have B1 := Lib.hid (Bc (B := w.heap.size) (a := w) (by (repeat (first | with_reducible exact Below.refl _ _ | with_reducible refine Bs ?_ | with_reducible refine Ba ?_ | with_reducible refine Bd ?_ | with_reducible refine Bn ?_))) b1); obtain ⟨c1_0, c1_1⟩ := k2 (w.heap.size) (.int .i64 p) (.int .i64 q) b1 (by and_intros <;> go_simp); obtain ⟨l1_0, n1_0, m1_0⟩ := lnm (show w.heap.size < w1.heap.size by omega); clear b1
    have BG1 := Lib.hid (show BagIn w1 (w.heap.size + 1) [w.heap.size + 1] [] by simpa using bg1)
    clear bg1
    go_wp2_with fail
    go_loopw [8, 9, 10] (fun now ok i wr => ∃ (j : Nat) (F : List Nat), i = .int .i64 j ∧ j ≤ n ∧ ok = .bool true ∧ BagIn wr (w.heap.size + 1) F (doAll (l.take j)) ∧ PairsR wr now (doAll (l.take j)) ∧ Off now F ∧ (∀ x ∈ F, w.heap.size + 1 ≤ x) ∧ Below (w.heap.size + 1) w1 wr) (fun _ _ i _ => n - (intOf i).toNat)
    case atStart => exact ⟨0, _, rfl, by omega, rfl, BG1.out, pairs_nil _ _ _ (by omega), Off.nil _ _ _, by simp, Below.refl _ _⟩
    case round =>
      obtain ⟨j, F, rfl, hj, rfl, hbg, hpr, hof, hlo, hbr⟩ := hrel
      have HBG := Lib.hid hbg
      have HPR := Lib.hid hpr
      have HOF := Lib.hid hof
      have HLO := Lib.hid hlo
      have BR := Lib.hid hbr
      have BW := Lib.hid (show Below w.heap.size w wr from below_tr B1.out (hbr.mono (by omega)))
      have B0 := BW
      have c0 : wr.cell? ⟨w.heap.size, 0, none⟩ = some (.int .i64 p) := kc hbr c1_0 (by omega)
      have c1 : wr.cell? ⟨w.heap.size, 1, none⟩ = some (.int .i64 q) := kc hbr c1_1 (by omega)
      have hzr : w1.heap.size ≤ wr.heap.size := hbr.size
      obtain ⟨ra, rc, rfl⟩ := hpr.shape
      clear hbg hpr hof hlo hbr
      by_cases hjn : j < n
      · obtain ⟨⟨d, x, y⟩, hx⟩ := getElem?_ex (l := l) (k := j) (by rw [HN.out]; exact hjn)
        obtain ⟨_, b, o, rfl, hb, g0, g1, g2⟩ := (HL.out.below BW.out).at hx
        have HNX := Lib.hid (doAll_next hx)
        dsimp only at g0 g1 g2 HNX
        have i1 : (0 : Int) ≤ (j : Int) := by omega
        have i2 : (j : Int) < (n : Int) := by omega
        have HDO := Lib.hid (do_any _ F _ _ d x y wr HBG.out HPR.out HOF.out)
        rw [← HNX.out] at HDO
        have hjl : j + 1 ≤ n := hjn
        clear hx
        obtain ⟨D, hD⟩ : ∃ D, doAll (l.take (j + 1)) = D := ⟨_, rfl⟩
        rw [hD] at HDO
        have HDD := Lib.hid hD
        clear hD
        go_wp2_with fail
        (with_reducible refine HDO.out.mono ?_)
        rintro e w2 ⟨v2, F2, rfl, bg2, p2, o2, m2⟩
        obtain ⟨b2, lo2⟩ := m2.low (B := w.heap.size + 1) HLO.out (by omega)
        have B2 := Lib.hid (below_tr BR.out b2)
        have BG2 := Lib.hid bg2
        have PR2 := Lib.hid p2
        have OF2 := Lib.hid o2
        have LO2 := Lib.hid lo2
        have HLEN := Lib.hid (lenIn_any _ F2 _ w2 bg2)
        obtain ⟨ra2, rc2, rfl⟩ := p2.shape
        have hml := bg2.scores.most
        obtain ⟨N2, hN2⟩ : ∃ N, D.length = N := ⟨_, rfl⟩
        have HN2 := Lib.hid hN2
        rw [hN2] at HLEN PR2 OF2 hml ⊢
        clear bg2 p2 o2 m2 b2 lo2 hN2
        go_wp2_with fail
        (with_reducible refine HLEN.out.mono ?_)
        rintro e w3 ⟨rfl, rfl⟩
        go_wp2_with fail
        go_roundw
        case rel => exact ⟨j + 1, F2, by go_num, hjl, rfl, by rw [HDD.out]; exact BG2.out, by rw [HDD.out]; exact PR2.out, OF2.out, LO2.out, B2.out⟩
        case measure => simp [intOf] <;> omega
      · obtain rfl : j = n := by omega
        rw [List.take_of_length_le (by rw [HN.out]; exact Nat.le_refl _)] at HBG HPR HOF
        obtain ⟨D, hD⟩ : ∃ D, doAll l = D := ⟨_, rfl⟩
        rw [List.take_of_length_le (by rw [HN.out]; exact Nat.le_refl _)]
        rw [hD] at HBG HPR HOF ⊢
        have HSC := Lib.hid HBG.out.scores
        have hml := HSC.out.most
        have HALL := Lib.hid (fun W (hW : BagIn W (w.heap.size + 1) F D) => allIn_any _ F D W hW)
        have HRK := Lib.hid (fun W (hW : BagIn W (w.heap.size + 1) F D) => rankIn_all _ F D p q W hW)
        have HKT := Lib.hid (fun W (hW : BagIn W (w.heap.size + 1) F D) => kthIn_any _ F D k W hW)
        have HRR := Lib.hid (fun v W (hW : PairsR W v D) => rrankIn_any D v p q W HSC.out hW)
        obtain ⟨X, hX⟩ : ∃ X, kthV D k = X := ⟨_, rfl⟩
        obtain ⟨E, hE⟩ : ∃ X, kthE D k = X := ⟨_, rfl⟩
        have HKV := Lib.hid hX
        have HKE := Lib.hid hE
        rw [hX, hE] at HKT
        obtain ⟨x, y⟩ := X
        generalize rankA D (p, q) = A at HRK HRR
        generalize rankB D (p, q) = B at HRK HRR
        generalize rankE (p, q) = G at HRK HRR
        have HSA := Lib.hid (fun v u W (hv : PairsR W v D) (hu : PairsR W u D) => same13_eq v u D W hv hu)
        obtain ⟨N, hN⟩ : ∃ N, D.length = N := ⟨_, rfl⟩
        have HND := Lib.hid hN
        rw [hN] at HPR HOF hml ⊢
        clear hX hE hN hD
        go_wp2_with fail
        (with_reducible refine (HALL.out _ HBG.out).mono ?_); rintro e w5 ⟨v5, rfl, p5, b5⟩; have s5 : wr.heap.size ≤ w5.heap.size := sz b5; have B5 := Lib.hid (Bc (B := w.heap.size) (a := w) (by (repeat (first | with_reducible exact Below.refl _ _ | with_reducible refine Bs ?_ | with_reducible refine Ba ?_ | with_reducible refine Bd ?_ | with_reducible refine Bn ?_ | with_reducible refine Bt B0.out ?_))) b5); obtain ⟨c5_0, c5_1⟩ := k2 (w.heap.size) (.int .i64 p) (.int .i64 q) b5 (by and_intros <;> go_simp); obtain ⟨l5_0, n5_0, m5_0⟩ := lnm (show w.heap.size < w5.heap.size by omega); have HBG := Lib.hid ((HBG.out.below (by (repeat (first | with_reducible exact Below.refl _ _ | with_reducible refine Bs ?_ | with_reducible refine Ba ?_ | with_reducible refine Bd ?_ | with_reducible refine Bn ?_)))).below b5); have HPR := Lib.hid ((HPR.out.below (by (repeat (first | with_reducible exact Below.refl _ _ | with_reducible refine Bs ?_ | with_reducible refine Ba ?_ | with_reducible refine Bd ?_ | with_reducible refine Bn ?_)))).below b5); clear b5
        have P5 := Lib.hid p5
        clear p5
        go_wp2_with fail
        (with_reducible refine (HSA.out _ _ _ P5.out HPR.out).mono ?_); rintro e w6 ⟨rfl, b6⟩; have s6 : w5.heap.size ≤ w6.heap.size := sz b6; have B6 := Lib.hid (Bc (B := w.heap.size) (a := w) (by (repeat (first | with_reducible exact Below.refl _ _ | with_reducible refine Bs ?_ | with_reducible refine Ba ?_ | with_reducible refine Bd ?_ | with_reducible refine Bn ?_ | with_reducible refine Bt B5.out ?_))) b6); obtain ⟨c6_0, c6_1⟩ := k2 (w.heap.size) (.int .i64 p) (.int .i64 q) b6 (by and_intros <;> go_simp); obtain ⟨l6_0, n6_0, m6_0⟩ := lnm (show w.heap.size < w6.heap.size by omega); have HBG := Lib.hid ((HBG.out.below (by (repeat (first | with_reducible exact Below.refl _ _ | with_reducible refine Bs ?_ | with_reducible refine Ba ?_ | with_reducible refine Bd ?_ | with_reducible refine Bn ?_)))).below b6); have HPR := Lib.hid ((HPR.out.below (by (repeat (first | with_reducible exact Below.refl _ _ | with_reducible refine Bs ?_ | with_reducible refine Ba ?_ | with_reducible refine Bd ?_ | with_reducible refine Bn ?_)))).below b6); clear b6
        clear P5
        go_wp2_with fail
        (with_reducible refine (HRK.out _ HBG.out).mono ?_); rintro e w7 ⟨rfl, b7⟩; have s7 : w6.heap.size ≤ w7.heap.size := sz b7; have B7 := Lib.hid (Bc (B := w.heap.size) (a := w) (by (repeat (first | with_reducible exact Below.refl _ _ | with_reducible refine Bs ?_ | with_reducible refine Ba ?_ | with_reducible refine Bd ?_ | with_reducible refine Bn ?_ | with_reducible refine Bt B6.out ?_))) b7); obtain ⟨c7_0, c7_1⟩ := k2 (w.heap.size) (.int .i64 p) (.int .i64 q) b7 (by and_intros <;> go_simp); obtain ⟨l7_0, n7_0, m7_0⟩ := lnm (show w.heap.size < w7.heap.size by omega); have HBG := Lib.hid ((HBG.out.below (by (repeat (first | with_reducible exact Below.refl _ _ | with_reducible refine Bs ?_ | with_reducible refine Ba ?_ | with_reducible refine Bd ?_ | with_reducible refine Bn ?_)))).below b7); have HPR := Lib.hid ((HPR.out.below (by (repeat (first | with_reducible exact Below.refl _ _ | with_reducible refine Bs ?_ | with_reducible refine Ba ?_ | with_reducible refine Bd ?_ | with_reducible refine Bn ?_)))).below b7); clear b7
        go_wp2_with fail
        (with_reducible refine (HRR.out _ _ HPR.out).mono ?_); rintro e w8 ⟨rfl, b8⟩; have s8 : w7.heap.size ≤ w8.heap.size := sz b8; have B8 := Lib.hid (Bc (B := w.heap.size) (a := w) (by (repeat (first | with_reducible exact Below.refl _ _ | with_reducible refine Bs ?_ | with_reducible refine Ba ?_ | with_reducible refine Bd ?_ | with_reducible refine Bn ?_ | with_reducible refine Bt B7.out ?_))) b8); obtain ⟨c8_0, c8_1⟩ := k2 (w.heap.size) (.int .i64 p) (.int .i64 q) b8 (by and_intros <;> go_simp); obtain ⟨l8_0, n8_0, m8_0⟩ := lnm (show w.heap.size < w8.heap.size by omega); have HBG := Lib.hid ((HBG.out.below (by (repeat (first | with_reducible exact Below.refl _ _ | with_reducible refine Bs ?_ | with_reducible refine Ba ?_ | with_reducible refine Bd ?_ | with_reducible refine Bn ?_)))).below b8); have HPR := Lib.hid ((HPR.out.below (by (repeat (first | with_reducible exact Below.refl _ _ | with_reducible refine Bs ?_ | with_reducible refine Ba ?_ | with_reducible refine Bd ?_ | with_reducible refine Bn ?_)))).below b8); clear b8
        go_wp2_with fail
        (with_reducible refine (HKT.out _ HBG.out).mono ?_); rintro e w9 ⟨rfl, b9⟩; have s9 : w8.heap.size ≤ w9.heap.size := sz b9; have B9 := Lib.hid (Bc (B := w.heap.size) (a := w) (by (repeat (first | with_reducible exact Below.refl _ _ | with_reducible refine Bs ?_ | with_reducible refine Ba ?_ | with_reducible refine Bd ?_ | with_reducible refine Bn ?_ | with_reducible refine Bt B8.out ?_))) b9); have HPR := Lib.hid ((HPR.out.below (by (repeat (first | with_reducible exact Below.refl _ _ | with_reducible refine Bs ?_ | with_reducible refine Ba ?_ | with_reducible refine Bd ?_ | with_reducible refine Bn ?_)))).below b9); clear b9
        by_cases hk1 : k < 1 ∨ (N : Int) < k
        · have hE1 : E = 1 := by rw [← HKE.out]; unfold kthE; rw [HND.out, if_pos (by omega)]
          have hX1 : (x, y) = (0, 0) := by rw [← HKV.out]; unfold kthV; rw [HND.out, if_pos (by omega)]
          injection hX1 with hx0 hy0
          subst hE1 hx0 hy0
          rcases hk1 with hk1 | hk1
          · go_wp2_with fail
            (with_reducible refine (lives18_any _).mono ?_); rintro e w10 ⟨rfl, b10⟩; have s10 : w9.heap.size + 1 ≤ w10.heap.size := sz b10; have B10 := Lib.hid (Bc (B := w.heap.size) (a := w) (by (repeat (first | with_reducible exact Below.refl _ _ | with_reducible refine Bs ?_ | with_reducible refine Ba ?_ | with_reducible refine Bd ?_ | with_reducible refine Bn ?_ | with_reducible refine Bt B9.out ?_))) b10); clear b10
            go_wp2_with fail
            go_ret
            exact ⟨rfl, B10.out⟩
          · have hk2 : ¬ k < 1 := by omega
            go_wp2_with fail
            (with_reducible refine (lives18_any _).mono ?_); rintro e w10 ⟨rfl, b10⟩; have s10 : w9.heap.size + 1 ≤ w10.heap.size := sz b10; have B10 := Lib.hid (Bc (B := w.heap.size) (a := w) (by (repeat (first | with_reducible exact Below.refl _ _ | with_reducible refine Bs ?_ | with_reducible refine Ba ?_ | with_reducible refine Bd ?_ | with_reducible refine Bn ?_ | with_reducible refine Bt B9.out ?_))) b10); clear b10
            go_wp2_with fail
            go_ret
            exact ⟨rfl, B10.out⟩
        · have hE1 : E = 0 := by rw [← HKE.out]; unfold kthE; rw [HND.out, if_neg (by omega)]
          subst hE1
          obtain ⟨m, hkm⟩ : ∃ m : Nat, k = (m : Int) + 1 := ⟨(k - 1).toNat, by omega⟩
          have hmN : m < N := by omega
          obtain ⟨⟨x', y'⟩, hx⟩ := getElem?_ex (l := D) (k := m) (by rw [HND.out]; exact hmN)
          have hX1 : (x', y') = (x, y) := by
            rw [← HKV.out]
            unfold kthV
            rw [HND.out, if_neg (by omega), show k.toNat - 1 = m by omega, getD_of hx]
          injection hX1 with hx0 hy0
          subst hx0 hy0
          obtain ⟨b, o, rfl, hb, g0, g1⟩ := HPR.out.cells hx
          dsimp only at g0 g1
          have i1 : ¬ k < 1 := by omega
          have i2 : (0 : Int) ≤ (m : Int) := by omega
          have i3 : (m : Int) < (N : Int) := by omega
          have i4 : ¬ (N : Int) < k := by omega
          have HI := Lib.hid (show IntKind.i64.wrap (k - 1) = (m : Int) by rw [IntKind.wrap_i64]; omega)
          have HJ := Lib.hid (show (0 : Int) ≤ (m : Int) ∧ (m : Int) < (N : Int) from ⟨i2, i3⟩)
          clear hx hk1 hk hkm i2 i3
          go_wp2_with fail
          have i5 := HI.out
          have i2 := HJ.out.1
          have i3 := HJ.out.2
          refine wp_region_held_drew (S := fun w' => w'.cell? ⟨w9.heap.size, 0, none⟩ = some (.int .i64 x') ∧ w'.cell? ⟨w9.heap.size, 1, none⟩ = some (.int .i64 y') ∧ w'.cell? ⟨b, o + m * 2, none⟩ = some (.int .i64 x') ∧ w'.cell? ⟨b, o + m * 2 + 1, none⟩ = some (.int .i64 y')) (by kernel_rfl) ?_ (fun hHeld => ?_); (focus (first | with_reducible exact True.intro | ((try dsimp only); and_intros <;> first | (go_simp; done) | (go_keep; done)))); (refine lexTk 0 (v := ?_) rfl hHeld ?_ (by kernel_rfl) (fun _ _ _ h => h) ?_ ?_; rotate_left 2; (focus rfl); (focus (intro w hSw; (try dsimp only at hSw); first | (go_simp; done) | (go_simp; with_reducible rfl)))); (try simp only [Act.put, List.setIfInBounds_toArray, List.set_cons_zero, List.set_cons_succ]); (refine lexTk 1 (v := ?_) rfl hHeld ?_ (by kernel_rfl) (fun _ _ _ h => h) ?_ ?_; rotate_left 2; (focus rfl); (focus (intro w hSw; (try dsimp only at hSw); first | (go_simp; done) | (go_simp; with_reducible rfl)))); (try simp only [Act.put, List.setIfInBounds_toArray, List.set_cons_zero, List.set_cons_succ]); (refine lexTk 2 (v := ?_) rfl hHeld ?_ (by kernel_rfl) (fun _ _ _ h => h) ?_ ?_; rotate_left 2; (focus rfl); (focus (intro w hSw; (try dsimp only at hSw); first | (go_simp; done) | (go_simp; with_reducible rfl)))); (try simp only [Act.put, List.setIfInBounds_toArray, List.set_cons_zero, List.set_cons_succ]); (first | (refine lexTk 3 (v := ?_) rfl hHeld ?_ (by kernel_rfl) (fun _ _ _ h => h) ?_ ?_; rotate_left 2; (focus rfl); (focus (intro w hSw; (try dsimp only at hSw); first | (go_simp; done) | (go_simp; with_reducible rfl)))) | refine lexSk 3 rfl hHeld ?_ (by kernel_rfl) (fun _ _ _ h => h) (by rfl)); (try simp only [Act.put, List.setIfInBounds_toArray, List.set_cons_zero, List.set_cons_succ]); (first | (refine lexTk 4 (v := ?_) rfl hHeld ?_ (by kernel_rfl) (fun _ _ _ h => h) ?_ ?_; rotate_left 2; (focus rfl); (focus (intro w hSw; (try dsimp only at hSw); first | (go_simp; done) | (go_simp; with_reducible rfl)))) | refine lexSk 4 rfl hHeld ?_ (by kernel_rfl) (fun _ _ _ h => h) (by rfl)); (try simp only [Act.put, List.setIfInBounds_toArray, List.set_cons_zero, List.set_cons_succ]); (first | (refine lexTk 5 (v := ?_) rfl hHeld ?_ (by kernel_rfl) (fun _ _ _ h => h) ?_ ?_; rotate_left 2; (focus rfl); (focus (intro w hSw; (try dsimp only at hSw); first | (go_simp; done) | (go_simp; with_reducible rfl)))) | refine lexSk 5 rfl hHeld ?_ (by kernel_rfl) (fun _ _ _ h => h) (by rfl)); (try simp only [Act.put, List.setIfInBounds_toArray, List.set_cons_zero, List.set_cons_succ]); (first | (refine lexTk 6 (v := ?_) rfl hHeld ?_ (by kernel_rfl) (fun _ _ _ h => h) ?_ ?_; rotate_left 2; (focus rfl); (focus (intro w hSw; (try dsimp only at hSw); first | (go_simp; done) | (go_simp; with_reducible rfl)))) | refine lexSk 6 rfl hHeld ?_ (by kernel_rfl) (fun _ _ _ h => h) (by rfl)); (try simp only [Act.put, List.setIfInBounds_toArray, List.set_cons_zero, List.set_cons_succ]); (first | (refine lexTk 7 (v := ?_) rfl hHeld ?_ (by kernel_rfl) (fun _ _ _ h => h) ?_ ?_; rotate_left 2; (focus rfl); (focus (intro w hSw; (try dsimp only at hSw); first | (go_simp; done) | (go_simp; with_reducible rfl)))) | refine lexSk 7 rfl hHeld ?_ (by kernel_rfl) (fun _ _ _ h => h) (by rfl)); (try simp only [Act.put, List.setIfInBounds_toArray, List.set_cons_zero, List.set_cons_succ]); (first | (refine lexTk 8 (v := ?_) rfl hHeld ?_ (by kernel_rfl) (fun _ _ _ h => h) ?_ ?_; rotate_left 2; (focus rfl); (focus (intro w hSw; (try dsimp only at hSw); first | (go_simp; done) | (go_simp; with_reducible rfl)))) | refine lexSk 8 rfl hHeld ?_ (by kernel_rfl) (fun _ _ _ h => h) (by rfl)); (try simp only [Act.put, List.setIfInBounds_toArray, List.set_cons_zero, List.set_cons_succ]); (first | (refine lexTk 9 (v := ?_) rfl hHeld ?_ (by kernel_rfl) (fun _ _ _ h => h) ?_ ?_; rotate_left 2; (focus rfl); (focus (intro w hSw; (try dsimp only at hSw); first | (go_simp; done) | (go_simp; with_reducible rfl)))) | refine lexSk 9 rfl hHeld ?_ (by kernel_rfl) (fun _ _ _ h => h) (by rfl)); (try simp only [Act.put, List.setIfInBounds_toArray, List.set_cons_zero, List.set_cons_succ]); (refine lexTk 10 (v := ?_) rfl hHeld ?_ (by kernel_rfl) (fun _ _ _ h => h) ?_ ?_; rotate_left 2; (focus rfl); (focus (intro w hSw; (try dsimp only at hSw); first | (go_simp; done) | (go_simp; with_reducible rfl)))); (try simp only [Act.put, List.setIfInBounds_toArray, List.set_cons_zero, List.set_cons_succ]); (refine lexTk 11 (v := ?_) rfl hHeld ?_ (by kernel_rfl) (fun _ _ _ h => h) ?_ ?_; rotate_left 2; (focus rfl); (focus (intro w hSw; (try dsimp only at hSw); first | (go_simp; done) | (go_simp; with_reducible rfl)))); (try simp only [Act.put, List.setIfInBounds_toArray, List.set_cons_zero, List.set_cons_succ]); refine lexHv 12 rfl ?_ (by kernel_rfl); (intro K hK); (go_simp; go_at_call 15; (with_reducible refine (lives18_any _).mono ?_); rintro e w10 ⟨rfl, b10⟩; have s10 : w9.heap.size + 1 ≤ w10.heap.size := sz b10; have B10 := Lib.hid (Bc (B := w.heap.size) (a := w) (by (repeat (first | with_reducible exact Below.refl _ _ | with_reducible refine Bs ?_ | with_reducible refine Ba ?_ | with_reducible refine Bd ?_ | with_reducible refine Bn ?_ | with_reducible refine Bt B9.out ?_))) b10); obtain ⟨c10_0, c10_1⟩ := k2 (w9.heap.size) (.int .i64 x') (.int .i64 y') b10 (by and_intros <;> go_simp); have c10_2 : w10.cell? ⟨b, o + m * 2, none⟩ = some (.int .i64 x') := kc b10 (by go_simp) (by first | omega | (simp; done) | (simp; omega)); have c10_3 : w10.cell? ⟨b, o + m * 2 + 1, none⟩ = some (.int .i64 y') := kc b10 (by go_simp) (by first | omega | (simp; done) | (simp; omega)); obtain ⟨l10_0, n10_0, m10_0⟩ := lnm (show w9.heap.size < w10.heap.size by omega); obtain ⟨l10_1, n10_1, m10_1⟩ := lnm (show b < w10.heap.size by omega); clear b10; (try go_wp2_with fail)); refine hK.out _ _ ?_ ?_; (focus (first | with_reducible exact True.intro | ((try dsimp only); and_intros <;> first | (go_simp; done) | (go_keep; done)))); (clear hHeld hK K); (intro hHeld); (try simp only [Act.put, List.setIfInBounds_toArray, List.set_cons_zero, List.set_cons_succ]); (refine lexTk 13 (v := ?_) rfl hHeld ?_ (by kernel_rfl) (fun _ _ _ h => h) ?_ ?_; rotate_left 2; (focus rfl); (focus (intro w hSw; (try dsimp only at hSw); first | (go_simp; done) | (go_simp; with_reducible rfl)))); (try simp only [Act.put, List.setIfInBounds_toArray, List.set_cons_zero, List.set_cons_succ]); (refine lexTk 14 (v := ?_) rfl hHeld ?_ (by kernel_rfl) (fun _ _ _ h => h) ?_ ?_; rotate_left 2; (focus rfl); (focus (intro w hSw; (try dsimp only at hSw); first | (go_simp; done) | (go_simp; with_reducible rfl)))); (try simp only [Act.put, List.setIfInBounds_toArray, List.set_cons_zero, List.set_cons_succ]); refine wpAnyH_done (by kernel_rfl) ?_ _
          go_wp2_with fail
          go_ret
          exact ⟨rfl, B10.out⟩
end Go.Proofs.Ytjmjnkilgoelbaa
