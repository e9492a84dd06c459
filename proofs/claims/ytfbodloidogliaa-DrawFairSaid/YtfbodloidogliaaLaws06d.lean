/-
  Walk of DrawFair.
-/
import Derived.Test.YtfbodloidogliaaLaws06b
namespace Go.Proofs.Ytfbodloidogliaa
open Go.RowKit

theorem digs_turn : digs 18446744073709551616 = [0, 0, 0, 0, 1] := by
  have h := digs_of_canon (l := [0, 0, 0, 0, 1]) (by simp [Canon]) (by intro d hd; simp at hd; rcases hd with rfl | rfl <;> omega)
  rw [show bv [0, 0, 0, 0, 1] = 18446744073709551616 by decide +kernel] at h
  exact h.symm

theorem digs_one : digs 1 = [1] := by decide +kernel

theorem digs_le : ∀ (f n : Nat), n ≤ f → n < 18446744073709551616 → (digs n).length ≤ 4 := by
  intro f n _ h
  rcases Nat.eq_zero_or_pos n with h0 | h0
  · subst h0; simp [digs_zero]
  rw [digs_pos h0, List.length_cons]
  rcases Nat.eq_zero_or_pos (n / 65536) with h1 | h1
  · rw [h1]; simp [digs_zero]
  rw [digs_pos h1, List.length_cons]
  rcases Nat.eq_zero_or_pos (n / 65536 / 65536) with h2 | h2
  · rw [h2]; simp [digs_zero]
  rw [digs_pos h2, List.length_cons]
  rcases Nat.eq_zero_or_pos (n / 65536 / 65536 / 65536) with h3 | h3
  · rw [h3]; simp [digs_zero]
  rw [digs_pos h3, List.length_cons]
  rw [show n / 65536 / 65536 / 65536 / 65536 = 0 by omega]
  simp [digs_zero]

set_option maxRecDepth 100000 in
set_option maxHeartbeats 2000000 in
theorem drawFair_walk {w : World} (n0 : Int) (hn : (Lit.int .u64 n0).wf = true) (k0 : Int) (hk : (Lit.int .u64 k0).wf = true) (r0 : Int) (hr : (Lit.int .u64 r0).wf = true) :
    Calls Try.prog 9 #[.int .u64 n0, .int .u64 k0, .int .u64 r0] w fun e w' => e = .returned (.bool true) ∧ Below w.heap.size w w' := by
  have hn := bounds_u64 hn
  have hk := bounds_u64 hk
  have hr := bounds_u64 hr
  obtain ⟨n, rfl⟩ := Int.eq_ofNat_of_zero_le hn.1
  obtain ⟨k, rfl⟩ := Int.eq_ofNat_of_zero_le hk.1
  obtain ⟨r, rfl⟩ := Int.eq_ofNat_of_zero_le hr.1
  have hn := hn.2
  have hk := hk.2
  have hr := hr.2
  by_cases h2 : (n : Int) < 2
  · have h1 : ∀ W, _ := fun W => top_any n W hn
    have h3 : ∀ W, _ := fun W => rtop_any n W hn
    have h4 : ∀ W, _ := fun W => share_any n W hn
    rw [show shareN n = 0 from if_pos (by omega)] at h4
    have H1 := Lib.hid h1; have H3 := Lib.hid h3; have H4 := Lib.hid h4
    clear h1 h3 h4 hn hk hr
    go_enter Try.func9, Try.ntmps9
    go_wp2_with fail
    refine (H1.out _).mono ?_
    rintro e w1 ⟨rfl, d1, rfl⟩
    go_wp2_with fail
    refine (H3.out _).mono ?_
    rintro e w1 ⟨rfl, rfl⟩
    go_wp2_with fail
    refine (H4.out _).mono ?_
    rintro e w1 ⟨rfl, d2, rfl⟩
    go_wp2_with fail
    refine (lives06_any _).mono ?_
    rintro e w2 ⟨rfl, b2⟩
    have B2 := Lib.hid b2
    clear b2
    go_wp2
    go_ret
    exact ⟨rfl, (below_drewN (Below.refl _ _) _).trans (B2.out.mono (by simp))⟩
  · have hn2 : 2 ≤ n := by omega
    obtain ⟨T, hT⟩ : ∃ T : Nat, T = 18446744073709551616 := ⟨_, rfl⟩
    have hdT : digs T = [0, 0, 0, 0, 1] := by rw [hT]; exact digs_turn
    obtain ⟨s, hs⟩ : ∃ s : Nat, s = T / n := ⟨_, rfl⟩
    obtain ⟨q, hq⟩ : ∃ q : Nat, q = T % n := ⟨_, rfl⟩
    have hqn : q < n := by rw [hq]; exact Nat.mod_lt _ (by omega)
    obtain ⟨A, hA⟩ : ∃ A : Nat, A = s * n := ⟨_, rfl⟩
    have hAq : A + q = T := by rw [hA, hs, hq, Nat.mul_comm]; exact Nat.div_add_mod T n
    have hsh : shareN n = s := by rw [shareN, if_neg (by omega), hs, hT]
    have htop : topN n + 1 = A := by
      have : topN n = T - 1 - q := by rw [topN, if_neg (by omega), hq, hT]
      omega
    have hs1 : 1 ≤ s := by
      rcases Nat.eq_zero_or_pos s with h0 | h0
      · rw [h0] at hA; omega
      · exact h0
    have hsT : s < T := by
      have h1 : s * 2 ≤ s * n := Nat.mul_le_mul_left s hn2
      omega
    obtain ⟨K, hK⟩ : ∃ K : Nat, K = k % n := ⟨_, rfl⟩
    obtain ⟨R, hR⟩ : ∃ R : Nat, R = r % s := ⟨_, rfl⟩
    have hKn : K < n := by rw [hK]; exact Nat.mod_lt _ (by omega)
    have hRs : R < s := by rw [hR]; exact Nat.mod_lt _ (by omega)
    obtain ⟨X, hX⟩ : ∃ X : Nat, X = R * n + K := ⟨_, rfl⟩
    have hXA : X < A := by
      have h1 : (R + 1) * n ≤ s * n := Nat.mul_le_mul_right n hRs
      rw [Nat.add_mul, Nat.one_mul] at h1
      omega
    have hXn : X % n = K := by rw [hX, Nat.add_comm, Nat.add_mul_mod_self_right]; exact Nat.mod_eq_of_lt hKn
    have hlT : X < 18446744073709551616 := by omega
    have hKi : ((k : Int) % n) = (K : Int) := by rw [hK]; rfl
    have hRi : ((r : Int) % s) = (R : Int) := by rw [hR]; rfl
    have hXi : IntKind.u64.wrap (IntKind.u64.wrap ((R : Int) * n) + K) = (X : Int) := by
      have e1 : IntKind.u64.wrap ((R : Int) * n) = ((R * n : Nat) : Int) := by
        rw [show ((R : Int) * n) = ((R * n : Nat) : Int) by push_cast; rfl]
        generalize R * n = Y at hX ⊢
        unfold IntKind.wrap; simp [IntKind.signed, IntKind.bits]; omega
      rw [e1]
      generalize R * n = Y at hX ⊢
      unfold IntKind.wrap; simp [IntKind.signed, IntKind.bits]; omega
    have c1 : ∀ W, _ := fun W => share_any n W hn
    rw [hsh] at c1
    have c2 : ∀ W, _ := fun W => of_any s W (by omega)
    have c3 : ∀ W, _ := fun W => of_any n W (by omega)
    have ls := digs_le s s (Nat.le_refl _) (by omega)
    have ln := digs_le n n (Nat.le_refl _) (by omega)
    have c4 : ∀ v v' W, Ints .i64 W v (digs s) → Ints .i64 W v' (digs n) → _ := fun v v' W h h' => times_any v v' s n W h h' (by omega) (by omega)
    rw [← hA] at c4
    have c5 : ∀ v v' W, Ints .i64 W v (digs A) → Ints .i64 W v' [0, 0, 0, 0, 1] → ∃ o : Int, ¬ 0 < o ∧ Calls Try.prog 42 #[v, v'] W fun e w' => e = .returned (.int .i64 o) ∧ ∃ d, w' = W.drewN d := fun v v' W h h' => by
      rw [← hdT] at h'
      refine ⟨_, ?_, order_any v v' A T W h h'⟩
      unfold ordI; rw [if_neg (show ¬ T < A by omega)]; split <;> omega
    have c6 : ∀ v v' W, Ints .i64 W v [0, 0, 0, 0, 1] → Ints .i64 W v' (digs A) → Calls Try.prog 43 #[v, v'] W fun e w' => BigR W e w' q := fun v v' W h h' => by
      rw [← hdT] at h
      have h1 := minus_any v v' T A W h h' (by rw [hdT]; simp) (by omega)
      rwa [show T - A = q by omega] at h1
    have c7 : ∀ v v' W, Ints .i64 W v (digs q) → Ints .i64 W v' (digs n) → Calls Try.prog 42 #[v, v'] W fun e w' => e = .returned (.int .i64 (-1)) ∧ ∃ d, w' = W.drewN d := fun v v' W h h' => by
      have h1 := order_any v v' q n W h h'
      rwa [show ordI q n = -1 from if_pos hqn] at h1
    have c8 : ∀ W, _ := fun W => top_any n W hn
    obtain ⟨tp, htp⟩ : ∃ tp : Nat, topN n = tp := ⟨_, rfl⟩
    rw [htp] at c8 htop
    have c9 : ∀ W, _ := fun W => of_any tp W (by omega)
    have ltp := digs_le tp tp (Nat.le_refl _) (by omega)
    have c10 : ∀ v v' W, Ints .i64 W v (digs tp) → Ints .i64 W v' [1] → Calls Try.prog 44 #[v, v'] W fun e w' => BigR W e w' A := fun v v' W h h' => by
      rw [← digs_one] at h'
      have h1 := plus_any v v' tp 1 W h h' (by rw [digs_one]; simp; omega)
      rwa [htop] at h1
    have c11 : ∀ v v' W, Ints .i64 W v (digs A) → Ints .i64 W v' (digs A) → Calls Try.prog 42 #[v, v'] W fun e w' => e = .returned (.int .i64 0) ∧ ∃ d, w' = W.drewN d := fun v v' W h h' => by
      have h1 := order_any v v' A A W h h'
      rwa [show ordI A A = 0 by unfold ordI; simp] at h1
    have c12 : ∀ v W, Ints .u64 W v [(X : Int)] → Calls Try.prog 31 #[v, .int .i64 0, .int .u64 n, .int .i64 1] W fun e w' => e = .returned (.tuple #[.int .u64 K, .int .i64 1, .int .i64 0]) ∧ Below W.heap.size W w' := fun v W h => by
      have h1 := boundB_any v _ 0 n 1 W h (by intro x hx; simp at hx; omega) hn (by unfold Ok64; omega)
      have h2 : boundB [(X : Int)] 0 n 1 = ((K : Int), 1, 0) := by
        rw [boundB, if_neg (by omega)]
        show boundL [(X : Int)] n 1 0 = _
        have hx : (X : Int) ≤ (topN n : Int) := by omega
        simp only [boundL, List.getElem?_cons_zero, if_pos hx]
        rw [← hXn]; simp
      rw [h2] at h1
      exact h1
    have C1 := Lib.hid c1; have C2 := Lib.hid c2; have C3 := Lib.hid c3; have C4 := Lib.hid c4
    have C5 := Lib.hid c5; have C6 := Lib.hid c6; have C7 := Lib.hid c7; have C8 := Lib.hid c8
    have C9 := Lib.hid c9; have C10 := Lib.hid c10; have C11 := Lib.hid c11; have C12 := Lib.hid c12
    have n0 : ((n : Int) == 0) = false := by simp; omega
    have s0 : ((s : Int) == 0) = false := by simp; omega
    have s1 : ¬ s = 0 := by omega
    have KI := Lib.hid hKi; have RI := Lib.hid hRi; have XI := Lib.hid hXi
    clear c1 c2 c3 c4 c5 c6 c7 c8 c9 c10 c11 c12 hKi hRi hXi ls ln ltp htp htop hK hR hX hXn hXA hlT hs hq hA hAq hsh hdT hT hqn hsT hKn hRs hs1
    go_enter Try.func9, Try.ntmps9
    go_wp2_with fail
    refine (C1.out _).mono ?_
    rintro e w1 ⟨rfl, d1, rfl⟩
    go_wp2_with fail
    refine (C2.out _).mono ?_
    rintro e w1 ⟨vs, rfl, i1, _, b1⟩
    have I1 := Lib.hid i1
    have B1 := Lib.hid ((below_drewN (Below.refl w.heap.size w) d1).trans (b1.mono (by simp)))
    clear i1 b1
    go_wp2_with fail
    refine (C3.out _).mono ?_
    rintro e w2 ⟨vn, rfl, i2, _, b2⟩
    have I2 := Lib.hid i2
    have I1' := Lib.hid (I1.out.below b2)
    have B2 := Lib.hid (B1.out.trans (b2.mono B1.out.size))
    clear i2 b2
    go_wp2_with fail
    refine (C4.out vs vn w2 I1'.out I2.out).mono ?_
    rintro e w3 ⟨va, rfl, i3, _, b3⟩
    have A3 := Lib.hid i3
    have B3 := Lib.hid (B2.out.trans (b3.mono B2.out.size))
    clear i3 b3
    go_wp2_with fail
    have hb : Below w3.heap.size w3 (w3.alloc (.cells #[.int .i64 0, .int .i64 0, .int .i64 0, .int .i64 0, .int .i64 1] 3)) := (Below.refl _ _).alloc (Nat.le_refl _) _
    have ht := Ints.new .i64 w3 3 #[.int .i64 0, .int .i64 0, .int .i64 0, .int .i64 0, .int .i64 1] [0, 0, 0, 0, 1] 5 5 (by rfl) (by rfl) (by omega) (by omega)
    generalize (w3.alloc (.cells #[.int .i64 0, .int .i64 0, .int .i64 0, .int .i64 0, .int .i64 1] 3)) = w4 at hb ht ⊢
    generalize (Value.slice (some ⟨w3.heap.size, 0, none⟩) 5 5) = vt at ht ⊢
    have A4 := Lib.hid (A3.out.below hb)
    have T4 := Lib.hid ht
    have B4 := Lib.hid (B3.out.trans (hb.mono B3.out.size))
    clear hb ht
    obtain ⟨o, ho, c5⟩ := C5.out va vt w4 A4.out T4.out
    have C5' := Lib.hid c5
    clear c5
    refine C5'.out.mono ?_
    rintro e w5 ⟨rfl, d5, rfl⟩
    go_wp2_with fail
    refine (C6.out vt va _ (T4.out.drewN _) (A4.out.drewN _)).mono ?_
    rintro e w5 ⟨vq, rfl, i5, _, b5⟩
    have Q5 := Lib.hid i5
    have A5 := Lib.hid ((A4.out.drewN d5).below b5)
    have B5 := Lib.hid ((below_drewN B4.out d5).trans (b5.mono (below_drewN B4.out d5).size))
    clear i5 b5
    go_wp2_with fail
    refine (C3.out _).mono ?_
    rintro e w6 ⟨vn2, rfl, i6, _, b6⟩
    have N6 := Lib.hid i6
    have Q6 := Lib.hid (Q5.out.below b6)
    have A6 := Lib.hid (A5.out.below b6)
    have B6 := Lib.hid (B5.out.trans (b6.mono B5.out.size))
    clear i6 b6
    go_wp2_with fail
    refine (C7.out vq vn2 _ Q6.out N6.out).mono ?_
    rintro e w7 ⟨rfl, d7, rfl⟩
    go_wp2_with fail
    refine (C8.out _).mono ?_
    rintro e w7 ⟨rfl, d8, rfl⟩
    go_wp2_with fail
    refine (C9.out _).mono ?_
    rintro e w7 ⟨vp, rfl, i7, _, b7⟩
    have P7 := Lib.hid i7
    have A7 := Lib.hid ((A6.out.drewN _).below b7)
    have B7 := Lib.hid ((below_drewN B6.out _).trans (b7.mono (below_drewN B6.out _).size))
    clear i7 b7
    go_wp2_with fail
    have hb : Below w7.heap.size w7 (w7.alloc (.cells #[.int .i64 1] 3)) := (Below.refl _ _).alloc (Nat.le_refl _) _
    have ht := Ints.new .i64 w7 3 #[.int .i64 1] [1] 1 1 (by rfl) (by rfl) (by omega) (by omega)
    generalize (w7.alloc (.cells #[.int .i64 1] 3)) = w8 at hb ht ⊢
    generalize (Value.slice (some ⟨w7.heap.size, 0, none⟩) 1 1) = v1 at ht ⊢
    refine (C10.out vp v1 w8 (P7.out.below hb) ht).mono ?_
    rintro e w9 ⟨vz, rfl, i9, _, b9⟩
    have b89 := hb.trans (b9.mono hb.size)
    have Z9 := Lib.hid i9
    have A9 := Lib.hid (A7.out.below b89)
    have B9 := Lib.hid (B7.out.trans (b89.mono B7.out.size))
    clear hb ht i9 b9 b89
    go_wp2_with fail
    refine (C11.out vz va w9 Z9.out A9.out).mono ?_
    rintro e w10 ⟨rfl, d9, rfl⟩
    go_wp2_with fail
    go_quiet (fail)
    rw [KI.out, RI.out]
    go_wp2_with fail
    rw [XI.out]
    refine (C12.out _ _ (Ints.new' .u64 _ _ #[.int .u64 (X : Int)] [(X : Int)] _ 1 1 (by simp) (by rfl) (by rfl) (by omega) (by omega))).mono ?_
    rintro e w10 ⟨rfl, b10⟩
    have B10 := Lib.hid (((below_drewN B9.out _).alloc (below_drewN B9.out _).size _).trans (b10.mono ((below_drewN B9.out _).alloc (below_drewN B9.out _).size _).size))
    clear b10
    go_wp2_with fail
    refine (lives06_any _).mono ?_
    rintro e w11 ⟨rfl, b11⟩
    have B11 := Lib.hid (B10.out.trans (b11.mono B10.out.size))
    clear b11
    go_wp2
    go_ret
    exact ⟨rfl, B11.out⟩
end Go.Proofs.Ytfbodloidogliaa
