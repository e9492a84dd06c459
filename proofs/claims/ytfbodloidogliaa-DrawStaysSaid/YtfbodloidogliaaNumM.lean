/-
  Walks of package num: long sums, what is taken away.
-/
import Derived.Test.YtfbodloidogliaaNumL
namespace Go.Proofs.Ytfbodloidogliaa
open Go.RowKit

theorem xor_max {x : Int} (h0 : 0 ≤ x) (h1 : x ≤ 18446744073709551615) : bits .xor .u64 IntKind.u64.max x = 18446744073709551615 - x := by
  obtain ⟨n, rfl⟩ := Int.eq_ofNat_of_zero_le h0
  have hn : n < 2 ^ 64 := by omega
  show IntKind.u64.wrap ((BitVec.ofInt 64 (IntKind.u64.max) ^^^ BitVec.ofInt 64 (n : Int)).toNat : Int) = _
  have e1 : BitVec.ofInt 64 IntKind.u64.max = BitVec.allOnes 64 := by decide +kernel
  rw [e1, BitVec.allOnes_xor, BitVec.toNat_not, BitVec.ofInt_natCast, BitVec.toNat_ofNat, Nat.mod_eq_of_lt hn, IntKind.wrap_u64]
  omega

set_option maxRecDepth 100000 in
set_option maxHeartbeats 800000 in
theorem plus_no (z hi lo : Int) (w : World) (h1 : 0 ≤ hi) (h2 : hi ≤ 18446744073709551615) (h3 : 0 ≤ lo) (h4 : lo ≤ 18446744073709551615) :
    Calls Try.prog 75 #[longV z, .int .u64 hi, .int .u64 lo, .bool true] w fun e w' => e = .returned (longV (z - (hi * 18446744073709551616 + lo))) ∧ Below w.heap.size w w' := by
  unfold longV
  obtain ⟨s0, hs0⟩ : ∃ s0, z % 18446744073709551616 = s0 := ⟨_, rfl⟩
  obtain ⟨s1, hs1⟩ : ∃ s1, z / 18446744073709551616 % 18446744073709551616 = s1 := ⟨_, rfl⟩
  obtain ⟨s2, hs2⟩ : ∃ s2, z / 340282366920938463463374607431768211456 % 18446744073709551616 = s2 := ⟨_, rfl⟩
  rw [hs0, hs1, hs2]
  have b0 : 0 ≤ s0 := by omega
  have b0' : s0 ≤ 18446744073709551615 := by omega
  have b1 : 0 ≤ s1 := by omega
  have b1' : s1 ≤ 18446744073709551615 := by omega
  have b2 : 0 ≤ s2 := by omega
  have b2' : s2 ≤ 18446744073709551615 := by omega
  have HS0 := Lib.hid hs0
  have HS1 := Lib.hid hs1
  have HS2 := Lib.hid hs2
  clear hs0 hs1 hs2
  obtain ⟨nl, hnl⟩ : ∃ nl, 18446744073709551615 - lo = nl := ⟨_, rfl⟩
  obtain ⟨nh, hnh⟩ : ∃ nh, 18446744073709551615 - hi = nh := ⟨_, rfl⟩
  have xl : bits .xor .u64 IntKind.u64.max lo = nl := by rw [xor_max h3 h4]; exact hnl
  have xh : bits .xor .u64 IntKind.u64.max hi = nh := by rw [xor_max h1 h2]; exact hnh
  have bl : 0 ≤ nl ∧ nl ≤ 18446744073709551615 := by omega
  have bh : 0 ≤ nh ∧ nh ≤ 18446744073709551615 := by omega
  obtain ⟨A0, hA0⟩ : ∃ A0, (nl + 1 + 0) % 18446744073709551616 = A0 := ⟨_, rfl⟩
  obtain ⟨k0, hk0⟩ : ∃ k0, (nl + 1 + 0) / 18446744073709551616 = k0 := ⟨_, rfl⟩
  have f0 := fun W => run_add64_at nl 1 0 W bl.1 bl.2 (by omega) (by omega) (by omega) (by omega)
  rw [hA0, hk0] at f0
  have gk0 : 0 ≤ k0 ∧ k0 ≤ 1 := by omega
  obtain ⟨A1, hA1⟩ : ∃ A1, (nh + 0 + k0) % 18446744073709551616 = A1 := ⟨_, rfl⟩
  obtain ⟨k1, hk1⟩ : ∃ k1, (nh + 0 + k0) / 18446744073709551616 = k1 := ⟨_, rfl⟩
  have f1 := fun W => run_add64_at nh 0 k0 W bh.1 bh.2 (by omega) (by omega) gk0.1 gk0.2
  rw [hA1, hk1] at f1
  have gk1 : 0 ≤ k1 ∧ k1 ≤ 1 := by omega
  obtain ⟨A2, hA2⟩ : ∃ A2, (18446744073709551615 + 0 + k1) % 18446744073709551616 = A2 := ⟨_, rfl⟩
  obtain ⟨k2, hk2⟩ : ∃ k2, (18446744073709551615 + 0 + k1) / 18446744073709551616 = k2 := ⟨_, rfl⟩
  have f2 := fun W => run_add64_at 18446744073709551615 0 k1 W (by omega) (by omega) (by omega) (by omega) gk1.1 gk1.2
  rw [hA2, hk2] at f2
  have a0 : 0 ≤ A0 ∧ A0 ≤ 18446744073709551615 := by omega
  have a1 : 0 ≤ A1 ∧ A1 ≤ 18446744073709551615 := by omega
  have a2 : 0 ≤ A2 ∧ A2 ≤ 18446744073709551615 := by omega
  have HA : Hid (18446744073709551615 - lo = nl ∧ 18446744073709551615 - hi = nh ∧ (nl + 1 + 0) % 18446744073709551616 = A0 ∧ (nl + 1 + 0) / 18446744073709551616 = k0 ∧ (nh + 0 + k0) % 18446744073709551616 = A1 ∧ (nh + 0 + k0) / 18446744073709551616 = k1 ∧ (18446744073709551615 + 0 + k1) % 18446744073709551616 = A2) := ⟨hnl, hnh, hA0, hk0, hA1, hk1, hA2⟩
  have HB : Hid (0 ≤ lo ∧ lo ≤ 18446744073709551615 ∧ 0 ≤ hi ∧ hi ≤ 18446744073709551615) := ⟨h3, h4, h1, h2⟩
  clear hnl hnh hA0 hk0 hA1 hk1 hA2 hk2 gk0 gk1 bl bh
  obtain ⟨t0, ht0⟩ : ∃ t0, (s0 + A0 + 0) % 18446744073709551616 = t0 := ⟨_, rfl⟩
  obtain ⟨c0, hc0⟩ : ∃ c0, (s0 + A0 + 0) / 18446744073709551616 = c0 := ⟨_, rfl⟩
  have e0 := fun W => run_add64_at s0 A0 0 W b0 b0' a0.1 a0.2 (by omega) (by omega)
  rw [ht0, hc0] at e0
  have g0 : 0 ≤ c0 ∧ c0 ≤ 1 := by omega
  obtain ⟨t1, ht1⟩ : ∃ t1, (s1 + A1 + c0) % 18446744073709551616 = t1 := ⟨_, rfl⟩
  obtain ⟨c1, hc1⟩ : ∃ c1, (s1 + A1 + c0) / 18446744073709551616 = c1 := ⟨_, rfl⟩
  have e1 := fun W => run_add64_at s1 A1 c0 W b1 b1' a1.1 a1.2 g0.1 g0.2
  rw [ht1, hc1] at e1
  have g1 : 0 ≤ c1 ∧ c1 ≤ 1 := by omega
  obtain ⟨t2, ht2⟩ : ∃ t2, (s2 + A2 + c1) % 18446744073709551616 = t2 := ⟨_, rfl⟩
  obtain ⟨c2, hc2⟩ : ∃ c2, (s2 + A2 + c1) / 18446744073709551616 = c2 := ⟨_, rfl⟩
  have e2 := fun W => run_add64_at s2 A2 c1 W b2 b2' a2.1 a2.2 g1.1 g1.2
  rw [ht2, hc2] at e2
  have HT : Hid ((s0 + A0 + 0) % 18446744073709551616 = t0 ∧ (s0 + A0 + 0) / 18446744073709551616 = c0 ∧ (s1 + A1 + c0) % 18446744073709551616 = t1 ∧ (s1 + A1 + c0) / 18446744073709551616 = c1 ∧ (s2 + A2 + c1) % 18446744073709551616 = t2) := ⟨ht0, hc0, ht1, hc1, ht2⟩
  clear ht0 hc0 ht1 hc1 ht2 hc2
  clear b0 b0' b1 b1' b2 b2' a0 a1 a2 g0 g1 h1 h2 h3 h4
  go_enter Try.func75, Try.ntmps75
  go_wp2
  refine wp_loop_rounds 4 ?_
  rw [rounds_succ]
  go_wp2
  go_region_held3 (fun w' => w'.cell? ⟨w.heap.size, 0, none⟩ = some (.int .u64 s0) ∧ w'.cell? ⟨w.heap.size + 1 + 1, 0, none⟩ = some (.int .u64 A0)) (first | (go_simp; done) | (go_keep; done) | (refine ⟨?_, ?_⟩ <;> first | (go_simp; done) | (go_keep; done))) (first | (fail))
  go_wp2
  rw [rounds_succ]
  go_wp2
  go_region_held3 (fun w' => w'.cell? ⟨w.heap.size, 1, none⟩ = some (.int .u64 s1) ∧ w'.cell? ⟨w.heap.size + 1 + 1, 1, none⟩ = some (.int .u64 A1)) (first | (go_simp; done) | (go_keep; done) | (refine ⟨?_, ?_⟩ <;> first | (go_simp; done) | (go_keep; done))) (first | (fail))
  go_wp2
  rw [rounds_succ]
  go_wp2
  go_region_held3 (fun w' => w'.cell? ⟨w.heap.size, 2, none⟩ = some (.int .u64 s2) ∧ w'.cell? ⟨w.heap.size + 1 + 1, 2, none⟩ = some (.int .u64 A2)) (first | (go_simp; done) | (go_keep; done) | (refine ⟨?_, ?_⟩ <;> first | (go_simp; done) | (go_keep; done))) (first | (fail))
  go_wp2
  rw [rounds_succ]
  go_wp2
  refine bodyPost_ret (v := .agg #[.int .u64 t0, .int .u64 t1, .int .u64 t2]) (by simp [results, Try.results75, go_sem, *]) rfl ⟨?_, ?_⟩
  · obtain ⟨r0, r1, r2, r3, r4⟩ := HT.out
    obtain ⟨q0, q1, q2, q3, q4, q5, q6⟩ := HA.out
    obtain ⟨p1, p2, p3, p4⟩ := HB.out
    have x0 := HS0.out; have x1 := HS1.out; have x2 := HS2.out
    have y0 : (z - (hi * 18446744073709551616 + lo)) % 18446744073709551616 = t0 := by omega
    have y1 : (z - (hi * 18446744073709551616 + lo)) / 18446744073709551616 % 18446744073709551616 = t1 := by omega
    have y2 : (z - (hi * 18446744073709551616 + lo)) / 340282366920938463463374607431768211456 % 18446744073709551616 = t2 := by omega
    rw [y0, y1, y2]
  · (repeat (first | exact Below.refl _ _ | refine Below.setCell ?_ (by simp <;> omega) _ | refine Below.alloc ?_ (by simp <;> omega) _ | refine Below.drew ?_ | refine below_drewN ?_ _))
end Go.Proofs.Ytfbodloidogliaa
