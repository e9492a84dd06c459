/-
  Walks of package num: long sums.
-/
import Derived.Test.YtfbodloidogliaaNumC
import Derived.Laws.Externs
import Derived.Test.YtfbodloidogliaaRefBig2
namespace Go.Proofs.Ytfbodloidogliaa
open Go.RowKit

theorem run_add64_at (x y c : Int) (w : World) (hx : 0 ≤ x) (hx' : x ≤ 18446744073709551615) (hy : 0 ≤ y) (hy' : y ≤ 18446744073709551615) (hc : 0 ≤ c) (hc' : c ≤ 1) :
    (callFunc 104 #[.int .u64 x, .int .u64 y, .int .u64 c]).run Try.prog w =
      .ok (.value (.tuple #[.int .u64 ((x + y + c) % 18446744073709551616), .int .u64 ((x + y + c) / 18446744073709551616)])) w := by
  obtain ⟨x, rfl⟩ := Int.eq_ofNat_of_zero_le hx
  obtain ⟨y, rfl⟩ := Int.eq_ofNat_of_zero_le hy
  obtain ⟨c, rfl⟩ := Int.eq_ofNat_of_zero_le hc
  rw [run_callFunc_extern Try.func104 (by kernel_rfl) (by kernel_rfl) (by kernel_rfl) (e := add64Entry) (by kernel_rfl), run_add64 x y c (by omega) (by omega) (by omega) (by omega)]
  rfl

def longV (z : Int) : Value := .agg #[.int .u64 (z % 18446744073709551616), .int .u64 (z / 18446744073709551616 % 18446744073709551616), .int .u64 (z / 340282366920938463463374607431768211456 % 18446744073709551616)]

set_option maxRecDepth 100000 in
set_option maxHeartbeats 800000 in
theorem plus_yes (z hi lo : Int) (w : World) (h1 : 0 ≤ hi) (h2 : hi ≤ 18446744073709551615) (h3 : 0 ≤ lo) (h4 : lo ≤ 18446744073709551615) :
    Calls Try.prog 75 #[longV z, .int .u64 hi, .int .u64 lo, .bool false] w fun e w' => e = .returned (longV (z + (hi * 18446744073709551616 + lo))) ∧ Below w.heap.size w w' := by
  unfold longV
  obtain ⟨s0, hs0⟩ : ∃ s0, z % 18446744073709551616 = s0 := ⟨_, rfl⟩
  obtain ⟨s1, hs1⟩ : ∃ s1, z / 18446744073709551616 % 18446744073709551616 = s1 := ⟨_, rfl⟩
  obtain ⟨s2, hs2⟩ : ∃ s2, z / 340282366920938463463374607431768211456 % 18446744073709551616 = s2 := ⟨_, rfl⟩
  rw [hs0, hs1, hs2]
  have b0 : 0 ≤ s0 := by omega
  have b0' : s0 ≤ 18446744073709551615 := by omega
  have b1 : 0 ≤ s1 := by omega
  have b1' : s1 ≤ 18446744073709551615 := by omega
  have b2 : 0 ≤ s2 := by omega
  have b2' : s2 ≤ 18446744073709551615 := by omega
  have HS0 := Lib.hid hs0
  have HS1 := Lib.hid hs1
  have HS2 := Lib.hid hs2
  clear hs0 hs1 hs2
  obtain ⟨t0, ht0⟩ : ∃ t0, (s0 + lo + 0) % 18446744073709551616 = t0 := ⟨_, rfl⟩
  obtain ⟨c0, hc0⟩ : ∃ c0, (s0 + lo + 0) / 18446744073709551616 = c0 := ⟨_, rfl⟩
  have e0 := fun W => run_add64_at s0 lo 0 W b0 b0' h3 h4 (by omega) (by omega)
  rw [ht0, hc0] at e0
  have g0 : 0 ≤ c0 ∧ c0 ≤ 1 := by omega
  obtain ⟨t1, ht1⟩ : ∃ t1, (s1 + hi + c0) % 18446744073709551616 = t1 := ⟨_, rfl⟩
  obtain ⟨c1, hc1⟩ : ∃ c1, (s1 + hi + c0) / 18446744073709551616 = c1 := ⟨_, rfl⟩
  have e1 := fun W => run_add64_at s1 hi c0 W b1 b1' h1 h2 g0.1 g0.2
  rw [ht1, hc1] at e1
  have g1 : 0 ≤ c1 ∧ c1 ≤ 1 := by omega
  obtain ⟨t2, ht2⟩ : ∃ t2, (s2 + 0 + c1) % 18446744073709551616 = t2 := ⟨_, rfl⟩
  obtain ⟨c2, hc2⟩ : ∃ c2, (s2 + 0 + c1) / 18446744073709551616 = c2 := ⟨_, rfl⟩
  have e2 := fun W => run_add64_at s2 0 c1 W b2 b2' (by omega) (by omega) g1.1 g1.2
  rw [ht2, hc2] at e2
  have HT : Hid ((s0 + lo + 0) % 18446744073709551616 = t0 ∧ (s0 + lo + 0) / 18446744073709551616 = c0 ∧ (s1 + hi + c0) % 18446744073709551616 = t1 ∧ (s1 + hi + c0) / 18446744073709551616 = c1 ∧ (s2 + 0 + c1) % 18446744073709551616 = t2) := ⟨ht0, hc0, ht1, hc1, ht2⟩
  clear ht0 hc0 ht1 hc1 ht2 hc2
  go_enter Try.func75, Try.ntmps75
  go_wp2
  refine wp_loop_rounds 4 ?_
  rw [rounds_succ]
  go_wp2
  go_region_held3 (fun w' => w'.cell? ⟨w.heap.size, 0, none⟩ = some (.int .u64 s0) ∧ w'.cell? ⟨w.heap.size + 1 + 1, 0, none⟩ = some (.int .u64 lo)) (first | (go_simp; done) | (go_keep; done) | (refine ⟨?_, ?_⟩ <;> first | (go_simp; done) | (go_keep; done))) (first | (fail))
  go_wp2
  rw [rounds_succ]
  go_wp2
  go_region_held3 (fun w' => w'.cell? ⟨w.heap.size, 1, none⟩ = some (.int .u64 s1) ∧ w'.cell? ⟨w.heap.size + 1 + 1, 1, none⟩ = some (.int .u64 hi)) (first | (go_simp; done) | (go_keep; done) | (refine ⟨?_, ?_⟩ <;> first | (go_simp; done) | (go_keep; done))) (first | (fail))
  go_wp2
  rw [rounds_succ]
  go_wp2
  go_region_held3 (fun w' => w'.cell? ⟨w.heap.size, 2, none⟩ = some (.int .u64 s2) ∧ w'.cell? ⟨w.heap.size + 1 + 1, 2, none⟩ = some (.int .u64 0)) (first | (go_simp; done) | (go_keep; done) | (refine ⟨?_, ?_⟩ <;> first | (go_simp; done) | (go_keep; done))) (first | (fail))
  go_wp2
  rw [rounds_succ]
  go_wp2
  refine bodyPost_ret (v := .agg #[.int .u64 t0, .int .u64 t1, .int .u64 t2]) (by simp [results, Try.results75, go_sem, *]) rfl ⟨?_, ?_⟩
  · obtain ⟨r0, r1, r2, r3, r4⟩ := HT.out
    have x0 := HS0.out; have x1 := HS1.out; have x2 := HS2.out
    have y0 : (z + (hi * 18446744073709551616 + lo)) % 18446744073709551616 = t0 := by omega
    have y1 : (z + (hi * 18446744073709551616 + lo)) / 18446744073709551616 % 18446744073709551616 = t1 := by omega
    have y2 : (z + (hi * 18446744073709551616 + lo)) / 340282366920938463463374607431768211456 % 18446744073709551616 = t2 := by omega
    rw [y0, y1, y2]
  · (repeat (first | exact Below.refl _ _ | refine Below.setCell ?_ (by simp <;> omega) _ | refine Below.alloc ?_ (by simp <;> omega) _ | refine Below.drew ?_ | refine below_drewN ?_ _))
end Go.Proofs.Ytfbodloidogliaa
