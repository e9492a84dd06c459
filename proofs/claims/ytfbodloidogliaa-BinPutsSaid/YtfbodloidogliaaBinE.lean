/-
  Walks of layer 21: numbers with a sign.
-/
import Derived.Test.YtfbodloidogliaaBinD
import Derived.Laws.Bits64
namespace Go.Proofs.Ytfbodloidogliaa
open Go.RowKit

/-- A number with a sign as a number without. -/
def zig (i : Int) : Nat := if i < 0 then (2 * (-(i + 1)) + 1).toNat else (2 * i).toNat
def putsI (i : Int) : List Int := putsU (zig i)

theorem zig_lt {i : Int} (h : Ok64 i) : (zig i : Int) ≤ 18446744073709551615 := by unfold Ok64 at h; unfold zig; split <;> omega

set_option maxRecDepth 100000 in
set_option maxHeartbeats 1000000 in
theorem rI_any (i : Int) (w : World) (h : Ok64 i) :
    Calls Try.prog 59 #[.int .i64 i] w fun e w' => ∃ v', e = .returned v' ∧ OwnB w' w.heap.size v' (putsI i) ∧ Below w.heap.size w w' := by
  have HU := Lib.hid (rU_any (zig i) w (zig_lt h))
  unfold Ok64 at h
  by_cases h0 : i < 0
  · have hz : (zig i : Int) = 2 * (-(i + 1)) + 1 := by unfold zig; rw [if_pos h0]; omega
    have HZ := Lib.hid hz; clear hz
    go_enter Try.func59, Try.ntmps59
    go_wp2_with fail
    rw [← HZ.out]
    refine HU.out.mono ?_
    rintro e w1 ⟨v1, rfl, ho, hb⟩
    have HO := Lib.hid ho; have HB := Lib.hid hb
    clear ho hb
    go_wp2
    go_ret
    exact ⟨_, rfl, HO.out, HB.out⟩
  · have hz : (zig i : Int) = 2 * i := by unfold zig; rw [if_neg h0]; omega
    have HZ := Lib.hid hz; clear hz
    go_enter Try.func59, Try.ntmps59
    go_wp2_with fail
    rw [← HZ.out]
    refine HU.out.mono ?_
    rintro e w1 ⟨v1, rfl, ho, hb⟩
    have HO := Lib.hid ho; have HB := Lib.hid hb
    clear ho hb
    go_wp2
    go_ret
    exact ⟨_, rfl, HO.out, HB.out⟩

theorem xor_ones (a : Nat) (h : a < 18446744073709551616) : a ^^^ 18446744073709551615 = 18446744073709551615 - a := by
  have h1 : (BitVec.ofNat 64 a ^^^ BitVec.allOnes 64).toNat = (~~~ BitVec.ofNat 64 a).toNat := by rw [BitVec.xor_allOnes]
  rw [BitVec.toNat_xor, BitVec.toNat_not, BitVec.toNat_allOnes, BitVec.toNat_ofNat, Nat.mod_eq_of_lt (by simpa using h)] at h1
  simpa using h1

set_option maxRecDepth 100000 in
theorem xor_zig {i : Int} (h : -9223372036854775808 ≤ i ∧ i ≤ 9223372036854775807) :
    bits BinOp.xor IntKind.u64 (IntKind.u64.wrap (IntKind.u64.wrap i * 2)) (IntKind.u64.wrap (i / 9223372036854775808)) = (zig i : Int) := by
  by_cases h0 : i < 0
  · have e1 : IntKind.u64.wrap (i / 9223372036854775808) = 18446744073709551615 := by
      rw [show i / 9223372036854775808 = -1 by omega]; rfl
    have e2 : IntKind.u64.wrap (IntKind.u64.wrap i * 2) = 18446744073709551616 + 2 * i := by
      unfold IntKind.wrap; simp [IntKind.signed, IntKind.bits]; omega
    have hz : (zig i : Int) = 2 * (-(i + 1)) + 1 := by unfold zig; rw [if_pos h0]; omega
    rw [e1, e2, hz]
    obtain ⟨a, ha⟩ := Int.eq_ofNat_of_zero_le (show 0 ≤ 18446744073709551616 + 2 * i by omega)
    have h1 := bits_xor_u64_nat a 18446744073709551615 (by omega) (by omega)
    rw [xor_ones a (by omega)] at h1
    rw [ha]
    refine h1.trans ?_
    omega
  · have e1 : IntKind.u64.wrap (i / 9223372036854775808) = 0 := by
      rw [show i / 9223372036854775808 = 0 by omega]; rfl
    have e2 : IntKind.u64.wrap (IntKind.u64.wrap i * 2) = 2 * i := by
      unfold IntKind.wrap; simp [IntKind.signed, IntKind.bits]; omega
    have hz : (zig i : Int) = 2 * i := by unfold zig; rw [if_neg h0]; omega
    rw [e1, e2, hz]
    obtain ⟨a, ha⟩ := Int.eq_ofNat_of_zero_le (show 0 ≤ 2 * i by omega)
    have h1 := bits_xor_u64_nat a 0 (by omega) (by omega)
    rw [Nat.xor_zero] at h1
    rw [ha]
    exact h1

set_option maxRecDepth 100000 in
set_option maxHeartbeats 1000000 in
theorem putI_any (v : Value) (l : List Int) (i : Int) (w : World) (hv : Ints .u8 w v l) (hl : l.length ≤ 999990) (h : Ok64 i) :
    Calls Try.prog 58 #[v, .int .i64 i] w fun e w' => ∃ v', e = .returned v' ∧ OwnB w' w.heap.size v' (l ++ putsI i) ∧ Below w.heap.size w w' := by
  have HU := Lib.hid (putU_any v l (zig i) w hv hl (zig_lt h))
  unfold Ok64 at h
  go_enter Try.func58, Try.ntmps58
  go_wp2_with fail
  rw [xor_zig h]
  refine HU.out.mono ?_
  rintro e w1 ⟨v1, rfl, ho, hb⟩
  have HO := Lib.hid ho; have HB := Lib.hid hb
  clear ho hb
  go_wp2
  go_ret
  exact ⟨_, rfl, HO.out, HB.out⟩
end Go.Proofs.Ytfbodloidogliaa
