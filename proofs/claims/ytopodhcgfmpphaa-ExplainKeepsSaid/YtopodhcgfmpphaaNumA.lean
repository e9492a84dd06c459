/-
  Walks of package num: the functions on numbers alone.
-/
import Derived.Test.YtopodhcgfmpphaaKit
import Derived.Test.YtopodhcgfmpphaaShelf
namespace Go.Proofs.Ytopodhcgfmpphaa
open Go.RowKit

def fitV (z : Int) : Int := if Ok64 z then z else 0
def fitE (z : Int) : Int := if Ok64 z then 0 else 10
theorem fitV_yes {z : Int} (h : Ok64 z) : fitV z = z := if_pos h
theorem fitE_yes {z : Int} (h : Ok64 z) : fitE z = 0 := if_pos h
theorem fitV_no {z : Int} (h : ¬ Ok64 z) : fitV z = 0 := if_neg h
theorem fitE_no {z : Int} (h : ¬ Ok64 z) : fitE z = 10 := if_neg h

/-- The two results of what fits, or of an error. -/
def Fit (w : World) (e : Ending) (w' : World) (z : Int) : Prop := e = .returned (.tuple #[.int .i64 (fitV z), .int .i64 (fitE z)]) ∧ w = w'

theorem add_over {a b : Int} (ha : Ok64 a) (hb : Ok64 b) (h : (!decide (wrap64 (a + b) < a) == decide (b < 0)) = true) : ¬ Ok64 (a + b) := by
  unfold Ok64 wrap64 at *
  by_cases h1 : b < 0 <;> simp [h1] at h <;> omega
theorem add_fits {a b : Int} (ha : Ok64 a) (hb : Ok64 b) (h : (!decide (wrap64 (a + b) < a) == decide (b < 0)) = false) : Ok64 (a + b) ∧ wrap64 (a + b) = a + b := by
  unfold Ok64 wrap64 at *
  by_cases h1 : b < 0 <;> simp [h1] at h <;> omega
theorem sub_over {a b : Int} (ha : Ok64 a) (hb : Ok64 b) (h : (!decide (a < wrap64 (a - b)) == decide (b < 0)) = true) : ¬ Ok64 (a - b) := by
  unfold Ok64 wrap64 at *
  by_cases h1 : b < 0 <;> simp [h1] at h <;> omega
theorem sub_fits {a b : Int} (ha : Ok64 a) (hb : Ok64 b) (h : (!decide (a < wrap64 (a - b)) == decide (b < 0)) = false) : Ok64 (a - b) ∧ wrap64 (a - b) = a - b := by
  unfold Ok64 wrap64 at *
  by_cases h1 : b < 0 <;> simp [h1] at h <;> omega

theorem u64_abs {a : Int} (ha : Ok64 a) (h : a < 0) : IntKind.u64.wrap (-IntKind.u64.wrap a) = (a.natAbs : Int) := by
  unfold Ok64 at ha
  simp only [IntKind.wrap_u64]
  omega

set_option maxHeartbeats 400000 in
theorem size_any (a : Int) (w : World) (ha : Ok64 a) :
    Calls Try.prog 141 #[.int .i64 a] w fun e w' => e = .returned (.int .u64 (a.natAbs : Int)) ∧ w = w' := by
  have h1 := ha.1
  have h2 := ha.2
  by_cases h : a < 0
  · go_enter Try.func141, Try.ntmps141
    go_wp2
    go_ret
    exact ⟨ret_int (u64_abs ha h), rfl⟩
  · go_enter Try.func141, Try.ntmps141
    go_wp2
    go_ret
    exact ⟨ret_int (by omega), rfl⟩

def clampI (v lo hi : Int) : Int := if v < lo then lo else if hi < v then hi else v

set_option maxHeartbeats 400000 in
theorem clamp_any (v lo hi : Int) (w : World) :
    Calls Try.prog 163 #[.int .i64 v, .int .i64 lo, .int .i64 hi] w fun e w' => e = .returned (.int .i64 (clampI v lo hi)) ∧ w = w' := by
  by_cases h1 : v < lo
  · go_enter Try.func163, Try.ntmps163
    go_wp2
    go_ret
    exact ⟨ret_int (by rw [clampI, if_pos h1]), rfl⟩
  · by_cases h2 : hi < v
    · go_enter Try.func163, Try.ntmps163
      go_wp2
      go_ret
      exact ⟨ret_int (by rw [clampI, if_neg (by omega), if_pos h2]), rfl⟩
    · go_enter Try.func163, Try.ntmps163
      go_wp2
      go_ret
      exact ⟨ret_int (by rw [clampI, if_neg (by omega), if_neg (by omega)]), rfl⟩

set_option maxHeartbeats 400000 in
theorem log_any (n : Int) (w : World) (hn : Ok64 n) :
    Calls Try.prog 114 #[.int .i64 n] w fun e w' => e = .returned (.int .i64 (Lib.bitLen (n.toNat - 1))) ∧ w = w' := by
  have h1 := hn.1
  have h2 := hn.2
  by_cases h : n ≤ 1
  · go_enter Try.func114, Try.ntmps114
    go_wp2
    go_ret
    refine ⟨ret_int ?_, rfl⟩
    rw [show n.toNat - 1 = 0 by omega]; rfl
  · have hl := fun W => Try.bits_Len64 (n - 1) W (by omega) (by omega)
    rw [show (n - 1).toNat = n.toNat - 1 by omega] at hl
    have HL := Lib.hid hl; clear hl
    go_enter Try.func114, Try.ntmps114
    go_wp2_with (go_at_call 126; refine (HL.out _).mono ?_; rintro e w' ⟨rfl, rfl⟩)
    go_ret
    exact ⟨rfl, rfl⟩
end Go.Proofs.Ytopodhcgfmpphaa
