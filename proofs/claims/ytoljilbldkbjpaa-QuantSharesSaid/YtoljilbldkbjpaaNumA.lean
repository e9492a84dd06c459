/-
  Walks of package num: the functions on numbers alone.
-/
import Derived.Test.YtoljilbldkbjpaaKit
import Derived.Test.YtoljilbldkbjpaaShelf
namespace Go.Proofs.Ytoljilbldkbjpaa
open Go.RowKit

def fitV (z : Int) : Int := if Ok64 z then z else 0
def fitE (z : Int) : Int := if Ok64 z then 0 else 10
theorem fitV_yes {z : Int} (h : Ok64 z) : fitV z = z := if_pos h
theorem fitE_yes {z : Int} (h : Ok64 z) : fitE z = 0 := if_pos h
theorem fitV_no {z : Int} (h : ¬ Ok64 z) : fitV z = 0 := if_neg h
theorem fitE_no {z : Int} (h : ¬ Ok64 z) : fitE z = 10 := if_neg h

/-- The two results of what fits, or of an error. -/
def Fit (w : World) (e : Ending) (w' : World) (z : Int) : Prop := e = .returned (.tuple #[.int .i64 (fitV z), .int .i64 (fitE z)]) ∧ w = w'

theorem add_over {a b : Int} (ha : Ok64 a) (hb : Ok64 b) (h : (!decide (wrap64 (a + b) < a) == decide (b < 0)) = true) : ¬ Ok64 (a + b) := by
  unfold Ok64 wrap64 at *
  by_cases h1 : b < 0 <;> simp [h1] at h <;> omega
theorem add_fits {a b : Int} (ha : Ok64 a) (hb : Ok64 b) (h : (!decide (wrap64 (a + b) < a) == decide (b < 0)) = false) : Ok64 (a + b) ∧ wrap64 (a + b) = a + b := by
  unfold Ok64 wrap64 at *
  by_cases h1 : b < 0 <;> simp [h1] at h <;> omega
theorem sub_over {a b : Int} (ha : Ok64 a) (hb : Ok64 b) (h : (!decide (a < wrap64 (a - b)) == decide (b < 0)) = true) : ¬ Ok64 (a - b) := by
  unfold Ok64 wrap64 at *
  by_cases h1 : b < 0 <;> simp [h1] at h <;> omega
theorem sub_fits {a b : Int} (ha : Ok64 a) (hb : Ok64 b) (h : (!decide (a < wrap64 (a - b)) == decide (b < 0)) = false) : Ok64 (a - b) ∧ wrap64 (a - b) = a - b := by
  unfold Ok64 wrap64 at *
  by_cases h1 : b < 0 <;> simp [h1] at h <;> omega

theorem u64_abs {a : Int} (ha : Ok64 a) (h : a < 0) : IntKind.u64.wrap (-IntKind.u64.wrap a) = (a.natAbs : Int) := by
  unfold Ok64 at ha
  simp only [IntKind.wrap_u64]
  omega

set_option maxHeartbeats 400000 in
theorem size_any (a : Int) (w : World) (ha : Ok64 a) :
    Calls Try.prog 94 #[.int .i64 a] w fun e w' => e = .returned (.int .u64 (a.natAbs : Int)) ∧ w = w' := by
  have h1 := ha.1
  have h2 := ha.2
  by_cases h : a < 0
  · go_enter Try.func94, Try.ntmps94
    go_wp2
    go_ret
    exact ⟨ret_int (u64_abs ha h), rfl⟩
  · go_enter Try.func94, Try.ntmps94
    go_wp2
    go_ret
    exact ⟨ret_int (by omega), rfl⟩

def clampI (v lo hi : Int) : Int := if v < lo then lo else if hi < v then hi else v

end Go.Proofs.Ytoljilbldkbjpaa
