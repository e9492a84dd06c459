/-
  Walks of copseref01: sums, differences, products of numbers.
-/
import Derived.Test.YtoljilbldkbjpaaRefFits
import Derived.Test.YtoljilbldkbjpaaRefTurn
namespace Go.Proofs.Ytoljilbldkbjpaa
open Go.RowKit

attribute [local go_sem ↓] Go.wp_at_zero Go.wp_at_succ

set_option maxHeartbeats 400000 in
theorem rsub_any (a b : Int) (w : World) (ha : Ok64 a) (hb : Ok64 b) :
    Calls Try.prog 79 #[.int .i64 a, .int .i64 b] w fun e w' => FitB w e w' (a - b) := by
  have SA := Lib.hid (Sm.ok ha)
  have SB : Hid (Sm (-b).natAbs) := by rw [Int.natAbs_neg]; exact Sm.ok hb
  go_enter Try.func79, Try.ntmps79
  go_wp2_with fail
  refine (int_any a _ ha.1 ha.2).mono ?_
  rintro e w1 ⟨v1, rfl, hv1, _, hb1⟩
  go_wp2_with fail
  refine (int_any b _ hb.1 hb.2).mono ?_
  rintro e w2 ⟨v2, rfl, hv2, _, hb2⟩
  go_wp2_with fail
  refine (turn_any v2 b _ hv2).mono ?_
  rintro e w5 ⟨v5, rfl, hv5, hb5⟩
  go_wp2_with fail
  refine (both_any v1 v5 a (-b) _ ((hv1.below hb2).below hb5) hv5 SA.out SB.out).mono ?_
  rintro e w3 ⟨v3, rfl, hv3, _, hb3⟩
  rw [← Int.sub_eq_add_neg] at hv3
  go_wp2_with fail
  refine (fits_any v3 _ _ hv3).mono ?_
  rintro e w4 ⟨rfl, hb4⟩
  go_wp2
  go_ret2
  exact ⟨rfl, hb1.trans ((hb2.trans ((hb5.trans ((hb3.trans (hb4.mono hb3.size)).mono hb5.size)).mono hb2.size)).mono hb1.size)⟩

end Go.Proofs.Ytoljilbldkbjpaa
