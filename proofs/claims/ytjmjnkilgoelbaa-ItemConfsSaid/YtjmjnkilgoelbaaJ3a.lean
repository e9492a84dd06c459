/-
  ItemJ: Walk of the reference's GetAsk, of whatever kind.
-/
import Derived.Test.YtjmjnkilgoelbaaKItemHa
import Derived.Test.YtjmjnkilgoelbaaKItemHb
import Derived.Test.YtjmjnkilgoelbaaKItemHc
import Derived.Test.YtjmjnkilgoelbaaKItemHd
import Derived.Test.YtjmjnkilgoelbaaKItemHe
import Derived.Test.YtjmjnkilgoelbaaKItemHf
namespace Go.Proofs.Ytjmjnkilgoelbaa
open Go.RowKit

theorem rgetAsk_any (vr : Value) (l : List Int) (a : Nat) (e0 : Int) (w : World) (h : Ints .u8 w vr l) (hb : AllB l) (ha : a ≤ l.length) (hl : l.length ≤ 100000) :
    Calls Try.prog 40 #[.agg #[vr, .int .i64 a, .int .i64 e0]] w fun e w' => RefA w vr (getAsk l a e0) e w' := by
  obtain ⟨r, h1⟩ : ∃ r, rdN' l a e0 1099511627776 = r := ⟨_, rfl⟩
  obtain ⟨K, a1, e1⟩ := r
  by_cases hk : 1 ≤ K ∧ K ≤ 7
  · have hN := fun W => rnames_any (K : Int) W
    obtain rfl | rfl | rfl | rfl | rfl | rfl | rfl : K = 1 ∨ K = 2 ∨ K = 3 ∨ K = 4 ∨ K = 5 ∨ K = 6 ∨ K = 7 := by omega
    · exact rgetAsk_a vr l a e0 w h hb ha hl 1 a1 e1 h1 (by decide) (by decide) (by decide) (by decide) (by decide) hN
    · exact rgetAsk_b vr l a e0 w h hb ha hl 2 a1 e1 h1 (by decide) (by decide) (by decide) (by decide) (by decide) hN
    · exact rgetAsk_c vr l a e0 w h hb ha hl 3 a1 e1 h1 (by decide) (by decide) (by decide) (by decide) (by decide) hN
    · exact rgetAsk_d vr l a e0 w h hb ha hl 4 a1 e1 h1 (by decide) (by decide) (by decide) (by decide) (by decide) hN
    · exact rgetAsk_e vr l a e0 w h hb ha hl 5 a1 e1 h1 (by decide) (by decide) (by decide) (by decide) (by decide) hN
    · exact rgetAsk_e vr l a e0 w h hb ha hl 6 a1 e1 h1 (by decide) (by decide) (by decide) (by decide) (by decide) hN
    · exact rgetAsk_b vr l a e0 w h hb ha hl 7 a1 e1 h1 (by decide) (by decide) (by decide) (by decide) (by decide) hN
  · have hN := fun W => rnames_any (K : Int) W
    rw [decide_eq_false (show ¬ (K : Int) = 1 by omega), decide_eq_false (show ¬ ((K : Int) = 1 ∨ (K : Int) = 2 ∨ (K : Int) = 7) by omega), decide_eq_false (show ¬ ((K : Int) = 3 ∨ (K : Int) = 4) by omega), decide_eq_false (show ¬ (K : Int) = 3 by omega)] at hN
    exact rgetAsk_f vr l a e0 w h hb ha hl K a1 e1 h1 hk hN
end Go.Proofs.Ytjmjnkilgoelbaa
