/-
  LivesA: copselaw28.lives by the general contracts of Line and Same, and those of Put and Get at one state.
-/
import Derived.Test.YtgobbecpnjelmaaGreatKLaws28
import Derived.Test.YtgobbecpnjelmaaGreatKStateN
import Derived.Test.YtgobbecpnjelmaaGreatKStateR
import Derived.Test.YtgobbecpnjelmaaGreatKStateY
namespace Go.Proofs.YtgobbecpnjelmaaGreat
open Go.RowKit

theorem usual_N : lineT ⟨2, 16, 2, 8, 5, 1, 1, 10, 4, 3, 9, 0, 0, 0, [], [], []⟩ = ((0, 0), false) := lineT_few usual_S (by decide)

theorem lives28_any (w : World) : Calls Tryz.prog 7 #[] w fun e w' => e = .returned (.bool true) ∧ Below w.heap.size w w' := by
  refine lives28_of bytesU (fun W => sput_u W) (fun W a c h => (sget_u a c W h).mono fun e w' ⟨h1, h2⟩ => ⟨none, 0, none, 0, none, 0, h1, ⟨seens_nil _ _ (by omega), growns_nilU _ _ (by omega), alerts_nil _ _ (by omega)⟩, h2⟩) (fun W => sput_one W) (fun W => ?_) (fun W wa wc fa fc aa ac h => ?_) w
  · have := sline28_any 2 16 2 8 5 1 1 10 4 3 9 0 0 0 none none none 0 0 0 0 0 0 [] [] [] W (by decide) (by decide) (seens_nil _ _ (by omega)) rfl (growns_nilU _ _ (by omega)) rfl (alerts_nil _ _ (by omega)) rfl (by omega)
    rw [usual_N] at this
    exact this
  · have := ssame28_any 2 16 2 8 5 1 1 10 4 3 9 0 0 0 2 16 2 8 5 1 1 10 4 3 9 0 0 0 (.slice none 0 0) (.slice none 0 0) (.slice none 0 0) _ _ _ [] [] [] [] [] [] W (seens_nil _ _ (by omega)) (growns_nilU _ _ (by omega)) (alerts_nil _ _ (by omega)) h.1 h.2.1 h.2.2
    rw [sameSt_self] at this
    exact this
end Go.Proofs.YtgobbecpnjelmaaGreat
