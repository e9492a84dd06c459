/-
  LivesB: copselaw28.lives by the general contracts of Put and Get, and those of Line and Same at one state.
-/
import Derived.Test.YtgobbecpnjelmaaGreatKLaws28
import Derived.Test.YtgobbecpnjelmaaGreatKStateU
import Derived.Test.YtgobbecpnjelmaaGreatKStateX
import Derived.Test.YtgobbecpnjelmaaGreatJ4a
namespace Go.Proofs.YtgobbecpnjelmaaGreat
open Go.RowKit

theorem usual_L : (putSt ⟨2, 16, 2, 8, 5, 1, 1, 10, 4, 3, 9, 0, 0, 0, [], [], []⟩).length = 16 := by
 unfold putSt
 rw [show forestBy [] = [0] from by unfold forestBy; rw [isF_nilU]; rfl]
 rfl

theorem lives28_any (w : World) : Calls Tryz.prog 7 #[] w fun e w' => e = .returned (.bool true) ∧ Below w.heap.size w w' := by
 refine lives28_of (putSt ⟨2, 16, 2, 8, 5, 1, 1, 10, 4, 3, 9, 0, 0, 0, [], [], []⟩) (fun W => ?_) (fun W a c h => ?_) (fun W => sput_no 2 16 2 8 5 1 1 10 4 3 9 1 0 0 none none none 0 0 0 0 0 0 [] [] [] W (by decide) (seens_nil _ _ (by omega)) rfl (growns_nilU _ _ (by omega)) rfl (alerts_nil _ _ (by omega)) rfl usual_O) (fun W => sline_u W) (fun W wa wc fa fc aa ac _ => ssame_u wa fa aa wc fc ac W) w
 ·refine (sput_yes 2 16 2 8 5 1 1 10 4 3 9 0 0 0 none none none 0 0 0 0 0 0 [] [] [] W (by decide) (seens_nil _ _ (by omega)) rfl (growns_nilU _ _ (by omega)) rfl (alerts_nil _ _ (by omega)) rfl usual_S).mono fun e w' ⟨v', h1, h2, h3⟩ => ?_
  have h4 := h2
  obtain ⟨a, c, rfl⟩ := h2.shape
  rw [usual_L] at h1 h4
  exact ⟨a, c, h1, h4, h3⟩
 ·refine (sget_put 2 16 2 8 5 1 1 10 4 3 9 0 0 0 [] [] [] _ W usual_S h).mono fun e w' ⟨wv, fv, av, h1, h2, h3, h4, h5⟩ => ?_
  have k2 := h2; have k3 := h3; have k4 := h4
  obtain ⟨wa, wc, rfl⟩ := h2.shape
  obtain ⟨fa, fc, rfl, _⟩ := h3
  obtain ⟨aa, ac, rfl⟩ := h4.shape
  exact ⟨wa, wc, fa, fc, aa, ac, h1, ⟨k2, k3, k4⟩, h5⟩
end Go.Proofs.YtgobbecpnjelmaaGreat
