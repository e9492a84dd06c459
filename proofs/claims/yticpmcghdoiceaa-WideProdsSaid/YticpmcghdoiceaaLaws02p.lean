/-
  Walk of the statement on products of layer 2.
-/
import Derived.Test.YticpmcghdoiceaaLaws02
import Derived.Test.YticpmcghdoiceaaFrame
namespace Go.Proofs.Yticpmcghdoiceaa
open Go.RowKit

theorem prodsI_bd (a b c d : Int) : prodsI a b c d = -1 ∨ prodsI a b c d = 0 ∨ prodsI a b c d = 1 := by
  unfold prodsI sgn
  repeat' split
  all_goals omega

theorem prodsI_turn (a b c d : Int) : prodsI c d b a = -prodsI a b c d := by
  unfold prodsI
  rw [Int.mul_comm b a, show c * d - a * b = -(a * b - c * d) by omega]
  unfold sgn
  repeat' split
  all_goals omega

set_option maxRecDepth 100000 in
set_option maxHeartbeats 2000000 in
theorem wideProds_walk {w : World} (a : Int) (ha : (Lit.int .i64 a).wf = true) (b : Int) (hb : (Lit.int .i64 b).wf = true) (c : Int) (hc : (Lit.int .i64 c).wf = true) (d : Int) (hd : (Lit.int .i64 d).wf = true) :
    Calls Try.prog 6 #[.int .i64 a, .int .i64 b, .int .i64 c, .int .i64 d] w fun e w' => e = .returned (.bool true) ∧ Below w.heap.size w w' := by
  have ka := wf_ok ha; have kb := wf_ok hb; have kc := wf_ok hc; have kd := wf_ok hd
  clear ha hb hc hd
  have h1 := fun W => wProds_any a b c d W ka kb kc kd
  have h2 := fun W => rProds_any a b c d W ka kb kc kd
  have h3 := fun W => wProds_any c d b a W kc kd kb ka
  rw [prodsI_turn] at h3
  have hP := prodsI_bd a b c d
  obtain ⟨P, hp⟩ : ∃ P, prodsI a b c d = P := ⟨_, rfl⟩
  rw [hp] at h1 h2 h3 hP
  have hw : IntKind.i64.wrap (-P) = -P := by rcases hP with rfl | rfl | rfl <;> rfl
  have H1 := Lib.hid h1; have H2 := Lib.hid h2; have H3 := Lib.hid h3
  clear h1 h2 h3 hp hP ka kb kc kd
  go_enter Try.func6, Try.ntmps6
  go_wp2_with fail
  refine (H1.out _).mono ?_
  rintro e w1 ⟨rfl, b1⟩
  go_wp2_with fail
  refine (H2.out _).mono ?_
  rintro e w2 ⟨rfl, b2⟩
  go_wp2_with fail
  refine (H3.out _).mono ?_
  rintro e w3 ⟨rfl, b3⟩
  go_wp2_with fail
  refine (H2.out _).mono ?_
  rintro e w4 ⟨rfl, b4⟩
  go_wp2_with fail
  refine (lives02_any _).mono ?_
  rintro e w5 ⟨rfl, b5⟩
  have s1 := b1.size; have s2 := b2.size; have s3 := b3.size; have s4 := b4.size
  go_wp2
  go_ret
  exact ⟨rfl, by (repeat (first | with_reducible exact Below.refl _ _ | ((with_reducible refine Below.setCell ?_ ?_ _); rotate_left; (focus (first | omega | (simp; done) | (simp; omega)))) | ((with_reducible refine Below.alloc ?_ ?_ _); rotate_left; (focus (first | omega | (simp; done) | (simp; omega)))) | (with_reducible refine Below.drew ?_) | (with_reducible refine below_drewN ?_ _) | ((with_reducible refine Below.trans ?_ (Below.mono b5 ?_)); rotate_left; (focus (first | omega | (simp; done) | (simp; omega)))) | ((with_reducible refine Below.trans ?_ (Below.mono b4 ?_)); rotate_left; (focus (first | omega | (simp; done) | (simp; omega)))) | ((with_reducible refine Below.trans ?_ (Below.mono b3 ?_)); rotate_left; (focus (first | omega | (simp; done) | (simp; omega)))) | ((with_reducible refine Below.trans ?_ (Below.mono b2 ?_)); rotate_left; (focus (first | omega | (simp; done) | (simp; omega)))) | ((with_reducible refine Below.trans ?_ (Below.mono b1 ?_)); rotate_left; (focus (first | omega | (simp; done) | (simp; omega))))))⟩
end Go.Proofs.Yticpmcghdoiceaa
