/-
  Walks of copseref01: products.
-/
import Derived.Test.YtoljilbldkbjpaaRefWhole
namespace Go.Proofs.Ytoljilbldkbjpaa
open Go.RowKit

theorem Sm.len {m : Nat} (h : (digs m).length ≤ 1000) : Sm m := by unfold Sm; omega

theorem Ints.nil (k : IntKind) (w : World) : Ints k w (.slice none 0 0) [] := ⟨none, 0, rfl, by simp, by omega, by simp, fun i x h => by simp at h⟩

theorem digs_mul_len {m n : Nat} : (digs (m * n)).length ≤ (digs m).length + (digs n).length := by
  refine digs_len _ _ ?_
  rw [Nat.pow_add]
  exact Nat.mul_lt_mul'' (digs_lt_pow m) (digs_lt_pow n)

theorem made_ints' (k : IntKind) (n : Nat) : (madeCells #[.int k 0] n).toList = (List.replicate n (0 : Int)).map (Value.int k) := by
  have := made_ints k n
  rwa [Nat.mul_one] at this

theorem mulL_step {x c y : Int} {l : List Int} {j : Nat} (h : l[j]? = some y) : mulL x (l.drop j) c = (x * y + c) % 65536 :: mulL x (l.drop (j + 1)) ((x * y + c) / 65536) := by
  have hk : j < l.length := (List.getElem?_eq_some_iff.1 h).1
  rw [drop_getD hk, getD_of h]; rfl

theorem trimL_len (l : List Int) : (trimL l).length ≤ l.length := by
  unfold trimL
  rw [List.length_reverse]
  exact Nat.le_trans (List.dropWhile_suffix _).length_le (by simp)

theorem times_row {la : List Int} {k n : Nat} {x : Int} (hd : Dig la) (hx : la[k]? = some x) :
    ∃ R, trimL (List.replicate k 0 ++ mulL x (digs n) 0) = digs R ∧ bv (la.take k) * n + R = bv (la.take (k + 1)) * n ∧ (digs R).length ≤ k + (digs n).length + 1 := by
  obtain ⟨_, h2⟩ := times_step (n := n) hd hx
  have hx0 := hd x (List.mem_of_getElem? hx)
  obtain ⟨g1, g2⟩ := mulL_spec x hx0 (digs n) 0 (digs_dig n) (by omega)
  refine ⟨_, trimL_digs h2, ?_, ?_⟩
  · rw [bv_zeros, g2, bv_digs, bv_take_succ hx, Nat.add_mul, Nat.mul_assoc]; simp
  · rw [← trimL_digs h2]
    exact Nat.le_trans (trimL_len _) (by simp [mulL_len]; omega)

end Go.Proofs.Ytoljilbldkbjpaa
