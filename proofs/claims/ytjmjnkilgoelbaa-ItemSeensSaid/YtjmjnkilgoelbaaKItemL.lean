/-
  ItemL: Walks for what must come of every program: a reader that is not there, an alert.
-/
import Derived.Test.YtjmjnkilgoelbaaJ0b
import Derived.Test.YtjmjnkilgoelbaaJ0c
namespace Go.Proofs.Ytjmjnkilgoelbaa
open Go.RowKit

theorem readN_nil (w : World) (most : Int) : Calls Try.prog 96 #[.pointer none, .int .i64 most] w fun e w' => e = .returned (.int .i64 0) ∧ w = w' := by
  go_enter_defers Try.func96, Try.ntmps96
  go_wp2_with fail
  refine (dead_nil w).mono ?_
  rintro e w1 ⟨rfl, rfl⟩
  go_wp2
  exact ⟨_, results_tmp rfl _ _ _, rfl, rfl⟩

theorem confN_nil {w : World} {B : Nat} (h : w.cell? ⟨B, 0, none⟩ = some (.pointer none)) : Calls Try.prog 113 #[.pointer (some ⟨B, 0, none⟩)] w fun e w' => e = .returned (.int .i64 0) ∧ w = w' := by
  go_enter Try.func113, Try.ntmps113
  go_wp2_with fail
  (with_reducible refine (readN_nil _ _).mono ?_)
  rintro e w1 ⟨rfl, rfl⟩
  go_wp2_with fail
  go_ret
  exact ⟨rfl, rfl⟩

def conf0 : Value := .agg #[.int .i64 0, .int .i64 0, .int .i64 0, .int .i64 0, .int .i64 0, .int .i64 0, .int .i64 0, .int .i64 0, .int .i64 0, .int .i64 0, .int .i64 0]

set_option maxRecDepth 100000 in
set_option maxHeartbeats 4000000 in
theorem checkedC_nil (w : World) (f : Value) :
    Calls Try.prog 114 #[.pointer none, .agg #[.int .i64 0, .int .i64 0, .int .i64 0, .int .i64 0, .int .i64 0, .int .i64 0, .int .i64 0, .int .i64 0, .int .i64 0, .int .i64 0, .int .i64 0], f] w fun e w' => e = .returned conf0 ∧ Below w.heap.size w w' := by
  have j1 : ((7 : Int) == 0) = false := by decide
  have j2 : ((7 : Int) != 0) = true := by decide
  go_enter Try.func114, Try.ntmps114
  go_wp2_with fail
  refine (err_nil _).mono ?_
  rintro e w1 ⟨rfl, rfl⟩
  go_wp2_with fail
  refine (err_nil _).mono ?_
  rintro e w2 ⟨rfl, rfl⟩
  go_wp2_with fail
  exact bodyPost_ret (v := conf0) (by simp [conf0, results, Try.results114, go_sem, *]) rfl ⟨rfl, by (repeat (first | with_reducible exact Below.refl _ _ | with_reducible refine Bs ?_ | with_reducible refine Ba ?_ | with_reducible refine Bd ?_ | with_reducible refine Bn ?_))⟩

set_option maxRecDepth 100000 in
set_option maxHeartbeats 4000000 in
theorem getConf_nil (w : World) : Calls Try.prog 44 #[.pointer none] w fun e w' => e = .returned conf0 ∧ Below w.heap.size w w' := by
  have HC := Lib.hid (fun (W : World) (B : Nat) (h : W.cell? ⟨B, 0, none⟩ = some (.pointer none)) => confN_nil h)
  have HK := Lib.hid (fun (f : Value) W => checkedC_nil W f)
  go_enter Try.func44, Try.ntmps44
  go_wp2_with (go_at_call 113; (with_reducible refine (HC.out _ w.heap.size (by go_simp)).mono ?_); rintro e w1 ⟨rfl, rfl⟩)
  (with_reducible refine (HK.out _ _).mono ?_); rintro e w1 ⟨rfl, b1⟩; have s1 : w.heap.size + 1 + 1 + 1 ≤ w1.heap.size := sz b1; have B1 := Lib.hid (Bc (B := w.heap.size) (a := w) (by (repeat (first | with_reducible exact Below.refl _ _ | with_reducible refine Bs ?_ | with_reducible refine Ba ?_ | with_reducible refine Bd ?_ | with_reducible refine Bn ?_))) b1); obtain ⟨c1_0, f1_0, c1_1, f1_1, c1_2, f1_2, c1_3, f1_3, c1_4, f1_4, c1_5, f1_5, c1_6, f1_6, c1_7, f1_7, c1_8, f1_8, c1_9, f1_9, c1_10, f1_10⟩ := k11f (w.heap.size + 1) (.int .i64 0) (.int .i64 0) (.int .i64 0) (.int .i64 0) (.int .i64 0) (.int .i64 0) (.int .i64 0) (.int .i64 0) (.int .i64 0) (.int .i64 0) (.int .i64 0) b1 (by and_intros <;> go_simp); obtain ⟨l1_0, n1_0, m1_0⟩ := lnm (show w.heap.size + 1 < w1.heap.size by omega); clear b1
  unfold conf0
  go_wp2_with fail
  exact bodyPost_ret (v := conf0) (by simp [conf0, results, Try.results44, go_sem, *]) rfl ⟨rfl, by (repeat (first | with_reducible exact Below.refl _ _ | with_reducible refine Bs ?_ | with_reducible refine Ba ?_ | with_reducible refine Bd ?_ | with_reducible refine Bn ?_ | with_reducible refine Bt B1.out ?_))⟩
end Go.Proofs.Ytjmjnkilgoelbaa
