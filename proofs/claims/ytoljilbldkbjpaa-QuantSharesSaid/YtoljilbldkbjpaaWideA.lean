/-
  Walks of package wide: sums, differences, order, products, quotients.
-/
import Derived.Test.YtoljilbldkbjpaaWideMath
import Derived.Test.YtoljilbldkbjpaaDiv64
import Derived.Test.YtoljilbldkbjpaaShelf
import Derived.Laws.Externs
namespace Go.Proofs.Ytoljilbldkbjpaa
open Go.RowKit

def sub64Entry : Array Value → Sem Value := fun args => do
  let (x, y, b) ← Extern.MathBitsCarry.three "Sub64" args
  pure (Extern.MathBitsCarry.pair ((x + Extern.MathBitsCarry.m64 - y - b) % Extern.MathBitsCarry.m64) (if x < y + b then 1 else 0))

theorem run_sub64 {P : Program} (x y c : Int) (hx : 0 ≤ x) (hy : 0 ≤ y) (hy' : y ≤ 18446744073709551615) (hc0 : 0 ≤ c) (hc : c ≤ 1) (w : World) :
    (sub64Entry #[.int .u64 x, .int .u64 y, .int .u64 c]).run P w =
      .ok (.tuple #[.int .u64 ((x + 18446744073709551616 - y - c) % 18446744073709551616), .int .u64 (if x < y + c then 1 else 0)]) w := by
  have key : ∀ k : Nat, k ≤ 1 → (sub64Entry #[.int .u64 x, .int .u64 y, .int .u64 (k : Int)]).run P w =
      .ok (Extern.MathBitsCarry.pair ((x.toNat + Extern.MathBitsCarry.m64 - y.toNat - k) % Extern.MathBitsCarry.m64) (if x.toNat < y.toNat + k then 1 else 0)) w := by
    intro k hk
    have : k = 0 ∨ k = 1 := by omega
    rcases this with rfl | rfl <;> rfl
  obtain ⟨k, rfl⟩ := Int.eq_ofNat_of_zero_le hc0
  rw [key k (by omega)]
  obtain ⟨X, rfl⟩ := Int.eq_ofNat_of_zero_le hx
  obtain ⟨Y, rfl⟩ := Int.eq_ofNat_of_zero_le hy
  simp only [Extern.MathBitsCarry.pair, Extern.MathBitsCarry.m64, Int.toNat_natCast]
  have e1 : Int.ofNat ((X + 2 ^ 64 - Y - k) % 2 ^ 64) = ((X : Int) + 18446744073709551616 - Y - k) % 18446744073709551616 := by
    rw [show (2 : Nat) ^ 64 = 18446744073709551616 by decide]
    show (((X + 18446744073709551616 - Y - k) % 18446744073709551616 : Nat) : Int) = _
    omega
  have e2 : Int.ofNat (if X < Y + k then 1 else 0) = (if (X : Int) < (Y : Int) + (k : Int) then 1 else 0) := by
    by_cases h : X < Y + k
    · rw [if_pos h, if_pos (by omega)]; rfl
    · rw [if_neg h, if_neg (by omega)]; rfl
  rw [e1, e2]

set_option maxRecDepth 100000 in
theorem wMul_any (x y : Nat) (w : World) (hx : (x : Int) ≤ 18446744073709551615) (hy : (y : Int) ≤ 18446744073709551615) :
    Calls Try.prog 111 #[.int .u64 x, .int .u64 y] w fun e w' => e = .returned (WV (x * y)) ∧ Below w.heap.size w w' := by
  have hm := fun W => Try.bits_Mul64 x y (by omega) (by omega) W
  unfold WV
  obtain ⟨h, hh⟩ : ∃ h, x * y / 18446744073709551616 = h := ⟨_, rfl⟩
  obtain ⟨l, hl⟩ : ∃ l, x * y % 18446744073709551616 = l := ⟨_, rfl⟩
  rw [hh, hl] at hm ⊢
  have HM := Lib.hid hm
  clear hm hh hl
  go_enter Try.func111, Try.ntmps111
  go_wp2_with (go_at_call 120; refine (HM.out _).mono ?_; rintro e w1 ⟨rfl, rfl⟩)
  refine bodyPost_ret (v := .agg #[.int .u64 h, .int .u64 l]) (by simp [results, Try.results111, go_sem]) rfl ⟨rfl, ?_⟩
  (repeat (first | with_reducible exact Below.refl _ _ | ((with_reducible refine Below.setCell ?_ ?_ _); rotate_left; (focus (first | omega | (simp; done) | (simp; omega)))) | ((with_reducible refine Below.alloc ?_ ?_ _); rotate_left; (focus (first | omega | (simp; done) | (simp; omega)))) | (with_reducible refine Below.drew ?_) | (with_reducible refine below_drewN ?_ _)))

theorem cmp64_any (x y : Int) (w : World) : Calls Try.prog 119 #[.int .u64 x, .int .u64 y] w fun e w' => e = .returned (.int .i64 (if x < y then -1 else if y < x then 1 else 0)) ∧ w = w' := by
  by_cases h1 : x < y
  · rw [if_pos h1]
    go_enter Try.func119, Try.ntmps119
    go_wp2
    go_ret
    exact ⟨rfl, rfl⟩
  · rw [if_neg h1]
    by_cases h2 : y < x
    · rw [if_pos h2]
      go_enter Try.func119, Try.ntmps119
      go_wp2
      go_ret
      exact ⟨rfl, rfl⟩
    · rw [if_neg h2]
      go_enter Try.func119, Try.ntmps119
      go_wp2
      go_ret
      exact ⟨rfl, rfl⟩

theorem cmp_hi {ah al bh bl : Nat} (h2 : (al : Int) ≤ 18446744073709551615) (h4 : (bl : Int) ≤ 18446744073709551615) (h : ah ≠ bh) : cmpN (ah * 18446744073709551616 + al) (bh * 18446744073709551616 + bl) = if (ah : Int) < bh then -1 else if (bh : Int) < ah then 1 else 0 := by
  unfold cmpN
  repeat' split
  all_goals omega
theorem cmp_lo {ah al bl : Nat} : cmpN (ah * 18446744073709551616 + al) (ah * 18446744073709551616 + bl) = if (al : Int) < bl then -1 else if (bl : Int) < al then 1 else 0 := by
  unfold cmpN
  repeat' split
  all_goals omega

set_option maxRecDepth 100000 in
set_option maxHeartbeats 800000 in
theorem wCmp_any (m n : Nat) (w : World) (hm : m < T128) (hn : n < T128) :
    Calls Try.prog 110 #[WV m, WV n] w fun e w' => e = .returned (.int .i64 (cmpN m n)) ∧ Below w.heap.size w w' := by
  obtain ⟨ah, al, h1, h2, rfl, e1⟩ := wv_ex hm
  obtain ⟨bh, bl, h3, h4, rfl, e2⟩ := wv_ex hn
  rw [e1, e2]
  by_cases he : ah = bh
  · subst he
    rw [cmp_lo]
    have hq : ((ah : Int) != ah) = false := by simp
    have HC := Lib.hid (fun W => cmp64_any al bl W)
    generalize (if (al : Int) < bl then (-1 : Int) else if (bl : Int) < al then 1 else 0) = r at *
    clear hm hn e1 e2
    go_enter Try.func110, Try.ntmps110
    go_wp2_with fail
    refine (HC.out _).mono ?_
    rintro e w1 ⟨rfl, rfl⟩
    go_wp2
    go_ret
    exact ⟨rfl, by (repeat (first | with_reducible exact Below.refl _ _ | ((with_reducible refine Below.setCell ?_ ?_ _); rotate_left; (focus (first | omega | (simp; done) | (simp; omega)))) | ((with_reducible refine Below.alloc ?_ ?_ _); rotate_left; (focus (first | omega | (simp; done) | (simp; omega)))) | (with_reducible refine Below.drew ?_) | (with_reducible refine below_drewN ?_ _)))⟩
  · rw [cmp_hi h2 h4 he]
    have hq : ((ah : Int) != bh) = true := by simp; omega
    have HC := Lib.hid (fun W => cmp64_any ah bh W)
    generalize (if (ah : Int) < bh then (-1 : Int) else if (bh : Int) < ah then 1 else 0) = r at *
    clear hm hn e1 e2
    go_enter Try.func110, Try.ntmps110
    go_wp2_with fail
    refine (HC.out _).mono ?_
    rintro e w1 ⟨rfl, rfl⟩
    go_wp2
    go_ret
    exact ⟨rfl, by (repeat (first | with_reducible exact Below.refl _ _ | ((with_reducible refine Below.setCell ?_ ?_ _); rotate_left; (focus (first | omega | (simp; done) | (simp; omega)))) | ((with_reducible refine Below.alloc ?_ ?_ _); rotate_left; (focus (first | omega | (simp; done) | (simp; omega)))) | (with_reducible refine Below.drew ?_) | (with_reducible refine below_drewN ?_ _)))⟩
end Go.Proofs.Ytoljilbldkbjpaa
