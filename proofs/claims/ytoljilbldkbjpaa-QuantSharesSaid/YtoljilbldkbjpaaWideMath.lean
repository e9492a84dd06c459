/-
  Numbers of 128 bits, in plain Lean.
-/
import Derived.Test.YtoljilbldkbjpaaKit
namespace Go.Proofs.Ytoljilbldkbjpaa

def T128 : Nat := 340282366920938463463374607431768211456

/-- A number of 128 bits, as Go holds it. -/
def WV (n : Nat) : Value := .agg #[.int .u64 ((n / 18446744073709551616 : Nat) : Int), .int .u64 ((n % 18446744073709551616 : Nat) : Int)]

theorem wv_of {n : Nat} (h l : Nat) (hl : l < 18446744073709551616) (e : n = h * 18446744073709551616 + l) : WV n = .agg #[.int .u64 (h : Int), .int .u64 (l : Int)] := by
  subst e
  unfold WV
  rw [show (h * 18446744073709551616 + l) / 18446744073709551616 = h by omega, show (h * 18446744073709551616 + l) % 18446744073709551616 = l by omega]

theorem wv_ex {n : Nat} (hn : n < T128) : ∃ h l : Nat, (h : Int) ≤ 18446744073709551615 ∧ (l : Int) ≤ 18446744073709551615 ∧ n = h * 18446744073709551616 + l ∧ WV n = .agg #[.int .u64 (h : Int), .int .u64 (l : Int)] := by
  unfold T128 at hn
  refine ⟨n / 18446744073709551616, n % 18446744073709551616, by omega, by omega, by omega, rfl⟩

def addV (m n : Nat) : Nat := if m + n < T128 then m + n else 0
def addE (m n : Nat) : Int := if m + n < T128 then 0 else 10
def subV (m n : Nat) : Nat := if n ≤ m then m - n else 0
def subE (m n : Nat) : Int := if n ≤ m then 0 else 10
/-- How two numbers lie. -/
def cmpN (m n : Nat) : Int := if m < n then -1 else if n < m then 1 else 0

theorem wide_add {ah al bh bl : Nat} (h1 : (ah : Int) ≤ 18446744073709551615) (h2 : (al : Int) ≤ 18446744073709551615) (h3 : (bh : Int) ≤ 18446744073709551615) (h4 : (bl : Int) ≤ 18446744073709551615)
    {s0 c0 s1 c1 : Int} (e1 : ((al : Int) + bl + 0) % 18446744073709551616 = s0) (e2 : ((al : Int) + bl + 0) / 18446744073709551616 = c0) (e3 : ((ah : Int) + bh + c0) % 18446744073709551616 = s1) (e4 : ((ah : Int) + bh + c0) / 18446744073709551616 = c1) :
    (c1 = 0 → WV (addV (ah * 18446744073709551616 + al) (bh * 18446744073709551616 + bl)) = .agg #[.int .u64 s1, .int .u64 s0] ∧ addE (ah * 18446744073709551616 + al) (bh * 18446744073709551616 + bl) = 0) ∧
    (0 < c1 → addV (ah * 18446744073709551616 + al) (bh * 18446744073709551616 + bl) = 0 ∧ addE (ah * 18446744073709551616 + al) (bh * 18446744073709551616 + bl) = 10) := by
  unfold addV addE T128
  constructor
  · intro hc
    rw [if_pos (by omega), if_pos (by omega)]
    refine ⟨?_, rfl⟩
    rw [wv_of s1.toNat s0.toNat (by omega) (by omega), Int.toNat_of_nonneg (by omega), Int.toNat_of_nonneg (by omega)]
  · intro hc
    rw [if_neg (by omega), if_neg (by omega)]
    exact ⟨rfl, rfl⟩

theorem wide_sub {ah al bh bl : Nat} (h1 : (ah : Int) ≤ 18446744073709551615) (h2 : (al : Int) ≤ 18446744073709551615) (h3 : (bh : Int) ≤ 18446744073709551615) (h4 : (bl : Int) ≤ 18446744073709551615)
    {s0 c0 s1 c1 : Int} (e1 : ((al : Int) + 18446744073709551616 - bl - 0) % 18446744073709551616 = s0) (e2 : (if (al : Int) < bl + 0 then (1 : Int) else 0) = c0) (e3 : ((ah : Int) + 18446744073709551616 - bh - c0) % 18446744073709551616 = s1) (e4 : (if (ah : Int) < bh + c0 then (1 : Int) else 0) = c1) :
    (c1 = 0 → WV (subV (ah * 18446744073709551616 + al) (bh * 18446744073709551616 + bl)) = .agg #[.int .u64 s1, .int .u64 s0] ∧ subE (ah * 18446744073709551616 + al) (bh * 18446744073709551616 + bl) = 0) ∧
    (0 < c1 → subV (ah * 18446744073709551616 + al) (bh * 18446744073709551616 + bl) = 0 ∧ subE (ah * 18446744073709551616 + al) (bh * 18446744073709551616 + bl) = 10) := by
  unfold subV subE
  constructor
  · intro hc
    have hle : bh * 18446744073709551616 + bl ≤ ah * 18446744073709551616 + al := by split at e2 <;> split at e4 <;> omega
    rw [if_pos hle, if_pos hle]
    refine ⟨?_, rfl⟩
    rw [wv_of s1.toNat s0.toNat (by omega) (by split at e2 <;> split at e4 <;> omega), Int.toNat_of_nonneg (by omega), Int.toNat_of_nonneg (by omega)]
  · intro hc
    have hle : ¬ bh * 18446744073709551616 + bl ≤ ah * 18446744073709551616 + al := by split at e2 <;> split at e4 <;> omega
    rw [if_neg hle, if_neg hle]
    exact ⟨rfl, rfl⟩
end Go.Proofs.Ytoljilbldkbjpaa
