/-
  Plain laws on digits of base 65536.
-/
import Derived.Test.YtoljilbldkbjpaaKit
namespace Go.Proofs.Ytoljilbldkbjpaa
open Go.RowKit

def digsF : Nat → Nat → List Int
  | 0, _ => []
  | f + 1, n => if n = 0 then [] else ((n % 65536 : Nat) : Int) :: digsF f (n / 65536)
def digs (n : Nat) : List Int := digsF n n

theorem digsF_eq : ∀ (f g n : Nat), n ≤ f → n ≤ g → digsF f n = digsF g n := by
  intro f
  induction f with
  | zero => intro g n h _; have : n = 0 := by omega
            subst this; cases g <;> simp [digsF]
  | succ f ih =>
    intro g n h h'
    cases g with
    | zero => have : n = 0 := by omega
              subst this; simp [digsF]
    | succ g =>
      simp only [digsF]
      split
      · rfl
      · rw [ih g (n / 65536) (by omega) (by omega)]

theorem digs_zero : digs 0 = [] := rfl
theorem digs_pos {n : Nat} (h : 0 < n) : digs n = ((n % 65536 : Nat) : Int) :: digs (n / 65536) := by
  obtain ⟨f, rfl⟩ : ∃ f, n = f + 1 := ⟨n - 1, by omega⟩
  show digsF (f + 1) (f + 1) = _
  simp only [digsF]
  rw [if_neg (by omega)]
  unfold digs
  rw [digsF_eq f ((f + 1) / 65536) _ (by omega) (Nat.le_refl _)]

/-- The number of some digits. -/
def bv : List Int → Nat
  | [] => 0
  | d :: l => d.toNat + 65536 * bv l

def Dig (l : List Int) : Prop := ∀ d ∈ l, 0 ≤ d ∧ d ≤ 65535

theorem digs_dig (n : Nat) : Dig (digs n) := by
  induction n using Nat.strongRecOn with
  | _ n ih =>
    rcases Nat.eq_zero_or_pos n with h | h
    · subst h; intro d hd; simp [digs_zero] at hd
    · rw [digs_pos h]
      intro d hd
      rcases List.mem_cons.1 hd with h1 | h1
      · subst h1; omega
      · exact ih _ (by omega) d h1

theorem bv_digs (n : Nat) : bv (digs n) = n := by
  induction n using Nat.strongRecOn with
  | _ n ih =>
    rcases Nat.eq_zero_or_pos n with h | h
    · subst h; rfl
    · rw [digs_pos h]
      simp only [bv, ih (n / 65536) (by omega)]
      omega

/-- Digits with nothing at the top. -/
def Canon : List Int → Prop
  | [] => True
  | [d] => 0 < d
  | _ :: l => Canon l

theorem canon_cons {d : Int} {l : List Int} (h : l ≠ []) (hc : Canon l) : Canon (d :: l) := by
  cases l with
  | nil => exact absurd rfl h
  | cons e l => exact hc

theorem canon_digs (n : Nat) : Canon (digs n) := by
  induction n using Nat.strongRecOn with
  | _ n ih =>
    rcases Nat.eq_zero_or_pos n with h | h
    · subst h; trivial
    · rw [digs_pos h]
      rcases Nat.eq_zero_or_pos (n / 65536) with h1 | h1
      · rw [h1, digs_zero]; show 0 < _; omega
      · exact canon_cons (by rw [digs_pos h1]; simp) (ih _ (by omega))

theorem canon_pos {l : List Int} (h : Canon l) (hd : Dig l) (hne : l ≠ []) : 0 < bv l := by
  induction l with
  | nil => exact absurd rfl hne
  | cons d l ih =>
    have hd0 := hd d (by simp)
    cases l with
    | nil => simp only [bv]; have : 0 < d := h; omega
    | cons e l =>
      have := ih h (fun x hx => hd x (by simp [hx])) (by simp)
      simp only [bv] at this ⊢; omega

theorem digs_of_canon {l : List Int} (h : Canon l) (hd : Dig l) : l = digs (bv l) := by
  induction l with
  | nil => rfl
  | cons d l ih =>
    have hd0 := hd d (by simp)
    have hdl : Dig l := fun x hx => hd x (by simp [hx])
    have hp := canon_pos h hd (by simp)
    have hcl : Canon l := by cases l with
      | nil => trivial
      | cons e l => exact h
    rw [digs_pos hp]
    simp only [bv]
    have e1 : (d.toNat + 65536 * bv l) % 65536 = d.toNat := by omega
    have e2 : (d.toNat + 65536 * bv l) / 65536 = bv l := by omega
    rw [e1, e2, ← ih hcl hdl]
    congr 1
    omega

def trimL (l : List Int) : List Int := (l.reverse.dropWhile (· == 0)).reverse

theorem trimL_snoc_zero (l : List Int) : trimL (l ++ [0]) = trimL l := by simp [trimL]
theorem trimL_snoc_pos (l : List Int) {d : Int} (h : d ≠ 0) : trimL (l ++ [d]) = l ++ [d] := by simp [trimL, h]

theorem bv_append (l m : List Int) : bv (l ++ m) = bv l + 65536 ^ l.length * bv m := by
  induction l with
  | nil => simp [bv]
  | cons d l ih => simp only [List.cons_append, bv, ih, List.length_cons, Nat.pow_succ]; rw [Nat.mul_add, ← Nat.mul_assoc, Nat.mul_comm 65536 (65536 ^ l.length), Nat.add_assoc]

theorem snoc_cases (l : List Int) : l = [] ∨ ∃ m d, l = m ++ [d] := by
  rcases List.eq_nil_or_concat l with h | ⟨m, d, h⟩
  · exact .inl h
  · exact .inr ⟨m, d, by simpa using h⟩

theorem canon_snoc (l : List Int) {d : Int} (h : 0 < d) : Canon (l ++ [d]) := by
  induction l with
  | nil => exact h
  | cons e l ih => exact canon_cons (by simp) ih

theorem trimL_spec : ∀ (n : Nat) (l : List Int), l.length = n → Dig l → Canon (trimL l) ∧ Dig (trimL l) ∧ bv (trimL l) = bv l := by
  intro n
  induction n with
  | zero => intro l h _; have : l = [] := List.eq_nil_of_length_eq_zero h
            subst this; exact ⟨trivial, fun d hd => by simp [trimL] at hd, rfl⟩
  | succ n ih =>
    intro l h hd
    rcases snoc_cases l with rfl | ⟨m, d, rfl⟩
    · simp at h
    · by_cases h0 : d = 0
      · subst h0
        rw [trimL_snoc_zero]
        obtain ⟨h1, h2, h3⟩ := ih m (by simpa using h) (fun x hx => hd x (by simp [hx]))
        exact ⟨h1, h2, by rw [h3, bv_append]; simp [bv]⟩
      · rw [trimL_snoc_pos m h0]
        have := hd d (by simp)
        exact ⟨canon_snoc m (by omega), hd, rfl⟩

theorem trimL_digs {l : List Int} (hd : Dig l) : trimL l = digs (bv l) := by
  obtain ⟨h1, h2, h3⟩ := trimL_spec l.length l rfl hd
  rw [digs_of_canon h1 h2, h3]

/-- Two rows of digits together, with what is carried. -/
def addL : List Int → List Int → Int → List Int
  | [], [], c => if 0 < c then [c % 65536] else []
  | a :: xs, [], c => (a + c) % 65536 :: addL xs [] ((a + c) / 65536)
  | [], b :: ys, c => (b + c) % 65536 :: addL [] ys ((b + c) / 65536)
  | a :: xs, b :: ys, c => (a + b + c) % 65536 :: addL xs ys ((a + b + c) / 65536)

theorem addL_dig (xs ys : List Int) (c : Int) (ha : Dig xs) (hb : Dig ys) (hc : 0 ≤ c ∧ c ≤ 1) : Dig (addL xs ys c) ∧ bv (addL xs ys c) = bv xs + bv ys + c.toNat := by
  fun_induction addL xs ys c with
  | case1 c h => exact ⟨fun d hd => by simp at hd; subst hd; omega, by simp [bv]; omega⟩
  | case2 c h => exact ⟨fun d hd => by simp at hd, by simp [bv]; omega⟩
  | case3 a xs c ih =>
    have h0 := ha a (by simp)
    obtain ⟨h1, h2⟩ := ih (fun d hd => ha d (by simp [hd])) hb ⟨by omega, by omega⟩
    refine ⟨fun d hd => ?_, by simp only [bv, h2]; omega⟩
    rcases List.mem_cons.1 hd with h | h
    · subst h; omega
    · exact h1 d h
  | case4 b ys c ih =>
    have h0 := hb b (by simp)
    obtain ⟨h1, h2⟩ := ih ha (fun d hd => hb d (by simp [hd])) ⟨by omega, by omega⟩
    refine ⟨fun d hd => ?_, by simp only [bv, h2]; omega⟩
    rcases List.mem_cons.1 hd with h | h
    · subst h; omega
    · exact h1 d h
  | case5 a xs b ys c ih =>
    have h0 := ha a (by simp)
    have h0' := hb b (by simp)
    obtain ⟨h1, h2⟩ := ih (fun d hd => ha d (by simp [hd])) (fun d hd => hb d (by simp [hd])) ⟨by omega, by omega⟩
    refine ⟨fun d hd => ?_, by simp only [bv, h2]; omega⟩
    rcases List.mem_cons.1 hd with h | h
    · subst h; omega
    · exact h1 d h

theorem addL_digs (m n : Nat) : trimL (addL (digs m) (digs n) 0) = digs (m + n) := by
  obtain ⟨h1, h2⟩ := addL_dig (digs m) (digs n) 0 (digs_dig m) (digs_dig n) (by omega)
  rw [trimL_digs h1, h2, bv_digs, bv_digs]; rfl
end Go.Proofs.Ytoljilbldkbjpaa
