/-
  More plain laws on digits: differences, products, order.
-/
import Derived.Test.YtoljilbldkbjpaaDigs
namespace Go.Proofs.Ytoljilbldkbjpaa
open Go.RowKit

def subL : List Int → List Int → Int → List Int
  | [], _, _ => []
  | a :: xs, ys, c => if a - ys.headD 0 - c < 0 then (a - ys.headD 0 - c + 65536) :: subL xs ys.tail 1 else (a - ys.headD 0 - c) :: subL xs ys.tail 0

theorem bv_head (l : List Int) : bv l = (l.headD 0).toNat + 65536 * bv l.tail := by cases l <;> rfl
theorem dig_head {l : List Int} (h : Dig l) : 0 ≤ l.headD 0 ∧ l.headD 0 ≤ 65535 := by
  cases l with
  | nil => simp
  | cons a l => exact h a (by simp)
theorem dig_tail {l : List Int} (h : Dig l) : Dig l.tail := by
  cases l with
  | nil => exact h
  | cons a l => exact fun d hd => h d (by simp at hd; simp [hd])

theorem subL_spec : ∀ (xs ys : List Int) (c : Int), Dig xs → Dig ys → 0 ≤ c → c ≤ 1 → bv ys + c.toNat ≤ bv xs → Dig (subL xs ys c) ∧ bv (subL xs ys c) + bv ys + c.toNat = bv xs := by
  intro xs
  induction xs with
  | nil =>
    intro ys c _ _ _ _ h
    simp only [bv] at h
    exact ⟨fun d hd => by simp [subL] at hd, by simp only [subL, bv]; omega⟩
  | cons a xs ih =>
    intro ys c hx hy h0 h1 h
    have ha := hx a (by simp)
    have hb := dig_head hy
    rw [bv_head ys] at h ⊢
    simp only [bv] at h ⊢
    simp only [subL]
    split
    · obtain ⟨g1, g2⟩ := ih ys.tail 1 (fun d hd => hx d (by simp [hd])) (dig_tail hy) (by omega) (by omega) (by omega)
      refine ⟨fun d hd => ?_, by simp only [bv]; omega⟩
      rcases List.mem_cons.1 hd with h | h
      · subst h; omega
      · exact g1 d h
    · obtain ⟨g1, g2⟩ := ih ys.tail 0 (fun d hd => hx d (by simp [hd])) (dig_tail hy) (by omega) (by omega) (by omega)
      refine ⟨fun d hd => ?_, by simp only [bv]; omega⟩
      rcases List.mem_cons.1 hd with h | h
      · subst h; omega
      · exact g1 d h

theorem subL_digs {m n : Nat} (h : n ≤ m) : trimL (subL (digs m) (digs n) 0) = digs (m - n) := by
  obtain ⟨h1, h2⟩ := subL_spec (digs m) (digs n) 0 (digs_dig m) (digs_dig n) (by omega) (by omega) (by rw [bv_digs, bv_digs]; simpa using h)
  rw [bv_digs, bv_digs] at h2
  rw [trimL_digs h1, show bv (subL (digs m) (digs n) 0) = m - n by simp at h2; omega]

/-- One digit times a row of digits, with what is carried. -/
def mulL (a : Int) : List Int → Int → List Int
  | [], c => [c]
  | b :: ys, c => (a * b + c) % 65536 :: mulL a ys ((a * b + c) / 65536)

theorem prod_small {a b c : Int} (ha : 0 ≤ a ∧ a ≤ 65535) (hb : 0 ≤ b ∧ b ≤ 65535) (hc : 0 ≤ c ∧ c ≤ 65535) : 0 ≤ a * b ∧ a * b + c ≤ 4294967295 - 65535 := by
  have h1 : 0 ≤ a * b := Int.mul_nonneg ha.1 hb.1
  have h2 : a * b ≤ 65535 * 65535 := Int.mul_le_mul ha.2 hb.2 hb.1 (by omega)
  omega

theorem mulL_spec (a : Int) (ha : 0 ≤ a ∧ a ≤ 65535) : ∀ (ys : List Int) (c : Int), Dig ys → 0 ≤ c ∧ c ≤ 65535 → Dig (mulL a ys c) ∧ bv (mulL a ys c) = a.toNat * bv ys + c.toNat := by
  intro ys
  induction ys with
  | nil => intro c _ hc; exact ⟨fun d hd => by simp [mulL] at hd; omega, by simp [mulL, bv]⟩
  | cons b ys ih =>
    intro c hy hc
    have hb := hy b (by simp)
    have hp := prod_small ha hb hc
    obtain ⟨g1, g2⟩ := ih ((a * b + c) / 65536) (fun d hd => hy d (by simp [hd])) ⟨by omega, by omega⟩
    refine ⟨fun d hd => ?_, ?_⟩
    · rcases List.mem_cons.1 hd with h | h
      · subst h; omega
      · exact g1 d h
    · simp only [bv, mulL, g2]
      have e : (a * b).toNat = a.toNat * b.toNat := Int.toNat_mul ha.1 hb.1
      have e2 : a.toNat * (65536 * bv ys) = 65536 * (a.toNat * bv ys) := Nat.mul_left_comm _ _ _
      rw [Nat.mul_add a.toNat b.toNat, e2, ← e, Nat.mul_add]
      omega

theorem mulL_len (a : Int) : ∀ (ys : List Int) (c : Int), (mulL a ys c).length = ys.length + 1 := by
  intro ys
  induction ys with
  | nil => intro c; rfl
  | cons b ys ih => intro c; simp [mulL, ih]

theorem bv_zeros (i : Nat) (l : List Int) : bv (List.replicate i 0 ++ l) = 65536 ^ i * bv l := by
  induction i with
  | zero => simp
  | succ i ih =>
    rw [List.replicate_succ, List.cons_append, bv, ih, Nat.pow_succ, Nat.mul_assoc, Nat.mul_left_comm]
    simp

theorem bv_lt {l : List Int} (h : Dig l) : bv l < 65536 ^ l.length := by
  induction l with
  | nil => simp [bv]
  | cons d l ih =>
    have h0 := h d (by simp)
    have := ih (fun x hx => h x (by simp [hx]))
    simp only [bv, List.length_cons, Nat.pow_succ]
    omega

theorem bv_snoc (l : List Int) (x : Int) : bv (l ++ [x]) = bv l + 65536 ^ l.length * x.toNat := by rw [bv_append]; simp [bv]

theorem bv_take_succ {l : List Int} {k : Nat} {x : Int} (h : l[k]? = some x) : bv (l.take (k + 1)) = bv (l.take k) + 65536 ^ k * x.toNat := by
  have hk : k < l.length := (List.getElem?_eq_some_iff.1 h).1
  rw [take_snoc' h, bv_snoc, List.length_take, Nat.min_eq_left (by omega)]

theorem dig_take {l : List Int} (h : Dig l) (k : Nat) : Dig (l.take k) := fun d hd => h d (List.mem_of_mem_take hd)

/-- The next row of a product. -/
theorem times_step {la : List Int} {k n : Nat} {x : Int} (hd : Dig la) (hx : la[k]? = some x) :
    digs (bv (la.take k) * n + bv (trimL (List.replicate k 0 ++ mulL x (digs n) 0))) = digs (bv (la.take (k + 1)) * n) ∧ Dig (List.replicate k 0 ++ mulL x (digs n) 0) := by
  have hx0 := hd x (List.mem_of_getElem? hx)
  obtain ⟨g1, g2⟩ := mulL_spec x hx0 (digs n) 0 (digs_dig n) (by omega)
  have gd : Dig (List.replicate k 0 ++ mulL x (digs n) 0) := fun d hd' => by
    rcases List.mem_append.1 hd' with h | h
    · have := (List.mem_replicate.1 h).2; omega
    · exact g1 d h
  refine ⟨?_, gd⟩
  rw [trimL_digs gd, bv_digs, bv_zeros, g2, bv_digs, bv_take_succ hx]
  congr 1
  rw [Nat.add_mul, Nat.mul_assoc]
  simp

theorem digs_lt_pow (n : Nat) : n < 65536 ^ (digs n).length := by
  have := bv_lt (digs_dig n)
  rwa [bv_digs] at this

theorem canon_ge : ∀ {l : List Int}, Canon l → Dig l → l ≠ [] → 65536 ^ (l.length - 1) ≤ bv l := by
  intro l
  induction l with
  | nil => intro _ _ h; exact absurd rfl h
  | cons d l ih =>
    intro hc hd _
    cases l with
    | nil => have : 0 < d := hc; simp [bv]; omega
    | cons e l =>
      have := ih hc (fun x hx => hd x (by simp [hx])) (by simp)
      simp only [List.length_cons, Nat.add_sub_cancel, bv, Nat.pow_succ] at this ⊢
      omega

theorem digs_len_lt {m n : Nat} (h : (digs m).length < (digs n).length) : m < n := by
  have h1 := digs_lt_pow m
  have h2 := canon_ge (canon_digs n) (digs_dig n) (by intro h0; rw [h0] at h; simp at h)
  rw [bv_digs] at h2
  have h3 : 65536 ^ (digs m).length ≤ 65536 ^ ((digs n).length - 1) := Nat.pow_le_pow_right (by omega) (by omega)
  omega

theorem bv_split {l : List Int} {k : Nat} {x : Int} (h : l[k]? = some x) : bv l = bv (l.take k) + 65536 ^ k * (x.toNat + 65536 * bv (l.drop (k + 1))) := by
  have hk : k < l.length := (List.getElem?_eq_some_iff.1 h).1
  have e : l = l.take k ++ (x :: l.drop (k + 1)) := by
    have hxx : l[k]'hk = x := (List.getElem?_eq_some_iff.1 h).2
    rw [← hxx, ← List.drop_eq_getElem_cons hk, List.take_append_drop]
  have := congrArg bv e
  rw [bv_append, List.length_take, Nat.min_eq_left (by omega)] at this
  simpa [bv] using this

theorem bv_lt_of {la lb : List Int} {k : Nat} {x y : Int} (da : Dig la) (db : Dig lb) (hx : la[k]? = some x) (hy : lb[k]? = some y) (hd : la.drop (k + 1) = lb.drop (k + 1)) (h : x < y) : bv la < bv lb := by
  rw [bv_split hx, bv_split hy, hd]
  have hk : k < la.length := (List.getElem?_eq_some_iff.1 hx).1
  have h1 := bv_lt (dig_take da k)
  rw [List.length_take, Nat.min_eq_left (by omega)] at h1
  have hx0 := da x (List.mem_of_getElem? hx)
  have hy0 := db y (List.mem_of_getElem? hy)
  have h2 : 65536 ^ k * (x.toNat + 65536 * bv (lb.drop (k + 1)) + 1) ≤ 65536 ^ k * (y.toNat + 65536 * bv (lb.drop (k + 1))) := Nat.mul_le_mul_left _ (by omega)
  rw [Nat.mul_add _ _ 1] at h2
  omega

def ordI (m n : Nat) : Int := if m < n then -1 else if n < m then 1 else 0

end Go.Proofs.Ytoljilbldkbjpaa
