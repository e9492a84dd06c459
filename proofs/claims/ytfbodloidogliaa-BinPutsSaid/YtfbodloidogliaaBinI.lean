/-
  What a reader of bytes reads (layer 21), in plain Lean.
-/
import Derived.Test.YtfbodloidogliaaBinG
namespace Go.Proofs.Ytfbodloidogliaa

theorem snocInd {α : Type} {P : List α → Prop} (h0 : P []) (h1 : ∀ l x, P l → P (l ++ [x])) : ∀ l, P l := by
  have : ∀ l : List α, P l.reverse := by
    intro l
    induction l with
    | nil => exact h0
    | cons x l ih => rw [List.reverse_cons]; exact h1 _ _ ih
  intro l
  have h := this l.reverse
  rwa [List.reverse_reverse] at h

/-- Bytes as a number. -/
def numB (l : List Int) : Nat := l.foldl (fun n x => n * 256 + x.toNat) 0

def AllB (l : List Int) : Prop := ∀ x ∈ l, 0 ≤ x ∧ x ≤ 255

theorem numB_snoc (l : List Int) (x : Int) : numB (l ++ [x]) = numB l * 256 + x.toNat := by simp [numB]

theorem numB_lt (l : List Int) (h : AllB l) : numB l < 256 ^ l.length := by
  revert h
  refine snocInd (P := fun l => AllB l → numB l < 256 ^ l.length) ?_ ?_ l
  · intro _; simp [numB]
  · intro l x ih h
    have h1 := ih fun y hy => h y (by simp [hy])
    have h2 := h x (by simp)
    rw [numB_snoc, List.length_append, List.length_singleton, Nat.pow_succ]
    omega

theorem down_numB (l : List Int) (h : AllB l) : down (numB l) l.length = l := by
  revert h
  refine snocInd (P := fun l => AllB l → down (numB l) l.length = l) ?_ ?_ l
  · intro _; rfl
  · intro l x ih h
    have h1 := ih fun y hy => h y (by simp [hy])
    have h2 := h x (by simp)
    rw [numB_snoc, List.length_append, List.length_singleton, down_snoc]
    rw [show (numB l * 256 + x.toNat) / 256 = numB l by omega, h1]
    congr 2
    omega

theorem down_byte (n : Nat) : ∀ k, AllB (down n k) := by
  intro k
  induction k with
  | zero => intro x hx; simp [down] at hx
  | succ k ih =>
    intro x hx
    simp only [down, List.mem_cons] at hx
    rcases hx with rfl | hx
    · have := Nat.mod_lt (n / 256 ^ k) (show 0 < 256 by omega)
      generalize n / 256 ^ k % 256 = z at *
      omega
    · exact ih x hx

theorem numB_down : ∀ (k n : Nat), n < 256 ^ k → numB (down n k) = n := by
  intro k
  induction k with
  | zero => intro n h; have : n = 0 := by simpa using h
            subst this; rfl
  | succ k ih =>
    intro n h
    rw [down_snoc, numB_snoc, ih (n / 256) (by rw [Nat.pow_succ] at h; exact Nat.div_lt_of_lt_mul (by rw [Nat.mul_comm]; exact h))]
    omega

theorem numB_up {n : Nat} (h : n < 18446744073709551616) : numB (up n) = n := by
  rw [up_down]
  exact numB_down _ n (up_bound 8 n (by show _ < 18446744073709551616; exact h) h).1

/-- Bytes are as few as may be just if the first one is not 0. -/
theorem up_numB {l : List Int} (h : AllB l) (hl : l.length ≤ 8) (h0 : 0 < l.length) : (up (numB l)).length = l.length ↔ l[0]? ≠ some 0 := by
  have hlt : numB l < 18446744073709551616 := Nat.lt_of_lt_of_le (numB_lt l h) (Nat.le_trans (Nat.pow_le_pow_right (by omega) hl) (by decide))
  obtain ⟨x, l', rfl⟩ : ∃ x l', l = x :: l' := by cases l with
    | nil => simp at h0
    | cons x l' => exact ⟨x, l', rfl⟩
  have hx := h x (by simp)
  have hb : numB (x :: l') = x.toNat * 256 ^ l'.length + numB l' := by
    clear hlt hx h hl h0
    refine snocInd (P := fun l' => numB (x :: l') = x.toNat * 256 ^ l'.length + numB l') ?_ ?_ l'
    · simp [numB]
    · intro l y ih
      rw [← List.cons_append, numB_snoc, ih, numB_snoc, List.length_append, List.length_singleton, Nat.pow_succ, Nat.add_mul, Nat.mul_assoc, Nat.add_assoc]
  have hl' := numB_lt l' fun y hy => h y (by simp [hy])
  obtain ⟨g1, g2⟩ := up_bound 8 (numB (x :: l')) (by show _ < 18446744073709551616; exact hlt) hlt
  constructor
  · intro he hc
    have hx0 : x = 0 := by simpa using hc
    rw [hx0] at hb he g2
    rcases Nat.eq_zero_or_pos (numB (0 :: l')) with hz | hz
    · rw [hz, up_zero] at he; simp at he
    · obtain ⟨_, g3⟩ := g2 hz
      rw [he, List.length_cons, Nat.add_sub_cancel] at g3
      simp at hb
      omega
  · intro hc
    have hx0 : 0 < x.toNat := by
      have : x ≠ 0 := fun e => hc (by simp [e])
      omega
    have hge : 256 ^ l'.length ≤ numB (x :: l') := by
      rw [hb]; exact Nat.le_trans (Nat.le_mul_of_pos_left _ hx0) (Nat.le_add_right _ _)
    have hup := numB_lt (x :: l') h
    obtain ⟨g3, g4⟩ := g2 (Nat.lt_of_lt_of_le (Nat.pow_pos (by omega)) hge)
    generalize (up (numB (x :: l'))).length = k at *
    obtain ⟨k, rfl⟩ : ∃ j, k = j + 1 := ⟨k - 1, by omega⟩
    rw [Nat.add_sub_cancel] at g4
    have a1 : l'.length < k + 1 := (Nat.pow_lt_pow_iff_right (a := 256) (by omega)).1 (Nat.lt_of_le_of_lt hge g1)
    have a2 : k < (x :: l').length := (Nat.pow_lt_pow_iff_right (a := 256) (by omega)).1 (Nat.lt_of_le_of_lt g4 hup)
    simp at a2 ⊢
    omega

/-- A number is read: it, the place behind it, how it failed. -/
def rdU (l : List Int) (a : Nat) : Nat × Nat × Int :=
  match l[a]? with
  | none => (0, a, 210)
  | some f => if f < 240 then (f.toNat, a + 1, 0) else if 247 < f then (0, a, 211)
    else if l.length < a + 1 + (f - 239).toNat then (0, a, 210)
    else if (putsU (numB ((l.drop (a + 1)).take (f - 239).toNat))).length = (f - 239).toNat + 1 then (numB ((l.drop (a + 1)).take (f - 239).toNat), a + 1 + (f - 239).toNat, 0) else (0, a, 211)

theorem rdU_bad (l : List Int) (a : Nat) (h : (rdU l a).2.2 ≠ 0) : (rdU l a).1 = 0 ∧ (rdU l a).2.1 = a := by
  unfold rdU at h ⊢
  split
  · exact ⟨rfl, rfl⟩
  · rename_i f hf
    rw [hf] at h
    simp only at h
    repeat' split at h
    all_goals first | (exfalso; exact h rfl) | (repeat' split) <;> first | exact ⟨rfl, rfl⟩ | omega

/-- A number that was put is read. -/
theorem rdU_puts (pre rest : List Int) (n : Nat) (h : n < 18446744073709551616) : rdU (pre ++ (putsU n ++ rest)) pre.length = (n, pre.length + (putsU n).length, 0) := by
  by_cases hs : n < 240
  · have hp : putsU n = [(n : Int)] := if_pos hs
    rw [hp]
    unfold rdU
    rw [List.getElem?_append_right (Nat.le_refl _), Nat.sub_self]
    simp only [List.cons_append, List.nil_append, List.getElem?_cons_zero]
    rw [if_pos (by omega)]
    simp
  · have hp : putsU n = (239 + ((up n).length : Int)) :: up n := if_neg hs
    obtain ⟨g1, g2⟩ := up_bound 8 n (by show _ < 18446744073709551616; exact h) h
    have g3 := (g2 (by omega)).1
    have g4 := upF_length 8 n
    have g5 : (up n).length ≤ 8 := g4
    have e0 : (pre ++ (putsU n ++ rest))[pre.length]? = some (239 + ((up n).length : Int)) := by
      rw [List.getElem?_append_right (Nat.le_refl _), Nat.sub_self, hp]; rfl
    have e1 : (239 + ((up n).length : Int) - 239).toNat = (up n).length := by omega
    have e2 : ((pre ++ (putsU n ++ rest)).drop (pre.length + 1)).take (up n).length = up n := by
      rw [← List.drop_drop, List.drop_left, hp]
      simp
    have e3 : (putsU n).length = (up n).length + 1 := by rw [hp]; rfl
    unfold rdU
    rw [e0]
    simp only
    rw [if_neg (by omega), if_neg (by omega), e1, if_neg (by simp [e3]; omega), e2, numB_up h, if_pos e3, e3]
    simp; omega

/-- What is read was put so. -/
theorem rdU_ok (l : List Int) (hb : AllB l) (a : Nat) (h : (rdU l a).2.2 = 0) :
    a < (rdU l a).2.1 ∧ (rdU l a).2.1 ≤ l.length ∧ (rdU l a).1 < 18446744073709551616 ∧ putsU (rdU l a).1 = (l.drop a).take ((rdU l a).2.1 - a) := by
  cases hf : l[a]? with
  | none => unfold rdU at h; rw [hf] at h; simp at h
  | some f =>
    have hfb := hb f (List.mem_of_getElem? hf)
    have hal : a < l.length := (List.getElem?_eq_some_iff.1 hf).1
    have hd : l.drop a = f :: l.drop (a + 1) := by
      rw [List.drop_eq_getElem_cons hal]
      congr 1
      rw [List.getElem?_eq_getElem hal] at hf
      exact Option.some.inj hf
    unfold rdU at h ⊢
    rw [hf] at h ⊢
    simp only at h ⊢
    by_cases h1 : f < 240
    · simp only [if_pos h1]
      refine ⟨by omega, by omega, by omega, ?_⟩
      rw [putsU, if_pos (by omega), hd, show a + 1 - a = 1 by omega]
      simp; omega
    · rw [if_neg h1] at h ⊢
      by_cases h2 : 247 < f
      · rw [if_pos h2] at h; simp at h
      · rw [if_neg h2] at h ⊢
        by_cases h3 : l.length < a + 1 + (f - 239).toNat
        · rw [if_pos h3] at h; simp at h
        · rw [if_neg h3] at h ⊢
          by_cases h4 : (putsU (numB ((l.drop (a + 1)).take (f - 239).toNat))).length = (f - 239).toNat + 1
          · simp only [if_pos h4]
            have hdl : ((l.drop (a + 1)).take (f - 239).toNat).length = (f - 239).toNat := by simp; omega
            have hdb : AllB ((l.drop (a + 1)).take (f - 239).toNat) := fun x hx => hb x (List.mem_of_mem_drop (List.mem_of_mem_take hx))
            have hlt := numB_lt _ hdb
            have hdn := down_numB _ hdb
            rw [hdl] at hlt hdn
            refine ⟨by omega, by omega, Nat.lt_of_lt_of_le hlt (Nat.le_trans (Nat.pow_le_pow_right (by omega) (show (f - 239).toNat ≤ 8 by omega)) (by decide)), ?_⟩
            have hbig : ¬ numB ((l.drop (a + 1)).take (f - 239).toNat) < 240 := by
              intro hc
              rw [putsU, if_pos hc] at h4
              simp at h4
              omega
            rw [putsU, if_neg hbig] at h4 ⊢
            have h5 : (up (numB ((l.drop (a + 1)).take (f - 239).toNat))).length = (f - 239).toNat := by simpa using h4
            rw [up_down, h5, hdn, hd, show a + 1 + (f - 239).toNat - a = (f - 239).toNat + 1 by omega, List.take_succ_cons]
            congr 1
            rw [hdl]
            omega
          · rw [if_neg h4] at h; simp at h

/-- The program's own test: as few bytes as may be. -/
theorem rdU_test {l : List Int} (hb : AllB l) (h : 0 < l.length) (hl : l.length ≤ 8) : (putsU (numB l)).length = l.length + 1 ↔ ¬ (l[0]? = some 0 ∨ numB l < 240) := by
  by_cases hc : numB l < 240
  · rw [putsU, if_pos hc]
    constructor
    · intro h1; have h2 : 1 = l.length + 1 := h1; omega
    · intro h1; exact absurd (.inr hc) h1
  · rw [putsU, if_neg hc, List.length_cons]
    have := up_numB hb hl h
    simp only [Nat.add_right_cancel_iff, hc, or_false]
    exact this

def unzig (n : Nat) : Int := if n % 2 = 1 then -((n / 2 : Nat) : Int) - 1 else ((n / 2 : Nat) : Int)
theorem unzig_zig (i : Int) : unzig (zig i) = i := by
  unfold zig unzig
  by_cases h : i < 0
  · rw [if_pos h, if_pos (by omega)]; omega
  · rw [if_neg h, if_neg (by omega)]; omega
theorem zig_unzig (n : Nat) : zig (unzig n) = n := by
  unfold zig unzig
  by_cases h : n % 2 = 1
  · rw [if_pos h, if_pos (by omega)]; omega
  · rw [if_neg h, if_neg (by omega)]; omega

/-- A number up to another one is read. -/
def rdN (l : List Int) (a : Nat) (most : Int) : Nat × Nat × Int :=
  if (rdU l a).2.2 ≠ 0 then (0, a, (rdU l a).2.2) else if most < 0 ∨ most < ((rdU l a).1 : Int) then (0, a, 211) else rdU l a
/-- A number with a sign is read. -/
def rdI (l : List Int) (a : Nat) : Int × Nat × Int := (unzig (rdU l a).1, (rdU l a).2.1, (rdU l a).2.2)
/-- A text is read. -/
def rdText (l : List Int) (a : Nat) (most : Int) : List Int × Nat × Int :=
  if (rdN l a most).2.2 ≠ 0 then ([], a, (rdN l a most).2.2) else if l.length < (rdN l a most).2.1 + (rdN l a most).1 then ([], a, 210)
  else ((l.drop (rdN l a most).2.1).take (rdN l a most).1, (rdN l a most).2.1 + (rdN l a most).1, 0)
/-- So many numbers with a sign are read; a0: the place where a reader that fails stands. -/
def rdIs (l : List Int) (a0 : Nat) : Nat → Nat → List Int → List Int × Nat × Int
  | 0, a, acc => (acc, a, 0)
  | n + 1, a, acc => if (rdI l a).2.2 ≠ 0 then ([], a0, (rdI l a).2.2) else rdIs l a0 n (rdI l a).2.1 (acc ++ [(rdI l a).1])
/-- A list is read. -/
def rdInts (l : List Int) (a : Nat) (most : Int) : List Int × Nat × Int :=
  if (rdN l a most).2.2 ≠ 0 then ([], a, (rdN l a most).2.2) else rdIs l a (rdN l a most).1 (rdN l a most).2.1 []

end Go.Proofs.Ytfbodloidogliaa
