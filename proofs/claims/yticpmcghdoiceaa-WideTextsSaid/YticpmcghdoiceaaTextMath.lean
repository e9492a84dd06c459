/-
  Plain laws of the texts of wide numbers.
-/
import Derived.Test.YticpmcghdoiceaaWideF
namespace Go.Proofs.Yticpmcghdoiceaa

/-- The number that a list of digits says. -/
def valN (l : List Int) : Nat := l.foldl (fun m c => m * 10 + (c - 48).toNat) 0

theorem valN_snoc (l : List Int) (c : Int) : valN (l ++ [c]) = valN l * 10 + (c - 48).toNat := by simp [valN]

theorem valN_take {l : List Int} {k : Nat} {x : Int} (h : l[k]? = some x) : valN (l.take (k + 1)) = valN (l.take k) * 10 + (x - 48).toNat := by
  rw [List.take_add_one, h]
  exact valN_snoc _ _

theorem fold_ge (l : List Int) : ∀ m : Nat, m ≤ l.foldl (fun m c => m * 10 + (c - 48).toNat) m := by
  induction l with
  | nil => intro m; exact Nat.le_refl _
  | cons c l ih => intro m; exact Nat.le_trans (show m ≤ m * 10 + (c - 48).toNat by omega) (ih _)

theorem decN_fold (l : List Int) : ∀ m : Nat, m < T128 → decN m l = if l.foldl (fun m c => m * 10 + (c - 48).toNat) m < T128 then some (l.foldl (fun m c => m * 10 + (c - 48).toNat) m) else none := by
  induction l with
  | nil => intro m hm; rw [decN, List.foldl_nil, if_pos hm]
  | cons c l ih =>
    intro m hm
    rw [decN, List.foldl_cons]
    split
    · rename_i h
      exact ih _ h
    · rename_i h
      have := fold_ge l (m * 10 + (c - 48).toNat)
      rw [if_neg (by omega)]

theorem decN_val (l : List Int) : decN 0 l = if valN l < T128 then some (valN l) else none := decN_fold l 0 (by decide)

theorem fold_big (l : List Int) : ∀ m : Nat, m * 10 ^ l.length ≤ l.foldl (fun m c => m * 10 + (c - 48).toNat) m := by
  induction l with
  | nil => intro m; simp
  | cons c l ih =>
    intro m
    rw [List.foldl_cons, List.length_cons, Nat.pow_succ]
    refine Nat.le_trans ?_ (ih _)
    rw [Nat.mul_comm (10 ^ l.length) 10, ← Nat.mul_assoc]
    exact Nat.mul_le_mul_right _ (by omega)

theorem valN_lt (l : List Int) (h : ∀ x ∈ l, 48 ≤ x ∧ x ≤ 57) : valN l < 10 ^ l.length := by
  have key : ∀ (l : List Int) (m : Nat), (∀ x ∈ l, 48 ≤ x ∧ x ≤ 57) → l.foldl (fun m c => m * 10 + (c - 48).toNat) m < (m + 1) * 10 ^ l.length := by
    intro l
    induction l with
    | nil => intro m _; simp
    | cons c l ih =>
      intro m h
      rw [List.foldl_cons, List.length_cons, Nat.pow_succ]
      have h1 := ih (m * 10 + (c - 48).toNat) fun x hx => h x (by simp [hx])
      have h2 := h c (by simp)
      refine Nat.lt_of_lt_of_le h1 ?_
      rw [Nat.mul_comm (10 ^ l.length) 10, ← Nat.mul_assoc]
      exact Nat.mul_le_mul_right _ (by omega)
  have := key l 0 h
  simpa [valN] using this

/-- More than 39 digits, the first of which is none: too much. -/
theorem long_over {l : List Int} (hl : 39 < l.length) (hd : ∀ x ∈ l, 48 ≤ x ∧ x ≤ 57) (h0 : ¬ l[0]? = some 48) : T128 ≤ valN l := by
  match l, hl with
  | c :: l, hl =>
    have h1 := hd c (by simp)
    have h2 : c ≠ 48 := fun h => h0 (by simp [h])
    have h3 : valN (c :: l) = l.foldl (fun m c => m * 10 + (c - 48).toNat) (0 * 10 + (c - 48).toNat) := rfl
    rw [h3]
    refine Nat.le_trans ?_ (fold_big l _)
    have h4 : 39 ≤ l.length := by simp at hl; omega
    have h5 : 10 ^ 39 ≤ 10 ^ l.length := Nat.pow_le_pow_right (by omega) h4
    have h6 : 1 * 10 ^ 39 ≤ (0 * 10 + (c - 48).toNat) * 10 ^ l.length := Nat.mul_le_mul (by omega) h5
    refine Nat.le_trans ?_ h6
    decide

theorem wordL_pos {f n : Nat} (h : 0 < n) : wordL (f + 1) n 0 = (48 + ((n % 10 : Nat) : Int)) :: wordL f (n / 10) 0 := by
  rw [wordL, if_neg (by omega)]

theorem wordL_one {f n : Nat} (h : 0 < n) : wordL (f + 1) n 1 = wordL (f + 1) n 0 := by
  rw [wordL, wordL, if_neg (by omega), if_neg (by omega)]

/-- Enough fuel is as good as more. -/
theorem wordL_fuel : ∀ (f g n : Nat), n < 10 ^ f → n < 10 ^ g → wordL f n 0 = wordL g n 0 := by
  intro f
  induction f with
  | zero => intro g n h _; have : n = 0 := by simpa using h
            subst this; rw [wordL_zero, wordL_zero]
  | succ f ih =>
    intro g n h1 h2
    rcases Nat.eq_zero_or_pos n with rfl | hn
    · rw [wordL_zero, wordL_zero]
    · cases g with
      | zero => have : n = 0 := by simpa using h2
                omega
      | succ g =>
        rw [wordL_pos hn, wordL_pos hn, ih g (n / 10) (by rw [Nat.pow_succ] at h1; omega) (by rw [Nat.pow_succ] at h2; omega)]

/-- So many digits, the least first. -/
def fixD : Nat → Nat → List Int
  | 0, _ => []
  | k + 1, n => (48 + ((n % 10 : Nat) : Int)) :: fixD k (n / 10)

theorem wordL_pad : ∀ (k f n : Nat), n < 10 ^ k → wordL (f + k) n k = fixD k n := by
  intro k
  induction k with
  | zero => intro f n h; have : n = 0 := by simpa using h
            subst this; exact wordL_zero _
  | succ k ih =>
    intro f n h
    rw [← Nat.add_assoc, wordL, if_neg (by omega), fixD, Nat.add_sub_cancel, ih f (n / 10) (by rw [Nat.pow_succ] at h; omega)]

theorem wordL_part : ∀ (k f n : Nat), 10 ^ k ≤ n → wordL (f + k) n 0 = fixD k n ++ wordL f (n / 10 ^ k) 0 := by
  intro k
  induction k with
  | zero => intro f n _; simp [fixD]
  | succ k ih =>
    intro f n h
    rw [Nat.pow_succ] at h
    have hp : 0 < 10 ^ k := Nat.pow_pos (by omega)
    rw [← Nat.add_assoc, wordL_pos (by omega), fixD, ih f (n / 10) (by omega), List.cons_append, Nat.pow_succ, Nat.mul_comm, Nat.div_div_eq_div_mul]

theorem fixD_mod : ∀ (k n : Nat), fixD k (n % 10 ^ k) = fixD k n := by
  intro k
  induction k with
  | zero => intro n; rfl
  | succ k ih =>
    intro n
    rw [fixD, fixD]
    have h1 : n % 10 ^ (k + 1) % 10 = n % 10 := Nat.mod_mod_of_dvd _ ⟨10 ^ k, by rw [Nat.pow_succ, Nat.mul_comm]⟩
    have h2 : n % 10 ^ (k + 1) / 10 = n / 10 % 10 ^ k := by rw [Nat.pow_succ, Nat.mul_comm, Nat.mod_mul_right_div_self]
    rw [h1, h2, ih]

/-- The text of a number: its digits, nineteen at a time or one by one. -/
theorem textF_word : ∀ (f n : Nat), 0 < n → n < 10 ^ (19 * f + 20) → textF f n = (wordL (19 * f + 20) n 0).reverse := by
  intro f
  induction f with
  | zero => intro n h _; rw [textF, wordL_one h]
  | succ f ih =>
    intro n h hb
    rw [textF]
    split
    · rename_i hs
      rw [wordL_one h]
      refine congrArg List.reverse (wordL_fuel _ _ n ?_ hb)
      exact Nat.lt_of_lt_of_le hs (by decide)
    · rename_i hs
      have e : 19 * (f + 1) + 20 = (19 * f + 20) + 19 := by omega
      rw [e] at hb ⊢
      rw [wordL_part 19 (19 * f + 20) n (by rw [show (10 : Nat) ^ 19 = 10000000000000000000 by decide]; omega), List.reverse_append]
      rw [show (10 : Nat) ^ 19 = 10000000000000000000 by decide]
      rw [ih (n / 10000000000000000000) (by omega) (by
        rw [Nat.pow_add] at hb
        refine Nat.div_lt_of_lt_mul ?_
        rw [Nat.mul_comm]
        exact hb)]
      congr 2
      rw [show (20 : Nat) = 1 + 19 by rfl, wordL_pad 19 1 _ (Nat.mod_lt _ (by decide))]
      exact fixD_mod 19 n

theorem textF_zero : textF 3 0 = [48] := by decide

theorem t128_pow : T128 ≤ 10 ^ 39 := by decide

theorem textF_pos {n : Nat} (h : 0 < n) (hn : n < T128) : textF 3 n = (wordL 39 n 0).reverse := by
  have h3 : n < 10 ^ 39 := Nat.lt_of_lt_of_le hn t128_pow
  rw [textF_word 3 n h (Nat.lt_of_lt_of_le h3 (Nat.pow_le_pow_right (by omega) (by omega)))]
  exact congrArg List.reverse (wordL_fuel _ _ n (Nat.lt_of_lt_of_le h3 (Nat.pow_le_pow_right (by omega) (by omega))) h3)

theorem word_digit : ∀ (f n : Nat), ∀ x ∈ wordL f n 0, 48 ≤ x ∧ x ≤ 57 := by
  intro f
  induction f with
  | zero => intro n x h; simp [wordL] at h
  | succ f ih =>
    intro n x h
    rcases Nat.eq_zero_or_pos n with rfl | hn
    · rw [wordL_zero] at h; simp at h
    · rw [wordL_pos hn, List.mem_cons] at h
      rcases h with rfl | h
      · have := Nat.mod_lt n (show 0 < 10 by omega)
        omega
      · exact ih _ x h

theorem word_val : ∀ (f n : Nat), n < 10 ^ f → valN (wordL f n 0).reverse = n := by
  intro f
  induction f with
  | zero => intro n h; have : n = 0 := by simpa using h
            subst this; rfl
  | succ f ih =>
    intro n h
    rcases Nat.eq_zero_or_pos n with rfl | hn
    · rw [wordL_zero]; rfl
    · rw [wordL_pos hn, List.reverse_cons, valN_snoc, ih (n / 10) (by rw [Nat.pow_succ] at h; omega)]
      have := Nat.mod_lt n (show 0 < 10 by omega)
      omega

theorem word_head : ∀ (f n : Nat), 0 < n → n < 10 ^ f → ∃ x, (wordL f n 0).reverse[0]? = some x ∧ x ≠ 48 := by
  intro f
  induction f with
  | zero => intro n h1 h2; have : n = 0 := by simpa using h2
            omega
  | succ f ih =>
    intro n h1 h2
    rw [wordL_pos h1, List.reverse_cons]
    rcases Nat.eq_zero_or_pos (n / 10) with h0 | h0
    · rw [h0, wordL_zero]
      exact ⟨_, rfl, by omega⟩
    · obtain ⟨x, e1, e2⟩ := ih (n / 10) h0 (by rw [Nat.pow_succ] at h2; omega)
      exact ⟨x, by rw [List.getElem?_append_left (List.getElem?_eq_some_iff.1 e1).1]; exact e1, e2⟩

/-- What is written is read. -/
theorem parse_text {n : Nat} (hn : n < T128) : parseL (textF 3 n) = (n, 0) := by
  rcases Nat.eq_zero_or_pos n with rfl | h
  · decide
  have h3 : n < 10 ^ 39 := Nat.lt_of_lt_of_le hn t128_pow
  rw [textF_pos h hn]
  obtain ⟨x, e1, e2⟩ := word_head 39 n h h3
  have hv := word_val 39 n h3
  have hd : ∀ y ∈ (wordL 39 n 0).reverse, 48 ≤ y ∧ y ≤ 57 := fun y hy => word_digit 39 n y (by simpa using hy)
  unfold parseL
  rw [if_neg]
  · have ha : ((wordL 39 n 0).reverse.all fun c => decide (48 ≤ c ∧ c ≤ 57)) = true := by
      rw [List.all_eq_true]
      intro y hy
      simpa using hd y hy
    rw [if_pos ha, decN_val, hv, if_pos hn]
  · rintro (h0 | ⟨_, h0⟩)
    · rw [h0] at e1; simp at e1
    · rw [e1] at h0; exact e2 (Option.some.inj h0)

theorem text_back : ∀ l : List Int, l ≠ [] → ¬ l[0]? = some 48 → (∀ x ∈ l, 48 ≤ x ∧ x ≤ 57) → 0 < valN l ∧ (wordL l.length (valN l) 0).reverse = l := by
  intro l
  have key : ∀ r : List Int, r.reverse ≠ [] → ¬ r.reverse[0]? = some 48 → (∀ x ∈ r.reverse, 48 ≤ x ∧ x ≤ 57) → 0 < valN r.reverse ∧ (wordL r.reverse.length (valN r.reverse) 0).reverse = r.reverse := by
    intro r
    induction r with
    | nil => intro h; exact absurd rfl h
    | cons c r ih =>
      intro _ h0 hd
      rw [List.reverse_cons] at h0 hd ⊢
      have hc := hd c (by simp)
      rw [valN_snoc]
      rcases r with _ | ⟨c2, r2⟩
      · have hc0 : c ≠ 48 := fun h => h0 (by simp [h])
        obtain ⟨d, rfl⟩ : ∃ d : Nat, c = 48 + d := ⟨(c - 48).toNat, by omega⟩
        simp only [List.reverse_nil, List.nil_append, List.length_singleton]
        have e : valN [] * 10 + ((48 + (d : Int)) - 48).toNat = d := by simp [valN]; omega
        rw [e]
        refine ⟨by omega, ?_⟩
        rw [wordL_pos (by omega), show d / 10 = 0 by omega, wordL_zero, show d % 10 = d by omega]
        rfl
      · have hne : (c2 :: r2).reverse ≠ [] := by simp
        have hl : 0 < (c2 :: r2).reverse.length := by simp
        rw [List.getElem?_append_left hl] at h0
        obtain ⟨k1, k2⟩ := ih hne h0 fun x hx => hd x (by simp at hx ⊢; rcases hx with h | h; exact .inl h; exact .inr (.inl h))
        obtain ⟨d, rfl⟩ : ∃ d : Nat, c = 48 + d := ⟨(c - 48).toNat, by omega⟩
        have e : ((48 + (d : Int)) - 48).toNat = d := by omega
        rw [e]
        refine ⟨by omega, ?_⟩
        rw [List.length_append, List.length_singleton, wordL_pos (by omega), show (valN (c2 :: r2).reverse * 10 + d) / 10 = valN (c2 :: r2).reverse by omega, show (valN (c2 :: r2).reverse * 10 + d) % 10 = d by omega, List.reverse_cons, k2]
  have := key l.reverse
  rwa [List.reverse_reverse] at this

/-- What is read is written as it was. -/
theorem text_parse {l : List Int} {n : Nat} (h : parseL l = (n, 0)) : textF 3 n = l ∧ n < T128 := by
  unfold parseL at h
  split at h
  · simp at h
  · rename_i h1
    split at h
    · rename_i h2
      rw [List.all_eq_true] at h2
      have hd : ∀ x ∈ l, 48 ≤ x ∧ x ≤ 57 := fun x hx => by simpa using h2 x hx
      rw [decN_val] at h
      by_cases hv : valN l < T128
      · rw [if_pos hv] at h
        simp at h
        obtain rfl := h
        refine ⟨?_, hv⟩
        by_cases h0 : l[0]? = some 48
        · match l, h1, h0 with
          | [], _, h0 => simp at h0
          | [c], _, h0 => have : c = 48 := by simpa using h0
                          subst this; exact textF_zero
          | c :: c2 :: r, h1, h0 => exact absurd (.inr ⟨by simp, h0⟩) h1
        · obtain ⟨k1, k2⟩ := text_back l (fun h => h1 (.inl h)) h0 hd
          rw [textF_pos k1 hv]
          have h3 : valN l < 10 ^ 39 := Nat.lt_of_lt_of_le hv t128_pow
          rw [wordL_fuel 39 l.length (valN l) h3 (valN_lt l hd)]
          exact k2
      · rw [if_neg hv] at h; simp at h
    · simp at h
end Go.Proofs.Yticpmcghdoiceaa
