/-
  Plain laws of layers 13 and 19: scores, their order, the line.
-/
import Derived.Test.YtoljilbldkbjpaaNumB
import Derived.Test.YtoljilbldkbjpaaNumC
import Derived.Test.YtoljilbldkbjpaaWideC
namespace Go.Proofs.Ytoljilbldkbjpaa
open Go.RowKit

/-- A right score. -/
def scoreB (s : Int × Int) : Bool := decide ((1 ≤ s.2 ∧ s.2 ≤ 16) ∧ (0 ≤ s.1 ∧ s.1 ≤ 274877906944) ∧ gcdZ s.1 s.2 = 1)

theorem scoreB_is {s : Int × Int} : scoreB s = true ↔ (1 ≤ s.2 ∧ s.2 ≤ 16) ∧ (0 ≤ s.1 ∧ s.1 ≤ 274877906944) ∧ gcdZ s.1 s.2 = 1 := by
  unfold scoreB
  exact decide_eq_true_iff

/-- How two right ones lie. -/
def oddI (a b : Int × Int) : Int := if a.1 * b.2 < b.1 * a.2 then 1 else if b.1 * a.2 < a.1 * b.2 then -1 else 0

theorem prods_odd (a b : Int × Int) : prodsI b.1 a.2 a.1 b.2 = oddI a b := by
  unfold prodsI oddI sgn
  split <;> split <;> (try split) <;> omega

theorem oddI_self (a : Int × Int) : oddI a a = 0 := by unfold oddI; simp

theorem odd_turn (a b : Int × Int) : oddI b a = -oddI a b := by
  unfold oddI
  split <;> split <;> (try split) <;> omega

theorem odd_le {a b : Int × Int} : oddI a b ≤ 0 ↔ b.1 * a.2 ≤ a.1 * b.2 := by
  unfold oddI
  split
  · omega
  · split <;> omega

theorem odd_trans {a b c : Int × Int} (ha : scoreB a = true) (hb : scoreB b = true) (hc : scoreB c = true) (h1 : oddI a b ≤ 0) (h2 : oddI b c ≤ 0) : oddI a c ≤ 0 := by
  rw [odd_le] at *
  obtain ⟨⟨a1, _⟩, ⟨a2, _⟩, _⟩ := scoreB_is.1 ha
  obtain ⟨⟨b1, _⟩, ⟨b2, _⟩, _⟩ := scoreB_is.1 hb
  obtain ⟨⟨c1, _⟩, ⟨c2, _⟩, _⟩ := scoreB_is.1 hc
  have e1 := Int.mul_le_mul_of_nonneg_right h1 (show 0 ≤ c.2 by omega)
  have e2 := Int.mul_le_mul_of_nonneg_right h2 (show 0 ≤ a.2 by omega)
  have e3 : b.2 * (c.1 * a.2) ≤ b.2 * (a.1 * c.2) := by
    calc b.2 * (c.1 * a.2) = c.1 * b.2 * a.2 := by rw [Int.mul_comm c.1 b.2, Int.mul_assoc]
      _ ≤ b.1 * c.2 * a.2 := e2
      _ = b.1 * a.2 * c.2 := by rw [Int.mul_right_comm]
      _ ≤ a.1 * b.2 * c.2 := e1
      _ = b.2 * (a.1 * c.2) := by rw [Int.mul_comm a.1 b.2, Int.mul_assoc]
  exact Int.le_of_mul_le_mul_left e3 (by omega)

theorem odd_zero {a b : Int × Int} (ha : scoreB a = true) (hb : scoreB b = true) (h : oddI a b = 0) : a = b := by
  obtain ⟨⟨a1, _⟩, ⟨a2, _⟩, a3⟩ := scoreB_is.1 ha
  obtain ⟨⟨b1, _⟩, ⟨b2, _⟩, b3⟩ := scoreB_is.1 hb
  have e : a.1 * b.2 = b.1 * a.2 := by
    unfold oddI at h
    split at h
    · omega
    · split at h <;> omega
  obtain ⟨p, q⟩ := a
  obtain ⟨r, s⟩ := b
  simp only at *
  obtain ⟨p, rfl⟩ := Int.eq_ofNat_of_zero_le a2
  obtain ⟨r, rfl⟩ := Int.eq_ofNat_of_zero_le b2
  obtain ⟨q, rfl⟩ := Int.eq_ofNat_of_zero_le (show 0 ≤ q by omega)
  obtain ⟨s, rfl⟩ := Int.eq_ofNat_of_zero_le (show 0 ≤ s by omega)
  unfold gcdZ at a3 b3
  simp only [Int.natAbs_natCast] at a3 b3
  have a4 : Nat.Coprime p q := by unfold Nat.Coprime; omega
  have b4 : Nat.Coprime r s := by unfold Nat.Coprime; omega
  have e' : p * s = r * q := by
    have : ((p * s : Nat) : Int) = ((r * q : Nat) : Int) := by rw [Int.natCast_mul, Int.natCast_mul]; exact e
    omega
  have d1 : q ∣ s := a4.symm.dvd_of_dvd_mul_left (by rw [e']; exact Nat.dvd_mul_left q r)
  have d2 : s ∣ q := b4.symm.dvd_of_dvd_mul_left (by rw [← e']; exact Nat.dvd_mul_left s p)
  have hq : q = s := Nat.dvd_antisymm d1 d2
  subst hq
  have hp : p = r := Nat.eq_of_mul_eq_mul_right (by omega) e'
  rw [hp]

theorem odd_total (a b : Int × Int) : oddI a b ≤ 0 ∨ oddI b a ≤ 0 := by
  have := odd_turn a b
  omega

/-! ### in order -/
def SortedS (l : List (Int × Int)) : Prop := l.Pairwise fun a b => oddI a b ≤ 0

def allS (l : List (Int × Int)) : Bool := l.all scoreB

theorem allS_mem {l : List (Int × Int)} (h : allS l = true) {s : Int × Int} (hs : s ∈ l) : scoreB s = true := List.all_eq_true.1 h s hs
theorem allS_perm {l l' : List (Int × Int)} (h : allS l = true) (hp : l.Perm l') : allS l' = true := by
  unfold allS at *
  rw [List.all_eq_true] at *
  exact fun x hx => h x (hp.mem_iff.2 hx)

/-- Two rows in order of the same scores are the same. -/
theorem sorted_same : ∀ (a b : List (Int × Int)), SortedS a → SortedS b → a.Perm b → allS a = true → a = b
  | [], b, _, _, hp, _ => (List.nil_perm.1 hp).symm
  | x :: a, [], _, _, hp, _ => by simpa using hp.length_eq
  | x :: a, y :: b, ha, hb, hp, hs => by
    have hsb := allS_perm hs hp
    have h1 := (List.pairwise_cons.1 ha).1
    have h2 := (List.pairwise_cons.1 hb).1
    have hxy : x = y := by
      have m1 : y ∈ x :: a := hp.mem_iff.2 (by simp)
      have m2 : x ∈ y :: b := hp.mem_iff.1 (by simp)
      rcases List.mem_cons.1 m1 with e | e
      · exact e.symm
      · rcases List.mem_cons.1 m2 with e' | e'
        · exact e'
        · have o1 := h1 y e
          have o2 := h2 x e'
          have := odd_turn x y
          exact odd_zero (allS_mem hs (by simp)) (allS_mem hsb (by simp)) (by omega)
    subst hxy
    have hp' : a.Perm b := (List.perm_cons x).1 hp
    rw [sorted_same a b (List.pairwise_cons.1 ha).2 (List.pairwise_cons.1 hb).2 hp' (by unfold allS at *; simp at hs ⊢; exact hs.2)]

/-- Behind those that are not odder. -/
def cutAt (x : Int × Int) : List (Int × Int) → Nat
  | [] => 0
  | y :: l => if oddI y x ≤ 0 then cutAt x l + 1 else 0

def insS (l : List (Int × Int)) (x : Int × Int) : List (Int × Int) := l.take (cutAt x l) ++ x :: l.drop (cutAt x l)
def sortS (l : List (Int × Int)) : List (Int × Int) := l.foldl insS []

theorem cutAt_le (x : Int × Int) : ∀ l, cutAt x l ≤ l.length
  | [] => Nat.le_refl _
  | y :: l => by
    unfold cutAt
    split
    · have := cutAt_le x l; simp; omega
    · omega

theorem insS_cons (y x : Int × Int) (l : List (Int × Int)) : insS (y :: l) x = if oddI y x ≤ 0 then y :: insS l x else x :: y :: l := by
  have e : cutAt x (y :: l) = if oddI y x ≤ 0 then cutAt x l + 1 else 0 := rfl
  unfold insS
  rw [e]
  by_cases h : oddI y x ≤ 0
  · rw [if_pos h, if_pos h]; simp
  · rw [if_neg h, if_neg h]; simp

theorem insS_perm (x : Int × Int) : ∀ l, (insS l x).Perm (x :: l)
  | [] => by simp [insS]
  | y :: l => by
    rw [insS_cons]
    split
    · exact ((insS_perm x l).cons y).trans (List.Perm.swap x y l)
    · exact List.Perm.refl _

theorem insS_sorted {x : Int × Int} (hx : scoreB x = true) : ∀ l, allS l = true → SortedS l → SortedS (insS l x)
  | [], _, _ => by simp [insS, SortedS]
  | y :: l, ha, h => by
    have hy : scoreB y = true := allS_mem ha (by simp)
    have hal : allS l = true := by unfold allS at *; simp at ha ⊢; exact ha.2
    obtain ⟨h1, h2⟩ := List.pairwise_cons.1 h
    rw [insS_cons]
    split
    · next hle =>
      refine List.pairwise_cons.2 ⟨fun z hz => ?_, insS_sorted hx l hal h2⟩
      rcases List.mem_cons.1 ((insS_perm x l).mem_iff.1 hz) with rfl | hz
      · exact hle
      · exact h1 z hz
    · next hle =>
      have hxy : oddI x y ≤ 0 := by have := odd_turn x y; omega
      refine List.pairwise_cons.2 ⟨fun z hz => ?_, h⟩
      rcases List.mem_cons.1 hz with rfl | hz
      · exact hxy
      · exact odd_trans hx hy (allS_mem hal hz) hxy (h1 z hz)

theorem foldl_ins : ∀ (l acc : List (Int × Int)), allS l = true → allS acc = true → SortedS acc → (l.foldl insS acc).Perm (acc ++ l) ∧ SortedS (l.foldl insS acc)
  | [], acc, _, _, h => by simp [h]
  | x :: l, acc, ha, hb, h => by
    have hx : scoreB x = true := allS_mem ha (by simp)
    have hal : allS l = true := by unfold allS at *; simp at ha ⊢; exact ha.2
    have hp := insS_perm x acc
    have hb' : allS (insS acc x) = true := allS_perm (by unfold allS at *; simp [hx, hb]) hp.symm
    obtain ⟨i1, i2⟩ := foldl_ins l (insS acc x) hal hb' (insS_sorted hx acc hb h)
    refine ⟨i1.trans ?_, i2⟩
    exact (hp.append_right l).trans (List.perm_middle (l₁ := acc)).symm

theorem sortS_ok {l : List (Int × Int)} (h : allS l = true) : (sortS l).Perm l ∧ SortedS (sortS l) := by
  have := foldl_ins l [] h rfl List.Pairwise.nil
  simpa [sortS] using this

/-- Two rows put together. -/
def mergeS : List (Int × Int) → List (Int × Int) → List (Int × Int)
  | [], b => b
  | x :: a, [] => x :: a
  | x :: a, y :: b => if oddI y x < 0 then y :: mergeS (x :: a) b else x :: mergeS a (y :: b)
termination_by a b => a.length + b.length

theorem mergeS_perm : ∀ (a b : List (Int × Int)), (mergeS a b).Perm (a ++ b)
  | [], b => by simp [mergeS]
  | x :: a, [] => by simp [mergeS]
  | x :: a, y :: b => by
    unfold mergeS
    split
    · exact ((mergeS_perm (x :: a) b).cons y).trans (List.perm_middle (l₁ := x :: a)).symm
    · exact (mergeS_perm a (y :: b)).cons x
termination_by a b => a.length + b.length

theorem mergeS_sorted : ∀ (a b : List (Int × Int)), allS a = true → allS b = true → SortedS a → SortedS b → SortedS (mergeS a b)
  | [], b, _, _, _, hb => by simpa [mergeS] using hb
  | x :: a, [], _, _, ha, _ => by simpa [mergeS] using ha
  | x :: a, y :: b, sa, sb, ha, hb => by
    have hx : scoreB x = true := allS_mem sa (by simp)
    have hy : scoreB y = true := allS_mem sb (by simp)
    have sa' : allS a = true := by unfold allS at *; simp at sa ⊢; exact sa.2
    have sb' : allS b = true := by unfold allS at *; simp at sb ⊢; exact sb.2
    obtain ⟨a1, a2⟩ := List.pairwise_cons.1 ha
    obtain ⟨b1, b2⟩ := List.pairwise_cons.1 hb
    unfold mergeS
    split
    · next hlt =>
      refine List.pairwise_cons.2 ⟨fun z hz => ?_, mergeS_sorted (x :: a) b sa sb' ha b2⟩
      rcases List.mem_append.1 ((mergeS_perm (x :: a) b).mem_iff.1 hz) with hz | hz
      · rcases List.mem_cons.1 hz with rfl | hz
        · omega
        · exact odd_trans hy hx (allS_mem sa' hz) (by omega) (a1 z hz)
      · exact b1 z hz
    · next hlt =>
      have hxy : oddI x y ≤ 0 := by have := odd_turn x y; omega
      refine List.pairwise_cons.2 ⟨fun z hz => ?_, mergeS_sorted a (y :: b) sa' sb a2 hb⟩
      rcases List.mem_append.1 ((mergeS_perm a (y :: b)).mem_iff.1 hz) with hz | hz
      · exact a1 z hz
      · rcases List.mem_cons.1 hz with rfl | hz
        · exact hxy
        · exact odd_trans hx hy (allS_mem sb' hz) hxy (b1 z hz)
termination_by a b => a.length + b.length

/-- Halves, put together. -/
def halfS (l : List (Int × Int)) : List (Int × Int) :=
  if h : l.length < 2 then l else mergeS (halfS (l.take (l.length / 2))) (halfS (l.drop (l.length / 2)))
termination_by l.length
decreasing_by
  · simp only [List.length_take]; omega
  · simp only [List.length_drop]; omega

theorem halfS_ok : ∀ (n : Nat) (l : List (Int × Int)), l.length ≤ n → allS l = true → (halfS l).Perm l ∧ SortedS (halfS l)
  | 0, l, hn, h => by
    have : l = [] := List.eq_nil_of_length_eq_zero (by omega)
    subst this
    unfold halfS
    simp [SortedS]
  | n + 1, l, hn, h => by
    unfold halfS
    by_cases h2 : l.length < 2
    · rw [dif_pos h2]
      refine ⟨List.Perm.refl _, ?_⟩
      match l, h2 with
      | [], _ => exact List.Pairwise.nil
      | [x], _ => exact List.pairwise_singleton _ _
      | x :: y :: l, h2 => simp at h2; omega
    · rw [dif_neg h2]
      have t1 : allS (l.take (l.length / 2)) = true := by unfold allS at *; rw [List.all_eq_true] at *; exact fun x hx => h x (List.mem_of_mem_take hx)
      have t2 : allS (l.drop (l.length / 2)) = true := by unfold allS at *; rw [List.all_eq_true] at *; exact fun x hx => h x (List.mem_of_mem_drop hx)
      obtain ⟨p1, s1⟩ := halfS_ok n (l.take (l.length / 2)) (by rw [List.length_take]; omega) t1
      obtain ⟨p2, s2⟩ := halfS_ok n (l.drop (l.length / 2)) (by rw [List.length_drop]; omega) t2
      have a1 := allS_perm t1 p1.symm
      have a2 := allS_perm t2 p2.symm
      refine ⟨(mergeS_perm _ _).trans ?_, mergeS_sorted _ _ a1 a2 s1 s2⟩
      have := p1.append p2
      rwa [List.take_append_drop] at this

theorem half_sort {l : List (Int × Int)} (h : allS l = true) : halfS l = sortS l := by
  obtain ⟨p1, s1⟩ := halfS_ok l.length l (Nat.le_refl _) h
  obtain ⟨p2, s2⟩ := sortS_ok h
  exact sorted_same _ _ s1 s2 (p1.trans p2.symm) (allS_perm h p1.symm)

/-! ### the line -/
def indexBad (n part whole : Int) : Prop := n < 1 ∨ 4096 < n ∨ whole < 2 ∨ 1000 < whole ∨ part < 1 ∨ whole ≤ part
instance (n part whole : Int) : Decidable (indexBad n part whole) := by unfold indexBad; infer_instance
def indexE (n part whole : Int) : Int := if indexBad n part whole then 1 else 0
def indexV (n part whole : Int) : Int := if indexBad n part whole then 0 else ceilV ((whole - part) * n) whole

theorem ceil_le {a b v : Int} (hb : 0 < b) : ceilV a b ≤ v ↔ a ≤ b * v := by
  unfold ceilV
  rw [if_neg (by omega)]
  have h0 := Int.emod_nonneg a (show b ≠ 0 by omega)
  have h1 := Int.emod_lt_of_pos a hb
  have h2 := Int.mul_ediv_add_emod a b
  constructor
  · intro h
    split at h
    · have := Int.mul_le_mul_of_nonneg_left h (show 0 ≤ b by omega)
      rw [Int.mul_add, Int.mul_one] at this
      omega
    · have := Int.mul_le_mul_of_nonneg_left h (show 0 ≤ b by omega)
      omega
  · intro h
    have h3 : b * (a / b) ≤ b * v := by omega
    have h4 := Int.le_of_mul_le_mul_left h3 hb
    split
    · rcases Int.lt_or_eq_of_le h4 with h5 | h5
      · omega
      · rw [h5] at h2; omega
    · exact h4

theorem index_is {n part whole : Int} (h : ¬ indexBad n part whole) : (1 ≤ indexV n part whole ∧ indexV n part whole ≤ n) ∧ (whole - part) * n ≤ whole * indexV n part whole ∧ whole * (indexV n part whole - 1) < (whole - part) * n := by
  have hb := h
  unfold indexBad at h
  unfold indexV
  rw [if_neg hb]
  have hw : 0 < whole := by omega
  have k1 : (whole - part) * n ≤ whole * ceilV ((whole - part) * n) whole := (ceil_le hw).1 (Int.le_refl _)
  have k2 : ¬ (whole - part) * n ≤ whole * (ceilV ((whole - part) * n) whole - 1) := fun hh => by
    have := (ceil_le hw).2 hh
    omega
  have k3 : ceilV ((whole - part) * n) whole ≤ n := (ceil_le hw).2 (Int.mul_le_mul_of_nonneg_right (by omega) (by omega))
  have k4 : ¬ ceilV ((whole - part) * n) whole ≤ 0 := fun hh => by
    have := (ceil_le hw).1 hh
    have hp : 0 < (whole - part) * n := Int.mul_pos (by omega) (by omega)
    omega
  exact ⟨⟨by omega, k3⟩, k1, by omega⟩

theorem index_least {n part whole k : Int} (h : ¬ indexBad n part whole) (hk : (whole - part) * n ≤ k * whole) : indexV n part whole ≤ k := by
  have hb := h
  unfold indexBad at h
  unfold indexV
  rw [if_neg hb]
  exact (ceil_le (by omega)).2 (by rw [Int.mul_comm whole k]; exact hk)

theorem index_next {n part whole : Int} (h : ¬ indexBad n part whole) (h' : ¬ indexBad (n + 1) part whole) : indexV (n + 1) part whole = indexV n part whole ∨ indexV (n + 1) part whole = indexV n part whole + 1 := by
  obtain ⟨⟨a1, a2⟩, a3, a4⟩ := index_is h
  obtain ⟨⟨b1, b2⟩, b3, b4⟩ := index_is h'
  have hw : 2 ≤ whole ∧ 1 ≤ part ∧ part < whole := by unfold indexBad at h; omega
  have e : (whole - part) * (n + 1) = (whole - part) * n + (whole - part) := by rw [Int.mul_add, Int.mul_one]
  rw [e] at b3 b4
  have h1 : indexV n part whole ≤ indexV (n + 1) part whole := index_least h (by rw [Int.mul_comm (indexV (n + 1) part whole) whole]; omega)
  have h2 : indexV (n + 1) part whole ≤ indexV n part whole + 1 := index_least h' (by
    rw [e, Int.add_mul, Int.one_mul, Int.mul_comm (indexV n part whole) whole]
    omega)
  omega

def lineE (l : List (Int × Int)) (part whole : Int) : Int := if indexBad l.length part whole then 1 else if allS l = true then 0 else 130
def countP (line : Int × Int) (l : List (Int × Int)) : Nat := l.countP fun s => decide (0 ≤ oddI s line)
def oddP (line : Int × Int) (l : List (Int × Int)) : Nat := l.countP fun s => decide (0 < oddI s line)
def lineV (l : List (Int × Int)) (part whole : Int) : Int × Int := if lineE l part whole = 0 then (sortS l).getD ((indexV l.length part whole).toNat - 1) (0, 0) else (0, 0)

theorem sortS_len {l : List (Int × Int)} (h : allS l = true) : (sortS l).length = l.length := (sortS_ok h).1.length_eq

theorem line_ok {l : List (Int × Int)} {part whole : Int} (h : lineE l part whole = 0) : ¬ indexBad l.length part whole ∧ allS l = true := by
  unfold lineE at h
  split at h
  · omega
  · split at h
    · exact ⟨by assumption, by assumption⟩
    · omega

/-- No more than part of whole are odder than the line, more than that are over it. -/
theorem shares {l : List (Int × Int)} {part whole : Int} (h : lineE l part whole = 0) :
    scoreB (lineV l part whole) = true ∧ (oddP (lineV l part whole) l : Int) * whole ≤ part * l.length ∧ part * l.length < (countP (lineV l part whole) l : Int) * whole := by
  obtain ⟨hb, hs⟩ := line_ok h
  obtain ⟨⟨k1, k2⟩, k3, k4⟩ := index_is hb
  obtain ⟨hp, hso⟩ := sortS_ok hs
  have hlen := hp.length_eq
  have hw : 2 ≤ whole := by unfold indexBad at hb; omega
  unfold lineV
  rw [if_pos h]
  obtain ⟨k, hk⟩ : ∃ k : Nat, indexV l.length part whole = (k : Int) + 1 := ⟨(indexV l.length part whole - 1).toNat, by omega⟩
  rw [hk] at k1 k2 k3 k4 ⊢
  rw [show ((k : Int) + 1).toNat - 1 = k by omega]
  have hkl : k < (sortS l).length := by omega
  obtain ⟨x, hx⟩ := getElem?_ex hkl
  rw [getD_of hx]
  have hsp : sortS l = (sortS l).take k ++ x :: (sortS l).drop (k + 1) := by
    conv => lhs; rw [← List.take_append_drop k (sortS l)]
    rw [List.drop_eq_getElem_cons hkl]
    have : (sortS l)[k] = x := (List.getElem?_eq_some_iff.1 hx).2
    rw [this]
  have hso' := hso
  unfold SortedS at hso'
  rw [hsp] at hso'
  obtain ⟨_, s2, s3⟩ := List.pairwise_append.1 hso'
  obtain ⟨s4, _⟩ := List.pairwise_cons.1 s2
  have hl1 : ((sortS l).drop (k + 1)).length = l.length - (k + 1) := by rw [List.length_drop, hlen]
  have c1 : l.length - k ≤ countP x l := by
    unfold countP
    rw [← hp.countP_eq, hsp, List.countP_append]
    have : (x :: (sortS l).drop (k + 1)).countP (fun s => decide (0 ≤ oddI s x)) = (x :: (sortS l).drop (k + 1)).length := by
      rw [List.countP_eq_length]
      intro z hz
      rcases List.mem_cons.1 hz with rfl | hz
      · rw [oddI_self]; rfl
      · have h1 := s4 z hz
        have h2 := odd_turn x z
        exact decide_eq_true (by omega)
    rw [this, List.length_cons, hl1]
    omega
  have c2 : oddP x l ≤ l.length - (k + 1) := by
    unfold oddP
    rw [← hp.countP_eq, hsp, List.countP_append, List.countP_cons]
    have e1 : ((sortS l).take k).countP (fun s => decide (0 < oddI s x)) = 0 := by
      rw [List.countP_eq_zero]
      intro z hz
      have := s3 z hz x (by simp)
      simpa using this
    have e2 : (decide (0 < oddI x x)) = false := by rw [oddI_self]; rfl
    rw [e1, e2]
    have := List.countP_le_length (p := fun s => decide (0 < oddI s x)) (l := (sortS l).drop (k + 1))
    simp
    omega
  refine ⟨allS_mem (allS_perm hs hp.symm) (List.mem_of_getElem? hx), ?_, ?_⟩
  · have h1 : (oddP x l : Int) * whole ≤ ((l.length : Int) - (k + 1)) * whole := Int.mul_le_mul_of_nonneg_right (by omega) (by omega)
    have h2 : ((l.length : Int) - (k + 1)) * whole = l.length * whole - whole * (k + 1) := by rw [Int.sub_mul, Int.mul_comm whole]
    have h3 : (whole - part) * l.length = l.length * whole - part * l.length := by rw [Int.sub_mul, Int.mul_comm whole]
    omega
  · have h1 : ((l.length : Int) - k) * whole ≤ (countP x l : Int) * whole := Int.mul_le_mul_of_nonneg_right (by omega) (by omega)
    have h2 : ((l.length : Int) - k) * whole = l.length * whole - whole * k := by rw [Int.sub_mul, Int.mul_comm whole]
    have h3 : (whole - part) * l.length = l.length * whole - part * l.length := by rw [Int.sub_mul, Int.mul_comm whole]
    have h4 : whole * ((k : Int) + 1 - 1) = whole * k := by rw [Int.add_sub_cancel]
    omega
end Go.Proofs.Ytoljilbldkbjpaa
