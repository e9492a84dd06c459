/-
  VecA: Walks of package vec (Is, Parts, Dot) and of copseref08: vectors and the parts of planes.
  VecB: Walks of package vec (ends, Parts, Dot).
  VecC: Walks: the product of parts and a vector (vec.Dot, copseref08.Dot), copseref08.Is, copseref08.Parts.
  ItemK: Walks of RightSeen, the program's and the reference's.
  Lex: A drawn region, walked by hand: what only reads is taken first, an operation that is not wanted is passed by, what makes memory comes up one by one.
  BinV: Walk of the reader's Ints once more: what it hands back is new memory.
  LexB: A drawn region with a barrier: a store into a cell that the region loads, behind all loads: the cells must hold as they were up to the barrier alone.
  MemT: How trees lie in memory.
-/
import Derived.Test.YtjmjnkilgoelbaaJ0b
import Derived.Deep.DeepCutAuto
import Derived.Deep.CutBlock
import Derived.Test.YtjmjnkilgoelbaaJ0a
import Derived.Deep.RegionHeld3
namespace Go.Proofs.Ytjmjnkilgoelbaa
open Go.RowKit

def isV (x : Int) : Bool := decide (-2147483648 ≤ x) && decide (x ≤ 2147483647)
def isC (x : Int) : Bool := decide (-4 ≤ x) && decide (x ≤ 4)

theorem all_step {p : Int → Bool} {l : List Int} {k : Nat} {x : Int} (hx : l[k]? = some x) : (l.take (k + 1)).all p = ((l.take k).all p && p x) := by
  rw [take_snoc' hx, List.all_append]; simp
theorem any_step {p : Int → Bool} {l : List Int} {k : Nat} {x : Int} (hx : l[k]? = some x) : (l.take (k + 1)).any p = ((l.take k).any p || p x) := by
  rw [take_snoc' hx, List.any_append]; simp

def preB (l : List Int) (dim : Int) : Bool := decide (1 ≤ dim) && decide (dim ≤ 8) && decide ((l.length : Int) = dim)

theorem vecB_is (l : List Int) (dim : Int) : vecB l dim = (preB l dim && l.all isV) := rfl
theorem partsB_is (l : List Int) (dim : Int) : partsB l dim = (preB l dim && l.all isC && l.any fun x => decide (x ≠ 0)) := rfl

theorem all_false_of_take {p : Int → Bool} {l : List Int} {k : Nat} (h : (l.take k).all p = false) : l.all p = false := by
  rw [← List.take_append_drop k l, List.all_append, h, Bool.false_and]

set_option maxHeartbeats 1000000 in
theorem vis_any (v : Value) (l : List Int) (dim : Int) (w : World) (h : Ints .i64 w v l) :
    Calls Try.prog 105 #[v, .int .i64 dim] w fun e w' => e = .returned (.bool (vecB l dim)) ∧ w = w' := by
  obtain ⟨a, c, rfl, _, _, h3, h⟩ := h
  have H := Lib.hid h; clear h
  rw [vecB_is]
  obtain ⟨B, hB⟩ : ∃ B, preB l dim = B := ⟨_, rfl⟩
  rw [hB]
  have HB := Lib.hid hB
  clear hB
  go_enter Try.func105, Try.ntmps105
  go_upto_region 1 with fail
  go_cut [5] (fun ok wx => ok = .bool B ∧ w = wx)
  case first =>
    by_cases h1 : 1 ≤ dim
    · by_cases h2 : dim ≤ 8
      · by_cases h4 : (l.length : Int) = dim
        · have hb : preB l dim = true := by unfold preB; simp [h1, h2, h4]
          have Q := Lib.hid hb
          clear hb
          go_wp2_with fail
          go_meet
          case rel => exact ⟨by rw [← HB.out, Q.out], rfl⟩
        · have hb : preB l dim = false := by unfold preB; simp [h4]
          have Q := Lib.hid hb
          clear hb
          have h5 : ((l.length : Int) == dim) = false := by simp [h4]
          go_wp2_with fail
          go_meet
          case rel => exact ⟨by rw [← HB.out, Q.out], rfl⟩
      · have hb : preB l dim = false := by unfold preB; simp [h2]
        have Q := Lib.hid hb
        clear hb
        go_wp2_with fail
        go_meet
        case rel => exact ⟨by rw [← HB.out, Q.out], rfl⟩
    · have hb : preB l dim = false := by unfold preB; simp [h1]
      have Q := Lib.hid hb
      clear hb
      go_wp2_with fail
      go_meet
      case rel => exact ⟨by rw [← HB.out, Q.out], rfl⟩
  case rest =>
    obtain ⟨rfl, rfl⟩ := hcut
    go_wp2_with fail
    go_loopw [5, 6] (fun ok i wr => ∃ k : Nat, i = .int .i64 k ∧ k ≤ l.length ∧ ok = .bool (B && (l.take k).all isV) ∧ w = wr) (fun _ i _ => l.length + 1 - (intOf i).toNat)
    case atStart => exact ⟨0, rfl, by omega, by simp, rfl⟩
    case round =>
      obtain ⟨k, rfl, hk, rfl, rfl⟩ := hrel
      cases hA : (B && (l.take k).all isV) with
      | false =>
        have HA := Lib.hid hA
        clear hA
        go_wp2_with fail
        go_ret
        refine ⟨ret_bool ?_, rfl⟩
        have hA := HA.out
        rw [Bool.and_eq_false_iff] at hA
        rcases hA with hA | hA
        · rw [hA]; rfl
        · rw [all_false_of_take hA, Bool.and_false]
      | true =>
        have HA := Lib.hid hA
        clear hA
        by_cases hlt : k < l.length
        · obtain ⟨x, hx⟩ := getElem?_ex hlt
          obtain ⟨b1, o1, rfl, hb1, hc1⟩ := H.out k x hx
          have hs := all_step (p := isV) hx
          have HS := Lib.hid hs
          have i1 : (0 : Int) ≤ (k : Int) := by omega
          have i2 : (k : Int) < (l.length : Int) := by omega
          have i3 : (k : Int) ≤ 140737488351232 := by omega
          clear hx hs
          by_cases g1 : -2147483648 ≤ x
          · by_cases g2 : x ≤ 2147483647
            · go_wp2_with fail
              go_roundw
              case rel => exact ⟨k + 1, by go_num, by omega, by rw [HS.out, ← Bool.and_assoc, HA.out, isV]; simp [g1, g2], trivial⟩
              case measure => simp [intOf] <;> omega
            · go_wp2_with fail
              go_roundw
              case rel => exact ⟨k + 1, by go_num, by omega, by rw [HS.out, ← Bool.and_assoc, HA.out, isV]; simp [g1, g2], trivial⟩
              case measure => simp [intOf] <;> omega
          · go_wp2_with fail
            go_roundw
            case rel => exact ⟨k + 1, by go_num, by omega, by rw [HS.out, ← Bool.and_assoc, HA.out, isV]; simp [g1], trivial⟩
            case measure => simp [intOf] <;> omega
        · obtain rfl : k = l.length := by omega
          go_wp2_with fail
          go_ret
          refine ⟨ret_bool ?_, rfl⟩
          have hA := HA.out
          rw [List.take_length] at hA
          exact hA.symm
end Go.Proofs.Ytjmjnkilgoelbaa

namespace Go.Proofs.Ytjmjnkilgoelbaa
open Go.RowKit

def minL : List Int → Int
  | [] => 0
  | x :: l => l.foldl min x
def maxL : List Int → Int
  | [] => 0
  | x :: l => l.foldl max x

theorem min_le_of : ∀ (l : List Int) (x z : Int), l.foldl min x ≤ z ↔ x ≤ z ∨ ∃ y ∈ l, y ≤ z
  | [], x, z => by simp
  | y :: l, x, z => by
    rw [List.foldl_cons, min_le_of l]
    simp only [List.mem_cons, exists_eq_or_imp]
    rw [show min x y ≤ z ↔ x ≤ z ∨ y ≤ z by omega]
    constructor
    · rintro ((h | h) | h)
      · exact .inl h
      · exact .inr (.inl h)
      · exact .inr (.inr h)
    · rintro (h | h | h)
      · exact .inl (.inl h)
      · exact .inl (.inr h)
      · exact .inr h

theorem le_max_of : ∀ (l : List Int) (x z : Int), z ≤ l.foldl max x ↔ z ≤ x ∨ ∃ y ∈ l, z ≤ y
  | [], x, z => by simp
  | y :: l, x, z => by
    rw [List.foldl_cons, le_max_of l]
    simp only [List.mem_cons, exists_eq_or_imp]
    rw [show z ≤ max x y ↔ z ≤ x ∨ z ≤ y by omega]
    constructor
    · rintro ((h | h) | h)
      · exact .inl h
      · exact .inr (.inl h)
      · exact .inr (.inr h)
    · rintro (h | h | h)
      · exact .inl (.inl h)
      · exact .inl (.inr h)
      · exact .inr h

theorem minL_le {l : List Int} (hl : l ≠ []) (z : Int) : minL l ≤ z ↔ ∃ y ∈ l, y ≤ z := by
  cases l with
  | nil => exact absurd rfl hl
  | cons x l => rw [minL, min_le_of]; simp
theorem le_maxL {l : List Int} (hl : l ≠ []) (z : Int) : z ≤ maxL l ↔ ∃ y ∈ l, z ≤ y := by
  cases l with
  | nil => exact absurd rfl hl
  | cons x l => rw [maxL, le_max_of]; simp

theorem ends_all {l : List Int} (hl : l ≠ []) : l.all isC = (decide (-4 ≤ minL l) && decide (maxL l ≤ 4)) := by
  rw [Bool.eq_iff_iff, List.all_eq_true, Bool.and_eq_true, decide_eq_true_eq, decide_eq_true_eq]
  constructor
  · intro h
    have h' : ∀ x ∈ l, -4 ≤ x ∧ x ≤ 4 := fun x hx => by have := h x hx; unfold isC at this; simpa using this
    refine ⟨Int.not_lt.1 fun hc => ?_, Int.not_lt.1 fun hc => ?_⟩
    · obtain ⟨y, hy, h2⟩ := (minL_le hl (-5)).1 (by omega)
      have := h' y hy; omega
    · obtain ⟨y, hy, h2⟩ := (le_maxL hl 5).1 (by omega)
      have := h' y hy; omega
  · intro ⟨h1, h2⟩ x hx
    have a := (minL_le hl x).2 ⟨x, hx, by omega⟩
    have b := (le_maxL hl x).2 ⟨x, hx, by omega⟩
    unfold isC
    simp
    omega

theorem ends_any0 {l : List Int} (hl : l ≠ []) : (l.any fun x => decide (x ≠ 0)) = (decide (minL l < 0) || decide (0 < maxL l)) := by
  rw [Bool.eq_iff_iff, List.any_eq_true, Bool.or_eq_true, decide_eq_true_eq, decide_eq_true_eq]
  constructor
  · rintro ⟨x, hx, h⟩
    have h : x ≠ 0 := by simpa using h
    have a := (minL_le hl x).2 ⟨x, hx, by omega⟩
    have b := (le_maxL hl x).2 ⟨x, hx, by omega⟩
    omega
  · rintro (h | h)
    · obtain ⟨y, hy, h2⟩ := (minL_le hl (-1)).1 (by omega)
      exact ⟨y, hy, by simp; omega⟩
    · obtain ⟨y, hy, h2⟩ := (le_maxL hl 1).1 (by omega)
      exact ⟨y, hy, by simp; omega⟩

theorem int_min (a x : Int) : (if x < a then x else a) = min a x := by split <;> omega
theorem int_max (a x : Int) : (if a < x then x else a) = max a x := by split <;> omega

theorem foldl_step {f : Int → Int → Int} {l : List Int} {k : Nat} {x a : Int} (hx : l[k]? = some x) : (l.take (k + 1)).foldl f a = f ((l.take k).foldl f a) x := by
  rw [take_snoc' hx, List.foldl_append]; rfl

set_option maxHeartbeats 1000000 in
theorem vends_any (v : Value) (x0 : Int) (l : List Int) (w : World) (h : Ints .i64 w v (x0 :: l)) :
    Calls Try.prog 217 #[v] w fun e w' => e = .returned (.tuple #[.int .i64 (l.foldl min x0), .int .i64 (l.foldl max x0)]) ∧ ∃ n, w' = w.drewN n := by
  obtain ⟨a, c, rfl, h1, h2, h3, h⟩ := h
  obtain ⟨b, o, rfl, hb0, hc0⟩ := h 0 x0 rfl
  rw [Nat.add_zero] at hc0
  have h : ∀ i x, l[i]? = some x → w.cell? ⟨b, o + 1 + i, none⟩ = some (.int .i64 x) := fun i x hi => by
    obtain ⟨b', o', e, _, hc⟩ := h (i + 1) x (by simpa using hi)
    injection e with e
    injection e with e1 e2 e3
    subst e1 e2
    rw [← hc, show o + 1 + i = o + (i + 1) by omega]
  rw [List.length_cons] at h1 h3 ⊢
  have H := Lib.hid h
  obtain ⟨m, hm⟩ : ∃ m, l.length + 1 = m := ⟨_, rfl⟩
  rw [hm] at h1 h3 ⊢
  have HM := Lib.hid hm
  have i4 : (m : Int) ≤ c := by omega
  have i5 : (0 : Int) < m := by omega
  have i6 : (1 : Int) ≤ m := by omega
  clear h hm
  go_enter Try.func217, Try.ntmps217
  go_wp2_with fail
  go_quiet (fail)
  go_upto_region 2 with fail
  go_cut [15, 16, 17] (fun s n i wx => ∃ ad cc, s = .slice ad l.length cc ∧ n = .int .i64 l.length ∧ i = .int .i64 0 ∧ (0 < l.length → ad = some ⟨b, o + 1, none⟩) ∧ ∃ d, wx = w.drewN d)
  case first =>
    by_cases hc1 : c = 1
    · subst hc1
      go_wp2_with fail
      go_meet
      case rel => have hm1 := HM.out; exact ⟨_, 0, by rw [show l.length = 0 by omega], by rw [show l.length = 0 by omega]; rfl, rfl, fun h => by omega, _, rfl⟩
    · have i7 : 1 < c := by omega
      go_wp2_with fail
      go_meet
      case rel => have hm1 := HM.out; exact ⟨_, c - 1, by rw [show m - 1 = l.length by omega], by rw [show m - 1 = l.length by omega], rfl, fun _ => rfl, _, rfl⟩
  case rest =>
    obtain ⟨ad, cc, rfl, rfl, rfl, had, d, rfl⟩ := hcut
    have HAD := Lib.hid had
    clear had
    go_wp2_with fail
    go_loopw [4, 5, 7, 17] (fun lo hi _ i wr => ∃ k : Nat, i = .int .i64 k ∧ k ≤ l.length ∧ lo = .int .i64 ((l.take k).foldl min x0) ∧ hi = .int .i64 ((l.take k).foldl max x0) ∧ w.drewN d = wr) (fun _ _ _ i _ => l.length - (intOf i).toNat)
    case atStart => exact ⟨0, rfl, by omega, by simp, by simp, rfl⟩
    case round =>
      obtain ⟨k, rfl, hk, rfl, rfl, rfl⟩ := hrel
      by_cases hlt : k < l.length
      · obtain ⟨x, hx⟩ := getElem?_ex hlt
        obtain rfl := HAD.out (by omega)
        have hc1 := H.out k x hx
        have HS1 := Lib.hid (foldl_step (f := min) (a := x0) hx)
        have HS2 := Lib.hid (foldl_step (f := max) (a := x0) hx)
        have i1 : (0 : Int) ≤ (k : Int) := by omega
        have i2 : (k : Int) < (l.length : Int) := by omega
        have i3 : (k : Int) ≤ 140737488351232 := by have := HM.out; omega
        clear hx
        obtain ⟨A, hA⟩ : ∃ A, (l.take k).foldl min x0 = A := ⟨_, rfl⟩
        obtain ⟨B, hB⟩ : ∃ B, (l.take k).foldl max x0 = B := ⟨_, rfl⟩
        rw [hA] at HS1 ⊢
        rw [hB] at HS2 ⊢
        clear hA hB
        go_wp2_with fail
        go_roundw
        case rel => exact ⟨k + 1, by go_num, by omega, by first | rw [HS1.out, int_min] | rw [HS1.out], by first | rw [HS2.out, int_max] | rw [HS2.out], trivial⟩
        case measure => simp [intOf] <;> omega
      · obtain rfl : k = l.length := by omega
        go_wp2_with fail
        exact bodyPost_ret (v := .tuple #[.int .i64 (l.foldl min x0), .int .i64 (l.foldl max x0)]) (by simp [results, Try.results217, go_sem]) rfl ⟨rfl, _, rfl⟩

theorem parts_not {l : List Int} {dim : Int} (h : preB l dim = false) : partsB l dim = false := by rw [partsB_is, h]; rfl
theorem pre_1 {l : List Int} {dim : Int} (h : ¬ 1 ≤ dim) : preB l dim = false := by unfold preB; simp [h]
theorem pre_2 {l : List Int} {dim : Int} (h : ¬ dim ≤ 8) : preB l dim = false := by unfold preB; simp [h]
theorem pre_3 {l : List Int} {dim : Int} (h : ¬ (l.length : Int) = dim) : preB l dim = false := by unfold preB; simp [h]
theorem pre_yes {l : List Int} {dim : Int} (h1 : 1 ≤ dim) (h2 : dim ≤ 8) (h3 : (l.length : Int) = dim) : preB l dim = true := by unfold preB; simp [h1, h2, h3]

theorem parts_ends {x0 : Int} {l : List Int} {dim : Int} (h : preB (x0 :: l) dim = true) :
    partsB (x0 :: l) dim = (decide (-4 ≤ l.foldl min x0) && decide (l.foldl max x0 ≤ 4) && (decide (l.foldl min x0 < 0) || decide (0 < l.foldl max x0))) := by
  have h0 : x0 :: l ≠ [] := by simp
  rw [partsB_is, h, ends_all h0, ends_any0 h0, Bool.true_and]
  rfl

set_option maxHeartbeats 1000000 in
theorem vparts_any (v : Value) (l : List Int) (dim : Int) (w : World) (h : Ints .i64 w v l) :
    Calls Try.prog 202 #[v, .int .i64 dim] w fun e w' => e = .returned (.bool (partsB l dim)) ∧ ∃ n, w' = w.drewN n := by
  by_cases h1 : 1 ≤ dim
  · by_cases h2 : dim ≤ 8
    · by_cases h4 : (l.length : Int) = dim
      · cases l with
        | nil => simp at h4; omega
        | cons x0 l =>
          rw [parts_ends (pre_yes h1 h2 h4)]
          have HC := Lib.hid (fun W (hW : Ints .i64 W v (x0 :: l)) => vends_any v x0 l W hW)
          have HI := Lib.hid h
          obtain ⟨a, c, rfl, _⟩ := h
          generalize l.foldl min x0 = A at *
          generalize l.foldl max x0 = B at *
          obtain ⟨m, hm⟩ : ∃ m, (x0 :: l).length = m := ⟨_, rfl⟩
          rw [hm] at h4 HC HI ⊢
          clear hm
          have h5 : ((m : Int) != dim) = false := by simp [h4]
          by_cases g1 : -4 ≤ A
          · by_cases g2 : B ≤ 4
            · by_cases g3 : A < 0
              · rw [show (decide (-4 ≤ A) && decide (B ≤ 4) && (decide (A < 0) || decide (0 < B))) = true by simp [g1, g2, g3]]
                go_enter Try.func202, Try.ntmps202
                go_wp2_with fail
                refine (HC.out _ HI.out).mono ?_
                rintro e w1 ⟨rfl, d, rfl⟩
                go_wp2_with fail
                go_ret
                exact ⟨rfl, _, rfl⟩
              · by_cases g4 : 0 < B
                · rw [show (decide (-4 ≤ A) && decide (B ≤ 4) && (decide (A < 0) || decide (0 < B))) = true by simp [g1, g2, g4]]
                  go_enter Try.func202, Try.ntmps202
                  go_wp2_with fail
                  refine (HC.out _ HI.out).mono ?_
                  rintro e w1 ⟨rfl, d, rfl⟩
                  go_wp2_with fail
                  go_ret
                  exact ⟨rfl, _, rfl⟩
                · rw [show (decide (-4 ≤ A) && decide (B ≤ 4) && (decide (A < 0) || decide (0 < B))) = false by simp [g3, g4]]
                  have G := Lib.hid (show (decide (A < 0) || decide (0 < B)) = false by simp [g3, g4])
                  go_enter Try.func202, Try.ntmps202
                  go_wp2_with fail
                  refine (HC.out _ HI.out).mono ?_
                  rintro e w1 ⟨rfl, d, rfl⟩
                  go_wp2_with fail
                  go_ret
                  exact ⟨ret_bool G.out, _, rfl⟩
            · rw [show (decide (-4 ≤ A) && decide (B ≤ 4) && (decide (A < 0) || decide (0 < B))) = false by simp [g2]]
              go_enter Try.func202, Try.ntmps202
              go_wp2_with fail
              refine (HC.out _ HI.out).mono ?_
              rintro e w1 ⟨rfl, d, rfl⟩
              go_wp2_with fail
              go_ret
              exact ⟨rfl, _, rfl⟩
          · rw [show (decide (-4 ≤ A) && decide (B ≤ 4) && (decide (A < 0) || decide (0 < B))) = false by simp [g1]]
            go_enter Try.func202, Try.ntmps202
            go_wp2_with fail
            refine (HC.out _ HI.out).mono ?_
            rintro e w1 ⟨rfl, d, rfl⟩
            go_wp2_with fail
            go_ret
            exact ⟨rfl, _, rfl⟩
      · rw [parts_not (pre_3 h4)]
        obtain ⟨a, c, rfl, _⟩ := h
        have h5 : ((l.length : Int) != dim) = true := by simp [h4]
        go_enter Try.func202, Try.ntmps202
        go_wp2_with fail
        go_ret
        exact ⟨rfl, 0, rfl⟩
    · rw [parts_not (pre_2 h2)]
      obtain ⟨a, c, rfl, _⟩ := h
      go_enter Try.func202, Try.ntmps202
      go_wp2_with fail
      go_ret
      exact ⟨rfl, 0, rfl⟩
  · rw [parts_not (pre_1 h1)]
    obtain ⟨a, c, rfl, _⟩ := h
    go_enter Try.func202, Try.ntmps202
    go_wp2_with fail
    go_ret
    exact ⟨rfl, 0, rfl⟩
end Go.Proofs.Ytjmjnkilgoelbaa

namespace Go.Proofs.Ytjmjnkilgoelbaa
open Go.RowKit

theorem dot_step : ∀ {c x : List Int} {k : Nat} {a b : Int}, c[k]? = some a → x[k]? = some b → dotI (c.take (k + 1)) (x.take (k + 1)) = dotI (c.take k) (x.take k) + a * b
  | [], _, k, a, b, h, _ => by simp at h
  | _ :: _, [], k, a, b, _, h => by simp at h
  | c0 :: c, x0 :: x, 0, a, b, h, h' => by
    simp at h h'
    subst h; subst h'
    simp [dotI]
  | c0 :: c, x0 :: x, k + 1, a, b, h, h' => by
    have := dot_step (c := c) (x := x) (k := k) (a := a) (b := b) (by simpa using h) (by simpa using h')
    simp only [List.take_succ_cons, dotI]
    rw [this]; omega

theorem mul_bd {a b : Int} (ha : isC a = true) (hb : isV b = true) : -8589934592 ≤ a * b ∧ a * b ≤ 8589934592 := by
  unfold isC at ha
  unfold isV at hb
  simp only [Bool.and_eq_true, decide_eq_true_eq] at ha hb
  have : a = -4 ∨ a = -3 ∨ a = -2 ∨ a = -1 ∨ a = 0 ∨ a = 1 ∨ a = 2 ∨ a = 3 ∨ a = 4 := by omega
  rcases this with rfl | rfl | rfl | rfl | rfl | rfl | rfl | rfl | rfl <;> omega

theorem dot_bd : ∀ {c x : List Int}, c.all isC = true → x.all isV = true → c.length ≤ 8 → -(8589934592 * (c.length : Int)) ≤ dotI c x ∧ dotI c x ≤ 8589934592 * (c.length : Int)
  | [], x, _, _, _ => by simp [dotI]
  | _ :: _, [], _, _, h => by simp only [dotI, List.length_cons]; omega
  | a :: c, b :: x, hc, hx, h => by
    simp only [List.all_cons, Bool.and_eq_true] at hc hx
    have := dot_bd (c := c) (x := x) hc.2 hx.2 (by simp at h; omega)
    have := mul_bd hc.1 hx.1
    simp only [dotI, List.length_cons]
    omega

theorem partsB_yes {l : List Int} {dim : Int} (h : partsB l dim = true) : 1 ≤ dim ∧ dim ≤ 8 ∧ (l.length : Int) = dim ∧ l.all isC = true := by
  rw [partsB_is] at h
  unfold preB at h
  simp only [Bool.and_eq_true, decide_eq_true_eq] at h
  exact ⟨h.1.1.1.1, h.1.1.1.2, h.1.1.2, h.1.2⟩

theorem vecB_yes {l : List Int} {dim : Int} (h : vecB l dim = true) : 1 ≤ dim ∧ dim ≤ 8 ∧ (l.length : Int) = dim ∧ l.all isV = true := by
  rw [vecB_is] at h
  unfold preB at h
  simp only [Bool.and_eq_true, decide_eq_true_eq] at h
  exact ⟨h.1.1.1, h.1.1.2, h.1.2, h.2⟩

theorem all_take {p : Int → Bool} {l : List Int} (h : l.all p = true) (k : Nat) : (l.take k).all p = true := by
  rw [List.all_eq_true] at h ⊢
  exact fun x hx => h x (List.mem_of_mem_take hx)

theorem all_at {p : Int → Bool} {l : List Int} (h : l.all p = true) {k : Nat} {x : Int} (hx : l[k]? = some x) : p x = true := by
  rw [List.all_eq_true] at h
  exact h x (List.mem_of_getElem? hx)

def dotOk (c x : List Int) : Bool := partsB c c.length && vecB x c.length

set_option maxHeartbeats 1000000 in
theorem risv_any (v : Value) (l : List Int) (dim : Int) (w : World) (h : Ints .i64 w v l) :
    Calls Try.prog 117 #[v, .int .i64 dim] w fun e w' => e = .returned (.bool (vecB l dim)) ∧ w = w' := by
  obtain ⟨a, c, rfl, _, _, h3, h⟩ := h
  have H := Lib.hid h; clear h
  rw [vecB_is]
  by_cases h1 : 1 ≤ dim
  · by_cases h2 : dim ≤ 8
    · by_cases h4 : (l.length : Int) = dim
      · rw [pre_yes h1 h2 h4, Bool.true_and]
        have h5 : ((l.length : Int) != dim) = false := by simp [h4]
        go_enter Try.func117, Try.ntmps117
        go_wp2_with fail
        go_loopw [5] (fun i wr => ∃ k : Nat, i = .int .i64 k ∧ k ≤ l.length ∧ (l.take k).all isV = true ∧ w = wr) (fun i _ => l.length + 1 - (intOf i).toNat)
        case atStart => exact ⟨0, rfl, by omega, by simp, rfl⟩
        case round =>
          obtain ⟨k, rfl, hk, hA, rfl⟩ := hrel
          have HA := Lib.hid hA
          clear hA
          by_cases hlt : k < l.length
          · obtain ⟨x, hx⟩ := getElem?_ex hlt
            obtain ⟨b1, o1, rfl, hb1, hc1⟩ := H.out k x hx
            have hs := all_step (p := isV) hx
            have HS := Lib.hid hs
            have i1 : (0 : Int) ≤ (k : Int) := by omega
            have i2 : (k : Int) < (l.length : Int) := by omega
            have i3 : (k : Int) ≤ 140737488351232 := by omega
            clear hx hs
            by_cases g1 : -2147483648 ≤ x
            · by_cases g2 : x ≤ 2147483647
              · have G := Lib.hid (show isV x = true by unfold isV; simp [g1, g2])
                go_wp2_with fail
                go_roundw
                case rel => exact ⟨k + 1, by go_num, by omega, by rw [HS.out, HA.out, G.out]; rfl, trivial⟩
                case measure => simp [intOf] <;> omega
              · have G := Lib.hid (show l.all isV = false from all_false_of_take (k := k + 1) (by rw [HS.out, show isV x = false by unfold isV; simp [g2]] <;> simp))
                go_wp2_with fail
                go_ret
                exact ⟨ret_bool G.out.symm, rfl⟩
            · have G := Lib.hid (show l.all isV = false from all_false_of_take (k := k + 1) (by rw [HS.out, show isV x = false by unfold isV; simp [g1]] <;> simp))
              go_wp2_with fail
              go_ret
              exact ⟨ret_bool G.out.symm, rfl⟩
          · obtain rfl : k = l.length := by omega
            go_wp2_with fail
            go_ret
            refine ⟨ret_bool ?_, rfl⟩
            have hA := HA.out
            rw [List.take_length] at hA
            exact hA.symm
      · rw [pre_3 h4, Bool.false_and]
        have h5 : ((l.length : Int) != dim) = true := by simp [h4]
        go_enter Try.func117, Try.ntmps117
        go_wp2_with fail
        go_ret
        exact ⟨rfl, rfl⟩
    · rw [pre_2 h2, Bool.false_and]
      go_enter Try.func117, Try.ntmps117
      go_wp2_with fail
      go_ret
      exact ⟨rfl, rfl⟩
  · rw [pre_1 h1, Bool.false_and]
    go_enter Try.func117, Try.ntmps117
    go_wp2_with fail
    go_ret
    exact ⟨rfl, rfl⟩

set_option maxHeartbeats 1000000 in
theorem rparts_any (v : Value) (l : List Int) (dim : Int) (w : World) (h : Ints .i64 w v l) :
    Calls Try.prog 224 #[v, .int .i64 dim] w fun e w' => e = .returned (.bool (partsB l dim)) ∧ w = w' := by
  obtain ⟨a, c, rfl, _, _, h3, h⟩ := h
  have H := Lib.hid h; clear h
  rw [partsB_is]
  by_cases h1 : 1 ≤ dim
  · by_cases h2 : dim ≤ 8
    · by_cases h4 : (l.length : Int) = dim
      · rw [pre_yes h1 h2 h4, Bool.true_and]
        have h5 : ((l.length : Int) != dim) = false := by simp [h4]
        go_enter Try.func224, Try.ntmps224
        go_wp2_with fail
        go_loopw [5, 6] (fun s i wr => ∃ k : Nat, i = .int .i64 k ∧ k ≤ l.length ∧ (l.take k).all isC = true ∧ s = .bool ((l.take k).any fun x => decide (x ≠ 0)) ∧ w = wr) (fun _ i _ => l.length + 1 - (intOf i).toNat)
        case atStart => exact ⟨0, rfl, by omega, by simp, by simp, rfl⟩
        case round =>
          obtain ⟨k, rfl, hk, hA, rfl, rfl⟩ := hrel
          have HA := Lib.hid hA
          clear hA
          by_cases hlt : k < l.length
          · obtain ⟨x, hx⟩ := getElem?_ex hlt
            obtain ⟨b1, o1, rfl, hb1, hc1⟩ := H.out k x hx
            have hs := all_step (p := isC) hx
            have HS := Lib.hid hs
            have HS2 := Lib.hid (any_step (p := fun x => decide (x ≠ 0)) hx)
            have i1 : (0 : Int) ≤ (k : Int) := by omega
            have i2 : (k : Int) < (l.length : Int) := by omega
            have i3 : (k : Int) ≤ 140737488351232 := by omega
            obtain ⟨S, hS⟩ : ∃ S, ((l.take k).any fun x => decide (x ≠ 0)) = S := ⟨_, rfl⟩
            rw [hS] at HS2 ⊢
            clear hx hs hS
            by_cases g1 : -4 ≤ x
            · by_cases g2 : x ≤ 4
              · have G := Lib.hid (show isC x = true by unfold isC; simp [g1, g2])
                cases S with
                | true =>
                  go_wp2_with fail
                  go_roundw
                  case rel => exact ⟨k + 1, by go_num, by omega, by rw [HS.out, HA.out, G.out]; rfl, by rw [HS2.out]; rfl, trivial⟩
                  case measure => simp [intOf] <;> omega
                | false =>
                  by_cases g3 : x = 0
                  · have g4 : (x != 0) = false := by simp [g3]
                    have G2 := Lib.hid (show decide (x ≠ 0) = false by simp [g3])
                    clear g3
                    go_wp2_with fail
                    go_roundw
                    case rel => exact ⟨k + 1, by go_num, by omega, by rw [HS.out, HA.out, G.out]; rfl, by rw [HS2.out, G2.out]; rfl, trivial⟩
                    case measure => simp [intOf] <;> omega
                  · have g4 : (x != 0) = true := by simp [g3]
                    have G2 := Lib.hid (show decide (x ≠ 0) = true by simp [g3])
                    clear g3
                    go_wp2_with fail
                    go_roundw
                    case rel => exact ⟨k + 1, by go_num, by omega, by rw [HS.out, HA.out, G.out]; rfl, by rw [HS2.out, G2.out]; rfl, trivial⟩
                    case measure => simp [intOf] <;> omega
              · have G := Lib.hid (show l.all isC = false from all_false_of_take (k := k + 1) (by rw [HS.out, show isC x = false by unfold isC; simp [g2]] <;> simp))
                go_wp2_with fail
                go_ret
                exact ⟨ret_bool (by rw [G.out]; rfl), rfl⟩
            · have G := Lib.hid (show l.all isC = false from all_false_of_take (k := k + 1) (by rw [HS.out, show isC x = false by unfold isC; simp [g1]] <;> simp))
              go_wp2_with fail
              go_ret
              exact ⟨ret_bool (by rw [G.out]; rfl), rfl⟩
          · obtain rfl : k = l.length := by omega
            go_wp2_with fail
            go_ret
            refine ⟨ret_bool ?_, rfl⟩
            have hA := HA.out
            rw [List.take_length] at hA
            rw [hA]
            simp
      · rw [pre_3 h4, Bool.false_and, Bool.false_and]
        have h5 : ((l.length : Int) != dim) = true := by simp [h4]
        go_enter Try.func224, Try.ntmps224
        go_wp2_with fail
        go_ret
        exact ⟨rfl, rfl⟩
    · rw [pre_2 h2, Bool.false_and, Bool.false_and]
      go_enter Try.func224, Try.ntmps224
      go_wp2_with fail
      go_ret
      exact ⟨rfl, rfl⟩
  · rw [pre_1 h1, Bool.false_and, Bool.false_and]
    go_enter Try.func224, Try.ntmps224
    go_wp2_with fail
    go_ret
    exact ⟨rfl, rfl⟩
set_option maxHeartbeats 2000000 in
theorem rdot_any (v v2 : Value) (c x : List Int) (w : World) (h : Ints .i64 w v c) (h2 : Ints .i64 w v2 x) :
    Calls Try.prog 227 #[v, v2] w fun e w' => e = .returned (.tuple #[.int .i64 (if dotOk c x then dotI c x else 0), .int .i64 (if dotOk c x then 0 else 80)]) ∧ ∃ n, w' = w.drewN n := by
  have HC := Lib.hid (fun W dim (hW : Ints .i64 W v c) => rparts_any v c dim W hW)
  have HD := Lib.hid (fun W dim (hW : Ints .i64 W v2 x) => risv_any v2 x dim W hW)
  have HI := Lib.hid h
  have HJ := Lib.hid h2
  obtain ⟨a, cc, rfl, _, _, q3, h⟩ := h
  obtain ⟨a2, cc2, rfl, _, _, q32, h2⟩ := h2
  unfold dotOk
  cases hp : partsB c c.length with
  | false =>
    obtain ⟨m, hm⟩ : ∃ m, c.length = m := ⟨_, rfl⟩
    rw [hm] at hp HC HI ⊢
    have HCC := Lib.hid (fun W (hW : Ints .i64 W (.slice a m cc) c) => hp ▸ HC.out W m hW)
    clear hp HC h h2 hm
    go_enter Try.func227, Try.ntmps227
    go_wp2_with fail
    refine (HCC.out _ HI.out).mono ?_
    rintro e w1 ⟨rfl, rfl⟩
    go_wp2_with fail
    exact bodyPost_ret (v := .tuple #[.int .i64 0, .int .i64 80]) (by simp [results, Try.results227, go_sem]) rfl ⟨rfl, 0, rfl⟩
  | true =>
    cases hv : vecB x c.length with
    | false =>
      obtain ⟨m, hm⟩ : ∃ m, c.length = m := ⟨_, rfl⟩
      rw [hm] at hp hv HC HI ⊢
      have HCC := Lib.hid (fun W (hW : Ints .i64 W (.slice a m cc) c) => hp ▸ HC.out W m hW)
      have HDD := Lib.hid (fun W (hW : Ints .i64 W (.slice a2 x.length cc2) x) => hv ▸ HD.out W m hW)
      clear hp hv HC HD h h2 hm
      go_enter Try.func227, Try.ntmps227
      go_wp2_with fail
      refine (HCC.out _ HI.out).mono ?_
      rintro e w1 ⟨rfl, rfl⟩
      go_wp2_with fail
      refine (HDD.out _ HJ.out).mono ?_
      rintro e w1 ⟨rfl, rfl⟩
      go_wp2_with fail
      exact bodyPost_ret (v := .tuple #[.int .i64 0, .int .i64 80]) (by simp [results, Try.results227, go_sem]) rfl ⟨rfl, 0, rfl⟩
    | true =>
      obtain ⟨p1, p2, p3, p4⟩ := partsB_yes hp
      obtain ⟨r1, r2, r3, r4⟩ := vecB_yes hv
      have hlen : x.length = c.length := by omega
      have HL := Lib.hid hlen
      obtain ⟨m, hm⟩ : ∃ m, c.length = m := ⟨_, rfl⟩
      rw [hlen] at HD HJ q32 ⊢
      have HM := Lib.hid hm
      rw [hm] at hp hv HC HD HI HJ p2 q3 q32 ⊢
      have HCC := Lib.hid (fun W (hW : Ints .i64 W (.slice a m cc) c) => hp ▸ HC.out W m hW)
      have HDD := Lib.hid (fun W (hW : Ints .i64 W (.slice a2 m cc2) x) => hv ▸ HD.out W m hW)
      have HA := Lib.hid h
      have HB := Lib.hid h2
      have HP4 := Lib.hid p4
      have HR4 := Lib.hid r4
      have i8 : (m : Int) ≤ 8 := by omega
      clear hp hv HC HD h h2 hm hlen p1 p2 p3 p4 r1 r2 r3 r4
      go_enter Try.func227, Try.ntmps227
      go_wp2_with fail
      refine (HCC.out _ HI.out).mono ?_
      rintro e w1 ⟨rfl, rfl⟩
      go_wp2_with fail
      refine (HDD.out _ HJ.out).mono ?_
      rintro e w1 ⟨rfl, rfl⟩
      go_wp2_with fail
      go_loopw [6, 7] (fun s i wr => ∃ k : Nat, i = .int .i64 k ∧ k ≤ m ∧ s = .int .i64 (dotI (c.take k) (x.take k)) ∧ ∃ d, wr = w.drewN d) (fun _ i _ => m - (intOf i).toNat)
      case atStart => exact ⟨0, rfl, by omega, by simp [dotI], 0, rfl⟩
      case round =>
        obtain ⟨k, rfl, hk, rfl, d, rfl⟩ := hrel
        by_cases hlt : k < m
        · obtain ⟨y, hy⟩ := getElem?_ex (l := c) (k := k) (by rw [HM.out]; exact hlt)
          obtain ⟨z, hz⟩ := getElem?_ex (l := x) (k := k) (by rw [HL.out, HM.out]; exact hlt)
          obtain ⟨b1, o1, rfl, hb1, hc1⟩ := HA.out k y hy
          obtain ⟨b2, o2, rfl, hb2, hc2⟩ := HB.out k z hz
          have hs := dot_step hy hz
          have hb := dot_bd (all_take HP4.out k) (all_take HR4.out k) (by simp; omega)
          have hmb := mul_bd (all_at HP4.out hy) (all_at HR4.out hz)
          have hlk : (((c.take k).length : Nat) : Int) ≤ 8 := by simp; omega
          obtain ⟨A, hA⟩ : ∃ A, dotI (c.take k) (x.take k) = A := ⟨_, rfl⟩
          have hb1' : -68719476736 ≤ A := by omega
          have hb2' : A ≤ 68719476736 := by omega
          rw [hA] at hs ⊢
          obtain ⟨p, hp⟩ : ∃ p, y * z = p := ⟨_, rfl⟩
          have hm1 := hmb.1
          have hm2 := hmb.2
          rw [hp] at hs hm1 hm2
          have HS := Lib.hid hs
          have i1 : (0 : Int) ≤ (k : Int) := by omega
          have i2 : (k : Int) < (m : Int) := by omega
          clear hy hz hs hb hmb hA hlk
          go_wp2_with fail
          go_quiet (fail)
          go_wp2_with fail
          go_roundw
          case rel => exact ⟨k + 1, by go_num, by omega, by rw [HS.out], _, rfl⟩
          case measure => simp [intOf] <;> omega
        · obtain rfl : k = m := by omega
          have hT1 := Lib.hid (List.take_of_length_le (l := c) (i := k) (by rw [HM.out]; omega))
          have hT2 := Lib.hid (List.take_of_length_le (l := x) (i := k) (by rw [HL.out, HM.out]; omega))
          go_wp2_with fail
          exact bodyPost_ret (v := .tuple #[.int .i64 (dotI (c.take k) (x.take k)), .int .i64 0]) (by simp [results, Try.results227, go_sem]) rfl ⟨by rw [hT1.out, hT2.out], _, rfl⟩

end Go.Proofs.Ytjmjnkilgoelbaa

namespace Go.Proofs.Ytjmjnkilgoelbaa
open Go.RowKit

/-- A seen event is right. -/
def seenB (id : Int) (x : List Int) (P Q : Int) (s : Bool) (dim : Int) : Bool := decide (1 ≤ id ∧ id ≤ 1099511627776) && vecB x dim && (if s = true then scoreB (P, Q) else decide (P = 0 ∧ Q = 0))

set_option maxRecDepth 100000 in
set_option maxHeartbeats 8000000 in
theorem rightSeen_any (id P Q dim : Int) (s : Bool) (vx : Value) (x : List Int) (w : World) (h : Ints .i64 w vx x) :
    Calls Try.prog 48 #[.agg #[.int .i64 id, vx, .int .i64 P, .int .i64 Q, .bool s], .int .i64 dim] w fun e w' => e = .returned (.bool (seenB id x P Q s dim)) ∧ Below w.heap.size w w' := by
  have HX := Lib.hid h
  obtain ⟨xa, xc, rfl⟩ := h.shape
  have HV := Lib.hid (fun W (hW : Ints .i64 W (.slice xa x.length xc) x) => vis_any _ x dim W hW)
  have HS := Lib.hid (fun W => sis_any P Q W)
  have HR := Lib.hid (show seenB id x P Q s dim = (decide (1 ≤ id ∧ id ≤ 1099511627776) && vecB x dim && (if s = true then scoreB (P, Q) else decide (P = 0 ∧ Q = 0))) from rfl)
  generalize seenB id x P Q s dim = R at *
  clear h
  by_cases hid : 1 ≤ id ∧ id ≤ 1099511627776
  · rw [decide_eq_true hid] at HR
    obtain ⟨i1, i2⟩ := hid
    generalize vecB x dim = V at *
    cases V with
    | false =>
      have HR2 := Lib.hid (show R = false by rw [HR.out]; rfl)
      clear HR
      go_enter Try.func48, Try.ntmps48
      go_wp2_with fail
      (with_reducible refine (HV.out _ (HX.out.below (by (repeat (first | with_reducible exact Below.refl _ _ | with_reducible refine Bs ?_ | with_reducible refine Ba ?_ | with_reducible refine Bd ?_ | with_reducible refine Bn ?_))))).mono ?_)
      rintro e w1 ⟨rfl, rfl⟩
      go_wp2_with fail
      go_ret
      exact ⟨ret_bool HR2.out.symm, by (repeat (first | with_reducible exact Below.refl _ _ | with_reducible refine Bs ?_ | with_reducible refine Ba ?_ | with_reducible refine Bd ?_ | with_reducible refine Bn ?_))⟩
    | true =>
      cases s with
      | true =>
        have HR2 := Lib.hid (show R = scoreB (P, Q) by rw [HR.out]; rfl)
        clear HR
        generalize scoreB (P, Q) = B at *
        cases B with
        | true =>
          go_enter Try.func48, Try.ntmps48
          go_wp2_with fail
          (with_reducible refine (HV.out _ (HX.out.below (by (repeat (first | with_reducible exact Below.refl _ _ | with_reducible refine Bs ?_ | with_reducible refine Ba ?_ | with_reducible refine Bd ?_ | with_reducible refine Bn ?_))))).mono ?_)
          rintro e w1 ⟨rfl, rfl⟩
          go_wp2_with fail
          (with_reducible refine (HS.out _).mono ?_); rintro e w2 ⟨rfl, b2⟩; have s2 : w.heap.size + 1 ≤ w2.heap.size := sz b2; have B2 := Lib.hid (Bc (B := w.heap.size) (a := w) (by (repeat (first | with_reducible exact Below.refl _ _ | with_reducible refine Bs ?_ | with_reducible refine Ba ?_ | with_reducible refine Bd ?_ | with_reducible refine Bn ?_))) b2); obtain ⟨c2_0, c2_1, c2_2, c2_3, c2_4⟩ := k5 (w.heap.size) (.int .i64 id) (.slice xa x.length xc) (.int .i64 P) (.int .i64 Q) (.bool true) b2 (by and_intros <;> go_simp); obtain ⟨l2_0, n2_0, m2_0⟩ := lnm (show w.heap.size < w2.heap.size by omega); clear b2
          go_wp2_with fail
          go_ret
          exact ⟨ret_bool HR2.out.symm, B2.out⟩
        | false =>
          go_enter Try.func48, Try.ntmps48
          go_wp2_with fail
          (with_reducible refine (HV.out _ (HX.out.below (by (repeat (first | with_reducible exact Below.refl _ _ | with_reducible refine Bs ?_ | with_reducible refine Ba ?_ | with_reducible refine Bd ?_ | with_reducible refine Bn ?_))))).mono ?_)
          rintro e w1 ⟨rfl, rfl⟩
          go_wp2_with fail
          (with_reducible refine (HS.out _).mono ?_); rintro e w2 ⟨rfl, b2⟩; have s2 : w.heap.size + 1 ≤ w2.heap.size := sz b2; have B2 := Lib.hid (Bc (B := w.heap.size) (a := w) (by (repeat (first | with_reducible exact Below.refl _ _ | with_reducible refine Bs ?_ | with_reducible refine Ba ?_ | with_reducible refine Bd ?_ | with_reducible refine Bn ?_))) b2); obtain ⟨c2_0, c2_1, c2_2, c2_3, c2_4⟩ := k5 (w.heap.size) (.int .i64 id) (.slice xa x.length xc) (.int .i64 P) (.int .i64 Q) (.bool true) b2 (by and_intros <;> go_simp); obtain ⟨l2_0, n2_0, m2_0⟩ := lnm (show w.heap.size < w2.heap.size by omega); clear b2
          go_wp2_with fail
          go_ret
          exact ⟨ret_bool HR2.out.symm, B2.out⟩
      | false =>
        have HR2 := Lib.hid (show R = decide (P = 0 ∧ Q = 0) by rw [HR.out]; rfl)
        clear HR
        go_enter Try.func48, Try.ntmps48
        go_wp2_with fail
        (with_reducible refine (HV.out _ (HX.out.below (by (repeat (first | with_reducible exact Below.refl _ _ | with_reducible refine Bs ?_ | with_reducible refine Ba ?_ | with_reducible refine Bd ?_ | with_reducible refine Bn ?_))))).mono ?_)
        rintro e w1 ⟨rfl, rfl⟩
        go_wp2_with fail
        all_goals
          go_ret
          refine ⟨ret_bool ?_, by (repeat (first | with_reducible exact Below.refl _ _ | with_reducible refine Bs ?_ | with_reducible refine Ba ?_ | with_reducible refine Bd ?_ | with_reducible refine Bn ?_))⟩
          rw [HR2.out]
          first | rfl | (simp [*]; done)
  · have HR2 := Lib.hid (show R = false by rw [HR.out, decide_eq_false hid]; rfl)
    clear HR
    have hid2 : id < 1 ∨ 1099511627776 < id := by omega
    clear hid
    rcases hid2 with h1 | h1
    · go_enter Try.func48, Try.ntmps48
      go_wp2_with fail
      go_ret
      exact ⟨ret_bool HR2.out.symm, by (repeat (first | with_reducible exact Below.refl _ _ | with_reducible refine Bs ?_ | with_reducible refine Ba ?_ | with_reducible refine Bd ?_ | with_reducible refine Bn ?_))⟩
    · have h2 : ¬ id < 1 := by omega
      go_enter Try.func48, Try.ntmps48
      go_wp2_with fail
      go_ret
      exact ⟨ret_bool HR2.out.symm, by (repeat (first | with_reducible exact Below.refl _ _ | with_reducible refine Bs ?_ | with_reducible refine Ba ?_ | with_reducible refine Bd ?_ | with_reducible refine Bn ?_))⟩
end Go.Proofs.Ytjmjnkilgoelbaa

namespace Go.Proofs.Ytjmjnkilgoelbaa
open Go.RowKit

/-- From the world a to the world m no block of a has changed. -/
def Since (a m : World) : Prop := Below a.heap.size a m

theorem Since.below {a m w : World} (h : Since a m) (k : Below m.heap.size m w) : Since a w := Bc h k h.size

theorem Since.own {a m w : World} (h : Since a m) (k : Below a.heap.size m w) : Since a w := Bc h k (Nat.le_refl _)

theorem seqTk {P : Program} {ops : Array Oper} {rest : List Oper} {o : Oper} {a : Act} {w : World} {Q : Exit → Act → World → Prop} {v : Value} (hw : Region.wanted o (yielded ops a.tmps) = true)
    (h : wpList P ops Q rest (a.put o.dst v) w) (hy : (execOp a.eval o).run P w = .ok (.value v) w) : wpList P ops Q (o :: rest) a w :=
  wpList_step fun K hK => by
    rw [if_pos hw]
    unfold Oper.wp
    rw [hy]
    exact hK _ _ h

theorem lexTk {P : Program} {md : Region.Mode} {ops : Array Oper} {Q : Exit → Act → World → Prop} {S : World → Prop} (i : Nat) {oi : Oper} {v : Value} {fuel : Nat} {listed : Array Bool} {a : Act} {w : World} (hi : ops.toList[i]? = some oi)
    (hS : S w) (h : wpAnyH P md ops Q S fuel (listed.setIfInBounds i true) (a.put oi.dst v) w) (hB : (Region.noSelect ops && Region.free md ops listed i && (Region.ready md ops listed).contains i) = true) (hQ : ∀ c a w, Q (.panic c) (a.put oi.dst v) w → Q (.panic c) a w)
    (hw : Region.wanted oi (yielded ops a.tmps) = true) (hy : ∀ w, S w → (execOp a.eval oi).run P w = .ok (.value v) w) : wpAnyH P md ops Q S (fuel + 1) listed a w := by
  simp only [Bool.and_eq_true] at hB
  exact wpAnyH_take (by simpa using hi) hB.1.1 hB.1.2 hB.2 hQ (Or.inl ⟨hw, hy⟩) hS h

theorem lexSk {P : Program} {md : Region.Mode} {ops : Array Oper} {Q : Exit → Act → World → Prop} {S : World → Prop} (i : Nat) {oi : Oper} {fuel : Nat} {listed : Array Bool} {a : Act} {w : World} (hi : ops.toList[i]? = some oi)
    (hS : S w) (h : wpAnyH P md ops Q S fuel (listed.setIfInBounds i true) (a.put oi.dst undef) w) (hB : (Region.noSelect ops && Region.free md ops listed i && (Region.ready md ops listed).contains i) = true) (hQ : ∀ c a w, Q (.panic c) (a.put oi.dst undef) w → Q (.panic c) a w)
    (hw : Region.wanted oi (yielded ops a.tmps) = false) : wpAnyH P md ops Q S (fuel + 1) listed a w := by
  simp only [Bool.and_eq_true] at hB
  exact wpAnyH_take (by simpa using hi) hB.1.1 hB.1.2 hB.2 hQ (Or.inr ⟨hw, rfl⟩) hS h

theorem lexHv {P : Program} {md : Region.Mode} {ops : Array Oper} {Q : Exit → Act → World → Prop} {S : World → Prop} (i : Nat) {o : Oper} {fuel : Nat} {listed : Array Bool} {a : Act} {w : World} (hi : ops.toList[i]? = some o)
    (h : ∀ K' : Act → World → Prop, Shut (∀ a w, S w → (S w → wpAnyH P md ops Q S fuel (listed.setIfInBounds i true) a w) → K' a w) → if Region.wanted o (yielded ops a.tmps) = true then Oper.wp P o a w K' Q else K' (a.put o.dst undef) w)
    (hr : Region.ready md ops listed = [i]) : wpAnyH P md ops Q S (fuel + 1) listed a w :=
  wpAnyH_ready hr (by simp) (AllReadyH.cons (by simpa using hi) h AllReadyH.nil)

theorem lexHv2 {P : Program} {md : Region.Mode} {ops : Array Oper} {Q : Exit → Act → World → Prop} {S : World → Prop} (i j : Nat) {o o' : Oper} {fuel : Nat} {listed : Array Bool} {a : Act} {w : World} (hi : ops.toList[i]? = some o) (hj : ops.toList[j]? = some o')
    (h : ∀ K' : Act → World → Prop, Shut (∀ a w, S w → (S w → wpAnyH P md ops Q S fuel (listed.setIfInBounds i true) a w) → K' a w) → if Region.wanted o (yielded ops a.tmps) = true then Oper.wp P o a w K' Q else K' (a.put o.dst undef) w)
    (h' : ∀ K' : Act → World → Prop, Shut (∀ a w, S w → (S w → wpAnyH P md ops Q S fuel (listed.setIfInBounds j true) a w) → K' a w) → if Region.wanted o' (yielded ops a.tmps) = true then Oper.wp P o' a w K' Q else K' (a.put o'.dst undef) w)
    (hr : Region.ready md ops listed = [i, j]) : wpAnyH P md ops Q S (fuel + 1) listed a w :=
  wpAnyH_ready hr (by simp) (AllReadyH.cons (by simpa using hi) h (AllReadyH.cons (by simpa using hj) h' AllReadyH.nil))
end Go.Proofs.Ytjmjnkilgoelbaa

namespace Go.Proofs.Ytjmjnkilgoelbaa
open Go.RowKit

def RdF (k : IntKind) (w : World) (R : Nat) (v : Value) (l : List Int) (r : List Int × Nat × Int) (e : Ending) (w' : World) : Prop := ∃ v', e = .returned v' ∧ Ints k w' v' r.1 ∧ RdTo w R v l w' r.2.1 r.2.2 ∧ Fresh w.heap.size v'

set_option maxRecDepth 100000 in
set_option maxHeartbeats 4000000 in
theorem readIntsF_any {w : World} {R : Nat} {v : Value} {l : List Int} {a : Nat} (h : Rd w R v l a 0) (hb : AllB l) (ha : a ≤ l.length) (hl : l.length ≤ 100000) (most : Int) (hm : Ok64 most) :
    Calls Try.prog 107 #[.pointer (some ⟨R, 0, none⟩), .int .i64 most] w fun e w' => RdF .i64 w R v l (rdInts l a most) e w' := by
  have HN := Lib.hid (readN_any h hb ha hl most hm)
  have H := Lib.hid h
  obtain ⟨c0, c1, c2, f1, f2⟩ := h.cells
  have hfc := rdN_facts l hb a most
  have hRlt := h.lt
  unfold rdInts
  generalize rdN l a most = r at *
  obtain ⟨n, a', e'⟩ := r
  simp only at hfc HN ⊢
  clear h
  unfold Ok64 at hm
  by_cases he : e' = 0
  · subst he
    obtain ⟨ha1, ha2, hn⟩ := hfc.2 rfl
    rw [if_neg (by omega)]
    clear hfc
    have hn64 : (n : Int) ≤ 9223372036854775807 := by omega
    obtain ⟨X, hX⟩ : ∃ X, rdIs l a n a' [] = X := ⟨_, rfl⟩
    rw [hX]
    have HX := Lib.hid hX
    clear hX
    go_enter_defers Try.func107, Try.ntmps107
    go_wp2_with fail
    refine (dead_no H.out).mono ?_
    rintro e w1 ⟨rfl, rfl⟩
    go_wp2_with fail
    refine HN.out.mono ?_
    rintro e w1 ⟨rfl, h1⟩
    have H1 := Lib.hid h1
    clear h1
    go_wp2_with fail
    go_loopw [5, 6] (fun out m wr => InR w R v l a n X out m wr) (fun _ m _ => (intOf m).toNat)
    case atStart => exact .inl ⟨n, a', [], rfl, Nat.le_refl _, World.ownsRow_nil _ _ _ _, by simp, ha2, H1.out, HX.out⟩
    case round =>
      rcases hrel with ⟨k, p, acc, rfl, hk, ho, hap, hpl, h1, hx⟩ | ⟨e', he, hx, ⟨k, rfl, hk⟩, p, h1⟩
      · have H1 := Lib.hid h1; have HO := Lib.hid ho; have HX := Lib.hid hx
        clear h1 ho hx
        rcases k with _ | k
        · have hx := HX.out
          rw [rdIs] at hx
          rw [show (((0 : Nat) : Int)) = 0 by rfl]
          have HX' := Lib.hid hx
          clear hx
          go_wp2_with fail
          refine (dead_no H1.out.1).mono ?_
          rintro e w2 ⟨rfl, rfl⟩
          go_wp2
          refine leaves_cons (f := 156) (args := #[.pointer (some ⟨R, 0, none⟩), .int .i64 a]) (by simp) (by simp [go_sem]) ?_
          refine (back_rd .returning a H1.out.1).mono ?_
          rintro e u' w'' ⟨rfl, rfl, h4⟩
          rw [if_pos rfl] at h4
          have hx := HX'.out
          subst hx
          exact ⟨_, results_tmp rfl _ _ _, u5, rfl, (Ints.own (own_only HO.out h4.2 hRlt) (by omega)).2, H1.out.trans h4, Fresh.own HO.out⟩
        · have hI := readI_any H1.out.1 hb hpl hl
          have hif := rdI_facts l hb p
          have hx := HX.out
          rw [rdIs] at hx
          generalize rdI l p = r at *
          obtain ⟨x, p', e'⟩ := r
          simp only at hI hif hx
          have HI := Lib.hid hI
          have HX' := Lib.hid hx
          clear hI hx HX
          have e1 : wrap64 (((k + 1 : Nat) : Int) - 1) = k := by rw [IntWalk.wrap64_in _ (by omega)]; omega
          have hpos : (0 : Int) < ((k + 1 : Nat) : Int) := by omega
          go_wp2_with fail
          refine (dead_no H1.out.1).mono ?_
          rintro e w2 ⟨rfl, rfl⟩
          go_wp2_with fail
          refine HI.out.mono ?_
          rintro e w2 ⟨rfl, h2⟩
          have HO2 := Lib.hid (own_only HO.out h2.2 hRlt)
          have H2 := Lib.hid h2
          have hsz := h2.2.size
          clear h2
          go_wp2_with (at_builtin; go_must (refine app1 rfl _ _ 61 rfl Try.underlying61 eiInt w.heap.size (by rfl) HO2.out (by rfl) rfl (by simp [Value.oneCell']) (by omega) (Nat.le_trans H1.out.2.size hsz) ?_))
          intro v3 w3 ho3 hb3 _
          have HB3 := Lib.hid hb3
          have HO3 := Lib.hid (OwnI.app (by simpa using ho3))
          clear hb3 ho3
          by_cases he : e' = 0
          · subst he
            have hx := HX'.out
            rw [if_neg (by omega)] at hx
            have HX2 := Lib.hid hx
            have hif2 := hif.2 rfl
            clear hx HX' hif
            go_wp2
            go_roundw
            case rel => exact .inl ⟨k, p', acc ++ [x], by go_num, by omega, HO3.out, by simp; omega, hif2.2, RdTo.belowB H.out (RdTo.trans H1.out H2.out) HB3.out, HX2.out⟩
            case measure => simp [intOf] <;> omega
          · have hx := HX'.out
            rw [if_pos he] at hx
            have HX2 := Lib.hid hx
            have HE := Lib.hid he
            clear hx HX' hif he
            go_wp2
            go_roundw
            case rel => exact .inr ⟨e', HE.out, HX2.out.symm, ⟨k, by go_num, by omega⟩, p', RdTo.belowB H.out (RdTo.trans H1.out H2.out) HB3.out⟩
            case measure => simp [intOf] <;> omega
      · have H1 := Lib.hid h1; have HX := Lib.hid hx; have HE := Lib.hid he
        clear h1 hx he
        by_cases hk0 : (0 : Int) < k
        · go_wp2_with fail
          refine (dead_yes H1.out.1 HE.out).mono ?_
          rintro e w2 ⟨rfl, rfl⟩
          go_wp2_with fail
          refine (dead_yes H1.out.1 HE.out).mono ?_
          rintro e w2 ⟨rfl, rfl⟩
          go_wp2
          refine leaves_cons (f := 156) (args := #[.pointer (some ⟨R, 0, none⟩), .int .i64 a]) (by simp) (by simp [go_sem]) ?_
          refine (back_rd .returning a H1.out.1).mono ?_
          rintro e u' w'' ⟨rfl, rfl, h4⟩
          rw [if_neg HE.out] at h4
          have hx := HX.out
          subst hx
          exact ⟨_, results_tmp rfl _ _ _, _, rfl, ints_nil _ _ _ _ (by omega), H1.out.trans h4, fresh_nil _ _ _⟩
        · go_wp2_with fail
          refine (dead_yes H1.out.1 HE.out).mono ?_
          rintro e w2 ⟨rfl, rfl⟩
          go_wp2
          refine leaves_cons (f := 156) (args := #[.pointer (some ⟨R, 0, none⟩), .int .i64 a]) (by simp) (by simp [go_sem]) ?_
          refine (back_rd .returning a H1.out.1).mono ?_
          rintro e u' w'' ⟨rfl, rfl, h4⟩
          rw [if_neg HE.out] at h4
          have hx := HX.out
          subst hx
          exact ⟨_, results_tmp rfl _ _ _, _, rfl, ints_nil _ _ _ _ (by omega), H1.out.trans h4, fresh_nil _ _ _⟩
  · obtain ⟨rfl, rfl⟩ := hfc.1 he
    rw [if_pos he]
    clear hfc
    go_enter_defers Try.func107, Try.ntmps107
    go_wp2_with fail
    refine (dead_no H.out).mono ?_
    rintro e w1 ⟨rfl, rfl⟩
    go_wp2_with fail
    refine HN.out.mono ?_
    rintro e w1 ⟨rfl, h1⟩
    have H1 := Lib.hid h1
    clear h1
    go_wp2_with fail
    go_loopw [5, 6] (fun out m wr => out = .slice none 0 0 ∧ m = .int .i64 0 ∧ wr = w1) (fun _ _ _ => 0)
    case atStart => exact ⟨rfl, rfl, rfl⟩
    case round =>
      obtain ⟨rfl, rfl, rfl⟩ := hrel
      go_wp2_with fail
      refine (dead_yes H1.out.1 he).mono ?_
      rintro e w2 ⟨rfl, rfl⟩
      go_wp2
      refine leaves_cons (f := 156) (args := #[.pointer (some ⟨R, 0, none⟩), .int .i64 a']) (by simp) (by simp [go_sem]) ?_
      refine (back_rd .returning a' H1.out.1).mono ?_
      rintro e u' w'' ⟨rfl, rfl, h4⟩
      rw [if_neg he] at h4
      exact ⟨_, results_tmp rfl _ _ _, _, rfl, ints_nil _ _ _ _ (by omega), H1.out.trans h4, fresh_nil _ _ _⟩


theorem readIntsF_all {w : World} {R : Nat} {v : Value} {l : List Int} {a : Nat} {e0 : Int} (h : Rd w R v l a e0) (hb : AllB l) (ha : a ≤ l.length) (hl : l.length ≤ 100000) (most : Int) (hm : Ok64 most) :
    Calls Try.prog 107 #[.pointer (some ⟨R, 0, none⟩), .int .i64 most] w fun e w' => RdF .i64 w R v l (rdInts' l a e0 most) e w' := by
  by_cases he : e0 = 0
  · subst he; rw [rdInts', if_pos rfl]; exact readIntsF_any h hb ha hl most hm
  · rw [rdInts', if_neg he]; exact (readInts_dead h he most).mono fun e w' ⟨h1, h2⟩ => ⟨_, h1, ints_nil _ _ _ _ (by omega), h2 ▸ RdTo.refl h, fresh_nil _ _ _⟩
end Go.Proofs.Ytjmjnkilgoelbaa

namespace Go.Proofs.Ytjmjnkilgoelbaa
open Go.RowKit

theorem own_set {w : World} {base e size n : Nat} {v : Value} {xs : List Value} {A : Addr} {u : Value} (h : w.ownsRow base e size v n xs) (hA : A.block < base) : (w.setCell A u).ownsRow base e size v n xs :=
  own_keep h fun g hg _ => Below.heap_setCell _ _ _ _ (by omega)

theorem own_drew {w : World} {base e size n : Nat} {v : Value} {xs : List Value} (h : w.ownsRow base e size v n xs) : w.drew.ownsRow base e size v n xs := h

/-- The block of a slice lies between two bounds. -/
def Betw (B U : Nat) (v : Value) : Prop := ∀ b o n c, v = .slice (some ⟨b, o, none⟩) n c → B ≤ b ∧ b < U

theorem Betw.own {w : World} {base e size n : Nat} {v : Value} {xs : List Value} (h : w.ownsRow base e size v n xs) : Betw base w.heap.size v := fun b o n' c' hv => by
  have hlt := h.lt
  subst hv
  rcases h.2 with ⟨h1, _⟩ | ⟨g, cap, cur, h1, _⟩
  · cases h1
  · injection h1 with h1 h2 h3
    injection h1 with h1
    injection h1 with h1 h2
    subst h1
    exact hlt b (by subst h2 h3; rfl)

theorem Ints.setB {k : IntKind} {w : World} {v : Value} {l : List Int} {B U : Nat} {A : Addr} {u : Value} (hf : Betw B U v) (h : Ints k w v l) (hA : A.block < B ∨ U ≤ A.block := by first | omega | (simp; done) | (simp; omega)) : Ints k (w.setCell A u) v l := by
  obtain ⟨a, c, rfl, h1, h2, h3, hx⟩ := h
  refine ⟨a, c, rfl, h1, h2, h3, fun i x hi => ?_⟩
  obtain ⟨b, o, rfl, hb, hc⟩ := hx i x hi
  have := hf b o _ _ rfl
  exact ⟨b, o, rfl, by simpa using hb, (World.cell?_setCell_far w A ⟨b, o + i, none⟩ u (show A.block ≠ b by omega)).trans hc⟩

section
variable {P : Program} {ops : Array Oper} {Q : Exit → Act → World → Prop} {md : Region.Mode} {T : World → Prop} {k : Nat}

/-- Whatever order is picked from here on; T holds behind every operation ahead of the barrier k. -/
def wpAnyB (P : Program) (md : Region.Mode) (ops : Array Oper) (Q : Exit → Act → World → Prop) (T : World → Prop) (k : Nat) : Nat → Array Bool → Act → World → Prop
  | 0, listed, a, w => Region.ready md ops listed = [] ∧ Q .normal a w
  | fuel + 1, listed, a, w =>
    (Region.ready md ops listed = [] → Q .normal a w) ∧
    ∀ i ∈ Region.ready md ops listed, wpOp P ops Q i (fun a' w' => ((listed.setIfInBounds i true).getD k true = false → T w') ∧ wpAnyB P md ops Q T k fuel (listed.setIfInBounds i true) a' w') a w

theorem wpAny_of_B : ∀ (fuel : Nat) (listed : Array Bool) (a : Act) (w : World), wpAnyB P md ops Q T k fuel listed a w → wpAny P md ops Q fuel listed a w
  | 0, _, _, _, h => h
  | fuel + 1, _, _, _, h => ⟨h.1, fun i hi => wpOp_mono (fun a' w' h' => wpAny_of_B fuel _ a' w' h'.2) (h.2 i hi)⟩

theorem wpAnyB_first {i : Nat} {oi : Oper} {v : Value} {R : Array Bool} (hi : ops[i]? = some oi) (hsel : ∀ (j : Nat) (o : Oper) cs b, ops[j]? = some o → o.op ≠ .select cs b)
    (hQ : ∀ c a w, Q (.panic c) (a.put oi.dst v) w → Q (.panic c) a w) (hRs : R.size = ops.size) (hcl : ∀ j ∈ Region.ready md ops R, j = i) (hRk : R.getD k true = false) (hik : i ≠ k) :
    ∀ (fuel : Nat) (listed : Array Bool) (a : Act) (w : World),
      (∀ j oj, ops[j]? = some oj → j ≠ i → listed.getD j true = false → (∀ e ∈ oj.after, Region.binds md e = true → e.on ≠ i) → oi.apart ops oj = true) →
      (∀ x, listed.getD x false = true → R.getD x false = true) → listed.getD k true = false →
      i ∈ Region.ready md ops listed → YieldsIf P ops T oi v a → T w →
      wpAnyB P md ops Q T k fuel (listed.setIfInBounds i true) (a.put oi.dst v) w → wpAnyB P md ops Q T k (fuel + 1) listed a w := by
  have hjR : ∀ (listed : Array Bool) (j : Nat), (∀ x, listed.getD x false = true → R.getD x false = true) → j ∈ Region.ready md ops listed → j ≠ i → R.getD j false = true ∧ j ≠ k := by
    intro listed j hsub hj hji
    obtain ⟨_, oj, hoj, hall⟩ := mem_ready.1 hj
    have hlt : j < R.size := by rw [hRs]; exact (Array.getElem?_eq_some_iff.1 hoj).1
    have h1 : R.getD j true = true := by
      cases hb : R.getD j true with
      | true => rfl
      | false => exact absurd (hcl j (mem_ready.2 ⟨hb, oj, hoj, fun e he hbd => hsub _ (hall e he hbd)⟩)) hji
    refine ⟨?_, fun e => ?_⟩
    · simpa [Array.getD, hlt] using h1
    · subst e
      rw [h1] at hRk
      cases hRk
  intro fuel
  induction fuel with
  | zero =>
    intro listed a w _ hsub hk hr hy hS H
    refine ⟨fun h => (by rw [h] at hr; cases hr), fun j hj => ?_⟩
    by_cases hji : j = i
    · subst hji; exact hy.wpOp hi hS ⟨fun _ => hS, H⟩
    · have := ready_mono hj hji
      rw [H.1] at this
      cases this
  | succ fuel ih =>
    intro listed a w hfree hsub hk hr hy hS H
    refine ⟨fun h => (by rw [h] at hr; cases hr), fun j hj => ?_⟩
    by_cases hji : j = i
    · subst hji; exact hy.wpOp hi hS ⟨fun _ => hS, H⟩
    · have h1 := H.2 j (ready_mono hj hji)
      obtain ⟨hjun, oj, hoj, hall⟩ := mem_ready.1 hj
      have hnot : ∀ e ∈ oj.after, Region.binds md e = true → e.on ≠ i := fun e he hb heq => by
        have h1 := hall e he hb
        have h0 := (mem_ready.1 hr).1
        rw [heq] at h1
        rcases Nat.lt_or_ge i listed.size with h' | h'
        · simp [h'] at h0 h1; rw [h0] at h1; cases h1
        · simp [Array.getElem?_eq_none h'] at h1
      have h2 := wpOp_putIf hoj (hfree j oj hoj hji hjun hnot) (fun cs b => hsel i oi cs b hi) (fun cs b => hsel j oj cs b hoj) hQ hy h1
      obtain ⟨hRj, hjk⟩ := hjR listed j hsub hj hji
      have hfree' : ∀ k ok, ops[k]? = some ok → k ≠ i → (listed.setIfInBounds j true).getD k true = false →
          (∀ e ∈ ok.after, Region.binds md e = true → e.on ≠ i) → oi.apart ops ok = true := fun k ok hk hki hun hno => by
        refine hfree k ok hk hki ?_ hno
        by_cases hjk : j = k
        · subst hjk; exact hjun
        · rw [getD_set_ne true hjk] at hun; exact hun
      have hk2 : (listed.setIfInBounds j true).getD k true = false := by rw [getD_set_ne true hjk]; exact hk
      have hsub2 : ∀ x, (listed.setIfInBounds j true).getD x false = true → R.getD x false = true := fun x hx => by
        by_cases hxj : j = x
        · subst hxj; exact hRj
        · rw [getD_set_ne false hxj] at hx; exact hsub x hx
      have hk3 : ((listed.setIfInBounds i true).setIfInBounds j true).getD k true = false := by rw [getD_set_ne true hjk, getD_set_ne true hik]; exact hk
      refine wpOp_mono (fun a' w' h3 => ⟨fun _ => h3.2.1 hk3, ih (listed.setIfInBounds j true) a' w' hfree' hsub2 hk2 (ready_mono hr (Ne.symm hji)) h3.1 (h3.2.1 hk3) ?_⟩) h2
      rw [Array.setIfInBounds_comm _ _ hji]
      exact h3.2.2

/-- May i be taken first, ahead of the barrier k? R: all that may come up without i. -/
def takeB (md : Region.Mode) (ops : Array Oper) (listed R : Array Bool) (i k : Nat) : Bool :=
  Region.noSelect ops && Region.free md ops listed i && (Region.ready md ops listed).contains i && R.size == ops.size && (Region.ready md ops R).all (fun j => j == i) && !R.getD k true && i != k && !listed.getD k true
    && listed.size == ops.size && (List.range ops.size).all fun x => !listed.getD x false || R.getD x false

theorem takeB_spec {listed R : Array Bool} {i : Nat} (h : takeB md ops listed R i k = true) : Region.noSelect ops = true ∧ Region.free md ops listed i = true ∧ (Region.ready md ops listed).contains i = true ∧ R.size = ops.size ∧
    (∀ j ∈ Region.ready md ops R, j = i) ∧ R.getD k true = false ∧ i ≠ k ∧ listed.getD k true = false ∧ (∀ x, listed.getD x false = true → R.getD x false = true) := by
  unfold takeB at h
  simp only [Bool.and_eq_true, Bool.not_eq_true', List.all_eq_true, beq_iff_eq, bne_iff_ne, ne_eq] at h
  obtain ⟨⟨⟨⟨⟨⟨⟨⟨⟨h1, h2⟩, h3⟩, h4⟩, h5⟩, h6⟩, h7⟩, h8⟩, h9⟩, h10⟩ := h
  refine ⟨h1, h2, h3, h4, h5, h6, h7, h8, fun x hx => ?_⟩
  rcases Nat.lt_or_ge x ops.size with hlt | hge
  · have := h10 x (List.mem_range.2 hlt)
    rw [hx] at this
    simpa using this
  · rw [← h9] at hge
    simp [Array.getD, Nat.not_lt.2 hge] at hx

theorem lexTkB (i : Nat) (R : Array Bool) {oi : Oper} {v : Value} {fuel : Nat} {listed : Array Bool} {a : Act} {w : World} (hi : ops.toList[i]? = some oi)
    (hS : T w) (h : wpAnyB P md ops Q T k fuel (listed.setIfInBounds i true) (a.put oi.dst v) w) (hB : takeB md ops listed R i k = true) (hQ : ∀ c a w, Q (.panic c) (a.put oi.dst v) w → Q (.panic c) a w)
    (hw : Region.wanted oi (yielded ops a.tmps) = true) (hy : ∀ w, T w → (execOp a.eval oi).run P w = .ok (.value v) w) : wpAnyB P md ops Q T k (fuel + 1) listed a w := by
  obtain ⟨h1, h2, h3, h4, h5, h6, h7, h8, h9⟩ := takeB_spec hB
  have hi' : ops[i]? = some oi := by simpa using hi
  exact wpAnyB_first hi' (Region.noSelect_spec h1) hQ h4 h5 h6 h7 fuel listed a w (Region.free_spec hi' h2) h9 h8 (by simpa using h3) (Or.inl ⟨hw, hy⟩) hS h

theorem lexSkB (i : Nat) (R : Array Bool) {oi : Oper} {fuel : Nat} {listed : Array Bool} {a : Act} {w : World} (hi : ops.toList[i]? = some oi)
    (hS : T w) (h : wpAnyB P md ops Q T k fuel (listed.setIfInBounds i true) (a.put oi.dst undef) w) (hB : takeB md ops listed R i k = true) (hQ : ∀ c a w, Q (.panic c) (a.put oi.dst undef) w → Q (.panic c) a w)
    (hw : Region.wanted oi (yielded ops a.tmps) = false) : wpAnyB P md ops Q T k (fuel + 1) listed a w := by
  obtain ⟨h1, h2, h3, h4, h5, h6, h7, h8, h9⟩ := takeB_spec hB
  have hi' : ops[i]? = some oi := by simpa using hi
  exact wpAnyB_first hi' (Region.noSelect_spec h1) hQ h4 h5 h6 h7 fuel listed a w (Region.free_spec hi' h2) h9 h8 (by simpa using h3) (Or.inr ⟨hw, rfl⟩) hS h

/-- The one that may come up, ahead of the barrier. -/
theorem lexHvB (i : Nat) {o : Oper} {fuel : Nat} {listed : Array Bool} {a : Act} {w : World} (hi : ops.toList[i]? = some o)
    (h : ∀ K' : Act → World → Prop, Shut (∀ a w, T w → (T w → wpAnyB P md ops Q T k fuel (listed.setIfInBounds i true) a w) → K' a w) → if Region.wanted o (yielded ops a.tmps) = true then Oper.wp P o a w K' Q else K' (a.put o.dst undef) w)
    (hr : Region.ready md ops listed = [i]) : wpAnyB P md ops Q T k (fuel + 1) listed a w :=
  ⟨fun h0 => (by rw [hr] at h0; cases h0), fun j hj => by
    rw [hr] at hj
    obtain rfl : j = i := by simpa using hj
    exact wpOp_step (by simpa using hi) (fun K' hK => h K' (fun a w hS hW => hK a w ⟨fun _ => hS, hW hS⟩))⟩

/-- The one that may come up: the barrier, or what is behind it. -/
theorem lexHvE (i : Nat) {o : Oper} {fuel : Nat} {listed : Array Bool} {a : Act} {w : World} (hi : ops.toList[i]? = some o)
    (h : ∀ K' : Act → World → Prop, Shut (∀ a w, wpAnyB P md ops Q T k fuel (listed.setIfInBounds i true) a w → K' a w) → if Region.wanted o (yielded ops a.tmps) = true then Oper.wp P o a w K' Q else K' (a.put o.dst undef) w)
    (hr : Region.ready md ops listed = [i]) (hk : (listed.setIfInBounds i true).getD k true = true) : wpAnyB P md ops Q T k (fuel + 1) listed a w :=
  ⟨fun h0 => (by rw [hr] at h0; cases h0), fun j hj => by
    rw [hr] at hj
    obtain rfl : j = i := by simpa using hj
    exact wpOp_step (by simpa using hi) (fun K' hK => h K' (fun a w hW => hK a w ⟨fun e => (by rw [hk] at e; cases e), hW⟩))⟩

theorem wpAnyB_done {listed : Array Bool} {a : Act} {w : World} (hr : Region.ready md ops listed = []) (h : Q .normal a w) :
    ∀ fuel, wpAnyB P md ops Q T k fuel listed a w
  | 0 => ⟨hr, h⟩
  | _ + 1 => ⟨fun _ => h, by rw [hr]; simp⟩

theorem wp_region_B (k : Nat) {id : Nat} {a : Act} {w : World} (hm : P.follows .mixedOrders = true) (hS : T w.drew)
    (h : T w.drew → wpAnyB P .any ops Q T k ops.size (Array.replicate ops.size false) a w.drew) : (Code.region id ops true).wp P Q a w :=
  wp_region_any hm (wpAny_of_B _ _ _ _ (h hS))
end
end Go.Proofs.Ytjmjnkilgoelbaa

namespace Go.Proofs.Ytjmjnkilgoelbaa
open Go.RowKit

/-- A node lies from (b, o) on. -/
def NodeAt (w : World) (b o : Nat) (n : NodeP) : Prop :=
  ∃ cv, Ints .i64 w cv n.coef ∧ w.cell? ⟨b, o, none⟩ = some cv ∧ w.cell? ⟨b, o + 1, none⟩ = some (.int .i64 n.at_) ∧ w.cell? ⟨b, o + 2, none⟩ = some (.int .i64 n.left) ∧
    w.cell? ⟨b, o + 3, none⟩ = some (.int .i64 n.right) ∧ w.cell? ⟨b, o + 4, none⟩ = some (.int .i64 n.size)

/-- v is a slice of nodes. -/
def NodesR (w : World) (v : Value) (l : List NodeP) : Prop :=
  ∃ a c, v = .slice a l.length c ∧ l.length ≤ c ∧ c ≤ 9223372036854775807 ∧ l.length ≤ 140737488351232 ∧
    ∀ (i : Nat) (n : NodeP), l[i]? = some n → ∃ b o, a = some ⟨b, o, none⟩ ∧ b < w.heap.size ∧ NodeAt w b (o + i * 5) n

/-- v is a tree. -/
def TreeR (w : World) (v : Value) (t : TreeP) : Prop := ∃ nv, v = .agg #[.int .i64 t.dim, nv] ∧ NodesR w nv t.nodes

/-- v is a node. -/
def NodeV (w : World) (v : Value) (n : NodeP) : Prop := ∃ cv, v = .agg #[cv, .int .i64 n.at_, .int .i64 n.left, .int .i64 n.right, .int .i64 n.size] ∧ Ints .i64 w cv n.coef

theorem NodeAt.below {w w' : World} {b o : Nat} {n : NodeP} (h : NodeAt w b o n) (hb : b < w.heap.size) (B : Below w.heap.size w w') : NodeAt w' b o n := by
  obtain ⟨cv, h0, h1, h2, h3, h4, h5⟩ := h
  exact ⟨cv, h0.below B, (B.cell (p := ⟨b, _, none⟩) hb).trans h1, (B.cell (p := ⟨b, _, none⟩) hb).trans h2, (B.cell (p := ⟨b, _, none⟩) hb).trans h3, (B.cell (p := ⟨b, _, none⟩) hb).trans h4, (B.cell (p := ⟨b, _, none⟩) hb).trans h5⟩

theorem NodesR.below {w w' : World} {v : Value} {l : List NodeP} (h : NodesR w v l) (B : Below w.heap.size w w') : NodesR w' v l := by
  obtain ⟨a, c, e, h1, h2, h3, h⟩ := h
  refine ⟨a, c, e, h1, h2, h3, fun i n hi => ?_⟩
  obtain ⟨b, o, e, hb, hn⟩ := h i n hi
  exact ⟨b, o, e, Nat.lt_of_lt_of_le hb B.size, hn.below hb B⟩

theorem TreeR.below {w w' : World} {v : Value} {t : TreeP} (h : TreeR w v t) (B : Below w.heap.size w w') : TreeR w' v t := by
  obtain ⟨nv, e, h⟩ := h
  exact ⟨nv, e, h.below B⟩

theorem NodeV.below {w w' : World} {v : Value} {n : NodeP} (h : NodeV w v n) (B : Below w.heap.size w w') : NodeV w' v n := by
  obtain ⟨cv, e, h⟩ := h
  exact ⟨cv, e, h.below B⟩

theorem NodeAt.val {w : World} {b o : Nat} {n : NodeP} (h : NodeAt w b o n) : ∃ ad cc, Ints .i64 w (.slice ad n.coef.length cc) n.coef ∧ w.cell? ⟨b, o, none⟩ = some (.slice ad n.coef.length cc) ∧ w.cell? ⟨b, o + 1, none⟩ = some (.int .i64 n.at_) ∧ w.cell? ⟨b, o + 2, none⟩ = some (.int .i64 n.left) ∧
    w.cell? ⟨b, o + 3, none⟩ = some (.int .i64 n.right) ∧ w.cell? ⟨b, o + 4, none⟩ = some (.int .i64 n.size) := by
  obtain ⟨cv, h0, h1, h2, h3, h4, h5⟩ := h
  obtain ⟨ad, cc, rfl⟩ := h0.shape
  exact ⟨ad, cc, h0, h1, h2, h3, h4, h5⟩

theorem TreeR.node {w : World} {d : Int} {b o n cc : Nat} {t : TreeP} (h : TreeR w (.agg #[.int .i64 d, .slice (some ⟨b, o, none⟩) n cc]) t) {i : Nat} {nd : NodeP} (hn : t.nodes[i]? = some nd) : b < w.heap.size ∧ NodeAt w b (o + i * 5) nd := by
  obtain ⟨nv, e, a, c, rfl, _, _, _, h⟩ := h
  injection e with e
  injection e with e
  simp at e
  obtain ⟨b', o', e', hb, hat⟩ := h i nd hn
  rw [← e.2.1] at e'
  injection e' with e'
  injection e' with e1 e2 e3
  subst e1 e2
  exact ⟨hb, hat⟩

theorem TreeR.addr {w : World} {d : Int} {ad : Option Addr} {n cc : Nat} {t : TreeP} (h : TreeR w (.agg #[.int .i64 d, .slice ad n cc]) t) {i : Nat} (hn : i < t.nodes.length) : ∃ b o, ad = some ⟨b, o, none⟩ := by
  obtain ⟨nv, e, a, c, rfl, _, _, _, h⟩ := h
  injection e with e
  injection e with e
  simp at e
  obtain ⟨nd, hnd⟩ := getElem?_ex hn
  obtain ⟨b', o', e', _⟩ := h i nd hnd
  exact ⟨b', o', e.2.1.trans e'⟩
end Go.Proofs.Ytjmjnkilgoelbaa
