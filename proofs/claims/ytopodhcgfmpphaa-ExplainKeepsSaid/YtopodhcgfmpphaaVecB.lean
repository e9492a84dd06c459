/-
  Walks of package vec (ends, Parts, Dot).
-/
import Derived.Test.YtopodhcgfmpphaaVecA
namespace Go.Proofs.Ytopodhcgfmpphaa
open Go.RowKit

def minL : List Int → Int
  | [] => 0
  | x :: l => l.foldl min x
def maxL : List Int → Int
  | [] => 0
  | x :: l => l.foldl max x

theorem min_le_of : ∀ (l : List Int) (x z : Int), l.foldl min x ≤ z ↔ x ≤ z ∨ ∃ y ∈ l, y ≤ z
  | [], x, z => by simp
  | y :: l, x, z => by
    rw [List.foldl_cons, min_le_of l]
    simp only [List.mem_cons, exists_eq_or_imp]
    rw [show min x y ≤ z ↔ x ≤ z ∨ y ≤ z by omega]
    constructor
    · rintro ((h | h) | h)
      · exact .inl h
      · exact .inr (.inl h)
      · exact .inr (.inr h)
    · rintro (h | h | h)
      · exact .inl (.inl h)
      · exact .inl (.inr h)
      · exact .inr h

theorem le_max_of : ∀ (l : List Int) (x z : Int), z ≤ l.foldl max x ↔ z ≤ x ∨ ∃ y ∈ l, z ≤ y
  | [], x, z => by simp
  | y :: l, x, z => by
    rw [List.foldl_cons, le_max_of l]
    simp only [List.mem_cons, exists_eq_or_imp]
    rw [show z ≤ max x y ↔ z ≤ x ∨ z ≤ y by omega]
    constructor
    · rintro ((h | h) | h)
      · exact .inl h
      · exact .inr (.inl h)
      · exact .inr (.inr h)
    · rintro (h | h | h)
      · exact .inl (.inl h)
      · exact .inl (.inr h)
      · exact .inr h

theorem minL_le {l : List Int} (hl : l ≠ []) (z : Int) : minL l ≤ z ↔ ∃ y ∈ l, y ≤ z := by
  cases l with
  | nil => exact absurd rfl hl
  | cons x l => rw [minL, min_le_of]; simp
theorem le_maxL {l : List Int} (hl : l ≠ []) (z : Int) : z ≤ maxL l ↔ ∃ y ∈ l, z ≤ y := by
  cases l with
  | nil => exact absurd rfl hl
  | cons x l => rw [maxL, le_max_of]; simp

theorem ends_all {l : List Int} (hl : l ≠ []) : l.all isC = (decide (-4 ≤ minL l) && decide (maxL l ≤ 4)) := by
  rw [Bool.eq_iff_iff, List.all_eq_true, Bool.and_eq_true, decide_eq_true_eq, decide_eq_true_eq]
  constructor
  · intro h
    have h' : ∀ x ∈ l, -4 ≤ x ∧ x ≤ 4 := fun x hx => by have := h x hx; unfold isC at this; simpa using this
    refine ⟨Int.not_lt.1 fun hc => ?_, Int.not_lt.1 fun hc => ?_⟩
    · obtain ⟨y, hy, h2⟩ := (minL_le hl (-5)).1 (by omega)
      have := h' y hy; omega
    · obtain ⟨y, hy, h2⟩ := (le_maxL hl 5).1 (by omega)
      have := h' y hy; omega
  · intro ⟨h1, h2⟩ x hx
    have a := (minL_le hl x).2 ⟨x, hx, by omega⟩
    have b := (le_maxL hl x).2 ⟨x, hx, by omega⟩
    unfold isC
    simp
    omega

theorem ends_any0 {l : List Int} (hl : l ≠ []) : (l.any fun x => decide (x ≠ 0)) = (decide (minL l < 0) || decide (0 < maxL l)) := by
  rw [Bool.eq_iff_iff, List.any_eq_true, Bool.or_eq_true, decide_eq_true_eq, decide_eq_true_eq]
  constructor
  · rintro ⟨x, hx, h⟩
    have h : x ≠ 0 := by simpa using h
    have a := (minL_le hl x).2 ⟨x, hx, by omega⟩
    have b := (le_maxL hl x).2 ⟨x, hx, by omega⟩
    omega
  · rintro (h | h)
    · obtain ⟨y, hy, h2⟩ := (minL_le hl (-1)).1 (by omega)
      exact ⟨y, hy, by simp; omega⟩
    · obtain ⟨y, hy, h2⟩ := (le_maxL hl 1).1 (by omega)
      exact ⟨y, hy, by simp; omega⟩

theorem int_min (a x : Int) : (if x < a then x else a) = min a x := by split <;> omega
theorem int_max (a x : Int) : (if a < x then x else a) = max a x := by split <;> omega

theorem foldl_step {f : Int → Int → Int} {l : List Int} {k : Nat} {x a : Int} (hx : l[k]? = some x) : (l.take (k + 1)).foldl f a = f ((l.take k).foldl f a) x := by
  rw [take_snoc' hx, List.foldl_append]; rfl

set_option maxHeartbeats 1000000 in
theorem vends_any (v : Value) (x0 : Int) (l : List Int) (w : World) (h : Ints .i64 w v (x0 :: l)) :
    Calls Try.prog 147 #[v] w fun e w' => e = .returned (.tuple #[.int .i64 (l.foldl min x0), .int .i64 (l.foldl max x0)]) ∧ ∃ n, w' = w.drewN n := by
  obtain ⟨a, c, rfl, h1, h2, h3, h⟩ := h
  obtain ⟨b, o, rfl, hb0, hc0⟩ := h 0 x0 rfl
  rw [Nat.add_zero] at hc0
  have h : ∀ i x, l[i]? = some x → w.cell? ⟨b, o + 1 + i, none⟩ = some (.int .i64 x) := fun i x hi => by
    obtain ⟨b', o', e, _, hc⟩ := h (i + 1) x (by simpa using hi)
    injection e with e
    injection e with e1 e2 e3
    subst e1 e2
    rw [← hc, show o + 1 + i = o + (i + 1) by omega]
  rw [List.length_cons] at h1 h3 ⊢
  have H := Lib.hid h
  obtain ⟨m, hm⟩ : ∃ m, l.length + 1 = m := ⟨_, rfl⟩
  rw [hm] at h1 h3 ⊢
  have HM := Lib.hid hm
  have i4 : (m : Int) ≤ c := by omega
  have i5 : (0 : Int) < m := by omega
  have i6 : (1 : Int) ≤ m := by omega
  clear h hm
  go_enter Try.func147, Try.ntmps147
  go_wp2_with fail
  go_quiet (fail)
  go_upto_region 2 with fail
  go_cut [15, 16, 17] (fun s n i wx => ∃ ad cc, s = .slice ad l.length cc ∧ n = .int .i64 l.length ∧ i = .int .i64 0 ∧ (0 < l.length → ad = some ⟨b, o + 1, none⟩) ∧ ∃ d, wx = w.drewN d)
  case first =>
    by_cases hc1 : c = 1
    · subst hc1
      go_wp2_with fail
      go_meet
      case rel => have hm1 := HM.out; exact ⟨_, 0, by rw [show l.length = 0 by omega], by rw [show l.length = 0 by omega]; rfl, rfl, fun h => by omega, _, rfl⟩
    · have i7 : 1 < c := by omega
      go_wp2_with fail
      go_meet
      case rel => have hm1 := HM.out; exact ⟨_, c - 1, by rw [show m - 1 = l.length by omega], by rw [show m - 1 = l.length by omega], rfl, fun _ => rfl, _, rfl⟩
  case rest =>
    obtain ⟨ad, cc, rfl, rfl, rfl, had, d, rfl⟩ := hcut
    have HAD := Lib.hid had
    clear had
    go_wp2_with fail
    go_loopw [4, 5, 7, 17] (fun lo hi _ i wr => ∃ k : Nat, i = .int .i64 k ∧ k ≤ l.length ∧ lo = .int .i64 ((l.take k).foldl min x0) ∧ hi = .int .i64 ((l.take k).foldl max x0) ∧ w.drewN d = wr) (fun _ _ _ i _ => l.length - (intOf i).toNat)
    case atStart => exact ⟨0, rfl, by omega, by simp, by simp, rfl⟩
    case round =>
      obtain ⟨k, rfl, hk, rfl, rfl, rfl⟩ := hrel
      by_cases hlt : k < l.length
      · obtain ⟨x, hx⟩ := getElem?_ex hlt
        obtain rfl := HAD.out (by omega)
        have hc1 := H.out k x hx
        have HS1 := Lib.hid (foldl_step (f := min) (a := x0) hx)
        have HS2 := Lib.hid (foldl_step (f := max) (a := x0) hx)
        have i1 : (0 : Int) ≤ (k : Int) := by omega
        have i2 : (k : Int) < (l.length : Int) := by omega
        have i3 : (k : Int) ≤ 140737488351232 := by have := HM.out; omega
        clear hx
        obtain ⟨A, hA⟩ : ∃ A, (l.take k).foldl min x0 = A := ⟨_, rfl⟩
        obtain ⟨B, hB⟩ : ∃ B, (l.take k).foldl max x0 = B := ⟨_, rfl⟩
        rw [hA] at HS1 ⊢
        rw [hB] at HS2 ⊢
        clear hA hB
        go_wp2_with fail
        go_roundw
        case rel => exact ⟨k + 1, by go_num, by omega, by rw [HS1.out, int_min], by rw [HS2.out, int_max], trivial⟩
        case measure => simp [intOf] <;> omega
      · obtain rfl : k = l.length := by omega
        go_wp2_with fail
        exact bodyPost_ret (v := .tuple #[.int .i64 (l.foldl min x0), .int .i64 (l.foldl max x0)]) (by simp [results, Try.results147, go_sem]) rfl ⟨rfl, _, rfl⟩

theorem parts_not {l : List Int} {dim : Int} (h : preB l dim = false) : partsB l dim = false := by rw [partsB_is, h]; rfl
theorem pre_1 {l : List Int} {dim : Int} (h : ¬ 1 ≤ dim) : preB l dim = false := by unfold preB; simp [h]
theorem pre_2 {l : List Int} {dim : Int} (h : ¬ dim ≤ 8) : preB l dim = false := by unfold preB; simp [h]
theorem pre_3 {l : List Int} {dim : Int} (h : ¬ (l.length : Int) = dim) : preB l dim = false := by unfold preB; simp [h]
theorem pre_yes {l : List Int} {dim : Int} (h1 : 1 ≤ dim) (h2 : dim ≤ 8) (h3 : (l.length : Int) = dim) : preB l dim = true := by unfold preB; simp [h1, h2, h3]

theorem parts_ends {x0 : Int} {l : List Int} {dim : Int} (h : preB (x0 :: l) dim = true) :
    partsB (x0 :: l) dim = (decide (-4 ≤ l.foldl min x0) && decide (l.foldl max x0 ≤ 4) && (decide (l.foldl min x0 < 0) || decide (0 < l.foldl max x0))) := by
  have h0 : x0 :: l ≠ [] := by simp
  rw [partsB_is, h, ends_all h0, ends_any0 h0, Bool.true_and]
  rfl

set_option maxHeartbeats 1000000 in
theorem vparts_any (v : Value) (l : List Int) (dim : Int) (w : World) (h : Ints .i64 w v l) :
    Calls Try.prog 138 #[v, .int .i64 dim] w fun e w' => e = .returned (.bool (partsB l dim)) ∧ ∃ n, w' = w.drewN n := by
  by_cases h1 : 1 ≤ dim
  · by_cases h2 : dim ≤ 8
    · by_cases h4 : (l.length : Int) = dim
      · cases l with
        | nil => simp at h4; omega
        | cons x0 l =>
          rw [parts_ends (pre_yes h1 h2 h4)]
          have HC := Lib.hid (fun W (hW : Ints .i64 W v (x0 :: l)) => vends_any v x0 l W hW)
          have HI := Lib.hid h
          obtain ⟨a, c, rfl, _⟩ := h
          generalize l.foldl min x0 = A at *
          generalize l.foldl max x0 = B at *
          obtain ⟨m, hm⟩ : ∃ m, (x0 :: l).length = m := ⟨_, rfl⟩
          rw [hm] at h4 HC HI ⊢
          clear hm
          have h5 : ((m : Int) != dim) = false := by simp [h4]
          by_cases g1 : -4 ≤ A
          · by_cases g2 : B ≤ 4
            · by_cases g3 : A < 0
              · rw [show (decide (-4 ≤ A) && decide (B ≤ 4) && (decide (A < 0) || decide (0 < B))) = true by simp [g1, g2, g3]]
                go_enter Try.func138, Try.ntmps138
                go_wp2_with fail
                refine (HC.out _ HI.out).mono ?_
                rintro e w1 ⟨rfl, d, rfl⟩
                go_wp2_with fail
                go_ret
                exact ⟨rfl, _, rfl⟩
              · by_cases g4 : 0 < B
                · rw [show (decide (-4 ≤ A) && decide (B ≤ 4) && (decide (A < 0) || decide (0 < B))) = true by simp [g1, g2, g4]]
                  go_enter Try.func138, Try.ntmps138
                  go_wp2_with fail
                  refine (HC.out _ HI.out).mono ?_
                  rintro e w1 ⟨rfl, d, rfl⟩
                  go_wp2_with fail
                  go_ret
                  exact ⟨rfl, _, rfl⟩
                · rw [show (decide (-4 ≤ A) && decide (B ≤ 4) && (decide (A < 0) || decide (0 < B))) = false by simp [g3, g4]]
                  have G := Lib.hid (show (decide (A < 0) || decide (0 < B)) = false by simp [g3, g4])
                  go_enter Try.func138, Try.ntmps138
                  go_wp2_with fail
                  refine (HC.out _ HI.out).mono ?_
                  rintro e w1 ⟨rfl, d, rfl⟩
                  go_wp2_with fail
                  go_ret
                  exact ⟨ret_bool G.out, _, rfl⟩
            · rw [show (decide (-4 ≤ A) && decide (B ≤ 4) && (decide (A < 0) || decide (0 < B))) = false by simp [g2]]
              go_enter Try.func138, Try.ntmps138
              go_wp2_with fail
              refine (HC.out _ HI.out).mono ?_
              rintro e w1 ⟨rfl, d, rfl⟩
              go_wp2_with fail
              go_ret
              exact ⟨rfl, _, rfl⟩
          · rw [show (decide (-4 ≤ A) && decide (B ≤ 4) && (decide (A < 0) || decide (0 < B))) = false by simp [g1]]
            go_enter Try.func138, Try.ntmps138
            go_wp2_with fail
            refine (HC.out _ HI.out).mono ?_
            rintro e w1 ⟨rfl, d, rfl⟩
            go_wp2_with fail
            go_ret
            exact ⟨rfl, _, rfl⟩
      · rw [parts_not (pre_3 h4)]
        obtain ⟨a, c, rfl, _⟩ := h
        have h5 : ((l.length : Int) != dim) = true := by simp [h4]
        go_enter Try.func138, Try.ntmps138
        go_wp2_with fail
        go_ret
        exact ⟨rfl, 0, rfl⟩
    · rw [parts_not (pre_2 h2)]
      obtain ⟨a, c, rfl, _⟩ := h
      go_enter Try.func138, Try.ntmps138
      go_wp2_with fail
      go_ret
      exact ⟨rfl, 0, rfl⟩
  · rw [parts_not (pre_1 h1)]
    obtain ⟨a, c, rfl, _⟩ := h
    go_enter Try.func138, Try.ntmps138
    go_wp2_with fail
    go_ret
    exact ⟨rfl, 0, rfl⟩
end Go.Proofs.Ytopodhcgfmpphaa
