/-
  Walks: cut.Is, cut.Left, copseref09.Is, copseref09.Left, tree.leaf: what is right of a cut, and where a vector goes by it.
-/
import Derived.Test.YtopodhcgfmpphaaVecC
import Derived.Test.YtopodhcgfmpphaaMemT
namespace Go.Proofs.Ytopodhcgfmpphaa
open Go.RowKit

theorem cutB_is (c : List Int) (a dim : Int) : cutB c a dim = (decide (-137438953472 ≤ a) && decide (a ≤ 137438953472) && partsB c dim) := rfl

theorem quiet_below {P : Program} {f : FuncId} {args : Array Value} {w : World} {v : Value}
    (h : Calls P f args w fun e w' => e = .returned v ∧ ∃ n, w' = w.drewN n) : Calls P f args w fun e w' => e = .returned v ∧ Below w.heap.size w w' :=
  h.mono fun _ _ ⟨he, _, hm⟩ => ⟨he, hm ▸ below_drewN (Below.refl _ _) _⟩

set_option maxHeartbeats 1000000 in
theorem cis_any (v : Value) (c : List Int) (a dim : Int) (w : World) (h : Ints .i64 w v c) :
    Calls Try.prog 113 #[.agg #[v, .int .i64 a], .int .i64 dim] w fun e w' => e = .returned (.bool (cutB c a dim)) ∧ Below w.heap.size w w' := by
  have HC := Lib.hid (fun W (hW : Ints .i64 W v c) => vparts_any v c dim W hW)
  have HI := Lib.hid h
  obtain ⟨ad, cc, rfl, _⟩ := h
  rw [cutB_is]
  obtain ⟨m, hm⟩ : ∃ m, c.length = m := ⟨_, rfl⟩
  rw [hm] at HC HI ⊢
  clear hm
  by_cases g1 : -137438953472 ≤ a
  · by_cases g2 : a ≤ 137438953472
    · rw [show (decide (-137438953472 ≤ a) && decide (a ≤ 137438953472) && partsB c dim) = partsB c dim by simp [g1, g2]]
      go_enter Try.func113, Try.ntmps113
      go_wp2_with fail
      refine (HC.out _ (HI.out.below (by (repeat (first | with_reducible exact Below.refl _ _ | ((with_reducible refine Below.setCell ?_ ?_ _); rotate_left; (focus (first | omega | (simp; done) | (simp; omega)))) | ((with_reducible refine Below.alloc ?_ ?_ _); rotate_left; (focus (first | omega | (simp; done) | (simp; omega)))) | (with_reducible refine Below.drew ?_) | (with_reducible refine below_drewN ?_ _)))))).mono ?_
      rintro e w1 ⟨rfl, d, rfl⟩
      go_wp2_with fail
      go_ret
      exact ⟨rfl, by (repeat (first | with_reducible exact Below.refl _ _ | ((with_reducible refine Below.setCell ?_ ?_ _); rotate_left; (focus (first | omega | (simp; done) | (simp; omega)))) | ((with_reducible refine Below.alloc ?_ ?_ _); rotate_left; (focus (first | omega | (simp; done) | (simp; omega)))) | (with_reducible refine Below.drew ?_) | (with_reducible refine below_drewN ?_ _)))⟩
    · rw [show (decide (-137438953472 ≤ a) && decide (a ≤ 137438953472) && partsB c dim) = false by simp [g2]]
      go_enter Try.func113, Try.ntmps113
      go_wp2_with fail
      go_ret
      exact ⟨rfl, by (repeat (first | with_reducible exact Below.refl _ _ | ((with_reducible refine Below.setCell ?_ ?_ _); rotate_left; (focus (first | omega | (simp; done) | (simp; omega)))) | ((with_reducible refine Below.alloc ?_ ?_ _); rotate_left; (focus (first | omega | (simp; done) | (simp; omega)))) | (with_reducible refine Below.drew ?_) | (with_reducible refine below_drewN ?_ _)))⟩
  · rw [show (decide (-137438953472 ≤ a) && decide (a ≤ 137438953472) && partsB c dim) = false by simp [g1]]
    go_enter Try.func113, Try.ntmps113
    go_wp2_with fail
    go_ret
    exact ⟨rfl, by (repeat (first | with_reducible exact Below.refl _ _ | ((with_reducible refine Below.setCell ?_ ?_ _); rotate_left; (focus (first | omega | (simp; done) | (simp; omega)))) | ((with_reducible refine Below.alloc ?_ ?_ _); rotate_left; (focus (first | omega | (simp; done) | (simp; omega)))) | (with_reducible refine Below.drew ?_) | (with_reducible refine below_drewN ?_ _)))⟩

set_option maxHeartbeats 1000000 in
theorem rcis_any (v : Value) (c : List Int) (a dim : Int) (w : World) (h : Ints .i64 w v c) :
    Calls Try.prog 107 #[.agg #[v, .int .i64 a], .int .i64 dim] w fun e w' => e = .returned (.bool (cutB c a dim)) ∧ Below w.heap.size w w' := by
  have HC := Lib.hid (fun W (hW : Ints .i64 W v c) => rparts_any v c dim W hW)
  have HI := Lib.hid h
  obtain ⟨ad, cc, rfl, _⟩ := h
  rw [cutB_is]
  obtain ⟨m, hm⟩ : ∃ m, c.length = m := ⟨_, rfl⟩
  rw [hm] at HC HI ⊢
  clear hm
  obtain ⟨B, hB⟩ : ∃ B, partsB c dim = B := ⟨_, rfl⟩
  rw [hB] at HC ⊢
  clear hB
  cases B with
  | true =>
    by_cases g1 : -137438953472 ≤ a
    · by_cases g2 : a ≤ 137438953472
      · rw [show (decide (-137438953472 ≤ a) && decide (a ≤ 137438953472) && true) = true by simp [g1, g2]]
        go_enter Try.func107, Try.ntmps107
        go_wp2_with fail
        refine (HC.out _ (HI.out.below (by (repeat (first | with_reducible exact Below.refl _ _ | ((with_reducible refine Below.setCell ?_ ?_ _); rotate_left; (focus (first | omega | (simp; done) | (simp; omega)))) | ((with_reducible refine Below.alloc ?_ ?_ _); rotate_left; (focus (first | omega | (simp; done) | (simp; omega)))) | (with_reducible refine Below.drew ?_) | (with_reducible refine below_drewN ?_ _)))))).mono ?_
        rintro e w1 ⟨rfl, rfl⟩
        go_wp2_with fail
        go_ret
        exact ⟨rfl, by (repeat (first | with_reducible exact Below.refl _ _ | ((with_reducible refine Below.setCell ?_ ?_ _); rotate_left; (focus (first | omega | (simp; done) | (simp; omega)))) | ((with_reducible refine Below.alloc ?_ ?_ _); rotate_left; (focus (first | omega | (simp; done) | (simp; omega)))) | (with_reducible refine Below.drew ?_) | (with_reducible refine below_drewN ?_ _)))⟩
      · rw [show (decide (-137438953472 ≤ a) && decide (a ≤ 137438953472) && true) = false by simp [g2]]
        have G := Lib.hid (show decide (a ≤ 137438953472) = false by simp [g2])
        go_enter Try.func107, Try.ntmps107
        go_wp2_with fail
        refine (HC.out _ (HI.out.below (by (repeat (first | with_reducible exact Below.refl _ _ | ((with_reducible refine Below.setCell ?_ ?_ _); rotate_left; (focus (first | omega | (simp; done) | (simp; omega)))) | ((with_reducible refine Below.alloc ?_ ?_ _); rotate_left; (focus (first | omega | (simp; done) | (simp; omega)))) | (with_reducible refine Below.drew ?_) | (with_reducible refine below_drewN ?_ _)))))).mono ?_
        rintro e w1 ⟨rfl, rfl⟩
        go_wp2_with fail
        go_ret
        exact ⟨ret_bool G.out, by (repeat (first | with_reducible exact Below.refl _ _ | ((with_reducible refine Below.setCell ?_ ?_ _); rotate_left; (focus (first | omega | (simp; done) | (simp; omega)))) | ((with_reducible refine Below.alloc ?_ ?_ _); rotate_left; (focus (first | omega | (simp; done) | (simp; omega)))) | (with_reducible refine Below.drew ?_) | (with_reducible refine below_drewN ?_ _)))⟩
    · rw [show (decide (-137438953472 ≤ a) && decide (a ≤ 137438953472) && true) = false by simp [g1]]
      go_enter Try.func107, Try.ntmps107
      go_wp2_with fail
      refine (HC.out _ (HI.out.below (by (repeat (first | with_reducible exact Below.refl _ _ | ((with_reducible refine Below.setCell ?_ ?_ _); rotate_left; (focus (first | omega | (simp; done) | (simp; omega)))) | ((with_reducible refine Below.alloc ?_ ?_ _); rotate_left; (focus (first | omega | (simp; done) | (simp; omega)))) | (with_reducible refine Below.drew ?_) | (with_reducible refine below_drewN ?_ _)))))).mono ?_
      rintro e w1 ⟨rfl, rfl⟩
      go_wp2_with fail
      go_ret
      exact ⟨rfl, by (repeat (first | with_reducible exact Below.refl _ _ | ((with_reducible refine Below.setCell ?_ ?_ _); rotate_left; (focus (first | omega | (simp; done) | (simp; omega)))) | ((with_reducible refine Below.alloc ?_ ?_ _); rotate_left; (focus (first | omega | (simp; done) | (simp; omega)))) | (with_reducible refine Below.drew ?_) | (with_reducible refine below_drewN ?_ _)))⟩
  | false =>
    rw [Bool.and_false]
    go_enter Try.func107, Try.ntmps107
    go_wp2_with fail
    refine (HC.out _ (HI.out.below (by (repeat (first | with_reducible exact Below.refl _ _ | ((with_reducible refine Below.setCell ?_ ?_ _); rotate_left; (focus (first | omega | (simp; done) | (simp; omega)))) | ((with_reducible refine Below.alloc ?_ ?_ _); rotate_left; (focus (first | omega | (simp; done) | (simp; omega)))) | (with_reducible refine Below.drew ?_) | (with_reducible refine below_drewN ?_ _)))))).mono ?_
    rintro e w1 ⟨rfl, rfl⟩
    go_wp2_with fail
    go_ret
    exact ⟨rfl, by (repeat (first | with_reducible exact Below.refl _ _ | ((with_reducible refine Below.setCell ?_ ?_ _); rotate_left; (focus (first | omega | (simp; done) | (simp; omega)))) | ((with_reducible refine Below.alloc ?_ ?_ _); rotate_left; (focus (first | omega | (simp; done) | (simp; omega)))) | (with_reducible refine Below.drew ?_) | (with_reducible refine below_drewN ?_ _)))⟩

/-- Where a vector goes: (to the left, how it failed). -/
def leftR (c : List Int) (a : Int) (x : List Int) : Bool × Int :=
  if cutB c a c.length then (if dotOk c x then (decide (dotI c x < a), 0) else (false, 80)) else (false, 90)

set_option maxHeartbeats 1000000 in
theorem cleft_any (v v2 : Value) (c x : List Int) (a : Int) (w : World) (h : Ints .i64 w v c) (h2 : Ints .i64 w v2 x) :
    Calls Try.prog 121 #[.agg #[v, .int .i64 a], v2] w fun e w' => e = .returned (.tuple #[.bool (leftR c a x).1, .int .i64 (leftR c a x).2]) ∧ Below w.heap.size w w' := by
  have HC := Lib.hid (fun W dim (hW : Ints .i64 W v c) => cis_any v c a dim W hW)
  have HD := Lib.hid (fun W (hW : Ints .i64 W v c) (hX : Ints .i64 W v2 x) => vdot_any v v2 c x W hW hX)
  have HI := Lib.hid h
  have HJ := Lib.hid h2
  obtain ⟨ad, cc, rfl, _⟩ := h
  unfold leftR
  cases hb : cutB c a c.length with
  | false =>
    obtain ⟨m, hm⟩ : ∃ m, c.length = m := ⟨_, rfl⟩
    rw [hm] at hb HC HI ⊢
    have HCC := Lib.hid (fun W (hW : Ints .i64 W (.slice ad m cc) c) => hb ▸ HC.out W m hW)
    clear hb HC HD hm h2
    go_enter Try.func121, Try.ntmps121
    go_wp2_with fail
    refine (HCC.out _ (HI.out.below (by (repeat (first | with_reducible exact Below.refl _ _ | ((with_reducible refine Below.setCell ?_ ?_ _); rotate_left; (focus (first | omega | (simp; done) | (simp; omega)))) | ((with_reducible refine Below.alloc ?_ ?_ _); rotate_left; (focus (first | omega | (simp; done) | (simp; omega)))) | (with_reducible refine Below.drew ?_) | (with_reducible refine below_drewN ?_ _)))))).mono ?_
    rintro e w1 ⟨rfl, b1⟩
    go_wp2_with fail
    exact bodyPost_ret (v := .tuple #[.bool false, .int .i64 90]) (by simp [results, Try.results121, go_sem]) rfl ⟨rfl, by (repeat (first | with_reducible exact Below.refl _ _ | ((with_reducible refine Below.setCell ?_ ?_ _); rotate_left; (focus (first | omega | (simp; done) | (simp; omega)))) | ((with_reducible refine Below.alloc ?_ ?_ _); rotate_left; (focus (first | omega | (simp; done) | (simp; omega)))) | (with_reducible refine Below.drew ?_) | (with_reducible refine below_drewN ?_ _) | ((with_reducible refine Below.trans ?_ (Below.mono b1 ?_)); rotate_left; (focus (first | omega | (simp; done) | (simp; omega))))))⟩
  | true =>
    obtain ⟨m, hm⟩ : ∃ m, c.length = m := ⟨_, rfl⟩
    rw [hm] at hb HC HI HD ⊢
    have HCC := Lib.hid (fun W (hW : Ints .i64 W (.slice ad m cc) c) => hb ▸ HC.out W m hW)
    clear hb HC hm h2
    cases hd : dotOk c x with
    | false =>
      have HDD := Lib.hid (fun W (hW : Ints .i64 W (.slice ad m cc) c) (hX : Ints .i64 W v2 x) => hd ▸ HD.out W hW hX)
      clear hd HD
      go_enter Try.func121, Try.ntmps121
      go_wp2_with fail
      refine (HCC.out _ (HI.out.below (by (repeat (first | with_reducible exact Below.refl _ _ | ((with_reducible refine Below.setCell ?_ ?_ _); rotate_left; (focus (first | omega | (simp; done) | (simp; omega)))) | ((with_reducible refine Below.alloc ?_ ?_ _); rotate_left; (focus (first | omega | (simp; done) | (simp; omega)))) | (with_reducible refine Below.drew ?_) | (with_reducible refine below_drewN ?_ _)))))).mono ?_
      rintro e w1 ⟨rfl, b1⟩
      have s1 := b1.size
      have c0_0 := b1.cell (p := ⟨w.heap.size, 0, none⟩) (by first | omega | (simp <;> omega)); have f0_0 := b1.frozen (p := ⟨w.heap.size, 0, none⟩) (by first | omega | (simp <;> omega)); have c0_1 := b1.cell (p := ⟨w.heap.size, 1, none⟩) (by first | omega | (simp <;> omega)); have f0_1 := b1.frozen (p := ⟨w.heap.size, 1, none⟩) (by first | omega | (simp <;> omega))
      go_wp2_with fail
      refine (HDD.out _ ((HI.out.below (by (repeat (first | with_reducible exact Below.refl _ _ | ((with_reducible refine Below.setCell ?_ ?_ _); rotate_left; (focus (first | omega | (simp; done) | (simp; omega)))) | ((with_reducible refine Below.alloc ?_ ?_ _); rotate_left; (focus (first | omega | (simp; done) | (simp; omega)))) | (with_reducible refine Below.drew ?_) | (with_reducible refine below_drewN ?_ _))))).below b1) ((HJ.out.below (by (repeat (first | with_reducible exact Below.refl _ _ | ((with_reducible refine Below.setCell ?_ ?_ _); rotate_left; (focus (first | omega | (simp; done) | (simp; omega)))) | ((with_reducible refine Below.alloc ?_ ?_ _); rotate_left; (focus (first | omega | (simp; done) | (simp; omega)))) | (with_reducible refine Below.drew ?_) | (with_reducible refine below_drewN ?_ _))))).below b1)).mono ?_
      rintro e w2 ⟨rfl, d, rfl⟩
      go_wp2_with fail
      exact bodyPost_ret (v := .tuple #[.bool false, .int .i64 80]) (by simp [results, Try.results121, go_sem]) rfl ⟨rfl, by (repeat (first | with_reducible exact Below.refl _ _ | ((with_reducible refine Below.setCell ?_ ?_ _); rotate_left; (focus (first | omega | (simp; done) | (simp; omega)))) | ((with_reducible refine Below.alloc ?_ ?_ _); rotate_left; (focus (first | omega | (simp; done) | (simp; omega)))) | (with_reducible refine Below.drew ?_) | (with_reducible refine below_drewN ?_ _) | ((with_reducible refine Below.trans ?_ (Below.mono b1 ?_)); rotate_left; (focus (first | omega | (simp; done) | (simp; omega))))))⟩
    | true =>
      have HDD := Lib.hid (fun W (hW : Ints .i64 W (.slice ad m cc) c) (hX : Ints .i64 W v2 x) => hd ▸ HD.out W hW hX)
      clear hd HD
      obtain ⟨D, hD⟩ : ∃ D, dotI c x = D := ⟨_, rfl⟩
      rw [hD] at HDD ⊢
      clear hD
      go_enter Try.func121, Try.ntmps121
      go_wp2_with fail
      refine (HCC.out _ (HI.out.below (by (repeat (first | with_reducible exact Below.refl _ _ | ((with_reducible refine Below.setCell ?_ ?_ _); rotate_left; (focus (first | omega | (simp; done) | (simp; omega)))) | ((with_reducible refine Below.alloc ?_ ?_ _); rotate_left; (focus (first | omega | (simp; done) | (simp; omega)))) | (with_reducible refine Below.drew ?_) | (with_reducible refine below_drewN ?_ _)))))).mono ?_
      rintro e w1 ⟨rfl, b1⟩
      have s1 := b1.size
      have c0_0 := b1.cell (p := ⟨w.heap.size, 0, none⟩) (by first | omega | (simp <;> omega)); have f0_0 := b1.frozen (p := ⟨w.heap.size, 0, none⟩) (by first | omega | (simp <;> omega)); have c0_1 := b1.cell (p := ⟨w.heap.size, 1, none⟩) (by first | omega | (simp <;> omega)); have f0_1 := b1.frozen (p := ⟨w.heap.size, 1, none⟩) (by first | omega | (simp <;> omega))
      go_wp2_with fail
      refine (HDD.out _ ((HI.out.below (by (repeat (first | with_reducible exact Below.refl _ _ | ((with_reducible refine Below.setCell ?_ ?_ _); rotate_left; (focus (first | omega | (simp; done) | (simp; omega)))) | ((with_reducible refine Below.alloc ?_ ?_ _); rotate_left; (focus (first | omega | (simp; done) | (simp; omega)))) | (with_reducible refine Below.drew ?_) | (with_reducible refine below_drewN ?_ _))))).below b1) ((HJ.out.below (by (repeat (first | with_reducible exact Below.refl _ _ | ((with_reducible refine Below.setCell ?_ ?_ _); rotate_left; (focus (first | omega | (simp; done) | (simp; omega)))) | ((with_reducible refine Below.alloc ?_ ?_ _); rotate_left; (focus (first | omega | (simp; done) | (simp; omega)))) | (with_reducible refine Below.drew ?_) | (with_reducible refine below_drewN ?_ _))))).below b1)).mono ?_
      rintro e w2 ⟨rfl, d, rfl⟩
      go_wp2_with fail
      exact bodyPost_ret (v := .tuple #[.bool (decide (D < a)), .int .i64 0]) (by simp [results, Try.results121, go_sem]) rfl ⟨rfl, by (repeat (first | with_reducible exact Below.refl _ _ | ((with_reducible refine Below.setCell ?_ ?_ _); rotate_left; (focus (first | omega | (simp; done) | (simp; omega)))) | ((with_reducible refine Below.alloc ?_ ?_ _); rotate_left; (focus (first | omega | (simp; done) | (simp; omega)))) | (with_reducible refine Below.drew ?_) | (with_reducible refine below_drewN ?_ _) | ((with_reducible refine Below.trans ?_ (Below.mono b1 ?_)); rotate_left; (focus (first | omega | (simp; done) | (simp; omega))))))⟩
set_option maxHeartbeats 1000000 in
theorem rcleft_any (v v2 : Value) (c x : List Int) (a : Int) (w : World) (h : Ints .i64 w v c) (h2 : Ints .i64 w v2 x) :
    Calls Try.prog 72 #[.agg #[v, .int .i64 a], v2] w fun e w' => e = .returned (.tuple #[.bool (leftR c a x).1, .int .i64 (leftR c a x).2]) ∧ Below w.heap.size w w' := by
  have HC := Lib.hid (fun W dim (hW : Ints .i64 W v c) => rcis_any v c a dim W hW)
  have HD := Lib.hid (fun W (hW : Ints .i64 W v c) (hX : Ints .i64 W v2 x) => rdot_any v v2 c x W hW hX)
  have HI := Lib.hid h
  have HJ := Lib.hid h2
  obtain ⟨ad, cc, rfl, _⟩ := h
  unfold leftR
  cases hb : cutB c a c.length with
  | false =>
    obtain ⟨m, hm⟩ : ∃ m, c.length = m := ⟨_, rfl⟩
    rw [hm] at hb HC HI ⊢
    have HCC := Lib.hid (fun W (hW : Ints .i64 W (.slice ad m cc) c) => hb ▸ HC.out W m hW)
    clear hb HC HD hm h2
    go_enter Try.func72, Try.ntmps72
    go_wp2_with fail
    refine (HCC.out _ (HI.out.below (by (repeat (first | with_reducible exact Below.refl _ _ | ((with_reducible refine Below.setCell ?_ ?_ _); rotate_left; (focus (first | omega | (simp; done) | (simp; omega)))) | ((with_reducible refine Below.alloc ?_ ?_ _); rotate_left; (focus (first | omega | (simp; done) | (simp; omega)))) | (with_reducible refine Below.drew ?_) | (with_reducible refine below_drewN ?_ _)))))).mono ?_
    rintro e w1 ⟨rfl, b1⟩
    go_wp2_with fail
    exact bodyPost_ret (v := .tuple #[.bool false, .int .i64 90]) (by simp [results, Try.results72, go_sem]) rfl ⟨rfl, by (repeat (first | with_reducible exact Below.refl _ _ | ((with_reducible refine Below.setCell ?_ ?_ _); rotate_left; (focus (first | omega | (simp; done) | (simp; omega)))) | ((with_reducible refine Below.alloc ?_ ?_ _); rotate_left; (focus (first | omega | (simp; done) | (simp; omega)))) | (with_reducible refine Below.drew ?_) | (with_reducible refine below_drewN ?_ _) | ((with_reducible refine Below.trans ?_ (Below.mono b1 ?_)); rotate_left; (focus (first | omega | (simp; done) | (simp; omega))))))⟩
  | true =>
    obtain ⟨m, hm⟩ : ∃ m, c.length = m := ⟨_, rfl⟩
    rw [hm] at hb HC HI HD ⊢
    have HCC := Lib.hid (fun W (hW : Ints .i64 W (.slice ad m cc) c) => hb ▸ HC.out W m hW)
    clear hb HC hm h2
    cases hd : dotOk c x with
    | false =>
      have HDD := Lib.hid (fun W (hW : Ints .i64 W (.slice ad m cc) c) (hX : Ints .i64 W v2 x) => hd ▸ HD.out W hW hX)
      clear hd HD
      go_enter Try.func72, Try.ntmps72
      go_wp2_with fail
      refine (HCC.out _ (HI.out.below (by (repeat (first | with_reducible exact Below.refl _ _ | ((with_reducible refine Below.setCell ?_ ?_ _); rotate_left; (focus (first | omega | (simp; done) | (simp; omega)))) | ((with_reducible refine Below.alloc ?_ ?_ _); rotate_left; (focus (first | omega | (simp; done) | (simp; omega)))) | (with_reducible refine Below.drew ?_) | (with_reducible refine below_drewN ?_ _)))))).mono ?_
      rintro e w1 ⟨rfl, b1⟩
      have s1 := b1.size
      have c0_0 := b1.cell (p := ⟨w.heap.size, 0, none⟩) (by first | omega | (simp <;> omega)); have f0_0 := b1.frozen (p := ⟨w.heap.size, 0, none⟩) (by first | omega | (simp <;> omega)); have c0_1 := b1.cell (p := ⟨w.heap.size, 1, none⟩) (by first | omega | (simp <;> omega)); have f0_1 := b1.frozen (p := ⟨w.heap.size, 1, none⟩) (by first | omega | (simp <;> omega))
      go_wp2_with fail
      refine (HDD.out _ ((HI.out.below (by (repeat (first | with_reducible exact Below.refl _ _ | ((with_reducible refine Below.setCell ?_ ?_ _); rotate_left; (focus (first | omega | (simp; done) | (simp; omega)))) | ((with_reducible refine Below.alloc ?_ ?_ _); rotate_left; (focus (first | omega | (simp; done) | (simp; omega)))) | (with_reducible refine Below.drew ?_) | (with_reducible refine below_drewN ?_ _))))).below b1) ((HJ.out.below (by (repeat (first | with_reducible exact Below.refl _ _ | ((with_reducible refine Below.setCell ?_ ?_ _); rotate_left; (focus (first | omega | (simp; done) | (simp; omega)))) | ((with_reducible refine Below.alloc ?_ ?_ _); rotate_left; (focus (first | omega | (simp; done) | (simp; omega)))) | (with_reducible refine Below.drew ?_) | (with_reducible refine below_drewN ?_ _))))).below b1)).mono ?_
      rintro e w2 ⟨rfl, d, rfl⟩
      go_wp2_with fail
      exact bodyPost_ret (v := .tuple #[.bool false, .int .i64 80]) (by simp [results, Try.results72, go_sem]) rfl ⟨rfl, by (repeat (first | with_reducible exact Below.refl _ _ | ((with_reducible refine Below.setCell ?_ ?_ _); rotate_left; (focus (first | omega | (simp; done) | (simp; omega)))) | ((with_reducible refine Below.alloc ?_ ?_ _); rotate_left; (focus (first | omega | (simp; done) | (simp; omega)))) | (with_reducible refine Below.drew ?_) | (with_reducible refine below_drewN ?_ _) | ((with_reducible refine Below.trans ?_ (Below.mono b1 ?_)); rotate_left; (focus (first | omega | (simp; done) | (simp; omega))))))⟩
    | true =>
      have HDD := Lib.hid (fun W (hW : Ints .i64 W (.slice ad m cc) c) (hX : Ints .i64 W v2 x) => hd ▸ HD.out W hW hX)
      clear hd HD
      obtain ⟨D, hD⟩ : ∃ D, dotI c x = D := ⟨_, rfl⟩
      rw [hD] at HDD ⊢
      clear hD
      go_enter Try.func72, Try.ntmps72
      go_wp2_with fail
      refine (HCC.out _ (HI.out.below (by (repeat (first | with_reducible exact Below.refl _ _ | ((with_reducible refine Below.setCell ?_ ?_ _); rotate_left; (focus (first | omega | (simp; done) | (simp; omega)))) | ((with_reducible refine Below.alloc ?_ ?_ _); rotate_left; (focus (first | omega | (simp; done) | (simp; omega)))) | (with_reducible refine Below.drew ?_) | (with_reducible refine below_drewN ?_ _)))))).mono ?_
      rintro e w1 ⟨rfl, b1⟩
      have s1 := b1.size
      have c0_0 := b1.cell (p := ⟨w.heap.size, 0, none⟩) (by first | omega | (simp <;> omega)); have f0_0 := b1.frozen (p := ⟨w.heap.size, 0, none⟩) (by first | omega | (simp <;> omega)); have c0_1 := b1.cell (p := ⟨w.heap.size, 1, none⟩) (by first | omega | (simp <;> omega)); have f0_1 := b1.frozen (p := ⟨w.heap.size, 1, none⟩) (by first | omega | (simp <;> omega))
      go_wp2_with fail
      refine (HDD.out _ ((HI.out.below (by (repeat (first | with_reducible exact Below.refl _ _ | ((with_reducible refine Below.setCell ?_ ?_ _); rotate_left; (focus (first | omega | (simp; done) | (simp; omega)))) | ((with_reducible refine Below.alloc ?_ ?_ _); rotate_left; (focus (first | omega | (simp; done) | (simp; omega)))) | (with_reducible refine Below.drew ?_) | (with_reducible refine below_drewN ?_ _))))).below b1) ((HJ.out.below (by (repeat (first | with_reducible exact Below.refl _ _ | ((with_reducible refine Below.setCell ?_ ?_ _); rotate_left; (focus (first | omega | (simp; done) | (simp; omega)))) | ((with_reducible refine Below.alloc ?_ ?_ _); rotate_left; (focus (first | omega | (simp; done) | (simp; omega)))) | (with_reducible refine Below.drew ?_) | (with_reducible refine below_drewN ?_ _))))).below b1)).mono ?_
      rintro e w2 ⟨rfl, d, rfl⟩
      go_wp2_with fail
      exact bodyPost_ret (v := .tuple #[.bool (decide (D < a)), .int .i64 0]) (by simp [results, Try.results72, go_sem]) rfl ⟨rfl, by (repeat (first | with_reducible exact Below.refl _ _ | ((with_reducible refine Below.setCell ?_ ?_ _); rotate_left; (focus (first | omega | (simp; done) | (simp; omega)))) | ((with_reducible refine Below.alloc ?_ ?_ _); rotate_left; (focus (first | omega | (simp; done) | (simp; omega)))) | (with_reducible refine Below.drew ?_) | (with_reducible refine below_drewN ?_ _) | ((with_reducible refine Below.trans ?_ (Below.mono b1 ?_)); rotate_left; (focus (first | omega | (simp; done) | (simp; omega))))))⟩

theorem leafB_at {n : NodeP} : leafB n = (decide (n.left = 0) && decide (n.right = 0) && decide (n.coef.length = 0) && decide (n.at_ = 0) && decide (1 ≤ n.size)) := rfl

set_option maxHeartbeats 1000000 in
theorem tleaf_any (v : Value) (n : NodeP) (w : World) (h : NodeV w v n) :
    Calls Try.prog 112 #[v] w fun e w' => e = .returned (.bool (leafB n)) ∧ Below w.heap.size w w' := by
  obtain ⟨cv, rfl, ad, cc, rfl, _⟩ := h
  rw [leafB_at]
  obtain ⟨c, a, l, r, s⟩ := n
  dsimp only
  obtain ⟨m, hm⟩ : ∃ m, c.length = m := ⟨_, rfl⟩
  rw [hm]
  clear hm
  by_cases h1 : l = 0
  · subst h1
    by_cases h2 : r = 0
    · subst h2
      by_cases h3 : m = 0
      · subst h3
        by_cases h4 : a = 0
        · subst h4
          simp only [decide_true, Bool.true_and]
          go_enter Try.func112, Try.ntmps112
          go_wp2_with fail
          go_ret
          exact ⟨rfl, by (repeat (first | with_reducible exact Below.refl _ _ | ((with_reducible refine Below.setCell ?_ ?_ _); rotate_left; (focus (first | omega | (simp; done) | (simp; omega)))) | ((with_reducible refine Below.alloc ?_ ?_ _); rotate_left; (focus (first | omega | (simp; done) | (simp; omega)))) | (with_reducible refine Below.drew ?_) | (with_reducible refine below_drewN ?_ _)))⟩
        · have e := Lib.hid (show decide (a = 0) = false by simp [h4])
          simp only [decide_true, Bool.true_and, e.out, Bool.false_and]
          have q : (a == 0) = false := by simp [h4]
          go_enter Try.func112, Try.ntmps112
          go_wp2_with fail
          go_ret
          exact ⟨rfl, by (repeat (first | with_reducible exact Below.refl _ _ | ((with_reducible refine Below.setCell ?_ ?_ _); rotate_left; (focus (first | omega | (simp; done) | (simp; omega)))) | ((with_reducible refine Below.alloc ?_ ?_ _); rotate_left; (focus (first | omega | (simp; done) | (simp; omega)))) | (with_reducible refine Below.drew ?_) | (with_reducible refine below_drewN ?_ _)))⟩
      · have e := Lib.hid (show decide (m = 0) = false by simp [h3])
        simp only [decide_true, Bool.true_and, e.out, Bool.false_and]
        have q : ((m : Int) == 0) = false := by simp; omega
        go_enter Try.func112, Try.ntmps112
        go_wp2_with fail
        go_ret
        exact ⟨rfl, by (repeat (first | with_reducible exact Below.refl _ _ | ((with_reducible refine Below.setCell ?_ ?_ _); rotate_left; (focus (first | omega | (simp; done) | (simp; omega)))) | ((with_reducible refine Below.alloc ?_ ?_ _); rotate_left; (focus (first | omega | (simp; done) | (simp; omega)))) | (with_reducible refine Below.drew ?_) | (with_reducible refine below_drewN ?_ _)))⟩
    · have e := Lib.hid (show decide (r = 0) = false by simp [h2])
      simp only [decide_true, Bool.true_and, e.out, Bool.false_and]
      have q : (r == 0) = false := by simp [h2]
      go_enter Try.func112, Try.ntmps112
      go_wp2_with fail
      go_ret
      exact ⟨rfl, by (repeat (first | with_reducible exact Below.refl _ _ | ((with_reducible refine Below.setCell ?_ ?_ _); rotate_left; (focus (first | omega | (simp; done) | (simp; omega)))) | ((with_reducible refine Below.alloc ?_ ?_ _); rotate_left; (focus (first | omega | (simp; done) | (simp; omega)))) | (with_reducible refine Below.drew ?_) | (with_reducible refine below_drewN ?_ _)))⟩
  · have e := Lib.hid (show decide (l = 0) = false by simp [h1])
    simp only [e.out, Bool.false_and]
    have q : (l == 0) = false := by simp [h1]
    go_enter Try.func112, Try.ntmps112
    go_wp2_with fail
    go_ret
    exact ⟨rfl, by (repeat (first | with_reducible exact Below.refl _ _ | ((with_reducible refine Below.setCell ?_ ?_ _); rotate_left; (focus (first | omega | (simp; done) | (simp; omega)))) | ((with_reducible refine Below.alloc ?_ ?_ _); rotate_left; (focus (first | omega | (simp; done) | (simp; omega)))) | (with_reducible refine Below.drew ?_) | (with_reducible refine below_drewN ?_ _)))⟩
end Go.Proofs.Ytopodhcgfmpphaa
