/-
  Walks of copseref21's readers, continued: whatever reader comes in, failed or not.
-/
import Derived.Test.YtfbodloidogliaaBinP
namespace Go.Proofs.Ytfbodloidogliaa
open Go.RowKit

def rdU' (l : List Int) (a : Nat) (e : Int) : Nat × Nat × Int := if e = 0 then rdU l a else (0, a, e)
def rdN' (l : List Int) (a : Nat) (e most : Int) : Nat × Nat × Int := if e = 0 then rdN l a most else (0, a, e)
def rdI' (l : List Int) (a : Nat) (e : Int) : Int × Nat × Int := if e = 0 then rdI l a else (0, a, e)
def rdText' (l : List Int) (a : Nat) (e most : Int) : List Int × Nat × Int := if e = 0 then rdText l a most else ([], a, e)
def rdInts' (l : List Int) (a : Nat) (e most : Int) : List Int × Nat × Int := if e = 0 then rdInts l a most else ([], a, e)

/-- A reader by value and another result. -/
def RefR (w : World) (v : Value) (a : Nat) (x : Int) (u : Value) (e : Ending) (w' : World) : Prop := e = .returned (.tuple #[.agg #[v, .int .i64 a, .int .i64 x], u]) ∧ Below w.heap.size w w'

theorem rReadU_all (v : Value) (l : List Int) (a : Nat) (e0 : Int) (w : World) (h : Ints .u8 w v l) (hb : AllB l) (ha : a ≤ l.length) (hl : l.length ≤ 100000) :
    Calls Try.prog 97 #[.agg #[v, .int .i64 a, .int .i64 e0]] w fun e w' => RefR w v (rdU' l a e0).2.1 (rdU' l a e0).2.2 (.int .u64 (rdU' l a e0).1) e w' := by
  by_cases he : e0 = 0
  · subst he
    rw [rdU', if_pos rfl]
    exact rReadU_any v l a w h hb ha hl
  · rw [rdU', if_neg he]
    obtain ⟨ad, c, rfl⟩ := h.shape
    exact rReadU_dead ad _ c a e0 he w

theorem rdU'_facts (l : List Int) (hb : AllB l) (a : Nat) (e : Int) : ((rdU' l a e).2.2 ≠ 0 → (rdU' l a e).1 = 0 ∧ (rdU' l a e).2.1 = a) ∧ (rdU' l a e).1 < 18446744073709551616 := by
  have h1 := rdU_bad l a
  have h2 := rdU_ok l hb a
  unfold rdU'
  by_cases he : e = 0
  · rw [if_pos he]
    refine ⟨h1, ?_⟩
    by_cases h3 : (rdU l a).2.2 = 0
    · exact (h2 h3).2.2.1
    · rw [(h1 h3).1]; decide
  · rw [if_neg he]; exact ⟨fun _ => ⟨rfl, rfl⟩, by simp⟩

theorem rdN'_of (l : List Int) (a : Nat) (e most : Int) : rdN' l a e most = if (rdU' l a e).2.2 ≠ 0 then (0, a, (rdU' l a e).2.2) else if most < 0 ∨ most < ((rdU' l a e).1 : Int) then (0, a, 211) else rdU' l a e := by
  unfold rdN' rdU' rdN
  by_cases he : e = 0
  · simp only [if_pos he]
  · simp only [if_neg he]; rw [if_pos (by exact he)]

theorem rdI'_of (l : List Int) (a : Nat) (e : Int) : rdI' l a e = (unzig (rdU' l a e).1, (rdU' l a e).2.1, (rdU' l a e).2.2) := by
  unfold rdI' rdU' rdI
  by_cases he : e = 0
  · simp only [if_pos he]
  · simp only [if_neg he]; rfl

theorem rdText'_of (l : List Int) (a : Nat) (e most : Int) : rdText' l a e most = if (rdN' l a e most).2.2 ≠ 0 then ([], a, (rdN' l a e most).2.2) else if l.length < (rdN' l a e most).2.1 + (rdN' l a e most).1 then ([], a, 210)
    else ((l.drop (rdN' l a e most).2.1).take (rdN' l a e most).1, (rdN' l a e most).2.1 + (rdN' l a e most).1, 0) := by
  unfold rdText' rdN' rdText
  by_cases he : e = 0
  · simp only [if_pos he]
  · simp only [if_neg he]; rw [if_pos (by exact he)]

theorem rdInts'_of (l : List Int) (a : Nat) (e most : Int) : rdInts' l a e most = if (rdN' l a e most).2.2 ≠ 0 then ([], a, (rdN' l a e most).2.2) else rdIs l a (rdN' l a e most).1 (rdN' l a e most).2.1 [] := by
  unfold rdInts' rdN' rdInts
  by_cases he : e = 0
  · simp only [if_pos he]
  · simp only [if_neg he]; rw [if_pos (by exact he)]

theorem rdN'_facts (l : List Int) (hb : AllB l) (a : Nat) (e most : Int) : ((rdN' l a e most).2.2 ≠ 0 → (rdN' l a e most).1 = 0 ∧ (rdN' l a e most).2.1 = a) ∧ ((rdN' l a e most).2.2 = 0 → a < (rdN' l a e most).2.1 ∧ (rdN' l a e most).2.1 ≤ l.length ∧ ((rdN' l a e most).1 : Int) ≤ most) := by
  unfold rdN'
  by_cases he : e = 0
  · rw [if_pos he]; exact rdN_facts l hb a most
  · rw [if_neg he]; exact ⟨fun _ => ⟨rfl, rfl⟩, fun h => absurd h he⟩

set_option maxRecDepth 100000 in
set_option maxHeartbeats 2000000 in
theorem rReadN_all (v : Value) (l : List Int) (a : Nat) (e0 most : Int) (w : World) (h : Ints .u8 w v l) (hb : AllB l) (ha : a ≤ l.length) (hl : l.length ≤ 100000) (hm : Ok64 most) :
    Calls Try.prog 98 #[.agg #[v, .int .i64 a, .int .i64 e0], .int .i64 most] w fun e w' => RefR w v (rdN' l a e0 most).2.1 (rdN' l a e0 most).2.2 (.int .i64 (rdN' l a e0 most).1) e w' := by
  have hU := fun W hW => rReadU_all v l a e0 W hW hb ha hl
  have hfc := rdU'_facts l hb a e0
  rw [rdN'_of]
  generalize rdU' l a e0 = r at *
  obtain ⟨n, a', e'⟩ := r
  simp only at hU hfc ⊢
  have HU := Lib.hid hU
  have HI := Lib.hid (h.below (w' := (w.alloc (.cells #[v, .int .i64 a, .int .i64 e0] 77)).alloc (.cells #[.slice none 0 0, .int .i64 0, .int .i64 0] 77)) (by (repeat (first | with_reducible exact Below.refl _ _ | ((with_reducible refine Below.setCell ?_ ?_ _); rotate_left; (focus (first | omega | (simp; done) | (simp; omega)))) | ((with_reducible refine Below.alloc ?_ ?_ _); rotate_left; (focus (first | omega | (simp; done) | (simp; omega)))) | (with_reducible refine Below.drew ?_) | (with_reducible refine below_drewN ?_ _)))))
  obtain ⟨ad, c, rfl⟩ := h.shape
  clear h hU
  unfold Ok64 at hm
  have hn64 : (n : Int) ≤ 18446744073709551615 := by have := hfc.2; omega
  by_cases he : e' = 0
  · subst he
    rw [if_neg (by omega)]
    clear hfc
    by_cases hmost : most < 0 ∨ most < (n : Int)
    · rw [if_pos hmost]
      have hc : most < 0 ∨ (¬ most < 0 ∧ most < (n : Int)) := by omega
      clear hmost
      rcases hc with hc | ⟨hc, hc2⟩
      all_goals
        go_enter Try.func98, Try.ntmps98
        go_wp2_with fail
        refine (HU.out _ HI.out).mono ?_
        rintro e w1 ⟨rfl, hbw⟩
        have c0_0 := hbw.cell (p := ⟨w.heap.size, 0, none⟩) (by first | omega | (simp <;> omega)); have f0_0 := hbw.frozen (p := ⟨w.heap.size, 0, none⟩) (by first | omega | (simp <;> omega)); have c0_1 := hbw.cell (p := ⟨w.heap.size, 1, none⟩) (by first | omega | (simp <;> omega)); have f0_1 := hbw.frozen (p := ⟨w.heap.size, 1, none⟩) (by first | omega | (simp <;> omega)); have c0_2 := hbw.cell (p := ⟨w.heap.size, 2, none⟩) (by first | omega | (simp <;> omega)); have f0_2 := hbw.frozen (p := ⟨w.heap.size, 2, none⟩) (by first | omega | (simp <;> omega)); have c1_0 := hbw.cell (p := ⟨w.heap.size + 1, 0, none⟩) (by first | omega | (simp <;> omega)); have f1_0 := hbw.frozen (p := ⟨w.heap.size + 1, 0, none⟩) (by first | omega | (simp <;> omega)); have c1_1 := hbw.cell (p := ⟨w.heap.size + 1, 1, none⟩) (by first | omega | (simp <;> omega)); have f1_1 := hbw.frozen (p := ⟨w.heap.size + 1, 1, none⟩) (by first | omega | (simp <;> omega)); have c1_2 := hbw.cell (p := ⟨w.heap.size + 1, 2, none⟩) (by first | omega | (simp <;> omega)); have f1_2 := hbw.frozen (p := ⟨w.heap.size + 1, 2, none⟩) (by first | omega | (simp <;> omega))
        have hz0 : w.heap.size < w1.heap.size := (by have := hbw.size; first | omega | (simp at this; omega)); have hy0 : w.heap.size ≠ w1.heap.size := (by omega); have hx0 : w1.heap.size ≠ w.heap.size := (by omega); have hz1 : w.heap.size + 1 < w1.heap.size := (by have := hbw.size; first | omega | (simp at this; omega)); have hy1 : w.heap.size + 1 ≠ w1.heap.size := (by omega); have hx1 : w1.heap.size ≠ w.heap.size + 1 := (by omega)
        go_wp2_with (go_at_call 106; refine (rfail_any _ ad l.length c rfl a e0 211 _).mono ?_; rintro e w2 ⟨rfl, hbw2⟩; have c0_0 := hbw2.cell (p := ⟨w.heap.size, 0, none⟩) (by first | omega | (simp <;> omega)); have f0_0 := hbw2.frozen (p := ⟨w.heap.size, 0, none⟩) (by first | omega | (simp <;> omega)); have c0_1 := hbw2.cell (p := ⟨w.heap.size, 1, none⟩) (by first | omega | (simp <;> omega)); have f0_1 := hbw2.frozen (p := ⟨w.heap.size, 1, none⟩) (by first | omega | (simp <;> omega)); have c0_2 := hbw2.cell (p := ⟨w.heap.size, 2, none⟩) (by first | omega | (simp <;> omega)); have f0_2 := hbw2.frozen (p := ⟨w.heap.size, 2, none⟩) (by first | omega | (simp <;> omega)); have c1_0 := hbw2.cell (p := ⟨w.heap.size + 1, 0, none⟩) (by first | omega | (simp <;> omega)); have f1_0 := hbw2.frozen (p := ⟨w.heap.size + 1, 0, none⟩) (by first | omega | (simp <;> omega)); have c1_1 := hbw2.cell (p := ⟨w.heap.size + 1, 1, none⟩) (by first | omega | (simp <;> omega)); have f1_1 := hbw2.frozen (p := ⟨w.heap.size + 1, 1, none⟩) (by first | omega | (simp <;> omega)); have c1_2 := hbw2.cell (p := ⟨w.heap.size + 1, 2, none⟩) (by first | omega | (simp <;> omega)); have f1_2 := hbw2.frozen (p := ⟨w.heap.size + 1, 2, none⟩) (by first | omega | (simp <;> omega)))
        refine bodyPost_ret (v := .tuple #[.agg #[.slice ad l.length c, .int .i64 a, .int .i64 211], .int .i64 0]) (by simp [results, Try.results98, go_sem, *]) rfl ⟨rfl, ?_⟩
        (repeat (first | with_reducible exact Below.refl _ _ | ((with_reducible refine Below.setCell ?_ ?_ _); rotate_left; (focus (first | omega | (simp; done) | (simp; omega)))) | ((with_reducible refine Below.alloc ?_ ?_ _); rotate_left; (focus (first | omega | (simp; done) | (simp; omega)))) | (with_reducible refine Below.drew ?_) | (with_reducible refine below_drewN ?_ _) | ((with_reducible refine Below.trans ?_ (Below.mono hbw2 ?_)); rotate_left; (focus (first | omega | (simp; done) | (simp; omega)))) | ((with_reducible refine Below.trans ?_ (Below.mono hbw ?_)); rotate_left; (focus (first | omega | (simp; done) | (simp; omega))))))
    · rw [if_neg hmost]
      obtain ⟨hm0, hm1⟩ : ¬ most < 0 ∧ ¬ most < (n : Int) := by omega
      have hn63 : (n : Int) ≤ 9223372036854775807 := by omega
      clear hmost
      go_enter Try.func98, Try.ntmps98
      go_wp2_with fail
      refine (HU.out _ HI.out).mono ?_
      rintro e w1 ⟨rfl, hbw⟩
      have c0_0 := hbw.cell (p := ⟨w.heap.size, 0, none⟩) (by first | omega | (simp <;> omega)); have f0_0 := hbw.frozen (p := ⟨w.heap.size, 0, none⟩) (by first | omega | (simp <;> omega)); have c0_1 := hbw.cell (p := ⟨w.heap.size, 1, none⟩) (by first | omega | (simp <;> omega)); have f0_1 := hbw.frozen (p := ⟨w.heap.size, 1, none⟩) (by first | omega | (simp <;> omega)); have c0_2 := hbw.cell (p := ⟨w.heap.size, 2, none⟩) (by first | omega | (simp <;> omega)); have f0_2 := hbw.frozen (p := ⟨w.heap.size, 2, none⟩) (by first | omega | (simp <;> omega)); have c1_0 := hbw.cell (p := ⟨w.heap.size + 1, 0, none⟩) (by first | omega | (simp <;> omega)); have f1_0 := hbw.frozen (p := ⟨w.heap.size + 1, 0, none⟩) (by first | omega | (simp <;> omega)); have c1_1 := hbw.cell (p := ⟨w.heap.size + 1, 1, none⟩) (by first | omega | (simp <;> omega)); have f1_1 := hbw.frozen (p := ⟨w.heap.size + 1, 1, none⟩) (by first | omega | (simp <;> omega)); have c1_2 := hbw.cell (p := ⟨w.heap.size + 1, 2, none⟩) (by first | omega | (simp <;> omega)); have f1_2 := hbw.frozen (p := ⟨w.heap.size + 1, 2, none⟩) (by first | omega | (simp <;> omega))
      have hz0 : w.heap.size < w1.heap.size := (by have := hbw.size; first | omega | (simp at this; omega)); have hy0 : w.heap.size ≠ w1.heap.size := (by omega); have hx0 : w1.heap.size ≠ w.heap.size := (by omega); have hz1 : w.heap.size + 1 < w1.heap.size := (by have := hbw.size; first | omega | (simp at this; omega)); have hy1 : w.heap.size + 1 ≠ w1.heap.size := (by omega); have hx1 : w1.heap.size ≠ w.heap.size + 1 := (by omega)
      go_wp2
      refine bodyPost_ret (v := .tuple #[.agg #[.slice ad l.length c, .int .i64 a', .int .i64 0], .int .i64 n]) (by simp [results, Try.results98, go_sem, *]) rfl ⟨rfl, ?_⟩
      (repeat (first | with_reducible exact Below.refl _ _ | ((with_reducible refine Below.setCell ?_ ?_ _); rotate_left; (focus (first | omega | (simp; done) | (simp; omega)))) | ((with_reducible refine Below.alloc ?_ ?_ _); rotate_left; (focus (first | omega | (simp; done) | (simp; omega)))) | (with_reducible refine Below.drew ?_) | (with_reducible refine below_drewN ?_ _) | ((with_reducible refine Below.trans ?_ (Below.mono hbw ?_)); rotate_left; (focus (first | omega | (simp; done) | (simp; omega))))))
  · obtain ⟨h1, h2⟩ := hfc.1 he
    subst h1 h2
    rw [if_pos he]
    have hne : (e' != 0) = true := by simpa using he
    clear hfc he
    go_enter Try.func98, Try.ntmps98
    go_wp2_with fail
    refine (HU.out _ HI.out).mono ?_
    rintro e w1 ⟨rfl, hbw⟩
    have c0_0 := hbw.cell (p := ⟨w.heap.size, 0, none⟩) (by first | omega | (simp <;> omega)); have f0_0 := hbw.frozen (p := ⟨w.heap.size, 0, none⟩) (by first | omega | (simp <;> omega)); have c0_1 := hbw.cell (p := ⟨w.heap.size, 1, none⟩) (by first | omega | (simp <;> omega)); have f0_1 := hbw.frozen (p := ⟨w.heap.size, 1, none⟩) (by first | omega | (simp <;> omega)); have c0_2 := hbw.cell (p := ⟨w.heap.size, 2, none⟩) (by first | omega | (simp <;> omega)); have f0_2 := hbw.frozen (p := ⟨w.heap.size, 2, none⟩) (by first | omega | (simp <;> omega)); have c1_0 := hbw.cell (p := ⟨w.heap.size + 1, 0, none⟩) (by first | omega | (simp <;> omega)); have f1_0 := hbw.frozen (p := ⟨w.heap.size + 1, 0, none⟩) (by first | omega | (simp <;> omega)); have c1_1 := hbw.cell (p := ⟨w.heap.size + 1, 1, none⟩) (by first | omega | (simp <;> omega)); have f1_1 := hbw.frozen (p := ⟨w.heap.size + 1, 1, none⟩) (by first | omega | (simp <;> omega)); have c1_2 := hbw.cell (p := ⟨w.heap.size + 1, 2, none⟩) (by first | omega | (simp <;> omega)); have f1_2 := hbw.frozen (p := ⟨w.heap.size + 1, 2, none⟩) (by first | omega | (simp <;> omega))
    have hz0 : w.heap.size < w1.heap.size := (by have := hbw.size; first | omega | (simp at this; omega)); have hy0 : w.heap.size ≠ w1.heap.size := (by omega); have hx0 : w1.heap.size ≠ w.heap.size := (by omega); have hz1 : w.heap.size + 1 < w1.heap.size := (by have := hbw.size; first | omega | (simp at this; omega)); have hy1 : w.heap.size + 1 ≠ w1.heap.size := (by omega); have hx1 : w1.heap.size ≠ w.heap.size + 1 := (by omega)
    go_wp2
    refine bodyPost_ret (v := .tuple #[.agg #[.slice ad l.length c, .int .i64 a', .int .i64 e'], .int .i64 0]) (by simp [results, Try.results98, go_sem, *]) rfl ⟨rfl, ?_⟩
    (repeat (first | with_reducible exact Below.refl _ _ | ((with_reducible refine Below.setCell ?_ ?_ _); rotate_left; (focus (first | omega | (simp; done) | (simp; omega)))) | ((with_reducible refine Below.alloc ?_ ?_ _); rotate_left; (focus (first | omega | (simp; done) | (simp; omega)))) | (with_reducible refine Below.drew ?_) | (with_reducible refine below_drewN ?_ _) | ((with_reducible refine Below.trans ?_ (Below.mono hbw ?_)); rotate_left; (focus (first | omega | (simp; done) | (simp; omega))))))
end Go.Proofs.Ytfbodloidogliaa
