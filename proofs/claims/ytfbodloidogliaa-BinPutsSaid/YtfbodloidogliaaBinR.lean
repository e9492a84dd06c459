/-
  Walks of copseref21's readers: numbers with a sign, texts, failing.
-/
import Derived.Test.YtfbodloidogliaaBinQ
namespace Go.Proofs.Ytfbodloidogliaa
open Go.RowKit

theorem ret_agg {v u : Value} {a b e : Int} (h : a = b) : Ending.returned (.tuple #[.agg #[v, .int .i64 a, .int .i64 e], u]) = .returned (.tuple #[.agg #[v, .int .i64 b, .int .i64 e], u]) := by rw [h]

set_option maxRecDepth 100000 in
set_option maxHeartbeats 2000000 in
theorem rReadI_all (v : Value) (l : List Int) (a : Nat) (e0 : Int) (w : World) (h : Ints .u8 w v l) (hb : AllB l) (ha : a ≤ l.length) (hl : l.length ≤ 100000) :
    Calls Try.prog 99 #[.agg #[v, .int .i64 a, .int .i64 e0]] w fun e w' => RefR w v (rdI' l a e0).2.1 (rdI' l a e0).2.2 (.int .i64 (rdI' l a e0).1) e w' := by
  have hU := fun W hW => rReadU_all v l a e0 W hW hb ha hl
  have hfc := (rdU'_facts l hb a e0).2
  rw [rdI'_of]
  generalize rdU' l a e0 = r at *
  obtain ⟨n, a', e'⟩ := r
  simp only at hU hfc ⊢
  have HU := Lib.hid hU
  have HI := Lib.hid (h.below (w' := (w.alloc (.cells #[v, .int .i64 a, .int .i64 e0] 77)).alloc (.cells #[.slice none 0 0, .int .i64 0, .int .i64 0] 77)) (by (repeat (first | with_reducible exact Below.refl _ _ | ((with_reducible refine Below.setCell ?_ ?_ _); rotate_left; (focus (first | omega | (simp; done) | (simp; omega)))) | ((with_reducible refine Below.alloc ?_ ?_ _); rotate_left; (focus (first | omega | (simp; done) | (simp; omega)))) | (with_reducible refine Below.drew ?_) | (with_reducible refine below_drewN ?_ _)))))
  obtain ⟨ad, c, rfl⟩ := h.shape
  have hn64 : (n : Int) ≤ 18446744073709551615 := by omega
  clear h hU hfc
  by_cases h1 : n % 2 = 1
  · rw [unzig, if_pos h1]
    have hb1 : ((n : Int) % 2 == 1) = true := by simp; omega
    have H1 := Lib.hid h1
    clear h1
    go_enter Try.func99, Try.ntmps99
    go_wp2_with fail
    refine (HU.out _ HI.out).mono ?_
    rintro e w1 ⟨rfl, hbw⟩
    have c0_0 := hbw.cell (p := ⟨w.heap.size, 0, none⟩) (by first | omega | (simp <;> omega)); have f0_0 := hbw.frozen (p := ⟨w.heap.size, 0, none⟩) (by first | omega | (simp <;> omega)); have c0_1 := hbw.cell (p := ⟨w.heap.size, 1, none⟩) (by first | omega | (simp <;> omega)); have f0_1 := hbw.frozen (p := ⟨w.heap.size, 1, none⟩) (by first | omega | (simp <;> omega)); have c0_2 := hbw.cell (p := ⟨w.heap.size, 2, none⟩) (by first | omega | (simp <;> omega)); have f0_2 := hbw.frozen (p := ⟨w.heap.size, 2, none⟩) (by first | omega | (simp <;> omega)); have c1_0 := hbw.cell (p := ⟨w.heap.size + 1, 0, none⟩) (by first | omega | (simp <;> omega)); have f1_0 := hbw.frozen (p := ⟨w.heap.size + 1, 0, none⟩) (by first | omega | (simp <;> omega)); have c1_1 := hbw.cell (p := ⟨w.heap.size + 1, 1, none⟩) (by first | omega | (simp <;> omega)); have f1_1 := hbw.frozen (p := ⟨w.heap.size + 1, 1, none⟩) (by first | omega | (simp <;> omega)); have c1_2 := hbw.cell (p := ⟨w.heap.size + 1, 2, none⟩) (by first | omega | (simp <;> omega)); have f1_2 := hbw.frozen (p := ⟨w.heap.size + 1, 2, none⟩) (by first | omega | (simp <;> omega))
    have hz0 : w.heap.size < w1.heap.size := (by have := hbw.size; first | omega | (simp at this; omega)); have hy0 : w.heap.size ≠ w1.heap.size := (by omega); have hx0 : w1.heap.size ≠ w.heap.size := (by omega); have hz1 : w.heap.size + 1 < w1.heap.size := (by have := hbw.size; first | omega | (simp at this; omega)); have hy1 : w.heap.size + 1 ≠ w1.heap.size := (by omega); have hx1 : w1.heap.size ≠ w.heap.size + 1 := (by omega)
    go_wp2
    refine bodyPost_ret (v := .tuple #[.agg #[.slice ad l.length c, .int .i64 a', .int .i64 e'], .int .i64 (-((n : Int) / 2) - 1)]) (by simp [results, Try.results99, go_sem, *]) rfl ⟨?_, ?_⟩
    · rw [show -((n / 2 : Nat) : Int) - 1 = -((n : Int) / 2) - 1 by omega]
    · (repeat (first | with_reducible exact Below.refl _ _ | ((with_reducible refine Below.setCell ?_ ?_ _); rotate_left; (focus (first | omega | (simp; done) | (simp; omega)))) | ((with_reducible refine Below.alloc ?_ ?_ _); rotate_left; (focus (first | omega | (simp; done) | (simp; omega)))) | (with_reducible refine Below.drew ?_) | (with_reducible refine below_drewN ?_ _) | ((with_reducible refine Below.trans ?_ (Below.mono hbw ?_)); rotate_left; (focus (first | omega | (simp; done) | (simp; omega))))))
  · rw [unzig, if_neg h1]
    have hb1 : ((n : Int) % 2 == 1) = false := by simp; omega
    have H1 := Lib.hid h1
    clear h1
    go_enter Try.func99, Try.ntmps99
    go_wp2_with fail
    refine (HU.out _ HI.out).mono ?_
    rintro e w1 ⟨rfl, hbw⟩
    have c0_0 := hbw.cell (p := ⟨w.heap.size, 0, none⟩) (by first | omega | (simp <;> omega)); have f0_0 := hbw.frozen (p := ⟨w.heap.size, 0, none⟩) (by first | omega | (simp <;> omega)); have c0_1 := hbw.cell (p := ⟨w.heap.size, 1, none⟩) (by first | omega | (simp <;> omega)); have f0_1 := hbw.frozen (p := ⟨w.heap.size, 1, none⟩) (by first | omega | (simp <;> omega)); have c0_2 := hbw.cell (p := ⟨w.heap.size, 2, none⟩) (by first | omega | (simp <;> omega)); have f0_2 := hbw.frozen (p := ⟨w.heap.size, 2, none⟩) (by first | omega | (simp <;> omega)); have c1_0 := hbw.cell (p := ⟨w.heap.size + 1, 0, none⟩) (by first | omega | (simp <;> omega)); have f1_0 := hbw.frozen (p := ⟨w.heap.size + 1, 0, none⟩) (by first | omega | (simp <;> omega)); have c1_1 := hbw.cell (p := ⟨w.heap.size + 1, 1, none⟩) (by first | omega | (simp <;> omega)); have f1_1 := hbw.frozen (p := ⟨w.heap.size + 1, 1, none⟩) (by first | omega | (simp <;> omega)); have c1_2 := hbw.cell (p := ⟨w.heap.size + 1, 2, none⟩) (by first | omega | (simp <;> omega)); have f1_2 := hbw.frozen (p := ⟨w.heap.size + 1, 2, none⟩) (by first | omega | (simp <;> omega))
    have hz0 : w.heap.size < w1.heap.size := (by have := hbw.size; first | omega | (simp at this; omega)); have hy0 : w.heap.size ≠ w1.heap.size := (by omega); have hx0 : w1.heap.size ≠ w.heap.size := (by omega); have hz1 : w.heap.size + 1 < w1.heap.size := (by have := hbw.size; first | omega | (simp at this; omega)); have hy1 : w.heap.size + 1 ≠ w1.heap.size := (by omega); have hx1 : w1.heap.size ≠ w.heap.size + 1 := (by omega)
    go_wp2
    refine bodyPost_ret (v := .tuple #[.agg #[.slice ad l.length c, .int .i64 a', .int .i64 e'], .int .i64 ((n : Int) / 2)]) (by simp [results, Try.results99, go_sem, *]) rfl ⟨?_, ?_⟩
    · rw [show ((n / 2 : Nat) : Int) = (n : Int) / 2 by omega]
    · (repeat (first | with_reducible exact Below.refl _ _ | ((with_reducible refine Below.setCell ?_ ?_ _); rotate_left; (focus (first | omega | (simp; done) | (simp; omega)))) | ((with_reducible refine Below.alloc ?_ ?_ _); rotate_left; (focus (first | omega | (simp; done) | (simp; omega)))) | (with_reducible refine Below.drew ?_) | (with_reducible refine below_drewN ?_ _) | ((with_reducible refine Below.trans ?_ (Below.mono hbw ?_)); rotate_left; (focus (first | omega | (simp; done) | (simp; omega))))))

set_option maxRecDepth 100000 in
theorem rFail_all (v : Value) (ad : Option Addr) (n c : Nat) (hv : v = .slice ad n c) (a e0 x : Int) (w : World) :
    Calls Try.prog 102 #[.agg #[v, .int .i64 a, .int .i64 e0], .int .i64 x] w fun e w' => e = .returned (.agg #[v, .int .i64 a, .int .i64 (failE e0 x)]) ∧ Below w.heap.size w w' := by
  subst hv
  by_cases he : e0 = 0
  · subst he
    by_cases hx : x = 0
    · subst hx
      rw [failE, if_pos rfl, if_pos rfl]
      go_enter Try.func102, Try.ntmps102
      go_wp2_with (go_at_call 106; refine (rfail_any _ ad n c rfl a 0 211 _).mono ?_; rintro e w1 ⟨rfl, hbw⟩; have c0_0 := hbw.cell (p := ⟨w.heap.size, 0, none⟩) (by first | omega | (simp <;> omega)); have f0_0 := hbw.frozen (p := ⟨w.heap.size, 0, none⟩) (by first | omega | (simp <;> omega)); have c0_1 := hbw.cell (p := ⟨w.heap.size, 1, none⟩) (by first | omega | (simp <;> omega)); have f0_1 := hbw.frozen (p := ⟨w.heap.size, 1, none⟩) (by first | omega | (simp <;> omega)); have c0_2 := hbw.cell (p := ⟨w.heap.size, 2, none⟩) (by first | omega | (simp <;> omega)); have f0_2 := hbw.frozen (p := ⟨w.heap.size, 2, none⟩) (by first | omega | (simp <;> omega)); have c1_0 := hbw.cell (p := ⟨w.heap.size + 1, 0, none⟩) (by first | omega | (simp <;> omega)); have f1_0 := hbw.frozen (p := ⟨w.heap.size + 1, 0, none⟩) (by first | omega | (simp <;> omega)); have c1_1 := hbw.cell (p := ⟨w.heap.size + 1, 1, none⟩) (by first | omega | (simp <;> omega)); have f1_1 := hbw.frozen (p := ⟨w.heap.size + 1, 1, none⟩) (by first | omega | (simp <;> omega)); have c1_2 := hbw.cell (p := ⟨w.heap.size + 1, 2, none⟩) (by first | omega | (simp <;> omega)); have f1_2 := hbw.frozen (p := ⟨w.heap.size + 1, 2, none⟩) (by first | omega | (simp <;> omega)))
      refine bodyPost_ret (v := .agg #[.slice ad n c, .int .i64 a, .int .i64 211]) (by simp [results, Try.results102, go_sem, *]) rfl ⟨rfl, ?_⟩
      (repeat (first | with_reducible exact Below.refl _ _ | ((with_reducible refine Below.setCell ?_ ?_ _); rotate_left; (focus (first | omega | (simp; done) | (simp; omega)))) | ((with_reducible refine Below.alloc ?_ ?_ _); rotate_left; (focus (first | omega | (simp; done) | (simp; omega)))) | (with_reducible refine Below.drew ?_) | (with_reducible refine below_drewN ?_ _) | ((with_reducible refine Below.trans ?_ (Below.mono hbw ?_)); rotate_left; (focus (first | omega | (simp; done) | (simp; omega))))))
    · rw [failE, if_pos rfl, if_neg hx]
      have hxb : (x == 0) = false := by simpa using hx
      clear hx
      go_enter Try.func102, Try.ntmps102
      go_wp2_with (go_at_call 106; refine (rfail_any _ ad n c rfl a 0 x _).mono ?_; rintro e w1 ⟨rfl, hbw⟩; have c0_0 := hbw.cell (p := ⟨w.heap.size, 0, none⟩) (by first | omega | (simp <;> omega)); have f0_0 := hbw.frozen (p := ⟨w.heap.size, 0, none⟩) (by first | omega | (simp <;> omega)); have c0_1 := hbw.cell (p := ⟨w.heap.size, 1, none⟩) (by first | omega | (simp <;> omega)); have f0_1 := hbw.frozen (p := ⟨w.heap.size, 1, none⟩) (by first | omega | (simp <;> omega)); have c0_2 := hbw.cell (p := ⟨w.heap.size, 2, none⟩) (by first | omega | (simp <;> omega)); have f0_2 := hbw.frozen (p := ⟨w.heap.size, 2, none⟩) (by first | omega | (simp <;> omega)); have c1_0 := hbw.cell (p := ⟨w.heap.size + 1, 0, none⟩) (by first | omega | (simp <;> omega)); have f1_0 := hbw.frozen (p := ⟨w.heap.size + 1, 0, none⟩) (by first | omega | (simp <;> omega)); have c1_1 := hbw.cell (p := ⟨w.heap.size + 1, 1, none⟩) (by first | omega | (simp <;> omega)); have f1_1 := hbw.frozen (p := ⟨w.heap.size + 1, 1, none⟩) (by first | omega | (simp <;> omega)); have c1_2 := hbw.cell (p := ⟨w.heap.size + 1, 2, none⟩) (by first | omega | (simp <;> omega)); have f1_2 := hbw.frozen (p := ⟨w.heap.size + 1, 2, none⟩) (by first | omega | (simp <;> omega)))
      refine bodyPost_ret (v := .agg #[.slice ad n c, .int .i64 a, .int .i64 x]) (by simp [results, Try.results102, go_sem, *]) rfl ⟨rfl, ?_⟩
      (repeat (first | with_reducible exact Below.refl _ _ | ((with_reducible refine Below.setCell ?_ ?_ _); rotate_left; (focus (first | omega | (simp; done) | (simp; omega)))) | ((with_reducible refine Below.alloc ?_ ?_ _); rotate_left; (focus (first | omega | (simp; done) | (simp; omega)))) | (with_reducible refine Below.drew ?_) | (with_reducible refine below_drewN ?_ _) | ((with_reducible refine Below.trans ?_ (Below.mono hbw ?_)); rotate_left; (focus (first | omega | (simp; done) | (simp; omega))))))
  · rw [failE, if_neg he]
    have hne : (e0 != 0) = true := by simpa using he
    clear he
    go_enter Try.func102, Try.ntmps102
    go_wp2
    refine bodyPost_ret (v := .agg #[.slice ad n c, .int .i64 a, .int .i64 e0]) (by simp [results, Try.results102, go_sem]) rfl ⟨rfl, ?_⟩
    (repeat (first | with_reducible exact Below.refl _ _ | ((with_reducible refine Below.setCell ?_ ?_ _); rotate_left; (focus (first | omega | (simp; done) | (simp; omega)))) | ((with_reducible refine Below.alloc ?_ ?_ _); rotate_left; (focus (first | omega | (simp; done) | (simp; omega)))) | (with_reducible refine Below.drew ?_) | (with_reducible refine below_drewN ?_ _)))

set_option maxRecDepth 100000 in
theorem rEnd_all (v : Value) (l : List Int) (a : Nat) (e0 : Int) (w : World) (h : Ints .u8 w v l) :
    Calls Try.prog 103 #[.agg #[v, .int .i64 a, .int .i64 e0]] w fun e w' => e = .returned (.agg #[v, .int .i64 a, .int .i64 (endE l a e0)]) ∧ Below w.heap.size w w' := by
  obtain ⟨ad, c, rfl⟩ := h.shape
  clear h
  by_cases hlt : a < l.length
  · rw [endE, if_pos hlt]
    have hlt' : (a : Int) < l.length := by omega
    by_cases he : e0 = 0
    · subst he
      rw [failE, if_pos rfl, if_neg (by omega)]
      go_enter Try.func103, Try.ntmps103
      go_wp2_with (go_at_call 106; refine (rfail_any _ ad l.length c rfl a 0 211 _).mono ?_; rintro e w1 ⟨rfl, hbw⟩; have c0_0 := hbw.cell (p := ⟨w.heap.size, 0, none⟩) (by first | omega | (simp <;> omega)); have f0_0 := hbw.frozen (p := ⟨w.heap.size, 0, none⟩) (by first | omega | (simp <;> omega)); have c0_1 := hbw.cell (p := ⟨w.heap.size, 1, none⟩) (by first | omega | (simp <;> omega)); have f0_1 := hbw.frozen (p := ⟨w.heap.size, 1, none⟩) (by first | omega | (simp <;> omega)); have c0_2 := hbw.cell (p := ⟨w.heap.size, 2, none⟩) (by first | omega | (simp <;> omega)); have f0_2 := hbw.frozen (p := ⟨w.heap.size, 2, none⟩) (by first | omega | (simp <;> omega)); have c1_0 := hbw.cell (p := ⟨w.heap.size + 1, 0, none⟩) (by first | omega | (simp <;> omega)); have f1_0 := hbw.frozen (p := ⟨w.heap.size + 1, 0, none⟩) (by first | omega | (simp <;> omega)); have c1_1 := hbw.cell (p := ⟨w.heap.size + 1, 1, none⟩) (by first | omega | (simp <;> omega)); have f1_1 := hbw.frozen (p := ⟨w.heap.size + 1, 1, none⟩) (by first | omega | (simp <;> omega)); have c1_2 := hbw.cell (p := ⟨w.heap.size + 1, 2, none⟩) (by first | omega | (simp <;> omega)); have f1_2 := hbw.frozen (p := ⟨w.heap.size + 1, 2, none⟩) (by first | omega | (simp <;> omega)))
      refine bodyPost_ret (v := .agg #[.slice ad l.length c, .int .i64 a, .int .i64 211]) (by simp [results, Try.results103, go_sem, *]) rfl ⟨rfl, ?_⟩
      (repeat (first | with_reducible exact Below.refl _ _ | ((with_reducible refine Below.setCell ?_ ?_ _); rotate_left; (focus (first | omega | (simp; done) | (simp; omega)))) | ((with_reducible refine Below.alloc ?_ ?_ _); rotate_left; (focus (first | omega | (simp; done) | (simp; omega)))) | (with_reducible refine Below.drew ?_) | (with_reducible refine below_drewN ?_ _) | ((with_reducible refine Below.trans ?_ (Below.mono hbw ?_)); rotate_left; (focus (first | omega | (simp; done) | (simp; omega))))))
    · rw [failE, if_neg he]
      have hne : (e0 == 0) = false := by simpa using he
      clear he
      go_enter Try.func103, Try.ntmps103
      go_wp2
      refine bodyPost_ret (v := .agg #[.slice ad l.length c, .int .i64 a, .int .i64 e0]) (by simp [results, Try.results103, go_sem]) rfl ⟨rfl, ?_⟩
      (repeat (first | with_reducible exact Below.refl _ _ | ((with_reducible refine Below.setCell ?_ ?_ _); rotate_left; (focus (first | omega | (simp; done) | (simp; omega)))) | ((with_reducible refine Below.alloc ?_ ?_ _); rotate_left; (focus (first | omega | (simp; done) | (simp; omega)))) | (with_reducible refine Below.drew ?_) | (with_reducible refine below_drewN ?_ _)))
  · rw [endE, if_neg hlt]
    have hlt' : ¬ (a : Int) < l.length := by omega
    by_cases he : e0 = 0
    · subst he
      go_enter Try.func103, Try.ntmps103
      go_wp2
      refine bodyPost_ret (v := .agg #[.slice ad l.length c, .int .i64 a, .int .i64 0]) (by simp [results, Try.results103, go_sem]) rfl ⟨rfl, ?_⟩
      (repeat (first | with_reducible exact Below.refl _ _ | ((with_reducible refine Below.setCell ?_ ?_ _); rotate_left; (focus (first | omega | (simp; done) | (simp; omega)))) | ((with_reducible refine Below.alloc ?_ ?_ _); rotate_left; (focus (first | omega | (simp; done) | (simp; omega)))) | (with_reducible refine Below.drew ?_) | (with_reducible refine below_drewN ?_ _)))
    · have hne : (e0 == 0) = false := by simpa using he
      clear he
      go_enter Try.func103, Try.ntmps103
      go_wp2
      refine bodyPost_ret (v := .agg #[.slice ad l.length c, .int .i64 a, .int .i64 e0]) (by simp [results, Try.results103, go_sem]) rfl ⟨rfl, ?_⟩
      (repeat (first | with_reducible exact Below.refl _ _ | ((with_reducible refine Below.setCell ?_ ?_ _); rotate_left; (focus (first | omega | (simp; done) | (simp; omega)))) | ((with_reducible refine Below.alloc ?_ ?_ _); rotate_left; (focus (first | omega | (simp; done) | (simp; omega)))) | (with_reducible refine Below.drew ?_) | (with_reducible refine below_drewN ?_ _)))

set_option maxRecDepth 100000 in
set_option maxHeartbeats 4000000 in
theorem rReadText_all (v : Value) (l : List Int) (a : Nat) (e0 most : Int) (w : World) (h : Ints .u8 w v l) (hb : AllB l) (ha : a ≤ l.length) (hl : l.length ≤ 100000) (hm : Ok64 most) :
    Calls Try.prog 100 #[.agg #[v, .int .i64 a, .int .i64 e0], .int .i64 most] w fun e w' => ∃ v', RefR w v (rdText' l a e0 most).2.1 (rdText' l a e0 most).2.2 v' e w' ∧ Ints .u8 w' v' (rdText' l a e0 most).1 := by
  have hN := fun W hW => rReadN_all v l a e0 most W hW hb ha hl hm
  have hfc := rdN'_facts l hb a e0 most
  rw [rdText'_of]
  generalize rdN' l a e0 most = r at *
  obtain ⟨n, a', e'⟩ := r
  simp only at hN hfc ⊢
  have HN := Lib.hid hN
  have HI := Lib.hid (h.below (w' := (w.alloc (.cells #[v, .int .i64 a, .int .i64 e0] 77)).alloc (.cells #[.slice none 0 0, .int .i64 0, .int .i64 0] 77)) (by (repeat (first | with_reducible exact Below.refl _ _ | ((with_reducible refine Below.setCell ?_ ?_ _); rotate_left; (focus (first | omega | (simp; done) | (simp; omega)))) | ((with_reducible refine Below.alloc ?_ ?_ _); rotate_left; (focus (first | omega | (simp; done) | (simp; omega)))) | (with_reducible refine Below.drew ?_) | (with_reducible refine below_drewN ?_ _)))))
  have H0 := Lib.hid h
  obtain ⟨ad, c, rfl, g1, g2, g3, _⟩ := h
  clear hN
  unfold Ok64 at hm
  by_cases he : e' = 0
  · subst he
    rw [if_neg (by omega)]
    obtain ⟨ha1, ha2, hn⟩ := hfc.2 rfl
    clear hfc
    by_cases hs : l.length < a' + n
    · rw [if_pos hs]
      have hs' : (l.length : Int) - a' < n := by omega
      go_enter Try.func100, Try.ntmps100
      go_wp2_with fail
      refine (HN.out _ HI.out).mono ?_
      rintro e w1 ⟨rfl, hbw⟩
      have c0_0 := hbw.cell (p := ⟨w.heap.size, 0, none⟩) (by first | omega | (simp <;> omega)); have f0_0 := hbw.frozen (p := ⟨w.heap.size, 0, none⟩) (by first | omega | (simp <;> omega)); have c0_1 := hbw.cell (p := ⟨w.heap.size, 1, none⟩) (by first | omega | (simp <;> omega)); have f0_1 := hbw.frozen (p := ⟨w.heap.size, 1, none⟩) (by first | omega | (simp <;> omega)); have c0_2 := hbw.cell (p := ⟨w.heap.size, 2, none⟩) (by first | omega | (simp <;> omega)); have f0_2 := hbw.frozen (p := ⟨w.heap.size, 2, none⟩) (by first | omega | (simp <;> omega)); have c1_0 := hbw.cell (p := ⟨w.heap.size + 1, 0, none⟩) (by first | omega | (simp <;> omega)); have f1_0 := hbw.frozen (p := ⟨w.heap.size + 1, 0, none⟩) (by first | omega | (simp <;> omega)); have c1_1 := hbw.cell (p := ⟨w.heap.size + 1, 1, none⟩) (by first | omega | (simp <;> omega)); have f1_1 := hbw.frozen (p := ⟨w.heap.size + 1, 1, none⟩) (by first | omega | (simp <;> omega)); have c1_2 := hbw.cell (p := ⟨w.heap.size + 1, 2, none⟩) (by first | omega | (simp <;> omega)); have f1_2 := hbw.frozen (p := ⟨w.heap.size + 1, 2, none⟩) (by first | omega | (simp <;> omega))
      have hz0 : w.heap.size < w1.heap.size := (by have := hbw.size; first | omega | (simp at this; omega)); have hy0 : w.heap.size ≠ w1.heap.size := (by omega); have hx0 : w1.heap.size ≠ w.heap.size := (by omega); have hz1 : w.heap.size + 1 < w1.heap.size := (by have := hbw.size; first | omega | (simp at this; omega)); have hy1 : w.heap.size + 1 ≠ w1.heap.size := (by omega); have hx1 : w1.heap.size ≠ w.heap.size + 1 := (by omega)
      go_wp2_with (go_at_call 106; refine (rfail_any _ ad l.length c rfl a e0 210 _).mono ?_; rintro e w2 ⟨rfl, hbw2⟩; have c0_0 := hbw2.cell (p := ⟨w.heap.size, 0, none⟩) (by first | omega | (simp <;> omega)); have f0_0 := hbw2.frozen (p := ⟨w.heap.size, 0, none⟩) (by first | omega | (simp <;> omega)); have c0_1 := hbw2.cell (p := ⟨w.heap.size, 1, none⟩) (by first | omega | (simp <;> omega)); have f0_1 := hbw2.frozen (p := ⟨w.heap.size, 1, none⟩) (by first | omega | (simp <;> omega)); have c0_2 := hbw2.cell (p := ⟨w.heap.size, 2, none⟩) (by first | omega | (simp <;> omega)); have f0_2 := hbw2.frozen (p := ⟨w.heap.size, 2, none⟩) (by first | omega | (simp <;> omega)); have c1_0 := hbw2.cell (p := ⟨w.heap.size + 1, 0, none⟩) (by first | omega | (simp <;> omega)); have f1_0 := hbw2.frozen (p := ⟨w.heap.size + 1, 0, none⟩) (by first | omega | (simp <;> omega)); have c1_1 := hbw2.cell (p := ⟨w.heap.size + 1, 1, none⟩) (by first | omega | (simp <;> omega)); have f1_1 := hbw2.frozen (p := ⟨w.heap.size + 1, 1, none⟩) (by first | omega | (simp <;> omega)); have c1_2 := hbw2.cell (p := ⟨w.heap.size + 1, 2, none⟩) (by first | omega | (simp <;> omega)); have f1_2 := hbw2.frozen (p := ⟨w.heap.size + 1, 2, none⟩) (by first | omega | (simp <;> omega)))
      refine bodyPost_ret (v := .tuple #[.agg #[.slice ad l.length c, .int .i64 a, .int .i64 210], .slice none 0 0]) (by simp [results, Try.results100, go_sem, *]) rfl ⟨_, ⟨rfl, ?_⟩, ints_nil _ _ _ _ (by omega)⟩
      (repeat (first | with_reducible exact Below.refl _ _ | ((with_reducible refine Below.setCell ?_ ?_ _); rotate_left; (focus (first | omega | (simp; done) | (simp; omega)))) | ((with_reducible refine Below.alloc ?_ ?_ _); rotate_left; (focus (first | omega | (simp; done) | (simp; omega)))) | (with_reducible refine Below.drew ?_) | (with_reducible refine below_drewN ?_ _) | ((with_reducible refine Below.trans ?_ (Below.mono hbw2 ?_)); rotate_left; (focus (first | omega | (simp; done) | (simp; omega)))) | ((with_reducible refine Below.trans ?_ (Below.mono hbw ?_)); rotate_left; (focus (first | omega | (simp; done) | (simp; omega))))))
    · rw [if_neg hs]
      have hs' : ¬ (l.length : Int) - a' < n := by omega
      have hd : c = a' ∨ ¬ c = a' := by omega
      have hw1 : IntKind.i64.wrap ((a' : Int) + n) = (a' : Int) + n := IntWalk.i64_in _ (by omega)
      rcases hd with hca | hca
      · subst hca
        have hn0 : n = 0 := by omega
        subst hn0
        have p0 : IntKind.i64.wrap (c : Int) = (c : Int) := IntWalk.i64_in _ (by omega)
        have p1 : (0 : Int) ≤ (c : Int) := by omega
        have p2 : (c : Int) ≤ (c : Int) := by omega
        go_enter Try.func100, Try.ntmps100
        go_wp2_with fail
        refine (HN.out _ HI.out).mono ?_
        rintro e w1 ⟨rfl, hbw⟩
        have c0_0 := hbw.cell (p := ⟨w.heap.size, 0, none⟩) (by first | omega | (simp <;> omega)); have f0_0 := hbw.frozen (p := ⟨w.heap.size, 0, none⟩) (by first | omega | (simp <;> omega)); have c0_1 := hbw.cell (p := ⟨w.heap.size, 1, none⟩) (by first | omega | (simp <;> omega)); have f0_1 := hbw.frozen (p := ⟨w.heap.size, 1, none⟩) (by first | omega | (simp <;> omega)); have c0_2 := hbw.cell (p := ⟨w.heap.size, 2, none⟩) (by first | omega | (simp <;> omega)); have f0_2 := hbw.frozen (p := ⟨w.heap.size, 2, none⟩) (by first | omega | (simp <;> omega)); have c1_0 := hbw.cell (p := ⟨w.heap.size + 1, 0, none⟩) (by first | omega | (simp <;> omega)); have f1_0 := hbw.frozen (p := ⟨w.heap.size + 1, 0, none⟩) (by first | omega | (simp <;> omega)); have c1_1 := hbw.cell (p := ⟨w.heap.size + 1, 1, none⟩) (by first | omega | (simp <;> omega)); have f1_1 := hbw.frozen (p := ⟨w.heap.size + 1, 1, none⟩) (by first | omega | (simp <;> omega)); have c1_2 := hbw.cell (p := ⟨w.heap.size + 1, 2, none⟩) (by first | omega | (simp <;> omega)); have f1_2 := hbw.frozen (p := ⟨w.heap.size + 1, 2, none⟩) (by first | omega | (simp <;> omega))
        have hz0 : w.heap.size < w1.heap.size := (by have := hbw.size; first | omega | (simp at this; omega)); have hy0 : w.heap.size ≠ w1.heap.size := (by omega); have hx0 : w1.heap.size ≠ w.heap.size := (by omega); have hz1 : w.heap.size + 1 < w1.heap.size := (by have := hbw.size; first | omega | (simp at this; omega)); have hy1 : w.heap.size + 1 ≠ w1.heap.size := (by omega); have hx1 : w1.heap.size ≠ w.heap.size + 1 := (by omega)
        go_wp2_with fail
        go_region_held3 (fun w' => w'.cell? ⟨w1.heap.size, 0, none⟩ = some (.slice ad l.length c) ∧ w'.cell? ⟨w1.heap.size, 1, none⟩ = some (.int .i64 c)) (first | (go_simp; done) | (go_keep; done) | (refine ⟨?_, ?_⟩ <;> first | (go_simp; done) | (go_keep; done))) (first | (fail))
        go_wp2
        refine bodyPost_ret (v := .tuple #[.agg #[.slice ad l.length c, .int .i64 c, .int .i64 0], .slice ad 0 0]) (by simp [results, Try.results100, go_sem, *]) rfl ⟨.slice ad 0 0, ⟨rfl, ?_⟩, by rw [List.take_zero]; exact ints_nil _ _ _ _ (by omega)⟩
        (repeat (first | with_reducible exact Below.refl _ _ | ((with_reducible refine Below.setCell ?_ ?_ _); rotate_left; (focus (first | omega | (simp; done) | (simp; omega)))) | ((with_reducible refine Below.alloc ?_ ?_ _); rotate_left; (focus (first | omega | (simp; done) | (simp; omega)))) | (with_reducible refine Below.drew ?_) | (with_reducible refine below_drewN ?_ _) | ((with_reducible refine Below.trans ?_ (Below.mono hbw ?_)); rotate_left; (focus (first | omega | (simp; done) | (simp; omega))))))
      · have p1 : (0 : Int) ≤ (a' : Int) + n := by omega
        have p2 : (a' : Int) + n ≤ (c : Int) := by omega
        have p3 : (a' : Int) ≤ (a' : Int) + n := by omega
        have p4 : (0 : Int) ≤ (a' : Int) := by omega
        go_enter Try.func100, Try.ntmps100
        go_wp2_with fail
        refine (HN.out _ HI.out).mono ?_
        rintro e w1 ⟨rfl, hbw⟩
        have c0_0 := hbw.cell (p := ⟨w.heap.size, 0, none⟩) (by first | omega | (simp <;> omega)); have f0_0 := hbw.frozen (p := ⟨w.heap.size, 0, none⟩) (by first | omega | (simp <;> omega)); have c0_1 := hbw.cell (p := ⟨w.heap.size, 1, none⟩) (by first | omega | (simp <;> omega)); have f0_1 := hbw.frozen (p := ⟨w.heap.size, 1, none⟩) (by first | omega | (simp <;> omega)); have c0_2 := hbw.cell (p := ⟨w.heap.size, 2, none⟩) (by first | omega | (simp <;> omega)); have f0_2 := hbw.frozen (p := ⟨w.heap.size, 2, none⟩) (by first | omega | (simp <;> omega)); have c1_0 := hbw.cell (p := ⟨w.heap.size + 1, 0, none⟩) (by first | omega | (simp <;> omega)); have f1_0 := hbw.frozen (p := ⟨w.heap.size + 1, 0, none⟩) (by first | omega | (simp <;> omega)); have c1_1 := hbw.cell (p := ⟨w.heap.size + 1, 1, none⟩) (by first | omega | (simp <;> omega)); have f1_1 := hbw.frozen (p := ⟨w.heap.size + 1, 1, none⟩) (by first | omega | (simp <;> omega)); have c1_2 := hbw.cell (p := ⟨w.heap.size + 1, 2, none⟩) (by first | omega | (simp <;> omega)); have f1_2 := hbw.frozen (p := ⟨w.heap.size + 1, 2, none⟩) (by first | omega | (simp <;> omega))
        have hz0 : w.heap.size < w1.heap.size := (by have := hbw.size; first | omega | (simp at this; omega)); have hy0 : w.heap.size ≠ w1.heap.size := (by omega); have hx0 : w1.heap.size ≠ w.heap.size := (by omega); have hz1 : w.heap.size + 1 < w1.heap.size := (by have := hbw.size; first | omega | (simp at this; omega)); have hy1 : w.heap.size + 1 ≠ w1.heap.size := (by omega); have hx1 : w1.heap.size ≠ w.heap.size + 1 := (by omega)
        go_wp2_with fail
        go_region_held3 (fun w' => w'.cell? ⟨w1.heap.size, 0, none⟩ = some (.slice ad l.length c) ∧ w'.cell? ⟨w1.heap.size, 1, none⟩ = some (.int .i64 a')) (first | (go_simp; done) | (go_keep; done) | (refine ⟨?_, ?_⟩ <;> first | (go_simp; done) | (go_keep; done))) (first | (fail))
        go_wp2
        refine bodyPost_ret (v := .tuple #[.agg #[.slice ad l.length c, .int .i64 ((a' : Int) + n), .int .i64 0], .slice (Option.map (fun x => x.add a') ad) (((a' : Int) + n).toNat - a') (c - a')]) (by simp [results, Try.results100, go_sem, *]) rfl ((fun hb' => ⟨_, ⟨ret_agg (by omega), hb'⟩, ((H0.out.below hb').cutAt (i := a') (m := n) (by omega) (c - a') (by omega) (by omega) (fun hm b o e => by subst e; simp [Addr.add]; omega)).len (by omega)⟩) ?_)
        (repeat (first | with_reducible exact Below.refl _ _ | ((with_reducible refine Below.setCell ?_ ?_ _); rotate_left; (focus (first | omega | (simp; done) | (simp; omega)))) | ((with_reducible refine Below.alloc ?_ ?_ _); rotate_left; (focus (first | omega | (simp; done) | (simp; omega)))) | (with_reducible refine Below.drew ?_) | (with_reducible refine below_drewN ?_ _) | ((with_reducible refine Below.trans ?_ (Below.mono hbw ?_)); rotate_left; (focus (first | omega | (simp; done) | (simp; omega))))))
  · obtain ⟨h1, h2⟩ := hfc.1 he
    subst h1 h2
    rw [if_pos he]
    have hne : (e' != 0) = true := by simpa using he
    clear hfc he
    go_enter Try.func100, Try.ntmps100
    go_wp2_with fail
    refine (HN.out _ HI.out).mono ?_
    rintro e w1 ⟨rfl, hbw⟩
    have c0_0 := hbw.cell (p := ⟨w.heap.size, 0, none⟩) (by first | omega | (simp <;> omega)); have f0_0 := hbw.frozen (p := ⟨w.heap.size, 0, none⟩) (by first | omega | (simp <;> omega)); have c0_1 := hbw.cell (p := ⟨w.heap.size, 1, none⟩) (by first | omega | (simp <;> omega)); have f0_1 := hbw.frozen (p := ⟨w.heap.size, 1, none⟩) (by first | omega | (simp <;> omega)); have c0_2 := hbw.cell (p := ⟨w.heap.size, 2, none⟩) (by first | omega | (simp <;> omega)); have f0_2 := hbw.frozen (p := ⟨w.heap.size, 2, none⟩) (by first | omega | (simp <;> omega)); have c1_0 := hbw.cell (p := ⟨w.heap.size + 1, 0, none⟩) (by first | omega | (simp <;> omega)); have f1_0 := hbw.frozen (p := ⟨w.heap.size + 1, 0, none⟩) (by first | omega | (simp <;> omega)); have c1_1 := hbw.cell (p := ⟨w.heap.size + 1, 1, none⟩) (by first | omega | (simp <;> omega)); have f1_1 := hbw.frozen (p := ⟨w.heap.size + 1, 1, none⟩) (by first | omega | (simp <;> omega)); have c1_2 := hbw.cell (p := ⟨w.heap.size + 1, 2, none⟩) (by first | omega | (simp <;> omega)); have f1_2 := hbw.frozen (p := ⟨w.heap.size + 1, 2, none⟩) (by first | omega | (simp <;> omega))
    have hz0 : w.heap.size < w1.heap.size := (by have := hbw.size; first | omega | (simp at this; omega)); have hy0 : w.heap.size ≠ w1.heap.size := (by omega); have hx0 : w1.heap.size ≠ w.heap.size := (by omega); have hz1 : w.heap.size + 1 < w1.heap.size := (by have := hbw.size; first | omega | (simp at this; omega)); have hy1 : w.heap.size + 1 ≠ w1.heap.size := (by omega); have hx1 : w1.heap.size ≠ w.heap.size + 1 := (by omega)
    go_wp2
    refine bodyPost_ret (v := .tuple #[.agg #[.slice ad l.length c, .int .i64 a', .int .i64 e'], .slice none 0 0]) (by simp [results, Try.results100, go_sem, *]) rfl ⟨_, ⟨rfl, ?_⟩, ints_nil _ _ _ _ (by omega)⟩
    (repeat (first | with_reducible exact Below.refl _ _ | ((with_reducible refine Below.setCell ?_ ?_ _); rotate_left; (focus (first | omega | (simp; done) | (simp; omega)))) | ((with_reducible refine Below.alloc ?_ ?_ _); rotate_left; (focus (first | omega | (simp; done) | (simp; omega)))) | (with_reducible refine Below.drew ?_) | (with_reducible refine below_drewN ?_ _) | ((with_reducible refine Below.trans ?_ (Below.mono hbw ?_)); rotate_left; (focus (first | omega | (simp; done) | (simp; omega))))))
end Go.Proofs.Ytfbodloidogliaa
