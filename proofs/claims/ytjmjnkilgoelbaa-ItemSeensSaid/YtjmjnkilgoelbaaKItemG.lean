/-
  ItemG: Walks of item.checked (an ask) and of item.GetAsk.
-/
import Derived.Test.YtjmjnkilgoelbaaJ2a
import Derived.Test.YtjmjnkilgoelbaaJ0c
namespace Go.Proofs.Ytjmjnkilgoelbaa
open Go.RowKit

set_option maxRecDepth 100000 in
set_option maxHeartbeats 4000000 in
theorem checkedA_any {w : World} {R : Nat} {v : Value} {l : List Int} {a : Nat} {e0 : Int} (h : Rd w R v l a e0) (k id n m : Int) (xa : Option Addr) (xn xc : Nat) (x : List Int) (hx : Ints .i64 w (.slice xa xn xc) x) (B : Bool) (hr : ∀ W, Ints .i64 W (.slice xa xn xc) x → Calls Try.prog 37 #[.agg #[.int .i64 k, .int .i64 id, .slice xa xn xc, .int .i64 n, .int .i64 m]] W fun e w' => e = .returned (.bool B) ∧ Below W.heap.size W w') :
    Calls Try.prog 108 #[.pointer (some ⟨R, 0, none⟩), .agg #[.int .i64 k, .int .i64 id, .slice xa xn xc, .int .i64 n, .int .i64 m], .func (.func 37) #[] #[]] w fun e w' => e = .returned (if finE e0 B = 0 then .agg #[.int .i64 k, .int .i64 id, .slice xa xn xc, .int .i64 n, .int .i64 m] else .agg #[.int .i64 0, .int .i64 0, .slice none 0 0, .int .i64 0, .int .i64 0]) ∧ RdTo w R v l w' a (finE e0 B) := by
  have H := Lib.hid h
  have hR := h.lt
  have HR := Lib.hid hr
  have HX := Lib.hid hx; clear hx
  clear h hr
  by_cases he : e0 = 0
  · subst he
    cases B with
    | true =>
      rw [show finE 0 true = 0 from rfl, if_pos rfl]
      go_enter Try.func108, Try.ntmps108
      go_wp2_with fail
      refine (err_any (H.out.below (by (repeat (first | with_reducible exact Below.refl _ _ | with_reducible refine Bs ?_ | with_reducible refine Ba ?_ | with_reducible refine Bd ?_ | with_reducible refine Bn ?_))))).mono ?_
      rintro e w1 ⟨rfl, rfl⟩
      go_wp2_with fail
      (with_reducible refine (HR.out _ (HX.out.below (by (repeat (first | with_reducible exact Below.refl _ _ | with_reducible refine Bs ?_ | with_reducible refine Ba ?_ | with_reducible refine Bd ?_ | with_reducible refine Bn ?_))))).mono ?_); rintro e w1 ⟨rfl, b1⟩; have s1 : w.heap.size + 1 + 1 + 1 ≤ w1.heap.size := sz b1; have B1 := Lib.hid (Bc (B := w.heap.size) (a := w) (by (repeat (first | with_reducible exact Below.refl _ _ | with_reducible refine Bs ?_ | with_reducible refine Ba ?_ | with_reducible refine Bd ?_ | with_reducible refine Bn ?_))) b1); obtain ⟨c1_0, c1_1, c1_2, c1_3, c1_4⟩ := k5 (w.heap.size) (.int .i64 k) (.int .i64 id) (.slice xa xn xc) (.int .i64 n) (.int .i64 m) b1 (by and_intros <;> go_simp); obtain ⟨c1_5, f1_5, c1_6, f1_6, c1_7, f1_7, c1_8, f1_8, c1_9, f1_9⟩ := k5f (w.heap.size + 1) (.int .i64 0) (.int .i64 0) (.slice none 0 0) (.int .i64 0) (.int .i64 0) b1 (by and_intros <;> go_simp); obtain ⟨l1_0, n1_0, m1_0⟩ := lnm (show w.heap.size < w1.heap.size by omega); obtain ⟨l1_1, n1_1, m1_1⟩ := lnm (show w.heap.size + 1 < w1.heap.size by omega); clear b1
      go_wp2_with fail
      refine (err_any (H.out.below (show Below w.heap.size w _ from by (repeat (first | with_reducible exact Below.refl _ _ | with_reducible refine Bs ?_ | with_reducible refine Ba ?_ | with_reducible refine Bd ?_ | with_reducible refine Bn ?_ | with_reducible refine Bt B1.out ?_))))).mono ?_
      rintro e w2 ⟨rfl, rfl⟩
      go_wp2_with fail
      exact bodyPost_ret (v := .agg #[.int .i64 k, .int .i64 id, .slice xa xn xc, .int .i64 n, .int .i64 m]) (by simp [results, Try.results108, go_sem, *]) rfl ⟨rfl, RdTo.belowB H.out (RdTo.refl H.out) (by (repeat (first | with_reducible exact Below.refl _ _ | with_reducible refine Bs ?_ | with_reducible refine Ba ?_ | with_reducible refine Bd ?_ | with_reducible refine Bn ?_ | with_reducible refine Bt B1.out ?_)))⟩
    | false =>
      rw [show finE 0 false = 211 from rfl, if_neg (by decide)]
      go_enter Try.func108, Try.ntmps108
      go_wp2_with fail
      refine (err_any (H.out.below (by (repeat (first | with_reducible exact Below.refl _ _ | with_reducible refine Bs ?_ | with_reducible refine Ba ?_ | with_reducible refine Bd ?_ | with_reducible refine Bn ?_))))).mono ?_
      rintro e w1 ⟨rfl, rfl⟩
      go_wp2_with fail
      (with_reducible refine (HR.out _ (HX.out.below (by (repeat (first | with_reducible exact Below.refl _ _ | with_reducible refine Bs ?_ | with_reducible refine Ba ?_ | with_reducible refine Bd ?_ | with_reducible refine Bn ?_))))).mono ?_); rintro e w1 ⟨rfl, b1⟩; have s1 : w.heap.size + 1 + 1 + 1 ≤ w1.heap.size := sz b1; have B1 := Lib.hid (Bc (B := w.heap.size) (a := w) (by (repeat (first | with_reducible exact Below.refl _ _ | with_reducible refine Bs ?_ | with_reducible refine Ba ?_ | with_reducible refine Bd ?_ | with_reducible refine Bn ?_))) b1); obtain ⟨c1_0, c1_1, c1_2, c1_3, c1_4⟩ := k5 (w.heap.size + 2) (.int .i64 0) (.int .i64 0) (.slice none 0 0) (.int .i64 0) (.int .i64 0) b1 (by and_intros <;> go_simp); obtain ⟨c1_5, f1_5, c1_6, f1_6, c1_7, f1_7, c1_8, f1_8, c1_9, f1_9⟩ := k5f (w.heap.size + 1) (.int .i64 0) (.int .i64 0) (.slice none 0 0) (.int .i64 0) (.int .i64 0) b1 (by and_intros <;> go_simp); obtain ⟨l1_0, n1_0, m1_0⟩ := lnm (show w.heap.size + 2 < w1.heap.size by omega); obtain ⟨l1_1, n1_1, m1_1⟩ := lnm (show w.heap.size + 1 < w1.heap.size by omega); clear b1
      go_wp2_with fail
      refine (fail_any (H.out.below (show Below w.heap.size w _ from by (repeat (first | with_reducible exact Below.refl _ _ | with_reducible refine Bs ?_ | with_reducible refine Ba ?_ | with_reducible refine Bd ?_ | with_reducible refine Bn ?_ | with_reducible refine Bt B1.out ?_)))) 211).mono ?_
      rintro e w2 ⟨rfl, hr2⟩
      rw [show failE 0 211 = 211 from rfl] at hr2
      have hg := hr2.2
      have HR2 := Lib.hid (RdTo.from (w := w) (show Below w.heap.size w _ from by (repeat (first | with_reducible exact Below.refl _ _ | with_reducible refine Bs ?_ | with_reducible refine Ba ?_ | with_reducible refine Bd ?_ | with_reducible refine Bn ?_ | with_reducible refine Bt B1.out ?_))) hr2)
      have hsz : w1.heap.size ≤ w2.heap.size := hg.size
      have z0 := (only_cell hg (w.heap.size + 2) 0 (by omega) (by omega)).trans c1_0
      have y0 := (only_cell hg (w.heap.size + 1) 0 (by omega) (by omega)).trans c1_5
      have x0 := (only_frozen hg (w.heap.size + 1) 0 (by omega) (by omega)).trans f1_5
      have z1 := (only_cell hg (w.heap.size + 2) 1 (by omega) (by omega)).trans c1_1
      have y1 := (only_cell hg (w.heap.size + 1) 1 (by omega) (by omega)).trans c1_6
      have x1 := (only_frozen hg (w.heap.size + 1) 1 (by omega) (by omega)).trans f1_6
      have z2 := (only_cell hg (w.heap.size + 2) 2 (by omega) (by omega)).trans c1_2
      have y2 := (only_cell hg (w.heap.size + 1) 2 (by omega) (by omega)).trans c1_7
      have x2 := (only_frozen hg (w.heap.size + 1) 2 (by omega) (by omega)).trans f1_7
      have z3 := (only_cell hg (w.heap.size + 2) 3 (by omega) (by omega)).trans c1_3
      have y3 := (only_cell hg (w.heap.size + 1) 3 (by omega) (by omega)).trans c1_8
      have x3 := (only_frozen hg (w.heap.size + 1) 3 (by omega) (by omega)).trans f1_8
      have z4 := (only_cell hg (w.heap.size + 2) 4 (by omega) (by omega)).trans c1_4
      have y4 := (only_cell hg (w.heap.size + 1) 4 (by omega) (by omega)).trans c1_9
      have x4 := (only_frozen hg (w.heap.size + 1) 4 (by omega) (by omega)).trans f1_9
      clear hr2 hg
      go_wp2_with fail
      refine (err_any HR2.out.1).mono ?_
      rintro e w3 ⟨rfl, rfl⟩
      go_wp2_with fail
      exact bodyPost_ret (v := .agg #[.int .i64 0, .int .i64 0, .slice none 0 0, .int .i64 0, .int .i64 0]) (by simp [results, Try.results108, go_sem, *]) rfl ⟨rfl, RdTo.belowB H.out HR2.out (by (repeat (first | with_reducible exact Below.refl _ _ | with_reducible refine Bs ?_ | with_reducible refine Ba ?_ | with_reducible refine Bd ?_ | with_reducible refine Bn ?_)))⟩
  · have j1 : (e0 == 0) = false := by simpa using he
    have j2 : (e0 != 0) = true := by simpa using he
    have e1 : finE e0 B = e0 := if_neg he
    rw [e1, if_neg he]
    clear e1 he
    go_enter Try.func108, Try.ntmps108
    go_wp2_with fail
    refine (err_any (H.out.below (by (repeat (first | with_reducible exact Below.refl _ _ | with_reducible refine Bs ?_ | with_reducible refine Ba ?_ | with_reducible refine Bd ?_ | with_reducible refine Bn ?_))))).mono ?_
    rintro e w1 ⟨rfl, rfl⟩
    go_wp2_with fail
    refine (err_any (H.out.below (by (repeat (first | with_reducible exact Below.refl _ _ | with_reducible refine Bs ?_ | with_reducible refine Ba ?_ | with_reducible refine Bd ?_ | with_reducible refine Bn ?_))))).mono ?_
    rintro e w2 ⟨rfl, rfl⟩
    go_wp2_with fail
    exact bodyPost_ret (v := .agg #[.int .i64 0, .int .i64 0, .slice none 0 0, .int .i64 0, .int .i64 0]) (by simp [results, Try.results108, go_sem, *]) rfl ⟨rfl, RdTo.belowB H.out (RdTo.refl H.out) (by (repeat (first | with_reducible exact Below.refl _ _ | with_reducible refine Bs ?_ | with_reducible refine Ba ?_ | with_reducible refine Bd ?_ | with_reducible refine Bn ?_)))⟩

theorem checkedA_val {w : World} {R : Nat} {v : Value} {l : List Int} {a : Nat} {e0 : Int} (h : Rd w R v l a e0) (k id n m : Int) (xa : Option Addr) (xn xc : Nat) (x : List Int) (hx : Ints .i64 w (.slice xa xn xc) x) (E : Int) (hE : E = finE e0 (askB k id n m x)) :
    Calls Try.prog 108 #[.pointer (some ⟨R, 0, none⟩), .agg #[.int .i64 k, .int .i64 id, .slice xa xn xc, .int .i64 n, .int .i64 m], .func (.func 37) #[] #[]] w fun e w' => ∃ val, e = .returned val ∧ (E = 0 → val = .agg #[.int .i64 k, .int .i64 id, .slice xa xn xc, .int .i64 n, .int .i64 m]) ∧ (E ≠ 0 → val = .agg #[.int .i64 0, .int .i64 0, .slice none 0 0, .int .i64 0, .int .i64 0]) ∧ RdTo w R v l w' a E := by
  subst hE
  refine (checkedA_any h k id n m xa xn xc x hx _ (fun W hW => rightAsk_any k id n m _ x W hW)).mono ?_
  rintro e w' ⟨rfl, r⟩
  exact ⟨_, rfl, fun h0 => if_pos h0, fun h0 => if_neg h0, r⟩

def GotA (w : World) (R : Nat) (v : Value) (l : List Int) (r : AskT × Nat × Int) (e : Ending) (w' : World) : Prop :=
  ∃ vx, e = .returned (.agg #[.int .i64 r.1.1, .int .i64 r.1.2.1, vx, .int .i64 r.1.2.2.2.1, .int .i64 r.1.2.2.2.2]) ∧ Ints .i64 w' vx r.1.2.2.1 ∧ RdTo w R v l w' r.2.1 r.2.2 ∧ Fresh w.heap.size vx

theorem GotA.zero {w : World} {R : Nat} {v : Value} {l : List Int} {a : Nat} {e : Int} {w' : World} (h : RdTo w R v l w' a e) : GotA w R v l (askT0, a, e) (.returned (.agg #[.int .i64 0, .int .i64 0, .slice none 0 0, .int .i64 0, .int .i64 0])) w' :=
  ⟨_, rfl, ints_nil _ _ _ _ (by omega), h, fresh_nil _ _ _⟩

theorem rdN_call {w : World} {R : Nat} {v : Value} {l : List Int} {a : Nat} {e0 : Int} (hb : AllB l) (ha : a ≤ l.length) (hl : l.length ≤ 100000) (most : Int) (hm : Ok64 most) (n a' : Nat) (e' : Int) (hr : rdN' l a e0 most = (n, a', e')) (h : Rd w R v l a e0) :
    Calls Try.prog 96 #[.pointer (some ⟨R, 0, none⟩), .int .i64 most] w fun e w' => e = .returned (.int .i64 n) ∧ RdTo w R v l w' a' e' := by
  have := readN_all h hb ha hl most hm
  rw [hr] at this
  exact this

theorem rdInts_call {w : World} {R : Nat} {v : Value} {l : List Int} {a : Nat} {e0 : Int} (hb : AllB l) (ha : a ≤ l.length) (hl : l.length ≤ 100000) (most : Int) (hm : Ok64 most) (x : List Int) (a' : Nat) (e' : Int) (hr : rdInts' l a e0 most = (x, a', e')) (h : Rd w R v l a e0) :
    Calls Try.prog 107 #[.pointer (some ⟨R, 0, none⟩), .int .i64 most] w fun e w' => ∃ v', e = .returned v' ∧ Ints .i64 w' v' x ∧ RdTo w R v l w' a' e' ∧ Fresh w.heap.size v' := by
  have := readIntsF_all h hb ha hl most hm
  rw [hr] at this
  exact this

theorem Ints.stores5 {k : IntKind} {w : World} {v : Value} {l : List Int} {B b : Nat} (h : Ints k w v l) (hf : Fresh B v) (hb : b < B) {u0 u1 u2 u3 u4 : Value} :
    Ints k (((((w.setCell ⟨b, 0, none⟩ u0).setCell ⟨b, 1, none⟩ u1).setCell ⟨b, 2, none⟩ u2).setCell ⟨b, 3, none⟩ u3).setCell ⟨b, 4, none⟩ u4) v l :=
  ((((h.setCell hf hb u0).setCell hf hb u1).setCell hf hb u2).setCell hf hb u3).setCell hf hb u4

set_option maxRecDepth 100000 in
set_option maxHeartbeats 4000000 in
theorem getAsk_none {w : World} {R : Nat} {v : Value} {l : List Int} {a : Nat} {e0 : Int} (h : Rd w R v l a e0) (hb : AllB l) (ha : a ≤ l.length) (hl : l.length ≤ 100000) (K a1 : Nat) (e1 : Int) (h1 : rdN' l a e0 1099511627776 = (K, a1, e1)) (hk : ¬ (1 ≤ K ∧ K ≤ 7)) :
    Calls Try.prog 39 #[.pointer (some ⟨R, 0, none⟩)] w fun e w' => GotA w R v l (getAsk l a e0) e w' := by
  have H := Lib.hid h
  have hR := h.lt
  have H1 := Lib.hid (fun W (hW : Rd W R v l a e0) => rdN_call hb ha hl 1099511627776 (by decide) _ _ _ h1 hW)
  have l1 := rdN'_le hb ha e0 1099511627776
  rw [h1] at l1
  rw [getAsk_no h1 hk]
  have hf := finE_fail e1
  have hf2 : finE e1 false = failE e1 211 := by rw [hf]; unfold finE; rfl
  rw [hf2]
  have HN := Lib.hid (fun W => names_any (K : Int) W)
  rw [show decide (1 ≤ (K : Int) ∧ (K : Int) ≤ 7) = false from decide_eq_false (by omega)] at HN
  clear h h1 hb ha hl hf hf2 l1 hk
  generalize whatI (K : Int) = WH at *
  go_enter Try.func39, Try.ntmps39
  go_wp2_with fail
  (with_reducible refine (H1.out _ (H.out.below (by (repeat (first | with_reducible exact Below.refl _ _ | with_reducible refine Bs ?_ | with_reducible refine Ba ?_ | with_reducible refine Bd ?_ | with_reducible refine Bn ?_))))).mono ?_); rintro e w1 ⟨rfl, r1⟩; have gg1 := r1.2; have T1 := Lib.hid (RdTo.from (w := w) (show Below w.heap.size w _ from by (repeat (first | with_reducible exact Below.refl _ _ | with_reducible refine Bs ?_ | with_reducible refine Ba ?_ | with_reducible refine Bd ?_ | with_reducible refine Bn ?_))) r1); have y1 := gg1.size; have x1 := T1.out.2.size; obtain ⟨c1_0, f1_0, c1_1, f1_1, c1_2, f1_2, c1_3, f1_3, c1_4, f1_4⟩ := g5f (w.heap.size) (.int .i64 0) (.int .i64 0) (.slice none 0 0) (.int .i64 0) (.int .i64 0) gg1 (by and_intros <;> go_simp); obtain ⟨l1_0, n1_0, m1_0⟩ := lnm (show w.heap.size < w1.heap.size by first | omega | (simp at y1; omega)); clear r1 gg1
  go_wp2_with fail
  (with_reducible refine (HN.out _).mono ?_)
  rintro e w9 ⟨rfl, rfl⟩
  go_wp2_with fail
  (with_reducible refine (fail_any (RdTo.belowB H.out T1.out (by (repeat (first | with_reducible exact Below.refl _ _ | with_reducible refine Bs ?_ | with_reducible refine Ba ?_ | with_reducible refine Bd ?_ | with_reducible refine Bn ?_)))).rd 211).mono ?_)
  rintro e w2 ⟨rfl, r2⟩
  have T2 := Lib.hid (RdTo.trans (RdTo.belowB H.out T1.out (by (repeat (first | with_reducible exact Below.refl _ _ | with_reducible refine Bs ?_ | with_reducible refine Ba ?_ | with_reducible refine Bd ?_ | with_reducible refine Bn ?_)))) r2)
  have g2 := r2.2
  have y2 := g2.size
  have c2_0 : w2.cell? ⟨w.heap.size, 0, none⟩ = some (.int .i64 0) := (only_cell g2 (w.heap.size) 0 (by first | omega | (simp; done) | (simp; omega)) (by omega)).trans (by go_simp)
  have f2_0 : w2.frozen? ⟨w.heap.size, 0, none⟩ = false := (only_frozen g2 (w.heap.size) 0 (by first | omega | (simp; done) | (simp; omega)) (by omega)).trans (by go_simp)
  have c2_1 : w2.cell? ⟨w.heap.size, 1, none⟩ = some (.int .i64 0) := (only_cell g2 (w.heap.size) 1 (by first | omega | (simp; done) | (simp; omega)) (by omega)).trans (by go_simp)
  have f2_1 : w2.frozen? ⟨w.heap.size, 1, none⟩ = false := (only_frozen g2 (w.heap.size) 1 (by first | omega | (simp; done) | (simp; omega)) (by omega)).trans (by go_simp)
  have c2_2 : w2.cell? ⟨w.heap.size, 2, none⟩ = some (.slice none 0 0) := (only_cell g2 (w.heap.size) 2 (by first | omega | (simp; done) | (simp; omega)) (by omega)).trans (by go_simp)
  have f2_2 : w2.frozen? ⟨w.heap.size, 2, none⟩ = false := (only_frozen g2 (w.heap.size) 2 (by first | omega | (simp; done) | (simp; omega)) (by omega)).trans (by go_simp)
  have c2_3 : w2.cell? ⟨w.heap.size, 3, none⟩ = some (.int .i64 0) := (only_cell g2 (w.heap.size) 3 (by first | omega | (simp; done) | (simp; omega)) (by omega)).trans (by go_simp)
  have f2_3 : w2.frozen? ⟨w.heap.size, 3, none⟩ = false := (only_frozen g2 (w.heap.size) 3 (by first | omega | (simp; done) | (simp; omega)) (by omega)).trans (by go_simp)
  have c2_4 : w2.cell? ⟨w.heap.size, 4, none⟩ = some (.int .i64 0) := (only_cell g2 (w.heap.size) 4 (by first | omega | (simp; done) | (simp; omega)) (by omega)).trans (by go_simp)
  have f2_4 : w2.frozen? ⟨w.heap.size, 4, none⟩ = false := (only_frozen g2 (w.heap.size) 4 (by first | omega | (simp; done) | (simp; omega)) (by omega)).trans (by go_simp)
  clear r2 g2
  go_wp2_with fail
  exact bodyPost_ret (v := .agg #[.int .i64 0, .int .i64 0, .slice none 0 0, .int .i64 0, .int .i64 0]) (by simp [results, Try.results39, go_sem, *]) rfl (GotA.zero (RdTo.belowB H.out T2.out (by (repeat (first | with_reducible exact Below.refl _ _ | with_reducible refine Bs ?_ | with_reducible refine Ba ?_ | with_reducible refine Bd ?_ | with_reducible refine Bn ?_)))))

set_option maxRecDepth 100000 in
set_option maxHeartbeats 4000000 in
theorem getAsk_1 {w : World} {R : Nat} {v : Value} {l : List Int} {a : Nat} {e0 : Int} (h : Rd w R v l a e0) (hb : AllB l) (ha : a ≤ l.length) (hl : l.length ≤ 100000) (a1 : Nat) (e1 : Int) (h1 : rdN' l a e0 1099511627776 = (1, a1, e1)) :
    Calls Try.prog 39 #[.pointer (some ⟨R, 0, none⟩)] w fun e w' => GotA w R v l (getAsk l a e0) e w' := by
  have H := Lib.hid h
  have hR := h.lt
  have H1 := Lib.hid (fun W (hW : Rd W R v l a e0) => rdN_call hb ha hl 1099511627776 (by decide) _ _ _ h1 hW)
  have l1 := rdN'_le hb ha e0 1099511627776
  rw [h1] at l1
  obtain ⟨r2, h2⟩ : ∃ r, rdN' l a1 e1 1099511627776 = r := ⟨_, rfl⟩
  obtain ⟨q2, a2, e2⟩ := r2
  have H2 := Lib.hid (fun W (hW : Rd W R v l a1 e1) => rdN_call hb l1 hl 1099511627776 (by decide) _ _ _ h2 hW)
  have l2 := rdN'_le hb l1 e1 1099511627776
  rw [h2] at l2
  obtain ⟨r3, h3⟩ : ∃ r, rdInts' l a2 e2 8 = r := ⟨_, rfl⟩
  obtain ⟨x, a3, e3⟩ := r3
  have H3 := Lib.hid (fun W (hW : Rd W R v l a2 e2) => rdInts_call hb l2 hl 8 (by decide) _ _ _ h3 hW)
  have l3 := rdInts'_le hb l2 e2 8
  rw [h3] at l3
  have hg : gAk 1 l a1 e1 = (((1 : Int), ((q2 : Int) : Int), x, (0 : Int), (0 : Int)), a3, e3) := gAk_of (K := 1) (l := l) (a := a1) (e := e1) h2 h3 (r4 := ((0 : Nat), a3, e3)) rfl (r5 := ((0 : Nat), a3, e3)) rfl
  rw [getAsk_yes h1 (by decide) hg]
  obtain ⟨E, hE⟩ : ∃ E, finE e3 (askB 1 (q2 : Int) 0 0 x) = E := ⟨_, rfl⟩
  rw [show finE e3 (askTB ((1 : Int), ((q2 : Int) : Int), x, (0 : Int), (0 : Int))) = E from hE]
  obtain ⟨TT, hT⟩ : ∃ TT, (if E = 0 then ((1 : Int), ((q2 : Int) : Int), x, (0 : Int), (0 : Int)) else askT0) = TT := ⟨_, rfl⟩
  rw [hT]
  have HT := Lib.hid hT
  clear hT
  have HC := Lib.hid (fun (xa : Option Addr) (xn xc : Nat) W (hW : Rd W R v l a3 e3) (hX : Ints .i64 W (.slice xa xn xc) x) => checkedA_val hW (1) (q2 : Int) 0 0 xa xn xc x hX E hE.symm)
  have HN := Lib.hid (fun W => names_any 1 W)
  rw [show decide ((1 : Int) ≤ 1 ∧ (1 : Int) ≤ 7) = true from rfl] at HN
  obtain ⟨p1, p2, p3, p4⟩ := bits_what (k := 1) (by decide)
  simp [whatI] at p1 p2 p3 p4
  simp only [whatI] at HN
  skip
  clear h h1 hb ha hl l1 hg hE h2 l2 h3 l3
  go_enter Try.func39, Try.ntmps39
  go_wp2_with fail
  (with_reducible refine (H1.out _ (H.out.below (by (repeat (first | with_reducible exact Below.refl _ _ | with_reducible refine Bs ?_ | with_reducible refine Ba ?_ | with_reducible refine Bd ?_ | with_reducible refine Bn ?_))))).mono ?_); rintro e w1 ⟨rfl, r1⟩; have gg1 := r1.2; have T1 := Lib.hid (RdTo.from (w := w) (show Below w.heap.size w _ from by (repeat (first | with_reducible exact Below.refl _ _ | with_reducible refine Bs ?_ | with_reducible refine Ba ?_ | with_reducible refine Bd ?_ | with_reducible refine Bn ?_))) r1); have y1 := gg1.size; have x1 := T1.out.2.size; obtain ⟨c1_0, f1_0, c1_1, f1_1, c1_2, f1_2, c1_3, f1_3, c1_4, f1_4⟩ := g5f (w.heap.size) (.int .i64 0) (.int .i64 0) (.slice none 0 0) (.int .i64 0) (.int .i64 0) gg1 (by and_intros <;> go_simp); obtain ⟨l1_0, n1_0, m1_0⟩ := lnm (show w.heap.size < w1.heap.size by first | omega | (simp at y1; omega)); clear r1 gg1
  go_wp2_with fail
  (with_reducible refine (HN.out _).mono ?_)
  rintro e w9 ⟨rfl, rfl⟩
  go_wp2_with fail
  (with_reducible refine (H2.out _ (RdTo.belowB H.out T1.out (by (repeat (first | with_reducible exact Below.refl _ _ | with_reducible refine Bs ?_ | with_reducible refine Ba ?_ | with_reducible refine Bd ?_ | with_reducible refine Bn ?_)))).rd).mono ?_); rintro e w2 ⟨rfl, r2⟩; have gg2 := r2.2; have T2 := Lib.hid (RdTo.trans (RdTo.belowB H.out T1.out (by (repeat (first | with_reducible exact Below.refl _ _ | with_reducible refine Bs ?_ | with_reducible refine Ba ?_ | with_reducible refine Bd ?_ | with_reducible refine Bn ?_)))) r2); have y2 := gg2.size; have x2 := T2.out.2.size; obtain ⟨c2_0, f2_0, c2_1, f2_1, c2_2, f2_2, c2_3, f2_3, c2_4, f2_4⟩ := g5f (w.heap.size) (.int .i64 0) (.int .i64 0) (.slice none 0 0) (.int .i64 0) (.int .i64 0) gg2 (by and_intros <;> go_simp); obtain ⟨c2_5, f2_5, c2_6, f2_6, c2_7, f2_7, c2_8, f2_8, c2_9, f2_9⟩ := g5f (w1.heap.size) (.int .i64 1) (.int .i64 0) (.slice none 0 0) (.int .i64 0) (.int .i64 0) gg2 (by and_intros <;> go_simp); obtain ⟨l2_0, n2_0, m2_0⟩ := lnm (show w.heap.size < w2.heap.size by first | omega | (simp at y2; omega)); obtain ⟨l2_1, n2_1, m2_1⟩ := lnm (show w1.heap.size < w2.heap.size by first | omega | (simp at y2; omega)); clear r2 gg2
  go_wp2_with fail
  (with_reducible refine (H3.out _ (RdTo.belowB H.out T2.out (by (repeat (first | with_reducible exact Below.refl _ _ | with_reducible refine Bs ?_ | with_reducible refine Ba ?_ | with_reducible refine Bd ?_ | with_reducible refine Bn ?_)))).rd).mono ?_); rintro e w3 ⟨v3, rfl, i3, r3, u3⟩; have gg3 := r3.2; have T3 := Lib.hid (RdTo.trans (RdTo.belowB H.out T2.out (by (repeat (first | with_reducible exact Below.refl _ _ | with_reducible refine Bs ?_ | with_reducible refine Ba ?_ | with_reducible refine Bd ?_ | with_reducible refine Bn ?_)))) r3); have y3 := gg3.size; have x3 := T3.out.2.size; obtain ⟨c3_0, f3_0, c3_1, f3_1, c3_2, f3_2, c3_3, f3_3, c3_4, f3_4⟩ := g5f (w.heap.size) (.int .i64 0) (.int .i64 0) (.slice none 0 0) (.int .i64 0) (.int .i64 0) gg3 (by and_intros <;> go_simp); obtain ⟨c3_5, f3_5, c3_6, f3_6, c3_7, f3_7, c3_8, f3_8, c3_9, f3_9⟩ := g5f (w1.heap.size) (.int .i64 1) (.int .i64 q2) (.slice none 0 0) (.int .i64 0) (.int .i64 0) gg3 (by and_intros <;> go_simp); obtain ⟨l3_0, n3_0, m3_0⟩ := lnm (show w.heap.size < w3.heap.size by first | omega | (simp at y3; omega)); obtain ⟨l3_1, n3_1, m3_1⟩ := lnm (show w1.heap.size < w3.heap.size by first | omega | (simp at y3; omega)); clear r3 gg3
  have FX := Lib.hid (show Fresh (w1.heap.size + 1) v3 from u3.mono (by first | omega | (simp; done) | (simp; omega)))
  clear u3
  obtain ⟨xa, xc, rfl⟩ := i3.shape
  have IX := Lib.hid (i3.setCell FX.out (A := ⟨w1.heap.size, 2, none⟩) (by simp) (.slice xa x.length xc))
  clear i3
  go_wp2_with fail
  (with_reducible refine (HC.out xa x.length xc _ (RdTo.belowB H.out T3.out (by (repeat (first | with_reducible exact Below.refl _ _ | with_reducible refine Bs ?_ | with_reducible refine Ba ?_ | with_reducible refine Bd ?_ | with_reducible refine Bn ?_)))).rd IX.out).mono ?_)
  rintro e w8 ⟨val, rfl, z1, z2, r8⟩
  have T8 := Lib.hid (RdTo.trans (RdTo.belowB H.out T3.out (by (repeat (first | with_reducible exact Below.refl _ _ | with_reducible refine Bs ?_ | with_reducible refine Ba ?_ | with_reducible refine Bd ?_ | with_reducible refine Bn ?_)))) r8)
  have g8 := r8.2
  have y8 := g8.size
  have IX8 := Lib.hid (Ints.only_fresh IX.out (FX.out.mono (show w.heap.size + 1 ≤ _ by omega)) (by omega) g8)
  have c8_0 : w8.cell? ⟨w.heap.size, 0, none⟩ = some (.int .i64 0) := (only_cell g8 (w.heap.size) 0 (by first | omega | (simp; done) | (simp; omega)) (by omega)).trans (by go_simp)
  have f8_0 : w8.frozen? ⟨w.heap.size, 0, none⟩ = false := (only_frozen g8 (w.heap.size) 0 (by first | omega | (simp; done) | (simp; omega)) (by omega)).trans (by go_simp)
  have c8_1 : w8.cell? ⟨w.heap.size, 1, none⟩ = some (.int .i64 0) := (only_cell g8 (w.heap.size) 1 (by first | omega | (simp; done) | (simp; omega)) (by omega)).trans (by go_simp)
  have f8_1 : w8.frozen? ⟨w.heap.size, 1, none⟩ = false := (only_frozen g8 (w.heap.size) 1 (by first | omega | (simp; done) | (simp; omega)) (by omega)).trans (by go_simp)
  have c8_2 : w8.cell? ⟨w.heap.size, 2, none⟩ = some (.slice none 0 0) := (only_cell g8 (w.heap.size) 2 (by first | omega | (simp; done) | (simp; omega)) (by omega)).trans (by go_simp)
  have f8_2 : w8.frozen? ⟨w.heap.size, 2, none⟩ = false := (only_frozen g8 (w.heap.size) 2 (by first | omega | (simp; done) | (simp; omega)) (by omega)).trans (by go_simp)
  have c8_3 : w8.cell? ⟨w.heap.size, 3, none⟩ = some (.int .i64 0) := (only_cell g8 (w.heap.size) 3 (by first | omega | (simp; done) | (simp; omega)) (by omega)).trans (by go_simp)
  have f8_3 : w8.frozen? ⟨w.heap.size, 3, none⟩ = false := (only_frozen g8 (w.heap.size) 3 (by first | omega | (simp; done) | (simp; omega)) (by omega)).trans (by go_simp)
  have c8_4 : w8.cell? ⟨w.heap.size, 4, none⟩ = some (.int .i64 0) := (only_cell g8 (w.heap.size) 4 (by first | omega | (simp; done) | (simp; omega)) (by omega)).trans (by go_simp)
  have f8_4 : w8.frozen? ⟨w.heap.size, 4, none⟩ = false := (only_frozen g8 (w.heap.size) 4 (by first | omega | (simp; done) | (simp; omega)) (by omega)).trans (by go_simp)
  clear r8 g8
  have Z1 := Lib.hid z1; have Z2 := Lib.hid z2
  clear z1 z2
  by_cases hE : E = 0
  · obtain rfl := Z1.out hE
    go_wp2_with fail
    exact bodyPost_ret (v := .agg #[.int .i64 1, .int .i64 q2, .slice xa x.length xc, .int .i64 0, .int .i64 0]) (by simp [results, Try.results39, go_sem, *]) rfl (by rw [← HT.out, if_pos hE]; exact ⟨_, rfl, (by refine Ints.stores5 IX8.out (FX.out.mono (show w.heap.size + 1 ≤ _ by omega)) (by omega)), RdTo.belowB H.out T8.out (by (repeat (first | with_reducible exact Below.refl _ _ | with_reducible refine Bs ?_ | with_reducible refine Ba ?_ | with_reducible refine Bd ?_ | with_reducible refine Bn ?_))), FX.out.mono (by omega)⟩)
  · obtain rfl := Z2.out hE
    go_wp2_with fail
    exact bodyPost_ret (v := .agg #[.int .i64 0, .int .i64 0, .slice none 0 0, .int .i64 0, .int .i64 0]) (by simp [results, Try.results39, go_sem, *]) rfl (by rw [← HT.out, if_neg hE]; exact GotA.zero (RdTo.belowB H.out T8.out (by (repeat (first | with_reducible exact Below.refl _ _ | with_reducible refine Bs ?_ | with_reducible refine Ba ?_ | with_reducible refine Bd ?_ | with_reducible refine Bn ?_)))))

set_option maxRecDepth 100000 in
set_option maxHeartbeats 4000000 in
theorem getAsk_2 {w : World} {R : Nat} {v : Value} {l : List Int} {a : Nat} {e0 : Int} (h : Rd w R v l a e0) (hb : AllB l) (ha : a ≤ l.length) (hl : l.length ≤ 100000) (a1 : Nat) (e1 : Int) (h1 : rdN' l a e0 1099511627776 = (2, a1, e1)) :
    Calls Try.prog 39 #[.pointer (some ⟨R, 0, none⟩)] w fun e w' => GotA w R v l (getAsk l a e0) e w' := by
  have H := Lib.hid h
  have hR := h.lt
  have H1 := Lib.hid (fun W (hW : Rd W R v l a e0) => rdN_call hb ha hl 1099511627776 (by decide) _ _ _ h1 hW)
  have l1 := rdN'_le hb ha e0 1099511627776
  rw [h1] at l1
  obtain ⟨r3, h3⟩ : ∃ r, rdInts' l a1 e1 8 = r := ⟨_, rfl⟩
  obtain ⟨x, a3, e3⟩ := r3
  have H3 := Lib.hid (fun W (hW : Rd W R v l a1 e1) => rdInts_call hb l1 hl 8 (by decide) _ _ _ h3 hW)
  have l3 := rdInts'_le hb l1 e1 8
  rw [h3] at l3
  have hg : gAk 2 l a1 e1 = (((2 : Int), (0 : Int), x, (0 : Int), (0 : Int)), a3, e3) := gAk_of (K := 2) (l := l) (a := a1) (e := e1) (r2 := ((0 : Nat), a1, e1)) rfl h3 (r4 := ((0 : Nat), a3, e3)) rfl (r5 := ((0 : Nat), a3, e3)) rfl
  rw [getAsk_yes h1 (by decide) hg]
  obtain ⟨E, hE⟩ : ∃ E, finE e3 (askB 2 0 0 0 x) = E := ⟨_, rfl⟩
  rw [show finE e3 (askTB ((2 : Int), (0 : Int), x, (0 : Int), (0 : Int))) = E from hE]
  obtain ⟨TT, hT⟩ : ∃ TT, (if E = 0 then ((2 : Int), (0 : Int), x, (0 : Int), (0 : Int)) else askT0) = TT := ⟨_, rfl⟩
  rw [hT]
  have HT := Lib.hid hT
  clear hT
  have HC := Lib.hid (fun (xa : Option Addr) (xn xc : Nat) W (hW : Rd W R v l a3 e3) (hX : Ints .i64 W (.slice xa xn xc) x) => checkedA_val hW (2) 0 0 0 xa xn xc x hX E hE.symm)
  have HN := Lib.hid (fun W => names_any 2 W)
  rw [show decide ((1 : Int) ≤ 2 ∧ (2 : Int) ≤ 7) = true from rfl] at HN
  obtain ⟨p1, p2, p3, p4⟩ := bits_what (k := 2) (by decide)
  simp [whatI] at p1 p2 p3 p4
  simp only [whatI] at HN
  skip
  clear h h1 hb ha hl l1 hg hE h3 l3
  go_enter Try.func39, Try.ntmps39
  go_wp2_with fail
  (with_reducible refine (H1.out _ (H.out.below (by (repeat (first | with_reducible exact Below.refl _ _ | with_reducible refine Bs ?_ | with_reducible refine Ba ?_ | with_reducible refine Bd ?_ | with_reducible refine Bn ?_))))).mono ?_); rintro e w1 ⟨rfl, r1⟩; have gg1 := r1.2; have T1 := Lib.hid (RdTo.from (w := w) (show Below w.heap.size w _ from by (repeat (first | with_reducible exact Below.refl _ _ | with_reducible refine Bs ?_ | with_reducible refine Ba ?_ | with_reducible refine Bd ?_ | with_reducible refine Bn ?_))) r1); have y1 := gg1.size; have x1 := T1.out.2.size; obtain ⟨c1_0, f1_0, c1_1, f1_1, c1_2, f1_2, c1_3, f1_3, c1_4, f1_4⟩ := g5f (w.heap.size) (.int .i64 0) (.int .i64 0) (.slice none 0 0) (.int .i64 0) (.int .i64 0) gg1 (by and_intros <;> go_simp); obtain ⟨l1_0, n1_0, m1_0⟩ := lnm (show w.heap.size < w1.heap.size by first | omega | (simp at y1; omega)); clear r1 gg1
  go_wp2_with fail
  (with_reducible refine (HN.out _).mono ?_)
  rintro e w9 ⟨rfl, rfl⟩
  go_wp2_with fail
  (with_reducible refine (H3.out _ (RdTo.belowB H.out T1.out (by (repeat (first | with_reducible exact Below.refl _ _ | with_reducible refine Bs ?_ | with_reducible refine Ba ?_ | with_reducible refine Bd ?_ | with_reducible refine Bn ?_)))).rd).mono ?_); rintro e w3 ⟨v3, rfl, i3, r3, u3⟩; have gg3 := r3.2; have T3 := Lib.hid (RdTo.trans (RdTo.belowB H.out T1.out (by (repeat (first | with_reducible exact Below.refl _ _ | with_reducible refine Bs ?_ | with_reducible refine Ba ?_ | with_reducible refine Bd ?_ | with_reducible refine Bn ?_)))) r3); have y3 := gg3.size; have x3 := T3.out.2.size; obtain ⟨c3_0, f3_0, c3_1, f3_1, c3_2, f3_2, c3_3, f3_3, c3_4, f3_4⟩ := g5f (w.heap.size) (.int .i64 0) (.int .i64 0) (.slice none 0 0) (.int .i64 0) (.int .i64 0) gg3 (by and_intros <;> go_simp); obtain ⟨c3_5, f3_5, c3_6, f3_6, c3_7, f3_7, c3_8, f3_8, c3_9, f3_9⟩ := g5f (w1.heap.size) (.int .i64 2) (.int .i64 0) (.slice none 0 0) (.int .i64 0) (.int .i64 0) gg3 (by and_intros <;> go_simp); obtain ⟨l3_0, n3_0, m3_0⟩ := lnm (show w.heap.size < w3.heap.size by first | omega | (simp at y3; omega)); obtain ⟨l3_1, n3_1, m3_1⟩ := lnm (show w1.heap.size < w3.heap.size by first | omega | (simp at y3; omega)); clear r3 gg3
  have FX := Lib.hid (show Fresh (w1.heap.size + 1) v3 from u3.mono (by first | omega | (simp; done) | (simp; omega)))
  clear u3
  obtain ⟨xa, xc, rfl⟩ := i3.shape
  have IX := Lib.hid (i3.setCell FX.out (A := ⟨w1.heap.size, 2, none⟩) (by simp) (.slice xa x.length xc))
  clear i3
  go_wp2_with fail
  (with_reducible refine (HC.out xa x.length xc _ (RdTo.belowB H.out T3.out (by (repeat (first | with_reducible exact Below.refl _ _ | with_reducible refine Bs ?_ | with_reducible refine Ba ?_ | with_reducible refine Bd ?_ | with_reducible refine Bn ?_)))).rd IX.out).mono ?_)
  rintro e w8 ⟨val, rfl, z1, z2, r8⟩
  have T8 := Lib.hid (RdTo.trans (RdTo.belowB H.out T3.out (by (repeat (first | with_reducible exact Below.refl _ _ | with_reducible refine Bs ?_ | with_reducible refine Ba ?_ | with_reducible refine Bd ?_ | with_reducible refine Bn ?_)))) r8)
  have g8 := r8.2
  have y8 := g8.size
  have IX8 := Lib.hid (Ints.only_fresh IX.out (FX.out.mono (show w.heap.size + 1 ≤ _ by omega)) (by omega) g8)
  have c8_0 : w8.cell? ⟨w.heap.size, 0, none⟩ = some (.int .i64 0) := (only_cell g8 (w.heap.size) 0 (by first | omega | (simp; done) | (simp; omega)) (by omega)).trans (by go_simp)
  have f8_0 : w8.frozen? ⟨w.heap.size, 0, none⟩ = false := (only_frozen g8 (w.heap.size) 0 (by first | omega | (simp; done) | (simp; omega)) (by omega)).trans (by go_simp)
  have c8_1 : w8.cell? ⟨w.heap.size, 1, none⟩ = some (.int .i64 0) := (only_cell g8 (w.heap.size) 1 (by first | omega | (simp; done) | (simp; omega)) (by omega)).trans (by go_simp)
  have f8_1 : w8.frozen? ⟨w.heap.size, 1, none⟩ = false := (only_frozen g8 (w.heap.size) 1 (by first | omega | (simp; done) | (simp; omega)) (by omega)).trans (by go_simp)
  have c8_2 : w8.cell? ⟨w.heap.size, 2, none⟩ = some (.slice none 0 0) := (only_cell g8 (w.heap.size) 2 (by first | omega | (simp; done) | (simp; omega)) (by omega)).trans (by go_simp)
  have f8_2 : w8.frozen? ⟨w.heap.size, 2, none⟩ = false := (only_frozen g8 (w.heap.size) 2 (by first | omega | (simp; done) | (simp; omega)) (by omega)).trans (by go_simp)
  have c8_3 : w8.cell? ⟨w.heap.size, 3, none⟩ = some (.int .i64 0) := (only_cell g8 (w.heap.size) 3 (by first | omega | (simp; done) | (simp; omega)) (by omega)).trans (by go_simp)
  have f8_3 : w8.frozen? ⟨w.heap.size, 3, none⟩ = false := (only_frozen g8 (w.heap.size) 3 (by first | omega | (simp; done) | (simp; omega)) (by omega)).trans (by go_simp)
  have c8_4 : w8.cell? ⟨w.heap.size, 4, none⟩ = some (.int .i64 0) := (only_cell g8 (w.heap.size) 4 (by first | omega | (simp; done) | (simp; omega)) (by omega)).trans (by go_simp)
  have f8_4 : w8.frozen? ⟨w.heap.size, 4, none⟩ = false := (only_frozen g8 (w.heap.size) 4 (by first | omega | (simp; done) | (simp; omega)) (by omega)).trans (by go_simp)
  clear r8 g8
  have Z1 := Lib.hid z1; have Z2 := Lib.hid z2
  clear z1 z2
  by_cases hE : E = 0
  · obtain rfl := Z1.out hE
    go_wp2_with fail
    exact bodyPost_ret (v := .agg #[.int .i64 2, .int .i64 0, .slice xa x.length xc, .int .i64 0, .int .i64 0]) (by simp [results, Try.results39, go_sem, *]) rfl (by rw [← HT.out, if_pos hE]; exact ⟨_, rfl, (by refine Ints.stores5 IX8.out (FX.out.mono (show w.heap.size + 1 ≤ _ by omega)) (by omega)), RdTo.belowB H.out T8.out (by (repeat (first | with_reducible exact Below.refl _ _ | with_reducible refine Bs ?_ | with_reducible refine Ba ?_ | with_reducible refine Bd ?_ | with_reducible refine Bn ?_))), FX.out.mono (by omega)⟩)
  · obtain rfl := Z2.out hE
    go_wp2_with fail
    exact bodyPost_ret (v := .agg #[.int .i64 0, .int .i64 0, .slice none 0 0, .int .i64 0, .int .i64 0]) (by simp [results, Try.results39, go_sem, *]) rfl (by rw [← HT.out, if_neg hE]; exact GotA.zero (RdTo.belowB H.out T8.out (by (repeat (first | with_reducible exact Below.refl _ _ | with_reducible refine Bs ?_ | with_reducible refine Ba ?_ | with_reducible refine Bd ?_ | with_reducible refine Bn ?_)))))

set_option maxRecDepth 100000 in
set_option maxHeartbeats 4000000 in
theorem getAsk_3 {w : World} {R : Nat} {v : Value} {l : List Int} {a : Nat} {e0 : Int} (h : Rd w R v l a e0) (hb : AllB l) (ha : a ≤ l.length) (hl : l.length ≤ 100000) (a1 : Nat) (e1 : Int) (h1 : rdN' l a e0 1099511627776 = (3, a1, e1)) :
    Calls Try.prog 39 #[.pointer (some ⟨R, 0, none⟩)] w fun e w' => GotA w R v l (getAsk l a e0) e w' := by
  have H := Lib.hid h
  have hR := h.lt
  have H1 := Lib.hid (fun W (hW : Rd W R v l a e0) => rdN_call hb ha hl 1099511627776 (by decide) _ _ _ h1 hW)
  have l1 := rdN'_le hb ha e0 1099511627776
  rw [h1] at l1
  obtain ⟨r4, h4⟩ : ∃ r, rdN' l a1 e1 1099511627776 = r := ⟨_, rfl⟩
  obtain ⟨q4, a4, e4⟩ := r4
  have H4 := Lib.hid (fun W (hW : Rd W R v l a1 e1) => rdN_call hb l1 hl 1099511627776 (by decide) _ _ _ h4 hW)
  have l4 := rdN'_le hb l1 e1 1099511627776
  rw [h4] at l4
  obtain ⟨r5, h5⟩ : ∃ r, rdN' l a4 e4 1099511627776 = r := ⟨_, rfl⟩
  obtain ⟨q5, a5, e5⟩ := r5
  have H5 := Lib.hid (fun W (hW : Rd W R v l a4 e4) => rdN_call hb l4 hl 1099511627776 (by decide) _ _ _ h5 hW)
  have l5 := rdN'_le hb l4 e4 1099511627776
  rw [h5] at l5
  have hg : gAk 3 l a1 e1 = (((3 : Int), (0 : Int), [], ((q4 : Int) : Int), ((q5 : Int) : Int)), a5, e5) := gAk_of (K := 3) (l := l) (a := a1) (e := e1) (r2 := ((0 : Nat), a1, e1)) rfl (r3 := (([] : List Int), a1, e1)) rfl h4 h5
  rw [getAsk_yes h1 (by decide) hg]
  obtain ⟨E, hE⟩ : ∃ E, finE e5 (askB 3 0 (q4 : Int) (q5 : Int) []) = E := ⟨_, rfl⟩
  rw [show finE e5 (askTB ((3 : Int), (0 : Int), [], ((q4 : Int) : Int), ((q5 : Int) : Int))) = E from hE]
  obtain ⟨TT, hT⟩ : ∃ TT, (if E = 0 then ((3 : Int), (0 : Int), [], ((q4 : Int) : Int), ((q5 : Int) : Int)) else askT0) = TT := ⟨_, rfl⟩
  rw [hT]
  have HT := Lib.hid hT
  clear hT
  have HC := Lib.hid (fun (xa : Option Addr) (xn xc : Nat) W (hW : Rd W R v l a5 e5) (hX : Ints .i64 W (.slice xa xn xc) ([] : List Int)) => checkedA_val hW (3) 0 (q4 : Int) (q5 : Int) xa xn xc ([] : List Int) hX E hE.symm)
  have HN := Lib.hid (fun W => names_any 3 W)
  rw [show decide ((1 : Int) ≤ 3 ∧ (3 : Int) ≤ 7) = true from rfl] at HN
  obtain ⟨p1, p2, p3, p4⟩ := bits_what (k := 3) (by decide)
  simp [whatI] at p1 p2 p3 p4
  simp only [whatI] at HN
  skip
  clear h h1 hb ha hl l1 hg hE h4 l4 h5 l5
  go_enter Try.func39, Try.ntmps39
  go_wp2_with fail
  (with_reducible refine (H1.out _ (H.out.below (by (repeat (first | with_reducible exact Below.refl _ _ | with_reducible refine Bs ?_ | with_reducible refine Ba ?_ | with_reducible refine Bd ?_ | with_reducible refine Bn ?_))))).mono ?_); rintro e w1 ⟨rfl, r1⟩; have gg1 := r1.2; have T1 := Lib.hid (RdTo.from (w := w) (show Below w.heap.size w _ from by (repeat (first | with_reducible exact Below.refl _ _ | with_reducible refine Bs ?_ | with_reducible refine Ba ?_ | with_reducible refine Bd ?_ | with_reducible refine Bn ?_))) r1); have y1 := gg1.size; have x1 := T1.out.2.size; obtain ⟨c1_0, f1_0, c1_1, f1_1, c1_2, f1_2, c1_3, f1_3, c1_4, f1_4⟩ := g5f (w.heap.size) (.int .i64 0) (.int .i64 0) (.slice none 0 0) (.int .i64 0) (.int .i64 0) gg1 (by and_intros <;> go_simp); obtain ⟨l1_0, n1_0, m1_0⟩ := lnm (show w.heap.size < w1.heap.size by first | omega | (simp at y1; omega)); clear r1 gg1
  go_wp2_with fail
  (with_reducible refine (HN.out _).mono ?_)
  rintro e w9 ⟨rfl, rfl⟩
  go_wp2_with fail
  (with_reducible refine (H4.out _ (RdTo.belowB H.out T1.out (by (repeat (first | with_reducible exact Below.refl _ _ | with_reducible refine Bs ?_ | with_reducible refine Ba ?_ | with_reducible refine Bd ?_ | with_reducible refine Bn ?_)))).rd).mono ?_); rintro e w4 ⟨rfl, r4⟩; have gg4 := r4.2; have T4 := Lib.hid (RdTo.trans (RdTo.belowB H.out T1.out (by (repeat (first | with_reducible exact Below.refl _ _ | with_reducible refine Bs ?_ | with_reducible refine Ba ?_ | with_reducible refine Bd ?_ | with_reducible refine Bn ?_)))) r4); have y4 := gg4.size; have x4 := T4.out.2.size; obtain ⟨c4_0, f4_0, c4_1, f4_1, c4_2, f4_2, c4_3, f4_3, c4_4, f4_4⟩ := g5f (w.heap.size) (.int .i64 0) (.int .i64 0) (.slice none 0 0) (.int .i64 0) (.int .i64 0) gg4 (by and_intros <;> go_simp); obtain ⟨c4_5, f4_5, c4_6, f4_6, c4_7, f4_7, c4_8, f4_8, c4_9, f4_9⟩ := g5f (w1.heap.size) (.int .i64 3) (.int .i64 0) (.slice none 0 0) (.int .i64 0) (.int .i64 0) gg4 (by and_intros <;> go_simp); obtain ⟨l4_0, n4_0, m4_0⟩ := lnm (show w.heap.size < w4.heap.size by first | omega | (simp at y4; omega)); obtain ⟨l4_1, n4_1, m4_1⟩ := lnm (show w1.heap.size < w4.heap.size by first | omega | (simp at y4; omega)); clear r4 gg4
  go_wp2_with fail
  (with_reducible refine (H5.out _ (RdTo.belowB H.out T4.out (by (repeat (first | with_reducible exact Below.refl _ _ | with_reducible refine Bs ?_ | with_reducible refine Ba ?_ | with_reducible refine Bd ?_ | with_reducible refine Bn ?_)))).rd).mono ?_); rintro e w5 ⟨rfl, r5⟩; have gg5 := r5.2; have T5 := Lib.hid (RdTo.trans (RdTo.belowB H.out T4.out (by (repeat (first | with_reducible exact Below.refl _ _ | with_reducible refine Bs ?_ | with_reducible refine Ba ?_ | with_reducible refine Bd ?_ | with_reducible refine Bn ?_)))) r5); have y5 := gg5.size; have x5 := T5.out.2.size; obtain ⟨c5_0, f5_0, c5_1, f5_1, c5_2, f5_2, c5_3, f5_3, c5_4, f5_4⟩ := g5f (w.heap.size) (.int .i64 0) (.int .i64 0) (.slice none 0 0) (.int .i64 0) (.int .i64 0) gg5 (by and_intros <;> go_simp); obtain ⟨c5_5, f5_5, c5_6, f5_6, c5_7, f5_7, c5_8, f5_8, c5_9, f5_9⟩ := g5f (w1.heap.size) (.int .i64 3) (.int .i64 0) (.slice none 0 0) (.int .i64 q4) (.int .i64 0) gg5 (by and_intros <;> go_simp); obtain ⟨l5_0, n5_0, m5_0⟩ := lnm (show w.heap.size < w5.heap.size by first | omega | (simp at y5; omega)); obtain ⟨l5_1, n5_1, m5_1⟩ := lnm (show w1.heap.size < w5.heap.size by first | omega | (simp at y5; omega)); clear r5 gg5
  go_wp2_with fail
  (with_reducible refine (HC.out none 0 0 _ (RdTo.belowB H.out T5.out (by (repeat (first | with_reducible exact Below.refl _ _ | with_reducible refine Bs ?_ | with_reducible refine Ba ?_ | with_reducible refine Bd ?_ | with_reducible refine Bn ?_)))).rd (ints_nil _ _ _ _ (by omega))).mono ?_)
  rintro e w8 ⟨val, rfl, z1, z2, r8⟩
  have T8 := Lib.hid (RdTo.trans (RdTo.belowB H.out T5.out (by (repeat (first | with_reducible exact Below.refl _ _ | with_reducible refine Bs ?_ | with_reducible refine Ba ?_ | with_reducible refine Bd ?_ | with_reducible refine Bn ?_)))) r8)
  have g8 := r8.2
  have y8 := g8.size
  have c8_0 : w8.cell? ⟨w.heap.size, 0, none⟩ = some (.int .i64 0) := (only_cell g8 (w.heap.size) 0 (by first | omega | (simp; done) | (simp; omega)) (by omega)).trans (by go_simp)
  have f8_0 : w8.frozen? ⟨w.heap.size, 0, none⟩ = false := (only_frozen g8 (w.heap.size) 0 (by first | omega | (simp; done) | (simp; omega)) (by omega)).trans (by go_simp)
  have c8_1 : w8.cell? ⟨w.heap.size, 1, none⟩ = some (.int .i64 0) := (only_cell g8 (w.heap.size) 1 (by first | omega | (simp; done) | (simp; omega)) (by omega)).trans (by go_simp)
  have f8_1 : w8.frozen? ⟨w.heap.size, 1, none⟩ = false := (only_frozen g8 (w.heap.size) 1 (by first | omega | (simp; done) | (simp; omega)) (by omega)).trans (by go_simp)
  have c8_2 : w8.cell? ⟨w.heap.size, 2, none⟩ = some (.slice none 0 0) := (only_cell g8 (w.heap.size) 2 (by first | omega | (simp; done) | (simp; omega)) (by omega)).trans (by go_simp)
  have f8_2 : w8.frozen? ⟨w.heap.size, 2, none⟩ = false := (only_frozen g8 (w.heap.size) 2 (by first | omega | (simp; done) | (simp; omega)) (by omega)).trans (by go_simp)
  have c8_3 : w8.cell? ⟨w.heap.size, 3, none⟩ = some (.int .i64 0) := (only_cell g8 (w.heap.size) 3 (by first | omega | (simp; done) | (simp; omega)) (by omega)).trans (by go_simp)
  have f8_3 : w8.frozen? ⟨w.heap.size, 3, none⟩ = false := (only_frozen g8 (w.heap.size) 3 (by first | omega | (simp; done) | (simp; omega)) (by omega)).trans (by go_simp)
  have c8_4 : w8.cell? ⟨w.heap.size, 4, none⟩ = some (.int .i64 0) := (only_cell g8 (w.heap.size) 4 (by first | omega | (simp; done) | (simp; omega)) (by omega)).trans (by go_simp)
  have f8_4 : w8.frozen? ⟨w.heap.size, 4, none⟩ = false := (only_frozen g8 (w.heap.size) 4 (by first | omega | (simp; done) | (simp; omega)) (by omega)).trans (by go_simp)
  clear r8 g8
  have Z1 := Lib.hid z1; have Z2 := Lib.hid z2
  clear z1 z2
  by_cases hE : E = 0
  · obtain rfl := Z1.out hE
    go_wp2_with fail
    exact bodyPost_ret (v := .agg #[.int .i64 3, .int .i64 0, .slice none 0 0, .int .i64 q4, .int .i64 q5]) (by simp [results, Try.results39, go_sem, *]) rfl (by rw [← HT.out, if_pos hE]; exact ⟨_, rfl, ints_nil _ _ _ _ (by omega), RdTo.belowB H.out T8.out (by (repeat (first | with_reducible exact Below.refl _ _ | with_reducible refine Bs ?_ | with_reducible refine Ba ?_ | with_reducible refine Bd ?_ | with_reducible refine Bn ?_))), fresh_nil _ _ _⟩)
  · obtain rfl := Z2.out hE
    go_wp2_with fail
    exact bodyPost_ret (v := .agg #[.int .i64 0, .int .i64 0, .slice none 0 0, .int .i64 0, .int .i64 0]) (by simp [results, Try.results39, go_sem, *]) rfl (by rw [← HT.out, if_neg hE]; exact GotA.zero (RdTo.belowB H.out T8.out (by (repeat (first | with_reducible exact Below.refl _ _ | with_reducible refine Bs ?_ | with_reducible refine Ba ?_ | with_reducible refine Bd ?_ | with_reducible refine Bn ?_)))))

set_option maxRecDepth 100000 in
set_option maxHeartbeats 4000000 in
theorem getAsk_4 {w : World} {R : Nat} {v : Value} {l : List Int} {a : Nat} {e0 : Int} (h : Rd w R v l a e0) (hb : AllB l) (ha : a ≤ l.length) (hl : l.length ≤ 100000) (a1 : Nat) (e1 : Int) (h1 : rdN' l a e0 1099511627776 = (4, a1, e1)) :
    Calls Try.prog 39 #[.pointer (some ⟨R, 0, none⟩)] w fun e w' => GotA w R v l (getAsk l a e0) e w' := by
  have H := Lib.hid h
  have hR := h.lt
  have H1 := Lib.hid (fun W (hW : Rd W R v l a e0) => rdN_call hb ha hl 1099511627776 (by decide) _ _ _ h1 hW)
  have l1 := rdN'_le hb ha e0 1099511627776
  rw [h1] at l1
  obtain ⟨r4, h4⟩ : ∃ r, rdN' l a1 e1 1099511627776 = r := ⟨_, rfl⟩
  obtain ⟨q4, a4, e4⟩ := r4
  have H4 := Lib.hid (fun W (hW : Rd W R v l a1 e1) => rdN_call hb l1 hl 1099511627776 (by decide) _ _ _ h4 hW)
  have l4 := rdN'_le hb l1 e1 1099511627776
  rw [h4] at l4
  have hg : gAk 4 l a1 e1 = (((4 : Int), (0 : Int), [], ((q4 : Int) : Int), (0 : Int)), a4, e4) := gAk_of (K := 4) (l := l) (a := a1) (e := e1) (r2 := ((0 : Nat), a1, e1)) rfl (r3 := (([] : List Int), a1, e1)) rfl h4 (r5 := ((0 : Nat), a4, e4)) rfl
  rw [getAsk_yes h1 (by decide) hg]
  obtain ⟨E, hE⟩ : ∃ E, finE e4 (askB 4 0 (q4 : Int) 0 []) = E := ⟨_, rfl⟩
  rw [show finE e4 (askTB ((4 : Int), (0 : Int), [], ((q4 : Int) : Int), (0 : Int))) = E from hE]
  obtain ⟨TT, hT⟩ : ∃ TT, (if E = 0 then ((4 : Int), (0 : Int), [], ((q4 : Int) : Int), (0 : Int)) else askT0) = TT := ⟨_, rfl⟩
  rw [hT]
  have HT := Lib.hid hT
  clear hT
  have HC := Lib.hid (fun (xa : Option Addr) (xn xc : Nat) W (hW : Rd W R v l a4 e4) (hX : Ints .i64 W (.slice xa xn xc) ([] : List Int)) => checkedA_val hW (4) 0 (q4 : Int) 0 xa xn xc ([] : List Int) hX E hE.symm)
  have HN := Lib.hid (fun W => names_any 4 W)
  rw [show decide ((1 : Int) ≤ 4 ∧ (4 : Int) ≤ 7) = true from rfl] at HN
  obtain ⟨p1, p2, p3, p4⟩ := bits_what (k := 4) (by decide)
  simp [whatI] at p1 p2 p3 p4
  simp only [whatI] at HN
  skip
  clear h h1 hb ha hl l1 hg hE h4 l4
  go_enter Try.func39, Try.ntmps39
  go_wp2_with fail
  (with_reducible refine (H1.out _ (H.out.below (by (repeat (first | with_reducible exact Below.refl _ _ | with_reducible refine Bs ?_ | with_reducible refine Ba ?_ | with_reducible refine Bd ?_ | with_reducible refine Bn ?_))))).mono ?_); rintro e w1 ⟨rfl, r1⟩; have gg1 := r1.2; have T1 := Lib.hid (RdTo.from (w := w) (show Below w.heap.size w _ from by (repeat (first | with_reducible exact Below.refl _ _ | with_reducible refine Bs ?_ | with_reducible refine Ba ?_ | with_reducible refine Bd ?_ | with_reducible refine Bn ?_))) r1); have y1 := gg1.size; have x1 := T1.out.2.size; obtain ⟨c1_0, f1_0, c1_1, f1_1, c1_2, f1_2, c1_3, f1_3, c1_4, f1_4⟩ := g5f (w.heap.size) (.int .i64 0) (.int .i64 0) (.slice none 0 0) (.int .i64 0) (.int .i64 0) gg1 (by and_intros <;> go_simp); obtain ⟨l1_0, n1_0, m1_0⟩ := lnm (show w.heap.size < w1.heap.size by first | omega | (simp at y1; omega)); clear r1 gg1
  go_wp2_with fail
  (with_reducible refine (HN.out _).mono ?_)
  rintro e w9 ⟨rfl, rfl⟩
  go_wp2_with fail
  (with_reducible refine (H4.out _ (RdTo.belowB H.out T1.out (by (repeat (first | with_reducible exact Below.refl _ _ | with_reducible refine Bs ?_ | with_reducible refine Ba ?_ | with_reducible refine Bd ?_ | with_reducible refine Bn ?_)))).rd).mono ?_); rintro e w4 ⟨rfl, r4⟩; have gg4 := r4.2; have T4 := Lib.hid (RdTo.trans (RdTo.belowB H.out T1.out (by (repeat (first | with_reducible exact Below.refl _ _ | with_reducible refine Bs ?_ | with_reducible refine Ba ?_ | with_reducible refine Bd ?_ | with_reducible refine Bn ?_)))) r4); have y4 := gg4.size; have x4 := T4.out.2.size; obtain ⟨c4_0, f4_0, c4_1, f4_1, c4_2, f4_2, c4_3, f4_3, c4_4, f4_4⟩ := g5f (w.heap.size) (.int .i64 0) (.int .i64 0) (.slice none 0 0) (.int .i64 0) (.int .i64 0) gg4 (by and_intros <;> go_simp); obtain ⟨c4_5, f4_5, c4_6, f4_6, c4_7, f4_7, c4_8, f4_8, c4_9, f4_9⟩ := g5f (w1.heap.size) (.int .i64 4) (.int .i64 0) (.slice none 0 0) (.int .i64 0) (.int .i64 0) gg4 (by and_intros <;> go_simp); obtain ⟨l4_0, n4_0, m4_0⟩ := lnm (show w.heap.size < w4.heap.size by first | omega | (simp at y4; omega)); obtain ⟨l4_1, n4_1, m4_1⟩ := lnm (show w1.heap.size < w4.heap.size by first | omega | (simp at y4; omega)); clear r4 gg4
  go_wp2_with fail
  (with_reducible refine (HC.out none 0 0 _ (RdTo.belowB H.out T4.out (by (repeat (first | with_reducible exact Below.refl _ _ | with_reducible refine Bs ?_ | with_reducible refine Ba ?_ | with_reducible refine Bd ?_ | with_reducible refine Bn ?_)))).rd (ints_nil _ _ _ _ (by omega))).mono ?_)
  rintro e w8 ⟨val, rfl, z1, z2, r8⟩
  have T8 := Lib.hid (RdTo.trans (RdTo.belowB H.out T4.out (by (repeat (first | with_reducible exact Below.refl _ _ | with_reducible refine Bs ?_ | with_reducible refine Ba ?_ | with_reducible refine Bd ?_ | with_reducible refine Bn ?_)))) r8)
  have g8 := r8.2
  have y8 := g8.size
  have c8_0 : w8.cell? ⟨w.heap.size, 0, none⟩ = some (.int .i64 0) := (only_cell g8 (w.heap.size) 0 (by first | omega | (simp; done) | (simp; omega)) (by omega)).trans (by go_simp)
  have f8_0 : w8.frozen? ⟨w.heap.size, 0, none⟩ = false := (only_frozen g8 (w.heap.size) 0 (by first | omega | (simp; done) | (simp; omega)) (by omega)).trans (by go_simp)
  have c8_1 : w8.cell? ⟨w.heap.size, 1, none⟩ = some (.int .i64 0) := (only_cell g8 (w.heap.size) 1 (by first | omega | (simp; done) | (simp; omega)) (by omega)).trans (by go_simp)
  have f8_1 : w8.frozen? ⟨w.heap.size, 1, none⟩ = false := (only_frozen g8 (w.heap.size) 1 (by first | omega | (simp; done) | (simp; omega)) (by omega)).trans (by go_simp)
  have c8_2 : w8.cell? ⟨w.heap.size, 2, none⟩ = some (.slice none 0 0) := (only_cell g8 (w.heap.size) 2 (by first | omega | (simp; done) | (simp; omega)) (by omega)).trans (by go_simp)
  have f8_2 : w8.frozen? ⟨w.heap.size, 2, none⟩ = false := (only_frozen g8 (w.heap.size) 2 (by first | omega | (simp; done) | (simp; omega)) (by omega)).trans (by go_simp)
  have c8_3 : w8.cell? ⟨w.heap.size, 3, none⟩ = some (.int .i64 0) := (only_cell g8 (w.heap.size) 3 (by first | omega | (simp; done) | (simp; omega)) (by omega)).trans (by go_simp)
  have f8_3 : w8.frozen? ⟨w.heap.size, 3, none⟩ = false := (only_frozen g8 (w.heap.size) 3 (by first | omega | (simp; done) | (simp; omega)) (by omega)).trans (by go_simp)
  have c8_4 : w8.cell? ⟨w.heap.size, 4, none⟩ = some (.int .i64 0) := (only_cell g8 (w.heap.size) 4 (by first | omega | (simp; done) | (simp; omega)) (by omega)).trans (by go_simp)
  have f8_4 : w8.frozen? ⟨w.heap.size, 4, none⟩ = false := (only_frozen g8 (w.heap.size) 4 (by first | omega | (simp; done) | (simp; omega)) (by omega)).trans (by go_simp)
  clear r8 g8
  have Z1 := Lib.hid z1; have Z2 := Lib.hid z2
  clear z1 z2
  by_cases hE : E = 0
  · obtain rfl := Z1.out hE
    go_wp2_with fail
    exact bodyPost_ret (v := .agg #[.int .i64 4, .int .i64 0, .slice none 0 0, .int .i64 q4, .int .i64 0]) (by simp [results, Try.results39, go_sem, *]) rfl (by rw [← HT.out, if_pos hE]; exact ⟨_, rfl, ints_nil _ _ _ _ (by omega), RdTo.belowB H.out T8.out (by (repeat (first | with_reducible exact Below.refl _ _ | with_reducible refine Bs ?_ | with_reducible refine Ba ?_ | with_reducible refine Bd ?_ | with_reducible refine Bn ?_))), fresh_nil _ _ _⟩)
  · obtain rfl := Z2.out hE
    go_wp2_with fail
    exact bodyPost_ret (v := .agg #[.int .i64 0, .int .i64 0, .slice none 0 0, .int .i64 0, .int .i64 0]) (by simp [results, Try.results39, go_sem, *]) rfl (by rw [← HT.out, if_neg hE]; exact GotA.zero (RdTo.belowB H.out T8.out (by (repeat (first | with_reducible exact Below.refl _ _ | with_reducible refine Bs ?_ | with_reducible refine Ba ?_ | with_reducible refine Bd ?_ | with_reducible refine Bn ?_)))))

set_option maxRecDepth 100000 in
set_option maxHeartbeats 4000000 in
theorem getAsk_5 {w : World} {R : Nat} {v : Value} {l : List Int} {a : Nat} {e0 : Int} (h : Rd w R v l a e0) (hb : AllB l) (ha : a ≤ l.length) (hl : l.length ≤ 100000) (a1 : Nat) (e1 : Int) (h1 : rdN' l a e0 1099511627776 = (5, a1, e1)) :
    Calls Try.prog 39 #[.pointer (some ⟨R, 0, none⟩)] w fun e w' => GotA w R v l (getAsk l a e0) e w' := by
  have H := Lib.hid h
  have hR := h.lt
  have H1 := Lib.hid (fun W (hW : Rd W R v l a e0) => rdN_call hb ha hl 1099511627776 (by decide) _ _ _ h1 hW)
  have l1 := rdN'_le hb ha e0 1099511627776
  rw [h1] at l1
  have hg : gAk 5 l a1 e1 = (((5 : Int), (0 : Int), [], (0 : Int), (0 : Int)), a1, e1) := gAk_of (K := 5) (l := l) (a := a1) (e := e1) (r2 := ((0 : Nat), a1, e1)) rfl (r3 := (([] : List Int), a1, e1)) rfl (r4 := ((0 : Nat), a1, e1)) rfl (r5 := ((0 : Nat), a1, e1)) rfl
  rw [getAsk_yes h1 (by decide) hg]
  obtain ⟨E, hE⟩ : ∃ E, finE e1 (askB 5 0 0 0 []) = E := ⟨_, rfl⟩
  rw [show finE e1 (askTB ((5 : Int), (0 : Int), [], (0 : Int), (0 : Int))) = E from hE]
  obtain ⟨TT, hT⟩ : ∃ TT, (if E = 0 then ((5 : Int), (0 : Int), [], (0 : Int), (0 : Int)) else askT0) = TT := ⟨_, rfl⟩
  rw [hT]
  have HT := Lib.hid hT
  clear hT
  have HC := Lib.hid (fun (xa : Option Addr) (xn xc : Nat) W (hW : Rd W R v l a1 e1) (hX : Ints .i64 W (.slice xa xn xc) ([] : List Int)) => checkedA_val hW (5) 0 0 0 xa xn xc ([] : List Int) hX E hE.symm)
  have HN := Lib.hid (fun W => names_any 5 W)
  rw [show decide ((1 : Int) ≤ 5 ∧ (5 : Int) ≤ 7) = true from rfl] at HN
  obtain ⟨p1, p2, p3, p4⟩ := bits_what (k := 5) (by decide)
  simp [whatI] at p1 p2 p3 p4
  simp only [whatI] at HN
  skip
  clear h h1 hb ha hl l1 hg hE 
  go_enter Try.func39, Try.ntmps39
  go_wp2_with fail
  (with_reducible refine (H1.out _ (H.out.below (by (repeat (first | with_reducible exact Below.refl _ _ | with_reducible refine Bs ?_ | with_reducible refine Ba ?_ | with_reducible refine Bd ?_ | with_reducible refine Bn ?_))))).mono ?_); rintro e w1 ⟨rfl, r1⟩; have gg1 := r1.2; have T1 := Lib.hid (RdTo.from (w := w) (show Below w.heap.size w _ from by (repeat (first | with_reducible exact Below.refl _ _ | with_reducible refine Bs ?_ | with_reducible refine Ba ?_ | with_reducible refine Bd ?_ | with_reducible refine Bn ?_))) r1); have y1 := gg1.size; have x1 := T1.out.2.size; obtain ⟨c1_0, f1_0, c1_1, f1_1, c1_2, f1_2, c1_3, f1_3, c1_4, f1_4⟩ := g5f (w.heap.size) (.int .i64 0) (.int .i64 0) (.slice none 0 0) (.int .i64 0) (.int .i64 0) gg1 (by and_intros <;> go_simp); obtain ⟨l1_0, n1_0, m1_0⟩ := lnm (show w.heap.size < w1.heap.size by first | omega | (simp at y1; omega)); clear r1 gg1
  go_wp2_with fail
  (with_reducible refine (HN.out _).mono ?_)
  rintro e w9 ⟨rfl, rfl⟩
  go_wp2_with fail
  (with_reducible refine (HC.out none 0 0 _ (RdTo.belowB H.out T1.out (by (repeat (first | with_reducible exact Below.refl _ _ | with_reducible refine Bs ?_ | with_reducible refine Ba ?_ | with_reducible refine Bd ?_ | with_reducible refine Bn ?_)))).rd (ints_nil _ _ _ _ (by omega))).mono ?_)
  rintro e w8 ⟨val, rfl, z1, z2, r8⟩
  have T8 := Lib.hid (RdTo.trans (RdTo.belowB H.out T1.out (by (repeat (first | with_reducible exact Below.refl _ _ | with_reducible refine Bs ?_ | with_reducible refine Ba ?_ | with_reducible refine Bd ?_ | with_reducible refine Bn ?_)))) r8)
  have g8 := r8.2
  have y8 := g8.size
  have c8_0 : w8.cell? ⟨w.heap.size, 0, none⟩ = some (.int .i64 0) := (only_cell g8 (w.heap.size) 0 (by first | omega | (simp; done) | (simp; omega)) (by omega)).trans (by go_simp)
  have f8_0 : w8.frozen? ⟨w.heap.size, 0, none⟩ = false := (only_frozen g8 (w.heap.size) 0 (by first | omega | (simp; done) | (simp; omega)) (by omega)).trans (by go_simp)
  have c8_1 : w8.cell? ⟨w.heap.size, 1, none⟩ = some (.int .i64 0) := (only_cell g8 (w.heap.size) 1 (by first | omega | (simp; done) | (simp; omega)) (by omega)).trans (by go_simp)
  have f8_1 : w8.frozen? ⟨w.heap.size, 1, none⟩ = false := (only_frozen g8 (w.heap.size) 1 (by first | omega | (simp; done) | (simp; omega)) (by omega)).trans (by go_simp)
  have c8_2 : w8.cell? ⟨w.heap.size, 2, none⟩ = some (.slice none 0 0) := (only_cell g8 (w.heap.size) 2 (by first | omega | (simp; done) | (simp; omega)) (by omega)).trans (by go_simp)
  have f8_2 : w8.frozen? ⟨w.heap.size, 2, none⟩ = false := (only_frozen g8 (w.heap.size) 2 (by first | omega | (simp; done) | (simp; omega)) (by omega)).trans (by go_simp)
  have c8_3 : w8.cell? ⟨w.heap.size, 3, none⟩ = some (.int .i64 0) := (only_cell g8 (w.heap.size) 3 (by first | omega | (simp; done) | (simp; omega)) (by omega)).trans (by go_simp)
  have f8_3 : w8.frozen? ⟨w.heap.size, 3, none⟩ = false := (only_frozen g8 (w.heap.size) 3 (by first | omega | (simp; done) | (simp; omega)) (by omega)).trans (by go_simp)
  have c8_4 : w8.cell? ⟨w.heap.size, 4, none⟩ = some (.int .i64 0) := (only_cell g8 (w.heap.size) 4 (by first | omega | (simp; done) | (simp; omega)) (by omega)).trans (by go_simp)
  have f8_4 : w8.frozen? ⟨w.heap.size, 4, none⟩ = false := (only_frozen g8 (w.heap.size) 4 (by first | omega | (simp; done) | (simp; omega)) (by omega)).trans (by go_simp)
  clear r8 g8
  have Z1 := Lib.hid z1; have Z2 := Lib.hid z2
  clear z1 z2
  by_cases hE : E = 0
  · obtain rfl := Z1.out hE
    go_wp2_with fail
    exact bodyPost_ret (v := .agg #[.int .i64 5, .int .i64 0, .slice none 0 0, .int .i64 0, .int .i64 0]) (by simp [results, Try.results39, go_sem, *]) rfl (by rw [← HT.out, if_pos hE]; exact ⟨_, rfl, ints_nil _ _ _ _ (by omega), RdTo.belowB H.out T8.out (by (repeat (first | with_reducible exact Below.refl _ _ | with_reducible refine Bs ?_ | with_reducible refine Ba ?_ | with_reducible refine Bd ?_ | with_reducible refine Bn ?_))), fresh_nil _ _ _⟩)
  · obtain rfl := Z2.out hE
    go_wp2_with fail
    exact bodyPost_ret (v := .agg #[.int .i64 0, .int .i64 0, .slice none 0 0, .int .i64 0, .int .i64 0]) (by simp [results, Try.results39, go_sem, *]) rfl (by rw [← HT.out, if_neg hE]; exact GotA.zero (RdTo.belowB H.out T8.out (by (repeat (first | with_reducible exact Below.refl _ _ | with_reducible refine Bs ?_ | with_reducible refine Ba ?_ | with_reducible refine Bd ?_ | with_reducible refine Bn ?_)))))

set_option maxRecDepth 100000 in
set_option maxHeartbeats 4000000 in
theorem getAsk_6 {w : World} {R : Nat} {v : Value} {l : List Int} {a : Nat} {e0 : Int} (h : Rd w R v l a e0) (hb : AllB l) (ha : a ≤ l.length) (hl : l.length ≤ 100000) (a1 : Nat) (e1 : Int) (h1 : rdN' l a e0 1099511627776 = (6, a1, e1)) :
    Calls Try.prog 39 #[.pointer (some ⟨R, 0, none⟩)] w fun e w' => GotA w R v l (getAsk l a e0) e w' := by
  have H := Lib.hid h
  have hR := h.lt
  have H1 := Lib.hid (fun W (hW : Rd W R v l a e0) => rdN_call hb ha hl 1099511627776 (by decide) _ _ _ h1 hW)
  have l1 := rdN'_le hb ha e0 1099511627776
  rw [h1] at l1
  have hg : gAk 6 l a1 e1 = (((6 : Int), (0 : Int), [], (0 : Int), (0 : Int)), a1, e1) := gAk_of (K := 6) (l := l) (a := a1) (e := e1) (r2 := ((0 : Nat), a1, e1)) rfl (r3 := (([] : List Int), a1, e1)) rfl (r4 := ((0 : Nat), a1, e1)) rfl (r5 := ((0 : Nat), a1, e1)) rfl
  rw [getAsk_yes h1 (by decide) hg]
  obtain ⟨E, hE⟩ : ∃ E, finE e1 (askB 6 0 0 0 []) = E := ⟨_, rfl⟩
  rw [show finE e1 (askTB ((6 : Int), (0 : Int), [], (0 : Int), (0 : Int))) = E from hE]
  obtain ⟨TT, hT⟩ : ∃ TT, (if E = 0 then ((6 : Int), (0 : Int), [], (0 : Int), (0 : Int)) else askT0) = TT := ⟨_, rfl⟩
  rw [hT]
  have HT := Lib.hid hT
  clear hT
  have HC := Lib.hid (fun (xa : Option Addr) (xn xc : Nat) W (hW : Rd W R v l a1 e1) (hX : Ints .i64 W (.slice xa xn xc) ([] : List Int)) => checkedA_val hW (6) 0 0 0 xa xn xc ([] : List Int) hX E hE.symm)
  have HN := Lib.hid (fun W => names_any 6 W)
  rw [show decide ((1 : Int) ≤ 6 ∧ (6 : Int) ≤ 7) = true from rfl] at HN
  obtain ⟨p1, p2, p3, p4⟩ := bits_what (k := 6) (by decide)
  simp [whatI] at p1 p2 p3 p4
  simp only [whatI] at HN
  skip
  clear h h1 hb ha hl l1 hg hE 
  go_enter Try.func39, Try.ntmps39
  go_wp2_with fail
  (with_reducible refine (H1.out _ (H.out.below (by (repeat (first | with_reducible exact Below.refl _ _ | with_reducible refine Bs ?_ | with_reducible refine Ba ?_ | with_reducible refine Bd ?_ | with_reducible refine Bn ?_))))).mono ?_); rintro e w1 ⟨rfl, r1⟩; have gg1 := r1.2; have T1 := Lib.hid (RdTo.from (w := w) (show Below w.heap.size w _ from by (repeat (first | with_reducible exact Below.refl _ _ | with_reducible refine Bs ?_ | with_reducible refine Ba ?_ | with_reducible refine Bd ?_ | with_reducible refine Bn ?_))) r1); have y1 := gg1.size; have x1 := T1.out.2.size; obtain ⟨c1_0, f1_0, c1_1, f1_1, c1_2, f1_2, c1_3, f1_3, c1_4, f1_4⟩ := g5f (w.heap.size) (.int .i64 0) (.int .i64 0) (.slice none 0 0) (.int .i64 0) (.int .i64 0) gg1 (by and_intros <;> go_simp); obtain ⟨l1_0, n1_0, m1_0⟩ := lnm (show w.heap.size < w1.heap.size by first | omega | (simp at y1; omega)); clear r1 gg1
  go_wp2_with fail
  (with_reducible refine (HN.out _).mono ?_)
  rintro e w9 ⟨rfl, rfl⟩
  go_wp2_with fail
  (with_reducible refine (HC.out none 0 0 _ (RdTo.belowB H.out T1.out (by (repeat (first | with_reducible exact Below.refl _ _ | with_reducible refine Bs ?_ | with_reducible refine Ba ?_ | with_reducible refine Bd ?_ | with_reducible refine Bn ?_)))).rd (ints_nil _ _ _ _ (by omega))).mono ?_)
  rintro e w8 ⟨val, rfl, z1, z2, r8⟩
  have T8 := Lib.hid (RdTo.trans (RdTo.belowB H.out T1.out (by (repeat (first | with_reducible exact Below.refl _ _ | with_reducible refine Bs ?_ | with_reducible refine Ba ?_ | with_reducible refine Bd ?_ | with_reducible refine Bn ?_)))) r8)
  have g8 := r8.2
  have y8 := g8.size
  have c8_0 : w8.cell? ⟨w.heap.size, 0, none⟩ = some (.int .i64 0) := (only_cell g8 (w.heap.size) 0 (by first | omega | (simp; done) | (simp; omega)) (by omega)).trans (by go_simp)
  have f8_0 : w8.frozen? ⟨w.heap.size, 0, none⟩ = false := (only_frozen g8 (w.heap.size) 0 (by first | omega | (simp; done) | (simp; omega)) (by omega)).trans (by go_simp)
  have c8_1 : w8.cell? ⟨w.heap.size, 1, none⟩ = some (.int .i64 0) := (only_cell g8 (w.heap.size) 1 (by first | omega | (simp; done) | (simp; omega)) (by omega)).trans (by go_simp)
  have f8_1 : w8.frozen? ⟨w.heap.size, 1, none⟩ = false := (only_frozen g8 (w.heap.size) 1 (by first | omega | (simp; done) | (simp; omega)) (by omega)).trans (by go_simp)
  have c8_2 : w8.cell? ⟨w.heap.size, 2, none⟩ = some (.slice none 0 0) := (only_cell g8 (w.heap.size) 2 (by first | omega | (simp; done) | (simp; omega)) (by omega)).trans (by go_simp)
  have f8_2 : w8.frozen? ⟨w.heap.size, 2, none⟩ = false := (only_frozen g8 (w.heap.size) 2 (by first | omega | (simp; done) | (simp; omega)) (by omega)).trans (by go_simp)
  have c8_3 : w8.cell? ⟨w.heap.size, 3, none⟩ = some (.int .i64 0) := (only_cell g8 (w.heap.size) 3 (by first | omega | (simp; done) | (simp; omega)) (by omega)).trans (by go_simp)
  have f8_3 : w8.frozen? ⟨w.heap.size, 3, none⟩ = false := (only_frozen g8 (w.heap.size) 3 (by first | omega | (simp; done) | (simp; omega)) (by omega)).trans (by go_simp)
  have c8_4 : w8.cell? ⟨w.heap.size, 4, none⟩ = some (.int .i64 0) := (only_cell g8 (w.heap.size) 4 (by first | omega | (simp; done) | (simp; omega)) (by omega)).trans (by go_simp)
  have f8_4 : w8.frozen? ⟨w.heap.size, 4, none⟩ = false := (only_frozen g8 (w.heap.size) 4 (by first | omega | (simp; done) | (simp; omega)) (by omega)).trans (by go_simp)
  clear r8 g8
  have Z1 := Lib.hid z1; have Z2 := Lib.hid z2
  clear z1 z2
  by_cases hE : E = 0
  · obtain rfl := Z1.out hE
    go_wp2_with fail
    exact bodyPost_ret (v := .agg #[.int .i64 6, .int .i64 0, .slice none 0 0, .int .i64 0, .int .i64 0]) (by simp [results, Try.results39, go_sem, *]) rfl (by rw [← HT.out, if_pos hE]; exact ⟨_, rfl, ints_nil _ _ _ _ (by omega), RdTo.belowB H.out T8.out (by (repeat (first | with_reducible exact Below.refl _ _ | with_reducible refine Bs ?_ | with_reducible refine Ba ?_ | with_reducible refine Bd ?_ | with_reducible refine Bn ?_))), fresh_nil _ _ _⟩)
  · obtain rfl := Z2.out hE
    go_wp2_with fail
    exact bodyPost_ret (v := .agg #[.int .i64 0, .int .i64 0, .slice none 0 0, .int .i64 0, .int .i64 0]) (by simp [results, Try.results39, go_sem, *]) rfl (by rw [← HT.out, if_neg hE]; exact GotA.zero (RdTo.belowB H.out T8.out (by (repeat (first | with_reducible exact Below.refl _ _ | with_reducible refine Bs ?_ | with_reducible refine Ba ?_ | with_reducible refine Bd ?_ | with_reducible refine Bn ?_)))))

set_option maxRecDepth 100000 in
set_option maxHeartbeats 4000000 in
theorem getAsk_7 {w : World} {R : Nat} {v : Value} {l : List Int} {a : Nat} {e0 : Int} (h : Rd w R v l a e0) (hb : AllB l) (ha : a ≤ l.length) (hl : l.length ≤ 100000) (a1 : Nat) (e1 : Int) (h1 : rdN' l a e0 1099511627776 = (7, a1, e1)) :
    Calls Try.prog 39 #[.pointer (some ⟨R, 0, none⟩)] w fun e w' => GotA w R v l (getAsk l a e0) e w' := by
  have H := Lib.hid h
  have hR := h.lt
  have H1 := Lib.hid (fun W (hW : Rd W R v l a e0) => rdN_call hb ha hl 1099511627776 (by decide) _ _ _ h1 hW)
  have l1 := rdN'_le hb ha e0 1099511627776
  rw [h1] at l1
  obtain ⟨r3, h3⟩ : ∃ r, rdInts' l a1 e1 8 = r := ⟨_, rfl⟩
  obtain ⟨x, a3, e3⟩ := r3
  have H3 := Lib.hid (fun W (hW : Rd W R v l a1 e1) => rdInts_call hb l1 hl 8 (by decide) _ _ _ h3 hW)
  have l3 := rdInts'_le hb l1 e1 8
  rw [h3] at l3
  have hg : gAk 7 l a1 e1 = (((7 : Int), (0 : Int), x, (0 : Int), (0 : Int)), a3, e3) := gAk_of (K := 7) (l := l) (a := a1) (e := e1) (r2 := ((0 : Nat), a1, e1)) rfl h3 (r4 := ((0 : Nat), a3, e3)) rfl (r5 := ((0 : Nat), a3, e3)) rfl
  rw [getAsk_yes h1 (by decide) hg]
  obtain ⟨E, hE⟩ : ∃ E, finE e3 (askB 7 0 0 0 x) = E := ⟨_, rfl⟩
  rw [show finE e3 (askTB ((7 : Int), (0 : Int), x, (0 : Int), (0 : Int))) = E from hE]
  obtain ⟨TT, hT⟩ : ∃ TT, (if E = 0 then ((7 : Int), (0 : Int), x, (0 : Int), (0 : Int)) else askT0) = TT := ⟨_, rfl⟩
  rw [hT]
  have HT := Lib.hid hT
  clear hT
  have HC := Lib.hid (fun (xa : Option Addr) (xn xc : Nat) W (hW : Rd W R v l a3 e3) (hX : Ints .i64 W (.slice xa xn xc) x) => checkedA_val hW (7) 0 0 0 xa xn xc x hX E hE.symm)
  have HN := Lib.hid (fun W => names_any 7 W)
  rw [show decide ((1 : Int) ≤ 7 ∧ (7 : Int) ≤ 7) = true from rfl] at HN
  obtain ⟨p1, p2, p3, p4⟩ := bits_what (k := 7) (by decide)
  simp [whatI] at p1 p2 p3 p4
  simp only [whatI] at HN
  skip
  clear h h1 hb ha hl l1 hg hE h3 l3
  go_enter Try.func39, Try.ntmps39
  go_wp2_with fail
  (with_reducible refine (H1.out _ (H.out.below (by (repeat (first | with_reducible exact Below.refl _ _ | with_reducible refine Bs ?_ | with_reducible refine Ba ?_ | with_reducible refine Bd ?_ | with_reducible refine Bn ?_))))).mono ?_); rintro e w1 ⟨rfl, r1⟩; have gg1 := r1.2; have T1 := Lib.hid (RdTo.from (w := w) (show Below w.heap.size w _ from by (repeat (first | with_reducible exact Below.refl _ _ | with_reducible refine Bs ?_ | with_reducible refine Ba ?_ | with_reducible refine Bd ?_ | with_reducible refine Bn ?_))) r1); have y1 := gg1.size; have x1 := T1.out.2.size; obtain ⟨c1_0, f1_0, c1_1, f1_1, c1_2, f1_2, c1_3, f1_3, c1_4, f1_4⟩ := g5f (w.heap.size) (.int .i64 0) (.int .i64 0) (.slice none 0 0) (.int .i64 0) (.int .i64 0) gg1 (by and_intros <;> go_simp); obtain ⟨l1_0, n1_0, m1_0⟩ := lnm (show w.heap.size < w1.heap.size by first | omega | (simp at y1; omega)); clear r1 gg1
  go_wp2_with fail
  (with_reducible refine (HN.out _).mono ?_)
  rintro e w9 ⟨rfl, rfl⟩
  go_wp2_with fail
  (with_reducible refine (H3.out _ (RdTo.belowB H.out T1.out (by (repeat (first | with_reducible exact Below.refl _ _ | with_reducible refine Bs ?_ | with_reducible refine Ba ?_ | with_reducible refine Bd ?_ | with_reducible refine Bn ?_)))).rd).mono ?_); rintro e w3 ⟨v3, rfl, i3, r3, u3⟩; have gg3 := r3.2; have T3 := Lib.hid (RdTo.trans (RdTo.belowB H.out T1.out (by (repeat (first | with_reducible exact Below.refl _ _ | with_reducible refine Bs ?_ | with_reducible refine Ba ?_ | with_reducible refine Bd ?_ | with_reducible refine Bn ?_)))) r3); have y3 := gg3.size; have x3 := T3.out.2.size; obtain ⟨c3_0, f3_0, c3_1, f3_1, c3_2, f3_2, c3_3, f3_3, c3_4, f3_4⟩ := g5f (w.heap.size) (.int .i64 0) (.int .i64 0) (.slice none 0 0) (.int .i64 0) (.int .i64 0) gg3 (by and_intros <;> go_simp); obtain ⟨c3_5, f3_5, c3_6, f3_6, c3_7, f3_7, c3_8, f3_8, c3_9, f3_9⟩ := g5f (w1.heap.size) (.int .i64 7) (.int .i64 0) (.slice none 0 0) (.int .i64 0) (.int .i64 0) gg3 (by and_intros <;> go_simp); obtain ⟨l3_0, n3_0, m3_0⟩ := lnm (show w.heap.size < w3.heap.size by first | omega | (simp at y3; omega)); obtain ⟨l3_1, n3_1, m3_1⟩ := lnm (show w1.heap.size < w3.heap.size by first | omega | (simp at y3; omega)); clear r3 gg3
  have FX := Lib.hid (show Fresh (w1.heap.size + 1) v3 from u3.mono (by first | omega | (simp; done) | (simp; omega)))
  clear u3
  obtain ⟨xa, xc, rfl⟩ := i3.shape
  have IX := Lib.hid (i3.setCell FX.out (A := ⟨w1.heap.size, 2, none⟩) (by simp) (.slice xa x.length xc))
  clear i3
  go_wp2_with fail
  (with_reducible refine (HC.out xa x.length xc _ (RdTo.belowB H.out T3.out (by (repeat (first | with_reducible exact Below.refl _ _ | with_reducible refine Bs ?_ | with_reducible refine Ba ?_ | with_reducible refine Bd ?_ | with_reducible refine Bn ?_)))).rd IX.out).mono ?_)
  rintro e w8 ⟨val, rfl, z1, z2, r8⟩
  have T8 := Lib.hid (RdTo.trans (RdTo.belowB H.out T3.out (by (repeat (first | with_reducible exact Below.refl _ _ | with_reducible refine Bs ?_ | with_reducible refine Ba ?_ | with_reducible refine Bd ?_ | with_reducible refine Bn ?_)))) r8)
  have g8 := r8.2
  have y8 := g8.size
  have IX8 := Lib.hid (Ints.only_fresh IX.out (FX.out.mono (show w.heap.size + 1 ≤ _ by omega)) (by omega) g8)
  have c8_0 : w8.cell? ⟨w.heap.size, 0, none⟩ = some (.int .i64 0) := (only_cell g8 (w.heap.size) 0 (by first | omega | (simp; done) | (simp; omega)) (by omega)).trans (by go_simp)
  have f8_0 : w8.frozen? ⟨w.heap.size, 0, none⟩ = false := (only_frozen g8 (w.heap.size) 0 (by first | omega | (simp; done) | (simp; omega)) (by omega)).trans (by go_simp)
  have c8_1 : w8.cell? ⟨w.heap.size, 1, none⟩ = some (.int .i64 0) := (only_cell g8 (w.heap.size) 1 (by first | omega | (simp; done) | (simp; omega)) (by omega)).trans (by go_simp)
  have f8_1 : w8.frozen? ⟨w.heap.size, 1, none⟩ = false := (only_frozen g8 (w.heap.size) 1 (by first | omega | (simp; done) | (simp; omega)) (by omega)).trans (by go_simp)
  have c8_2 : w8.cell? ⟨w.heap.size, 2, none⟩ = some (.slice none 0 0) := (only_cell g8 (w.heap.size) 2 (by first | omega | (simp; done) | (simp; omega)) (by omega)).trans (by go_simp)
  have f8_2 : w8.frozen? ⟨w.heap.size, 2, none⟩ = false := (only_frozen g8 (w.heap.size) 2 (by first | omega | (simp; done) | (simp; omega)) (by omega)).trans (by go_simp)
  have c8_3 : w8.cell? ⟨w.heap.size, 3, none⟩ = some (.int .i64 0) := (only_cell g8 (w.heap.size) 3 (by first | omega | (simp; done) | (simp; omega)) (by omega)).trans (by go_simp)
  have f8_3 : w8.frozen? ⟨w.heap.size, 3, none⟩ = false := (only_frozen g8 (w.heap.size) 3 (by first | omega | (simp; done) | (simp; omega)) (by omega)).trans (by go_simp)
  have c8_4 : w8.cell? ⟨w.heap.size, 4, none⟩ = some (.int .i64 0) := (only_cell g8 (w.heap.size) 4 (by first | omega | (simp; done) | (simp; omega)) (by omega)).trans (by go_simp)
  have f8_4 : w8.frozen? ⟨w.heap.size, 4, none⟩ = false := (only_frozen g8 (w.heap.size) 4 (by first | omega | (simp; done) | (simp; omega)) (by omega)).trans (by go_simp)
  clear r8 g8
  have Z1 := Lib.hid z1; have Z2 := Lib.hid z2
  clear z1 z2
  by_cases hE : E = 0
  · obtain rfl := Z1.out hE
    go_wp2_with fail
    exact bodyPost_ret (v := .agg #[.int .i64 7, .int .i64 0, .slice xa x.length xc, .int .i64 0, .int .i64 0]) (by simp [results, Try.results39, go_sem, *]) rfl (by rw [← HT.out, if_pos hE]; exact ⟨_, rfl, (by refine Ints.stores5 IX8.out (FX.out.mono (show w.heap.size + 1 ≤ _ by omega)) (by omega)), RdTo.belowB H.out T8.out (by (repeat (first | with_reducible exact Below.refl _ _ | with_reducible refine Bs ?_ | with_reducible refine Ba ?_ | with_reducible refine Bd ?_ | with_reducible refine Bn ?_))), FX.out.mono (by omega)⟩)
  · obtain rfl := Z2.out hE
    go_wp2_with fail
    exact bodyPost_ret (v := .agg #[.int .i64 0, .int .i64 0, .slice none 0 0, .int .i64 0, .int .i64 0]) (by simp [results, Try.results39, go_sem, *]) rfl (by rw [← HT.out, if_neg hE]; exact GotA.zero (RdTo.belowB H.out T8.out (by (repeat (first | with_reducible exact Below.refl _ _ | with_reducible refine Bs ?_ | with_reducible refine Ba ?_ | with_reducible refine Bd ?_ | with_reducible refine Bn ?_)))))

theorem getAsk_any {w : World} {R : Nat} {v : Value} {l : List Int} {a : Nat} {e0 : Int} (h : Rd w R v l a e0) (hb : AllB l) (ha : a ≤ l.length) (hl : l.length ≤ 100000) :
    Calls Try.prog 39 #[.pointer (some ⟨R, 0, none⟩)] w fun e w' => GotA w R v l (getAsk l a e0) e w' := by
  obtain ⟨r, h1⟩ : ∃ r, rdN' l a e0 1099511627776 = r := ⟨_, rfl⟩
  obtain ⟨K, a1, e1⟩ := r
  by_cases hk : 1 ≤ K ∧ K ≤ 7
  · obtain rfl | rfl | rfl | rfl | rfl | rfl | rfl : K = 1 ∨ K = 2 ∨ K = 3 ∨ K = 4 ∨ K = 5 ∨ K = 6 ∨ K = 7 := by omega
    · exact getAsk_1 h hb ha hl a1 e1 h1
    · exact getAsk_2 h hb ha hl a1 e1 h1
    · exact getAsk_3 h hb ha hl a1 e1 h1
    · exact getAsk_4 h hb ha hl a1 e1 h1
    · exact getAsk_5 h hb ha hl a1 e1 h1
    · exact getAsk_6 h hb ha hl a1 e1 h1
    · exact getAsk_7 h hb ha hl a1 e1 h1
  · exact getAsk_none h hb ha hl K a1 e1 h1 hk
end Go.Proofs.Ytjmjnkilgoelbaa
