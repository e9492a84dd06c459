/-
  Walk of pick.Coefs: a range over a function.
-/
import Derived.Test.YtoljilbldkbjpaaRangeR
namespace Go.Proofs.Ytoljilbldkbjpaa
open Go.RowKit

attribute [local go_sem] Oper.semAt_some

theorem Ints.putLoop {k : IntKind} {w : World} {v : Value} {l : List Int} {lk : Nat} {r : Loop} (h : Ints k w v l) (hl : w.heap[lk]? = some (.loop r)) (o : Obj) : Ints k (w.putObj lk o) v l := by
  obtain ⟨a, c, e, h1, h2, h3, h4⟩ := h
  refine ⟨a, c, e, h1, h2, h3, fun i x hi => ?_⟩
  obtain ⟨b, off, e, hb, hc⟩ := h4 i x hi
  have hne : b ≠ lk := by
    intro e
    subst e
    simp [World.cell?, hl] at hc
  exact ⟨b, off, e, by simpa using hb, (Ints.keep.cell_of_heapL (World.putObj_heap_other hne)).trans hc⟩

theorem Ints.putOther {k : IntKind} {w : World} {v : Value} {l : List Int} {lk : Nat} {r : Option (List Deferred)} (h : Ints k w v l) (hl : w.heap[lk]? = some (.deferred r)) (o : Obj) : Ints k (w.putObj lk o) v l := by
  obtain ⟨a, c, e, h1, h2, h3, h4⟩ := h
  refine ⟨a, c, e, h1, h2, h3, fun i x hi => ?_⟩
  obtain ⟨b, off, e, hb, hc⟩ := h4 i x hi
  have hne : b ≠ lk := by
    intro e
    subst e
    simp [World.cell?, hl] at hc
  exact ⟨b, off, e, by simpa using hb, (Ints.keep.cell_of_heapL (World.putObj_heap_other hne)).trans hc⟩

theorem below_putObj {B lk : Nat} {w W : World} (h : Below B w W) (hB : B ≤ lk) (o : Obj) : Below B w (W.putObj lk o) :=
  ⟨h.os, h.tape, h.output, by simpa using h.size, fun k hk => (World.putObj_heap_other (by omega)).trans (h.block k hk)⟩

theorem heap_set_far' {w : World} {b o q : Nat} {v : Value} (h : q ≠ b) : (w.setCell ⟨b, o, none⟩ v).heap[q]? = w.heap[q]? := Below.heap_setCell _ _ _ _ h

/-- The body has returned: its results are laid. -/
theorem fin3 {w V : World} {S : Nat} {RC : LoopState → Option Code → Loop} {vo u1 u2 u3 : Value} {A E : Int} {C : List Int} (hs : S + 10 ≤ V.heap.size)
    (w1 : V.cell? ⟨S + 1, 0, none⟩ = some u1) (w2 : V.cell? ⟨S + 2, 0, none⟩ = some u2) (w3 : V.cell? ⟨S + 3, 0, none⟩ = some u3) (b1 : V.heap[S + 9]? = some (.loop (RC .busy none))) (b2 : V.heap[S + 8]? = some (.deferred (some []))) (b3 : Below S w V)
    (hi : Ints .i64 (((V.setCell ⟨S + 1, 0, none⟩ vo).setCell ⟨S + 2, 0, none⟩ (.int .i64 A)).setCell ⟨S + 3, 0, none⟩ (.int .i64 E)) vo C) (V3 : World) (hV3 : V3 = ((V.setCell ⟨S + 1, 0, none⟩ vo).setCell ⟨S + 2, 0, none⟩ (.int .i64 A)).setCell ⟨S + 3, 0, none⟩ (.int .i64 E)) :
    V3.heap[S + 9]? = some (.loop (RC .busy none)) ∧ (V3.putObj (S + 9) (.loop (RC .done (some .ret)))).heap[S + 9]? = some (.loop (RC .done (some .ret))) ∧ (V3.putObj (S + 9) (.loop (RC .done (some .ret)))).heap[S + 8]? = some (.deferred (some [])) ∧
      ∃ vo, (V3.putObj (S + 9) (.loop (RC .done (some .ret)))).cell? ⟨S + 1, 0, none⟩ = some vo ∧ (V3.putObj (S + 9) (.loop (RC .done (some .ret)))).cell? ⟨S + 2, 0, none⟩ = some (.int .i64 A) ∧ (V3.putObj (S + 9) (.loop (RC .done (some .ret)))).cell? ⟨S + 3, 0, none⟩ = some (.int .i64 E) ∧
        Ints .i64 (V3.putObj (S + 9) (.loop (RC .done (some .ret)))) vo C ∧ Below S w (V3.putObj (S + 9) (.loop (RC .done (some .ret)))) := by
  rw [← hV3] at hi
  have hsz : V3.heap.size = V.heap.size := by rw [hV3]; simp
  have ho : ∀ q, q ≠ S + 1 → q ≠ S + 2 → q ≠ S + 3 → V3.heap[q]? = V.heap[q]? := fun q h1 h2 h3 => by
    rw [hV3]
    exact (heap_set_far' h3).trans ((heap_set_far' h2).trans (heap_set_far' h1))
  have hr : V3.heap[S + 9]? = some (.loop (RC .busy none)) := (ho _ (by omega) (by omega) (by omega)).trans b1
  have x1 : V3.cell? ⟨S + 1, 0, none⟩ = some vo := by
    rw [hV3, World.cell?_setCell_other _ _ _ _ (by intro e; injection e with e; omega), World.cell?_setCell_other _ _ _ _ (by intro e; injection e with e; omega)]
    exact World.cell?_setCell_same _ _ _ w1
  have x2 : V3.cell? ⟨S + 2, 0, none⟩ = some (.int .i64 A) := by
    rw [hV3, World.cell?_setCell_other _ _ _ _ (by intro e; injection e with e; omega)]
    exact World.cell?_setCell_same _ _ _ (by rw [World.cell?_setCell_other _ _ _ _ (by intro e; injection e with e; omega)]; exact w2)
  have x3 : V3.cell? ⟨S + 3, 0, none⟩ = some (.int .i64 E) := by
    rw [hV3]
    exact World.cell?_setCell_same _ _ _ (by rw [World.cell?_setCell_other _ _ _ _ (by intro e; injection e with e; omega), World.cell?_setCell_other _ _ _ _ (by intro e; injection e with e; omega)]; exact w3)
  have hB : Below S w V3 := by rw [hV3]; exact ((b3.setCell (by show S ≤ S + 1; omega) _).setCell (by show S ≤ S + 2; omega) _).setCell (by show S ≤ S + 3; omega) _
  exact ⟨hr, World.putObj_heap_same (by omega), (World.putObj_heap_other (by omega)).trans ((ho _ (by omega) (by omega) (by omega)).trans b2), vo, (Ints.keep.cell_of_heapL (World.putObj_heap_other (by omega))).trans x1,
    (Ints.keep.cell_of_heapL (World.putObj_heap_other (by omega))).trans x2, (Ints.keep.cell_of_heapL (World.putObj_heap_other (by omega))).trans x3, hi.putLoop hr _, below_putObj hB (by omega) _⟩

set_option maxHeartbeats 400000 in
theorem parts_any (ax : Option Addr) (m cx : Nat) (a d t : Int) (w : World) (s : Nat) (hs : w.heap.size = s) :
    Calls Try.prog 47 #[.slice ax m cx, .int .i64 a, .int .i64 d, .int .i64 t] w fun e w' => e = .returned (.func (.func 71) #[] #[.pointer (some ⟨s + 3, 0, none⟩), .pointer (some ⟨s + 2, 0, none⟩), .pointer (some ⟨s, 0, none⟩), .pointer (some ⟨s + 1, 0, none⟩)]) ∧
      w' = (((w.alloc (.cells #[.slice ax m cx] 22)).alloc (.cells #[.int .i64 a] 3)).alloc (.cells #[.int .i64 d] 3)).alloc (.cells #[.int .i64 t] 3) := by
  subst hs
  go_enter Try.func47, Try.ntmps47
  go_wp2_with fail
  go_ret
  exact ⟨rfl, rfl⟩

set_option maxRecDepth 100000 in
set_option maxHeartbeats 4000000 in
theorem coefs_bad (v : Value) (l : List Int) (a d t : Int) (w : World) (hb : coefBad a d t) (h : Ints .u64 w v l) :
    Calls Try.prog 20 #[v, .int .i64 a, .int .i64 d, .int .i64 t] w fun e w' => e = .returned (.tuple #[.slice none 0 0, .int .i64 0, .int .i64 1]) ∧ Below w.heap.size w w' := by
  obtain ⟨ax, cx, rfl, _⟩ := h
  generalize l.length = m at *
  unfold coefBad at hb
  by_cases h1 : d < 1
  · go_enter Try.func20, Try.ntmps20
    go_wp2_with fail
    exact bodyPost_ret (v := .tuple #[.slice none 0 0, .int .i64 0, .int .i64 1]) (by simp [results, Try.results20, go_sem]) rfl ⟨rfl, by (repeat (first | with_reducible exact Below.refl _ _ | ((with_reducible refine Below.setCell ?_ ?_ _); rotate_left; (focus (first | omega | (simp; done) | (simp; omega)))) | ((with_reducible refine Below.alloc ?_ ?_ _); rotate_left; (focus (first | omega | (simp; done) | (simp; omega)))) | (with_reducible refine Below.drew ?_) | (with_reducible refine below_drewN ?_ _)))⟩
  · by_cases h2 : 8 < d
    · go_enter Try.func20, Try.ntmps20
      go_wp2_with fail
      exact bodyPost_ret (v := .tuple #[.slice none 0 0, .int .i64 0, .int .i64 1]) (by simp [results, Try.results20, go_sem]) rfl ⟨rfl, by (repeat (first | with_reducible exact Below.refl _ _ | ((with_reducible refine Below.setCell ?_ ?_ _); rotate_left; (focus (first | omega | (simp; done) | (simp; omega)))) | ((with_reducible refine Below.alloc ?_ ?_ _); rotate_left; (focus (first | omega | (simp; done) | (simp; omega)))) | (with_reducible refine Below.drew ?_) | (with_reducible refine below_drewN ?_ _)))⟩
    · have h5 : decide (0 ≤ a ∧ 1 ≤ t ∧ t ≤ 64) = false := decide_eq_false (by omega)
      have HA := Lib.hid (fun W => h5 ▸ asked07_any a t W)
      clear hb h5
      go_enter Try.func20, Try.ntmps20
      go_wp2_with fail
      (with_reducible refine (HA.out _).mono ?_)
      rintro e w1 ⟨rfl, rfl⟩
      go_wp2_with fail
      exact bodyPost_ret (v := .tuple #[.slice none 0 0, .int .i64 0, .int .i64 1]) (by simp [results, Try.results20, go_sem]) rfl ⟨rfl, by (repeat (first | with_reducible exact Below.refl _ _ | ((with_reducible refine Below.setCell ?_ ?_ _); rotate_left; (focus (first | omega | (simp; done) | (simp; omega)))) | ((with_reducible refine Below.alloc ?_ ?_ _); rotate_left; (focus (first | omega | (simp; done) | (simp; omega)))) | (with_reducible refine Below.drew ?_) | (with_reducible refine below_drewN ?_ _)))⟩

set_option maxRecDepth 100000 in
set_option maxHeartbeats 4000000 in
theorem coefs_any (v : Value) (l : List Int) (a d t : Int) (w : World) (h : Ints .u64 w v l) (hu : AllU l) (ha : Ok64 a) :
    Calls Try.prog 20 #[v, .int .i64 a, .int .i64 d, .int .i64 t] w fun e w' => ∃ vo, e = .returned (.tuple #[vo, .int .i64 (coefV l a d t).2.1, .int .i64 (coefV l a d t).2.2]) ∧ Ints .i64 w' vo (coefV l a d t).1 ∧ Below w.heap.size w w' := by
  by_cases hb : coefBad a d t
  · have e1 : coefV l a d t = ([], 0, 1) := by unfold coefV; rw [if_pos hb]
    rw [e1]
    exact (coefs_bad v l a d t w hb h).mono fun e w' ⟨g1, g2⟩ => ⟨_, g1, ints_nil _ _ _ _ (by omega), g2⟩
  · have HV := Lib.hid (show coefV l a d t = coefL l t d.toNat t.toNat a by unfold coefV; rw [if_neg hb])
    unfold coefBad at hb
    obtain ⟨D, rfl⟩ : ∃ D : Nat, d = (D : Int) := ⟨d.toNat, by omega⟩
    obtain ⟨T, rfl⟩ : ∃ T : Nat, t = (T : Int) := ⟨t.toNat, by omega⟩
    rw [show (D : Int).toNat = D from rfl, show (T : Int).toNat = T from rfl] at HV
    rw [HV.out]
    have d1 : 1 ≤ (D : Int) := by omega
    have d8 : (D : Int) ≤ 8 := by omega
    have t1 : 1 ≤ (T : Int) := by omega
    have t64 : (T : Int) ≤ 64 := by omega
    have HX := Lib.hid h
    have HU := Lib.hid hu
    have HO := Lib.hid ha
    obtain ⟨ax, cx, rfl, _⟩ := h
    have hq : decide (0 ≤ a ∧ 1 ≤ (T : Int) ∧ (T : Int) ≤ 64) = true := decide_eq_true (by omega)
    have HAS := Lib.hid (fun W => hq ▸ asked07_any a T W)
    have HIT := Lib.hid (fun n lk bt bd bl ba N w0 W J Jx h1 h2 => parts1_in n lk bt bd bl ba N (.slice ax l.length cx) l D T a w0 W J Jx h1 h2 hu (by omega) (by omega) (by omega) (by omega) ha)
    obtain ⟨m, hm⟩ : ∃ m, l.length = m := ⟨_, rfl⟩
    rw [hm] at HX HIT ⊢
    obtain ⟨CV, hCV⟩ : ∃ CV, coefL l T D T a = CV := ⟨_, rfl⟩
    rw [hCV] at HIT ⊢
    clear hb hu ha hm HV hq hCV
    refine (callsIn_wide (n := 4)).1 ?_
    refine callsIn_of_wp_marks Try.func20 rfl trivial ?_ rfl
    simp only [Try.ntmps20, List.size_toArray, List.length_cons, List.length_nil, Nat.reduceAdd, Nat.reduceSub, Array.replicate_succ, Array.replicate_zero, List.push_toArray, List.append_toArray, List.nil_append, List.cons_append]
    gi_wp2_with (first | (refine ⟨trivial, ?_⟩; gi_at_call 40; refine (callsIn_wide.2 (HAS.out _)).mono ?_; rintro e w1 ⟨rfl, rfl⟩) | (refine ⟨trivial, ?_⟩; gi_at_call 47; refine (callsIn_wide.2 (parts_any _ _ _ _ _ _ _ (w.heap.size + 4) (by simp))).mono ?_; rintro e w1 ⟨rfl, rfl⟩))
    obtain ⟨S, hS⟩ : ∃ S, w.heap.size = S := ⟨_, rfl⟩
    obtain ⟨W, hW⟩ : ∃ W, W = (((((((w.alloc (.cells #[.int .i64 (D : Int)] 3)).alloc (.cells #[.slice none 0 0] 24)).alloc (.cells #[.int .i64 0] 3)).alloc (.cells #[.int .i64 0] 25)).alloc (.cells #[.slice ax m cx] 22)).alloc (.cells #[.int .i64 a] 3)).alloc (.cells #[.int .i64 (D : Int)] 3)).alloc (.cells #[.int .i64 (T : Int)] 3) := ⟨_, rfl⟩
    have hWs : W.heap.size = S + 8 := by rw [hW, ← hS]; simp
    have cD : W.cell? ⟨S, 0, none⟩ = some (.int .i64 (D : Int)) := by rw [hW, ← hS]; go_simp
    have cl : W.cell? ⟨S + 4, 0, none⟩ = some (.slice ax m cx) := by rw [hW, ← hS]; go_simp
    have ca : W.cell? ⟨S + 5, 0, none⟩ = some (.int .i64 a) := by rw [hW, ← hS]; go_simp
    have cd : W.cell? ⟨S + 6, 0, none⟩ = some (.int .i64 (D : Int)) := by rw [hW, ← hS]; go_simp
    have ct : W.cell? ⟨S + 7, 0, none⟩ = some (.int .i64 (T : Int)) := by rw [hW, ← hS]; go_simp
    have fa : W.frozen? ⟨S + 5, 0, none⟩ = false := by rw [hW, ← hS]; go_simp
    have r1 : W.cell? ⟨S + 1, 0, none⟩ = some (.slice none 0 0) := by rw [hW, ← hS]; go_simp
    have r2 : W.cell? ⟨S + 2, 0, none⟩ = some (.int .i64 0) := by rw [hW, ← hS]; go_simp
    have r3 : W.cell? ⟨S + 3, 0, none⟩ = some (.int .i64 0) := by rw [hW, ← hS]; go_simp
    have f1 : W.frozen? ⟨S + 1, 0, none⟩ = false := by rw [hW, ← hS]; go_simp
    have f2 : W.frozen? ⟨S + 2, 0, none⟩ = false := by rw [hW, ← hS]; go_simp
    have f3 : W.frozen? ⟨S + 3, 0, none⟩ = false := by rw [hW, ← hS]; go_simp
    have BW : Below S w W := by rw [hW, ← hS]; (repeat (first | with_reducible exact Below.refl _ _ | ((with_reducible refine Below.setCell ?_ ?_ _); rotate_left; (focus (first | omega | (simp; done) | (simp; omega)))) | ((with_reducible refine Below.alloc ?_ ?_ _); rotate_left; (focus (first | omega | (simp; done) | (simp; omega)))) | (with_reducible refine Below.drew ?_) | (with_reducible refine below_drewN ?_ _)))
    rw [← hW]
    simp only [Nat.add_assoc, Nat.reduceAdd, hS]
    clear hW
    refine range_in (gf := 71) (lb := #[.pointer (some ⟨S + 7, 0, none⟩), .pointer (some ⟨S + 6, 0, none⟩), .pointer (some ⟨S + 4, 0, none⟩), .pointer (some ⟨S + 5, 0, none⟩)]) (by rfl) (enters_of Try.func71 (by kernel_rfl) rfl)
      (fun W2 => W2.heap[S + 8]? = some (.deferred (some [])) ∧ ∃ vo, W2.cell? ⟨S + 1, 0, none⟩ = some vo ∧ W2.cell? ⟨S + 2, 0, none⟩ = some (.int .i64 CV.2.1) ∧ W2.cell? ⟨S + 3, 0, none⟩ = some (.int .i64 CV.2.2) ∧ Ints .i64 W2 vo CV.1 ∧ Below S w W2) ?call ?ret
    case call =>
      intro fn RC hRC
      rw [hWs] at hRC ⊢
      obtain ⟨W1, hW1⟩ : ∃ W1, W1 = (W.alloc (.deferred (some []))).alloc (.loop (RC .ready none)) := ⟨_, rfl⟩
      rw [← hW1]
      have hN : W1.heap.size = S + 10 := by rw [hW1]; simp [hWs]
      have hold : ∀ q, q < S + 8 → W1.heap[q]? = W.heap[q]? := fun q hq => by rw [hW1]; exact (Below.heap_alloc _ _ _ (by simp [hWs]; omega)).trans (Below.heap_alloc _ _ _ (by omega))
      have hrec : W1.heap[S + 9]? = some (.loop (RC .ready none)) := by
        have := World.alloc_heap_new (W.alloc (.deferred (some []))) (.loop (RC .ready none))
        rw [World.size_alloc, hWs] at this
        rw [hW1]
        exact this
      have hdef : W1.heap[S + 8]? = some (.deferred (some [])) := by
        have := World.alloc_heap_new W (.deferred (some []))
        rw [hWs] at this
        rw [hW1]
        exact (Below.heap_alloc _ _ _ (by simp [hWs])).trans this
      have hB1 : Below S w W1 := by rw [hW1]; exact (BW.alloc (by omega) _).alloc (by simp [hWs]; omega) _
      clear hW1
      refine (HIT.out 3 (S + 9) (S + 7) (S + 6) (S + 4) (S + 5) (S + 10) w W1
        (fun wr => wr.heap[S + 9]? = some (.loop (RC .ready none)) ∧ wr.heap[S + 8]? = some (.deferred (some [])) ∧ (∀ q, q < S + 4 → wr.heap[q]? = W.heap[q]?) ∧ Below S w wr)
        (fun ae C W' => W'.heap[S + 9]? = some (.loop (RC .done (some .ret))) ∧ W'.heap[S + 8]? = some (.deferred (some [])) ∧ ∃ vo, W'.cell? ⟨S + 1, 0, none⟩ = some vo ∧ W'.cell? ⟨S + 2, 0, none⟩ = some (.int .i64 ae.1) ∧ W'.cell? ⟨S + 3, 0, none⟩ = some (.int .i64 ae.2) ∧ Ints .i64 W' vo C ∧ Below S w W')
        (by omega) HX.out hN (by omega) (by omega) (by omega) (by omega) (by omega) (by omega)
        (fun q hq => (hold q (by omega)).trans (BW.block q (by omega)))
        ((Ints.keep.cell_of_heapL (hold _ (by omega))).trans ct) ((Ints.keep.cell_of_heapL (hold _ (by omega))).trans cd) ((Ints.keep.cell_of_heapL (hold _ (by omega))).trans cl) ((Ints.keep.cell_of_heapL (hold _ (by omega))).trans ca)
        (by simpa only [World.frozen?, hold (S + 5) (by omega)] using fa) ?st ?yr ?ye ⟨hrec, hdef, fun q hq => hold q (by omega), hB1⟩).mono ?fin
      case st =>
        rintro A1 A2 ⟨h1, h2, h3, h4⟩ ⟨k1, k2⟩
        exact ⟨(k2 _ (by omega) (by omega)).trans h1, (k2 _ (by omega) (by omega)).trans h2, fun q hq => (k2 q (by omega) (by omega)).trans (h3 q hq), below_tr h4 (k1.mono (by omega))⟩
      case fin =>
        rintro e W2 ⟨⟨v, rfl⟩, g1, g2, vo, v1, v2, v3, hi, hB⟩
        exact ⟨⟨_, rfl⟩, g1, (World.putObj_heap_other (by omega)).trans g2, vo, (Ints.keep.cell_of_heapL (World.putObj_heap_other (by omega))).trans v1, (Ints.keep.cell_of_heapL (World.putObj_heap_other (by omega))).trans v2, (Ints.keep.cell_of_heapL (World.putObj_heap_other (by omega))).trans v3, hi.putLoop g1 _, below_putObj hB (by omega) _⟩
      case ye =>
        rintro A1 E ⟨h1, h2, h3, h4⟩ hs hE
        have e1 : (E != 0) = true := by simp [hE]
        obtain ⟨V1, hV1⟩ : ∃ V1, V1 = A1.putObj (S + 9) (.loop (RC .busy none)) := ⟨_, rfl⟩
        have hq : ∀ q, q < S + 4 → V1.heap[q]? = W.heap[q]? := fun q hq => by rw [hV1]; exact (World.putObj_heap_other (by omega)).trans (h3 q hq)
        have w0' : V1.cell? ⟨S, 0, none⟩ = some (.int .i64 (D : Int)) := (Ints.keep.cell_of_heapL (hq _ (by omega))).trans cD
        have w1' : V1.cell? ⟨S + 1, 0, none⟩ = some (.slice none 0 0) := (Ints.keep.cell_of_heapL (hq _ (by omega))).trans r1
        have w2' : V1.cell? ⟨S + 2, 0, none⟩ = some (.int .i64 0) := (Ints.keep.cell_of_heapL (hq _ (by omega))).trans r2
        have w3' : V1.cell? ⟨S + 3, 0, none⟩ = some (.int .i64 0) := (Ints.keep.cell_of_heapL (hq _ (by omega))).trans r3
        have q1 : V1.frozen? ⟨S + 1, 0, none⟩ = false := by simpa only [World.frozen?, hq (S + 1) (by omega)] using f1
        have q2 : V1.frozen? ⟨S + 2, 0, none⟩ = false := by simpa only [World.frozen?, hq (S + 2) (by omega)] using f2
        have q3 : V1.frozen? ⟨S + 3, 0, none⟩ = false := by simpa only [World.frozen?, hq (S + 3) (by omega)] using f3
        have b1 : V1.heap[S + 9]? = some (.loop (RC .busy none)) := by rw [hV1]; exact World.putObj_heap_same (by omega)
        have b2 : V1.heap[S + 8]? = some (.deferred (some [])) := by rw [hV1]; exact (World.putObj_heap_other (by omega)).trans h2
        have b3 : Below S w V1 := by rw [hV1]; exact below_putObj h4 (by omega) _
        have b4 : S + 10 ≤ V1.heap.size := by rw [hV1]; simpa using hs
        refine round_in hRC h1 rfl hV1 ?_
        clear hV1 hRC HIT
        gi_wp2
        refine ⟨trivial, ?_⟩
        gi_wp2
        obtain ⟨x1, x2⟩ := fin3 (vo := .slice none 0 0) (A := 0) (E := E) (C := []) b4 w1' w2' w3' b1 b2 b3 (ints_nil _ _ _ _ (by omega)) _ rfl
        exact ⟨x1, x2⟩
      case yr =>
        rintro A1 c C A ⟨h1, h2, h3, h4⟩ hs hi hfr hC
        obtain ⟨V1, hV1⟩ : ∃ V1, V1 = A1.putObj (S + 9) (.loop (RC .busy none)) := ⟨_, rfl⟩
        have hq : ∀ q, q < S + 4 → V1.heap[q]? = W.heap[q]? := fun q hq => by rw [hV1]; exact (World.putObj_heap_other (by omega)).trans (h3 q hq)
        have w0' : V1.cell? ⟨S, 0, none⟩ = some (.int .i64 (D : Int)) := (Ints.keep.cell_of_heapL (hq _ (by omega))).trans cD
        have w1' : V1.cell? ⟨S + 1, 0, none⟩ = some (.slice none 0 0) := (Ints.keep.cell_of_heapL (hq _ (by omega))).trans r1
        have w2' : V1.cell? ⟨S + 2, 0, none⟩ = some (.int .i64 0) := (Ints.keep.cell_of_heapL (hq _ (by omega))).trans r2
        have w3' : V1.cell? ⟨S + 3, 0, none⟩ = some (.int .i64 0) := (Ints.keep.cell_of_heapL (hq _ (by omega))).trans r3
        have q1 : V1.frozen? ⟨S + 1, 0, none⟩ = false := by simpa only [World.frozen?, hq (S + 1) (by omega)] using f1
        have q2 : V1.frozen? ⟨S + 2, 0, none⟩ = false := by simpa only [World.frozen?, hq (S + 2) (by omega)] using f2
        have q3 : V1.frozen? ⟨S + 3, 0, none⟩ = false := by simpa only [World.frozen?, hq (S + 3) (by omega)] using f3
        have b1 : V1.heap[S + 9]? = some (.loop (RC .busy none)) := by rw [hV1]; exact World.putObj_heap_same (by omega)
        have b2 : V1.heap[S + 8]? = some (.deferred (some [])) := by rw [hV1]; exact (World.putObj_heap_other (by omega)).trans h2
        have b3 : Below S w V1 := by rw [hV1]; exact below_putObj h4 (by omega) _
        have b4 : S + 10 ≤ V1.heap.size := by rw [hV1]; simpa using hs
        have hiV : Ints .i64 V1 c (C ++ [A]) := by rw [hV1]; exact hi.putLoop h1 _
        have hrs : V1.heap.size = A1.heap.size := by rw [hV1]; simp
        have hro : ∀ q, q ≠ S + 9 → V1.heap[q]? = A1.heap[q]? := fun q hq => by rw [hV1]; exact World.putObj_heap_other hq
        have hcl : (C ++ [A]).length = D + 1 := by simp [hC]
        obtain ⟨ac, cc, e, hcc, hcc2, _, hce⟩ := hiV
        rw [hcl] at e hcc
        subst e
        obtain ⟨cb, co, rfl, hcb, hcA⟩ := hce D A (by rw [List.getElem?_append_right (by omega), hC, Nat.sub_self]; rfl)
        have hiW : Ints .i64 V1 (.slice (some ⟨cb, co, none⟩) (D + 1) cc) (C ++ [A]) := by rw [hV1] at *; exact hi.putLoop h1 _
        have HIC := Lib.hid (show Ints .i64 V1 (.slice (some ⟨cb, co, none⟩) D cc) C by
          have := (hiW.take (k := D) (by omega)).2
          rwa [List.take_left' hC] at this)
        have hcbN : S + 10 ≤ cb := hfr _ _ _ rfl (by omega)
        have hcn1 : cb ≠ S + 9 := by
          intro e; subst e
          simp [World.cell?, b1] at hcA
        cases hZ : (C.any fun x => x != 0) with
        | false =>
          have HCN := Lib.hid (fun W hW => hZ ▸ contains_any (.slice (some ⟨cb, co, none⟩) D cc) C W hW)
          refine round_in hRC h1 rfl hV1 ?_
          clear hV1 hRC HIT hce hiW hi
          gi_wp2
          refine ⟨trivial, ?_⟩
          gi_wp2_with (refine ⟨trivial, ?_⟩; gi_at_call 48; refine (CallsIn.inRound (S + 9) (callsIn_wide.2 (HCN.out _ HIC.out))).mono ?_; rintro e w1 ⟨rfl, rfl⟩)
          exact ⟨⟨World.putObj_heap_same (by omega), (World.putObj_heap_other (by omega)).trans b2, fun q hlt => (World.putObj_heap_other (by omega)).trans (hq q hlt), below_putObj b3 (by omega) _⟩, by simp [hrs], fun q g1 g2 => (World.putObj_heap_other g1).trans (hro q g1)⟩
        | true =>
          have HCN := Lib.hid (fun W hW => hZ ▸ contains_any (.slice (some ⟨cb, co, none⟩) D cc) C W hW)
          have HCL := Lib.hid (fun W hW => cloneI_any cb co D cc C W hW (by omega))
          refine round_in hRC h1 rfl hV1 ?_
          clear hV1 hRC HIT hce hiW hi
          have hmx : Try.prog.follows .mixedOrders = true := by kernel_rfl
          have HH := Lib.hid hrs
          clear hq hro hold h3 hrec hdef hB1 h1 h2 h4 cD cl ca cd ct fa r1 r2 r3 f1 f2 f3 hrs hcc2 hN hWs BW hs
          have hi1 : (D : Int) < (D : Int) + 1 := by omega
          gi_wp2
          refine ⟨trivial, ?_⟩
          gi_wp2_with (refine ⟨trivial, ?_⟩; gi_at_call 48; refine (CallsIn.inRound (S + 9) (callsIn_wide.2 (HCN.out _ HIC.out))).mono ?_; rintro e w1 ⟨rfl, rfl⟩)
          have hne1 : cb < V1.heap.size := hcb
          have hcc1 : (D : Int) ≤ (cc : Int) := by omega
          have hD0 : (0 : Int) ≤ (D : Int) := by omega
          refine wpIn_region_any (by assumption) ?_
          try (change wpAnyIn _ _ _ _ _ _ _ _ _ (World.drew _))
          refine wpAny_round _ _ ?hd ?hout _ _ _ _ (wpAny_of_held (S := fun w' => w'.cell? ⟨S, 0, none⟩ = some (.int .i64 (D : Int)) ∧ w'.cell? ⟨cb, co + D, none⟩ = some (.int .i64 A)) _ _ _ _ ?held)
          case hd =>
            intro o ho c e
            simp only [List.mem_toArray, List.mem_cons, List.not_mem_nil, or_false] at ho
            rcases ho with rfl | rfl | rfl | rfl | rfl | rfl | rfl | rfl | rfl | rfl | rfl <;> cases e
          case hout =>
            rintro ⟨a, w, h⟩
            exact h
          refine' wpAnyH_take (i := 0) (v := _) rfl (by kernel_rfl) (by kernel_rfl) (by kernel_rfl) (fun _ _ _ h => h) (Or.inl ⟨by rfl, ?hy0⟩) ⟨w0', hcA⟩ ?rest0
          case hy0 => intro w hSw; (try dsimp only at hSw); (try go_simp); (try with_reducible rfl)
          refine' wpAnyH_take (i := 1) (v := _) rfl (by kernel_rfl) (by kernel_rfl) (by kernel_rfl) (fun _ _ _ h => h) (Or.inl ⟨by rfl, ?hy1⟩) ⟨w0', hcA⟩ ?rest1
          case hy1 => intro w hSw; (try dsimp only at hSw); (try go_simp); (try with_reducible rfl)
          refine' wpAnyH_take (i := 4) (v := _) rfl (by kernel_rfl) (by kernel_rfl) (by kernel_rfl) (fun _ _ _ h => h) (Or.inl ⟨by rfl, ?hy4⟩) ⟨w0', hcA⟩ ?rest4
          case hy4 => intro w hSw; (try dsimp only at hSw); (try go_simp); (try with_reducible rfl)
          refine' wpAnyH_take (i := 5) (v := _) rfl (by kernel_rfl) (by kernel_rfl) (by kernel_rfl) (fun _ _ _ h => h) (Or.inl ⟨by rfl, ?hy5⟩) ⟨w0', hcA⟩ ?rest5
          case hy5 => intro w hSw; (try dsimp only at hSw); (try go_simp); (try with_reducible rfl)
          refine' wpAnyH_take (i := 2) (v := _) rfl (by kernel_rfl) (by kernel_rfl) (by kernel_rfl) (fun _ _ _ h => h) (Or.inl ⟨by rfl, ?hy2⟩) ⟨w0', hcA⟩ ?rest2
          case hy2 => intro w hSw; (try dsimp only at hSw); (try go_simp); (try with_reducible rfl)
          refine' wpAnyH_take (i := 6) (v := _) rfl (by kernel_rfl) (by kernel_rfl) (by kernel_rfl) (fun _ _ _ h => h) (Or.inl ⟨by rfl, ?hy6⟩) ⟨w0', hcA⟩ ?rest6
          case hy6 => intro w hSw; (try dsimp only at hSw); (try go_simp); (try with_reducible rfl)
          refine' wpAnyH_take (i := 7) (v := _) rfl (by kernel_rfl) (by kernel_rfl) (by kernel_rfl) (fun _ _ _ h => h) (Or.inl ⟨by rfl, ?hy7⟩) ⟨w0', hcA⟩ ?rest7
          case hy7 => intro w hSw; (try dsimp only at hSw); (try go_simp); (try with_reducible rfl)
          refine wpAnyH_ready (rs := [3]) (by kernel_rfl) (by simp) (AllReadyH.cons rfl (fun K hK => ?_) AllReadyH.nil)
          go_simp
          go_at_call 50
          refine (HCL.out _ (HIC.out.below (by (repeat (first | with_reducible exact Below.refl _ _ | ((with_reducible refine Below.setCell ?_ ?_ _); rotate_left; (focus (first | omega | (simp; done) | (simp; omega)))) | ((with_reducible refine Below.alloc ?_ ?_ _); rotate_left; (focus (first | omega | (simp; done) | (simp; omega)))) | (with_reducible refine Below.drew ?_) | (with_reducible refine below_drewN ?_ _)))))).mono ?_
          rintro e w5 ⟨vo, rfl, i5, fr5, hb5⟩
          have d0 := (hb5.cell (p := ⟨S, 0, none⟩) (by simp; omega)).trans w0'
          have d1 := (hb5.cell (p := ⟨S + 1, 0, none⟩) (by simp; omega)).trans w1'
          have d2 := (hb5.cell (p := ⟨S + 2, 0, none⟩) (by simp; omega)).trans w2'
          have d3 := (hb5.cell (p := ⟨S + 3, 0, none⟩) (by simp; omega)).trans w3'
          have d4 := (hb5.cell (p := ⟨cb, co + D, none⟩) (by simp; omega)).trans hcA
          have g1 := (hb5.frozen (p := ⟨S + 1, 0, none⟩) (by simp; omega)).trans q1
          have g2 := (hb5.frozen (p := ⟨S + 2, 0, none⟩) (by simp; omega)).trans q2
          have g3 := (hb5.frozen (p := ⟨S + 3, 0, none⟩) (by simp; omega)).trans q3
          have e1 := (hb5.block (S + 9) (by simp; omega)).trans b1
          have e2 := (hb5.block (S + 8) (by simp; omega)).trans b2
          have e3 : Below S w w5 := below_tr (show Below S w V1.drew from ⟨b3.os, b3.tape, b3.output, b3.size, b3.block⟩) (hb5.mono (by show S ≤ V1.heap.size; omega))
          have e4 : S + 10 ≤ w5.heap.size := by have := hb5.size; simp at this; omega
          have HI5 := Lib.hid i5
          have HF5 := Lib.hid (fr5.mono (B' := S + 4) (by simp; omega))
          obtain ⟨va, vc, rfl⟩ := i5.shape
          clear i5 fr5 hb5
          refine hK.out _ _ ⟨d0, d4⟩ (fun _ => ?_)
          clear hK K
          refine wpAnyH_ready (rs := [8]) (by kernel_rfl) (by simp) (AllReadyH.cons rfl (fun K hK => ?_) AllReadyH.nil)
          go_simp
          refine hK.out _ _ ⟨(World.cell?_setCell_other _ _ _ _ (by intro e; injection e with e; omega)).trans d0, (World.cell?_setCell_other _ _ _ _ (by intro e; injection e with e; omega)).trans d4⟩ (fun _ => ?_)
          clear hK K
          refine wpAnyH_ready (rs := [9]) (by kernel_rfl) (by simp) (AllReadyH.cons rfl (fun K hK => ?_) AllReadyH.nil)
          go_simp
          refine hK.out _ _ ⟨(World.cell?_setCell_other _ _ _ _ (by intro e; injection e with e; omega)).trans ((World.cell?_setCell_other _ _ _ _ (by intro e; injection e with e; omega)).trans d0), (World.cell?_setCell_other _ _ _ _ (by intro e; injection e with e; omega)).trans ((World.cell?_setCell_other _ _ _ _ (by intro e; injection e with e; omega)).trans d4)⟩ (fun _ => ?_)
          clear hK K
          refine wpAnyH_ready (rs := [10]) (by kernel_rfl) (by simp) (AllReadyH.cons rfl (fun K hK => ?_) AllReadyH.nil)
          go_simp
          refine hK.out _ _ ⟨(World.cell?_setCell_other _ _ _ _ (by intro e; injection e with e; omega)).trans ((World.cell?_setCell_other _ _ _ _ (by intro e; injection e with e; omega)).trans ((World.cell?_setCell_other _ _ _ _ (by intro e; injection e with e; omega)).trans d0)), (World.cell?_setCell_other _ _ _ _ (by intro e; injection e with e; omega)).trans ((World.cell?_setCell_other _ _ _ _ (by intro e; injection e with e; omega)).trans ((World.cell?_setCell_other _ _ _ _ (by intro e; injection e with e; omega)).trans d4))⟩ (fun _ => ?_)
          clear hK K
          refine wpAnyH_done (by kernel_rfl) ?_ _
          gi_wp2
          have HI6 : Ints .i64 w5 (.slice va D vc) C := by have := HI5.out; rwa [hC] at this
          have HF6 : Fresh (S + 4) (.slice va D vc) := by have := HF5.out; rwa [hC] at this
          obtain ⟨x1, x2⟩ := fin3 (vo := .slice va D vc) (A := A) (E := 0) (C := C) e4 d1 d2 d3 e1 e2 e3 (((HI6.setCell HF6 (A := ⟨S + 1, 0, none⟩) (by show S + 1 < S + 4; omega) _).setCell HF6 (A := ⟨S + 2, 0, none⟩) (by show S + 2 < S + 4; omega) _).setCell HF6 (A := ⟨S + 3, 0, none⟩) (by show S + 3 < S + 4; omega) _) _ rfl
          exact ⟨x1, x2⟩
    case ret =>
      rintro W2 ⟨hD, vo, v1, v2, v3, hi, hB⟩
      rw [hWs]
      gi_wp2
      have hS1 : (W2.putObj (S + 8) (.deferred none)).cell? ⟨S + 1, 0, none⟩ = some vo := (Ints.keep.cell_of_heapL (World.putObj_heap_other (by omega))).trans v1
      have hS2 : (W2.putObj (S + 8) (.deferred none)).cell? ⟨S + 2, 0, none⟩ = some (.int .i64 CV.2.1) := (Ints.keep.cell_of_heapL (World.putObj_heap_other (by omega))).trans v2
      have hS3 : (W2.putObj (S + 8) (.deferred none)).cell? ⟨S + 3, 0, none⟩ = some (.int .i64 CV.2.2) := (Ints.keep.cell_of_heapL (World.putObj_heap_other (by omega))).trans v3
      refine ⟨by simp, .inl ⟨_, _, rfl, run_takeDeferred hD, ?_⟩⟩
      exact ⟨.tuple #[vo, .int .i64 CV.2.1, .int .i64 CV.2.2], by simp [results, Try.results20, go_sem, hS1, hS2, hS3], vo, rfl, hi.putOther hD _, by rw [hS]; exact below_putObj hB (by omega) _⟩
end Go.Proofs.Ytoljilbldkbjpaa
