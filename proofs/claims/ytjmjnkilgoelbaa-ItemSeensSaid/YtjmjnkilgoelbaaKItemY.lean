/-
  ItemY: Walk of the reference's GetSeen.
-/
import Derived.Test.YtjmjnkilgoelbaaKItemX
import Derived.Test.YtjmjnkilgoelbaaJ2a
import Derived.Test.YtjmjnkilgoelbaaKItemC
namespace Go.Proofs.Ytjmjnkilgoelbaa
open Go.RowKit

def RefN (w : World) (vr : Value) (r : SeenT × Nat × Int) (e : Ending) (w' : World) : Prop :=
  ∃ vx, e = .returned (.tuple #[.agg #[vr, .int .i64 r.2.1, .int .i64 r.2.2], .agg #[.int .i64 r.1.1, vx, .int .i64 r.1.2.2.1, .int .i64 r.1.2.2.2.1, .bool r.1.2.2.2.2]]) ∧ Ints .i64 w' vx r.1.2.1 ∧ Below w.heap.size w w'

theorem rdI_ref {l : List Int} {a : Nat} {e0 : Int} (hb : AllB l) (ha : a ≤ l.length) (hl : l.length ≤ 100000) (x : Int) (a' : Nat) (e' : Int) (hr : rdI' l a e0 = (x, a', e')) (v : Value) (w : World) (h : Ints .u8 w v l) :
    Calls Try.prog 122 #[.agg #[v, .int .i64 a, .int .i64 e0]] w fun e w' => e = .returned (.tuple #[.agg #[v, .int .i64 a', .int .i64 e'], .int .i64 x]) ∧ Below w.heap.size w w' := by
  have := rReadI_all v l a e0 w h hb ha hl
  rw [hr] at this
  exact this

theorem rgetScore_call {l : List Int} {a : Nat} {e0 : Int} (hb : AllB l) (ha : a ≤ l.length) (hl : l.length ≤ 100000) (P Q : Int) (s : Bool) (a' : Nat) (e' : Int) (hr : gSc l 1 a e0 = ((P, Q, s), a', e')) (v : Value) (w : World) (h : Ints .u8 w v l) :
    Calls Try.prog 33 #[.agg #[v, .int .i64 a, .int .i64 e0]] w fun e w' => e = .returned (.tuple #[.agg #[v, .int .i64 a', .int .i64 e'], .agg #[.int .i64 P, .int .i64 Q]]) ∧ Below w.heap.size w w' := by
  have := rgetScore_any v l a e0 w h hb ha hl
  unfold gSc at hr
  rw [if_pos rfl] at hr
  injection hr with h1 h2
  injection h1 with h3 h4
  injection h4 with h5 h6
  injection h2 with h7 h8
  subst h3 h5 h7 h8
  exact this

theorem gSc_true {l : List Int} {a : Nat} {e0 : Int} {P Q : Int} {s : Bool} {a' : Nat} {e' : Int} (hr : gSc l 1 a e0 = ((P, Q, s), a', e')) : s = true := by
  unfold gSc at hr
  rw [if_pos rfl] at hr
  injection hr with h1 h2
  injection h1 with h3 h4
  injection h4 with h5 h6
  exact h6.symm

set_option maxRecDepth 100000 in
set_option maxHeartbeats 4000000 in
theorem rgetSeen_bad (vr : Value) (l : List Int) (a : Nat) (e0 : Int) (w : World) (h : Ints .u8 w vr l) (dim : Int) (hd : ¬ (1 ≤ dim ∧ dim ≤ 8)) :
    Calls Try.prog 51 #[.agg #[vr, .int .i64 a, .int .i64 e0], .int .i64 dim] w fun e w' => RefN w vr (getSeen l dim a e0) e w' := by
  obtain ⟨ad, c, rfl⟩ := h.shape
  have HF := Lib.hid (fun W => rFail_all (.slice ad l.length c) ad l.length c rfl a e0 211 W)
  unfold getSeen
  rw [if_neg hd]
  clear h
  generalize failE e0 211 = E at *
  generalize l.length = ln at *
  have hd2 : dim < 1 ∨ (¬ dim < 1 ∧ 8 < dim) := by omega
  clear hd
  rcases hd2 with h1 | ⟨h1, h2⟩
  · go_enter Try.func51, Try.ntmps51
    go_wp2_with fail
    (with_reducible refine (HF.out _).mono ?_); rintro e w1 ⟨rfl, b1⟩; have s1 : w.heap.size + 1 + 1 + 1 ≤ w1.heap.size := sz b1; have B1 := Lib.hid (Bc (B := w.heap.size) (a := w) (by (repeat (first | with_reducible exact Below.refl _ _ | with_reducible refine Bs ?_ | with_reducible refine Ba ?_ | with_reducible refine Bd ?_ | with_reducible refine Bn ?_))) b1); obtain ⟨c1_0, f1_0, c1_1, f1_1, c1_2, f1_2⟩ := k3f (w.heap.size + 1) (.slice none 0 0) (.int .i64 0) (.int .i64 0) b1 (by and_intros <;> go_simp); obtain ⟨c1_3, f1_3, c1_4, f1_4, c1_5, f1_5, c1_6, f1_6, c1_7, f1_7⟩ := k5f (w.heap.size + 1 + 1) (.int .i64 0) (.slice none 0 0) (.int .i64 0) (.int .i64 0) (.bool false) b1 (by and_intros <;> go_simp); obtain ⟨l1_0, n1_0, m1_0⟩ := lnm (show w.heap.size + 1 < w1.heap.size by omega); obtain ⟨l1_1, n1_1, m1_1⟩ := lnm (show w.heap.size + 1 + 1 < w1.heap.size by omega); clear b1
    go_wp2_with fail
    exact bodyPost_ret (v := .tuple #[.agg #[.slice ad ln c, .int .i64 a, .int .i64 E], .agg #[.int .i64 0, .slice none 0 0, .int .i64 0, .int .i64 0, .bool false]]) (by simp [results, Try.results51, go_sem, *]) rfl ⟨_, rfl, ints_nil _ _ _ _ (by omega), by (repeat (first | with_reducible exact Below.refl _ _ | with_reducible refine Bs ?_ | with_reducible refine Ba ?_ | with_reducible refine Bd ?_ | with_reducible refine Bn ?_ | with_reducible refine Bt B1.out ?_))⟩
  · go_enter Try.func51, Try.ntmps51
    go_wp2_with fail
    (with_reducible refine (HF.out _).mono ?_); rintro e w1 ⟨rfl, b1⟩; have s1 : w.heap.size + 1 + 1 + 1 ≤ w1.heap.size := sz b1; have B1 := Lib.hid (Bc (B := w.heap.size) (a := w) (by (repeat (first | with_reducible exact Below.refl _ _ | with_reducible refine Bs ?_ | with_reducible refine Ba ?_ | with_reducible refine Bd ?_ | with_reducible refine Bn ?_))) b1); obtain ⟨c1_0, f1_0, c1_1, f1_1, c1_2, f1_2⟩ := k3f (w.heap.size + 1) (.slice none 0 0) (.int .i64 0) (.int .i64 0) b1 (by and_intros <;> go_simp); obtain ⟨c1_3, f1_3, c1_4, f1_4, c1_5, f1_5, c1_6, f1_6, c1_7, f1_7⟩ := k5f (w.heap.size + 1 + 1) (.int .i64 0) (.slice none 0 0) (.int .i64 0) (.int .i64 0) (.bool false) b1 (by and_intros <;> go_simp); obtain ⟨l1_0, n1_0, m1_0⟩ := lnm (show w.heap.size + 1 < w1.heap.size by omega); obtain ⟨l1_1, n1_1, m1_1⟩ := lnm (show w.heap.size + 1 + 1 < w1.heap.size by omega); clear b1
    go_wp2_with fail
    exact bodyPost_ret (v := .tuple #[.agg #[.slice ad ln c, .int .i64 a, .int .i64 E], .agg #[.int .i64 0, .slice none 0 0, .int .i64 0, .int .i64 0, .bool false]]) (by simp [results, Try.results51, go_sem, *]) rfl ⟨_, rfl, ints_nil _ _ _ _ (by omega), by (repeat (first | with_reducible exact Below.refl _ _ | with_reducible refine Bs ?_ | with_reducible refine Ba ?_ | with_reducible refine Bd ?_ | with_reducible refine Bn ?_ | with_reducible refine Bt B1.out ?_))⟩

set_option maxRecDepth 100000 in
set_option maxHeartbeats 16000000 in
theorem rgetSeen_ok (vr : Value) (l : List Int) (a : Nat) (e0 : Int) (w : World) (h : Ints .u8 w vr l) (hb : AllB l) (ha : a ≤ l.length) (hl : l.length ≤ 100000) (D : Nat) (hD : 1 ≤ D ∧ D ≤ 8) (dim : Int) (hdim : dim = (D : Int)) :
    Calls Try.prog 51 #[.agg #[vr, .int .i64 a, .int .i64 e0], .int .i64 dim] w fun e w' => RefN w vr (getSeen l D a e0) e w' := by
  have I0 := Lib.hid h
  obtain ⟨ad, c, rfl⟩ := h.shape
  obtain ⟨r1, h1⟩ : ∃ r, rdN' l a e0 1099511627776 = r := ⟨_, rfl⟩
  obtain ⟨q1, a1, e1⟩ := r1
  have H1 := Lib.hid (fun v W hW => rdN_ref hb ha hl 1099511627776 (by decide) _ _ _ h1 v W hW)
  have l1 := rdN'_le hb ha e0 1099511627776
  rw [h1] at l1
  have HI := Lib.hid (fun (k a' : Nat) (xs : List Int) (e' x : Int) (a2 : Nat) (e2 : Int) (hk : rdXs l k a1 e1 = (xs, a', e')) (hx : rdI' l a' e' = (x, a2, e2)) v W hW => rdI_ref hb (by have := rdXs_le hb l1 e1 k; rw [hk] at this; exact this) hl x a2 e2 hx v W hW)
  obtain ⟨r2, h2⟩ : ∃ r, rdXs l D a1 e1 = r := ⟨_, rfl⟩
  obtain ⟨xs, a2, e2⟩ := r2
  have l2 := rdXs_le hb l1 e1 D
  rw [h2] at l2
  obtain ⟨r3, h3⟩ : ∃ r, rdN' l a2 e2 1 = r := ⟨_, rfl⟩
  obtain ⟨q3, a3, e3⟩ := r3
  have H3 := Lib.hid (fun v W hW => rdN_ref hb l2 hl 1 (by decide) _ _ _ h3 v W hW)
  have l3 := rdN'_le hb l2 e2 1
  rw [h3] at l3
  have x3 := rdN'_one hb a2 e2
  rw [h3] at x3
  obtain ⟨r4, h4⟩ : ∃ r, gSc l q3 a3 e3 = r := ⟨_, rfl⟩
  obtain ⟨⟨P, Q, s⟩, a4, e4⟩ := r4
  obtain ⟨E, hE⟩ : ∃ E, E = finE e4 (seenTB ((q1 : Int), xs, P, Q, s) D) := ⟨_, rfl⟩
  have hg := getSeen_of (n := D) hD (gSn_of h1 h2 h3 h4) hE
  rw [hg]
  obtain ⟨T, hT⟩ : ∃ T, (if E = 0 then ((q1 : Int), xs, P, Q, s) else seenT0) = T := ⟨_, rfl⟩
  rw [hT]
  have HT := Lib.hid hT
  obtain ⟨B, hB⟩ : ∃ B, seenB (q1 : Int) xs P Q s dim = B := ⟨_, rfl⟩
  have HE := Lib.hid (show finE e4 B = E by rw [← hB, hdim]; exact hE.symm)
  have HRS := Lib.hid (fun vx W hW => rrightSeen_any (q1 : Int) P Q dim s vx xs W hW)
  rw [hB] at HRS
  clear hg hT hE hB
  have H4 := Lib.hid (fun (e : q3 = 1) v W hW => rgetScore_call hb l3 hl P Q s a4 e4 (by rw [← e]; exact h4) v W hW)
  have HS := Lib.hid (fun (e : q3 = 1) => gSc_true (l := l) (a := a3) (e0 := e3) (P := P) (Q := Q) (s := s) (a' := a4) (e' := e4) (by rw [← e]; exact h4))
  have H4' := Lib.hid (fun (e : q3 ≠ 1) => show ((P, Q, s), a4, e4) = ((0, 0, false), a3, e3) from h4.symm.trans (if_neg e))
  have H2 := Lib.hid h2
  have HXL := Lib.hid (show xs.length = D by have := rdXs_len l a1 e1 D; rw [h2] at this; exact this)
  have d1 : (1 : Int) ≤ dim := by omega
  have d2 : dim ≤ 8 := by omega
  obtain ⟨hD1, hD2⟩ := hD
  have HDIM := Lib.hid hdim
  clear h hb ha hl h1 h2 h3 h4 l1 l2 l3 hdim
  obtain ⟨ln, hln⟩ : ∃ ln, l.length = ln := ⟨_, rfl⟩
  rw [hln] at I0 ⊢
  clear hln
  go_enter Try.func51, Try.ntmps51
  go_wp2_with fail
  (with_reducible refine (H1.out _ _ (I0.out.below (by (repeat (first | with_reducible exact Below.refl _ _ | with_reducible refine Bs ?_ | with_reducible refine Ba ?_ | with_reducible refine Bd ?_ | with_reducible refine Bn ?_))))).mono ?_); rintro e w1 ⟨rfl, b1⟩; have s1 : w.heap.size + 1 + 1 + 1 ≤ w1.heap.size := sz b1; have B1 := Lib.hid (Bc (B := w.heap.size) (a := w) (by (repeat (first | with_reducible exact Below.refl _ _ | with_reducible refine Bs ?_ | with_reducible refine Ba ?_ | with_reducible refine Bd ?_ | with_reducible refine Bn ?_))) b1); obtain ⟨c1_0, f1_0, c1_1, f1_1, c1_2, f1_2⟩ := k3f (w.heap.size + 1) (.slice none 0 0) (.int .i64 0) (.int .i64 0) b1 (by and_intros <;> go_simp); obtain ⟨c1_3, f1_3, c1_4, f1_4, c1_5, f1_5, c1_6, f1_6, c1_7, f1_7⟩ := k5f (w.heap.size + 1 + 1) (.int .i64 0) (.slice none 0 0) (.int .i64 0) (.int .i64 0) (.bool false) b1 (by and_intros <;> go_simp); obtain ⟨l1_0, n1_0, m1_0⟩ := lnm (show w.heap.size + 1 < w1.heap.size by omega); obtain ⟨l1_1, n1_1, m1_1⟩ := lnm (show w.heap.size + 1 + 1 < w1.heap.size by omega); clear b1
  obtain ⟨z1, z2, z3⟩ := lnm (show w.heap.size < w1.heap.size by omega)
  go_wp2_with fail

  go_loopw [9, 10, 11] (fun i _ _ wr => ∃ (k : Nat) (acc : List Int) (a' : Nat) (e' : Int) (vx : Value), i = .int .i64 k ∧ k ≤ D ∧ rdXs l k a1 e1 = (acc, a', e') ∧ acc.length = k ∧ wr.ownsRow (w1.heap.size + 1 + 1) 3 1 vx acc.length (acc.map (Value.int .i64)) ∧ w1.heap.size + 1 + 1 ≤ wr.heap.size ∧ Below w1.heap.size w1 wr ∧ (wr.cell? ⟨w1.heap.size, 0, none⟩ = some (.slice ad ln c) ∧ wr.frozen? ⟨w1.heap.size, 0, none⟩ = false ∧ wr.cell? ⟨w1.heap.size, 1, none⟩ = some (.int .i64 a') ∧ wr.frozen? ⟨w1.heap.size, 1, none⟩ = false ∧ wr.cell? ⟨w1.heap.size, 2, none⟩ = some (.int .i64 e') ∧ wr.frozen? ⟨w1.heap.size, 2, none⟩ = false) ∧ (wr.cell? ⟨w1.heap.size + 1, 0, none⟩ = some (.int .i64 q1) ∧ wr.frozen? ⟨w1.heap.size + 1, 0, none⟩ = false ∧ wr.cell? ⟨w1.heap.size + 1, 1, none⟩ = some (vx) ∧ wr.frozen? ⟨w1.heap.size + 1, 1, none⟩ = false ∧ wr.cell? ⟨w1.heap.size + 1, 2, none⟩ = some (.int .i64 0) ∧ wr.frozen? ⟨w1.heap.size + 1, 2, none⟩ = false ∧ wr.cell? ⟨w1.heap.size + 1, 3, none⟩ = some (.int .i64 0) ∧ wr.frozen? ⟨w1.heap.size + 1, 3, none⟩ = false ∧ wr.cell? ⟨w1.heap.size + 1, 4, none⟩ = some (.bool false) ∧ wr.frozen? ⟨w1.heap.size + 1, 4, none⟩ = false)) (fun i _ _ _ => D - (intOf i).toNat)
  case atStart => exact ⟨0, [], a1, e1, .slice none 0 0, rfl, by omega, rfl, rfl, World.ownsRow_nil _ _ _ _, by simp, by (repeat (first | with_reducible exact Below.refl _ _ | with_reducible refine Bs ?_ | with_reducible refine Ba ?_ | with_reducible refine Bd ?_ | with_reducible refine Bn ?_)), by and_intros <;> go_simp⟩
  case round =>
    obtain ⟨k, acc, a', e', vx, rfl, hk, hxs, hal, ho, hsz, hbr, ⟨r0_0, rf0_0, r0_1, rf0_1, r0_2, rf0_2⟩, ⟨r1_0, rf1_0, r1_1, rf1_1, r1_2, rf1_2, r1_3, rf1_3, r1_4, rf1_4⟩⟩ := hrel
    have HXS := Lib.hid hxs
    have HAL := Lib.hid hal
    have HO := Lib.hid ho
    have BS := Lib.hid hbr
    have BR := Lib.hid (show Below w.heap.size w wr from by (repeat (first | with_reducible exact Below.refl _ _ | with_reducible refine Bs ?_ | with_reducible refine Ba ?_ | with_reducible refine Bd ?_ | with_reducible refine Bn ?_ | with_reducible refine Bt B1.out ?_ | with_reducible refine Bt BS.out ?_)))
    have yR := hbr.size
    clear hxs hal ho hbr
    by_cases hlt : k < D
    · obtain ⟨r, hr⟩ : ∃ r, rdI' l a' e' = r := ⟨_, rfl⟩
      obtain ⟨x, a2', e2'⟩ := r
      have HN := Lib.hid (rdXs_next HXS.out hr)
      have HC := Lib.hid (HI.out k a' acc e' x a2' e2' HXS.out hr)
      have i2 : (k : Int) < dim := by have := HDIM.out; omega
      have hk8 : (k : Int) ≤ 8 := by omega
      clear hr
      go_wp2_with fail
      (with_reducible refine (HC.out _ _ (I0.out.below (show Below w.heap.size w _ from by (repeat (first | with_reducible exact Below.refl _ _ | with_reducible refine Bs ?_ | with_reducible refine Ba ?_ | with_reducible refine Bd ?_ | with_reducible refine Bn ?_ | with_reducible refine Bt BR.out ?_))))).mono ?_); rintro e w2 ⟨rfl, b2⟩; have s2 : wr.heap.size ≤ w2.heap.size := sz b2; have B2 := Lib.hid (Bc (B := w.heap.size) (a := w) (by (repeat (first | with_reducible exact Below.refl _ _ | with_reducible refine Bs ?_ | with_reducible refine Ba ?_ | with_reducible refine Bd ?_ | with_reducible refine Bn ?_ | with_reducible refine Bt BR.out ?_))) b2); obtain ⟨c2_0, f2_0, c2_1, f2_1, c2_2, f2_2⟩ := k3f (w1.heap.size) (.slice ad ln c) (.int .i64 a') (.int .i64 e') b2 (by and_intros <;> go_simp); obtain ⟨c2_3, f2_3, c2_4, f2_4, c2_5, f2_5, c2_6, f2_6, c2_7, f2_7⟩ := k5f (w1.heap.size + 1) (.int .i64 q1) (vx) (.int .i64 0) (.int .i64 0) (.bool false) b2 (by and_intros <;> go_simp); obtain ⟨l2_0, n2_0, m2_0⟩ := lnm (show w1.heap.size < w2.heap.size by omega); obtain ⟨l2_1, n2_1, m2_1⟩ := lnm (show w1.heap.size + 1 < w2.heap.size by omega); have HO := Lib.hid (own_keep (by (repeat (first | with_reducible exact HO.out | with_reducible refine own_set ?_ (by first | omega | (simp; done) | (simp; omega)) | with_reducible refine own_drew ?_ | with_reducible refine World.ownsRow.alloc ?_ _ | exact HO.out))) (fun g _ hg => b2.block g hg)); have BS2 := Lib.hid (show Below w1.heap.size w1 w2 from Bc (by (repeat (first | with_reducible exact Below.refl _ _ | with_reducible refine Bs ?_ | with_reducible refine Ba ?_ | with_reducible refine Bd ?_ | with_reducible refine Bn ?_ | with_reducible refine Bt BS.out ?_))) b2); clear b2
      obtain ⟨z4, z5, z6⟩ := lnm (show w.heap.size < w2.heap.size by omega)
      go_wp2_with (at_builtin; go_must (refine appInts (n := acc.length) (xs := acc.map (Value.int .i64)) (v := vx) (l := [x]) rfl _ _ 61 rfl Try.underlying61 eiInt (w1.heap.size + 1 + 1) (by rfl) (by (repeat (first | with_reducible exact HO.out | with_reducible refine own_set ?_ (by first | omega | (simp; done) | (simp; omega)) | with_reducible refine own_drew ?_ | with_reducible refine World.ownsRow.alloc ?_ _ | exact HO.out))) (by rfl) (newI1 x _ _ _ (by simp)) (by have := HAL.out; simp; omega) (by simp; omega) ?_))
      intro v3 w3 ho3 hb3 _
      have y3 := hb3.size
      have ho3b := OwnI.app (by simpa using ho3)
      have sh3 := (Ints.own ho3b (by have := HAL.out; simp; omega)).2.shape
      have hl3 : (acc ++ [x]).length = k + 1 := by have := HAL.out; simp; omega
      rw [hl3] at sh3
      obtain ⟨xa3, xc3, rfl⟩ := sh3
      have HO3 := Lib.hid ho3b
      have BS3 := Lib.hid (show Below w1.heap.size w1 w3 from Bc (by (repeat (first | with_reducible exact Below.refl _ _ | with_reducible refine Bs ?_ | with_reducible refine Ba ?_ | with_reducible refine Bd ?_ | with_reducible refine Bn ?_ | with_reducible refine Bt BS2.out ?_))) hb3 (by omega))
      (obtain ⟨c3_0, f3_0, c3_1, f3_1, c3_2, f3_2⟩ := k3f (w1.heap.size) (.slice ad ln c) (.int .i64 a2') (.int .i64 e2') hb3 (by and_intros <;> go_simp)); (obtain ⟨c3_3, f3_3, c3_4, f3_4, c3_5, f3_5, c3_6, f3_6, c3_7, f3_7⟩ := k5f (w1.heap.size + 1) (.int .i64 q1) (vx) (.int .i64 0) (.int .i64 0) (.bool false) hb3 (by and_intros <;> go_simp)); (obtain ⟨l3_0, n3_0, m3_0⟩ := lnm (show w1.heap.size < w3.heap.size by first | omega | (simp at y3; omega))); (obtain ⟨l3_1, n3_1, m3_1⟩ := lnm (show w1.heap.size + 1 < w3.heap.size by first | omega | (simp at y3; omega)))
      clear ho3 hb3 ho3b hl3
      go_wp2_with fail
      go_roundw
      case rel =>
        refine ⟨k + 1, acc ++ [x], a2', e2', .slice xa3 (k + 1) xc3, by go_num, by omega, HN.out, by have := HAL.out; simp; omega, ?_, by simp; omega, by (repeat (first | with_reducible exact Below.refl _ _ | with_reducible refine Bs ?_ | with_reducible refine Ba ?_ | with_reducible refine Bd ?_ | with_reducible refine Bn ?_ | with_reducible refine Bt BS3.out ?_)), ?_⟩
        · (repeat (first | with_reducible exact HO3.out | with_reducible refine own_set ?_ (by first | omega | (simp; done) | (simp; omega)) | with_reducible refine own_drew ?_ | with_reducible refine World.ownsRow.alloc ?_ _ | exact HO3.out))
        · and_intros <;> go_simp
      case measure => simp [intOf] <;> omega
    · obtain rfl : k = D := by omega
      have hxs := H2.out.symm.trans HXS.out
      injection hxs with hx1 hx2
      injection hx2 with hx3 hx4
      subst hx1 hx3 hx4
      have hsh := (Ints.own HO.out (by have := HXL.out; omega)).2.shape
      rw [HXL.out] at hsh
      obtain ⟨xa, xc, rfl⟩ := hsh
      have i2 : ¬ (k : Int) < dim := by have := HDIM.out; omega
      have FX := Lib.hid (Betw.own HO.out)
      clear HXS
      go_wp2_with fail
      (with_reducible refine (H3.out _ _ (I0.out.below (show Below w.heap.size w _ from by (repeat (first | with_reducible exact Below.refl _ _ | with_reducible refine Bs ?_ | with_reducible refine Ba ?_ | with_reducible refine Bd ?_ | with_reducible refine Bn ?_ | with_reducible refine Bt BR.out ?_))))).mono ?_); rintro e w5 ⟨rfl, b5⟩; have s5 : wr.heap.size ≤ w5.heap.size := sz b5; have B5 := Lib.hid (Bc (B := w.heap.size) (a := w) (by (repeat (first | with_reducible exact Below.refl _ _ | with_reducible refine Bs ?_ | with_reducible refine Ba ?_ | with_reducible refine Bd ?_ | with_reducible refine Bn ?_ | with_reducible refine Bt BR.out ?_))) b5); obtain ⟨c5_0, f5_0, c5_1, f5_1, c5_2, f5_2⟩ := k3f (w1.heap.size) (.slice ad ln c) (.int .i64 a2) (.int .i64 e2) b5 (by and_intros <;> go_simp); obtain ⟨c5_3, f5_3, c5_4, f5_4, c5_5, f5_5, c5_6, f5_6, c5_7, f5_7⟩ := k5f (w1.heap.size + 1) (.int .i64 q1) (.slice xa k xc) (.int .i64 0) (.int .i64 0) (.bool false) b5 (by and_intros <;> go_simp); obtain ⟨l5_0, n5_0, m5_0⟩ := lnm (show w1.heap.size < w5.heap.size by omega); obtain ⟨l5_1, n5_1, m5_1⟩ := lnm (show w1.heap.size + 1 < w5.heap.size by omega); have HO := Lib.hid (own_keep (by (repeat (first | with_reducible exact HO.out | with_reducible refine own_set ?_ (by first | omega | (simp; done) | (simp; omega)) | with_reducible refine own_drew ?_ | with_reducible refine World.ownsRow.alloc ?_ _ | exact HO.out))) (fun g _ hg => b5.block g hg)); have BS5 := Lib.hid (show Below w1.heap.size w1 w5 from Bc (by (repeat (first | with_reducible exact Below.refl _ _ | with_reducible refine Bs ?_ | with_reducible refine Ba ?_ | with_reducible refine Bd ?_ | with_reducible refine Bn ?_ | with_reducible refine Bt BS.out ?_))) b5); clear b5
      have IX := Lib.hid (Ints.own HO.out (by have := HXL.out; omega)).2
      obtain ⟨z4, z5, z6⟩ := lnm (show w.heap.size < w5.heap.size by omega)
      by_cases hq : q3 = 1
      · subst hq
        obtain rfl := HS.out rfl
        have H5 := Lib.hid (fun v W hW => H4.out rfl v W hW)
        clear H4 H4' HS
        go_wp2_with fail
        (with_reducible refine (H5.out _ _ (I0.out.below (show Below w.heap.size w _ from by (repeat (first | with_reducible exact Below.refl _ _ | with_reducible refine Bs ?_ | with_reducible refine Ba ?_ | with_reducible refine Bd ?_ | with_reducible refine Bn ?_ | with_reducible refine Bt B5.out ?_))))).mono ?_); rintro e w6 ⟨rfl, b6⟩; have s6 : w5.heap.size + 1 ≤ w6.heap.size := sz b6; have B6 := Lib.hid (Bc (B := w.heap.size) (a := w) (by (repeat (first | with_reducible exact Below.refl _ _ | with_reducible refine Bs ?_ | with_reducible refine Ba ?_ | with_reducible refine Bd ?_ | with_reducible refine Bn ?_ | with_reducible refine Bt B5.out ?_))) b6); obtain ⟨c6_0, f6_0, c6_1, f6_1, c6_2, f6_2, c6_3, f6_3, c6_4, f6_4⟩ := k5f (w1.heap.size + 1) (.int .i64 q1) (.slice xa k xc) (.int .i64 0) (.int .i64 0) (.bool false) b6 (by and_intros <;> go_simp); obtain ⟨c6_5, f6_5, c6_6, f6_6, c6_7, f6_7⟩ := k3f (w5.heap.size) (.slice ad ln c) (.int .i64 a3) (.int .i64 e3) b6 (by and_intros <;> go_simp); obtain ⟨l6_0, n6_0, m6_0⟩ := lnm (show w1.heap.size + 1 < w6.heap.size by omega); obtain ⟨l6_1, n6_1, m6_1⟩ := lnm (show w5.heap.size < w6.heap.size by omega); have IX := Lib.hid (Ints.again IX.out (by (repeat (first | with_reducible exact IX.out | with_reducible refine Ints.setB FX.out ?_ | with_reducible refine Ints.alloc ?_ _ | with_reducible refine Ints.drewN ?_ _ | with_reducible refine Ints.drew ?_))) b6); have BS6 := Lib.hid (show Below w1.heap.size w1 w6 from Bc (by (repeat (first | with_reducible exact Below.refl _ _ | with_reducible refine Bs ?_ | with_reducible refine Ba ?_ | with_reducible refine Bd ?_ | with_reducible refine Bn ?_ | with_reducible refine Bt BS5.out ?_))) b6); clear b6
        obtain ⟨z7, z8, z9⟩ := lnm (show w5.heap.size < w6.heap.size + 1 by omega)
        obtain ⟨z10, z11, z12⟩ := lnm (show w1.heap.size < w6.heap.size by omega)
        go_upto_region 17 with fail
        have hf := fun W => rform_any ad ln c (a4 : Int) e4 B W
        rw [HE.out] at hf
        have HF := Lib.hid hf
        clear hf
        refine wp_region_B (T := fun w' => w'.cell? ⟨w5.heap.size, 0, none⟩ = some (.slice ad ln c) ∧ w'.cell? ⟨w5.heap.size, 1, none⟩ = some (.int .i64 a4) ∧ w'.cell? ⟨w5.heap.size, 2, none⟩ = some (.int .i64 e4) ∧ w'.cell? ⟨w1.heap.size + 1, 0, none⟩ = some (.int .i64 q1) ∧ w'.cell? ⟨w1.heap.size + 1, 1, none⟩ = some (.slice xa k xc) ∧ w'.cell? ⟨w1.heap.size + 1, 2, none⟩ = some (.int .i64 P) ∧ w'.cell? ⟨w1.heap.size + 1, 3, none⟩ = some (.int .i64 Q) ∧ w'.cell? ⟨w1.heap.size + 1, 4, none⟩ = some (.bool true)) 5 (by kernel_rfl) ?_ (fun hHeld => ?_); (focus ((try dsimp only); first | with_reducible exact True.intro | (and_intros <;> first | (go_simp; done) | (go_keep; done)))); (refine lexTkB 0 #[false, true, true, true, false, false] (v := ?_) rfl hHeld ?_ (by kernel_rfl) (fun _ _ _ h => h) ?_ ?_; rotate_left 2; (focus rfl); (focus (intro w hSw; (try dsimp only at hSw); first | (go_simp; done) | (go_simp; with_reducible rfl)))); (try simp only [Act.put, List.setIfInBounds_toArray, List.set_cons_zero, List.set_cons_succ]); (refine lexTkB 1 #[true, false, true, false, false, false] (v := ?_) rfl hHeld ?_ (by kernel_rfl) (fun _ _ _ h => h) ?_ ?_; rotate_left 2; (focus rfl); (focus (intro w hSw; (try dsimp only at hSw); first | (go_simp; done) | (go_simp; with_reducible rfl)))); (try simp only [Act.put, List.setIfInBounds_toArray, List.set_cons_zero, List.set_cons_succ]); (refine lexTkB 2 #[true, true, false, false, false, false] (v := ?_) rfl hHeld ?_ (by kernel_rfl) (fun _ _ _ h => h) ?_ ?_; rotate_left 2; (focus rfl); (focus (intro w hSw; (try dsimp only at hSw); first | (go_simp; done) | (go_simp; with_reducible rfl)))); (try simp only [Act.put, List.setIfInBounds_toArray, List.set_cons_zero, List.set_cons_succ]); refine lexHvB 3 rfl ?_ (by kernel_rfl); (intro K hK); (go_simp; go_at_call 49; (with_reducible refine (HRS.out _ _ (by (repeat (first | with_reducible exact IX.out | with_reducible refine Ints.setB FX.out ?_ | with_reducible refine Ints.alloc ?_ _ | with_reducible refine Ints.drewN ?_ _ | with_reducible refine Ints.drew ?_)))).mono ?_); rintro e w7 ⟨rfl, b7⟩; have s7 : w6.heap.size + 1 + 1 ≤ w7.heap.size := sz b7; have B7 := Lib.hid (Bc (B := w.heap.size) (a := w) (by (repeat (first | with_reducible exact Below.refl _ _ | with_reducible refine Bs ?_ | with_reducible refine Ba ?_ | with_reducible refine Bd ?_ | with_reducible refine Bn ?_ | with_reducible refine Bt B6.out ?_))) b7); obtain ⟨c7_0, f7_0, c7_1, f7_1, c7_2, f7_2⟩ := k3f (w5.heap.size) (.slice ad ln c) (.int .i64 a4) (.int .i64 e4) b7 (by and_intros <;> go_simp); obtain ⟨c7_3, f7_3, c7_4, f7_4, c7_5, f7_5, c7_6, f7_6, c7_7, f7_7⟩ := k5f (w1.heap.size + 1) (.int .i64 q1) (.slice xa k xc) (.int .i64 P) (.int .i64 Q) (.bool true) b7 (by and_intros <;> go_simp); obtain ⟨l7_0, n7_0, m7_0⟩ := lnm (show w5.heap.size < w7.heap.size by omega); obtain ⟨l7_1, n7_1, m7_1⟩ := lnm (show w1.heap.size + 1 < w7.heap.size by omega); have IX := Lib.hid (Ints.again IX.out (by (repeat (first | with_reducible exact IX.out | with_reducible refine Ints.setB FX.out ?_ | with_reducible refine Ints.alloc ?_ _ | with_reducible refine Ints.drewN ?_ _ | with_reducible refine Ints.drew ?_))) b7); have BS7 := Lib.hid (show Below w1.heap.size w1 w7 from Bc (by (repeat (first | with_reducible exact Below.refl _ _ | with_reducible refine Bs ?_ | with_reducible refine Ba ?_ | with_reducible refine Bd ?_ | with_reducible refine Bn ?_ | with_reducible refine Bt BS6.out ?_))) b7); clear b7; (try go_wp2_with fail)); refine hK.out _ _ ?_ ?_; (focus ((try dsimp only); first | with_reducible exact True.intro | (and_intros <;> first | (go_simp; done) | (go_keep; done)))); (clear hHeld hK K); (intro hHeld); (try simp only [Act.put, List.setIfInBounds_toArray, List.set_cons_zero, List.set_cons_succ]); refine lexHvB 4 rfl ?_ (by kernel_rfl); (intro K hK); (go_simp; go_at_call 99; (with_reducible refine (HF.out _).mono ?_); rintro e w8 ⟨rfl, b8⟩; have s8 : w7.heap.size ≤ w8.heap.size := sz b8; have B8 := Lib.hid (Bc (B := w.heap.size) (a := w) (by (repeat (first | with_reducible exact Below.refl _ _ | with_reducible refine Bs ?_ | with_reducible refine Ba ?_ | with_reducible refine Bd ?_ | with_reducible refine Bn ?_ | with_reducible refine Bt B7.out ?_))) b8); obtain ⟨c8_0, f8_0, c8_1, f8_1, c8_2, f8_2⟩ := k3f (w5.heap.size) (.slice ad ln c) (.int .i64 a4) (.int .i64 e4) b8 (by and_intros <;> go_simp); obtain ⟨c8_3, f8_3, c8_4, f8_4, c8_5, f8_5, c8_6, f8_6, c8_7, f8_7⟩ := k5f (w1.heap.size + 1) (.int .i64 q1) (.slice xa k xc) (.int .i64 P) (.int .i64 Q) (.bool true) b8 (by and_intros <;> go_simp); obtain ⟨l8_0, n8_0, m8_0⟩ := lnm (show w5.heap.size < w8.heap.size by omega); obtain ⟨l8_1, n8_1, m8_1⟩ := lnm (show w1.heap.size + 1 < w8.heap.size by omega); have IX := Lib.hid (Ints.again IX.out (by (repeat (first | with_reducible exact IX.out | with_reducible refine Ints.setB FX.out ?_ | with_reducible refine Ints.alloc ?_ _ | with_reducible refine Ints.drewN ?_ _ | with_reducible refine Ints.drew ?_))) b8); have BS8 := Lib.hid (show Below w1.heap.size w1 w8 from Bc (by (repeat (first | with_reducible exact Below.refl _ _ | with_reducible refine Bs ?_ | with_reducible refine Ba ?_ | with_reducible refine Bd ?_ | with_reducible refine Bn ?_ | with_reducible refine Bt BS7.out ?_))) b8); clear b8; (try go_wp2_with fail)); refine hK.out _ _ ?_ ?_; (focus ((try dsimp only); first | with_reducible exact True.intro | (and_intros <;> first | (go_simp; done) | (go_keep; done)))); (clear hHeld hK K); (intro hHeld); (try simp only [Act.put, List.setIfInBounds_toArray, List.set_cons_zero, List.set_cons_succ]); refine lexHvE 5 rfl ?_ (by kernel_rfl) (by kernel_rfl); (intro K hK); (go_simp); refine hK.out _ _ ?_; (clear hK K); (try clear hHeld); (try simp only [Act.put]); refine wpAnyB_done (by kernel_rfl) ?_ _
        obtain ⟨d4_0, g4_0, d4_1, g4_1, d4_2, g4_2⟩ := k3f (w.heap.size + 1) (.slice none 0 0) (.int .i64 0) (.int .i64 0) BS8.out ⟨c1_0, f1_0, c1_1, f1_1, c1_2, f1_2⟩ (by omega)
        obtain ⟨d5_0, g5_0, d5_1, g5_1, d5_2, g5_2, d5_3, g5_3, d5_4, g5_4⟩ := k5f (w.heap.size + 1 + 1) (.int .i64 0) (.slice none 0 0) (.int .i64 0) (.int .i64 0) (.bool false) BS8.out ⟨c1_3, f1_3, c1_4, f1_4, c1_5, f1_5, c1_6, f1_6, c1_7, f1_7⟩ (by omega)
        by_cases hE : E = 0
        · obtain rfl : (((q1 : Int), xs, P, Q, true) : SeenT) = T := (if_pos hE).symm.trans HT.out
          subst hE
          go_wp2_with fail
          go_region
          all_goals
            go_wp2_with fail
            exact bodyPost_ret (v := .tuple #[.agg #[.slice ad ln c, .int .i64 a4, .int .i64 0], .agg #[.int .i64 q1, .slice xa k xc, .int .i64 P, .int .i64 Q, .bool true]]) (by simp [results, Try.results51, go_sem, *]) rfl ⟨_, rfl, by (repeat (first | with_reducible exact IX.out | with_reducible refine Ints.setB FX.out ?_ | with_reducible refine Ints.alloc ?_ _ | with_reducible refine Ints.drewN ?_ _ | with_reducible refine Ints.drew ?_)), by (repeat (first | with_reducible exact Below.refl _ _ | with_reducible refine Bs ?_ | with_reducible refine Ba ?_ | with_reducible refine Bd ?_ | with_reducible refine Bn ?_ | with_reducible refine Bt B8.out ?_))⟩
        · have hE2 : (E != 0) = true := by simpa using hE
          go_wp2_with fail
          exact bodyPost_ret (v := .tuple #[.agg #[.slice ad ln c, .int .i64 a4, .int .i64 E], .agg #[.int .i64 0, .slice none 0 0, .int .i64 0, .int .i64 0, .bool false]]) (by simp [results, Try.results51, go_sem, *]) rfl (by rw [← HT.out, if_neg hE]; exact ⟨_, rfl, ints_nil _ _ _ _ (by omega), by (repeat (first | with_reducible exact Below.refl _ _ | with_reducible refine Bs ?_ | with_reducible refine Ba ?_ | with_reducible refine Bd ?_ | with_reducible refine Bn ?_ | with_reducible refine Bt B8.out ?_))⟩)
      · have hx := H4'.out hq
        injection hx with hx1 hx2
        injection hx1 with hx3 hx4
        injection hx4 with hx5 hx6
        injection hx2 with hx7 hx8
        subst hx3 hx5 hx6 hx7 hx8
        obtain rfl : q3 = 0 := by omega
        clear H4 H4' HS hq
        go_upto_region 17 with fail
        have hf := fun W => rform_any ad ln c (a4 : Int) e4 B W
        rw [HE.out] at hf
        have HF := Lib.hid hf
        clear hf
        refine wp_region_B (T := fun w' => w'.cell? ⟨w5.heap.size, 0, none⟩ = some (.slice ad ln c) ∧ w'.cell? ⟨w5.heap.size, 1, none⟩ = some (.int .i64 a4) ∧ w'.cell? ⟨w5.heap.size, 2, none⟩ = some (.int .i64 e4) ∧ w'.cell? ⟨w1.heap.size + 1, 0, none⟩ = some (.int .i64 q1) ∧ w'.cell? ⟨w1.heap.size + 1, 1, none⟩ = some (.slice xa k xc) ∧ w'.cell? ⟨w1.heap.size + 1, 2, none⟩ = some (.int .i64 0) ∧ w'.cell? ⟨w1.heap.size + 1, 3, none⟩ = some (.int .i64 0) ∧ w'.cell? ⟨w1.heap.size + 1, 4, none⟩ = some (.bool false)) 5 (by kernel_rfl) ?_ (fun hHeld => ?_); (focus ((try dsimp only); first | with_reducible exact True.intro | (and_intros <;> first | (go_simp; done) | (go_keep; done)))); (refine lexTkB 0 #[false, true, true, true, false, false] (v := ?_) rfl hHeld ?_ (by kernel_rfl) (fun _ _ _ h => h) ?_ ?_; rotate_left 2; (focus rfl); (focus (intro w hSw; (try dsimp only at hSw); first | (go_simp; done) | (go_simp; with_reducible rfl)))); (try simp only [Act.put, List.setIfInBounds_toArray, List.set_cons_zero, List.set_cons_succ]); (refine lexTkB 1 #[true, false, true, false, false, false] (v := ?_) rfl hHeld ?_ (by kernel_rfl) (fun _ _ _ h => h) ?_ ?_; rotate_left 2; (focus rfl); (focus (intro w hSw; (try dsimp only at hSw); first | (go_simp; done) | (go_simp; with_reducible rfl)))); (try simp only [Act.put, List.setIfInBounds_toArray, List.set_cons_zero, List.set_cons_succ]); (refine lexTkB 2 #[true, true, false, false, false, false] (v := ?_) rfl hHeld ?_ (by kernel_rfl) (fun _ _ _ h => h) ?_ ?_; rotate_left 2; (focus rfl); (focus (intro w hSw; (try dsimp only at hSw); first | (go_simp; done) | (go_simp; with_reducible rfl)))); (try simp only [Act.put, List.setIfInBounds_toArray, List.set_cons_zero, List.set_cons_succ]); refine lexHvB 3 rfl ?_ (by kernel_rfl); (intro K hK); (go_simp; go_at_call 49; (with_reducible refine (HRS.out _ _ (by (repeat (first | with_reducible exact IX.out | with_reducible refine Ints.setB FX.out ?_ | with_reducible refine Ints.alloc ?_ _ | with_reducible refine Ints.drewN ?_ _ | with_reducible refine Ints.drew ?_)))).mono ?_); rintro e w7 ⟨rfl, b7⟩; have s7 : w5.heap.size + 1 ≤ w7.heap.size := sz b7; have B7 := Lib.hid (Bc (B := w.heap.size) (a := w) (by (repeat (first | with_reducible exact Below.refl _ _ | with_reducible refine Bs ?_ | with_reducible refine Ba ?_ | with_reducible refine Bd ?_ | with_reducible refine Bn ?_ | with_reducible refine Bt B5.out ?_))) b7); obtain ⟨c7_0, f7_0, c7_1, f7_1, c7_2, f7_2⟩ := k3f (w5.heap.size) (.slice ad ln c) (.int .i64 a4) (.int .i64 e4) b7 (by and_intros <;> go_simp); obtain ⟨c7_3, f7_3, c7_4, f7_4, c7_5, f7_5, c7_6, f7_6, c7_7, f7_7⟩ := k5f (w1.heap.size + 1) (.int .i64 q1) (.slice xa k xc) (.int .i64 0) (.int .i64 0) (.bool false) b7 (by and_intros <;> go_simp); obtain ⟨l7_0, n7_0, m7_0⟩ := lnm (show w5.heap.size < w7.heap.size by omega); obtain ⟨l7_1, n7_1, m7_1⟩ := lnm (show w1.heap.size + 1 < w7.heap.size by omega); have IX := Lib.hid (Ints.again IX.out (by (repeat (first | with_reducible exact IX.out | with_reducible refine Ints.setB FX.out ?_ | with_reducible refine Ints.alloc ?_ _ | with_reducible refine Ints.drewN ?_ _ | with_reducible refine Ints.drew ?_))) b7); have BS7 := Lib.hid (show Below w1.heap.size w1 w7 from Bc (by (repeat (first | with_reducible exact Below.refl _ _ | with_reducible refine Bs ?_ | with_reducible refine Ba ?_ | with_reducible refine Bd ?_ | with_reducible refine Bn ?_ | with_reducible refine Bt BS5.out ?_))) b7); clear b7; (try go_wp2_with fail)); refine hK.out _ _ ?_ ?_; (focus ((try dsimp only); first | with_reducible exact True.intro | (and_intros <;> first | (go_simp; done) | (go_keep; done)))); (clear hHeld hK K); (intro hHeld); (try simp only [Act.put, List.setIfInBounds_toArray, List.set_cons_zero, List.set_cons_succ]); refine lexHvB 4 rfl ?_ (by kernel_rfl); (intro K hK); (go_simp; go_at_call 99; (with_reducible refine (HF.out _).mono ?_); rintro e w8 ⟨rfl, b8⟩; have s8 : w7.heap.size ≤ w8.heap.size := sz b8; have B8 := Lib.hid (Bc (B := w.heap.size) (a := w) (by (repeat (first | with_reducible exact Below.refl _ _ | with_reducible refine Bs ?_ | with_reducible refine Ba ?_ | with_reducible refine Bd ?_ | with_reducible refine Bn ?_ | with_reducible refine Bt B7.out ?_))) b8); obtain ⟨c8_0, f8_0, c8_1, f8_1, c8_2, f8_2⟩ := k3f (w5.heap.size) (.slice ad ln c) (.int .i64 a4) (.int .i64 e4) b8 (by and_intros <;> go_simp); obtain ⟨c8_3, f8_3, c8_4, f8_4, c8_5, f8_5, c8_6, f8_6, c8_7, f8_7⟩ := k5f (w1.heap.size + 1) (.int .i64 q1) (.slice xa k xc) (.int .i64 0) (.int .i64 0) (.bool false) b8 (by and_intros <;> go_simp); obtain ⟨l8_0, n8_0, m8_0⟩ := lnm (show w5.heap.size < w8.heap.size by omega); obtain ⟨l8_1, n8_1, m8_1⟩ := lnm (show w1.heap.size + 1 < w8.heap.size by omega); have IX := Lib.hid (Ints.again IX.out (by (repeat (first | with_reducible exact IX.out | with_reducible refine Ints.setB FX.out ?_ | with_reducible refine Ints.alloc ?_ _ | with_reducible refine Ints.drewN ?_ _ | with_reducible refine Ints.drew ?_))) b8); have BS8 := Lib.hid (show Below w1.heap.size w1 w8 from Bc (by (repeat (first | with_reducible exact Below.refl _ _ | with_reducible refine Bs ?_ | with_reducible refine Ba ?_ | with_reducible refine Bd ?_ | with_reducible refine Bn ?_ | with_reducible refine Bt BS7.out ?_))) b8); clear b8; (try go_wp2_with fail)); refine hK.out _ _ ?_ ?_; (focus ((try dsimp only); first | with_reducible exact True.intro | (and_intros <;> first | (go_simp; done) | (go_keep; done)))); (clear hHeld hK K); (intro hHeld); (try simp only [Act.put, List.setIfInBounds_toArray, List.set_cons_zero, List.set_cons_succ]); refine lexHvE 5 rfl ?_ (by kernel_rfl) (by kernel_rfl); (intro K hK); (go_simp); refine hK.out _ _ ?_; (clear hK K); (try clear hHeld); (try simp only [Act.put]); refine wpAnyB_done (by kernel_rfl) ?_ _
        obtain ⟨d4_0, g4_0, d4_1, g4_1, d4_2, g4_2⟩ := k3f (w.heap.size + 1) (.slice none 0 0) (.int .i64 0) (.int .i64 0) BS8.out ⟨c1_0, f1_0, c1_1, f1_1, c1_2, f1_2⟩ (by omega)
        obtain ⟨d5_0, g5_0, d5_1, g5_1, d5_2, g5_2, d5_3, g5_3, d5_4, g5_4⟩ := k5f (w.heap.size + 1 + 1) (.int .i64 0) (.slice none 0 0) (.int .i64 0) (.int .i64 0) (.bool false) BS8.out ⟨c1_3, f1_3, c1_4, f1_4, c1_5, f1_5, c1_6, f1_6, c1_7, f1_7⟩ (by omega)
        by_cases hE : E = 0
        · obtain rfl : (((q1 : Int), xs, 0, 0, false) : SeenT) = T := (if_pos hE).symm.trans HT.out
          subst hE
          go_wp2_with fail
          go_region
          all_goals
            go_wp2_with fail
            exact bodyPost_ret (v := .tuple #[.agg #[.slice ad ln c, .int .i64 a4, .int .i64 0], .agg #[.int .i64 q1, .slice xa k xc, .int .i64 0, .int .i64 0, .bool false]]) (by simp [results, Try.results51, go_sem, *]) rfl ⟨_, rfl, by (repeat (first | with_reducible exact IX.out | with_reducible refine Ints.setB FX.out ?_ | with_reducible refine Ints.alloc ?_ _ | with_reducible refine Ints.drewN ?_ _ | with_reducible refine Ints.drew ?_)), by (repeat (first | with_reducible exact Below.refl _ _ | with_reducible refine Bs ?_ | with_reducible refine Ba ?_ | with_reducible refine Bd ?_ | with_reducible refine Bn ?_ | with_reducible refine Bt B8.out ?_))⟩
        · have hE2 : (E != 0) = true := by simpa using hE
          go_wp2_with fail
          exact bodyPost_ret (v := .tuple #[.agg #[.slice ad ln c, .int .i64 a4, .int .i64 E], .agg #[.int .i64 0, .slice none 0 0, .int .i64 0, .int .i64 0, .bool false]]) (by simp [results, Try.results51, go_sem, *]) rfl (by rw [← HT.out, if_neg hE]; exact ⟨_, rfl, ints_nil _ _ _ _ (by omega), by (repeat (first | with_reducible exact Below.refl _ _ | with_reducible refine Bs ?_ | with_reducible refine Ba ?_ | with_reducible refine Bd ?_ | with_reducible refine Bn ?_ | with_reducible refine Bt B8.out ?_))⟩)

theorem rgetSeen_any (vr : Value) (l : List Int) (a : Nat) (e0 : Int) (w : World) (h : Ints .u8 w vr l) (hb : AllB l) (ha : a ≤ l.length) (hl : l.length ≤ 100000) (dim : Int) :
    Calls Try.prog 51 #[.agg #[vr, .int .i64 a, .int .i64 e0], .int .i64 dim] w fun e w' => RefN w vr (getSeen l dim a e0) e w' := by
  by_cases hd : 1 ≤ dim ∧ dim ≤ 8
  · obtain ⟨D, rfl⟩ : ∃ D : Nat, dim = (D : Int) := ⟨dim.toNat, by omega⟩
    exact rgetSeen_ok vr l a e0 w h hb ha hl D (by omega) _ rfl
  · exact rgetSeen_bad vr l a e0 w h dim hd
end Go.Proofs.Ytjmjnkilgoelbaa
