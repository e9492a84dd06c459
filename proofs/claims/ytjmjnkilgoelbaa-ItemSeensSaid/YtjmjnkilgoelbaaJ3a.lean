/-
  ItemW: Which seen event any bytes are: plain; walks of item.checked (a seen event) and item.GetSeen.
  ItemJ: Walk of the reference's GetAsk, of whatever kind.
-/
import Derived.Test.YtjmjnkilgoelbaaJ1a
import Derived.Test.YtjmjnkilgoelbaaKItemG
import Derived.Test.YtjmjnkilgoelbaaJ0c
import Derived.Test.YtjmjnkilgoelbaaKItemHa
import Derived.Test.YtjmjnkilgoelbaaKItemHb
import Derived.Test.YtjmjnkilgoelbaaKItemHc
import Derived.Test.YtjmjnkilgoelbaaKItemHd
import Derived.Test.YtjmjnkilgoelbaaKItemHe
import Derived.Test.YtjmjnkilgoelbaaKItemHf
namespace Go.Proofs.Ytjmjnkilgoelbaa
open Go.RowKit

theorem Ints.only_again {k : IntKind} {w0 w w' : World} {R B : Nat} {v : Value} {l : List Int} (_ : Ints k w0 v l) (h : Ints k w v l) (hf : Fresh B v) (hR : R < B) (hg : w.grownBy w' (some R)) : Ints k w' v l := h.only_fresh hf hR hg

theorem rdI'_le {l : List Int} (hb : AllB l) {a : Nat} (ha : a ≤ l.length) (e : Int) : (rdI' l a e).2.1 ≤ l.length := by
  unfold rdI'
  split
  · have hf := rdI_facts l hb a
    by_cases h : (rdI l a).2.2 = 0
    · exact (hf.2 h).2
    · rw [(hf.1 h).2]; exact ha
  · exact ha

theorem rdI'_64 {l : List Int} (hb : AllB l) (a : Nat) (e : Int) : Ok64 (rdI' l a e).1 := by
  unfold rdI'
  split
  · exact rdI_64 l hb a
  · show Ok64 0
    decide

theorem gotI {l : List Int} (hb : AllB l) {a : Nat} {e : Int} (h : (rdI' l a e).2.2 = 0) : e = 0 ∧ Got l a (rdI' l a e).2.1 (putsI (rdI' l a e).1) := by
  by_cases he : e = 0
  · subst he
    refine ⟨rfl, ?_⟩
    rw [rdI', if_pos rfl] at h ⊢
    obtain ⟨g1, g2, g3, g4⟩ := rdU_ok l hb a h
    have e1 : (rdI l a).2.1 = (rdU l a).2.1 := rfl
    refine ⟨by omega, by rw [e1]; exact g2, ?_⟩
    show putsU (zig (unzig (rdU l a).1)) = _
    rw [zig_unzig]
    exact g4
  · rw [rdI', if_neg he] at h
    exact absurd h he

/-- So many numbers are read, one by one. -/
def rdXs (l : List Int) : Nat → Nat → Int → List Int × Nat × Int
  | 0, a, e => ([], a, e)
  | n + 1, a, e => ((rdXs l n a e).1 ++ [(rdI' l (rdXs l n a e).2.1 (rdXs l n a e).2.2).1], (rdI' l (rdXs l n a e).2.1 (rdXs l n a e).2.2).2)

theorem rdXs_next {l : List Int} {n a : Nat} {e : Int} {xs : List Int} {a1 : Nat} {e1 : Int} {x : Int} {a2 : Nat} {e2 : Int} (h : rdXs l n a e = (xs, a1, e1)) (k : rdI' l a1 e1 = (x, a2, e2)) : rdXs l (n + 1) a e = (xs ++ [x], a2, e2) := by
  rw [rdXs, h]
  dsimp only
  rw [k]

theorem rdXs_le {l : List Int} (hb : AllB l) {a : Nat} (ha : a ≤ l.length) (e : Int) : ∀ n, (rdXs l n a e).2.1 ≤ l.length
  | 0 => ha
  | n + 1 => rdI'_le hb (rdXs_le hb ha e n) _

theorem rdXs_len (l : List Int) (a : Nat) (e : Int) : ∀ n, (rdXs l n a e).1.length = n
  | 0 => rfl
  | n + 1 => by rw [rdXs, List.length_append, rdXs_len l a e n]; rfl

theorem putsIs_snoc (xs : List Int) (x : Int) : putsIs (xs ++ [x]) = putsIs xs ++ putsI x := by
  induction xs with
  | nil => simp [putsIs]
  | cons a l ih => simp [putsIs, ih]

theorem rdXs_got {l : List Int} (hb : AllB l) {a : Nat} {e : Int} (ha : a ≤ l.length) : ∀ n, (rdXs l n a e).2.2 = 0 → e = 0 ∧ Got l a (rdXs l n a e).2.1 (putsIs (rdXs l n a e).1)
  | 0, h => ⟨h, Got.refl ha⟩
  | n + 1, h => by
    obtain ⟨g1, g2⟩ := gotI hb (show (rdI' l (rdXs l n a e).2.1 (rdXs l n a e).2.2).2.2 = 0 from h)
    obtain ⟨k1, k2⟩ := rdXs_got hb ha n g1
    refine ⟨k1, ?_⟩
    show Got l a _ (putsIs ((rdXs l n a e).1 ++ [_]))
    rw [putsIs_snoc]
    exact k2.trans g2

abbrev SeenT := Int × List Int × Int × Int × Bool
def seenT0 : SeenT := (0, [], 0, 0, false)
def seenTB (t : SeenT) (dim : Int) : Bool := seenB t.1 t.2.1 t.2.2.1 t.2.2.2.1 t.2.2.2.2 dim
def seenTW (t : SeenT) (dim : Int) : List Int := seenBytes t.1 t.2.1 t.2.2.1 t.2.2.2.1 t.2.2.2.2 dim

/-- The score that a seen event has, if it has one. -/
def gSc (l : List Int) (x : Nat) (a : Nat) (e : Int) : (Int × Int × Bool) × Nat × Int :=
  if x = 1 then (((getSV l a e).1, (getSV l a e).2, true), (gS l a e).2.1, getSE l a e) else ((0, 0, false), a, e)

def gSn (l : List Int) (n : Nat) (a : Nat) (e : Int) : SeenT × Nat × Int :=
  let r1 := rdN' l a e 1099511627776
  let r2 := rdXs l n r1.2.1 r1.2.2
  let r3 := rdN' l r2.2.1 r2.2.2 1
  let r4 := gSc l r3.1 r3.2.1 r3.2.2
  (((r1.1 : Int), r2.1, r4.1), r4.2)

theorem gSn_of {l : List Int} {n a : Nat} {e : Int} {r1 r3 : Nat × Nat × Int} {r2 : List Int × Nat × Int} {r4 : (Int × Int × Bool) × Nat × Int} (h1 : rdN' l a e 1099511627776 = r1) (h2 : rdXs l n r1.2.1 r1.2.2 = r2)
    (h3 : rdN' l r2.2.1 r2.2.2 1 = r3) (h4 : gSc l r3.1 r3.2.1 r3.2.2 = r4) : gSn l n a e = (((r1.1 : Int), r2.1, r4.1), r4.2) := by
  subst h1 h2 h3 h4
  rfl

/-- Which seen event any bytes are, from a place on. -/
def getSeen (l : List Int) (dim : Int) (a : Nat) (e : Int) : SeenT × Nat × Int :=
  if 1 ≤ dim ∧ dim ≤ 8 then
    ((if finE (gSn l dim.toNat a e).2.2 (seenTB (gSn l dim.toNat a e).1 dim) = 0 then (gSn l dim.toNat a e).1 else seenT0), (gSn l dim.toNat a e).2.1, finE (gSn l dim.toNat a e).2.2 (seenTB (gSn l dim.toNat a e).1 dim))
  else (seenT0, a, failE e 211)

theorem getSeen_of {l : List Int} {n a : Nat} {e : Int} {t : SeenT} {a1 : Nat} {e1 E : Int} (hn : 1 ≤ n ∧ n ≤ 8) (h : gSn l n a e = (t, a1, e1)) (hE : E = finE e1 (seenTB t n)) : getSeen l n a e = ((if E = 0 then t else seenT0), a1, E) := by
  subst hE
  unfold getSeen
  rw [if_pos (by omega), Int.toNat_natCast, h]

theorem gSc_got {l : List Int} (hb : AllB l) {a : Nat} (ha : a ≤ l.length) {x : Nat} {e : Int} (h : (gSc l x a e).2.2 = 0) : e = 0 ∧ Got l a (gSc l x a e).2.1 (if x = 1 then scoreBytes ((gSc l x a e).1.1, (gSc l x a e).1.2.1) else []) ∧ (gSc l x a e).1.2.2 = decide (x = 1) := by
  unfold gSc at h ⊢
  by_cases h1 : x = 1
  · rw [if_pos h1] at h ⊢
    rw [if_pos h1]
    obtain ⟨g1, g2, _⟩ := getS_got hb h
    exact ⟨g1, g2, (decide_eq_true h1).symm⟩
  · rw [if_neg h1] at h ⊢
    rw [if_neg h1]
    exact ⟨h, Got.refl ha, (decide_eq_false h1).symm⟩

theorem gSc_le {l : List Int} (hb : AllB l) {a : Nat} (ha : a ≤ l.length) (x : Nat) (e : Int) : (gSc l x a e).2.1 ≤ l.length := by
  unfold gSc
  split
  · exact gS_le hb ha e
  · exact ha

theorem getSeen_le {l : List Int} (hb : AllB l) (dim : Int) {a : Nat} (ha : a ≤ l.length) (e : Int) : (getSeen l dim a e).2.1 ≤ l.length := by
  unfold getSeen
  split
  · exact gSc_le hb (rdN'_le hb (rdXs_le hb (rdN'_le hb ha _ _) _ _) _ _) _ _
  · exact ha

theorem rdN'_one {l : List Int} (hb : AllB l) (a : Nat) (e : Int) : (rdN' l a e 1).1 ≤ 1 := by
  have hf := rdN'_facts l hb a e 1
  by_cases h : (rdN' l a e 1).2.2 = 0
  · have := (hf.2 h).2.2; omega
  · rw [(hf.1 h).1]; decide

theorem getSeen_got {l : List Int} (hb : AllB l) (dim : Int) {a : Nat} (ha : a ≤ l.length) {e : Int} (h : (getSeen l dim a e).2.2 = 0) : Got l a (getSeen l dim a e).2.1 (seenTW (getSeen l dim a e).1 dim) := by
  by_cases hd : 1 ≤ dim ∧ dim ≤ 8
  · obtain ⟨n, rfl⟩ : ∃ n : Nat, dim = (n : Int) := ⟨dim.toNat, by omega⟩
    obtain ⟨r1, h1⟩ : ∃ r, rdN' l a e 1099511627776 = r := ⟨_, rfl⟩
    obtain ⟨r2, h2⟩ : ∃ r, rdXs l n r1.2.1 r1.2.2 = r := ⟨_, rfl⟩
    obtain ⟨r3, h3⟩ : ∃ r, rdN' l r2.2.1 r2.2.2 1 = r := ⟨_, rfl⟩
    obtain ⟨r4, h4⟩ : ∃ r, gSc l r3.1 r3.2.1 r3.2.2 = r := ⟨_, rfl⟩
    rw [getSeen_of (by omega) (gSn_of h1 h2 h3 h4) rfl] at h ⊢
    obtain ⟨f1, f2⟩ := finE_zero h
    have l1 := rdN'_le hb ha e 1099511627776
    rw [h1] at l1
    have l2 := rdXs_le hb l1 r1.2.2 n
    rw [h2] at l2
    have l3 := rdN'_le hb l2 r2.2.2 1
    rw [h3] at l3
    have x3 := rdN'_one hb r2.2.1 r2.2.2
    rw [h3] at x3
    obtain ⟨k4, g4, b4⟩ := gSc_got hb l3 (e := r3.2.2) (by rw [h4]; exact f1)
    rw [h4] at g4 b4
    obtain ⟨k3, g3, _⟩ := gotN hb (a := r2.2.1) (e := r2.2.2) (most := 1) (by rw [h3]; exact k4)
    rw [h3] at g3
    obtain ⟨k2, g2⟩ := rdXs_got hb l1 (e := r1.2.2) n (by rw [h2]; exact k3)
    rw [h2] at g2
    obtain ⟨k1, g1, _⟩ := gotN hb (a := a) (e := e) (most := 1099511627776) (by rw [h1]; exact k2)
    rw [h1] at g1
    dsimp only
    rw [if_pos h]
    unfold seenTW seenBytes
    unfold seenTB at f2
    rw [if_pos f2]
    dsimp only at b4 ⊢
    have hg := ((g1.trans g2).trans g3).trans g4
    rw [b4]
    by_cases hx : r3.1 = 1
    · rw [if_pos (decide_eq_true hx)]
      rw [if_pos hx, hx] at hg
      simpa only [List.append_assoc, Int.toNat_natCast] using hg
    · have hx0 : r3.1 = 0 := by omega
      rw [if_neg (by simpa using hx)]
      rw [if_neg hx, hx0] at hg
      simpa only [List.append_assoc, Int.toNat_natCast, List.append_nil] using hg
  · unfold getSeen at h
    rw [if_neg hd] at h
    unfold failE at h
    dsimp only at h
    split at h <;> simp_all

theorem seenIn_any (id P Q dim : Int) (s : Bool) (vx : Value) (x : List Int) (B : Nat) (w : World) (h : Ints .i64 w vx x) (hB : w.cell? ⟨B, 0, none⟩ = some (.int .i64 dim)) :
    Calls Try.prog 120 #[.agg #[.int .i64 id, vx, .int .i64 P, .int .i64 Q, .bool s], .pointer (some ⟨B, 0, none⟩)] w fun e w' => e = .returned (.bool (seenB id x P Q s dim)) ∧ Below w.heap.size w w' := by
  have HX := Lib.hid h
  obtain ⟨xa, xc, rfl⟩ := h.shape
  have HR := Lib.hid (fun W (hW : Ints .i64 W (.slice xa x.length xc) x) => rightSeen_any id P Q dim s _ x W hW)
  obtain ⟨q1, q2, q3⟩ := lnm (World.block_lt_of_cell? _ _ hB)
  dsimp only at q1 q2 q3
  clear h
  go_enter Try.func120, Try.ntmps120
  go_wp2_with fail
  (with_reducible refine (HR.out _ (HX.out.below (by (repeat (first | with_reducible exact Below.refl _ _ | with_reducible refine Bs ?_ | with_reducible refine Ba ?_ | with_reducible refine Bd ?_ | with_reducible refine Bn ?_))))).mono ?_); rintro e w1 ⟨rfl, b1⟩; have s1 : w.heap.size + 1 ≤ w1.heap.size := sz b1; have B1 := Lib.hid (Bc (B := w.heap.size) (a := w) (by (repeat (first | with_reducible exact Below.refl _ _ | with_reducible refine Bs ?_ | with_reducible refine Ba ?_ | with_reducible refine Bd ?_ | with_reducible refine Bn ?_))) b1); clear b1
  go_wp2_with fail
  go_ret
  exact ⟨rfl, B1.out⟩

set_option maxRecDepth 100000 in
set_option maxHeartbeats 4000000 in
theorem checkedN_any {w : World} {R : Nat} {v : Value} {l : List Int} {a : Nat} {e0 : Int} (h : Rd w R v l a e0) (id P Q dim : Int) (s : Bool) (xa : Option Addr) (xn xc : Nat) (x : List Int) (hx : Ints .i64 w (.slice xa xn xc) x) (C : Nat) (hC : w.cell? ⟨C, 0, none⟩ = some (.int .i64 dim)) (B : Bool) (hr : ∀ W, Ints .i64 W (.slice xa xn xc) x → W.cell? ⟨C, 0, none⟩ = some (.int .i64 dim) → Calls Try.prog 120 #[.agg #[.int .i64 id, .slice xa xn xc, .int .i64 P, .int .i64 Q, .bool s], .pointer (some ⟨C, 0, none⟩)] W fun e w' => e = .returned (.bool B) ∧ Below W.heap.size W w') :
    Calls Try.prog 119 #[.pointer (some ⟨R, 0, none⟩), .agg #[.int .i64 id, .slice xa xn xc, .int .i64 P, .int .i64 Q, .bool s], .func (.func 120) #[] #[.pointer (some ⟨C, 0, none⟩)]] w fun e w' => e = .returned (if finE e0 B = 0 then .agg #[.int .i64 id, .slice xa xn xc, .int .i64 P, .int .i64 Q, .bool s] else .agg #[.int .i64 0, .slice none 0 0, .int .i64 0, .int .i64 0, .bool false]) ∧ RdTo w R v l w' a (finE e0 B) := by
  have H := Lib.hid h
  have hR := h.lt
  have HR := Lib.hid hr
  have HX := Lib.hid hx; obtain ⟨q1, q2, q3⟩ := lnm (World.block_lt_of_cell? _ _ hC); dsimp only at q1 q2 q3; clear hx
  clear h hr
  by_cases he : e0 = 0
  · subst he
    cases B with
    | true =>
      rw [show finE 0 true = 0 from rfl, if_pos rfl]
      go_enter Try.func119, Try.ntmps119
      go_wp2_with fail
      refine (err_any (H.out.below (by (repeat (first | with_reducible exact Below.refl _ _ | with_reducible refine Bs ?_ | with_reducible refine Ba ?_ | with_reducible refine Bd ?_ | with_reducible refine Bn ?_))))).mono ?_
      rintro e w1 ⟨rfl, rfl⟩
      go_wp2_with fail
      (with_reducible refine (HR.out _ (HX.out.below (by (repeat (first | with_reducible exact Below.refl _ _ | with_reducible refine Bs ?_ | with_reducible refine Ba ?_ | with_reducible refine Bd ?_ | with_reducible refine Bn ?_)))) (kc (show Below w.heap.size w _ from by (repeat (first | with_reducible exact Below.refl _ _ | with_reducible refine Bs ?_ | with_reducible refine Ba ?_ | with_reducible refine Bd ?_ | with_reducible refine Bn ?_))) hC q1)).mono ?_); rintro e w1 ⟨rfl, b1⟩; have s1 : w.heap.size + 1 + 1 + 1 ≤ w1.heap.size := sz b1; have B1 := Lib.hid (Bc (B := w.heap.size) (a := w) (by (repeat (first | with_reducible exact Below.refl _ _ | with_reducible refine Bs ?_ | with_reducible refine Ba ?_ | with_reducible refine Bd ?_ | with_reducible refine Bn ?_))) b1); obtain ⟨c1_0, c1_1, c1_2, c1_3, c1_4⟩ := k5 (w.heap.size) (.int .i64 id) (.slice xa xn xc) (.int .i64 P) (.int .i64 Q) (.bool s) b1 (by and_intros <;> go_simp); obtain ⟨c1_5, f1_5, c1_6, f1_6, c1_7, f1_7, c1_8, f1_8, c1_9, f1_9⟩ := k5f (w.heap.size + 1) (.int .i64 0) (.slice none 0 0) (.int .i64 0) (.int .i64 0) (.bool false) b1 (by and_intros <;> go_simp); obtain ⟨l1_0, n1_0, m1_0⟩ := lnm (show w.heap.size < w1.heap.size by omega); obtain ⟨l1_1, n1_1, m1_1⟩ := lnm (show w.heap.size + 1 < w1.heap.size by omega); clear b1
      go_wp2_with fail
      refine (err_any (H.out.below (show Below w.heap.size w _ from by (repeat (first | with_reducible exact Below.refl _ _ | with_reducible refine Bs ?_ | with_reducible refine Ba ?_ | with_reducible refine Bd ?_ | with_reducible refine Bn ?_ | with_reducible refine Bt B1.out ?_))))).mono ?_
      rintro e w2 ⟨rfl, rfl⟩
      go_wp2_with fail
      exact bodyPost_ret (v := .agg #[.int .i64 id, .slice xa xn xc, .int .i64 P, .int .i64 Q, .bool s]) (by simp [results, Try.results119, go_sem, *]) rfl ⟨rfl, RdTo.belowB H.out (RdTo.refl H.out) (by (repeat (first | with_reducible exact Below.refl _ _ | with_reducible refine Bs ?_ | with_reducible refine Ba ?_ | with_reducible refine Bd ?_ | with_reducible refine Bn ?_ | with_reducible refine Bt B1.out ?_)))⟩
    | false =>
      rw [show finE 0 false = 211 from rfl, if_neg (by decide)]
      go_enter Try.func119, Try.ntmps119
      go_wp2_with fail
      refine (err_any (H.out.below (by (repeat (first | with_reducible exact Below.refl _ _ | with_reducible refine Bs ?_ | with_reducible refine Ba ?_ | with_reducible refine Bd ?_ | with_reducible refine Bn ?_))))).mono ?_
      rintro e w1 ⟨rfl, rfl⟩
      go_wp2_with fail
      (with_reducible refine (HR.out _ (HX.out.below (by (repeat (first | with_reducible exact Below.refl _ _ | with_reducible refine Bs ?_ | with_reducible refine Ba ?_ | with_reducible refine Bd ?_ | with_reducible refine Bn ?_)))) (kc (show Below w.heap.size w _ from by (repeat (first | with_reducible exact Below.refl _ _ | with_reducible refine Bs ?_ | with_reducible refine Ba ?_ | with_reducible refine Bd ?_ | with_reducible refine Bn ?_))) hC q1)).mono ?_); rintro e w1 ⟨rfl, b1⟩; have s1 : w.heap.size + 1 + 1 + 1 ≤ w1.heap.size := sz b1; have B1 := Lib.hid (Bc (B := w.heap.size) (a := w) (by (repeat (first | with_reducible exact Below.refl _ _ | with_reducible refine Bs ?_ | with_reducible refine Ba ?_ | with_reducible refine Bd ?_ | with_reducible refine Bn ?_))) b1); obtain ⟨c1_0, c1_1, c1_2, c1_3, c1_4⟩ := k5 (w.heap.size + 2) (.int .i64 0) (.slice none 0 0) (.int .i64 0) (.int .i64 0) (.bool false) b1 (by and_intros <;> go_simp); obtain ⟨c1_5, f1_5, c1_6, f1_6, c1_7, f1_7, c1_8, f1_8, c1_9, f1_9⟩ := k5f (w.heap.size + 1) (.int .i64 0) (.slice none 0 0) (.int .i64 0) (.int .i64 0) (.bool false) b1 (by and_intros <;> go_simp); obtain ⟨l1_0, n1_0, m1_0⟩ := lnm (show w.heap.size + 2 < w1.heap.size by omega); obtain ⟨l1_1, n1_1, m1_1⟩ := lnm (show w.heap.size + 1 < w1.heap.size by omega); clear b1
      go_wp2_with fail
      refine (fail_any (H.out.below (show Below w.heap.size w _ from by (repeat (first | with_reducible exact Below.refl _ _ | with_reducible refine Bs ?_ | with_reducible refine Ba ?_ | with_reducible refine Bd ?_ | with_reducible refine Bn ?_ | with_reducible refine Bt B1.out ?_)))) 211).mono ?_
      rintro e w2 ⟨rfl, hr2⟩
      rw [show failE 0 211 = 211 from rfl] at hr2
      have hg := hr2.2
      have HR2 := Lib.hid (RdTo.from (w := w) (show Below w.heap.size w _ from by (repeat (first | with_reducible exact Below.refl _ _ | with_reducible refine Bs ?_ | with_reducible refine Ba ?_ | with_reducible refine Bd ?_ | with_reducible refine Bn ?_ | with_reducible refine Bt B1.out ?_))) hr2)
      have hsz : w1.heap.size ≤ w2.heap.size := hg.size
      have z0 := (only_cell hg (w.heap.size + 2) 0 (by omega) (by omega)).trans c1_0
      have y0 := (only_cell hg (w.heap.size + 1) 0 (by omega) (by omega)).trans c1_5
      have x0 := (only_frozen hg (w.heap.size + 1) 0 (by omega) (by omega)).trans f1_5
      have z1 := (only_cell hg (w.heap.size + 2) 1 (by omega) (by omega)).trans c1_1
      have y1 := (only_cell hg (w.heap.size + 1) 1 (by omega) (by omega)).trans c1_6
      have x1 := (only_frozen hg (w.heap.size + 1) 1 (by omega) (by omega)).trans f1_6
      have z2 := (only_cell hg (w.heap.size + 2) 2 (by omega) (by omega)).trans c1_2
      have y2 := (only_cell hg (w.heap.size + 1) 2 (by omega) (by omega)).trans c1_7
      have x2 := (only_frozen hg (w.heap.size + 1) 2 (by omega) (by omega)).trans f1_7
      have z3 := (only_cell hg (w.heap.size + 2) 3 (by omega) (by omega)).trans c1_3
      have y3 := (only_cell hg (w.heap.size + 1) 3 (by omega) (by omega)).trans c1_8
      have x3 := (only_frozen hg (w.heap.size + 1) 3 (by omega) (by omega)).trans f1_8
      have z4 := (only_cell hg (w.heap.size + 2) 4 (by omega) (by omega)).trans c1_4
      have y4 := (only_cell hg (w.heap.size + 1) 4 (by omega) (by omega)).trans c1_9
      have x4 := (only_frozen hg (w.heap.size + 1) 4 (by omega) (by omega)).trans f1_9
      clear hr2 hg
      go_wp2_with fail
      refine (err_any HR2.out.1).mono ?_
      rintro e w3 ⟨rfl, rfl⟩
      go_wp2_with fail
      exact bodyPost_ret (v := .agg #[.int .i64 0, .slice none 0 0, .int .i64 0, .int .i64 0, .bool false]) (by simp [results, Try.results119, go_sem, *]) rfl ⟨rfl, RdTo.belowB H.out HR2.out (by (repeat (first | with_reducible exact Below.refl _ _ | with_reducible refine Bs ?_ | with_reducible refine Ba ?_ | with_reducible refine Bd ?_ | with_reducible refine Bn ?_)))⟩
  · have j1 : (e0 == 0) = false := by simpa using he
    have j2 : (e0 != 0) = true := by simpa using he
    have e1 : finE e0 B = e0 := if_neg he
    rw [e1, if_neg he]
    clear e1 he
    go_enter Try.func119, Try.ntmps119
    go_wp2_with fail
    refine (err_any (H.out.below (by (repeat (first | with_reducible exact Below.refl _ _ | with_reducible refine Bs ?_ | with_reducible refine Ba ?_ | with_reducible refine Bd ?_ | with_reducible refine Bn ?_))))).mono ?_
    rintro e w1 ⟨rfl, rfl⟩
    go_wp2_with fail
    refine (err_any (H.out.below (by (repeat (first | with_reducible exact Below.refl _ _ | with_reducible refine Bs ?_ | with_reducible refine Ba ?_ | with_reducible refine Bd ?_ | with_reducible refine Bn ?_))))).mono ?_
    rintro e w2 ⟨rfl, rfl⟩
    go_wp2_with fail
    exact bodyPost_ret (v := .agg #[.int .i64 0, .slice none 0 0, .int .i64 0, .int .i64 0, .bool false]) (by simp [results, Try.results119, go_sem, *]) rfl ⟨rfl, RdTo.belowB H.out (RdTo.refl H.out) (by (repeat (first | with_reducible exact Below.refl _ _ | with_reducible refine Bs ?_ | with_reducible refine Ba ?_ | with_reducible refine Bd ?_ | with_reducible refine Bn ?_)))⟩

theorem checkedN_val {w : World} {R : Nat} {v : Value} {l : List Int} {a : Nat} {e0 : Int} (h : Rd w R v l a e0) (id P Q dim : Int) (s : Bool) (xa : Option Addr) (xn xc : Nat) (x : List Int) (hx : Ints .i64 w (.slice xa xn xc) x) (C : Nat) (hC : w.cell? ⟨C, 0, none⟩ = some (.int .i64 dim)) (E : Int) (hE : E = finE e0 (seenB id x P Q s dim)) :
    Calls Try.prog 119 #[.pointer (some ⟨R, 0, none⟩), .agg #[.int .i64 id, .slice xa xn xc, .int .i64 P, .int .i64 Q, .bool s], .func (.func 120) #[] #[.pointer (some ⟨C, 0, none⟩)]] w fun e w' => ∃ val, e = .returned val ∧ (E = 0 → val = .agg #[.int .i64 id, .slice xa xn xc, .int .i64 P, .int .i64 Q, .bool s]) ∧ (E ≠ 0 → val = .agg #[.int .i64 0, .slice none 0 0, .int .i64 0, .int .i64 0, .bool false]) ∧ RdTo w R v l w' a E := by
  subst hE
  refine (checkedN_any h id P Q dim s xa xn xc x hx C hC _ (fun W hW hc => seenIn_any id P Q dim s _ x C W hW hc)).mono ?_
  rintro e w' ⟨rfl, r⟩
  exact ⟨_, rfl, fun h0 => if_pos h0, fun h0 => if_neg h0, r⟩
end Go.Proofs.Ytjmjnkilgoelbaa

namespace Go.Proofs.Ytjmjnkilgoelbaa
open Go.RowKit

theorem rgetAsk_any (vr : Value) (l : List Int) (a : Nat) (e0 : Int) (w : World) (h : Ints .u8 w vr l) (hb : AllB l) (ha : a ≤ l.length) (hl : l.length ≤ 100000) :
    Calls Try.prog 40 #[.agg #[vr, .int .i64 a, .int .i64 e0]] w fun e w' => RefA w vr (getAsk l a e0) e w' := by
  obtain ⟨r, h1⟩ : ∃ r, rdN' l a e0 1099511627776 = r := ⟨_, rfl⟩
  obtain ⟨K, a1, e1⟩ := r
  by_cases hk : 1 ≤ K ∧ K ≤ 7
  · have hN := fun W => rnames_any (K : Int) W
    obtain rfl | rfl | rfl | rfl | rfl | rfl | rfl : K = 1 ∨ K = 2 ∨ K = 3 ∨ K = 4 ∨ K = 5 ∨ K = 6 ∨ K = 7 := by omega
    · exact rgetAsk_a vr l a e0 w h hb ha hl 1 a1 e1 h1 (by decide) (by decide) (by decide) (by decide) (by decide) hN
    · exact rgetAsk_b vr l a e0 w h hb ha hl 2 a1 e1 h1 (by decide) (by decide) (by decide) (by decide) (by decide) hN
    · exact rgetAsk_c vr l a e0 w h hb ha hl 3 a1 e1 h1 (by decide) (by decide) (by decide) (by decide) (by decide) hN
    · exact rgetAsk_d vr l a e0 w h hb ha hl 4 a1 e1 h1 (by decide) (by decide) (by decide) (by decide) (by decide) hN
    · exact rgetAsk_e vr l a e0 w h hb ha hl 5 a1 e1 h1 (by decide) (by decide) (by decide) (by decide) (by decide) hN
    · exact rgetAsk_e vr l a e0 w h hb ha hl 6 a1 e1 h1 (by decide) (by decide) (by decide) (by decide) (by decide) hN
    · exact rgetAsk_b vr l a e0 w h hb ha hl 7 a1 e1 h1 (by decide) (by decide) (by decide) (by decide) (by decide) hN
  · have hN := fun W => rnames_any (K : Int) W
    rw [decide_eq_false (show ¬ (K : Int) = 1 by omega), decide_eq_false (show ¬ ((K : Int) = 1 ∨ (K : Int) = 2 ∨ (K : Int) = 7) by omega), decide_eq_false (show ¬ ((K : Int) = 3 ∨ (K : Int) = 4) by omega), decide_eq_false (show ¬ (K : Int) = 3 by omega)] at hN
    exact rgetAsk_f vr l a e0 w h hb ha hl K a1 e1 h1 hk hN
end Go.Proofs.Ytjmjnkilgoelbaa
