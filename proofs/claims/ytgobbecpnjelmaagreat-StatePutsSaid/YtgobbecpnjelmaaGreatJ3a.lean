/-
  ItemW: Which seen event any bytes are: plain; walks of item.checked (a seen event) and item.GetSeen.
  StateP: Plain: which states are right.
  ForF: Walks of copseref14.Trees, Much, Is and asked.
  ArgState: Arguments that are states: how they read.
  StateA: Walks of state.New, state.Most, copseref28.Most.
  WoodB: Walk of copseref23.Tree.
  ForD: Walks of forest.Trees, Oldest and Ages.
-/
import Derived.Test.YtgobbecpnjelmaaGreatJ0a
import Derived.Test.YtgobbecpnjelmaaGreatKItemV
import Derived.Test.YtgobbecpnjelmaaGreatKItemG
import Derived.Test.YtgobbecpnjelmaaGreatJ0c
import Derived.Test.YtgobbecpnjelmaaGreatKSchedD
import Derived.Test.YtgobbecpnjelmaaGreatJ2b
import Derived.Test.YtgobbecpnjelmaaGreatKForA
import Derived.Test.YtgobbecpnjelmaaGreatJ0b
import Derived.Test.YtgobbecpnjelmaaGreatJ2a
import Derived.Test.YtgobbecpnjelmaaGreatJ0d
import Derived.Test.YtgobbecpnjelmaaGreatKWoodA
namespace Go.Proofs.YtgobbecpnjelmaaGreat
open Go.RowKit

theorem Ints.only_again {k : IntKind} {w0 w w' : World} {R B : Nat} {v : Value} {l : List Int} (_ : Ints k w0 v l) (h : Ints k w v l) (hf : Fresh B v) (hR : R < B) (hg : w.grownBy w' (some R)) : Ints k w' v l := h.only_fresh hf hR hg

abbrev SeenT := Int × List Int × Int × Int × Bool

def seenT0 : SeenT := (0, [], 0, 0, false)

def seenTB (t : SeenT) (dim : Int) : Bool := seenB t.1 t.2.1 t.2.2.1 t.2.2.2.1 t.2.2.2.2 dim

def seenTW (t : SeenT) (dim : Int) : List Int := seenBytes t.1 t.2.1 t.2.2.1 t.2.2.2.1 t.2.2.2.2 dim

/-- The score that a seen event has, if it has one. -/
def gSc (l : List Int) (x : Nat) (a : Nat) (e : Int) : (Int × Int × Bool) × Nat × Int :=
 if x = 1 then (((getSV l a e).1, (getSV l a e).2, true), (gS l a e).2.1, getSE l a e) else ((0, 0, false), a, e)

def gSn (l : List Int) (n : Nat) (a : Nat) (e : Int) : SeenT × Nat × Int :=
 let r1 := rdN' l a e 1099511627776
 let r2 := rdXs l n r1.2.1 r1.2.2
 let r3 := rdN' l r2.2.1 r2.2.2 1
 let r4 := gSc l r3.1 r3.2.1 r3.2.2
 (((r1.1 : Int), r2.1, r4.1), r4.2)

theorem gSn_of {l : List Int} {n a : Nat} {e : Int} {r1 r3 : Nat × Nat × Int} {r2 : List Int × Nat × Int} {r4 : (Int × Int × Bool) × Nat × Int} (h1 : rdN' l a e 1099511627776 = r1) (h2 : rdXs l n r1.2.1 r1.2.2 = r2)
  (h3 : rdN' l r2.2.1 r2.2.2 1 = r3) (h4 : gSc l r3.1 r3.2.1 r3.2.2 = r4) : gSn l n a e = (((r1.1 : Int), r2.1, r4.1), r4.2) := by
 subst h1 h2 h3 h4
 rfl

/-- Which seen event any bytes are, from a place on. -/
def getSeen (l : List Int) (dim : Int) (a : Nat) (e : Int) : SeenT × Nat × Int :=
 if 1 ≤ dim ∧ dim ≤ 8 then
  ((if finE (gSn l dim.toNat a e).2.2 (seenTB (gSn l dim.toNat a e).1 dim) = 0 then (gSn l dim.toNat a e).1 else seenT0), (gSn l dim.toNat a e).2.1, finE (gSn l dim.toNat a e).2.2 (seenTB (gSn l dim.toNat a e).1 dim))
 else (seenT0, a, failE e 211)

theorem getSeen_of {l : List Int} {n a : Nat} {e : Int} {t : SeenT} {a1 : Nat} {e1 E : Int} (hn : 1 ≤ n ∧ n ≤ 8) (h : gSn l n a e = (t, a1, e1)) (hE : E = finE e1 (seenTB t n)) : getSeen l n a e = ((if E = 0 then t else seenT0), a1, E) := by
 subst hE
 unfold getSeen
 rw [if_pos (by omega), Int.toNat_natCast, h]

theorem rdN'_one {l : List Int} (hb : AllB l) (a : Nat) (e : Int) : (rdN' l a e 1).1 ≤ 1 := by
 have hf := rdN'_facts l hb a e 1
 by_cases h : (rdN' l a e 1).2.2 = 0
 ·have := (hf.2 h).2.2; omega
 ·rw [(hf.1 h).1]; decide

theorem seenIn_any (id P Q dim : Int) (s : Bool) (vx : Value) (x : List Int) (B : Nat) (w : World) (h : Ints .i64 w vx x) (hB : w.cell? ⟨B, 0, none⟩ = some (.int .i64 dim)) :
  Calls Tryz.prog 107 #[.agg #[.int .i64 id, vx, .int .i64 P, .int .i64 Q, .bool s], .pointer (some ⟨B, 0, none⟩)] w fun e w' => e = .returned (.bool (seenB id x P Q s dim)) ∧ Below w.heap.size w w' := by
 have HX := hH h
 obtain ⟨xa, xc, rfl⟩ := h.shape
 have HR := hH (fun W (hW : Ints .i64 W (.slice xa x.length xc) x) => rightSeen_any id P Q dim s _ x W hW)
 obtain ⟨q1, q2, q3⟩ := lnm (World.block_lt_of_cell? _ _ hB)
 dsimp only at q1 q2 q3
 clear h
 go_enter Tryz.func107, Tryz.ntmps107
 go_wp2_with fail
 (with_reducible refine (HR.out _ (HX.out.below bw)).mono ?_); rintro e w1 ⟨rfl, b1⟩; have s1 : w.heap.size + 1 ≤ w1.heap.size := sz b1; have B1 := hJ w b1; clear b1
 go_wp2_with fail
 go_ret
 exact ⟨rfl, B1.out⟩

set_option maxRecDepth 100000 in
set_option maxHeartbeats 4000000 in
theorem checkedN_any {w : World} {R : Nat} {v : Value} {l : List Int} {a : Nat} {e0 : Int} (h : Rd w R v l a e0) (id P Q dim : Int) (s : Bool) (xa : Option Addr) (xn xc : Nat) (x : List Int) (hx : Ints .i64 w (.slice xa xn xc) x) (C : Nat) (hC : w.cell? ⟨C, 0, none⟩ = some (.int .i64 dim)) (B : Bool) (hr : ∀ W, Ints .i64 W (.slice xa xn xc) x → W.cell? ⟨C, 0, none⟩ = some (.int .i64 dim) → Calls Tryz.prog 107 #[.agg #[.int .i64 id, .slice xa xn xc, .int .i64 P, .int .i64 Q, .bool s], .pointer (some ⟨C, 0, none⟩)] W fun e w' => e = .returned (.bool B) ∧ Below W.heap.size W w') :
  Calls Tryz.prog 106 #[.pointer (some ⟨R, 0, none⟩), .agg #[.int .i64 id, .slice xa xn xc, .int .i64 P, .int .i64 Q, .bool s], .func (.func 107) #[] #[.pointer (some ⟨C, 0, none⟩)]] w fun e w' => e = .returned (if finE e0 B = 0 then .agg #[.int .i64 id, .slice xa xn xc, .int .i64 P, .int .i64 Q, .bool s] else .agg #[.int .i64 0, .slice none 0 0, .int .i64 0, .int .i64 0, .bool false]) ∧ RdTo w R v l w' a (finE e0 B) := by
 have H := hH h
 have hR := h.lt
 have HR := hH hr
 have HX := hH hx; obtain ⟨q1, q2, q3⟩ := lnm (World.block_lt_of_cell? _ _ hC); dsimp only at q1 q2 q3; clear hx
 clear h hr
 by_cases he : e0 = 0
 ·subst he
  cases B with
  | true =>
   rw [show finE 0 true = 0 from rfl, if_pos rfl]
   go_enter Tryz.func106, Tryz.ntmps106
   go_wp2_with fail
   refine (err_any (H.out.below bw)).mono ?_
   rintro e w1 ⟨rfl, rfl⟩
   go_wp2_with fail
   (with_reducible refine (HR.out _ (HX.out.below bw) (kc (show Below w.heap.size w _ from bw) hC q1)).mono ?_); rintro e w1 ⟨rfl, b1⟩; have s1 : w.heap.size + 1 + 1 + 1 ≤ w1.heap.size := sz b1; have B1 := hJ w b1; obtain ⟨c1_0, c1_1, c1_2, c1_3, c1_4⟩ := k5 (w.heap.size) (.int .i64 id) (.slice xa xn xc) (.int .i64 P) (.int .i64 Q) (.bool s) b1 aJ; obtain ⟨c1_5, f1_5, c1_6, f1_6, c1_7, f1_7, c1_8, f1_8, c1_9, f1_9⟩ := k5f (w.heap.size + 1) (.int .i64 0) (.slice none 0 0) (.int .i64 0) (.int .i64 0) (.bool false) b1 aJ; obtain ⟨l1_0, n1_0, m1_0⟩ := lnm (show w.heap.size < w1.heap.size by omega); obtain ⟨l1_1, n1_1, m1_1⟩ := lnm (show w.heap.size + 1 < w1.heap.size by omega); clear b1
   go_wp2_with fail
   refine (err_any (H.out.below (show Below w.heap.size w _ from bx B1.out))).mono ?_
   rintro e w2 ⟨rfl, rfl⟩
   go_wp2_with fail
   exact bodyPost_ret (v := .agg #[.int .i64 id, .slice xa xn xc, .int .i64 P, .int .i64 Q, .bool s]) (by simp [results, Tryz.results106, go_sem, *]) rfl ⟨rfl, RdTo.belowB H.out (RdTo.refl H.out) (bx B1.out)⟩
  | false =>
   rw [show finE 0 false = 211 from rfl, if_neg (by decide)]
   go_enter Tryz.func106, Tryz.ntmps106
   go_wp2_with fail
   refine (err_any (H.out.below bw)).mono ?_
   rintro e w1 ⟨rfl, rfl⟩
   go_wp2_with fail
   (with_reducible refine (HR.out _ (HX.out.below bw) (kc (show Below w.heap.size w _ from bw) hC q1)).mono ?_); rintro e w1 ⟨rfl, b1⟩; have s1 : w.heap.size + 1 + 1 + 1 ≤ w1.heap.size := sz b1; have B1 := hJ w b1; obtain ⟨c1_0, c1_1, c1_2, c1_3, c1_4⟩ := k5 (w.heap.size + 2) (.int .i64 0) (.slice none 0 0) (.int .i64 0) (.int .i64 0) (.bool false) b1 aJ; obtain ⟨c1_5, f1_5, c1_6, f1_6, c1_7, f1_7, c1_8, f1_8, c1_9, f1_9⟩ := k5f (w.heap.size + 1) (.int .i64 0) (.slice none 0 0) (.int .i64 0) (.int .i64 0) (.bool false) b1 aJ; obtain ⟨l1_0, n1_0, m1_0⟩ := lnm (show w.heap.size + 2 < w1.heap.size by omega); obtain ⟨l1_1, n1_1, m1_1⟩ := lnm (show w.heap.size + 1 < w1.heap.size by omega); clear b1
   go_wp2_with fail
   refine (fail_any (H.out.below (show Below w.heap.size w _ from bx B1.out)) 211).mono ?_
   rintro e w2 ⟨rfl, hr2⟩
   rw [show failE 0 211 = 211 from rfl] at hr2
   have hg := hr2.2
   have HR2 := hH (RdTo.from (w := w) (show Below w.heap.size w _ from bx B1.out) hr2)
   have hsz : w1.heap.size ≤ w2.heap.size := hg.size
   have z0 := (only_cell hg (w.heap.size + 2) 0 (by omega) (by omega)).trans c1_0
   have y0 := (only_cell hg (w.heap.size + 1) 0 (by omega) (by omega)).trans c1_5
   have x0 := (only_frozen hg (w.heap.size + 1) 0 (by omega) (by omega)).trans f1_5
   have z1 := (only_cell hg (w.heap.size + 2) 1 (by omega) (by omega)).trans c1_1
   have y1 := (only_cell hg (w.heap.size + 1) 1 (by omega) (by omega)).trans c1_6
   have x1 := (only_frozen hg (w.heap.size + 1) 1 (by omega) (by omega)).trans f1_6
   have z2 := (only_cell hg (w.heap.size + 2) 2 (by omega) (by omega)).trans c1_2
   have y2 := (only_cell hg (w.heap.size + 1) 2 (by omega) (by omega)).trans c1_7
   have x2 := (only_frozen hg (w.heap.size + 1) 2 (by omega) (by omega)).trans f1_7
   have z3 := (only_cell hg (w.heap.size + 2) 3 (by omega) (by omega)).trans c1_3
   have y3 := (only_cell hg (w.heap.size + 1) 3 (by omega) (by omega)).trans c1_8
   have x3 := (only_frozen hg (w.heap.size + 1) 3 (by omega) (by omega)).trans f1_8
   have z4 := (only_cell hg (w.heap.size + 2) 4 (by omega) (by omega)).trans c1_4
   have y4 := (only_cell hg (w.heap.size + 1) 4 (by omega) (by omega)).trans c1_9
   have x4 := (only_frozen hg (w.heap.size + 1) 4 (by omega) (by omega)).trans f1_9
   clear hr2 hg
   go_wp2_with fail
   refine (err_any HR2.out.1).mono ?_
   rintro e w3 ⟨rfl, rfl⟩
   go_wp2_with fail
   exact bodyPost_ret (v := .agg #[.int .i64 0, .slice none 0 0, .int .i64 0, .int .i64 0, .bool false]) (by simp [results, Tryz.results106, go_sem, *]) rfl ⟨rfl, RdTo.belowB H.out HR2.out bw⟩
 ·have j1 : (e0 == 0) = false := by simpa using he
  have j2 : (e0 != 0) = true := by simpa using he
  have e1 : finE e0 B = e0 := if_neg he
  rw [e1, if_neg he]
  clear e1 he
  go_enter Tryz.func106, Tryz.ntmps106
  go_wp2_with fail
  refine (err_any (H.out.below bw)).mono ?_
  rintro e w1 ⟨rfl, rfl⟩
  go_wp2_with fail
  refine (err_any (H.out.below bw)).mono ?_
  rintro e w2 ⟨rfl, rfl⟩
  go_wp2_with fail
  exact bodyPost_ret (v := .agg #[.int .i64 0, .slice none 0 0, .int .i64 0, .int .i64 0, .bool false]) (by simp [results, Tryz.results106, go_sem, *]) rfl ⟨rfl, RdTo.belowB H.out (RdTo.refl H.out) bw⟩

theorem checkedN_val {w : World} {R : Nat} {v : Value} {l : List Int} {a : Nat} {e0 : Int} (h : Rd w R v l a e0) (id P Q dim : Int) (s : Bool) (xa : Option Addr) (xn xc : Nat) (x : List Int) (hx : Ints .i64 w (.slice xa xn xc) x) (C : Nat) (hC : w.cell? ⟨C, 0, none⟩ = some (.int .i64 dim)) (E : Int) (hE : E = finE e0 (seenB id x P Q s dim)) :
  Calls Tryz.prog 106 #[.pointer (some ⟨R, 0, none⟩), .agg #[.int .i64 id, .slice xa xn xc, .int .i64 P, .int .i64 Q, .bool s], .func (.func 107) #[] #[.pointer (some ⟨C, 0, none⟩)]] w fun e w' => ∃ val, e = .returned val ∧ (E = 0 → val = .agg #[.int .i64 id, .slice xa xn xc, .int .i64 P, .int .i64 Q, .bool s]) ∧ (E ≠ 0 → val = .agg #[.int .i64 0, .slice none 0 0, .int .i64 0, .int .i64 0, .bool false]) ∧ RdTo w R v l w' a E := by
 subst hE
 refine (checkedN_any h id P Q dim s xa xn xc x hx C hC _ (fun W hW hc => seenIn_any id P Q dim s _ x C W hW hc)).mono ?_
 rintro e w' ⟨rfl, r⟩
 exact ⟨_, rfl, fun h0 => if_pos h0, fun h0 => if_neg h0, r⟩
end Go.Proofs.YtgobbecpnjelmaaGreat

namespace Go.Proofs.YtgobbecpnjelmaaGreat
open Go.RowKit

/-- An alert: its number, the event's, its score, the line. -/
abbrev AlertT := Int × Int × (Int × Int) × (Int × Int)

def alertB (a : AlertT) : Bool := (decide (1 ≤ a.1) && decide (a.1 ≤ 1099511627776)) && (decide (1 ≤ a.2.1) && decide (a.2.1 ≤ 1099511627776)) && (scoreB a.2.2.1 && scoreB a.2.2.2 && decide (0 ≤ oddI a.2.2.1 a.2.2.2))

/-- A state, by its numbers. -/
structure StP where
 (c0 c1 c2 c3 c4 c5 c6 c7 c8 c9 c10 : Int)
 (count last seq : Int)
 win : List SeenT
 forest : List (TreeP × Int)
 alerts : List AlertT

/-- Events that rise: behind which event, at which count; the last one's number. -/
def winF (first dim : Int) : Int → Int → List SeenT → Option Int
 | last, _, [] => some last
 | last, n, x :: L => if x.1 ≤ last ∨ x.2.2.2.2 ≠ decide (first < n + 1) ∨ seenTB x dim = false then none else winF first dim x.1 (n + 1) L

def windowB (s : StP) : Bool := decide ((s.win.length : Int) = min s.count s.c1) && decide (winF (nextV s.c3 s.c4 0) s.c0 0 (s.count - s.win.length) s.win = some s.last)

def rootS (t : TreeP) : Int := match t.nodes with
 | [] => 0
 | n :: _ => n.size

/-- Trees that were born as they must be. -/
def bornF (dim sample : Int) : List Int → List (TreeP × Int) → Bool
 | b :: B, g :: G => decide (g.2 = b) && (decide (g.1.dim = dim) && decide (rootS g.1 = sample)) && bornF dim sample B G
 | _, _ => true

noncomputable def treesB (s : StP) (births : List Int) : Bool := decide (s.forest.length = births.length) && isF s.forest && bornF s.c0 s.c3 births s.forest

/-- Alerts that rise. -/
def alertF (top : Int) : Int → Int → List AlertT → Bool
 | _, _, [] => true
 | last, q, a :: A => if a.1 ≠ q + 1 ∨ a.2.1 ≤ last ∨ top < a.2.1 ∨ alertB a = false then false else alertF top a.2.1 (q + 1) A

def alertsB (s : StP) : Bool := decide (0 ≤ s.seq) && decide (s.seq ≤ s.count) && decide ((s.alerts.length : Int) ≤ min s.seq s.c9) && alertF s.last 0 (s.seq - s.alerts.length) s.alerts

def StP.confB (s : StP) : Bool := confB11 s.c0 s.c1 s.c2 s.c3 s.c4 s.c5 s.c6 s.c7 s.c8 s.c9 s.c10

noncomputable def stateB (s : StP) : Bool := (s.confB && (decide (0 ≤ s.count) && decide (s.count ≤ 1099511627776))) && (windowB s && treesB s (birthsV s.confB s.c2 s.c3 s.c4 s.count).1 && alertsB s)

theorem winF_stop {first dim last n : Int} {x : SeenT} {L : List SeenT} (h : x.1 ≤ last ∨ x.2.2.2.2 ≠ decide (first < n + 1) ∨ seenTB x dim = false) : winF first dim last n (x :: L) = none := if_pos h

theorem winF_go {first dim last n : Int} {x : SeenT} {L : List SeenT} (h1 : ¬ x.1 ≤ last) (h2 : x.2.2.2.2 = decide (first < n + 1)) (h3 : seenTB x dim = true) : winF first dim last n (x :: L) = winF first dim x.1 (n + 1) L := by
 rw [winF, if_neg]
 rintro (h | h | h)
 ·exact h1 h
 ·exact h h2
 ·rw [h3] at h; cases h

theorem alertF_stop {top last q : Int} {a : AlertT} {A : List AlertT} (h : a.1 ≠ q + 1 ∨ a.2.1 ≤ last ∨ top < a.2.1 ∨ alertB a = false) : alertF top last q (a :: A) = false := if_pos h

theorem alertF_go {top last q : Int} {a : AlertT} {A : List AlertT} (h1 : a.1 = q + 1) (h2 : ¬ a.2.1 ≤ last) (h3 : ¬ top < a.2.1) (h4 : alertB a = true) : alertF top last q (a :: A) = alertF top a.2.1 (q + 1) A := by
  rw [alertF, if_neg]
  rintro (h | h | h | h)
  · exact h h1
  · exact h2 h
  · exact h3 h
  · rw [h4] at h; cases h

/-! How they lie. -/

/-- v is a slice of events. -/
def SeensR (w : World) (v : Value) (l : List SeenT) : Prop :=
 ∃ a c, v = .slice a l.length c ∧ l.length ≤ c ∧ c ≤ 9223372036854775807 ∧ l.length ≤ 140737488351232 ∧
  ∀ (i : Nat) (t : SeenT), l[i]? = some t → ∃ b o xv, a = some ⟨b, o, none⟩ ∧ b < w.heap.size ∧ w.cell? ⟨b, o + i * 5, none⟩ = some (.int .i64 t.1) ∧ w.cell? ⟨b, o + i * 5 + 1, none⟩ = some xv ∧ w.cell? ⟨b, o + i * 5 + 2, none⟩ = some (.int .i64 t.2.2.1) ∧
   w.cell? ⟨b, o + i * 5 + 3, none⟩ = some (.int .i64 t.2.2.2.1) ∧ w.cell? ⟨b, o + i * 5 + 4, none⟩ = some (.bool t.2.2.2.2) ∧ Ints .i64 w xv t.2.1

theorem SeensR.below {w w' : World} {v : Value} {l : List SeenT} (h : SeensR w v l) (B : Below w.heap.size w w') : SeensR w' v l := by
 obtain ⟨a, c, e, h1, h2, h3, h⟩ := h
 refine ⟨a, c, e, h1, h2, h3, fun i t hi => ?_⟩
 obtain ⟨b, o, xv, e, hb, c0, c1, c2, c3, c4, hx⟩ := h i t hi
 exact ⟨b, o, xv, e, Nat.lt_of_lt_of_le hb B.size, (B.cell (p := ⟨b, _, none⟩) hb).trans c0, (B.cell (p := ⟨b, _, none⟩) hb).trans c1, (B.cell (p := ⟨b, _, none⟩) hb).trans c2, (B.cell (p := ⟨b, _, none⟩) hb).trans c3, (B.cell (p := ⟨b, _, none⟩) hb).trans c4, hx.below B⟩

theorem SeensR.shape {w : World} {v : Value} {l : List SeenT} (h : SeensR w v l) : ∃ a c, v = .slice a l.length c := by
 obtain ⟨a, c, e, _⟩ := h
 exact ⟨a, c, e⟩

theorem SeensR.at {w : World} {a : Option Addr} {n c : Nat} {l : List SeenT} (h : SeensR w (.slice a n c) l) {i : Nat} {t : SeenT} (hi : l[i]? = some t) :
  ∃ b o xa xc, a = some ⟨b, o, none⟩ ∧ b < w.heap.size ∧ w.cell? ⟨b, o + i * 5, none⟩ = some (.int .i64 t.1) ∧ w.cell? ⟨b, o + i * 5 + 1, none⟩ = some (.slice xa t.2.1.length xc) ∧ w.cell? ⟨b, o + i * 5 + 2, none⟩ = some (.int .i64 t.2.2.1) ∧
   w.cell? ⟨b, o + i * 5 + 3, none⟩ = some (.int .i64 t.2.2.2.1) ∧ w.cell? ⟨b, o + i * 5 + 4, none⟩ = some (.bool t.2.2.2.2) ∧ Ints .i64 w (.slice xa t.2.1.length xc) t.2.1 := by
 obtain ⟨a', c', e, _, _, _, h⟩ := h
 injection e with e1 e2 e3
 subst e1
 obtain ⟨b, o, xv, e, hb, c0, c1, c2, c3, c4, hx⟩ := h i t hi
 obtain ⟨xa, xc, rfl⟩ := hx.shape
 exact ⟨b, o, xa, xc, e, hb, c0, c1, c2, c3, c4, hx⟩

theorem seens_nil (w : World) (c : Nat) (hc : c ≤ 9223372036854775807) : SeensR w (.slice none 0 c) [] := ⟨none, c, rfl, by simp, hc, by simp, fun i t hi => by simp at hi⟩

/-- v is a slice of alerts. -/
def AlertsR (w : World) (v : Value) (l : List AlertT) : Prop :=
 ∃ a c, v = .slice a l.length c ∧ l.length ≤ c ∧ c ≤ 9223372036854775807 ∧ l.length ≤ 140737488351232 ∧
  ∀ (i : Nat) (t : AlertT), l[i]? = some t → ∃ b o, a = some ⟨b, o, none⟩ ∧ b < w.heap.size ∧ w.cell? ⟨b, o + i * 6, none⟩ = some (.int .i64 t.1) ∧ w.cell? ⟨b, o + i * 6 + 1, none⟩ = some (.int .i64 t.2.1) ∧ w.cell? ⟨b, o + i * 6 + 2, none⟩ = some (.int .i64 t.2.2.1.1) ∧
   w.cell? ⟨b, o + i * 6 + 3, none⟩ = some (.int .i64 t.2.2.1.2) ∧ w.cell? ⟨b, o + i * 6 + 4, none⟩ = some (.int .i64 t.2.2.2.1) ∧ w.cell? ⟨b, o + i * 6 + 5, none⟩ = some (.int .i64 t.2.2.2.2)

theorem AlertsR.below {w w' : World} {v : Value} {l : List AlertT} (h : AlertsR w v l) (B : Below w.heap.size w w') : AlertsR w' v l := by
 obtain ⟨a, c, e, h1, h2, h3, h⟩ := h
 refine ⟨a, c, e, h1, h2, h3, fun i t hi => ?_⟩
 obtain ⟨b, o, e, hb, c0, c1, c2, c3, c4, c5⟩ := h i t hi
 exact ⟨b, o, e, Nat.lt_of_lt_of_le hb B.size, (B.cell (p := ⟨b, _, none⟩) hb).trans c0, (B.cell (p := ⟨b, _, none⟩) hb).trans c1, (B.cell (p := ⟨b, _, none⟩) hb).trans c2, (B.cell (p := ⟨b, _, none⟩) hb).trans c3, (B.cell (p := ⟨b, _, none⟩) hb).trans c4, (B.cell (p := ⟨b, _, none⟩) hb).trans c5⟩

theorem AlertsR.shape {w : World} {v : Value} {l : List AlertT} (h : AlertsR w v l) : ∃ a c, v = .slice a l.length c := by
 obtain ⟨a, c, e, _⟩ := h
 exact ⟨a, c, e⟩

theorem alerts_nil (w : World) (c : Nat) (hc : c ≤ 9223372036854775807) : AlertsR w (.slice none 0 c) [] := ⟨none, c, rfl, by simp, hc, by simp, fun i t hi => by simp at hi⟩
end Go.Proofs.YtgobbecpnjelmaaGreat

namespace Go.Proofs.YtgobbecpnjelmaaGreat
open Go.RowKit

def toF (p : GrV) : TreeP × Value := (p.1.1, p.2)

set_option maxRecDepth 100000 in
set_option maxHeartbeats 4000000 in
theorem rtrees14_any (a : Option Addr) (n c : Nat) (ps : List GrV) (w : World) (hl : ps.length = n) (hn : n ≤ 1000000) (hsh : ∀ p ∈ ps, ∃ na m nc, p.2 = .slice na m nc)
  (hc : ∀ (i : Nat) (p : GrV), ps[i]? = some p → ∃ b o, a = some ⟨b, o, none⟩ ∧ b < w.heap.size ∧ w.cell? ⟨b, o + i * 3, none⟩ = some (.int .i64 p.1.1.dim) ∧ w.cell? ⟨b, o + i * 3 + 1, none⟩ = some p.2) :
  Calls Tryz.prog 68 #[.slice a n c] w fun e w' => ∃ v', e = .returned v' ∧ w'.ownsRow w.heap.size 106 2 v' n ((ps.map toF).flatMap rowF) ∧ Below w.heap.size w w' := by
 have HL := hH hl
 have HS := hH hsh
 have HC := hH hc
 have hnb : (n : Int) ≤ 1000000 := by omega
 clear hl hsh hc
 go_enter Tryz.func68, Tryz.ntmps68
 go_wp2_with fail
 go_loopw [3, 4] (fun o idx wr => ∃ k : Nat, idx = .int .i64 k ∧ k ≤ n ∧ wr.ownsRow w.heap.size 106 2 o k (((ps.take k).map toF).flatMap rowF) ∧ Below w.heap.size w wr) (fun _ idx _ => n - (intOf idx).toNat)
 case atStart => exact ⟨0, rfl, by omega, World.ownsRow_nil _ _ _ _, Below.refl _ _⟩
 case round =>
  obtain ⟨k, rfl, hk, hown, hbr⟩ := hrel
  have HO := hH hown
  have BR := hH hbr
  have hz := hbr.size
  by_cases hlt : k < n
  ·obtain ⟨p, hp⟩ := getElem?_ex (l := ps) (k := k) (by rw [HL.out]; exact hlt)
   obtain ⟨b, o, rfl, hb, c0, c1⟩ := HC.out k p hp
   have e0 := (hbr.cell (p := ⟨b, o + k * 3, none⟩) hb).trans c0
   have e1 := (hbr.cell (p := ⟨b, o + k * 3 + 1, none⟩) hb).trans c1
   obtain ⟨na, m, nc, hpv⟩ := HS.out p (List.mem_of_getElem? hp)
   have HTK := hH (show ((ps.take (k + 1)).map toF).flatMap rowF = ((ps.take k).map toF).flatMap rowF ++ [.int .i64 p.1.1.dim, .slice na m nc] by
    rw [List.take_add_one, hp, List.map_append, List.flatMap_append, ← hpv]; rfl)
   rw [hpv] at e1
   have i1 : (0 : Int) ≤ (k : Int) := by omega
   have i2 : (k : Int) < (n : Int) := by omega
   generalize p.1.1.dim = d at *
   obtain ⟨XS, hXS⟩ : ∃ XS, ((ps.take k).map toF).flatMap rowF = XS := ⟨_, rfl⟩
   rw [hXS] at HO HTK
   clear c0 c1 hp hown hbr hpv hXS
   go_wp2_with (at_builtin; go_must (refine app1 rfl _ _ 95 rfl Tryz.underlying95 eiTree w.heap.size (by rfl) HO.out (by rfl) rfl (by simp [Value.oneCell']) (by omega) (by omega) ?_))
   intro v5 w5 hown5 hb5 _
   have OWN5 := hH hown5
   have B5 := hH (show Below w.heap.size w w5 from below_tr BR.out hb5)
   clear hown5 hb5
   go_wp2_with fail
   go_roundw
   case rel => exact ⟨k + 1, by go_num, by omega, by rw [HTK.out]; exact OWN5.out, B5.out⟩
   case measure => simp [intOf] <;> omega
  ·obtain rfl : k = n := by omega
   rw [List.take_of_length_le (by rw [HL.out]; exact Nat.le_refl _)] at hown
   have HOW := hH hown
   obtain ⟨oa, om, oc, rfl⟩ := own_shape hown
   clear hown
   go_wp2_with fail
   go_ret
   exact ⟨_, rfl, HOW.out, BR.out⟩

theorem trees14_in (v : Value) (l : List (TreeP × Int)) (w : World) (h : GrownsR w v l) (hn : l.length ≤ 1000) :
  Calls Tryz.prog 68 #[v] w fun e w' => ∃ v', e = .returned v' ∧ TreesR w' v' (l.map (·.1)) ∧ Below w.heap.size w w' := by
 obtain ⟨ps, hp1, hp2, ad, cc, rfl, hp3⟩ := growns_vals h
 have hl : ps.length = l.length := by rw [← hp1, List.length_map]
 refine (rtrees14_any ad l.length cc ps w hl (by omega) (fun p hp => ?_) (fun i p hp => ?_)).mono ?_
 ·obtain ⟨_, a, c, e, _⟩ := hp2 p hp
  exact ⟨a, _, c, e⟩
 ·obtain ⟨b, o, g1, g2, g3, g4, _⟩ := hp3 i p hp
  exact ⟨b, o, g1, g2, g3, g4⟩
 ·rintro e w' ⟨v', rfl, ho, hb⟩
  refine ⟨v', rfl, ?_, hb⟩
  have := own_trees ho (by rw [List.length_map, hl]) (by omega) (fun q hq => by
   obtain ⟨p, hp, rfl⟩ := List.mem_map.1 hq
   exact ((hp2 p hp).2.below hb))
  rw [List.map_map] at this
  rw [← hp1, List.map_map]
  exact this

def muchG (l : List (TreeP × Int)) : Bool := decide (30 < l.length) || muchT (l.map (·.1))

theorem argGrowns_vals {w : World} {v : Value} {l : List (TreeP × Int)} (h : ArgGrowns w v l) : ∃ ps : List GrV, ps.map (·.1) = l ∧ (∀ p ∈ ps, ArgNodes w p.2 p.1.1.nodes) ∧ ∃ a c, v = .slice a l.length c ∧
  ∀ (i : Nat) (p : GrV), ps[i]? = some p → ∃ b o, a = some ⟨b, o, none⟩ ∧ b < w.heap.size ∧ w.cell? ⟨b, o + i * 3, none⟩ = some (.int .i64 p.1.1.dim) ∧ w.cell? ⟨b, o + i * 3 + 1, none⟩ = some p.2 := by
 obtain ⟨a, c, e, _, _, h⟩ := h
 obtain ⟨V, hV1, hV2⟩ := list_of_ex (m := l.length) (P := fun i (nv : Value) => ∀ t, l[i]? = some t → ∃ b o, a = some ⟨b, o, none⟩ ∧ b < w.heap.size ∧ w.cell? ⟨b, o + i * 3, none⟩ = some (.int .i64 t.1.dim) ∧ w.cell? ⟨b, o + i * 3 + 1, none⟩ = some nv ∧ ArgNodes w nv t.1.nodes) (by
  intro i hi
  obtain ⟨t, ht⟩ := getElem?_ex (l := l) (k := i) hi
  obtain ⟨b, o, nv, g1, g2, g3, g4, _, _, g7⟩ := h i t ht
  refine ⟨nv, fun t' ht' => ?_⟩
  rw [ht] at ht'
  injection ht' with ht'
  subst ht'
  exact ⟨b, o, g1, g2, g3, g4, g7⟩)
 refine ⟨l.zip V, List.map_fst_zip (by rw [hV1]; exact Nat.le_refl _), fun p hp => ?_, a, c, e, fun i p hp => ?_⟩
 ·obtain ⟨i, hi⟩ := List.getElem?_of_mem hp
  rw [List.getElem?_zip_eq_some] at hi
  obtain ⟨_, _, _, _, _, _, g7⟩ := hV2 i p.2 hi.2 p.1 hi.1
  exact g7
 ·rw [List.getElem?_zip_eq_some] at hp
  obtain ⟨b, o, g1, g2, g3, g4, _⟩ := hV2 i p.2 hp.2 p.1 hp.1
  exact ⟨b, o, g1, g2, g3, g4⟩

theorem own_argTrees {w : World} {base e n : Nat} {v : Value} {ps : List (TreeP × Value)} (h : w.ownsRow base e 2 v n (ps.flatMap rowF)) (hn : n = ps.length)
  (hp : ∀ p ∈ ps, ArgNodes w p.2 p.1.nodes) : ArgTrees w v (ps.map (·.1)) := by
 subst hn
 rcases h.2 with ⟨rfl, h0⟩ | ⟨g, cap, cur, rfl, hb, hg, h1, h2, h3, h4⟩
 ·have : ps = [] := List.eq_nil_of_length_eq_zero h0
  subst this
  exact ⟨none, 0, rfl, by simp, by omega, fun i x hi => by simp at hi⟩
 ·refine ⟨some ⟨g, 0, none⟩, cap, by rw [List.length_map], by rw [List.length_map]; exact h1, by simpa [maxLen] using h2, fun i t hi => ?_⟩
  rw [List.getElem?_map] at hi
  cases hpi : ps[i]? with
  | none => rw [hpi] at hi; cases hi
  | some p =>
   rw [hpi] at hi
   obtain rfl : p.1 = t := by simpa using hi
   have hlt : i < ps.length := (List.getElem?_eq_some_iff.1 hpi).1
   obtain ⟨r0, r1⟩ := rowF_at ps i p hpi
   have c0 := (h.cellAt (i * 2) (by omega)).trans r0
   have c1 := (h.cellAt (i * 2 + 1) (by omega)).trans r1
   exact ⟨g, 0, p.2, rfl, (Array.getElem?_eq_some_iff.1 hg).1, by rw [Nat.zero_add]; exact c0, by rw [Nat.zero_add]; exact c1, hp p (List.mem_of_getElem? hpi)⟩

theorem trees14_arg (v : Value) (l : List (TreeP × Int)) (w : World) (h : ArgGrowns w v l) (hn : l.length ≤ 1000) :
  Calls Tryz.prog 68 #[v] w fun e w' => ∃ v', e = .returned v' ∧ ArgTrees w' v' (l.map (·.1)) ∧ Below w.heap.size w w' := by
 obtain ⟨ps, hp1, hp2, ad, cc, rfl, hp3⟩ := argGrowns_vals h
 have hl : ps.length = l.length := by rw [← hp1, List.length_map]
 refine (rtrees14_any ad l.length cc ps w hl (by omega) (fun p hp => ?_) hp3).mono ?_
 ·obtain ⟨a, c, e, _⟩ := hp2 p hp
  exact ⟨a, _, c, e⟩
 ·rintro e w' ⟨v', rfl, ho, hb⟩
  refine ⟨v', rfl, ?_, hb⟩
  have := own_argTrees ho (by rw [List.length_map, hl]) (fun q hq => by
   obtain ⟨p, hp, rfl⟩ := List.mem_map.1 hq
   exact ((hp2 p hp).below hb))
  rw [List.map_map] at this
  rw [← hp1, List.map_map]
  exact this

set_option maxHeartbeats 1000000 in
theorem rmuch14_any (v : Value) (l : List (TreeP × Int)) (w : World) (h : ArgGrowns w v l) :
  Calls Tryz.prog 25 #[v] w fun e w' => e = .returned (.bool (muchG l)) ∧ Below w.heap.size w w' := by
 have HA := hH h
 unfold muchG
 by_cases h2 : 30 < l.length
 ·rw [decide_eq_true h2, Bool.true_or]
  obtain ⟨ad, cc, rfl, hc1, hc2, _⟩ := h
  obtain ⟨n, hn⟩ : ∃ n, l.length = n := ⟨_, rfl⟩
  rw [hn] at h2 hc1 ⊢
  clear hn
  have hnb : (n : Int) ≤ 9223372036854775807 := by omega
  have h3 : (30 : Int) < n := by omega
  go_enter Tryz.func25, Tryz.ntmps25
  go_wp2_with fail
  go_ret
  exact ⟨rfl, bw⟩
 ·rw [decide_eq_false h2, Bool.false_or]
  have HT := hH (fun W (hW : ArgGrowns W v l) => trees14_arg v l W hW (by omega))
  have HM := hH (fun v' W (hW : ArgTrees W v' (l.map (·.1))) => rmuch12_any v' _ W hW)
  obtain ⟨ad, cc, rfl, hc1, hc2, _⟩ := h
  generalize l.map (·.1) = L at *
  generalize muchT L = M at *
  obtain ⟨n, hn⟩ : ∃ n, l.length = n := ⟨_, rfl⟩
  rw [hn] at h2 hc1 HA HT ⊢
  clear hn
  have h3 : (n : Int) ≤ 30 := by omega
  have j3 : decide ((30 : Int) < n) = false := decide_eq_false (by omega)
  go_enter Tryz.func25, Tryz.ntmps25
  go_wp2_with fail
  (with_reducible refine (HT.out _ (HA.out.below bw)).mono ?_)
  rintro e w1 ⟨v1, rfl, t1, b1⟩
  have T1 := hH t1
  have B1 := hH b1
  obtain ⟨ta, tc, rfl, _⟩ := t1
  clear b1
  go_wp2_with fail
  (with_reducible refine (HM.out _ _ T1.out).mono ?_)
  rintro e w2 ⟨rfl, b2⟩
  have B2 := hH (show Below w.heap.size w w2 from B1.out.trans (b2.mono B1.out.size))
  clear b2
  go_wp2_with fail
  go_ret
  exact ⟨by first | rfl | (simp [j3]; done), B2.out⟩
end Go.Proofs.YtgobbecpnjelmaaGreat

namespace Go.Proofs.YtgobbecpnjelmaaGreat
open Go.ChangeShapes Go.WideShapes Go.ChangeAt Go.RowKit Go.Deep

/-- A slice of structs of m0 cells, each of which reads as E tells. -/
theorem trod_rows {H : Type} {enc : TypeId × Value → H} {P : Program} {w : World} {base : Nat} {held : Bool} {t e : TypeId} {m0 : Nat} (ht : P.underlying t = some (.slice e)) (ce : P.cellsOf e = m0) (hm0 : 0 < m0) {α : Type} {E : List Value → α → Prop}
  (one : ∀ cs n y, cs.length = m0 → DataW.trod enc P w base (fun _ => true) held n e cs = some y → ∃ q, E cs q)
  {fuel : Nat} {v : Value} {y : DataW H × List MemPlace} (h : DataW.trod enc P w base (fun _ => true) held fuel t [v] = some y) :
  ∃ (a : Option Addr) (c : Nat) (l : List α), v = .slice a l.length c ∧ l.length ≤ c ∧ c ≤ 9223372036854775807 ∧ ∀ (i : Nat) (q : α), l[i]? = some q → ∃ b o cs, a = some ⟨b, o, none⟩ ∧ b < w.heap.size ∧ cs.length = m0 ∧ E cs q ∧ ∀ (j : Nat) (u : Value), cs[j]? = some u → w.cell? ⟨b, o + i * m0 + j, none⟩ = some u := by
 rcases open_slice ht h with ⟨hcs, _⟩ | ⟨a, len, cap, m, n, D, Pl, hcs, hb, hl, hm, hmm, hx, hi⟩
 ·simp at hcs
  subst hcs
  exact ⟨none, 0, [], rfl, by simp, by omega, fun i q h => by simp at h⟩
 ·simp at hcs hmm
  subst hcs
  subst hmm
  have hs0 : 0 < len → a.spot = none := by
   intro h0
   obtain ⟨cs, hc, _⟩ := hi 0 (by omega)
   rw [ce] at hc
   obtain ⟨_, hcl, hat⟩ := World.cells?_some hc
   have a0 := hat 0 (by omega)
   rw [Go.Deep.add_add, show 0 * m0 + 0 = 0 by omega, List.getElem?_eq_getElem (by omega)] at a0
   exact spot_none a0
  have key : ∀ i, i < len → ∃ q : α, a.spot = none ∧ a.block < w.heap.size ∧ ∃ cs, cs.length = m0 ∧ E cs q ∧ ∀ (j : Nat) (u : Value), cs[j]? = some u → w.cell? ⟨a.block, a.off + i * m0 + j, none⟩ = some u := by
   intro i hil
   obtain ⟨cs, hc, ht⟩ := hi i (by omega)
   rw [ce] at hc
   obtain ⟨_, hcl, hat⟩ := World.cells?_some hc
   have hs := hs0 (by omega)
   obtain ⟨q, hq⟩ := one cs _ _ (by simpa using hcl) ht
   have hcc : ∀ (j : Nat) (u : Value), cs[j]? = some u → w.cell? ⟨a.block, a.off + i * m0 + j, none⟩ = some u := by
    intro j u hu
    obtain ⟨hj, e⟩ := List.getElem?_eq_some_iff.1 hu
    have a1 := hat j (by omega)
    rw [Go.Deep.add_add, add_none hs] at a1
    rw [Nat.add_assoc, a1]
    exact hu
   obtain ⟨u, hu⟩ := getElem?_ex (l := cs) (k := 0) (by omega)
   exact ⟨q, hs, World.block_lt_of_cell? w ⟨a.block, _, none⟩ (hcc 0 u hu), cs, by simpa using hcl, hq, hcc⟩
  obtain ⟨l, hll, hlp⟩ := list_of_ex (P := fun i (q : α) => a.spot = none ∧ a.block < w.heap.size ∧ ∃ cs, cs.length = m0 ∧ E cs q ∧ ∀ (j : Nat) (u : Value), cs[j]? = some u → w.cell? ⟨a.block, a.off + i * m0 + j, none⟩ = some u) key
  refine ⟨some a, m, l, by rw [hll], by omega, by unfold maxLen at hm; omega, fun i q hi => ?_⟩
  obtain ⟨g1, g2, cs, g3, g4, g5⟩ := hlp i q hi
  refine ⟨a.block, a.off, cs, ?_, g2, g3, g4, g5⟩
  obtain ⟨ab, ao, sp⟩ := a
  simp at g1
  subst g1
  rfl

/-- v is a slice of events. -/
def ArgSeens (w : World) (v : Value) (l : List SeenT) : Prop :=
 ∃ a c, v = .slice a l.length c ∧ l.length ≤ c ∧ c ≤ 9223372036854775807 ∧
  ∀ (i : Nat) (t : SeenT), l[i]? = some t → ∃ b o xv, a = some ⟨b, o, none⟩ ∧ b < w.heap.size ∧ w.cell? ⟨b, o + i * 5, none⟩ = some (.int .i64 t.1) ∧ w.cell? ⟨b, o + i * 5 + 1, none⟩ = some xv ∧ w.cell? ⟨b, o + i * 5 + 2, none⟩ = some (.int .i64 t.2.2.1) ∧
   w.cell? ⟨b, o + i * 5 + 3, none⟩ = some (.int .i64 t.2.2.2.1) ∧ w.cell? ⟨b, o + i * 5 + 4, none⟩ = some (.bool t.2.2.2.2) ∧ ArgInts .i64 w xv t.2.1

/-- v is a slice of alerts. -/
def ArgAlerts (w : World) (v : Value) (l : List AlertT) : Prop :=
 ∃ a c, v = .slice a l.length c ∧ l.length ≤ c ∧ c ≤ 9223372036854775807 ∧
  ∀ (i : Nat) (t : AlertT), l[i]? = some t → ∃ b o, a = some ⟨b, o, none⟩ ∧ b < w.heap.size ∧ w.cell? ⟨b, o + i * 6, none⟩ = some (.int .i64 t.1) ∧ w.cell? ⟨b, o + i * 6 + 1, none⟩ = some (.int .i64 t.2.1) ∧ w.cell? ⟨b, o + i * 6 + 2, none⟩ = some (.int .i64 t.2.2.1.1) ∧
   w.cell? ⟨b, o + i * 6 + 3, none⟩ = some (.int .i64 t.2.2.1.2) ∧ w.cell? ⟨b, o + i * 6 + 4, none⟩ = some (.int .i64 t.2.2.2.1) ∧ w.cell? ⟨b, o + i * 6 + 5, none⟩ = some (.int .i64 t.2.2.2.2)

theorem ArgSeens.below {w w' : World} {v : Value} {l : List SeenT} (h : ArgSeens w v l) (B : Below w.heap.size w w') : ArgSeens w' v l := by
 obtain ⟨a, c, e, h1, h2, h⟩ := h
 refine ⟨a, c, e, h1, h2, fun i t hi => ?_⟩
 obtain ⟨b, o, xv, e, hb, c0, c1, c2, c3, c4, hx⟩ := h i t hi
 exact ⟨b, o, xv, e, Nat.lt_of_lt_of_le hb B.size, (B.cell (p := ⟨b, _, none⟩) hb).trans c0, (B.cell (p := ⟨b, _, none⟩) hb).trans c1, (B.cell (p := ⟨b, _, none⟩) hb).trans c2, (B.cell (p := ⟨b, _, none⟩) hb).trans c3, (B.cell (p := ⟨b, _, none⟩) hb).trans c4, hx.below' B⟩

theorem ArgSeens.shape {w : World} {v : Value} {l : List SeenT} (h : ArgSeens w v l) : ∃ a c, v = .slice a l.length c := by
 obtain ⟨a, c, e, _⟩ := h
 exact ⟨a, c, e⟩

theorem ArgSeens.at {w : World} {a : Option Addr} {n c : Nat} {l : List SeenT} (h : ArgSeens w (.slice a n c) l) {i : Nat} {t : SeenT} (hi : l[i]? = some t) :
  ∃ b o xa xc, a = some ⟨b, o, none⟩ ∧ b < w.heap.size ∧ w.cell? ⟨b, o + i * 5, none⟩ = some (.int .i64 t.1) ∧ w.cell? ⟨b, o + i * 5 + 1, none⟩ = some (.slice xa t.2.1.length xc) ∧ w.cell? ⟨b, o + i * 5 + 2, none⟩ = some (.int .i64 t.2.2.1) ∧
   w.cell? ⟨b, o + i * 5 + 3, none⟩ = some (.int .i64 t.2.2.2.1) ∧ w.cell? ⟨b, o + i * 5 + 4, none⟩ = some (.bool t.2.2.2.2) ∧ ArgInts .i64 w (.slice xa t.2.1.length xc) t.2.1 := by
 obtain ⟨a', c', e, _, _, h⟩ := h
 injection e with e1 e2 e3
 subst e1
 obtain ⟨b, o, xv, e, hb, c0, c1, c2, c3, c4, hx⟩ := h i t hi
 have hx0 := hx
 obtain ⟨xa, xc, rfl, _⟩ := hx
 exact ⟨b, o, _, _, e, hb, c0, c1, c2, c3, c4, hx0⟩

theorem ArgAlerts.shape {w : World} {v : Value} {l : List AlertT} (h : ArgAlerts w v l) : ∃ a c, v = .slice a l.length c := by
 obtain ⟨a, c, e, _⟩ := h
 exact ⟨a, c, e⟩

/-- Few enough: so they are alerts. -/
theorem ArgAlerts.alerts {w : World} {v : Value} {l : List AlertT} (h : ArgAlerts w v l) (hl : l.length ≤ 100) : AlertsR w v l := by
 obtain ⟨a, c, e, h1, h2, h⟩ := h
 exact ⟨a, c, e, h1, h2, by omega, h⟩

/-- Few enough: so they are events. -/
theorem ArgSeens.seens {w : World} {v : Value} {l : List SeenT} (h : ArgSeens w v l) (hl : l.length ≤ 300) (hx : ∀ t ∈ l, t.2.1.length ≤ 20) : SeensR w v l := by
 obtain ⟨a, c, e, h1, h2, h⟩ := h
 refine ⟨a, c, e, h1, h2, by omega, fun i t hi => ?_⟩
 obtain ⟨b, o, xv, e, hb, c0, c1, c2, c3, c4, g⟩ := h i t hi
 exact ⟨b, o, xv, e, hb, c0, c1, c2, c3, c4, g.ints (by have := hx t (List.mem_of_getElem? hi); omega)⟩

/-- The way to work of a state, as its numbers. -/
def StP.conf (s : StP) : List Int := [s.c0, s.c1, s.c2, s.c3, s.c4, s.c5, s.c6, s.c7, s.c8, s.c9, s.c10]

/-- v is a state. -/
def ArgState (w : World) (v : Value) (s : StP) : Prop :=
 ∃ wv fv av, v = .agg #[.int .i64 s.c0, .int .i64 s.c1, .int .i64 s.c2, .int .i64 s.c3, .int .i64 s.c4, .int .i64 s.c5, .int .i64 s.c6, .int .i64 s.c7, .int .i64 s.c8, .int .i64 s.c9, .int .i64 s.c10, .int .i64 s.count, .int .i64 s.last, .int .i64 s.seq, wv, fv, av] ∧ ArgSeens w wv s.win ∧ ArgGrowns w fv s.forest ∧ ArgAlerts w av s.alerts ∧
  (∀ x ∈ s.conf, Ok64 x) ∧ Ok64 s.count ∧ Ok64 s.last ∧ Ok64 s.seq

section
variable {H : Type} {enc : TypeId × Value → H} {w : World} {base : Nat} {held : Bool}

set_option maxRecDepth 100000 in
theorem trod_seen (cs : List Value) (n : Nat) (y : DataW H × List MemPlace) (hcs : cs.length = 5) (h : DataW.trod enc Tryz.prog w base (fun _ => true) held n 55 cs = some y) :
  ∃ t : SeenT, ∃ xv, cs = [.int .i64 t.1, xv, .int .i64 t.2.2.1, .int .i64 t.2.2.2.1, .bool t.2.2.2.2] ∧ ArgInts .i64 w xv t.2.1 := by
 obtain ⟨n, hf⟩ := structFields Tryz.underlying55 h
 have ci : Tryz.prog.cellsOf 3 = 1 := by kernel_rfl
 have cb : Tryz.prog.cellsOf 4 = 1 := by kernel_rfl
 have cs' : Tryz.prog.cellsOf 36 = 1 := by kernel_rfl
 have cc : Tryz.prog.cellsOf 32 = 2 := by kernel_rfl
 match cs, hcs with
 | [c0, c1, c2, c3, c4], _ =>
  obtain ⟨y0, h0⟩ := hf 0 _ rfl
  obtain ⟨y1, h1⟩ := hf 1 _ rfl
  obtain ⟨y2, h2⟩ := hf 2 _ rfl
  obtain ⟨y3, h3⟩ := hf 3 _ rfl
  (try dsimp only at h0 h1 h2 h3)
  rw [ci] at h0
  rw [cs'] at h1
  rw [cc] at h2
  rw [cb] at h3
  obtain ⟨z0, rfl, w0⟩ := one_int Tryz.underlying3 h0
  obtain ⟨x, hx⟩ := trod_ints Tryz.underlying36 Tryz.underlying3 ci h1
  obtain ⟨n', hg⟩ := structFields Tryz.underlying32 h2
  obtain ⟨q0, g0⟩ := hg 0 _ rfl
  obtain ⟨q1, g1⟩ := hg 1 _ rfl
  (try dsimp only at g0 g1)
  rw [ci] at g0 g1
  obtain ⟨z2, rfl, w2⟩ := one_int Tryz.underlying3 g0
  obtain ⟨z3, rfl, w3⟩ := one_int Tryz.underlying3 g1
  obtain ⟨z4, rfl⟩ := one_bool Tryz.underlying4 h3
  exact ⟨(z0, x, z2, z3, z4), c1, rfl, hx⟩

set_option maxRecDepth 100000 in
theorem trod_alert (cs : List Value) (n : Nat) (y : DataW H × List MemPlace) (hcs : cs.length = 6) (h : DataW.trod enc Tryz.prog w base (fun _ => true) held n 71 cs = some y) :
  ∃ t : AlertT, cs = [.int .i64 t.1, .int .i64 t.2.1, .int .i64 t.2.2.1.1, .int .i64 t.2.2.1.2, .int .i64 t.2.2.2.1, .int .i64 t.2.2.2.2] := by
 obtain ⟨n, hf⟩ := structFields Tryz.underlying71 h
 have ci : Tryz.prog.cellsOf 3 = 1 := by kernel_rfl
 have cc : Tryz.prog.cellsOf 32 = 2 := by kernel_rfl
 match cs, hcs with
 | [c0, c1, c2, c3, c4, c5], _ =>
  obtain ⟨y0, h0⟩ := hf 0 _ rfl
  obtain ⟨y1, h1⟩ := hf 1 _ rfl
  obtain ⟨y2, h2⟩ := hf 2 _ rfl
  obtain ⟨y3, h3⟩ := hf 3 _ rfl
  (try dsimp only at h0 h1 h2 h3)
  rw [ci] at h0 h1
  rw [cc] at h2 h3
  obtain ⟨z0, rfl, _⟩ := one_int Tryz.underlying3 h0
  obtain ⟨z1, rfl, _⟩ := one_int Tryz.underlying3 h1
  obtain ⟨n', hg⟩ := structFields Tryz.underlying32 h2
  obtain ⟨q0, g0⟩ := hg 0 _ rfl
  obtain ⟨q1, g1⟩ := hg 1 _ rfl
  (try dsimp only at g0 g1)
  rw [ci] at g0 g1
  obtain ⟨z2, rfl, _⟩ := one_int Tryz.underlying3 g0
  obtain ⟨z3, rfl, _⟩ := one_int Tryz.underlying3 g1
  obtain ⟨n', hk⟩ := structFields Tryz.underlying32 h3
  obtain ⟨q2, k0⟩ := hk 0 _ rfl
  obtain ⟨q3, k1⟩ := hk 1 _ rfl
  (try dsimp only at k0 k1)
  rw [ci] at k0 k1
  obtain ⟨z4, rfl, _⟩ := one_int Tryz.underlying3 k0
  obtain ⟨z5, rfl, _⟩ := one_int Tryz.underlying3 k1
  exact ⟨(z0, z1, (z2, z3), (z4, z5)), rfl⟩

set_option maxRecDepth 100000 in
theorem trod_seens {fuel : Nat} {v : Value} {y : DataW H × List MemPlace} (h : DataW.trod enc Tryz.prog w base (fun _ => true) held fuel 24 [v] = some y) : ∃ l, ArgSeens w v l := by
 obtain ⟨a, c, l, rfl, h1, h2, h3⟩ := trod_rows (m0 := 5) (E := fun cs (t : SeenT) => ∃ xv, cs = [.int .i64 t.1, xv, .int .i64 t.2.2.1, .int .i64 t.2.2.2.1, .bool t.2.2.2.2] ∧ ArgInts .i64 w xv t.2.1) Tryz.underlying24 rJ (by decide) (fun cs n y hcs hy => trod_seen cs n y hcs hy) h
 refine ⟨l, a, c, rfl, h1, h2, fun i t hi => ?_⟩
 obtain ⟨b, o, cs, e, hb, _, ⟨xv, rfl, hx⟩, hc⟩ := h3 i t hi
 exact ⟨b, o, xv, e, hb, hc 0 _ rfl, hc 1 _ rfl, hc 2 _ rfl, hc 3 _ rfl, hc 4 _ rfl, hx⟩

set_option maxRecDepth 100000 in
theorem trod_alerts {fuel : Nat} {v : Value} {y : DataW H × List MemPlace} (h : DataW.trod enc Tryz.prog w base (fun _ => true) held fuel 26 [v] = some y) : ∃ l, ArgAlerts w v l := by
 obtain ⟨a, c, l, rfl, h1, h2, h3⟩ := trod_rows (m0 := 6) (E := fun cs (t : AlertT) => cs = [.int .i64 t.1, .int .i64 t.2.1, .int .i64 t.2.2.1.1, .int .i64 t.2.2.1.2, .int .i64 t.2.2.2.1, .int .i64 t.2.2.2.2]) Tryz.underlying26 rJ (by decide) (fun cs n y hcs hy => trod_alert cs n y hcs hy) h
 refine ⟨l, a, c, rfl, h1, h2, fun i t hi => ?_⟩
 obtain ⟨b, o, cs, e, hb, _, rfl, hc⟩ := h3 i t hi
 exact ⟨b, o, e, hb, hc 0 _ rfl, hc 1 _ rfl, hc 2 _ rfl, hc 3 _ rfl, hc 4 _ rfl, hc 5 _ rfl⟩

set_option maxRecDepth 100000 in
theorem trod_growns {fuel : Nat} {v : Value} {y : DataW H × List MemPlace} (h : DataW.trod enc Tryz.prog w base (fun _ => true) held fuel 25 [v] = some y) : ∃ l, ArgGrowns w v l := by
 obtain ⟨_, _, _, _, _, _, _, _, R⟩ := treeRows
 obtain ⟨a, c, l, rfl, h1, h2, h3⟩ := trod_rows (m0 := 3) (E := fun cs (q : TreeP × Int) => ∃ nv, cs = [.int .i64 q.1.dim, nv, .int .i64 q.2] ∧ (Lit.int .i64 q.2).wf = true ∧ ArgNodes w nv q.1.nodes) Tryz.underlying25 rJ (by decide) (fun cs n y hcs hy => by
  match cs, hcs with
  | [c0, c1, c2], _ =>
   obtain ⟨q, rfl, rfl, hwf, hn⟩ := trod_grown Tryz.underlying108 ⟨rfl, rfl, rJ⟩ ⟨rfl, rfl, rJ⟩ R c0 c1 c2 _ _ hy
   exact ⟨q, c1, rfl, hwf, hn⟩) h
 refine ⟨l, a, c, rfl, h1, h2, fun i t hi => ?_⟩
 obtain ⟨b, o, cs, e, hb, _, ⟨nv, rfl, hwf, hn⟩, hc⟩ := h3 i t hi
 exact ⟨b, o, nv, e, hb, hc 0 _ rfl, hc 1 _ rfl, hc 2 _ rfl, hwf, hn⟩

set_option maxRecDepth 100000 in
set_option maxHeartbeats 2000000 in
theorem argState_in {r : Reach} {b0 : Nat} {v : Value} {d : DataW H} {p : List MemPlace}
  (hv : Value.okWide Tryz.prog w r b0 28 v) (h : DataW.Trod enc Tryz.prog w base (fun _ => true) held 28 v d p) : ∃ s, ArgState w v s := by
 obtain ⟨cs, rfl, hcs, n, hf⟩ := argFields Tryz.underlying28 hv h
 rw [show Tryz.prog.cellsOf 28 = 17 by kernel_rfl] at hcs
 have ci : Tryz.prog.cellsOf 3 = 1 := by kernel_rfl
 have cc : Tryz.prog.cellsOf 23 = 11 := by kernel_rfl
 have k4 : Tryz.prog.cellsOf 24 = 1 := by kernel_rfl
 have k5 : Tryz.prog.cellsOf 25 = 1 := by kernel_rfl
 have k6 : Tryz.prog.cellsOf 26 = 1 := by kernel_rfl
 match cs, hcs with
 | [c0, c1, c2, c3, c4, c5, c6, c7, c8, c9, c10, d0, d1, d2, d3, d4, d5], _ =>
  obtain ⟨y0, h0⟩ := hf 0 _ rfl
  obtain ⟨y1, h1⟩ := hf 1 _ rfl
  obtain ⟨y2, h2⟩ := hf 2 _ rfl
  obtain ⟨y3, h3⟩ := hf 3 _ rfl
  obtain ⟨y4, h4⟩ := hf 4 _ rfl
  obtain ⟨y5, h5⟩ := hf 5 _ rfl
  obtain ⟨y6, h6⟩ := hf 6 _ rfl
  clear hf
  (try dsimp only at h0 h1 h2 h3 h4 h5 h6)
  rw [cc] at h0
  rw [ci] at h1 h2 h3
  rw [k4] at h4
  rw [k5] at h5
  rw [k6] at h6
  obtain ⟨n', hg⟩ := structFields Tryz.underlying23 h0
  obtain ⟨q0, g0⟩ := hg 0 _ rfl
  obtain ⟨q1, g1⟩ := hg 1 _ rfl
  obtain ⟨q2, g2⟩ := hg 2 _ rfl
  obtain ⟨q3, g3⟩ := hg 3 _ rfl
  obtain ⟨q4, g4⟩ := hg 4 _ rfl
  obtain ⟨q5, g5⟩ := hg 5 _ rfl
  obtain ⟨q6, g6⟩ := hg 6 _ rfl
  obtain ⟨q7, g7⟩ := hg 7 _ rfl
  obtain ⟨q8, g8⟩ := hg 8 _ rfl
  obtain ⟨q9, g9⟩ := hg 9 _ rfl
  obtain ⟨q10, g10⟩ := hg 10 _ rfl
  (try dsimp only at g0 g1 g2 g3 g4 g5 g6 g7 g8 g9 g10)
  rw [ci] at g0 g1 g2 g3 g4 g5 g6 g7 g8 g9 g10
  obtain ⟨z0, rfl, u0⟩ := one_int Tryz.underlying3 g0
  obtain ⟨z1, rfl, u1⟩ := one_int Tryz.underlying3 g1
  obtain ⟨z2, rfl, u2⟩ := one_int Tryz.underlying3 g2
  obtain ⟨z3, rfl, u3⟩ := one_int Tryz.underlying3 g3
  obtain ⟨z4, rfl, u4⟩ := one_int Tryz.underlying3 g4
  obtain ⟨z5, rfl, u5⟩ := one_int Tryz.underlying3 g5
  obtain ⟨z6, rfl, u6⟩ := one_int Tryz.underlying3 g6
  obtain ⟨z7, rfl, u7⟩ := one_int Tryz.underlying3 g7
  obtain ⟨z8, rfl, u8⟩ := one_int Tryz.underlying3 g8
  obtain ⟨z9, rfl, u9⟩ := one_int Tryz.underlying3 g9
  obtain ⟨z10, rfl, u10⟩ := one_int Tryz.underlying3 g10
  obtain ⟨x1, rfl, v1⟩ := one_int Tryz.underlying3 h1
  obtain ⟨x2, rfl, v2⟩ := one_int Tryz.underlying3 h2
  obtain ⟨x3, rfl, v3⟩ := one_int Tryz.underlying3 h3
  obtain ⟨l4, hl4⟩ := trod_seens h4
  obtain ⟨l5, hl5⟩ := trod_growns h5
  obtain ⟨l6, hl6⟩ := trod_alerts h6
  refine ⟨⟨z0, z1, z2, z3, z4, z5, z6, z7, z8, z9, z10, x1, x2, x3, l4, l5, l6⟩, d3, d4, d5, rfl, hl4, hl5, hl6, ?_, v1, v2, v3⟩
  intro x hx
  simp [StP.conf] at hx
  rcases hx with rfl | rfl | rfl | rfl | rfl | rfl | rfl | rfl | rfl | rfl | rfl <;> assumption
end
end Go.Proofs.YtgobbecpnjelmaaGreat

namespace Go.Proofs.YtgobbecpnjelmaaGreat
open Go.RowKit

def mostV (B : Bool) (c0 c1 c2 c3 c9 : Int) : Int := if B = true then 56 + c1 * (15 + 5 * c0) + c2 * (8 + c3 + (c3 - 1) * (7 + c0)) + c9 * 28 else 0

set_option maxRecDepth 100000 in
set_option maxHeartbeats 4000000 in
theorem smost_any (c0 c1 c2 c3 c4 c5 c6 c7 c8 c9 c10 : Int) (w : World) (hw : Ok64 c7) :
  Calls Tryz.prog 17 #[.agg #[.int .i64 c0, .int .i64 c1, .int .i64 c2, .int .i64 c3, .int .i64 c4, .int .i64 c5, .int .i64 c6, .int .i64 c7, .int .i64 c8, .int .i64 c9, .int .i64 c10]] w fun e w' => e = .returned (.int .i64 (mostV (confB11 c0 c1 c2 c3 c4 c5 c6 c7 c8 c9 c10) c0 c1 c2 c3 c9)) ∧ Below w.heap.size w w' := by
 obtain ⟨B, hB⟩ : ∃ B, confB11 c0 c1 c2 c3 c4 c5 c6 c7 c8 c9 c10 = B := ⟨_, rfl⟩
 have HSR := hH (fun W => hB ▸ sright_any c0 c1 c2 c3 c4 c5 c6 c7 c8 c9 c10 W hw)
 rw [hB]
 cases B with
 | false =>
  clear hB
  go_enter Tryz.func17, Tryz.ntmps17
  go_wp2_with fail
  (with_reducible refine (HSR.out _).mono ?_); rintro e w1 ⟨rfl, b1⟩; have s1 : w.heap.size + 1 ≤ w1.heap.size := sz b1; have B1 := hJ w b1; clear b1
  go_wp2_with fail
  go_ret
  exact ⟨rfl, bx B1.out⟩
 | true =>
  obtain ⟨b0, b1, b2, b3, _, _, _, _, _, _, b9, _⟩ := conf_bounds hB
  obtain ⟨P1, hP1⟩ : ∃ P, (c3 - 1) * (7 + c0) = P := ⟨_, rfl⟩
  obtain ⟨P2, hP2⟩ : ∃ P, c1 * (15 + 5 * c0) = P := ⟨_, rfl⟩
  have p1 : 0 ≤ P1 ∧ P1 ≤ 63 * 15 := by rw [← hP1]; exact ⟨Int.mul_nonneg (by omega) (by omega), Int.mul_le_mul (by omega) (by omega) (by omega) (by omega)⟩
  have p2 : 0 ≤ P2 ∧ P2 ≤ 256 * 55 := by rw [← hP2]; exact ⟨Int.mul_nonneg (by omega) (by omega), Int.mul_le_mul (by omega) (by omega) (by omega) (by omega)⟩
  obtain ⟨P3, hP3⟩ : ∃ P, c2 * (8 + c3 + P1) = P := ⟨_, rfl⟩
  have p3 : 0 ≤ P3 ∧ P3 ≤ 16 * 1017 := by rw [← hP3]; exact ⟨Int.mul_nonneg (by omega) (by omega), Int.mul_le_mul (by omega) (by omega) (by omega) (by omega)⟩
  have HM := hH (show mostV true c0 c1 c2 c3 c9 = 56 + P2 + P3 + c9 * 28 from by unfold mostV; rw [if_pos rfl, hP1, hP2, hP3])
  have kw1 : IntKind.i64.wrap ((c3 - 1) * (7 + c0)) = P1 := by rw [hP1, IntKind.wrap_i64]; omega
  have kw2 : IntKind.i64.wrap (c1 * (15 + 5 * c0)) = P2 := by rw [hP2, IntKind.wrap_i64]; omega
  have kw3 : IntKind.i64.wrap (c2 * (8 + c3 + P1)) = P3 := by rw [hP3, IntKind.wrap_i64]; omega
  have kw4 : IntKind.i64.wrap (c9 * 28) = c9 * 28 := by rw [IntKind.wrap_i64]; omega
  have kw5 : IntKind.i64.wrap (5 * c0) = 5 * c0 := by rw [IntKind.wrap_i64]; omega
  rw [HM.out]
  clear hB hP1 hP2 hP3 HM
  go_enter Tryz.func17, Tryz.ntmps17
  go_wp2_with fail
  (with_reducible refine (HSR.out _).mono ?_); rintro e w1 ⟨rfl, b1⟩; have s1 : w.heap.size + 1 ≤ w1.heap.size := sz b1; have B1 := hJ w b1; obtain ⟨c1_0, c1_1, c1_2, c1_3, c1_4, c1_5, c1_6, c1_7, c1_8, c1_9, c1_10⟩ := k11 (w.heap.size) (.int .i64 c0) (.int .i64 c1) (.int .i64 c2) (.int .i64 c3) (.int .i64 c4) (.int .i64 c5) (.int .i64 c6) (.int .i64 c7) (.int .i64 c8) (.int .i64 c9) (.int .i64 c10) b1 aJ; obtain ⟨l1_0, n1_0, m1_0⟩ := lnm (show w.heap.size < w1.heap.size by omega); clear b1
  go_wp2_with fail
  go_ret
  exact ⟨rfl, bx B1.out⟩

theorem RowAt.keep {w w' : World} {b B : Nat} {T : TypeId} {cs : Array Value} (h : RowAt w b T cs) (k : Below B w w') (hb : b < B) : RowAt w' b T cs := (k.block b hb).trans h

theorem RowAt.only {w w' : World} {b : Nat} {r : Option Nat} {T : TypeId} {cs : Array Value} (h : RowAt w b T cs) (k : w.grownBy w' r) (hr : r ≠ some b) : RowAt w' b T cs := (k.block b h.lt (fun e => hr e.symm)).trans h

theorem rowz_new {W : World} {b : Nat} {T : TypeId} {cs : Array Value} (hb : b = W.heap.size) : RowAt (W.alloc (.cells cs T)) b T cs := by
 subst hb
 exact heap_alloc_new W (.cells cs T)

theorem RowAt.alloc {W : World} {b : Nat} {T : TypeId} {cs : Array Value} (h : RowAt W b T cs) (x : Obj) : RowAt (W.alloc x) b T cs := (Below.heap_alloc W x b h.lt).trans h

set_option maxRecDepth 100000 in
set_option maxHeartbeats 4000000 in
theorem snew_any (c0 c1 c2 c3 c4 c5 c6 c7 c8 c9 c10 : Int) (w : World) (hw : Ok64 c7) :
  Calls Tryz.prog 19 #[.agg #[.int .i64 c0, .int .i64 c1, .int .i64 c2, .int .i64 c3, .int .i64 c4, .int .i64 c5, .int .i64 c6, .int .i64 c7, .int .i64 c8, .int .i64 c9, .int .i64 c10]] w fun e w' => e = .returned (.tuple #[(if confB11 c0 c1 c2 c3 c4 c5 c6 c7 c8 c9 c10 = true then .agg #[.int .i64 c0, .int .i64 c1, .int .i64 c2, .int .i64 c3, .int .i64 c4, .int .i64 c5, .int .i64 c6, .int .i64 c7, .int .i64 c8, .int .i64 c9, .int .i64 c10, .int .i64 0, .int .i64 0, .int .i64 0, .slice none 0 0, .slice none 0 0, .slice none 0 0] else .agg #[.int .i64 0, .int .i64 0, .int .i64 0, .int .i64 0, .int .i64 0, .int .i64 0, .int .i64 0, .int .i64 0, .int .i64 0, .int .i64 0, .int .i64 0, .int .i64 0, .int .i64 0, .int .i64 0, .slice none 0 0, .slice none 0 0, .slice none 0 0]), .int .i64 (if confB11 c0 c1 c2 c3 c4 c5 c6 c7 c8 c9 c10 = true then 0 else 200)]) ∧ Below w.heap.size w w' := by
 obtain ⟨B, hB⟩ : ∃ B, confB11 c0 c1 c2 c3 c4 c5 c6 c7 c8 c9 c10 = B := ⟨_, rfl⟩
 have HSR := hH (fun W => hB ▸ sright_any c0 c1 c2 c3 c4 c5 c6 c7 c8 c9 c10 W hw)
 rw [hB]
 clear hB
 cases B with
 | false =>
  go_enter Tryz.func19, Tryz.ntmps19
  go_wp2_with fail
  have hr2 : RowAt ((w.alloc (.cells #[.int .i64 c0, .int .i64 c1, .int .i64 c2, .int .i64 c3, .int .i64 c4, .int .i64 c5, .int .i64 c6, .int .i64 c7, .int .i64 c8, .int .i64 c9, .int .i64 c10] 23)).alloc (.cells #[.int .i64 0, .int .i64 0, .int .i64 0, .int .i64 0, .int .i64 0, .int .i64 0, .int .i64 0, .int .i64 0, .int .i64 0, .int .i64 0, .int .i64 0, .int .i64 0, .int .i64 0, .int .i64 0, .slice none 0 0, .slice none 0 0, .slice none 0 0] 28)) (w.heap.size + 1) 28 #[.int .i64 0, .int .i64 0, .int .i64 0, .int .i64 0, .int .i64 0, .int .i64 0, .int .i64 0, .int .i64 0, .int .i64 0, .int .i64 0, .int .i64 0, .int .i64 0, .int .i64 0, .int .i64 0, .slice none 0 0, .slice none 0 0, .slice none 0 0] := rowz_new (by simp)
  (with_reducible refine (HSR.out _).mono ?_)
  rintro e w1 ⟨rfl, b1⟩
  have R2 := hH (hr2.keep b1 (by simp))
  have B1 := hJ w b1
  clear hr2 b1
  go_upto_region 2 with fail
  refine wp_region_lit ?_
  refine buildArm rfl 28 _ rfl [] rJ #[.int .i64 0, .int .i64 0, .int .i64 0, .int .i64 0, .int .i64 0, .int .i64 0, .int .i64 0, .int .i64 0, .int .i64 0, .int .i64 0, .int .i64 0, .int .i64 0, .int .i64 0, .int .i64 0, .slice none 0 0, .slice none 0 0, .slice none 0 0] rJ ?_
  (try simp only [Act.put, List.setIfInBounds_toArray, List.set_cons_zero, List.set_cons_succ])
  refine storeRow rfl 28 _ _ rfl R2.out (by rfl) (by rfl) rfl rJ rJ ?_
  intro w2 r2 g2
  have R3 := hH r2
  have B2 := hH (below_only (w0 := w) B1.out g2 (Nat.le_refl _) (by omega))
  clear r2 g2
  (try simp only [Act.put])
  go_wp2_with fail
  exact bodyPost_ret (v := .tuple #[.agg #[.int .i64 0, .int .i64 0, .int .i64 0, .int .i64 0, .int .i64 0, .int .i64 0, .int .i64 0, .int .i64 0, .int .i64 0, .int .i64 0, .int .i64 0, .int .i64 0, .int .i64 0, .int .i64 0, .slice none 0 0, .slice none 0 0, .slice none 0 0], .int .i64 200]) (ret_cell_tmp Tryz.results19 (by rfl) (by rfl) R3.out Tryz.underlying28 rfl rJ) rfl ⟨rfl, B2.out⟩
 | true =>
  go_enter Tryz.func19, Tryz.ntmps19
  go_wp2_with fail
  have hr1 : RowAt ((w.alloc (.cells #[.int .i64 c0, .int .i64 c1, .int .i64 c2, .int .i64 c3, .int .i64 c4, .int .i64 c5, .int .i64 c6, .int .i64 c7, .int .i64 c8, .int .i64 c9, .int .i64 c10] 23)).alloc (.cells #[.int .i64 0, .int .i64 0, .int .i64 0, .int .i64 0, .int .i64 0, .int .i64 0, .int .i64 0, .int .i64 0, .int .i64 0, .int .i64 0, .int .i64 0, .int .i64 0, .int .i64 0, .int .i64 0, .slice none 0 0, .slice none 0 0, .slice none 0 0] 28)) w.heap.size 23 #[.int .i64 c0, .int .i64 c1, .int .i64 c2, .int .i64 c3, .int .i64 c4, .int .i64 c5, .int .i64 c6, .int .i64 c7, .int .i64 c8, .int .i64 c9, .int .i64 c10] := (rowz_new rfl).alloc _
  have hr2 : RowAt ((w.alloc (.cells #[.int .i64 c0, .int .i64 c1, .int .i64 c2, .int .i64 c3, .int .i64 c4, .int .i64 c5, .int .i64 c6, .int .i64 c7, .int .i64 c8, .int .i64 c9, .int .i64 c10] 23)).alloc (.cells #[.int .i64 0, .int .i64 0, .int .i64 0, .int .i64 0, .int .i64 0, .int .i64 0, .int .i64 0, .int .i64 0, .int .i64 0, .int .i64 0, .int .i64 0, .int .i64 0, .int .i64 0, .int .i64 0, .slice none 0 0, .slice none 0 0, .slice none 0 0] 28)) (w.heap.size + 1) 28 #[.int .i64 0, .int .i64 0, .int .i64 0, .int .i64 0, .int .i64 0, .int .i64 0, .int .i64 0, .int .i64 0, .int .i64 0, .int .i64 0, .int .i64 0, .int .i64 0, .int .i64 0, .int .i64 0, .slice none 0 0, .slice none 0 0, .slice none 0 0] := rowz_new (by simp)
  (with_reducible refine (HSR.out _).mono ?_)
  rintro e w1 ⟨rfl, b1⟩
  have R1 := hH (hr1.keep b1 (by simp; omega))
  have R2 := hH (hr2.keep b1 (by simp))
  have B1 := hJ w b1
  clear hr1 hr2 b1
  go_upto_region 3 with fail
  refine wp_region_lit ?_
  refine loadRow rfl 23 _ rfl R1.out (by rfl) Tryz.underlying23 rfl rJ ?_
  (try simp only [Act.put, List.setIfInBounds_toArray, List.set_cons_zero, List.set_cons_succ])
  refine buildArm rfl 28 _ rfl [(0, .agg #[.int .i64 c0, .int .i64 c1, .int .i64 c2, .int .i64 c3, .int .i64 c4, .int .i64 c5, .int .i64 c6, .int .i64 c7, .int .i64 c8, .int .i64 c9, .int .i64 c10])] rJ #[.int .i64 c0, .int .i64 c1, .int .i64 c2, .int .i64 c3, .int .i64 c4, .int .i64 c5, .int .i64 c6, .int .i64 c7, .int .i64 c8, .int .i64 c9, .int .i64 c10, .int .i64 0, .int .i64 0, .int .i64 0, .slice none 0 0, .slice none 0 0, .slice none 0 0] rJ ?_
  (try simp only [Act.put, List.setIfInBounds_toArray, List.set_cons_zero, List.set_cons_succ])
  refine storeRow (cells := #[.int .i64 c0, .int .i64 c1, .int .i64 c2, .int .i64 c3, .int .i64 c4, .int .i64 c5, .int .i64 c6, .int .i64 c7, .int .i64 c8, .int .i64 c9, .int .i64 c10, .int .i64 0, .int .i64 0, .int .i64 0, .slice none 0 0, .slice none 0 0, .slice none 0 0]) rfl 28 _ _ rfl R2.out (by rfl) (by rfl) rfl rJ rJ ?_
  intro w2 r2 g2
  have R3 := hH r2
  have B2 := hH (below_only (w0 := w) B1.out g2 (Nat.le_refl _) (by omega))
  clear r2 g2
  (try simp only [Act.put])
  go_wp2_with fail
  exact bodyPost_ret (v := .tuple #[.agg #[.int .i64 c0, .int .i64 c1, .int .i64 c2, .int .i64 c3, .int .i64 c4, .int .i64 c5, .int .i64 c6, .int .i64 c7, .int .i64 c8, .int .i64 c9, .int .i64 c10, .int .i64 0, .int .i64 0, .int .i64 0, .slice none 0 0, .slice none 0 0, .slice none 0 0], .int .i64 0]) (ret_cell_tmp Tryz.results19 (by rfl) (by rfl) R3.out Tryz.underlying28 rfl rJ) rfl ⟨rfl, B2.out⟩
end Go.Proofs.YtgobbecpnjelmaaGreat

namespace Go.Proofs.YtgobbecpnjelmaaGreat
open Go.RowKit

set_option maxRecDepth 100000 in
set_option maxHeartbeats 8000000 in
theorem rtree23_any (v : Value) (t : TreeP) (w : World) (h : TreeR w v t) :
  Calls Tryz.prog 97 #[v] w fun e w' => ∃ v', e = .returned v' ∧ OwnB w' w.heap.size v' (treeBy t) ∧ Below w.heap.size w w' := by
 have HTR := hH h
 obtain ⟨nv, rfl, hn⟩ := h
 have hn' := hn
 obtain ⟨ad, cc, rfl, _⟩ := hn'
 obtain ⟨n, hnn⟩ : ∃ n, t.nodes.length = n := ⟨_, rfl⟩
 have HN := hH hnn
 obtain ⟨D, hD⟩ : ∃ D, t.dim = D := ⟨_, rfl⟩
 have HD := hH hD
 have HNR := hH hn
 rw [hnn, hD] at HTR
 rw [hnn] at HNR
 rw [hnn, hD]
 clear hn
 cases hB : treeB t with
 | false =>
  have HC := hH (fun W (hW : TreeR W (.agg #[.int .i64 D, .slice ad n cc]) t) => hB ▸ ristree_any _ t W hW)
  have HE := hH (show treeBy t = [] by unfold treeBy; rw [hB]; rfl)
  clear hB hnn hD
  go_enter Tryz.func97, Tryz.ntmps97
  go_wp2_with fail
  (with_reducible refine (HC.out _ (HTR.out.below bw)).mono ?_)
  rintro e w2 ⟨rfl, b2⟩
  have B2 := hH (show Below w.heap.size w w2 from below_tr bw (b2.mono (by simp)))
  clear b2
  go_wp2_with fail
  go_ret
  exact ⟨_, rfl, by rw [HE.out]; exact World.ownsRow_nil _ _ _ _, B2.out⟩
 | true =>
  have HC := hH (fun W (hW : TreeR W (.agg #[.int .i64 D, .slice ad n cc]) t) => hB ▸ ristree_any _ t W hW)
  have ht := treeB_true.1 hB
  have HT := hH ht
  have hd1 := ht.1
  have hd2 := ht.2.1
  have hlen := ht.len
  rw [hD] at hd1 hd2
  rw [hnn] at hlen
  obtain ⟨D, rfl⟩ : ∃ k : Nat, D = (k : Int) := ⟨Int.toNat D, by omega⟩
  have HE := hH (show treeBy t = putsU D ++ t.nodes.flatMap encN by unfold treeBy; rw [hB, hD]; rfl)
  have hud := u64_small (z := D) (by omega)
  have hDn : (D : Int) ≤ 18446744073709551615 := by omega
  have hnb : (n : Int) ≤ 127 := by omega
  have hpl := putsU_len (n := D)
  clear hB hnn hD ht
  go_enter Tryz.func97, Tryz.ntmps97
  go_wp2_with fail
  (with_reducible refine (HC.out _ (HTR.out.below bw)).mono ?_); rintro e w2 ⟨rfl, b2⟩; have s2 : w.heap.size + 1 ≤ w2.heap.size := sz b2; have B2 := hJ w b2; obtain ⟨c2_0, c2_1⟩ := k2 (w.heap.size) (.int .i64 D) (.slice ad n cc) b2 aJ; obtain ⟨l2_0, n2_0, m2_0⟩ := lnm (show w.heap.size < w2.heap.size by omega); clear b2
  go_wp2_with fail
  (with_reducible refine (rU_any D _ hDn).mono ?_)
  rintro e w3 ⟨v3, rfl, o3, b3⟩
  have O3 := hH o3
  have B3 := hH (show Below w.heap.size w w3 from B2.out.trans (b3.mono (by omega)))
  have s3 : w2.heap.size ≤ w3.heap.size := b3.size
  have k0 : w3.cell? ⟨w.heap.size, 0, none⟩ = some (.int .i64 D) := (b3.cell (p := ⟨w.heap.size, 0, none⟩) (show w.heap.size < w2.heap.size by omega)).trans c2_0
  have k1 : w3.cell? ⟨w.heap.size, 1, none⟩ = some (.slice ad n cc) := (b3.cell (p := ⟨w.heap.size, 1, none⟩) (show w.heap.size < w2.heap.size by omega)).trans c2_1
  obtain ⟨a3, n3, c3, rfl⟩ := own_shape o3
  have b3_ := hH b3
  clear b3 o3
  have BB := hH (show ∀ k, (putsU D ++ (t.nodes.take k).flatMap encN).length ≤ 900000 from fun k => by
   have := encs_len HT.out k
   simp only [List.length_append]
   omega)
  go_wp2_with fail
  go_loopw [3, 4, 5, 6] (fun o idx _ _ wr => ∃ k : Nat, idx = .int .i64 k ∧ k ≤ n ∧ OwnB wr w2.heap.size o (putsU D ++ (t.nodes.take k).flatMap encN) ∧ Below w2.heap.size w2 wr) (fun _ idx _ _ _ => n - (intOf idx).toNat)
  case atStart => exact ⟨0, rfl, by omega, by simpa using O3.out, (show Below w2.heap.size w2 w3 from b3_.out)⟩
  case round =>
   obtain ⟨k, rfl, hk, hown, hbr⟩ := hrel
   rename World => wo
   have BR := hH hbr
   have hz := hbr.size
   have BRW := hH (show Below w.heap.size w wo from B2.out.trans (hbr.mono B2.out.size))
   have k0 := (hbr.cell (p := ⟨w.heap.size, 0, none⟩) (show w.heap.size < w2.heap.size by omega)).trans c2_0
   have k1 := (hbr.cell (p := ⟨w.heap.size, 1, none⟩) (show w.heap.size < w2.heap.size by omega)).trans c2_1
   have hwz : w.heap.size < wo.heap.size := by omega
   have HO := hH hown
   obtain ⟨oa, om, oc, rfl⟩ := own_shape hown
   clear hown hbr
   by_cases hlt : k < n
   ·obtain ⟨nd, hnd⟩ := getElem?_ex (l := t.nodes) (k := k) (by rw [HN.out]; exact hlt)
    obtain ⟨b0, o0, rfl⟩ := HTR.out.addr (i := k) (by rw [HN.out]; exact hlt)
    obtain ⟨hb0, hat⟩ := (HTR.out).node hnd
    obtain ⟨ca, cac, hci, e0, e1, e2, e3, e4⟩ := hat.val
    have e0 := (BRW.out.cell (p := ⟨b0, o0 + k * 5, none⟩) hb0).trans e0
    have e1 := (BRW.out.cell (p := ⟨b0, o0 + k * 5 + 1, none⟩) hb0).trans e1
    have e2 := (BRW.out.cell (p := ⟨b0, o0 + k * 5 + 2, none⟩) hb0).trans e2
    have e3 := (BRW.out.cell (p := ⟨b0, o0 + k * 5 + 3, none⟩) hb0).trans e3
    have e4 := (BRW.out.cell (p := ⟨b0, o0 + k * 5 + 4, none⟩) hb0).trans e4
    have HCI := hH hci
    have HTK := hH (show (t.nodes.take (k + 1)).flatMap encN = (t.nodes.take k).flatMap encN ++ encN nd by rw [List.take_add_one, hnd, List.flatMap_append]; simp)
    have hne := node_enc HT.out hnd
    have LB := BB.out k
    have i1 : (0 : Int) ≤ (k : Int) := by omega
    have i2 : (k : Int) < (n : Int) := by omega
    have hby : b0 ≠ wo.heap.size := by have := BRW.out.size; omega
    have hbz : b0 < wo.heap.size := by have := BRW.out.size; omega
    obtain ⟨XS, hXS⟩ : ∃ XS, putsU D ++ (t.nodes.take k).flatMap encN = XS := ⟨_, rfl⟩
    have HXS := hH hXS
    rw [hXS] at HO LB
    clear hci hnd hat hXS
    rcases hne with ⟨l1, l2, l3⟩ | ⟨l1, l2, l3, l4⟩
    ·have HEN := hH (encN_leaf l1)
     rw [l1] at e2
     obtain ⟨s, hs⟩ : ∃ s : Nat, nd.size = (s : Int) := ⟨nd.size.toNat, by omega⟩
     rw [hs] at e4 HEN l3
     rw [Int.toNat_natCast] at HEN
     have hus := u64_small (z := s) (by omega)
     have hs2 : (s : Int) ≤ 18446744073709551615 := by omega
     have hps := putsU_len (n := s)
     generalize nd.coef.length = cl at *
     generalize nd.at_ = xa at *
     generalize nd.right = xr at *
     clear l1 l2 l3 hs HCI
     go_wp2_with fail
     (with_reducible refine (rU_any s _ hs2).mono ?_)
     rintro e w4 ⟨v4, rfl, o4, b4⟩
     have O4 := hH (show OwnB w4 _ v4 (putsU s) from o4)
     have B4 := hH (show Below wo.heap.size wo w4 from below_tr bw (b4.mono mJ))
     have z4 := B4.out.size
     obtain ⟨a4, m4, c4, rfl⟩ := own_shape o4
     clear b4 o4
     go_wp2_with (at_builtin; go_must (refine appInts rfl _ _ 45 rfl Tryz.underlying45 eiU8 w2.heap.size (by rfl) (HO.out.below B4.out) (by rfl) (O4.out.ints (by omega)) (by omega) (by omega) ?_))
     intro v5 w5 o5 b5 _
     have O5 := hH (show OwnB w5 w2.heap.size v5 (XS ++ putsU s) by simpa [OwnB, HXS.out] using o5)
     have B5 := hH (show Below w2.heap.size w2 w5 from (BR.out.trans (B4.out.mono hz)).trans b5)
     clear o5 b5
     go_wp2_with fail
     go_roundw
     case rel => exact ⟨k + 1, by go_num, by omega, by rw [HTK.out, HEN.out, ← List.append_assoc, HXS.out]; exact O5.out, B5.out⟩
     case measure => simp [intOf] <;> omega
    ·have HEN := hH (encN_node l1)
     have j1 : (nd.left == 0) = false := by rw [beq_eq_false_iff_ne]; exact l1
     obtain ⟨cs, hcs⟩ : ∃ cs, nd.coef = cs := ⟨_, rfl⟩
     rw [hcs] at e0 HCI HEN l2 l3
     have HC64 := hH l3
     obtain ⟨xa, hxa⟩ : ∃ z, nd.at_ = z := ⟨_, rfl⟩
     rw [hxa] at e1 HEN l4
     have HA64 := hH l4
     obtain ⟨cl, hcl⟩ : ∃ cl, cs.length = cl := ⟨_, rfl⟩
     have HCL := hH hcl
     rw [hcl] at e0 HCI l2
     generalize nd.left = xl at *
     generalize nd.right = xr at *
     generalize nd.size = xs at *
     clear l1 l3 l4 hcs hxa hcl
     have NOW := hH (show (Value.slice oa om oc).ownBlock ≠ some wo.heap.size from fun e => by have := (HO.out.lt _ e).2; omega)
     go_wp2_with (at_builtin; go_must (refine app1N rfl _ _ 45 rfl Tryz.underlying45 eiU8 w2.heap.size (by rfl) (HO.out.below bw) (by rfl) (by first | rfl | simp) rfl (by simp [Value.oneCell']) (by omega) mJ ?_))
     intro v5 w5 o5 g5 nb5
     have O5 := hH (show OwnB w5 w2.heap.size v5 (XS ++ [0]) by simpa [OwnB] using o5)
     have NV5 := hH (nb5.ne NOW.out (by simp))
     have y0 : w5.cell? ⟨wo.heap.size, 0, none⟩ = some (.slice ca cl cac) := (gcell g5 (by simp) NOW.out).trans (by go_simp)
     have y1 : w5.cell? ⟨wo.heap.size, 1, none⟩ = some (.int .i64 xa) := (gcell g5 (by simp) NOW.out).trans (by go_simp)
     have B5 := hH (show Below w2.heap.size w2 w5 from BR.out.trans ((show Below w2.heap.size wo _ from bw).grown g5 mJ (fun q hq => (HO.out.lt q hq).1)))
     have z5 : wo.heap.size < w5.heap.size := by have := g5.size; simp at this; omega
     obtain ⟨a5, m5, c5, rfl⟩ := own_shape o5
     clear o5 g5 nb5
     go_wp2_with fail
     go_loopw [3, 6] (fun oi_ idx wr => ∃ j : Nat, idx = .int .i64 j ∧ j ≤ cl ∧ OwnB wr w2.heap.size oi_ (XS ++ [0] ++ putsIs (cs.take j)) ∧ oi_.ownBlock ≠ some wo.heap.size ∧ wr.cell? ⟨wo.heap.size, 0, none⟩ = some (.slice ca cl cac) ∧ wr.cell? ⟨wo.heap.size, 1, none⟩ = some (.int .i64 xa) ∧ Below w2.heap.size w2 wr ∧ wo.heap.size < wr.heap.size) (fun _ idx _ => cl - (intOf idx).toNat)
     case atStart => exact ⟨0, rfl, by omega, by rw [List.take_zero, show putsIs [] = [] from rfl, List.append_nil]; exact O5.out, NV5.out, y0, y1, B5.out, z5⟩
     case round =>
      obtain ⟨j, rfl, hj, ho, hnb, y0, y1, hbi, hzi⟩ := hrel
      have hci := HCI.out.below (show Below w.heap.size w wr from B2.out.trans (hbi.mono B2.out.size))
      have HOI := hH ho
      have HNB := hH hnb
      have BI := hH hbi
      obtain ⟨oa2, om2, oc2, rfl⟩ := own_shape ho
      have hpl2 := putsIs_len (cs.take j)
      have hjl : (cs.take j).length ≤ 8 := by rw [List.length_take]; omega
      have hzz := hbi.size
      have k0 := (hbi.cell (p := ⟨w.heap.size, 0, none⟩) (show w.heap.size < w2.heap.size by omega)).trans c2_0
      have k1 := (hbi.cell (p := ⟨w.heap.size, 1, none⟩) (show w.heap.size < w2.heap.size by omega)).trans c2_1
      by_cases hlj : j < cl
      ·obtain ⟨x, hx⟩ := getElem?_ex (l := cs) (k := j) (by rw [HCL.out]; exact hlj)
       have hx64 := HC64.out x (List.mem_of_getElem? hx)
       have HPT := hH (putsIs_take hx)
       have hpx := putsI_len (i := x)
       have i3 : (0 : Int) ≤ (j : Int) := by omega
       have i4 : (j : Int) < (cl : Int) := by omega
       obtain ⟨a', c', e, _, _, _, h4⟩ := hci
       injection e with e1 e2 e3
       subst e1 e3
       clear e2
       obtain ⟨bx, ox, rfl, hbx, hcx⟩ := h4 j x hx
       clear ho hnb hbi hx h4
       go_wp2_with fail
       (with_reducible refine (rI_any x _ hx64).mono ?_)
       rintro e w6 ⟨v6, rfl, o6, b6⟩
       have O6 := hH (show OwnB w6 _ v6 (putsI x) from o6)
       have B6 := hH (show Below wr.heap.size wr w6 from b6)
       have z6 := b6.size
       have y0 := (b6.cell (p := ⟨wo.heap.size, 0, none⟩) hzi).trans y0
       have y1 := (b6.cell (p := ⟨wo.heap.size, 1, none⟩) hzi).trans y1
       obtain ⟨a6, m6, c6, rfl⟩ := own_shape o6
       clear b6 o6
       go_wp2_with (at_builtin; go_must (refine appBW rfl _ _ rfl w2.heap.size (by rfl) (HOI.out.below B6.out) (by rfl) (O6.out.ints (by omega)) (by simp only [List.length_append, List.length_singleton]; omega) (by omega) ?_))
       intro v7 w7 o7 b7 g7 nb7
       have O7 := hH (show OwnB w7 w2.heap.size v7 (XS ++ [0] ++ putsIs (cs.take (j + 1))) by rw [HPT.out]; simpa [List.append_assoc] using o7)
       have NB7 := hH (nb7.ne HNB.out (by omega))
       have B7 := hH (show Below w2.heap.size w2 w7 from (BI.out.trans (B6.out.mono hzz)).trans b7)
       have y0 := (gcell g7 (show wo.heap.size < w6.heap.size by omega) HNB.out).trans y0
       have y1 := (gcell g7 (show wo.heap.size < w6.heap.size by omega) HNB.out).trans y1
       have z7 := g7.size
       clear o7 b7 g7 nb7
       go_wp2_with fail
       go_roundw
       case rel => exact ⟨j + 1, by go_num, by omega, O7.out, NB7.out, y0, y1, B7.out, by omega⟩
       case measure => simp [intOf] <;> omega
      ·obtain rfl : j = cl := by omega
       rw [List.take_of_length_le (by rw [HCL.out]; omega)] at HOI hpl2 hjl
       have hpa := putsI_len (i := xa)
       clear ho hnb hbi hci
       go_wp2_with fail
       (with_reducible refine (rI_any xa _ HA64.out).mono ?_)
       rintro e w6 ⟨v6, rfl, o6, b6⟩
       have O6 := hH (show OwnB w6 _ v6 (putsI xa) from o6)
       have B6 := hH (show Below wr.heap.size wr w6 from b6)
       have z6 := b6.size
       obtain ⟨a6, m6, c6, rfl⟩ := own_shape o6
       clear b6 o6
       go_wp2_with (at_builtin; go_must (refine appBW rfl _ _ rfl w2.heap.size (by rfl) (HOI.out.below B6.out) (by rfl) (O6.out.ints (by omega)) (by simp only [List.length_append, List.length_singleton]; omega) (by omega) ?_))
       intro v7 w7 o7 b7 g7 nb7
       have O7 := hH (show OwnB w7 w2.heap.size v7 (XS ++ encN nd) by rw [HEN.out]; simpa [List.append_assoc] using o7)
       have B7 := hH (show Below w2.heap.size w2 w7 from (BI.out.trans (B6.out.mono hzz)).trans b7)
       clear o7 b7 g7 nb7
       go_wp2_with fail
       go_roundw
       case rel => exact ⟨k + 1, by go_num, by omega, by rw [HTK.out, ← List.append_assoc, HXS.out]; exact O7.out, B7.out⟩
       case measure => simp [intOf] <;> omega
   ·obtain rfl : k = n := by omega
    rw [List.take_of_length_le (by rw [HN.out]; omega)] at HO
    go_wp2_with fail
    go_ret
    exact ⟨_, rfl, by rw [HE.out]; exact OwnB.lower HO.out B2.out.size, BRW.out⟩

end Go.Proofs.YtgobbecpnjelmaaGreat

namespace Go.Proofs.YtgobbecpnjelmaaGreat
open Go.RowKit

end Go.Proofs.YtgobbecpnjelmaaGreat
