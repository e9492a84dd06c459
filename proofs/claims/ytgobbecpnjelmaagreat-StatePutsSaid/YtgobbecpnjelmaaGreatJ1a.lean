/-
  SchedP: Plain laws of schedules: the turn behind a count, how many turns there are, the births of the trees.
  PathA: Walk of path.way: down a tree with a vector, each node told.
  PathB: Walks of path.length, Length and Trail.
  PathC: Walk of path.leaves: each leaf told, with its length.
  PathD: Walks of path.Ends and Weight.
  SameT: Walks of copseref09.Same and copseref10.Same.
  ItemE: Walks of item.PutAsk and of the reference's Ask.
  ForR: Walks of slices.Equal of integers and of cut.Same.
  RefPathA: Walks of copseref10.Down, Leaf, of copseref11.Above and of copseref12.Length, Trail.
  RefPathB: Walks of copseref11.Above and of copseref12.Length, Trail.
  ItemR: Walks of item.PutConf and of the reference's numbers and Conf.
  RefPathE: Walks of copseref11.Leaves, Parents, Depths.
-/
import Derived.Test.YtgobbecpnjelmaaGreatJ0a
import Derived.Test.YtgobbecpnjelmaaGreatKItemN
import Derived.Test.YtgobbecpnjelmaaGreatKTreeA
import Derived.Test.YtgobbecpnjelmaaGreatJ0b
import Derived.Test.YtgobbecpnjelmaaGreatJ0c
import Derived.BigRegion
import Derived.Test.YtgobbecpnjelmaaGreatKItemD
import Derived.Test.YtgobbecpnjelmaaGreatKRefTreeA
import Derived.Test.YtgobbecpnjelmaaGreatKItemO
namespace Go.Proofs.YtgobbecpnjelmaaGreat
open Go.RowKit

/-- The turn behind a count. -/
def nextV (s e n : Int) : Int := ceilV (max (n + 1) s) e * e

theorem nextV_eq {s e n : Int} (he : 1 ≤ e) : nextV s e n = if 0 < max (n + 1) s % e then max (n + 1) s - max (n + 1) s % e + e else max (n + 1) s := by
 unfold nextV ceilV
 rw [if_neg (by omega)]
 obtain ⟨a, ha⟩ : ∃ a, max (n + 1) s = a := ⟨_, rfl⟩
 rw [ha]
 have h1 := Int.emod_add_mul_ediv a e
 have h2 := Int.emod_nonneg a (show e ≠ 0 by omega)
 obtain ⟨r, hr⟩ : ∃ r, a % e = r := ⟨_, rfl⟩
 obtain ⟨q, hq⟩ : ∃ q, a / e = q := ⟨_, rfl⟩
 rw [hr] at h1 h2 ⊢
 rw [hq] at h1 ⊢
 have h3 : q * e = e * q := Int.mul_comm _ _
 split
 ·rw [Int.add_mul, h3, Int.one_mul]; omega
 ·rw [h3]; omega

theorem nextV_spec {s e n : Int} (he : 1 ≤ e) : nextV s e n % e = 0 ∧ n + 1 ≤ nextV s e n ∧ s ≤ nextV s e n ∧ nextV s e n < max (n + 1) s + e ∧ ∀ m, n + 1 ≤ m → s ≤ m → m % e = 0 → nextV s e n ≤ m := by
 have hm : nextV s e n % e = 0 := by unfold nextV; exact Int.mul_emod_left _ _
 rw [nextV_eq he] at hm ⊢
 obtain ⟨a, ha⟩ : ∃ a, max (n + 1) s = a := ⟨_, rfl⟩
 have ha1 : n + 1 ≤ a ∧ s ≤ a := by omega
 rw [ha] at hm ⊢
 have h2 := Int.emod_nonneg a (show e ≠ 0 by omega)
 have h4 := Int.emod_lt_of_pos a (show 0 < e by omega)
 have h5 : ∀ m, a ≤ m → m % e = 0 → (if 0 < a % e then a - a % e + e else a) ≤ m := by
  intro m h6 h7
  split
  ·rename_i h8
   have h1 := Int.emod_add_mul_ediv a e
   have h9 := Int.emod_add_mul_ediv m e
   have h10 : e * (a / e) < e * (m / e) := by omega
   have h11 := Int.lt_of_mul_lt_mul_left h10 (by omega)
   have h12 : e * (a / e + 1) ≤ e * (m / e) := Int.mul_le_mul_of_nonneg_left (by omega) (by omega)
   rw [Int.mul_add, Int.mul_one] at h12
   omega
  ·exact h6
 refine ⟨hm, ?_, ?_, ?_, fun m h6 h7 h8 => h5 m (by omega) h8⟩
 ·split <;> omega
 ·split <;> omega
 ·split <;> omega

/-- How many turns there are up to a count. -/
def upToV (s e n : Int) : Int := if n < nextV s e 0 then 0 else (n - nextV s e 0) / e + 1

theorem upToV_zero {s e : Int} (he : 1 ≤ e) : upToV s e 0 = 0 := by
 have := nextV_spec (s := s) (e := e) (n := 0) he
 unfold upToV
 rw [if_pos (by omega)]

theorem upToV_nn {s e n : Int} (he : 1 ≤ e) : 0 ≤ upToV s e n ∧ upToV s e n ≤ max 0 n := by
 have := nextV_spec (s := s) (e := e) (n := 0) he
 unfold upToV
 split
 ·omega
 ·have h1 : 0 ≤ (n - nextV s e 0) / e := Int.ediv_nonneg (by omega) (by omega)
  have h2 : (n - nextV s e 0) / e ≤ n - nextV s e 0 := Int.ediv_le_self _ (by omega)
  omega

/-- The births of the trees: of each place the last turn that came round to it. -/
def birthsL (f e : Int) (T t : Nat) : List Int := (List.range (min T t)).map fun i => f + ((i + (T - 1 - i) / t * t : Nat) : Int) * e

theorem birthsL_len (f e : Int) (T t : Nat) : (birthsL f e T t).length = min T t := by unfold birthsL; rw [List.length_map, List.length_range]

theorem last_turn {T t i : Nat} (ht : 1 ≤ t) (hi : i < min T t) : (i + (T - 1 - i) / t * t) % t = i ∧ i + (T - 1 - i) / t * t < T ∧ T ≤ i + (T - 1 - i) / t * t + t := by
 have h1 := Nat.div_add_mod (T - 1 - i) t
 have h2 := Nat.mod_lt (T - 1 - i) (show 0 < t by omega)
 rw [Nat.mul_comm] at h1
 refine ⟨?_, ?_, ?_⟩
 ·rw [Nat.add_mul_mod_self_right]; exact Nat.mod_eq_of_lt (by omega)
 ·omega
 ·omega

/-- What has been written when the turns from a up to k have been gone through. -/
def BornTo (f e : Int) (a k t m : Nat) (acc : List Int) : Prop := acc.length = m ∧ ∀ j, a ≤ j → j < k → acc[j % t]? = some (f + (j : Int) * e)

theorem BornTo.next {f e : Int} {a k t m : Nat} {acc : List Int} (h : BornTo f e a k t m acc) (hk : a ≤ k) (hw : k < a + t) (hm : k % t < m) : BornTo f e a (k + 1) t m (acc.set (k % t) (f + (k : Int) * e)) := by
 refine ⟨by rw [List.length_set]; exact h.1, fun j h1 h2 => ?_⟩
 by_cases hj : j = k
 ·subst hj
  rw [List.getElem?_set_self (by rw [h.1]; exact hm)]
 ·have hne : j % t ≠ k % t := by
   intro e
   have e1 := Nat.div_add_mod j t
   have e2 := Nat.div_add_mod k t
   have h3 : t * (j / t) < t * (k / t) := by omega
   have h4 := Nat.lt_of_mul_lt_mul_left h3
   have h5 : t * (j / t + 1) ≤ t * (k / t) := Nat.mul_le_mul_left _ h4
   rw [Nat.mul_add, Nat.mul_one] at h5
   omega
  rw [List.getElem?_set_ne (Ne.symm hne)]
  exact h.2 j h1 (by omega)

theorem BornTo.fin {f e : Int} {T t : Nat} {acc : List Int} (ht : 1 ≤ t) (h : BornTo f e (T - t) T t (min T t) acc) : acc = birthsL f e T t := by
 apply List.ext_getElem?
 intro i
 by_cases hi : i < min T t
 ·obtain ⟨h1, h2, h3⟩ := last_turn ht hi
  have h4 := h.2 (i + (T - 1 - i) / t * t) (by omega) h2
  rw [h1] at h4
  rw [h4]
  unfold birthsL
  rw [List.getElem?_map, List.getElem?_range hi]
  rfl
 ·rw [List.getElem?_eq_none (by rw [h.1]; omega), List.getElem?_eq_none (by rw [birthsL_len]; omega)]
end Go.Proofs.YtgobbecpnjelmaaGreat

namespace Go.Proofs.YtgobbecpnjelmaaGreat
open Go.RowKit

theorem cell_of_block {w w' : World} {b o : Nat} (h : w'.heap[b]? = w.heap[b]?) : w'.cell? ⟨b, o, none⟩ = w.cell? ⟨b, o, none⟩ := World.cell?_of_block (a := ⟨b, o, none⟩) h

end Go.Proofs.YtgobbecpnjelmaaGreat

namespace Go.Proofs.YtgobbecpnjelmaaGreat
open Go.RowKit

end Go.Proofs.YtgobbecpnjelmaaGreat

namespace Go.Proofs.YtgobbecpnjelmaaGreat
open Go.RowKit

def DepOk (t : TreeP) (k : Nat) (ds : List Int) : Prop :=
 ds.length = t.nodes.length ∧ ∀ (j : Nat) (d : Int), ds[j]? = some d → (j = 0 ∨ ∃ k' nd, k' < k ∧ t.nodes[k']? = some nd ∧ leafB nd = false ∧ (nd.left = (j : Int) ∨ nd.right = (j : Int))) → d = (depOf t j : Int)

theorem DepOk.leaf {t : TreeP} {k : Nat} {ds : List Int} {n : NodeP} (h : DepOk t k ds) (hn : t.nodes[k]? = some n) (hl : leafB n = true) : DepOk t (k + 1) ds := by
 refine ⟨h.1, fun j d hd hj => h.2 j d hd ?_⟩
 rcases hj with hj | ⟨k', nd, g1, g2, g3, g4⟩
 ·exact .inl hj
 ·refine .inr ⟨k', nd, ?_, g2, g3, g4⟩
  rcases Nat.lt_or_ge k' k with h1 | h1
  ·exact h1
  ·obtain rfl : k' = k := by omega
   rw [hn] at g2
   injection g2 with g2
   subst g2
   rw [hl] at g3
   cases g3

theorem DepOk.node {t : TreeP} {k m : Nat} {ds : List Int} {n : NodeP} {v : Int} (h : DepOk t k ds) (hn : t.nodes[k]? = some n) (h1 : n.left = (k : Int) + 1) (h2 : n.right = (m : Int))
  (v1 : v = (depOf t (k + 1) : Int)) (v2 : v = (depOf t m : Int)) : DepOk t (k + 1) ((ds.set (k + 1) v).set m v) := by
 refine ⟨by simp [h.1], fun j d hd hj => ?_⟩
 by_cases e1 : j = m
 ·subst e1
  rw [List.getElem?_set] at hd
  simp at hd
  rw [← hd.2, v2]
 ·rw [List.getElem?_set_ne (by omega)] at hd
  by_cases e2 : j = k + 1
  ·subst e2
   rw [List.getElem?_set] at hd
   simp at hd
   rw [← hd.2, v1]
  ·rw [List.getElem?_set_ne (by omega)] at hd
   refine h.2 j d hd ?_
   rcases hj with hj | ⟨k', nd, g1, g2, g3, g4⟩
   ·exact .inl hj
   ·refine .inr ⟨k', nd, ?_, g2, g3, g4⟩
    rcases Nat.lt_or_ge k' k with h3 | h3
    ·exact h3
    ·obtain rfl : k' = k := by omega
     rw [hn] at g2
     injection g2 with g2
     subst g2
     omega

end Go.Proofs.YtgobbecpnjelmaaGreat

namespace Go.Proofs.YtgobbecpnjelmaaGreat
open Go.RowKit

end Go.Proofs.YtgobbecpnjelmaaGreat

namespace Go.Proofs.YtgobbecpnjelmaaGreat
open Go.RowKit

def sameN (a b : NodeP) : Bool := decide (a.coef = b.coef) && decide (a.at_ = b.at_) && decide (a.left = b.left) && decide (a.right = b.right) && decide (a.size = b.size)

theorem sameN_eq {a b : NodeP} : sameN a b = true ↔ a = b := by
 obtain ⟨a1, a2, a3, a4, a5⟩ := a
 obtain ⟨b1, b2, b3, b4, b5⟩ := b
 unfold sameN
 simp [and_assoc]

instance (a b : NodeP) : Decidable (a = b) := decidable_of_iff (sameN a b = true) sameN_eq

def sameT (a b : TreeP) : Bool := decide (a.dim = b.dim) && decide (a.nodes = b.nodes)

set_option maxRecDepth 100000 in
theorem r09same_any (v v2 : Value) (c c2 : List Int) (a a2 : Int) (w : World) (h : Ints .i64 w v c) (h2 : Ints .i64 w v2 c2) :
  Calls Tryz.prog 129 #[.agg #[v, .int .i64 a], .agg #[v2, .int .i64 a2]] w fun e w' => e = .returned (.bool (decide (a = a2) && decide (c = c2))) ∧ Below w.heap.size w w' := by
 have HS := hH (fun W (hW : Below w.heap.size w W) => same_any v v2 c c2 W (h.below hW) (h2.below hW))
 obtain ⟨x, k, rfl⟩ := h.shape
 obtain ⟨x2, k2, rfl⟩ := h2.shape
 obtain ⟨B, hB⟩ : ∃ B, decide (c = c2) = B := ⟨_, rfl⟩
 rw [hB] at HS ⊢
 clear h h2 hB
 by_cases ha : a = a2
 ·subst ha
  have j : (a == a) = true := by simp
  rw [decide_eq_true rfl, Bool.true_and]
  go_enter Tryz.func129, Tryz.ntmps129
  go_wp2_with fail
  (with_reducible refine (HS.out _ bw).mono ?_)
  rintro e w1 ⟨rfl, d, rfl⟩
  go_wp2_with fail
  go_ret
  exact ⟨rfl, bw⟩
 ·have j : (a == a2) = false := by simp [ha]
  rw [decide_eq_false ha, Bool.false_and]
  clear ha
  go_enter Tryz.func129, Tryz.ntmps129
  go_wp2_with fail
  go_ret
  exact ⟨rfl, bw⟩
end Go.Proofs.YtgobbecpnjelmaaGreat

namespace Go.Proofs.YtgobbecpnjelmaaGreat
open Go.RowKit

theorem newI1 (z : Int) (W : World) (T : TypeId) (b : Nat) (hb : b = W.heap.size) : Ints .i64 (W.alloc (.cells #[.int .i64 z] T)) (.slice (some ⟨b, 0, none⟩) 1 1) [z] :=
 Ints.new' .i64 W T #[.int .i64 z] [z] b 1 1 hb rfl rfl (by omega) (by omega)

theorem nats1_any (v : Value) (pre : List Int) (z : Int) (W : World) (b : Nat) (hb : b = W.heap.size) (h : Ints .u8 W v pre) (hz : 0 ≤ z ∧ z ≤ 9223372036854775807) (hl : pre.length ≤ 800000) :
  Calls Tryz.prog 89 #[v, .slice (some ⟨b, 0, none⟩) 1 1] (W.alloc (.cells #[.int .i64 z] 3)) fun e w' => ∃ v' l', e = .returned v' ∧ l' = pre ++ putsU z.toNat ∧ l'.length ≤ pre.length + 9 ∧ Ints .u8 w' v' l' ∧ Below W.heap.size W w' := by
 refine (nats_any v pre _ [z] _ (h.below bw) (newI1 z W 3 b hb) (by intro x hx; simp at hx; subst hx; exact hz) (by simp; omega)).mono ?_
 rintro e w' ⟨v', rfl, hi, hbl⟩
 refine ⟨v', _, rfl, rfl, ?_, ?_, below_tr bw (hbl.mono (by simp))⟩
 ·have := putsU_len (n := z.toNat)
  rw [List.length_append]
  omega
 ·simpa [natsB] using hi

end Go.Proofs.YtgobbecpnjelmaaGreat

namespace Go.Proofs.YtgobbecpnjelmaaGreat
open Go.RowKit

end Go.Proofs.YtgobbecpnjelmaaGreat

namespace Go.Proofs.YtgobbecpnjelmaaGreat
open Go.RowKit

end Go.Proofs.YtgobbecpnjelmaaGreat

namespace Go.Proofs.YtgobbecpnjelmaaGreat
open Go.RowKit

end Go.Proofs.YtgobbecpnjelmaaGreat

namespace Go.Proofs.YtgobbecpnjelmaaGreat
open Go.RowKit

def confBytes (c0 c1 c2 c3 c4 c5 c6 c7 c8 c9 c10 : Int) : List Int := if confB11 c0 c1 c2 c3 c4 c5 c6 c7 c8 c9 c10 = true then natsB [c0, c1, c2, c3, c4, c5, c6, c7, c8, c9, c10] else []

theorem confB11_pos (c0 c1 c2 c3 c4 c5 c6 c7 c8 c9 c10 : Int) (h : confB11 c0 c1 c2 c3 c4 c5 c6 c7 c8 c9 c10 = true) : ∀ x ∈ [c0, c1, c2, c3, c4, c5, c6, c7, c8, c9, c10], 0 ≤ x ∧ x ≤ 1000 := by
 have hh := (confB11_iff c0 c1 c2 c3 c4 c5 c6 c7 c8 c9 c10).1 h
 intro x hx
 simp at hx
 rcases hx with rfl | rfl | rfl | rfl | rfl | rfl | rfl | rfl | rfl | rfl | rfl <;> omega

theorem newI11 (c0 c1 c2 c3 c4 c5 c6 c7 c8 c9 c10 : Int) (W : World) (T : TypeId) (b : Nat) (hb : b = W.heap.size) : Ints .i64 (W.alloc (.cells #[.int .i64 c0, .int .i64 c1, .int .i64 c2, .int .i64 c3, .int .i64 c4, .int .i64 c5, .int .i64 c6, .int .i64 c7, .int .i64 c8, .int .i64 c9, .int .i64 c10] T)) (.slice (some ⟨b, 0, none⟩) 11 11) [c0, c1, c2, c3, c4, c5, c6, c7, c8, c9, c10] :=
 Ints.new' .i64 W T #[.int .i64 c0, .int .i64 c1, .int .i64 c2, .int .i64 c3, .int .i64 c4, .int .i64 c5, .int .i64 c6, .int .i64 c7, .int .i64 c8, .int .i64 c9, .int .i64 c10] [c0, c1, c2, c3, c4, c5, c6, c7, c8, c9, c10] b 11 11 hb rfl rfl (by omega) (by omega)

set_option maxRecDepth 100000 in
set_option maxHeartbeats 16000000 in
theorem putConf_any (v : Value) (pre : List Int) (c0 c1 c2 c3 c4 c5 c6 c7 c8 c9 c10 : Int) (w : World) (hw : Ok64 c7) (h : Ints .u8 w v pre) (hb : pre.length ≤ 9000) :
  Calls Tryz.prog 49 #[v, .agg #[.int .i64 c0, .int .i64 c1, .int .i64 c2, .int .i64 c3, .int .i64 c4, .int .i64 c5, .int .i64 c6, .int .i64 c7, .int .i64 c8, .int .i64 c9, .int .i64 c10]] w fun e w' => ∃ v', e = .returned v' ∧ Ints .u8 w' v' (pre ++ confBytes c0 c1 c2 c3 c4 c5 c6 c7 c8 c9 c10) ∧ Below w.heap.size w w' := by
 have HX := hH h
 obtain ⟨pa, pc, rfl⟩ := h.shape
 have HI := hH (fun W => sright_any c0 c1 c2 c3 c4 c5 c6 c7 c8 c9 c10 W hw)
 cases hs : confB11 c0 c1 c2 c3 c4 c5 c6 c7 c8 c9 c10 with
 | false =>
  have HC := hH (fun W (hW : Ints .u8 W (.slice pa pre.length pc) pre) => clone8_any _ pre W hW (by omega))
  have HSB := hH (show confBytes c0 c1 c2 c3 c4 c5 c6 c7 c8 c9 c10 = [] by unfold confBytes; rw [hs]; rfl)
  rw [hs] at HI
  clear hs h
  have HN := hH (show pre.length ≤ 9000 from hb)
  go_enter Tryz.func49, Tryz.ntmps49
  go_wp2_with fail
  (with_reducible refine (HI.out _).mono ?_); rintro e w1 ⟨rfl, b1⟩; have s1 : w.heap.size + 1 ≤ w1.heap.size := sz b1; have B1 := hJ w b1; clear b1
  go_wp2_with fail
  (with_reducible refine (HC.out _ (HX.out.below (bx B1.out))).mono ?_)
  rintro e w2 ⟨v2, rfl, o2, b2⟩
  have B2 := hH (below_tr B1.out (b2.mono (by omega)))
  go_wp2_with fail
  go_ret
  exact ⟨_, rfl, by rw [HSB.out, List.append_nil]; exact (Ints.own o2 (by have := HN.out; omega)).2, B2.out⟩
 | true =>
  have hr := confB11_pos c0 c1 c2 c3 c4 c5 c6 c7 c8 c9 c10 hs
  have HN2 := hH (fun (vl : Value) W (hW : Ints .u8 W (.slice pa pre.length pc) pre) (hl : Ints .i64 W vl [c0, c1, c2, c3, c4, c5, c6, c7, c8, c9, c10]) => nats_any _ pre vl [c0, c1, c2, c3, c4, c5, c6, c7, c8, c9, c10] W hW hl (by intro x hx; have := hr x hx; omega) (by simp; omega))
  have HSB := hH (show confBytes c0 c1 c2 c3 c4 c5 c6 c7 c8 c9 c10 = natsB [c0, c1, c2, c3, c4, c5, c6, c7, c8, c9, c10] by unfold confBytes; rw [if_pos hs])
  rw [hs] at HI
  clear hs h hr hb hw
  generalize pre.length = n at *
  go_enter Tryz.func49, Tryz.ntmps49
  go_wp2_with fail
  (with_reducible refine (HI.out _).mono ?_); rintro e w1 ⟨rfl, b1⟩; have s1 : w.heap.size + 1 ≤ w1.heap.size := sz b1; have B1 := hJ w b1; obtain ⟨c1_0, c1_1, c1_2, c1_3, c1_4, c1_5, c1_6, c1_7, c1_8, c1_9, c1_10⟩ := k11 (w.heap.size) (.int .i64 c0) (.int .i64 c1) (.int .i64 c2) (.int .i64 c3) (.int .i64 c4) (.int .i64 c5) (.int .i64 c6) (.int .i64 c7) (.int .i64 c8) (.int .i64 c9) (.int .i64 c10) b1 aJ; obtain ⟨l1_0, n1_0, m1_0⟩ := lnm (show w.heap.size < w1.heap.size by omega); clear b1
  go_wp2_with fail
  (with_reducible refine (HN2.out _ _ ?_ (newI11 c0 c1 c2 c3 c4 c5 c6 c7 c8 c9 c10 w1 3 w1.heap.size rfl)).mono ?_)
  ·exact HX.out.below (bx B1.out)
  rintro e w2 ⟨v2, rfl, i2, b2⟩
  have I2 := hH i2
  have B2 := bJ B1.out b2
  clear i2 b2
  go_wp2_with fail
  go_ret
  exact ⟨_, rfl, by rw [HSB.out]; exact I2.out, B2.out⟩

set_option maxRecDepth 100000 in
set_option maxHeartbeats 16000000 in
theorem rnumbers_any (c0 c1 c2 c3 c4 c5 c6 c7 c8 c9 c10 : Int) (w : World) :
  Calls Tryz.prog 94 #[.agg #[.int .i64 c0, .int .i64 c1, .int .i64 c2, .int .i64 c3, .int .i64 c4, .int .i64 c5, .int .i64 c6, .int .i64 c7, .int .i64 c8, .int .i64 c9, .int .i64 c10]] w fun e w' => ∃ v', e = .returned v' ∧ Ints .i64 w' v' [c0, c1, c2, c3, c4, c5, c6, c7, c8, c9, c10] ∧ Below w.heap.size w w' := by
 go_enter Tryz.func94, Tryz.ntmps94
 go_wp2_with fail
 go_ret
 exact ⟨_, rfl, newI11 c0 c1 c2 c3 c4 c5 c6 c7 c8 c9 c10 _ 3 _ (by simp), bw⟩

end Go.Proofs.YtgobbecpnjelmaaGreat

namespace Go.Proofs.YtgobbecpnjelmaaGreat
open Go.RowKit

end Go.Proofs.YtgobbecpnjelmaaGreat
