/-
  SchedP: Plain laws of schedules: the turn behind a count, how many turns there are, the births of the trees.
  PathA: Walk of path.way: down a tree with a vector, each node told.
  PathB: Walks of path.length, Length and Trail.
  PathC: Walk of path.leaves: each leaf told, with its length.
  PathD: Walks of path.Ends and Weight.
  SameT: Walks of copseref09.Same and copseref10.Same.
  ItemE: Walks of item.PutAsk and of the reference's Ask.
  ItemV: Walks of the reference's RightSeen, of item.PutSeen and of the reference's Seen.
  ForR: Walks of slices.Equal of integers and of cut.Same.
  RefPathA: Walks of copseref10.Down, Leaf, of copseref11.Above and of copseref12.Length, Trail.
  RefPathB: Walks of copseref11.Above and of copseref12.Length, Trail.
  QuantA: Walks of quant.asked, quant.Index, ratio.Of and of the reference's Asked, Index, Of.
  QuantB: Walks of quant.Line, quant.Over, quant.Count, quant.Share and of the reference's.
  ItemR: Walks of item.PutConf and of the reference's numbers and Conf.
-/
import Derived.Test.YtgobbecpnjelmaaGreatJ0a
import Derived.Test.YtgobbecpnjelmaaGreatKItemN
import Derived.Test.YtgobbecpnjelmaaGreatKTreeA
import Derived.Test.YtgobbecpnjelmaaGreatJ0b
import Derived.Test.YtgobbecpnjelmaaGreatJ0c
import Derived.BigRegion
import Derived.Test.YtgobbecpnjelmaaGreatKItemD
import Derived.Test.YtgobbecpnjelmaaGreatKRefTreeA
import Derived.Test.YtgobbecpnjelmaaGreatKScoreE
import Derived.Test.YtgobbecpnjelmaaGreatKItemO
namespace Go.Proofs.YtgobbecpnjelmaaGreat
open Go.RowKit

/-- The turn behind a count. -/
def nextV (s e n : Int) : Int := ceilV (max (n + 1) s) e * e

theorem nextV_eq {s e n : Int} (he : 1 ≤ e) : nextV s e n = if 0 < max (n + 1) s % e then max (n + 1) s - max (n + 1) s % e + e else max (n + 1) s := by
  unfold nextV ceilV
  rw [if_neg (by omega)]
  obtain ⟨a, ha⟩ : ∃ a, max (n + 1) s = a := ⟨_, rfl⟩
  rw [ha]
  have h1 := Int.emod_add_mul_ediv a e
  have h2 := Int.emod_nonneg a (show e ≠ 0 by omega)
  obtain ⟨r, hr⟩ : ∃ r, a % e = r := ⟨_, rfl⟩
  obtain ⟨q, hq⟩ : ∃ q, a / e = q := ⟨_, rfl⟩
  rw [hr] at h1 h2 ⊢
  rw [hq] at h1 ⊢
  have h3 : q * e = e * q := Int.mul_comm _ _
  split
  · rw [Int.add_mul, h3, Int.one_mul]; omega
  · rw [h3]; omega

theorem nextV_spec {s e n : Int} (he : 1 ≤ e) : nextV s e n % e = 0 ∧ n + 1 ≤ nextV s e n ∧ s ≤ nextV s e n ∧ nextV s e n < max (n + 1) s + e ∧ ∀ m, n + 1 ≤ m → s ≤ m → m % e = 0 → nextV s e n ≤ m := by
  have hm : nextV s e n % e = 0 := by unfold nextV; exact Int.mul_emod_left _ _
  rw [nextV_eq he] at hm ⊢
  obtain ⟨a, ha⟩ : ∃ a, max (n + 1) s = a := ⟨_, rfl⟩
  have ha1 : n + 1 ≤ a ∧ s ≤ a := by omega
  rw [ha] at hm ⊢
  have h2 := Int.emod_nonneg a (show e ≠ 0 by omega)
  have h4 := Int.emod_lt_of_pos a (show 0 < e by omega)
  have h5 : ∀ m, a ≤ m → m % e = 0 → (if 0 < a % e then a - a % e + e else a) ≤ m := by
    intro m h6 h7
    split
    · rename_i h8
      have h1 := Int.emod_add_mul_ediv a e
      have h9 := Int.emod_add_mul_ediv m e
      have h10 : e * (a / e) < e * (m / e) := by omega
      have h11 := Int.lt_of_mul_lt_mul_left h10 (by omega)
      have h12 : e * (a / e + 1) ≤ e * (m / e) := Int.mul_le_mul_of_nonneg_left (by omega) (by omega)
      rw [Int.mul_add, Int.mul_one] at h12
      omega
    · exact h6
  refine ⟨hm, ?_, ?_, ?_, fun m h6 h7 h8 => h5 m (by omega) h8⟩
  · split <;> omega
  · split <;> omega
  · split <;> omega

/-- How many turns there are up to a count. -/
def upToV (s e n : Int) : Int := if n < nextV s e 0 then 0 else (n - nextV s e 0) / e + 1

theorem upToV_zero {s e : Int} (he : 1 ≤ e) : upToV s e 0 = 0 := by
  have := nextV_spec (s := s) (e := e) (n := 0) he
  unfold upToV
  rw [if_pos (by omega)]

theorem upToV_nn {s e n : Int} (he : 1 ≤ e) : 0 ≤ upToV s e n ∧ upToV s e n ≤ max 0 n := by
  have := nextV_spec (s := s) (e := e) (n := 0) he
  unfold upToV
  split
  · omega
  · have h1 : 0 ≤ (n - nextV s e 0) / e := Int.ediv_nonneg (by omega) (by omega)
    have h2 : (n - nextV s e 0) / e ≤ n - nextV s e 0 := Int.ediv_le_self _ (by omega)
    omega

/-- The births of the trees: of each place the last turn that came round to it. -/
def birthsL (f e : Int) (T t : Nat) : List Int := (List.range (min T t)).map fun i => f + ((i + (T - 1 - i) / t * t : Nat) : Int) * e

theorem birthsL_len (f e : Int) (T t : Nat) : (birthsL f e T t).length = min T t := by unfold birthsL; rw [List.length_map, List.length_range]

theorem last_turn {T t i : Nat} (ht : 1 ≤ t) (hi : i < min T t) : (i + (T - 1 - i) / t * t) % t = i ∧ i + (T - 1 - i) / t * t < T ∧ T ≤ i + (T - 1 - i) / t * t + t := by
  have h1 := Nat.div_add_mod (T - 1 - i) t
  have h2 := Nat.mod_lt (T - 1 - i) (show 0 < t by omega)
  rw [Nat.mul_comm] at h1
  refine ⟨?_, ?_, ?_⟩
  · rw [Nat.add_mul_mod_self_right]; exact Nat.mod_eq_of_lt (by omega)
  · omega
  · omega

/-- What has been written when the turns from a up to k have been gone through. -/
def BornTo (f e : Int) (a k t m : Nat) (acc : List Int) : Prop := acc.length = m ∧ ∀ j, a ≤ j → j < k → acc[j % t]? = some (f + (j : Int) * e)

theorem BornTo.next {f e : Int} {a k t m : Nat} {acc : List Int} (h : BornTo f e a k t m acc) (hk : a ≤ k) (hw : k < a + t) (hm : k % t < m) : BornTo f e a (k + 1) t m (acc.set (k % t) (f + (k : Int) * e)) := by
  refine ⟨by rw [List.length_set]; exact h.1, fun j h1 h2 => ?_⟩
  by_cases hj : j = k
  · subst hj
    rw [List.getElem?_set_self (by rw [h.1]; exact hm)]
  · have hne : j % t ≠ k % t := by
      intro e
      have e1 := Nat.div_add_mod j t
      have e2 := Nat.div_add_mod k t
      have h3 : t * (j / t) < t * (k / t) := by omega
      have h4 := Nat.lt_of_mul_lt_mul_left h3
      have h5 : t * (j / t + 1) ≤ t * (k / t) := Nat.mul_le_mul_left _ h4
      rw [Nat.mul_add, Nat.mul_one] at h5
      omega
    rw [List.getElem?_set_ne (Ne.symm hne)]
    exact h.2 j h1 (by omega)

theorem BornTo.fin {f e : Int} {T t : Nat} {acc : List Int} (ht : 1 ≤ t) (h : BornTo f e (T - t) T t (min T t) acc) : acc = birthsL f e T t := by
  apply List.ext_getElem?
  intro i
  by_cases hi : i < min T t
  · obtain ⟨h1, h2, h3⟩ := last_turn ht hi
    have h4 := h.2 (i + (T - 1 - i) / t * t) (by omega) h2
    rw [h1] at h4
    rw [h4]
    unfold birthsL
    rw [List.getElem?_map, List.getElem?_range hi]
    rfl
  · rw [List.getElem?_eq_none (by rw [h.1]; omega), List.getElem?_eq_none (by rw [birthsL_len]; omega)]
end Go.Proofs.YtgobbecpnjelmaaGreat

namespace Go.Proofs.YtgobbecpnjelmaaGreat
open Go.RowKit

end Go.Proofs.YtgobbecpnjelmaaGreat

namespace Go.Proofs.YtgobbecpnjelmaaGreat
open Go.RowKit

/-- What Length's closure has written, behind k nodes. -/
def LenI (l : List Nat) (B k : Nat) (w : World) : Prop :=
  B + 2 < w.heap.size ∧ w.cell? ⟨B + 1, 0, none⟩ = some (.int .i64 ((l.getD (k - 1) 0 : Nat) : Int)) ∧ w.cell? ⟨B + 2, 0, none⟩ = some (.int .i64 ((k - 1 : Nat) : Int)) ∧ w.frozen? ⟨B + 1, 0, none⟩ = false ∧ w.frozen? ⟨B + 2, 0, none⟩ = false

theorem LenI.stable {l : List Nat} {B k : Nat} {w w' : World} (h : LenI l B k w) (b : Below w.heap.size w w') : LenI l B k w' := by
  obtain ⟨h1, h2, h3, h4, h5⟩ := h
  refine ⟨Nat.lt_of_lt_of_le h1 b.size, (b.cell (p := ⟨B + 1, 0, none⟩) (by simp; omega)).trans h2, (b.cell (p := ⟨B + 2, 0, none⟩) (by simp; omega)).trans h3, (b.frozen (p := ⟨B + 1, 0, none⟩) (by simp; omega)).trans h4, (b.frozen (p := ⟨B + 2, 0, none⟩) (by simp; omega)).trans h5⟩

/-- What Trail's closure has written, behind k nodes. -/
def TrailI (l : List Nat) (B k : Nat) (w : World) : Prop :=
  ∃ v, B + 1 < w.heap.size ∧ w.cell? ⟨B + 1, 0, none⟩ = some v ∧ w.frozen? ⟨B + 1, 0, none⟩ = false ∧ w.ownsRow (B + 3) 3 1 v k ((l.take k).map fun (j : Nat) => .int .i64 (j : Int))

theorem TrailI.stable {l : List Nat} {B k : Nat} {w w' : World} (h : TrailI l B k w) (b : Below w.heap.size w w') : TrailI l B k w' := by
  obtain ⟨v, h1, h2, h3, h4⟩ := h
  exact ⟨v, Nat.lt_of_lt_of_le h1 b.size, (b.cell (p := ⟨B + 1, 0, none⟩) (by simp; omega)).trans h2, (b.frozen (p := ⟨B + 1, 0, none⟩) (by simp; omega)).trans h3, own_keep h4 fun g _ hg => b.block g hg⟩

end Go.Proofs.YtgobbecpnjelmaaGreat

namespace Go.Proofs.YtgobbecpnjelmaaGreat
open Go.RowKit

def DepOk (t : TreeP) (k : Nat) (ds : List Int) : Prop :=
  ds.length = t.nodes.length ∧ ∀ (j : Nat) (d : Int), ds[j]? = some d → (j = 0 ∨ ∃ k' nd, k' < k ∧ t.nodes[k']? = some nd ∧ leafB nd = false ∧ (nd.left = (j : Int) ∨ nd.right = (j : Int))) → d = (depOf t j : Int)

theorem DepOk.leaf {t : TreeP} {k : Nat} {ds : List Int} {n : NodeP} (h : DepOk t k ds) (hn : t.nodes[k]? = some n) (hl : leafB n = true) : DepOk t (k + 1) ds := by
  refine ⟨h.1, fun j d hd hj => h.2 j d hd ?_⟩
  rcases hj with hj | ⟨k', nd, g1, g2, g3, g4⟩
  · exact .inl hj
  · refine .inr ⟨k', nd, ?_, g2, g3, g4⟩
    rcases Nat.lt_or_ge k' k with h1 | h1
    · exact h1
    · obtain rfl : k' = k := by omega
      rw [hn] at g2
      injection g2 with g2
      subst g2
      rw [hl] at g3
      cases g3

theorem DepOk.node {t : TreeP} {k m : Nat} {ds : List Int} {n : NodeP} {v : Int} (h : DepOk t k ds) (hn : t.nodes[k]? = some n) (h1 : n.left = (k : Int) + 1) (h2 : n.right = (m : Int))
    (v1 : v = (depOf t (k + 1) : Int)) (v2 : v = (depOf t m : Int)) : DepOk t (k + 1) ((ds.set (k + 1) v).set m v) := by
  refine ⟨by simp [h.1], fun j d hd hj => ?_⟩
  by_cases e1 : j = m
  · subst e1
    rw [List.getElem?_set] at hd
    simp at hd
    rw [← hd.2, v2]
  · rw [List.getElem?_set_ne (by omega)] at hd
    by_cases e2 : j = k + 1
    · subst e2
      rw [List.getElem?_set] at hd
      simp at hd
      rw [← hd.2, v1]
    · rw [List.getElem?_set_ne (by omega)] at hd
      refine h.2 j d hd ?_
      rcases hj with hj | ⟨k', nd, g1, g2, g3, g4⟩
      · exact .inl hj
      · refine .inr ⟨k', nd, ?_, g2, g3, g4⟩
        rcases Nat.lt_or_ge k' k with h3 | h3
        · exact h3
        · obtain rfl : k' = k := by omega
          rw [hn] at g2
          injection g2 with g2
          subst g2
          omega

end Go.Proofs.YtgobbecpnjelmaaGreat

namespace Go.Proofs.YtgobbecpnjelmaaGreat
open Go.RowKit

def EndsI (l : List Int) (B k : Nat) (w : World) : Prop :=
  B + 2 < w.heap.size ∧ w.cell? ⟨B + 1, 0, none⟩ = some (.int .i64 ((l.take k).foldl min 4611686018427387904)) ∧ w.cell? ⟨B + 2, 0, none⟩ = some (.int .i64 ((l.take k).foldl max 0)) ∧ w.frozen? ⟨B + 1, 0, none⟩ = false ∧ w.frozen? ⟨B + 2, 0, none⟩ = false

theorem EndsI.stable {l : List Int} {B k : Nat} {w w' : World} (h : EndsI l B k w) (b : Below (B + 3) w w') : EndsI l B k w' := by
  obtain ⟨h1, h2, h3, h4, h5⟩ := h
  exact ⟨Nat.lt_of_lt_of_le h1 b.size, (b.cell (p := ⟨B + 1, 0, none⟩) (by simp)).trans h2, (b.cell (p := ⟨B + 2, 0, none⟩) (by simp)).trans h3, (b.frozen (p := ⟨B + 1, 0, none⟩) (by simp)).trans h4, (b.frozen (p := ⟨B + 2, 0, none⟩) (by simp)).trans h5⟩

def sumI : List Int → Int
  | [] => 0
  | x :: l => x + sumI l

def WtI (l : List Int) (B k : Nat) (w : World) : Prop :=
  B + 1 < w.heap.size ∧ w.cell? ⟨B + 1, 0, none⟩ = some (.int .i64 (sumI (l.take k))) ∧ w.frozen? ⟨B + 1, 0, none⟩ = false

theorem WtI.stable {l : List Int} {B k : Nat} {w w' : World} (h : WtI l B k w) (b : Below (B + 2) w w') : WtI l B k w' := by
  obtain ⟨h1, h2, h4⟩ := h
  exact ⟨Nat.lt_of_lt_of_le h1 b.size, (b.cell (p := ⟨B + 1, 0, none⟩) (by simp)).trans h2, (b.frozen (p := ⟨B + 1, 0, none⟩) (by simp)).trans h4⟩

end Go.Proofs.YtgobbecpnjelmaaGreat

namespace Go.Proofs.YtgobbecpnjelmaaGreat
open Go.RowKit

def sameN (a b : NodeP) : Bool := decide (a.coef = b.coef) && decide (a.at_ = b.at_) && decide (a.left = b.left) && decide (a.right = b.right) && decide (a.size = b.size)

theorem sameN_eq {a b : NodeP} : sameN a b = true ↔ a = b := by
  obtain ⟨a1, a2, a3, a4, a5⟩ := a
  obtain ⟨b1, b2, b3, b4, b5⟩ := b
  unfold sameN
  simp [and_assoc]

instance (a b : NodeP) : Decidable (a = b) := decidable_of_iff (sameN a b = true) sameN_eq

def sameT (a b : TreeP) : Bool := decide (a.dim = b.dim) && decide (a.nodes = b.nodes)

set_option maxRecDepth 100000 in
theorem r09same_any (v v2 : Value) (c c2 : List Int) (a a2 : Int) (w : World) (h : Ints .i64 w v c) (h2 : Ints .i64 w v2 c2) :
    Calls Tryz.prog 129 #[.agg #[v, .int .i64 a], .agg #[v2, .int .i64 a2]] w fun e w' => e = .returned (.bool (decide (a = a2) && decide (c = c2))) ∧ Below w.heap.size w w' := by
  have HS := Lib.hid (fun W (hW : Below w.heap.size w W) => same_any v v2 c c2 W (h.below hW) (h2.below hW))
  obtain ⟨x, k, rfl⟩ := h.shape
  obtain ⟨x2, k2, rfl⟩ := h2.shape
  obtain ⟨B, hB⟩ : ∃ B, decide (c = c2) = B := ⟨_, rfl⟩
  rw [hB] at HS ⊢
  clear h h2 hB
  by_cases ha : a = a2
  · subst ha
    have j : (a == a) = true := by simp
    rw [decide_eq_true rfl, Bool.true_and]
    go_enter Tryz.func129, Tryz.ntmps129
    go_wp2_with fail
    (with_reducible refine (HS.out _ bw).mono ?_)
    rintro e w1 ⟨rfl, d, rfl⟩
    go_wp2_with fail
    go_ret
    exact ⟨rfl, bw⟩
  · have j : (a == a2) = false := by simp [ha]
    rw [decide_eq_false ha, Bool.false_and]
    clear ha
    go_enter Tryz.func129, Tryz.ntmps129
    go_wp2_with fail
    go_ret
    exact ⟨rfl, bw⟩
end Go.Proofs.YtgobbecpnjelmaaGreat

namespace Go.Proofs.YtgobbecpnjelmaaGreat
open Go.RowKit

end Go.Proofs.YtgobbecpnjelmaaGreat

namespace Go.Proofs.YtgobbecpnjelmaaGreat
open Go.RowKit

set_option maxRecDepth 100000 in
set_option maxHeartbeats 8000000 in
theorem rrightSeen_any (id P Q dim : Int) (s : Bool) (vx : Value) (x : List Int) (w : World) (h : Ints .i64 w vx x) :
    Calls Tryz.prog 79 #[.agg #[.int .i64 id, vx, .int .i64 P, .int .i64 Q, .bool s], .int .i64 dim] w fun e w' => e = .returned (.bool (seenB id x P Q s dim)) ∧ Below w.heap.size w w' := by
  have HX := Lib.hid h
  obtain ⟨xa, xc, rfl⟩ := h.shape
  have HV := Lib.hid (fun W (hW : Ints .i64 W (.slice xa x.length xc) x) => risv_any _ x dim W hW)
  have HS := Lib.hid (fun W => ris13_any P Q W)
  have HR := Lib.hid (show seenB id x P Q s dim = (decide (1 ≤ id ∧ id ≤ 1099511627776) && vecB x dim && (if s = true then scoreB (P, Q) else decide (P = 0 ∧ Q = 0))) from rfl)
  generalize seenB id x P Q s dim = R at *
  clear h
  by_cases hid : 1 ≤ id ∧ id ≤ 1099511627776
  · rw [decide_eq_true hid] at HR
    obtain ⟨i1, i2⟩ := hid
    generalize vecB x dim = V at *
    cases V with
    | false =>
      have HR2 := Lib.hid (show R = false by rw [HR.out]; rfl)
      clear HR
      go_enter Tryz.func79, Tryz.ntmps79
      go_wp2_with fail
      (with_reducible refine (HV.out _ (HX.out.below bw)).mono ?_)
      rintro e w1 ⟨rfl, rfl⟩
      go_wp2_with fail
      go_ret
      exact ⟨ret_bool HR2.out.symm, bw⟩
    | true =>
      cases s with
      | true =>
        have HR2 := Lib.hid (show R = scoreB (P, Q) by rw [HR.out]; rfl)
        clear HR
        generalize scoreB (P, Q) = B at *
        go_enter Tryz.func79, Tryz.ntmps79
        go_wp2_with fail
        (with_reducible refine (HV.out _ (HX.out.below bw)).mono ?_)
        rintro e w1 ⟨rfl, rfl⟩
        go_wp2_with fail
        (with_reducible refine (HS.out _).mono ?_); rintro e w2 ⟨rfl, b2⟩; have s2 : w.heap.size + 1 ≤ w2.heap.size := sz b2; have B2 := Lib.hid (Bc (B := w.heap.size) (a := w) bw b2); clear b2
        go_wp2_with fail
        go_ret
        exact ⟨ret_bool HR2.out.symm, B2.out⟩
      | false =>
        have HR2 := Lib.hid (show R = decide (P = 0 ∧ Q = 0) by rw [HR.out]; rfl)
        clear HR
        go_enter Tryz.func79, Tryz.ntmps79
        go_wp2_with fail
        (with_reducible refine (HV.out _ (HX.out.below bw)).mono ?_)
        rintro e w1 ⟨rfl, rfl⟩
        go_wp2_with fail
        all_goals
          go_ret
          refine ⟨ret_bool ?_, bw⟩
          rw [HR2.out]
          first | rfl | (simp [*]; done) | (by_cases hq : Q = 0 <;> simp [*]; done)
  · have HR2 := Lib.hid (show R = false by rw [HR.out, decide_eq_false hid]; rfl)
    clear HR
    have hid2 : id < 1 ∨ 1099511627776 < id := by omega
    clear hid
    rcases hid2 with h1 | h1
    · go_enter Tryz.func79, Tryz.ntmps79
      go_wp2_with fail
      go_ret
      exact ⟨ret_bool HR2.out.symm, bw⟩
    · have h2 : ¬ id < 1 := by omega
      go_enter Tryz.func79, Tryz.ntmps79
      go_wp2_with fail
      go_ret
      exact ⟨ret_bool HR2.out.symm, bw⟩

theorem Ints.at {k : IntKind} {w : World} {a : Option Addr} {n c : Nat} {l : List Int} (h : Ints k w (.slice a n c) l) {i : Nat} {x : Int} (hi : l[i]? = some x) : ∃ b o, a = some ⟨b, o, none⟩ ∧ b < w.heap.size ∧ w.cell? ⟨b, o + i, none⟩ = some (.int k x) := by
  obtain ⟨a', c', e, _, _, _, g⟩ := h
  injection e with e1 e2 e3
  subst e1
  exact g i x hi

end Go.Proofs.YtgobbecpnjelmaaGreat

namespace Go.Proofs.YtgobbecpnjelmaaGreat
open Go.RowKit

set_option maxHeartbeats 400000 in
theorem sEq_any (va vb : Value) (la lb : List Int) (w : World) (ha : Ints .i64 w va la) (hb : Ints .i64 w vb lb) :
    Calls Tryz.prog 82 #[va, vb] w fun e w' => e = .returned (.bool (decide (la = lb))) ∧ ∃ n, w' = w.drewN n := by
  obtain ⟨a, c, rfl, _, _, h3, ha⟩ := ha
  obtain ⟨b, d, rfl, _, _, h3', hb⟩ := hb
  have HA := Lib.hid ha; clear ha
  have HB := Lib.hid hb; clear hb
  obtain ⟨m, hm⟩ : ∃ m, lb.length = m := ⟨_, rfl⟩
  rw [hm] at h3' ⊢
  have HM := Lib.hid hm; clear hm
  by_cases hl : la.length = m
  · obtain rfl := hl
    have hb : ((la.length : Int) != la.length) = false := by simp
    go_enter Tryz.func82, Tryz.ntmps82
    go_wp2
    go_loopw [5, 13] (fun _ i wr => ∃ k : Nat, k ≤ la.length ∧ i = .int .i64 k ∧ (la.take k = lb.take k) ∧ ∃ n, wr = w.drewN n) (fun _ i _ => la.length - (intOf i).toNat)
    case atStart => exact ⟨0, Nat.zero_le _, rfl, rfl, 0, rfl⟩
    case round =>
      obtain ⟨k, hk, rfl, hpre, n, rfl⟩ := hrel
      have HP := Lib.hid hpre; clear hpre
      by_cases hlt : k < la.length
      · obtain ⟨x, hx⟩ := getElem?_ex hlt
        obtain ⟨y, hy⟩ := getElem?_ex (l := lb) (k := k) (by rw [HM.out]; exact hlt)
        obtain ⟨b1, o1, rfl, hb1, hc1⟩ := HA.out k x hx
        obtain ⟨b2, o2, rfl, hb2, hc2⟩ := HB.out k y hy
        have HX := Lib.hid hx; clear hx
        have HY := Lib.hid hy; clear hy
        go_wp2
        go_quiet (fail)
        go_wp2
        · go_ret
          have hne : (x != y) = true := by assumption
          refine ⟨ret_bool ?_, _, World.drewN_drewN _ _ _⟩
          symm; rw [decide_eq_false_iff_not]; rintro rfl
          have := HX.out.symm.trans HY.out
          simp_all
        · have hne : (x != y) = false := by assumption
          have : x = y := by simpa using hne
          subst this
          go_roundw
          case rel => exact ⟨k + 1, by omega, by go_num, take_step HX.out HY.out HP.out, _, rfl⟩
          case measure => simp [intOf] <;> omega
      · go_wp2
        go_ret
        refine ⟨ret_bool ?_, _, rfl⟩
        have hp := HP.out
        rw [List.take_of_length_le (by omega), List.take_of_length_le (by rw [HM.out]; omega)] at hp
        simp [hp]
  · have hb : ((la.length : Int) != m) = true := by simp; omega
    go_enter Tryz.func82, Tryz.ntmps82
    go_wp2
    go_ret
    refine ⟨ret_bool ?_, 0, rfl⟩
    symm; rw [decide_eq_false_iff_not]; rintro rfl
    exact hl HM.out

set_option maxRecDepth 100000 in
theorem cSame_any (v v2 : Value) (c c2 : List Int) (a a2 : Int) (w : World) (h : Ints .i64 w v c) (h2 : Ints .i64 w v2 c2) :
    Calls Tryz.prog 128 #[.agg #[v, .int .i64 a], .agg #[v2, .int .i64 a2]] w fun e w' => e = .returned (.bool (decide (a = a2) && decide (c = c2))) ∧ Below w.heap.size w w' := by
  have HS := Lib.hid (fun W (hW : Below w.heap.size w W) => sEq_any v v2 c c2 W (h.below hW) (h2.below hW))
  obtain ⟨x, k, rfl⟩ := h.shape
  obtain ⟨x2, k2, rfl⟩ := h2.shape
  obtain ⟨B, hB⟩ : ∃ B, decide (c = c2) = B := ⟨_, rfl⟩
  rw [hB] at HS ⊢
  clear h h2 hB
  by_cases ha : a = a2
  · subst ha
    have j : (a == a) = true := by simp
    rw [decide_eq_true rfl, Bool.true_and]
    go_enter Tryz.func128, Tryz.ntmps128
    go_wp2_with fail
    (with_reducible refine (HS.out _ bw).mono ?_)
    rintro e w1 ⟨rfl, d, rfl⟩
    go_wp2_with fail
    go_ret
    exact ⟨rfl, bw⟩
  · have j : (a == a2) = false := by simp [ha]
    rw [decide_eq_false ha, Bool.false_and]
    clear ha
    go_enter Tryz.func128, Tryz.ntmps128
    go_wp2_with fail
    go_ret
    exact ⟨rfl, bw⟩
end Go.Proofs.YtgobbecpnjelmaaGreat

namespace Go.Proofs.YtgobbecpnjelmaaGreat
open Go.RowKit

end Go.Proofs.YtgobbecpnjelmaaGreat

namespace Go.Proofs.YtgobbecpnjelmaaGreat
open Go.RowKit

end Go.Proofs.YtgobbecpnjelmaaGreat

namespace Go.Proofs.YtgobbecpnjelmaaGreat
open Go.RowKit

theorem qasked_any (p t : Int) (w : World) :
    Calls Tryz.prog 112 #[.int .i64 p, .int .i64 t] w fun e w' => e = .returned (.bool (decide (2 ≤ t ∧ t ≤ 1000 ∧ 1 ≤ p ∧ p < t))) ∧ w = w' := by
  by_cases h0 : 2 ≤ t
  · by_cases h1 : t ≤ 1000
    · by_cases h2 : 1 ≤ p
      · by_cases h3 : p < t
        · go_enter Tryz.func112, Tryz.ntmps112
          go_wp2_with fail
          go_ret
          exact ⟨ret_bool (by simp; omega), rfl⟩
        · go_enter Tryz.func112, Tryz.ntmps112
          go_wp2_with fail
          go_ret
          exact ⟨ret_bool (by simp; omega), rfl⟩
      · go_enter Tryz.func112, Tryz.ntmps112
        go_wp2_with fail
        go_ret
        exact ⟨ret_bool (by simp; omega), rfl⟩
    · go_enter Tryz.func112, Tryz.ntmps112
      go_wp2_with fail
      go_ret
      exact ⟨ret_bool (by simp; omega), rfl⟩
  · go_enter Tryz.func112, Tryz.ntmps112
    go_wp2_with fail
    go_ret
    exact ⟨ret_bool (by simp; omega), rfl⟩

theorem rqasked_any (p t : Int) (w : World) :
    Calls Tryz.prog 117 #[.int .i64 p, .int .i64 t] w fun e w' => e = .returned (.bool (decide (2 ≤ t ∧ t ≤ 1000 ∧ 1 ≤ p ∧ p < t))) ∧ w = w' := by
  by_cases h0 : 2 ≤ t
  · by_cases h1 : t ≤ 1000
    · by_cases h2 : 1 ≤ p
      · by_cases h3 : p < t
        · go_enter Tryz.func117, Tryz.ntmps117
          go_wp2_with fail
          go_ret
          exact ⟨ret_bool (by simp; omega), rfl⟩
        · go_enter Tryz.func117, Tryz.ntmps117
          go_wp2_with fail
          go_ret
          exact ⟨ret_bool (by simp; omega), rfl⟩
      · go_enter Tryz.func117, Tryz.ntmps117
        go_wp2_with fail
        go_ret
        exact ⟨ret_bool (by simp; omega), rfl⟩
    · go_enter Tryz.func117, Tryz.ntmps117
      go_wp2_with fail
      go_ret
      exact ⟨ret_bool (by simp; omega), rfl⟩
  · go_enter Tryz.func117, Tryz.ntmps117
    go_wp2_with fail
    go_ret
    exact ⟨ret_bool (by simp; omega), rfl⟩

theorem asked_bad {n p t : Int} (h1 : 1 ≤ n) (h2 : n ≤ 4096) : decide (2 ≤ t ∧ t ≤ 1000 ∧ 1 ≤ p ∧ p < t) = !decide (indexBad n p t) := by
  by_cases h : indexBad n p t
  · rw [decide_eq_true h]
    unfold indexBad at h
    rw [decide_eq_false (by omega)]
    rfl
  · rw [decide_eq_false h]
    unfold indexBad at h
    rw [decide_eq_true (by omega)]
    rfl

theorem index_mul {n p t : Int} (h : ¬ indexBad n p t) : 0 ≤ (t - p) * n ∧ (t - p) * n ≤ 4096000 := by
  unfold indexBad at h
  refine ⟨Int.mul_nonneg (by omega) (by omega), ?_⟩
  have := Int.mul_le_mul (a := t - p) (b := n) (c := 1000) (d := 4096) (by omega) (by omega) (by omega) (by omega)
  omega

set_option maxRecDepth 100000 in
set_option maxHeartbeats 4000000 in
theorem qindex_any (n p t : Int) (w : World) (_hp : Ok64 p) (ht : Ok64 t) :
    Calls Tryz.prog 69 #[.int .i64 n, .int .i64 p, .int .i64 t] w fun e w' => e = .returned (.tuple #[.int .i64 (indexV n p t), .int .i64 (indexE n p t)]) ∧ w = w' := by
  by_cases h1 : n < 1
  · have e1 : indexV n p t = 0 := if_pos (by unfold indexBad; omega)
    have e2 : indexE n p t = 1 := if_pos (by unfold indexBad; omega)
    rw [e1, e2]
    clear e1 e2 ht
    go_enter Tryz.func69, Tryz.ntmps69
    go_wp2_with fail
    go_ret2
    exact ⟨rfl, rfl⟩
  · by_cases h2 : 4096 < n
    · have e1 : indexV n p t = 0 := if_pos (by unfold indexBad; omega)
      have e2 : indexE n p t = 1 := if_pos (by unfold indexBad; omega)
      rw [e1, e2]
      clear e1 e2 ht
      go_enter Tryz.func69, Tryz.ntmps69
      go_wp2_with fail
      go_ret2
      exact ⟨rfl, rfl⟩
    · have HA := Lib.hid (fun W => qasked_any p t W)
      rw [asked_bad (n := n) (by omega) (by omega)] at HA
      by_cases hb : indexBad n p t
      · have e1 : indexV n p t = 0 := if_pos hb
        have e2 : indexE n p t = 1 := if_pos hb
        rw [e1, e2]
        rw [decide_eq_true hb] at HA
        clear e1 e2 ht hb
        go_enter Tryz.func69, Tryz.ntmps69
        go_wp2_with fail
        (with_reducible refine (HA.out _).mono ?_)
        rintro e w1 ⟨rfl, rfl⟩
        go_wp2_with fail
        go_ret2
        exact ⟨rfl, rfl⟩
      · have hm := index_mul hb
        have hbb := hb
        unfold indexBad at hbb
        have HC := Lib.hid (fun W => ceil_any ((t - p) * n) t W (by unfold Ok64; omega) ht)
        have e1 : indexV n p t = ceilV ((t - p) * n) t := if_neg hb
        have e2 : indexE n p t = 0 := if_neg hb
        have e3 : ceilE t = 0 := if_neg (by omega)
        rw [e1, e2]
        rw [e3] at HC
        rw [decide_eq_false hb] at HA
        have w1 : wrap64 (t - p) = t - p := IntWalk.wrap64_in _ (by omega)
        have w2 : wrap64 ((t - p) * n) = (t - p) * n := IntWalk.wrap64_in _ (by omega)
        clear e1 e2 e3 ht hb hm hbb
        go_enter Tryz.func69, Tryz.ntmps69
        go_wp2_with fail
        (with_reducible refine (HA.out _).mono ?_)
        rintro e w1 ⟨rfl, rfl⟩
        go_wp2_with fail
        (with_reducible refine (HC.out _).mono ?_)
        rintro e w1 ⟨rfl, rfl⟩
        go_wp2_with fail
        go_ret2
        exact ⟨rfl, rfl⟩

theorem index_le {n p t : Int} (h : ¬ indexBad n p t) {k : Nat} (hk : (k : Int) * t < (t - p) * n) : (k : Int) < indexV n p t := by
  obtain ⟨⟨a1, a2⟩, a3, a4⟩ := index_is h
  have ht : 2 ≤ t := by unfold indexBad at h; omega
  rcases Int.lt_or_le (k : Int) (indexV n p t) with h1 | h1
  · exact h1
  · have := Int.mul_le_mul_of_nonneg_left h1 (show 0 ≤ t by omega)
    rw [Int.mul_comm] at hk
    omega

theorem index_ge {n p t : Int} (h : ¬ indexBad n p t) {k : Nat} (hk : ¬ (k : Int) * t < (t - p) * n) : indexV n p t ≤ k := index_least h (by omega)

set_option maxRecDepth 100000 in
set_option maxHeartbeats 4000000 in
theorem rqindex_any (n p t : Int) (w : World) :
    Calls Tryz.prog 71 #[.int .i64 n, .int .i64 p, .int .i64 t] w fun e w' => e = .returned (.tuple #[.int .i64 (indexV n p t), .int .i64 (indexE n p t)]) ∧ w = w' := by
  by_cases h1 : n < 1
  · have e1 : indexV n p t = 0 := if_pos (by unfold indexBad; omega)
    have e2 : indexE n p t = 1 := if_pos (by unfold indexBad; omega)
    rw [e1, e2]
    clear e1 e2
    go_enter Tryz.func71, Tryz.ntmps71
    go_wp2_with fail
    go_ret2
    exact ⟨rfl, rfl⟩
  · by_cases h2 : 4096 < n
    · have e1 : indexV n p t = 0 := if_pos (by unfold indexBad; omega)
      have e2 : indexE n p t = 1 := if_pos (by unfold indexBad; omega)
      rw [e1, e2]
      clear e1 e2
      go_enter Tryz.func71, Tryz.ntmps71
      go_wp2_with fail
      go_ret2
      exact ⟨rfl, rfl⟩
    · have HA := Lib.hid (fun W => rqasked_any p t W)
      rw [asked_bad (n := n) (by omega) (by omega)] at HA
      by_cases hb : indexBad n p t
      · have e1 : indexV n p t = 0 := if_pos hb
        have e2 : indexE n p t = 1 := if_pos hb
        rw [e1, e2]
        rw [decide_eq_true hb] at HA
        clear e1 e2 hb
        go_enter Tryz.func71, Tryz.ntmps71
        go_wp2_with fail
        (with_reducible refine (HA.out _).mono ?_)
        rintro e w1 ⟨rfl, rfl⟩
        go_wp2_with fail
        go_ret2
        exact ⟨rfl, rfl⟩
      · have hm := index_mul hb
        obtain ⟨⟨k1, k2⟩, _, _⟩ := index_is hb
        have HB := Lib.hid hb
        have e2 : indexE n p t = 0 := if_neg hb
        rw [e2]
        rw [decide_eq_false hb] at HA
        unfold indexBad at hb
        obtain ⟨T, rfl⟩ : ∃ T : Nat, t = (T : Int) := ⟨t.toNat, by omega⟩
        have w1 : wrap64 ((T : Int) - p) = (T : Int) - p := IntWalk.wrap64_in _ (by omega)
        have w2 : wrap64 (((T : Int) - p) * n) = ((T : Int) - p) * n := IntWalk.wrap64_in _ (by omega)
        have hT : T ≤ 1000 := by omega
        clear e2 hb hm
        go_enter Tryz.func71, Tryz.ntmps71
        go_wp2_with fail
        (with_reducible refine (HA.out _).mono ?_)
        rintro e w1 ⟨rfl, rfl⟩
        go_wp2_with fail
        go_loopw [8] (fun kk wr => ∃ k : Nat, kk = .int .i64 k ∧ 1 ≤ k ∧ (k : Int) ≤ indexV n p T ∧ wr = w) (fun kk _ => 4096 - (intOf kk).toNat)
        case atStart => exact ⟨1, rfl, by omega, by omega, rfl⟩
        case round =>
          obtain ⟨k, rfl, hk1, hk2, rfl⟩ := hrel
          have hk3 : k ≤ 4096 := by omega
          have hb1 : k * T ≤ 4096 * 1000 := Nat.mul_le_mul hk3 hT
          have w3 : wrap64 ((k : Int) * T) = (k : Int) * T := IntWalk.wrap64_in _ (by have : (k : Int) * T = ((k * T : Nat) : Int) := by simp
                                                                                      omega)
          clear hb1
          by_cases hlt : (k : Int) * T < ((T : Int) - p) * n
          · have hlt2 := index_le HB.out hlt
            go_wp2_with fail
            go_roundw
            case rel => exact ⟨k + 1, by go_num, by omega, by omega, trivial⟩
            case measure => simp [intOf] <;> omega
          · have hge := index_ge HB.out hlt
            have HE := Lib.hid (show (k : Int) = indexV n p T by omega)
            go_wp2_with fail
            go_ret2
            exact ⟨ret2 HE.out rfl, rfl⟩

end Go.Proofs.YtgobbecpnjelmaaGreat

namespace Go.Proofs.YtgobbecpnjelmaaGreat
open Go.RowKit

theorem line_at {l : List (Int × Int)} {p t : Int} (h : lineE l p t = 0) : ∃ (k : Nat) (x : Int × Int), indexV l.length p t = (k : Int) + 1 ∧ (k : Int) + 1 ≤ l.length ∧ (sortS l)[k]? = some x ∧ lineV l p t = x := by
  obtain ⟨hb, hs⟩ := line_ok h
  obtain ⟨⟨k1, k2⟩, _, _⟩ := index_is hb
  obtain ⟨k, hk⟩ : ∃ k : Nat, indexV l.length p t = (k : Int) + 1 := ⟨(indexV l.length p t - 1).toNat, by omega⟩
  obtain ⟨x, hx⟩ := getElem?_ex (l := sortS l) (k := k) (by rw [sortS_len hs]; omega)
  refine ⟨k, x, hk, by omega, hx, ?_⟩
  unfold lineV
  rw [if_pos h, hk, show ((k : Int) + 1).toNat - 1 = k by omega, getD_of hx]

theorem lineV_no {l : List (Int × Int)} {p t : Int} (h : lineE l p t ≠ 0) : lineV l p t = (0, 0) := if_neg h

set_option maxRecDepth 100000 in
set_option maxHeartbeats 4000000 in
theorem qline_any (v : Value) (l : List (Int × Int)) (p t : Int) (w : World) (h : PairsR w v l) (hl : l.length ≤ 10000) (hp : Ok64 p) (ht : Ok64 t) :
    Calls Tryz.prog 27 #[v, .int .i64 p, .int .i64 t] w fun e w' => e = .returned (.tuple #[.agg #[.int .i64 (lineV l p t).1, .int .i64 (lineV l p t).2], .int .i64 (lineE l p t)]) ∧ Below w.heap.size w w' := by
  have HX := Lib.hid h
  obtain ⟨xa, xc, rfl⟩ := h.shape
  have HI := Lib.hid (fun W => qindex_any l.length p t W hp ht)
  have HSO := Lib.hid (fun W (hW : PairsR W (.slice xa l.length xc) l) => ssort_any _ l W hW hl)
  have hcap := h.capN
  clear hp ht
  by_cases hb : indexBad l.length p t
  · have e1 : lineE l p t = 1 := if_pos hb
    have e2 : indexE l.length p t = 1 := if_pos hb
    have e3 : indexV l.length p t = 0 := if_pos hb
    have e4 : lineV l p t = (0, 0) := lineV_no (by omega)
    rw [e1, e4]
    rw [e2, e3] at HI
    clear e1 e2 e3 e4 hb hl h HSO
    generalize l.length = n at *
    go_enter Tryz.func27, Tryz.ntmps27
    go_wp2_with fail
    (with_reducible refine (HI.out _).mono ?_)
    rintro e w1 ⟨rfl, rfl⟩
    go_wp2_with fail
    exact bodyPost_ret (v := .tuple #[.agg #[.int .i64 0, .int .i64 0], .int .i64 1]) (by simp [results, Tryz.results27, go_sem]) rfl ⟨rfl, bw⟩
  · have e2 : indexE l.length p t = 0 := if_neg hb
    rw [e2] at HI
    cases hs : allS l with
    | false =>
      have e1 : lineE l p t = 130 := by unfold lineE; rw [if_neg hb, hs]; rfl
      have e4 : lineV l p t = (0, 0) := lineV_no (by omega)
      rw [e1, e4]
      rw [hs] at HSO
      clear e1 e2 e4 hb hl h hs
      simp only [Bool.false_eq_true, if_false] at HSO
      generalize indexV l.length p t = K at *
      generalize l.length = n at *
      go_enter Tryz.func27, Tryz.ntmps27
      go_wp2_with fail
      (with_reducible refine (HI.out _).mono ?_)
      rintro e w1 ⟨rfl, rfl⟩
      go_wp2_with fail
      (with_reducible refine (HSO.out _ (HX.out.below bw)).mono ?_); rintro e w1 ⟨v1, rfl, p1, b1⟩; have s1 : w.heap.size + 1 ≤ w1.heap.size := sz b1; have B1 := Lib.hid (Bc (B := w.heap.size) (a := w) bw b1); obtain ⟨c1_0, f1_0, c1_1, f1_1⟩ := k2f (w.heap.size) (.int .i64 0) (.int .i64 0) b1 (by and_intros <;> go_simp); obtain ⟨l1_0, n1_0, m1_0⟩ := lnm (show w.heap.size < w1.heap.size by omega); clear b1
      clear p1
      go_wp2_with fail
      exact bodyPost_ret (v := .tuple #[.agg #[.int .i64 0, .int .i64 0], .int .i64 130]) (by simp [results, Tryz.results27, go_sem, *]) rfl ⟨rfl, bx B1.out⟩
    | true =>
      have e1 : lineE l p t = 0 := by unfold lineE; rw [if_neg hb, hs]; rfl
      obtain ⟨k, ⟨x, y⟩, hk, hkl, hx, e4⟩ := line_at e1
      rw [e1, e4]
      rw [hk] at HI
      rw [hs] at HSO
      have hlen := sortS_len hs
      have HXK := Lib.hid hx
      clear e1 e2 e4 hb h hs hk hx
      simp only [if_true] at HSO
      generalize sortS l = L at *
      have HLEN := Lib.hid hlen
      generalize hn : l.length = n at *
      clear hlen hn
      have w1 : wrap64 ((k : Int) + 1 - 1) = (k : Int) := by rw [IntWalk.wrap64_in _ (by omega)]; omega
      have k0 : (0 : Int) ≤ (k : Int) := by omega
      have k1 : (k : Int) < (n : Int) := by omega
      go_enter Tryz.func27, Tryz.ntmps27
      go_wp2_with fail
      (with_reducible refine (HI.out _).mono ?_)
      rintro e w1 ⟨rfl, rfl⟩
      go_wp2_with fail
      (with_reducible refine (HSO.out _ (HX.out.below bw)).mono ?_); rintro e w1 ⟨v1, rfl, p1, b1⟩; have s1 : w.heap.size + 1 ≤ w1.heap.size := sz b1; have B1 := Lib.hid (Bc (B := w.heap.size) (a := w) bw b1); obtain ⟨c1_0, f1_0, c1_1, f1_1⟩ := k2f (w.heap.size) (.int .i64 0) (.int .i64 0) b1 (by and_intros <;> go_simp); obtain ⟨l1_0, n1_0, m1_0⟩ := lnm (show w.heap.size < w1.heap.size by omega); clear b1
      obtain ⟨a1, q1, rfl⟩ := p1.shape
      obtain ⟨b, o, rfl⟩ := p1.addr (by rw [HLEN.out]; omega)
      obtain ⟨g1, g2, g3⟩ := p1.at HXK.out
      rw [HLEN.out]
      clear p1
      go_wp2_with fail
      exact bodyPost_ret (v := .tuple #[.agg #[.int .i64 x, .int .i64 y], .int .i64 0]) (by simp [results, Tryz.results27, go_sem, *]) rfl ⟨rfl, bx B1.out⟩

set_option maxRecDepth 100000 in
set_option maxHeartbeats 4000000 in
theorem rqline_any (v : Value) (l : List (Int × Int)) (p t : Int) (w : World) (h : PairsR w v l) (hl : l.length ≤ 10000) :
    Calls Tryz.prog 29 #[v, .int .i64 p, .int .i64 t] w fun e w' => e = .returned (.tuple #[.agg #[.int .i64 (lineV l p t).1, .int .i64 (lineV l p t).2], .int .i64 (lineE l p t)]) ∧ Below w.heap.size w w' := by
  have HX := Lib.hid h
  obtain ⟨xa, xc, rfl⟩ := h.shape
  have HI := Lib.hid (fun W => rqindex_any l.length p t W)
  have HSO := Lib.hid (fun W (hW : PairsR W (.slice xa l.length xc) l) => rsort13_any _ l W hW hl)
  have hcap := h.capN
  by_cases hb : indexBad l.length p t
  · have e1 : lineE l p t = 1 := if_pos hb
    have e2 : indexE l.length p t = 1 := if_pos hb
    have e3 : indexV l.length p t = 0 := if_pos hb
    have e4 : lineV l p t = (0, 0) := lineV_no (by omega)
    rw [e1, e4]
    rw [e2, e3] at HI
    clear e1 e2 e3 e4 hb hl h HSO
    generalize l.length = n at *
    go_enter Tryz.func29, Tryz.ntmps29
    go_wp2_with fail
    (with_reducible refine (HI.out _).mono ?_)
    rintro e w1 ⟨rfl, rfl⟩
    go_wp2_with fail
    exact bodyPost_ret (v := .tuple #[.agg #[.int .i64 0, .int .i64 0], .int .i64 1]) (by simp [results, Tryz.results29, go_sem]) rfl ⟨rfl, bw⟩
  · have e2 : indexE l.length p t = 0 := if_neg hb
    rw [e2] at HI
    cases hs : allS l with
    | false =>
      have e1 : lineE l p t = 130 := by unfold lineE; rw [if_neg hb, hs]; rfl
      have e4 : lineV l p t = (0, 0) := lineV_no (by omega)
      rw [e1, e4]
      rw [hs] at HSO
      clear e1 e2 e4 hb hl h hs
      simp only [Bool.false_eq_true, if_false] at HSO
      generalize indexV l.length p t = K at *
      generalize l.length = n at *
      go_enter Tryz.func29, Tryz.ntmps29
      go_wp2_with fail
      (with_reducible refine (HI.out _).mono ?_)
      rintro e w1 ⟨rfl, rfl⟩
      go_wp2_with fail
      (with_reducible refine (HSO.out _ (HX.out.below bw)).mono ?_); rintro e w1 ⟨v1, rfl, p1, b1⟩; have s1 : w.heap.size + 1 ≤ w1.heap.size := sz b1; have B1 := Lib.hid (Bc (B := w.heap.size) (a := w) bw b1); obtain ⟨c1_0, f1_0, c1_1, f1_1⟩ := k2f (w.heap.size) (.int .i64 0) (.int .i64 0) b1 (by and_intros <;> go_simp); obtain ⟨l1_0, n1_0, m1_0⟩ := lnm (show w.heap.size < w1.heap.size by omega); clear b1
      clear p1
      go_wp2_with fail
      exact bodyPost_ret (v := .tuple #[.agg #[.int .i64 0, .int .i64 0], .int .i64 130]) (by simp [results, Tryz.results29, go_sem, *]) rfl ⟨rfl, bx B1.out⟩
    | true =>
      have e1 : lineE l p t = 0 := by unfold lineE; rw [if_neg hb, hs]; rfl
      obtain ⟨k, ⟨x, y⟩, hk, hkl, hx, e4⟩ := line_at e1
      rw [e1, e4]
      rw [hk] at HI
      rw [hs] at HSO
      have hlen := sortS_len hs
      have HXK := Lib.hid hx
      clear e1 e2 e4 hb h hs hk hx
      simp only [if_true] at HSO
      generalize sortS l = L at *
      have HLEN := Lib.hid hlen
      generalize hn : l.length = n at *
      clear hlen hn
      have w1 : wrap64 ((k : Int) + 1 - 1) = (k : Int) := by rw [IntWalk.wrap64_in _ (by omega)]; omega
      have k0 : (0 : Int) ≤ (k : Int) := by omega
      have k1 : (k : Int) < (n : Int) := by omega
      go_enter Tryz.func29, Tryz.ntmps29
      go_wp2_with fail
      (with_reducible refine (HI.out _).mono ?_)
      rintro e w1 ⟨rfl, rfl⟩
      go_wp2_with fail
      (with_reducible refine (HSO.out _ (HX.out.below bw)).mono ?_); rintro e w1 ⟨v1, rfl, p1, b1⟩; have s1 : w.heap.size + 1 ≤ w1.heap.size := sz b1; have B1 := Lib.hid (Bc (B := w.heap.size) (a := w) bw b1); obtain ⟨c1_0, f1_0, c1_1, f1_1⟩ := k2f (w.heap.size) (.int .i64 0) (.int .i64 0) b1 (by and_intros <;> go_simp); obtain ⟨l1_0, n1_0, m1_0⟩ := lnm (show w.heap.size < w1.heap.size by omega); clear b1
      obtain ⟨a1, q1, rfl⟩ := p1.shape
      obtain ⟨b, o, rfl⟩ := p1.addr (by rw [HLEN.out]; omega)
      obtain ⟨g1, g2, g3⟩ := p1.at HXK.out
      rw [HLEN.out]
      clear p1
      go_wp2_with fail
      exact bodyPost_ret (v := .tuple #[.agg #[.int .i64 x, .int .i64 y], .int .i64 0]) (by simp [results, Tryz.results29, go_sem, *]) rfl ⟨rfl, bx B1.out⟩

/-! ### over -/
end Go.Proofs.YtgobbecpnjelmaaGreat

namespace Go.Proofs.YtgobbecpnjelmaaGreat
open Go.RowKit

def confBytes (c0 c1 c2 c3 c4 c5 c6 c7 c8 c9 c10 : Int) : List Int := if confB11 c0 c1 c2 c3 c4 c5 c6 c7 c8 c9 c10 = true then natsB [c0, c1, c2, c3, c4, c5, c6, c7, c8, c9, c10] else []

theorem confB11_pos (c0 c1 c2 c3 c4 c5 c6 c7 c8 c9 c10 : Int) (h : confB11 c0 c1 c2 c3 c4 c5 c6 c7 c8 c9 c10 = true) : ∀ x ∈ [c0, c1, c2, c3, c4, c5, c6, c7, c8, c9, c10], 0 ≤ x ∧ x ≤ 1000 := by
  have hh := (confB11_iff c0 c1 c2 c3 c4 c5 c6 c7 c8 c9 c10).1 h
  intro x hx
  simp at hx
  rcases hx with rfl | rfl | rfl | rfl | rfl | rfl | rfl | rfl | rfl | rfl | rfl <;> omega

theorem newI11 (c0 c1 c2 c3 c4 c5 c6 c7 c8 c9 c10 : Int) (W : World) (T : TypeId) (b : Nat) (hb : b = W.heap.size) : Ints .i64 (W.alloc (.cells #[.int .i64 c0, .int .i64 c1, .int .i64 c2, .int .i64 c3, .int .i64 c4, .int .i64 c5, .int .i64 c6, .int .i64 c7, .int .i64 c8, .int .i64 c9, .int .i64 c10] T)) (.slice (some ⟨b, 0, none⟩) 11 11) [c0, c1, c2, c3, c4, c5, c6, c7, c8, c9, c10] :=
  Ints.new' .i64 W T #[.int .i64 c0, .int .i64 c1, .int .i64 c2, .int .i64 c3, .int .i64 c4, .int .i64 c5, .int .i64 c6, .int .i64 c7, .int .i64 c8, .int .i64 c9, .int .i64 c10] [c0, c1, c2, c3, c4, c5, c6, c7, c8, c9, c10] b 11 11 hb rfl rfl (by omega) (by omega)

set_option maxRecDepth 100000 in
set_option maxHeartbeats 16000000 in
theorem putConf_any (v : Value) (pre : List Int) (c0 c1 c2 c3 c4 c5 c6 c7 c8 c9 c10 : Int) (w : World) (hw : Ok64 c7) (h : Ints .u8 w v pre) (hb : pre.length ≤ 9000) :
    Calls Tryz.prog 49 #[v, .agg #[.int .i64 c0, .int .i64 c1, .int .i64 c2, .int .i64 c3, .int .i64 c4, .int .i64 c5, .int .i64 c6, .int .i64 c7, .int .i64 c8, .int .i64 c9, .int .i64 c10]] w fun e w' => ∃ v', e = .returned v' ∧ Ints .u8 w' v' (pre ++ confBytes c0 c1 c2 c3 c4 c5 c6 c7 c8 c9 c10) ∧ Below w.heap.size w w' := by
  have HX := Lib.hid h
  obtain ⟨pa, pc, rfl⟩ := h.shape
  have HI := Lib.hid (fun W => sright_any c0 c1 c2 c3 c4 c5 c6 c7 c8 c9 c10 W hw)
  cases hs : confB11 c0 c1 c2 c3 c4 c5 c6 c7 c8 c9 c10 with
  | false =>
    have HC := Lib.hid (fun W (hW : Ints .u8 W (.slice pa pre.length pc) pre) => clone8_any _ pre W hW (by omega))
    have HSB := Lib.hid (show confBytes c0 c1 c2 c3 c4 c5 c6 c7 c8 c9 c10 = [] by unfold confBytes; rw [hs]; rfl)
    rw [hs] at HI
    clear hs h
    have HN := Lib.hid (show pre.length ≤ 9000 from hb)
    go_enter Tryz.func49, Tryz.ntmps49
    go_wp2_with fail
    (with_reducible refine (HI.out _).mono ?_); rintro e w1 ⟨rfl, b1⟩; have s1 : w.heap.size + 1 ≤ w1.heap.size := sz b1; have B1 := Lib.hid (Bc (B := w.heap.size) (a := w) bw b1); clear b1
    go_wp2_with fail
    (with_reducible refine (HC.out _ (HX.out.below (bx B1.out))).mono ?_)
    rintro e w2 ⟨v2, rfl, o2, b2⟩
    have B2 := Lib.hid (below_tr B1.out (b2.mono (by omega)))
    go_wp2_with fail
    go_ret
    exact ⟨_, rfl, by rw [HSB.out, List.append_nil]; exact (Ints.own o2 (by have := HN.out; omega)).2, B2.out⟩
  | true =>
    have hr := confB11_pos c0 c1 c2 c3 c4 c5 c6 c7 c8 c9 c10 hs
    have HN2 := Lib.hid (fun (vl : Value) W (hW : Ints .u8 W (.slice pa pre.length pc) pre) (hl : Ints .i64 W vl [c0, c1, c2, c3, c4, c5, c6, c7, c8, c9, c10]) => nats_any _ pre vl [c0, c1, c2, c3, c4, c5, c6, c7, c8, c9, c10] W hW hl (by intro x hx; have := hr x hx; omega) (by simp; omega))
    have HSB := Lib.hid (show confBytes c0 c1 c2 c3 c4 c5 c6 c7 c8 c9 c10 = natsB [c0, c1, c2, c3, c4, c5, c6, c7, c8, c9, c10] by unfold confBytes; rw [if_pos hs])
    rw [hs] at HI
    clear hs h hr hb hw
    generalize pre.length = n at *
    go_enter Tryz.func49, Tryz.ntmps49
    go_wp2_with fail
    (with_reducible refine (HI.out _).mono ?_); rintro e w1 ⟨rfl, b1⟩; have s1 : w.heap.size + 1 ≤ w1.heap.size := sz b1; have B1 := Lib.hid (Bc (B := w.heap.size) (a := w) bw b1); obtain ⟨c1_0, c1_1, c1_2, c1_3, c1_4, c1_5, c1_6, c1_7, c1_8, c1_9, c1_10⟩ := k11 (w.heap.size) (.int .i64 c0) (.int .i64 c1) (.int .i64 c2) (.int .i64 c3) (.int .i64 c4) (.int .i64 c5) (.int .i64 c6) (.int .i64 c7) (.int .i64 c8) (.int .i64 c9) (.int .i64 c10) b1 (by and_intros <;> go_simp); obtain ⟨l1_0, n1_0, m1_0⟩ := lnm (show w.heap.size < w1.heap.size by omega); clear b1
    go_wp2_with fail
    (with_reducible refine (HN2.out _ _ ?_ (newI11 c0 c1 c2 c3 c4 c5 c6 c7 c8 c9 c10 w1 3 w1.heap.size rfl)).mono ?_)
    · exact HX.out.below (bx B1.out)
    rintro e w2 ⟨v2, rfl, i2, b2⟩
    have I2 := Lib.hid i2
    have B2 := Lib.hid (Bc (B := w.heap.size) (a := w) (bx B1.out) b2)
    clear i2 b2
    go_wp2_with fail
    go_ret
    exact ⟨_, rfl, by rw [HSB.out]; exact I2.out, B2.out⟩

end Go.Proofs.YtgobbecpnjelmaaGreat
