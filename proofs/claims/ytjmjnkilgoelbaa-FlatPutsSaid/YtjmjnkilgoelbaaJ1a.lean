/-
  PathA: Walk of path.way: down a tree with a vector, each node told.
  PathB: Walks of path.length, Length and Trail.
  PathC: Walk of path.leaves: each leaf told, with its length.
  PathD: Walks of path.Ends and Weight.
  RefPathA: Walks of copseref10.Down, Leaf, of copseref11.Above and of copseref12.Length, Trail.
  RefPathB: Walks of copseref11.Above and of copseref12.Length, Trail.
  SameT: Walks of copseref09.Same and copseref10.Same.
  RefPathE: Walks of copseref11.Leaves, Parents, Depths.
  RefPathF: Walks of copseref11.Parents, Depths.
-/
import Derived.Test.YtjmjnkilgoelbaaKTreeA
import Derived.Test.YtjmjnkilgoelbaaJ0a
import Derived.BigRegion
import Derived.Test.YtjmjnkilgoelbaaKRefTreeA
namespace Go.Proofs.Ytjmjnkilgoelbaa
open Go.RowKit

theorem leftR_ok {c x : List Int} {a dim : Int} (hc : cutB c a dim = true) (hx : vecB x dim = true) : leftR c a x = (decide (dotI c x < a), 0) := by
  have hc2 := hc
  rw [cutB_is] at hc2
  simp only [Bool.and_eq_true] at hc2
  obtain ⟨_, _, h3, _⟩ := partsB_yes hc2.2
  rw [← h3] at hc hx hc2
  unfold leftR dotOk
  rw [hc, hc2.2, hx]
  rfl

/-- The nodes on the way of a vector through a tree. -/
def wayL (t : TreeP) (x : List Int) : List Nat := wayT t x 6 0
noncomputable def pathE (t : TreeP) (x : List Int) : Int := if treeB t = true then (if vecB x t.dim = true then 0 else 80) else 100

end Go.Proofs.Ytjmjnkilgoelbaa

namespace Go.Proofs.Ytjmjnkilgoelbaa
open Go.RowKit

/-- How long the path of a vector is. -/
noncomputable def lenV (t : TreeP) (x : List Int) : Int :=
  match (wayL t x).getLast? with
  | some j => (((wayL t x).length - 1 : Nat) : Int) * 1073741824 + normI ((t.nodes[j]?).elim 0 NodeP.size)
  | none => 0

theorem way_facts {t : TreeP} {x : List Int} (h : treeB t = true) : ∃ j n, (wayL t x).getLast? = some j ∧ t.nodes[j]? = some n ∧ leafB n = true ∧ 1 ≤ (wayL t x).length ∧ (wayL t x).length ≤ 7 ∧ j < t.nodes.length := by
  obtain ⟨_, _, h0, s0, q, h1, h2⟩ := treeB_true.1 h
  have h6 : h0 ≤ 6 := Nat.le_trans h2 (logI_le h1)
  obtain ⟨j, n, g1, g2, g3, g4, g5⟩ := q.wayLeaf x
  obtain ⟨e1, e2⟩ := q.way x 6 h6
  have e3 : wayL t x = wayT t x h0 0 := e1
  rw [e3]
  refine ⟨j, n, g1, g4, g5, ?_, by omega, g3⟩
  exact List.length_pos_iff.2 (wayT_ne t x h0 0)

/-- What Length's closure has written, behind k nodes. -/
def LenI (l : List Nat) (B k : Nat) (w : World) : Prop :=
  B + 2 < w.heap.size ∧ w.cell? ⟨B + 1, 0, none⟩ = some (.int .i64 ((l.getD (k - 1) 0 : Nat) : Int)) ∧ w.cell? ⟨B + 2, 0, none⟩ = some (.int .i64 ((k - 1 : Nat) : Int)) ∧ w.frozen? ⟨B + 1, 0, none⟩ = false ∧ w.frozen? ⟨B + 2, 0, none⟩ = false

theorem LenI.stable {l : List Nat} {B k : Nat} {w w' : World} (h : LenI l B k w) (b : Below w.heap.size w w') : LenI l B k w' := by
  obtain ⟨h1, h2, h3, h4, h5⟩ := h
  refine ⟨Nat.lt_of_lt_of_le h1 b.size, (b.cell (p := ⟨B + 1, 0, none⟩) (by simp; omega)).trans h2, (b.cell (p := ⟨B + 2, 0, none⟩) (by simp; omega)).trans h3, (b.frozen (p := ⟨B + 1, 0, none⟩) (by simp; omega)).trans h4, (b.frozen (p := ⟨B + 2, 0, none⟩) (by simp; omega)).trans h5⟩

/-- What Trail's closure has written, behind k nodes. -/
def TrailI (l : List Nat) (B k : Nat) (w : World) : Prop :=
  ∃ v, B + 1 < w.heap.size ∧ w.cell? ⟨B + 1, 0, none⟩ = some v ∧ w.frozen? ⟨B + 1, 0, none⟩ = false ∧ w.ownsRow (B + 3) 3 1 v k ((l.take k).map fun (j : Nat) => .int .i64 (j : Int))

theorem TrailI.stable {l : List Nat} {B k : Nat} {w w' : World} (h : TrailI l B k w) (b : Below w.heap.size w w') : TrailI l B k w' := by
  obtain ⟨v, h1, h2, h3, h4⟩ := h
  exact ⟨v, Nat.lt_of_lt_of_le h1 b.size, (b.cell (p := ⟨B + 1, 0, none⟩) (by simp; omega)).trans h2, (b.frozen (p := ⟨B + 1, 0, none⟩) (by simp; omega)).trans h3, own_keep h4 fun g _ hg => b.block g hg⟩

end Go.Proofs.Ytjmjnkilgoelbaa

namespace Go.Proofs.Ytjmjnkilgoelbaa
open Go.RowKit

theorem made_intsC (k : IntKind) (n : Nat) : (madeCells #[Value.int k 0] n).toList = (List.replicate n (0 : Int)).map (Value.int k) := by
  have h := made_ints k n
  rw [Nat.mul_one] at h
  exact h

def DepOk (t : TreeP) (k : Nat) (ds : List Int) : Prop :=
  ds.length = t.nodes.length ∧ ∀ (j : Nat) (d : Int), ds[j]? = some d → (j = 0 ∨ ∃ k' nd, k' < k ∧ t.nodes[k']? = some nd ∧ leafB nd = false ∧ (nd.left = (j : Int) ∨ nd.right = (j : Int))) → d = (depOf t j : Int)

theorem DepOk.leaf {t : TreeP} {k : Nat} {ds : List Int} {n : NodeP} (h : DepOk t k ds) (hn : t.nodes[k]? = some n) (hl : leafB n = true) : DepOk t (k + 1) ds := by
  refine ⟨h.1, fun j d hd hj => h.2 j d hd ?_⟩
  rcases hj with hj | ⟨k', nd, g1, g2, g3, g4⟩
  · exact .inl hj
  · refine .inr ⟨k', nd, ?_, g2, g3, g4⟩
    rcases Nat.lt_or_ge k' k with h1 | h1
    · exact h1
    · obtain rfl : k' = k := by omega
      rw [hn] at g2
      injection g2 with g2
      subst g2
      rw [hl] at g3
      cases g3

theorem DepOk.node {t : TreeP} {k m : Nat} {ds : List Int} {n : NodeP} {v : Int} (h : DepOk t k ds) (hn : t.nodes[k]? = some n) (h1 : n.left = (k : Int) + 1) (h2 : n.right = (m : Int))
    (v1 : v = (depOf t (k + 1) : Int)) (v2 : v = (depOf t m : Int)) : DepOk t (k + 1) ((ds.set (k + 1) v).set m v) := by
  refine ⟨by simp [h.1], fun j d hd hj => ?_⟩
  by_cases e1 : j = m
  · subst e1
    rw [List.getElem?_set] at hd
    simp at hd
    rw [← hd.2, v2]
  · rw [List.getElem?_set_ne (by omega)] at hd
    by_cases e2 : j = k + 1
    · subst e2
      rw [List.getElem?_set] at hd
      simp at hd
      rw [← hd.2, v1]
    · rw [List.getElem?_set_ne (by omega)] at hd
      refine h.2 j d hd ?_
      rcases hj with hj | ⟨k', nd, g1, g2, g3, g4⟩
      · exact .inl hj
      · refine .inr ⟨k', nd, ?_, g2, g3, g4⟩
        rcases Nat.lt_or_ge k' k with h3 | h3
        · exact h3
        · obtain rfl : k' = k := by omega
          rw [hn] at g2
          injection g2 with g2
          subst g2
          omega

/-- What a tree's own places say. -/
theorem dep_place {t : TreeP} (h : IsTree t) {k : Nat} {ds : List Int} (hd : DepOk t k ds) (hk : k < t.nodes.length) : ds[k]? = some (depOf t k : Int) ∧ depOf t k ≤ 6 := by
  obtain ⟨_, _, g, s, q, h1, h2⟩ := h
  have h6 : g ≤ 6 := Nat.le_trans h2 (logI_le h1)
  obtain ⟨d, hdd⟩ := getElem?_ex (l := ds) (k := k) (by rw [hd.1]; exact hk)
  have e := hd.2 k d hdd (by
    rcases Nat.eq_zero_or_pos k with h0 | h0
    · exact .inl h0
    · obtain ⟨k', nd, _, g2, g3, g4, g5⟩ := q.parent k h0 hk
      exact .inr ⟨k', nd, g2, g3, g4, g5⟩)
  have := q.dep 6 h6 k (by omega) hk
  exact ⟨by rw [hdd, e], by unfold depOf; omega⟩

theorem dep_kids {t : TreeP} (h : IsTree t) {k : Nat} {n : NodeP} (hn : t.nodes[k]? = some n) (hl : leafB n = false) :
    ∃ m : Nat, n.left = (k : Int) + 1 ∧ n.right = (m : Int) ∧ k + 1 < m ∧ m < t.nodes.length ∧ depOf t (k + 1) = depOf t k + 1 ∧ depOf t m = depOf t k + 1 := by
  obtain ⟨_, _, g, s, q, h1, h2⟩ := h
  have h6 : g ≤ 6 := Nat.le_trans h2 (logI_le h1)
  have hk := (List.getElem?_eq_some_iff.1 hn).1
  obtain ⟨m, g1, g2, g3, g4, g5, g6⟩ := q.kids k n (by omega) hk hn hl
  have e1 := (q.dep 6 h6 k (by omega) hk).1
  have e2 := (q.dep 6 h6 (k + 1) (by omega) (by omega)).1
  have e3 := (q.dep 6 h6 m (by omega) g4).1
  exact ⟨m, g1, g2, g3, g4, by unfold depOf; omega, by unfold depOf; omega⟩

end Go.Proofs.Ytjmjnkilgoelbaa

namespace Go.Proofs.Ytjmjnkilgoelbaa
open Go.RowKit

def EndsI (l : List Int) (B k : Nat) (w : World) : Prop :=
  B + 2 < w.heap.size ∧ w.cell? ⟨B + 1, 0, none⟩ = some (.int .i64 ((l.take k).foldl min 4611686018427387904)) ∧ w.cell? ⟨B + 2, 0, none⟩ = some (.int .i64 ((l.take k).foldl max 0)) ∧ w.frozen? ⟨B + 1, 0, none⟩ = false ∧ w.frozen? ⟨B + 2, 0, none⟩ = false

theorem EndsI.stable {l : List Int} {B k : Nat} {w w' : World} (h : EndsI l B k w) (b : Below (B + 3) w w') : EndsI l B k w' := by
  obtain ⟨h1, h2, h3, h4, h5⟩ := h
  exact ⟨Nat.lt_of_lt_of_le h1 b.size, (b.cell (p := ⟨B + 1, 0, none⟩) (by simp)).trans h2, (b.cell (p := ⟨B + 2, 0, none⟩) (by simp)).trans h3, (b.frozen (p := ⟨B + 1, 0, none⟩) (by simp)).trans h4, (b.frozen (p := ⟨B + 2, 0, none⟩) (by simp)).trans h5⟩

def sumI : List Int → Int
  | [] => 0
  | x :: l => x + sumI l

theorem sumI_snoc (l : List Int) (x : Int) : sumI (l ++ [x]) = sumI l + x := by
  induction l with
  | nil => simp [sumI]
  | cons y l ih => simp [sumI, ih]; omega

theorem sumI_bd {l : List Int} {b : Int} (h : ∀ x ∈ l, 0 ≤ x ∧ x ≤ b) : 0 ≤ sumI l ∧ sumI l ≤ b * (l.length : Int) := by
  induction l with
  | nil => simp [sumI]
  | cons x l ih =>
    have h1 := h x (by simp)
    have h2 := ih fun y hy => h y (by simp [hy])
    simp only [sumI, List.length_cons]
    rw [Int.natCast_add, Int.mul_add]
    omega

def WtI (l : List Int) (B k : Nat) (w : World) : Prop :=
  B + 1 < w.heap.size ∧ w.cell? ⟨B + 1, 0, none⟩ = some (.int .i64 (sumI (l.take k))) ∧ w.frozen? ⟨B + 1, 0, none⟩ = false

theorem WtI.stable {l : List Int} {B k : Nat} {w w' : World} (h : WtI l B k w) (b : Below (B + 2) w w') : WtI l B k w' := by
  obtain ⟨h1, h2, h4⟩ := h
  exact ⟨Nat.lt_of_lt_of_le h1 b.size, (b.cell (p := ⟨B + 1, 0, none⟩) (by simp)).trans h2, (b.frozen (p := ⟨B + 1, 0, none⟩) (by simp)).trans h4⟩

end Go.Proofs.Ytjmjnkilgoelbaa

namespace Go.Proofs.Ytjmjnkilgoelbaa
open Go.RowKit

def lastW (l : List Nat) : Nat := l.getLast?.getD 0

theorem lastW_cons (i : Nat) {l : List Nat} (h : l ≠ []) : lastW (i :: l) = lastW l := by
  cases l with
  | nil => exact absurd rfl h
  | cons j l => rfl

theorem tup2 {k k' : IntKind} {a b c d : Int} (h : a = c) (h' : b = d) : Ending.returned (.tuple #[.int k a, .int k' b]) = .returned (.tuple #[.int k c, .int k' d]) := by rw [h, h']

set_option maxRecDepth 100000 in
set_option maxHeartbeats 4000000 in
theorem rdown_any (t : TreeP) (x : List Int) (vx : Value) (hxv : vecB x t.dim = true) {i e h : Nat} {s : Int} (q : Sub t i e h s) : ∀ (v : Value) (w : World), TreeR w v t → Ints .i64 w vx x →
    Calls Try.prog 216 #[v, .int .i64 i, vx] w fun e w' => e = .returned (.tuple #[.int .i64 (lastW (wayT t x h i) : Nat), .int .i64 (((wayT t x h i).length - 1 : Nat) : Int)]) ∧ Below w.heap.size w w' := by
  induction q with
  | @leaf i nd hnd hlf =>
    intro v w hT hX
    rw [wayT_leaf hnd (leafB_is hlf).1]
    have HTR := Lib.hid hT
    obtain ⟨nv, rfl, ad, cc, rfl, _, _, q3, _⟩ := hT
    obtain ⟨b, o, rfl⟩ := HTR.out.addr (List.getElem?_eq_some_iff.1 hnd).1
    obtain ⟨hb, hat⟩ := HTR.out.node hnd
    obtain ⟨ca, ccc, hci, e0, e1, e2, e3, e4⟩ := hat.val
    have hin : (i : Int) < t.nodes.length := by have := (List.getElem?_eq_some_iff.1 hnd).1; omega
    have hi0 : (0 : Int) ≤ i := by omega
    rw [(leafB_is hlf).1] at e2
    clear hat hci hnd hlf HTR hX
    generalize nd.at_ = xat at *
    generalize nd.right = xr at *
    generalize nd.size = xz at *
    generalize nd.coef.length = cl at *
    generalize t.nodes.length = n at *
    clear hxv
    generalize t.dim = D at *
    go_enter Try.func216, Try.ntmps216
    go_wp2_with fail
    exact bodyPost_ret (v := .tuple #[.int .i64 i, .int .i64 0]) (by simp [results, Try.results216, go_sem]) rfl ⟨rfl, by (repeat (first | with_reducible exact Below.refl _ _ | with_reducible refine Bs ?_ | with_reducible refine Ba ?_ | with_reducible refine Bd ?_ | with_reducible refine Bn ?_))⟩
  | @node i m' e a' b' x' y' nd hnd k1 k2 q1 k4 q2 k6 ih1 ih2 =>
    intro v w hT hX0
    have HTR := Lib.hid hT
    have HX := Lib.hid hX0
    obtain ⟨nv, rfl, ad, cc, rfl, _, _, q3, _⟩ := hT
    obtain ⟨ax, cx, rfl, _⟩ := hX0
    obtain ⟨b, o, rfl⟩ := HTR.out.addr (List.getElem?_eq_some_iff.1 hnd).1
    obtain ⟨hb, hat⟩ := HTR.out.node hnd
    obtain ⟨ca, ccc, hci, e0, e1, e2, e3, e4⟩ := hat.val
    have HCI := Lib.hid hci
    have hin : (i : Int) < t.nodes.length := by have := (List.getElem?_eq_some_iff.1 hnd).1; omega
    have hi0 : (0 : Int) ≤ i := by omega
    have hi1 : (i : Int) ≤ 140737488351232 := by omega
    have hl0 : ¬ nd.left = 0 := by omega
    have hmt : nd.right.toNat = m' := by omega
    have hcl := fun W (hW : Ints .i64 W (.slice ca nd.coef.length ccc) nd.coef) (hX : Ints .i64 W (.slice ax x.length cx) x) => rcleft_any _ _ nd.coef x nd.at_ W hW hX
    rw [leftR_ok k2 hxv] at hcl
    have hw0 := wayT_node (x := x) hnd hl0 (max a' b')
    rw [hmt] at hw0
    unfold leftB at hw0
    have hI1 := ih1 (.agg #[.int .i64 t.dim, .slice (some ⟨b, o, none⟩) t.nodes.length cc])
    have hI2 := ih2 (.agg #[.int .i64 t.dim, .slice (some ⟨b, o, none⟩) t.nodes.length cc])
    rw [show ((i + 1 : Nat) : Int) = (i : Int) + 1 from rfl] at hI1
    have hq1 := (q1.way x (max a' b') (Nat.le_max_left _ _)).1
    have hq2 := (q2.way x (max a' b') (Nat.le_max_right _ _)).1
    have hn1 := wayT_ne t x a' (i + 1)
    have hn2 := wayT_ne t x b' m'
    have hb1 : (((wayT t x a' (i + 1)).length - 1 : Nat) : Int) ≤ 140737488351232 := by have := (q1.way x a' (Nat.le_refl _)).2; have := q1.high; have := q1.lt; omega
    have hb2 : (((wayT t x b' m').length - 1 : Nat) : Int) ≤ 140737488351232 := by have := (q2.way x b' (Nat.le_refl _)).2; have := q2.high; have := q2.lt; omega
    obtain ⟨LB, hlb⟩ : ∃ LB, decide (dotI nd.coef x < nd.at_) = LB := ⟨_, rfl⟩
    rw [hlb] at hcl hw0
    have HCL := Lib.hid hcl
    rw [k1] at e2
    rw [k4] at e3
    rw [Nat.add_comm 1, hw0]
    have J1 := Lib.hid (show (((i : Int) + 1) == 0) = false by simp; omega)
    clear hat hci hnd hl0 hmt hcl hw0 k1 k2 k4 k6 q1 q2 ih1 ih2 hlb hxv
    cases LB with
    | true =>
      rw [if_pos rfl, hq1]
      have HI1 := Lib.hid hI1
      have HJ := Lib.hid (show Ending.returned (.tuple #[.int .i64 (lastW (i :: wayT t x a' (i + 1)) : Nat), .int .i64 (((i :: wayT t x a' (i + 1)).length - 1 : Nat) : Int)]) = Ending.returned (.tuple #[.int .i64 (lastW (wayT t x a' (i + 1)) : Nat), .int .i64 ((((wayT t x a' (i + 1)).length - 1 : Nat) : Int) + 1)]) from
        tup2 (by rw [lastW_cons i hn1]) (by have := List.length_pos_iff.2 hn1; simp only [List.length_cons]; omega))
      generalize hJJ : lastW (wayT t x a' (i + 1)) = JJ at *
      generalize hKK : (wayT t x a' (i + 1)).length - 1 = KK at *
      clear hb2 hI1 hI2 hq1 hq2 hn1 hn2 hJJ hKK
      generalize nd.at_ = xat at *
      generalize nd.size = xz at *
      generalize nd.coef.length = cl at *
      generalize t.nodes.length = n at *
      generalize t.dim = D at *
      generalize x.length = xn at *
      have j1 := J1.out
      go_enter Try.func216, Try.ntmps216
      go_wp2_with fail
      (with_reducible refine (HCL.out _ (HCI.out.below (by (repeat (first | with_reducible exact Below.refl _ _ | with_reducible refine Bs ?_ | with_reducible refine Ba ?_ | with_reducible refine Bd ?_ | with_reducible refine Bn ?_)))) (HX.out.below (by (repeat (first | with_reducible exact Below.refl _ _ | with_reducible refine Bs ?_ | with_reducible refine Ba ?_ | with_reducible refine Bd ?_ | with_reducible refine Bn ?_))))).mono ?_); rintro e w1 ⟨rfl, b1⟩; have s1 : w.heap.size + 2 ≤ w1.heap.size := sz b1; have B1 := Lib.hid (Bc (B := w.heap.size) (a := w) (by (repeat (first | with_reducible exact Below.refl _ _ | with_reducible refine Bs ?_ | with_reducible refine Ba ?_ | with_reducible refine Bd ?_ | with_reducible refine Bn ?_))) b1); obtain ⟨c1_0, c1_1⟩ := k2 (w.heap.size) (.int .i64 D) (.slice (some ⟨b, o, none⟩) n cc) b1 (by and_intros <;> go_simp); have c1_2 : w1.cell? ⟨w.heap.size + 1, 1, none⟩ = some (.int .i64 xat) := kc b1 (by go_simp) (by first | omega | (simp; done) | (simp; omega)); have c1_3 : w1.cell? ⟨w.heap.size + 1, 2, none⟩ = some (.int .i64 ((i : Int) + 1)) := kc b1 (by go_simp) (by first | omega | (simp; done) | (simp; omega)); have c1_4 : w1.cell? ⟨w.heap.size + 1, 3, none⟩ = some (.int .i64 m') := kc b1 (by go_simp) (by first | omega | (simp; done) | (simp; omega)); obtain ⟨l1_0, n1_0, m1_0⟩ := lnm (show w.heap.size < w1.heap.size by omega); obtain ⟨l1_1, n1_1, m1_1⟩ := lnm (show w.heap.size + 1 < w1.heap.size by omega); clear b1
      go_wp2_with fail
      (with_reducible refine (HI1.out _ (HTR.out.below (by (repeat (first | with_reducible exact Below.refl _ _ | with_reducible refine Bs ?_ | with_reducible refine Ba ?_ | with_reducible refine Bd ?_ | with_reducible refine Bn ?_ | with_reducible refine Bt B1.out ?_)))) (HX.out.below (by (repeat (first | with_reducible exact Below.refl _ _ | with_reducible refine Bs ?_ | with_reducible refine Ba ?_ | with_reducible refine Bd ?_ | with_reducible refine Bn ?_ | with_reducible refine Bt B1.out ?_))))).mono ?_); rintro e w2 ⟨rfl, b2⟩; have s2 : w1.heap.size ≤ w2.heap.size := sz b2; have B2 := Lib.hid (Bc (B := w.heap.size) (a := w) (by (repeat (first | with_reducible exact Below.refl _ _ | with_reducible refine Bs ?_ | with_reducible refine Ba ?_ | with_reducible refine Bd ?_ | with_reducible refine Bn ?_ | with_reducible refine Bt B1.out ?_))) b2); have c2_0 : w2.cell? ⟨w.heap.size, 0, none⟩ = some (.int .i64 D) := kc b2 (by go_simp) (by first | omega | (simp; done) | (simp; omega)); obtain ⟨l2_0, n2_0, m2_0⟩ := lnm (show w.heap.size < w2.heap.size by omega); clear b2
      go_wp2_with fail
      exact bodyPost_ret (v := .tuple #[.int .i64 (JJ : Nat), .int .i64 ((KK : Nat) + 1)]) (by simp [results, Try.results216, go_sem]) rfl ⟨HJ.out.symm, by (repeat (first | with_reducible exact Below.refl _ _ | with_reducible refine Bs ?_ | with_reducible refine Ba ?_ | with_reducible refine Bd ?_ | with_reducible refine Bn ?_ | with_reducible refine Bt B2.out ?_))⟩
    | false =>
      rw [if_neg (by decide), hq2]
      have HI1 := Lib.hid hI2
      have HJ := Lib.hid (show Ending.returned (.tuple #[.int .i64 (lastW (i :: wayT t x b' m') : Nat), .int .i64 (((i :: wayT t x b' m').length - 1 : Nat) : Int)]) = Ending.returned (.tuple #[.int .i64 (lastW (wayT t x b' m') : Nat), .int .i64 ((((wayT t x b' m').length - 1 : Nat) : Int) + 1)]) from
        tup2 (by rw [lastW_cons i hn2]) (by have := List.length_pos_iff.2 hn2; simp only [List.length_cons]; omega))
      generalize hJJ : lastW (wayT t x b' m') = JJ at *
      generalize hKK : (wayT t x b' m').length - 1 = KK at *
      clear hb1 hI1 hI2 hq1 hq2 hn1 hn2 hJJ hKK
      generalize nd.at_ = xat at *
      generalize nd.size = xz at *
      generalize nd.coef.length = cl at *
      generalize t.nodes.length = n at *
      generalize t.dim = D at *
      generalize x.length = xn at *
      have j1 := J1.out
      go_enter Try.func216, Try.ntmps216
      go_wp2_with fail
      (with_reducible refine (HCL.out _ (HCI.out.below (by (repeat (first | with_reducible exact Below.refl _ _ | with_reducible refine Bs ?_ | with_reducible refine Ba ?_ | with_reducible refine Bd ?_ | with_reducible refine Bn ?_)))) (HX.out.below (by (repeat (first | with_reducible exact Below.refl _ _ | with_reducible refine Bs ?_ | with_reducible refine Ba ?_ | with_reducible refine Bd ?_ | with_reducible refine Bn ?_))))).mono ?_); rintro e w1 ⟨rfl, b1⟩; have s1 : w.heap.size + 2 ≤ w1.heap.size := sz b1; have B1 := Lib.hid (Bc (B := w.heap.size) (a := w) (by (repeat (first | with_reducible exact Below.refl _ _ | with_reducible refine Bs ?_ | with_reducible refine Ba ?_ | with_reducible refine Bd ?_ | with_reducible refine Bn ?_))) b1); obtain ⟨c1_0, c1_1⟩ := k2 (w.heap.size) (.int .i64 D) (.slice (some ⟨b, o, none⟩) n cc) b1 (by and_intros <;> go_simp); have c1_2 : w1.cell? ⟨w.heap.size + 1, 1, none⟩ = some (.int .i64 xat) := kc b1 (by go_simp) (by first | omega | (simp; done) | (simp; omega)); have c1_3 : w1.cell? ⟨w.heap.size + 1, 2, none⟩ = some (.int .i64 ((i : Int) + 1)) := kc b1 (by go_simp) (by first | omega | (simp; done) | (simp; omega)); have c1_4 : w1.cell? ⟨w.heap.size + 1, 3, none⟩ = some (.int .i64 m') := kc b1 (by go_simp) (by first | omega | (simp; done) | (simp; omega)); obtain ⟨l1_0, n1_0, m1_0⟩ := lnm (show w.heap.size < w1.heap.size by omega); obtain ⟨l1_1, n1_1, m1_1⟩ := lnm (show w.heap.size + 1 < w1.heap.size by omega); clear b1
      go_wp2_with fail
      (with_reducible refine (HI1.out _ (HTR.out.below (by (repeat (first | with_reducible exact Below.refl _ _ | with_reducible refine Bs ?_ | with_reducible refine Ba ?_ | with_reducible refine Bd ?_ | with_reducible refine Bn ?_ | with_reducible refine Bt B1.out ?_)))) (HX.out.below (by (repeat (first | with_reducible exact Below.refl _ _ | with_reducible refine Bs ?_ | with_reducible refine Ba ?_ | with_reducible refine Bd ?_ | with_reducible refine Bn ?_ | with_reducible refine Bt B1.out ?_))))).mono ?_); rintro e w2 ⟨rfl, b2⟩; have s2 : w1.heap.size ≤ w2.heap.size := sz b2; have B2 := Lib.hid (Bc (B := w.heap.size) (a := w) (by (repeat (first | with_reducible exact Below.refl _ _ | with_reducible refine Bs ?_ | with_reducible refine Ba ?_ | with_reducible refine Bd ?_ | with_reducible refine Bn ?_ | with_reducible refine Bt B1.out ?_))) b2); have c2_0 : w2.cell? ⟨w.heap.size, 0, none⟩ = some (.int .i64 D) := kc b2 (by go_simp) (by first | omega | (simp; done) | (simp; omega)); obtain ⟨l2_0, n2_0, m2_0⟩ := lnm (show w.heap.size < w2.heap.size by omega); clear b2
      go_wp2_with fail
      exact bodyPost_ret (v := .tuple #[.int .i64 (JJ : Nat), .int .i64 ((KK : Nat) + 1)]) (by simp [results, Try.results216, go_sem]) rfl ⟨HJ.out.symm, by (repeat (first | with_reducible exact Below.refl _ _ | with_reducible refine Bs ?_ | with_reducible refine Ba ?_ | with_reducible refine Bd ?_ | with_reducible refine Bn ?_ | with_reducible refine Bt B2.out ?_))⟩


theorem lastW_way {t : TreeP} {x : List Int} (h : treeB t = true) : ∃ j n, (wayL t x).getLast? = some j ∧ lastW (wayL t x) = j ∧ t.nodes[j]? = some n ∧ lenV t x = (((wayL t x).length - 1 : Nat) : Int) * 1073741824 + normI n.size ∧ 1 ≤ (wayL t x).length ∧ (wayL t x).length ≤ 7 ∧ j < t.nodes.length := by
  obtain ⟨j, nd, g1, g2, g3, g4, g5, g6⟩ := way_facts (x := x) h
  refine ⟨j, nd, g1, ?_, g2, ?_, g4, g5, g6⟩
  · unfold lastW; rw [g1]; rfl
  · unfold lenV; rw [g1]; simp only []; rw [g2]; rfl

set_option maxRecDepth 100000 in
set_option maxHeartbeats 2000000 in
theorem rleaf_any (v vx : Value) (t : TreeP) (x : List Int) (w : World) (h : TreeR w v t) (hx : Ints .i64 w vx x) :
    Calls Try.prog 201 #[v, vx] w fun e w' => e = .returned (.tuple #[.int .i64 (if pathE t x = 0 then (lastW (wayL t x) : Int) else 0), .int .i64 (if pathE t x = 0 then (((wayL t x).length - 1 : Nat) : Int) else 0), .int .i64 (pathE t x)]) ∧ Below w.heap.size w w' := by
  have HTR := Lib.hid h
  have HX := Lib.hid hx
  obtain ⟨nv, rfl, ad, cc, rfl, _, _, q3, _⟩ := h
  unfold pathE
  cases hB : treeB t with
  | false =>
    have HC1 := Lib.hid (fun W (hW : TreeR W (.agg #[.int .i64 t.dim, .slice ad t.nodes.length cc]) t) => hB ▸ ristree_any _ t W hW)
    clear hB hx
    simp only [Bool.false_eq_true, if_false, show ¬ (100 : Int) = 0 by decide]
    generalize t.nodes.length = n at *
    generalize t.dim = D at *
    go_enter Try.func201, Try.ntmps201
    go_wp2_with fail
    (with_reducible refine (HC1.out _ (HTR.out.below (by (repeat (first | with_reducible exact Below.refl _ _ | with_reducible refine Bs ?_ | with_reducible refine Ba ?_ | with_reducible refine Bd ?_ | with_reducible refine Bn ?_))))).mono ?_); rintro e w1 ⟨rfl, b1⟩; have s1 : w.heap.size + 1 ≤ w1.heap.size := sz b1; have B1 := Lib.hid (Bc (B := w.heap.size) (a := w) (by (repeat (first | with_reducible exact Below.refl _ _ | with_reducible refine Bs ?_ | with_reducible refine Ba ?_ | with_reducible refine Bd ?_ | with_reducible refine Bn ?_))) b1); obtain ⟨c1_0, c1_1⟩ := k2 (w.heap.size) (.int .i64 D) (.slice ad n cc) b1 (by and_intros <;> go_simp); obtain ⟨l1_0, n1_0, m1_0⟩ := lnm (show w.heap.size < w1.heap.size by omega); clear b1
    go_wp2_with fail
    exact bodyPost_ret (v := .tuple #[.int .i64 0, .int .i64 0, .int .i64 100]) (by simp [results, Try.results201, go_sem]) rfl ⟨rfl, by (repeat (first | with_reducible exact Below.refl _ _ | with_reducible refine Bs ?_ | with_reducible refine Ba ?_ | with_reducible refine Bd ?_ | with_reducible refine Bn ?_ | with_reducible refine Bt B1.out ?_))⟩
  | true =>
    have HC1 := Lib.hid (fun W (hW : TreeR W (.agg #[.int .i64 t.dim, .slice ad t.nodes.length cc]) t) => hB ▸ ristree_any _ t W hW)
    cases hV : vecB x t.dim with
    | false =>
      have HC2 := Lib.hid (fun W (hW : Ints .i64 W vx x) => hV ▸ risv_any vx x t.dim W hW)
      clear hB hV hx
      simp only [if_true, Bool.false_eq_true, if_false, show ¬ (80 : Int) = 0 by decide]
      generalize t.nodes.length = n at *
      generalize t.dim = D at *
      go_enter Try.func201, Try.ntmps201
      go_wp2_with fail
      (with_reducible refine (HC1.out _ (HTR.out.below (by (repeat (first | with_reducible exact Below.refl _ _ | with_reducible refine Bs ?_ | with_reducible refine Ba ?_ | with_reducible refine Bd ?_ | with_reducible refine Bn ?_))))).mono ?_); rintro e w1 ⟨rfl, b1⟩; have s1 : w.heap.size + 1 ≤ w1.heap.size := sz b1; have B1 := Lib.hid (Bc (B := w.heap.size) (a := w) (by (repeat (first | with_reducible exact Below.refl _ _ | with_reducible refine Bs ?_ | with_reducible refine Ba ?_ | with_reducible refine Bd ?_ | with_reducible refine Bn ?_))) b1); obtain ⟨c1_0, c1_1⟩ := k2 (w.heap.size) (.int .i64 D) (.slice ad n cc) b1 (by and_intros <;> go_simp); obtain ⟨l1_0, n1_0, m1_0⟩ := lnm (show w.heap.size < w1.heap.size by omega); clear b1
      go_wp2_with fail
      refine (HC2.out _ (HX.out.below (by (repeat (first | with_reducible exact Below.refl _ _ | with_reducible refine Bs ?_ | with_reducible refine Ba ?_ | with_reducible refine Bd ?_ | with_reducible refine Bn ?_ | with_reducible refine Bt B1.out ?_))))).mono ?_
      rintro e w2 ⟨rfl, rfl⟩
      go_wp2_with fail
      exact bodyPost_ret (v := .tuple #[.int .i64 0, .int .i64 0, .int .i64 80]) (by simp [results, Try.results201, go_sem]) rfl ⟨rfl, by (repeat (first | with_reducible exact Below.refl _ _ | with_reducible refine Bs ?_ | with_reducible refine Ba ?_ | with_reducible refine Bd ?_ | with_reducible refine Bn ?_ | with_reducible refine Bt B1.out ?_))⟩
    | true =>
      have HC2 := Lib.hid (fun W (hW : Ints .i64 W vx x) => hV ▸ risv_any vx x t.dim W hW)
      obtain ⟨_, _, h0, s0, q, hs64, hlog⟩ := treeB_true.1 hB
      have h6 : h0 ≤ 6 := Nat.le_trans hlog (logI_le hs64)
      have ew : wayL t x = wayT t x h0 0 := (q.way x 6 h6).1
      have hd := fun (W : World) (hW : TreeR W (.agg #[.int .i64 t.dim, .slice ad t.nodes.length cc]) t) (hX : Ints .i64 W vx x) => rdown_any t x vx hV q _ W hW hX
      rw [← ew, Int.natCast_zero] at hd
      have HD := Lib.hid hd
      clear hB hV hx q hs64 hlog ew hd
      simp only [if_true]
      generalize t.nodes.length = n at *
      generalize t.dim = D at *
      generalize ((lastW (wayL t x) : Nat) : Int) = JJ at *
      generalize (((wayL t x).length - 1 : Nat) : Int) = KK at *
      go_enter Try.func201, Try.ntmps201
      go_wp2_with fail
      (with_reducible refine (HC1.out _ (HTR.out.below (by (repeat (first | with_reducible exact Below.refl _ _ | with_reducible refine Bs ?_ | with_reducible refine Ba ?_ | with_reducible refine Bd ?_ | with_reducible refine Bn ?_))))).mono ?_); rintro e w1 ⟨rfl, b1⟩; have s1 : w.heap.size + 1 ≤ w1.heap.size := sz b1; have B1 := Lib.hid (Bc (B := w.heap.size) (a := w) (by (repeat (first | with_reducible exact Below.refl _ _ | with_reducible refine Bs ?_ | with_reducible refine Ba ?_ | with_reducible refine Bd ?_ | with_reducible refine Bn ?_))) b1); obtain ⟨c1_0, c1_1⟩ := k2 (w.heap.size) (.int .i64 D) (.slice ad n cc) b1 (by and_intros <;> go_simp); obtain ⟨l1_0, n1_0, m1_0⟩ := lnm (show w.heap.size < w1.heap.size by omega); clear b1
      go_wp2_with fail
      refine (HC2.out _ (HX.out.below (by (repeat (first | with_reducible exact Below.refl _ _ | with_reducible refine Bs ?_ | with_reducible refine Ba ?_ | with_reducible refine Bd ?_ | with_reducible refine Bn ?_ | with_reducible refine Bt B1.out ?_))))).mono ?_
      rintro e w2 ⟨rfl, rfl⟩
      go_wp2_with fail
      (with_reducible refine (HD.out _ (HTR.out.below (by (repeat (first | with_reducible exact Below.refl _ _ | with_reducible refine Bs ?_ | with_reducible refine Ba ?_ | with_reducible refine Bd ?_ | with_reducible refine Bn ?_ | with_reducible refine Bt B1.out ?_)))) (HX.out.below (by (repeat (first | with_reducible exact Below.refl _ _ | with_reducible refine Bs ?_ | with_reducible refine Ba ?_ | with_reducible refine Bd ?_ | with_reducible refine Bn ?_ | with_reducible refine Bt B1.out ?_))))).mono ?_); rintro e w2 ⟨rfl, b2⟩; have s2 : w1.heap.size ≤ w2.heap.size := sz b2; have B2 := Lib.hid (Bc (B := w.heap.size) (a := w) (by (repeat (first | with_reducible exact Below.refl _ _ | with_reducible refine Bs ?_ | with_reducible refine Ba ?_ | with_reducible refine Bd ?_ | with_reducible refine Bn ?_ | with_reducible refine Bt B1.out ?_))) b2); have c2_0 : w2.cell? ⟨w.heap.size, 0, none⟩ = some (.int .i64 D) := kc b2 (by go_simp) (by first | omega | (simp; done) | (simp; omega)); obtain ⟨l2_0, n2_0, m2_0⟩ := lnm (show w.heap.size < w2.heap.size by omega); clear b2
      go_wp2_with fail
      exact bodyPost_ret (v := .tuple #[.int .i64 JJ, .int .i64 KK, .int .i64 0]) (by simp [results, Try.results201, go_sem]) rfl ⟨rfl, by (repeat (first | with_reducible exact Below.refl _ _ | with_reducible refine Bs ?_ | with_reducible refine Ba ?_ | with_reducible refine Bd ?_ | with_reducible refine Bn ?_ | with_reducible refine Bt B2.out ?_))⟩
end Go.Proofs.Ytjmjnkilgoelbaa

namespace Go.Proofs.Ytjmjnkilgoelbaa
open Go.RowKit

set_option maxRecDepth 100000 in
set_option maxHeartbeats 2000000 in
theorem rlength_any (v vx : Value) (t : TreeP) (x : List Int) (w : World) (h : TreeR w v t) (hx : Ints .i64 w vx x) :
    Calls Try.prog 174 #[v, vx] w fun e w' => e = .returned (.tuple #[.int .i64 (if pathE t x = 0 then lenV t x else 0), .int .i64 (pathE t x)]) ∧ Below w.heap.size w w' := by
  have HTR := Lib.hid h
  have HX := Lib.hid hx
  have HW := Lib.hid (fun W (hW : TreeR W v t) (hX : Ints .i64 W vx x) => rleaf_any v vx t x W hW hX)
  have HF := Lib.hid (fun (h : treeB t = true) => lastW_way (x := x) h)
  obtain ⟨nv, rfl, ad, cc, rfl, _, _, q3, hcell⟩ := h
  by_cases hz : pathE t x = 0
  · rw [hz] at HW ⊢
    have htb : treeB t = true := by
      unfold pathE at hz
      split at hz
      · assumption
      · omega
    obtain ⟨j, nd, g1, g2, g3, g4, g5, g6, g7⟩ := HF.out htb
    simp only [if_true] at HW ⊢
    rw [g2] at HW
    rw [g4]
    obtain ⟨K, hK⟩ : ∃ K, (wayL t x).length - 1 = K := ⟨_, rfl⟩
    rw [hK] at HW ⊢
    have hK7 : (K : Int) ≤ 6 := by omega
    obtain ⟨b, o, rfl⟩ := HTR.out.addr (i := j) g7
    obtain ⟨hb, hat⟩ := HTR.out.node g3
    obtain ⟨_, _, _, _, _, _, _, e4⟩ := hat.val
    have HN := Lib.hid (fun W => rnorm_any nd.size W)
    have hnb := norm_bd nd.size
    have e2 : normI nd.size = (loN (heldN nd.size) + hiN (heldN nd.size)) / 2 := rfl
    have hn1 : 0 ≤ normI nd.size := by omega
    have hn2 : normI nd.size ≤ 549755813888 := by omega
    have hj0 : (0 : Int) ≤ j := by omega
    have hjn : (j : Int) < t.nodes.length := by omega
    generalize normI nd.size = nz at *
    generalize nd.size = xz at *
    clear hz htb g1 g2 g3 g4 g5 g6 g7 hK hat hnb e2 hcell hx HF
    generalize t.nodes.length = n at *
    generalize t.dim = D at *
    go_enter Try.func174, Try.ntmps174
    go_wp2_with fail
    (with_reducible refine (HW.out _ (HTR.out.below (by (repeat (first | with_reducible exact Below.refl _ _ | with_reducible refine Bs ?_ | with_reducible refine Ba ?_ | with_reducible refine Bd ?_ | with_reducible refine Bn ?_)))) (HX.out.below (by (repeat (first | with_reducible exact Below.refl _ _ | with_reducible refine Bs ?_ | with_reducible refine Ba ?_ | with_reducible refine Bd ?_ | with_reducible refine Bn ?_))))).mono ?_); rintro e w1 ⟨rfl, b1⟩; have s1 : w.heap.size + 1 ≤ w1.heap.size := sz b1; have B1 := Lib.hid (Bc (B := w.heap.size) (a := w) (by (repeat (first | with_reducible exact Below.refl _ _ | with_reducible refine Bs ?_ | with_reducible refine Ba ?_ | with_reducible refine Bd ?_ | with_reducible refine Bn ?_))) b1); obtain ⟨c1_0, c1_1⟩ := k2 (w.heap.size) (.int .i64 D) (.slice (some ⟨b, o, none⟩) n cc) b1 (by and_intros <;> go_simp); obtain ⟨l1_0, n1_0, m1_0⟩ := lnm (show w.heap.size < w1.heap.size by omega); clear b1
    have k4 := (B1.out.cell (p := ⟨b, o + j * 5 + 4, none⟩) hb).trans e4
    go_wp2_with fail
    refine (HN.out _).mono ?_
    rintro e w2 ⟨rfl, dd, rfl⟩
    go_wp2_with fail
    exact bodyPost_ret (v := .tuple #[.int .i64 ((K : Int) * 1073741824 + nz), .int .i64 0]) (by simp [results, Try.results174, go_sem]) rfl ⟨rfl, by (repeat (first | with_reducible exact Below.refl _ _ | with_reducible refine Bs ?_ | with_reducible refine Ba ?_ | with_reducible refine Bd ?_ | with_reducible refine Bn ?_ | with_reducible refine Bt B1.out ?_))⟩
  · simp only [if_neg hz] at HW ⊢
    obtain ⟨E, hE⟩ : ∃ E, pathE t x = E := ⟨_, rfl⟩
    rw [hE] at hz HW ⊢
    have j1 : (E != 0) = true := by simp [hz]
    clear hcell hx hE hz HF
    generalize t.nodes.length = n at *
    generalize t.dim = D at *
    go_enter Try.func174, Try.ntmps174
    go_wp2_with fail
    (with_reducible refine (HW.out _ (HTR.out.below (by (repeat (first | with_reducible exact Below.refl _ _ | with_reducible refine Bs ?_ | with_reducible refine Ba ?_ | with_reducible refine Bd ?_ | with_reducible refine Bn ?_)))) (HX.out.below (by (repeat (first | with_reducible exact Below.refl _ _ | with_reducible refine Bs ?_ | with_reducible refine Ba ?_ | with_reducible refine Bd ?_ | with_reducible refine Bn ?_))))).mono ?_); rintro e w1 ⟨rfl, b1⟩; have s1 : w.heap.size + 1 ≤ w1.heap.size := sz b1; have B1 := Lib.hid (Bc (B := w.heap.size) (a := w) (by (repeat (first | with_reducible exact Below.refl _ _ | with_reducible refine Bs ?_ | with_reducible refine Ba ?_ | with_reducible refine Bd ?_ | with_reducible refine Bn ?_))) b1); obtain ⟨c1_0, c1_1⟩ := k2 (w.heap.size) (.int .i64 D) (.slice ad n cc) b1 (by and_intros <;> go_simp); obtain ⟨l1_0, n1_0, m1_0⟩ := lnm (show w.heap.size < w1.heap.size by omega); clear b1
    go_wp2_with fail
    exact bodyPost_ret (v := .tuple #[.int .i64 0, .int .i64 E]) (by simp [results, Try.results174, go_sem]) rfl ⟨rfl, by (repeat (first | with_reducible exact Below.refl _ _ | with_reducible refine Bs ?_ | with_reducible refine Ba ?_ | with_reducible refine Bd ?_ | with_reducible refine Bn ?_ | with_reducible refine Bt B1.out ?_))⟩

end Go.Proofs.Ytjmjnkilgoelbaa

namespace Go.Proofs.Ytjmjnkilgoelbaa
open Go.RowKit

def sameN (a b : NodeP) : Bool := decide (a.coef = b.coef) && decide (a.at_ = b.at_) && decide (a.left = b.left) && decide (a.right = b.right) && decide (a.size = b.size)

theorem sameN_eq {a b : NodeP} : sameN a b = true ↔ a = b := by
  obtain ⟨a1, a2, a3, a4, a5⟩ := a
  obtain ⟨b1, b2, b3, b4, b5⟩ := b
  unfold sameN
  simp [and_assoc]

instance (a b : NodeP) : Decidable (a = b) := decidable_of_iff (sameN a b = true) sameN_eq

def sameT (a b : TreeP) : Bool := decide (a.dim = b.dim) && decide (a.nodes = b.nodes)

set_option maxRecDepth 100000 in
theorem r09same_any (v v2 : Value) (c c2 : List Int) (a a2 : Int) (w : World) (h : Ints .i64 w v c) (h2 : Ints .i64 w v2 c2) :
    Calls Try.prog 137 #[.agg #[v, .int .i64 a], .agg #[v2, .int .i64 a2]] w fun e w' => e = .returned (.bool (decide (a = a2) && decide (c = c2))) ∧ Below w.heap.size w w' := by
  have HS := Lib.hid (fun W (hW : Below w.heap.size w W) => same_any v v2 c c2 W (h.below hW) (h2.below hW))
  obtain ⟨x, k, rfl⟩ := h.shape
  obtain ⟨x2, k2, rfl⟩ := h2.shape
  obtain ⟨B, hB⟩ : ∃ B, decide (c = c2) = B := ⟨_, rfl⟩
  rw [hB] at HS ⊢
  clear h h2 hB
  by_cases ha : a = a2
  · subst ha
    have j : (a == a) = true := by simp
    rw [decide_eq_true rfl, Bool.true_and]
    go_enter Try.func137, Try.ntmps137
    go_wp2_with fail
    (with_reducible refine (HS.out _ (by (repeat (first | with_reducible exact Below.refl _ _ | with_reducible refine Bs ?_ | with_reducible refine Ba ?_ | with_reducible refine Bd ?_ | with_reducible refine Bn ?_)))).mono ?_)
    rintro e w1 ⟨rfl, d, rfl⟩
    go_wp2_with fail
    go_ret
    exact ⟨rfl, by (repeat (first | with_reducible exact Below.refl _ _ | with_reducible refine Bs ?_ | with_reducible refine Ba ?_ | with_reducible refine Bd ?_ | with_reducible refine Bn ?_))⟩
  · have j : (a == a2) = false := by simp [ha]
    rw [decide_eq_false ha, Bool.false_and]
    clear ha
    go_enter Try.func137, Try.ntmps137
    go_wp2_with fail
    go_ret
    exact ⟨rfl, by (repeat (first | with_reducible exact Below.refl _ _ | with_reducible refine Bs ?_ | with_reducible refine Ba ?_ | with_reducible refine Bd ?_ | with_reducible refine Bn ?_))⟩
end Go.Proofs.Ytjmjnkilgoelbaa

namespace Go.Proofs.Ytjmjnkilgoelbaa
open Go.RowKit

theorem leafAt_is {t : TreeP} (h : IsTree t) {k : Nat} {n : NodeP} (hn : t.nodes[k]? = some n) : isLeafAt t k = decide (n.left = 0) ∧ leafB n = decide (n.left = 0) := by
  obtain ⟨_, _, g, s, q, _⟩ := h
  have e := q.leafAt (Nat.zero_le k) (List.getElem?_eq_some_iff.1 hn).1 hn
  exact ⟨by unfold isLeafAt; rw [hn]; exact e, e⟩

end Go.Proofs.Ytjmjnkilgoelbaa

namespace Go.Proofs.Ytjmjnkilgoelbaa
open Go.RowKit

def isPar (t : TreeP) (k i : Nat) : Bool := match t.nodes[k]? with
  | some n => decide (0 < n.left) && (decide (n.left = (i : Int)) || decide (n.right = (i : Int)))
  | none => false
/-- The last node, of the first k, that names one. -/
def lastPar (t : TreeP) (i : Nat) : Nat → Int
  | 0 => -1
  | k + 1 => if isPar t k i then (k : Int) else lastPar t i k
def parT (t : TreeP) (i : Nat) : Int := lastPar t i t.nodes.length

theorem lastPar_is {t : TreeP} {i : Nat} : ∀ k, (lastPar t i k = -1 ∧ ∀ j, j < k → isPar t j i = false) ∨ ∃ j : Nat, lastPar t i k = (j : Int) ∧ j < k ∧ isPar t j i = true
  | 0 => .inl ⟨rfl, fun j h => by omega⟩
  | k + 1 => by
    rw [lastPar]
    cases h : isPar t k i with
    | true => exact .inr ⟨k, by simp, by omega, h⟩
    | false =>
      simp only [Bool.false_eq_true, if_false]
      rcases lastPar_is (t := t) (i := i) k with ⟨h1, h2⟩ | ⟨j, h1, h2, h3⟩
      · refine .inl ⟨h1, fun j hj => ?_⟩
        rcases Nat.lt_or_ge j k with h4 | h4
        · exact h2 j h4
        · obtain rfl : j = k := by omega
          exact h
      · exact .inr ⟨j, h1, by omega, h3⟩

/-- The one above a node of a tree. -/
theorem parT_is {t : TreeP} (h : IsTree t) {i : Nat} (hi : i < t.nodes.length) : (parT t i = -1 ∧ depOf t i = 0) ∨ ∃ j : Nat, parT t i = (j : Int) ∧ j < i ∧ depOf t i = depOf t j + 1 := by
  have hpar : ∀ j, isPar t j i = true → j < i ∧ depOf t i = depOf t j + 1 := by
    intro j hj
    unfold isPar at hj
    cases hn : t.nodes[j]? with
    | none => rw [hn] at hj; cases hj
    | some n =>
      rw [hn] at hj
      simp only [Bool.and_eq_true, Bool.or_eq_true, decide_eq_true_eq] at hj
      have hl : leafB n = false := by
        rw [(leafAt_is h hn).2]
        simp; omega
      obtain ⟨m, g1, g2, g3, g4, g5, g6⟩ := dep_kids h hn hl
      rcases hj.2 with e | e
      · have : i = j + 1 := by omega
        subst this
        exact ⟨by omega, g5⟩
      · have : i = m := by omega
        subst this
        exact ⟨by omega, g6⟩
  rcases lastPar_is (t := t) (i := i) t.nodes.length with ⟨h1, h2⟩ | ⟨j, h1, h2, h3⟩
  · refine .inl ⟨h1, ?_⟩
    rcases Nat.eq_zero_or_pos i with h0 | h0
    · subst h0
      exact depT_self t 6 0
    · exfalso
      obtain ⟨_, _, g, s, q, _⟩ := h
      obtain ⟨k, n, _, k2, k3, k4, k5⟩ := q.parent i h0 hi
      have hk := h2 k (List.getElem?_eq_some_iff.1 k3).1
      unfold isPar at hk
      rw [k3] at hk
      obtain ⟨m, _, _, c1, _⟩ := q.kids k n (by omega) (List.getElem?_eq_some_iff.1 k3).1 k3 k4
      have : 0 < n.left := by omega
      simp only [Bool.and_eq_false_iff, Bool.or_eq_false_iff, decide_eq_false_iff_not] at hk
      omega
  · obtain ⟨a, b⟩ := hpar j h3
    exact .inr ⟨j, h1, a, b⟩

def P64 (z : Int) : Value := .int .i64 z

set_option maxRecDepth 100000 in
set_option maxHeartbeats 2000000 in
theorem rparents_any (v : Value) (t : TreeP) (w : World) (h : TreeR w v t) :
    Calls Try.prog 172 #[v] w fun e w' => ∃ vo, e = .returned vo ∧ Ints .i64 w' vo (if treeB t = true then (List.range t.nodes.length).map (parT t) else []) ∧ Below w.heap.size w w' := by
  have HTR := Lib.hid h
  have HIS := Lib.hid (fun W (hW : TreeR W v t) => ristree_any v t W hW)
  obtain ⟨nv, rfl, ad, cc, rfl, _, _, q3, _⟩ := h
  obtain ⟨TB, hTB⟩ : ∃ TB, treeB t = TB := ⟨_, rfl⟩
  rw [hTB] at HIS ⊢
  cases TB with
  | false =>
    simp only [Bool.false_eq_true, if_false]
    clear hTB
    generalize t.nodes.length = n at *
    generalize t.dim = D at *
    go_enter Try.func172, Try.ntmps172
    go_wp2_with fail
    (with_reducible refine (HIS.out _ (HTR.out.below (by (repeat (first | with_reducible exact Below.refl _ _ | with_reducible refine Bs ?_ | with_reducible refine Ba ?_ | with_reducible refine Bd ?_ | with_reducible refine Bn ?_))))).mono ?_); rintro e w1 ⟨rfl, b1⟩; have s1 : w.heap.size + 1 ≤ w1.heap.size := sz b1; have B1 := Lib.hid (Bc (B := w.heap.size) (a := w) (by (repeat (first | with_reducible exact Below.refl _ _ | with_reducible refine Bs ?_ | with_reducible refine Ba ?_ | with_reducible refine Bd ?_ | with_reducible refine Bn ?_))) b1); have c1_0 : w1.cell? ⟨w.heap.size, 0, none⟩ = some (.int .i64 D) := kc b1 (by go_simp) (by first | omega | (simp; done) | (simp; omega)); obtain ⟨l1_0, n1_0, m1_0⟩ := lnm (show w.heap.size < w1.heap.size by omega); clear b1
    go_wp2_with fail
    go_ret
    exact ⟨_, rfl, ints_nil _ _ _ _ (by omega), by (repeat (first | with_reducible exact Below.refl _ _ | with_reducible refine Bs ?_ | with_reducible refine Ba ?_ | with_reducible refine Bd ?_ | with_reducible refine Bn ?_ | with_reducible refine Bt B1.out ?_))⟩
  | true =>
    simp only [if_true]
    have ht := treeB_true.1 hTB
    have hlen := ht.len
    obtain ⟨b, o, rfl⟩ := HTR.out.addr (i := 0) (by omega)
    clear hTB ht
    have HPT := Lib.hid (show ∀ i, parT t i = lastPar t i t.nodes.length from fun i => rfl)
    obtain ⟨n, hn⟩ : ∃ n, t.nodes.length = n := ⟨_, rfl⟩
    rw [hn] at HTR HIS hlen q3 ⊢
    have HL := Lib.hid hn
    obtain ⟨D, hD⟩ : ∃ D, t.dim = D := ⟨_, rfl⟩
    rw [hD] at HTR HIS ⊢
    clear hn hD
    have hnI : (n : Int) ≤ 127 := by omega
    go_enter Try.func172, Try.ntmps172
    go_wp2_with fail
    (with_reducible refine (HIS.out _ (HTR.out.below (by (repeat (first | with_reducible exact Below.refl _ _ | with_reducible refine Bs ?_ | with_reducible refine Ba ?_ | with_reducible refine Bd ?_ | with_reducible refine Bn ?_))))).mono ?_); rintro e w1 ⟨rfl, b1⟩; have s1 : w.heap.size + 1 ≤ w1.heap.size := sz b1; have B1 := Lib.hid (Bc (B := w.heap.size) (a := w) (by (repeat (first | with_reducible exact Below.refl _ _ | with_reducible refine Bs ?_ | with_reducible refine Ba ?_ | with_reducible refine Bd ?_ | with_reducible refine Bn ?_))) b1); obtain ⟨c1_0, c1_1⟩ := k2 (w.heap.size) (.int .i64 D) (.slice (some ⟨b, o, none⟩) n cc) b1 (by and_intros <;> go_simp); obtain ⟨l1_0, n1_0, m1_0⟩ := lnm (show w.heap.size < w1.heap.size by omega); clear b1
    go_wp2_with fail
    go_loopw [3, 4, 5, 6] (fun out i _ _ wr => ∃ k : Nat, i = .int .i64 k ∧ k ≤ n ∧ wr.ownsRow (w.heap.size + 1) 3 1 out k (((List.range k).map (parT t)).map P64) ∧ Below w.heap.size w wr ∧ w.heap.size + 1 ≤ wr.heap.size ∧ wr.cell? ⟨w.heap.size, 0, none⟩ = some (.int .i64 D) ∧ wr.cell? ⟨w.heap.size, 1, none⟩ = some (.slice (some ⟨b, o, none⟩) n cc)) (fun _ i _ _ _ => n - (intOf i).toNat)
    case atStart => exact ⟨0, rfl, by omega, World.ownsRow_nil _ _ _ _, B1.out, by omega, c1_0, c1_1⟩
    case round =>
      obtain ⟨k, rfl, hk, hown, hbr, hsz, y0, y1⟩ := hrel
      have HOWN := Lib.hid hown
      have HBR := Lib.hid hbr
      by_cases hlt : k < n
      · have HLS := Lib.hid (show ((List.range (k + 1)).map (parT t)).map P64 = ((List.range k).map (parT t)).map P64 ++ [P64 (parT t k)] by rw [List.range_succ, List.map_append, List.map_append]; rfl)
        have i1 : (0 : Int) ≤ (k : Int) := by omega
        have i2 : (k : Int) < (n : Int) := by omega
        have HN := Lib.hid (show ∀ j nd, t.nodes[j]? = some nd → wr.cell? ⟨b, o + j * 5 + 2, none⟩ = some (.int .i64 nd.left) ∧ wr.cell? ⟨b, o + j * 5 + 3, none⟩ = some (.int .i64 nd.right) from fun j nd hj => by
          obtain ⟨_, hat⟩ := (HTR.out.below hbr).node hj
          obtain ⟨_, _, _, _, _, e2, e3, _⟩ := hat.val
          exact ⟨e2, e3⟩)
        clear hown hbr
        go_wp2_with fail
        go_loopw [5, 6] (fun of kk ws => ∃ q : Nat, kk = .int .i64 q ∧ q ≤ n ∧ of = .int .i64 (lastPar t k q) ∧ ws = wr) (fun _ kk _ => n - (intOf kk).toNat)
        case atStart => exact ⟨0, rfl, by omega, rfl, rfl⟩
        case round =>
          obtain ⟨q, rfl, hq, rfl, rfl⟩ := hrel
          by_cases hlt2 : q < n
          · obtain ⟨nd, hnd⟩ := getElem?_ex (l := t.nodes) (k := q) (by rw [HL.out]; exact hlt2)
            obtain ⟨e2, e3⟩ := HN.out q nd hnd
            have HSTEP := Lib.hid (show lastPar t k (q + 1) = if isPar t q k then (q : Int) else lastPar t k q from rfl)
            have hisp : isPar t q k = (decide (0 < nd.left) && (decide (nd.left = (k : Int)) || decide (nd.right = (k : Int)))) := by unfold isPar; rw [hnd]
            have HISP := Lib.hid hisp
            have j1 : (0 : Int) ≤ (q : Int) := by omega
            have j2 : (q : Int) < (n : Int) := by omega
            clear hnd hisp
            generalize lastPar t k q = LP at *
            generalize nd.left = xl at *
            generalize nd.right = xr at *
            by_cases a1 : 0 < xl
            · by_cases a2 : xl = (k : Int)
              · subst a2
                have HV := Lib.hid (show isPar t q k = true by rw [HISP.out]; simp; omega)
                have b2 : ((k : Int) == (k : Int)) = true := by simp
                go_wp2_with fail
                go_roundw
                case rel => exact ⟨q + 1, by go_num, by omega, by rw [HSTEP.out, HV.out]; rfl, trivial⟩
                case measure => simp [intOf] <;> omega
              · by_cases a3 : xr = (k : Int)
                · subst a3
                  have HV := Lib.hid (show isPar t q k = true by rw [HISP.out]; simp [a1])
                  have B2' := Lib.hid (show (xl == (k : Int)) = false by simp [a2])
                  clear a2
                  have b2 := B2'.out
                  have b3 : ((k : Int) == (k : Int)) = true := by simp
                  go_wp2_with fail
                  go_roundw
                  case rel => exact ⟨q + 1, by go_num, by omega, by rw [HSTEP.out, HV.out]; rfl, trivial⟩
                  case measure => simp [intOf] <;> omega
                · have HV := Lib.hid (show isPar t q k = false by rw [HISP.out]; simp [a2, a3])
                  have B2' := Lib.hid (show (xl == (k : Int)) = false by simp [a2])
                  have B3' := Lib.hid (show (xr == (k : Int)) = false by simp [a3])
                  clear a2 a3
                  have b2 := B2'.out
                  have b3 := B3'.out
                  go_wp2_with fail
                  go_roundw
                  case rel => exact ⟨q + 1, by go_num, by omega, by rw [HSTEP.out, HV.out]; rfl, trivial⟩
                  case measure => simp [intOf] <;> omega
            · have HV := Lib.hid (show isPar t q k = false by rw [HISP.out]; simp [a1])
              go_wp2_with fail
              go_roundw
              case rel => exact ⟨q + 1, by go_num, by omega, by rw [HSTEP.out, HV.out]; rfl, trivial⟩
              case measure => simp [intOf] <;> omega
          · obtain rfl : q = n := by omega
            have HP := Lib.hid (HPT.out k)
            rw [HL.out] at HP
            rw [← HP.out]
            generalize parT t k = PV at *
            go_wp2_with (at_builtin; go_must (refine app1 rfl _ _ 61 rfl Try.underlying61 eiInt (w.heap.size + 1) (by rfl) HOWN.out (by rfl) rfl (by simp [Value.oneCell']) (by omega) (by omega) ?_))
            intro v5 w5 hown5 hb5 _
            have u0 := (hb5.cell (p := ⟨w.heap.size, 0, none⟩) (by simp)).trans y0
            have u1 := (hb5.cell (p := ⟨w.heap.size, 1, none⟩) (by simp)).trans y1
            have s5 := hb5.size
            have OWN5 := Lib.hid hown5
            have B5 := Lib.hid (show Below w.heap.size w w5 from below_tr HBR.out (hb5.mono (by omega)))
            clear hown5 hb5
            go_wp2_with fail
            go_roundw
            case rel =>
              refine ⟨k + 1, by go_num, by omega, ?_, B5.out, by omega, u0, u1⟩
              rw [HLS.out, List.map_map]
              exact OWN5.out
            case measure => simp [intOf] <;> omega
      · obtain rfl : k = n := by omega
        have i5 := Ints.own (l := (List.range k).map (parT t)) (by exact hown) (by simp; omega)
        have I5 := Lib.hid i5.2
        have HVO := Lib.hid i5.1
        clear hown hbr i5
        go_wp2_with fail
        go_ret
        exact ⟨_, rfl, I5.out, HBR.out⟩

set_option maxRecDepth 100000 in
set_option maxHeartbeats 2000000 in
theorem rdepths_fresh (v : Value) (t : TreeP) (w : World) (h : TreeR w v t) :
    Calls Try.prog 134 #[v] w fun e w' => ∃ vo, e = .returned vo ∧ Ints .i64 w' vo (if treeB t = true then (List.range t.nodes.length).map (fun i => (depOf t i : Int)) else []) ∧ Fresh w.heap.size vo ∧ Below w.heap.size w w' := by
  have HTR := Lib.hid h
  have HPA := Lib.hid (fun W (hW : TreeR W v t) => rparents_any v t W hW)
  obtain ⟨nv, rfl, ad, cc, rfl, _, _, q3, _⟩ := h
  obtain ⟨TB, hTB⟩ : ∃ TB, treeB t = TB := ⟨_, rfl⟩
  rw [hTB] at HPA ⊢
  cases TB with
  | false =>
    simp only [Bool.false_eq_true, if_false] at HPA ⊢
    clear hTB
    generalize t.nodes.length = n at *
    generalize t.dim = D at *
    go_enter Try.func134, Try.ntmps134
    go_wp2_with fail
    (with_reducible refine (HPA.out _ (HTR.out.below (by (repeat (first | with_reducible exact Below.refl _ _ | with_reducible refine Bs ?_ | with_reducible refine Ba ?_ | with_reducible refine Bd ?_ | with_reducible refine Bn ?_))))).mono ?_); rintro e w1 ⟨vo, rfl, iv, b1⟩; have s1 : w.heap.size + 1 ≤ w1.heap.size := sz b1; have B1 := Lib.hid (Bc (B := w.heap.size) (a := w) (by (repeat (first | with_reducible exact Below.refl _ _ | with_reducible refine Bs ?_ | with_reducible refine Ba ?_ | with_reducible refine Bd ?_ | with_reducible refine Bn ?_))) b1); have c1_0 : w1.cell? ⟨w.heap.size, 0, none⟩ = some (.int .i64 D) := kc b1 (by go_simp) (by first | omega | (simp; done) | (simp; omega)); obtain ⟨l1_0, n1_0, m1_0⟩ := lnm (show w.heap.size < w1.heap.size by omega); clear b1
    obtain ⟨pa, pc, rfl, _⟩ := iv
    go_wp2_with fail
    go_loopw [4, 5, 6, 7] (fun o i _ _ wr => o = .slice none 0 0 ∧ i = .int .i64 0 ∧ wr = w1) (fun _ _ _ _ _ => 0)
    case atStart => exact ⟨rfl, rfl, rfl⟩
    case round =>
      obtain ⟨rfl, rfl, rfl⟩ := hrel
      go_wp2_with fail
      go_ret
      exact ⟨_, rfl, ints_nil _ _ _ _ (by omega), (fun a n c e _ => by cases e), by (repeat (first | with_reducible exact Below.refl _ _ | with_reducible refine Bs ?_ | with_reducible refine Ba ?_ | with_reducible refine Bd ?_ | with_reducible refine Bn ?_ | with_reducible refine Bt B1.out ?_))⟩
  | true =>
    simp only [if_true] at HPA ⊢
    have ht := treeB_true.1 hTB
    have hlen := ht.len
    have HPT := Lib.hid (show ∀ i, i < t.nodes.length → _ from fun i hi => parT_is ht (i := i) hi)
    have HD6 := Lib.hid (show ∀ i, i < t.nodes.length → depOf t i ≤ 6 from fun i hi => by
      obtain ⟨_, _, g, s, q, h1, h2⟩ := ht
      have := q.dep 6 (Nat.le_trans h2 (logI_le h1)) i (by omega) hi
      unfold depOf
      have := logI_le h1
      omega)
    clear hTB ht
    obtain ⟨n, hn⟩ : ∃ n, t.nodes.length = n := ⟨_, rfl⟩
    rw [hn] at HTR HPA hlen q3 HPT HD6 ⊢
    clear hn
    generalize t.dim = D at *
    have hnI : (n : Int) ≤ 127 := by omega
    go_enter Try.func134, Try.ntmps134
    go_wp2_with fail
    (with_reducible refine (HPA.out _ (HTR.out.below (by (repeat (first | with_reducible exact Below.refl _ _ | with_reducible refine Bs ?_ | with_reducible refine Ba ?_ | with_reducible refine Bd ?_ | with_reducible refine Bn ?_))))).mono ?_); rintro e w1 ⟨vo, rfl, iv, b1⟩; have s1 : w.heap.size + 1 ≤ w1.heap.size := sz b1; have B1 := Lib.hid (Bc (B := w.heap.size) (a := w) (by (repeat (first | with_reducible exact Below.refl _ _ | with_reducible refine Bs ?_ | with_reducible refine Ba ?_ | with_reducible refine Bd ?_ | with_reducible refine Bn ?_))) b1); have c1_0 : w1.cell? ⟨w.heap.size, 0, none⟩ = some (.int .i64 D) := kc b1 (by go_simp) (by first | omega | (simp; done) | (simp; omega)); obtain ⟨l1_0, n1_0, m1_0⟩ := lnm (show w.heap.size < w1.heap.size by omega); clear b1
    obtain ⟨pa, pc, rfl, _, _, _, hpc⟩ := iv
    rw [List.length_map, List.length_range]
    have HPC := Lib.hid (show ∀ i, i < n → ∃ b o, pa = some ⟨b, o, none⟩ ∧ b < w1.heap.size ∧ w1.cell? ⟨b, o + i, none⟩ = some (.int .i64 (parT t i)) from fun i hi => hpc i (parT t i) (by rw [List.getElem?_map, List.getElem?_range hi]; rfl))
    clear hpc
    go_wp2_with fail
    go_loopw [4, 5, 6, 7] (fun out i _ _ wr => ∃ k : Nat, i = .int .i64 k ∧ k ≤ n ∧ wr.ownsRow w1.heap.size 3 1 out k (((List.range k).map (fun i => (depOf t i : Int))).map P64) ∧ Below w1.heap.size w1 wr) (fun _ i _ _ _ => n - (intOf i).toNat)
    case atStart => exact ⟨0, rfl, by omega, World.ownsRow_nil _ _ _ _, Below.refl _ _⟩
    case round =>
      obtain ⟨k, rfl, hk, hown, hbr⟩ := hrel
      have HOWN := Lib.hid hown
      have HBR := Lib.hid hbr
      have hsz := hbr.size
      by_cases hlt : k < n
      · have HLS := Lib.hid (show ((List.range (k + 1)).map (fun i => (depOf t i : Int))).map P64 = ((List.range k).map (fun i => (depOf t i : Int))).map P64 ++ [P64 (depOf t k : Int)] by rw [List.range_succ, List.map_append, List.map_append]; rfl)
        obtain ⟨b, o, rfl, hb, hc⟩ := HPC.out k hlt
        have HN := Lib.hid (show ∀ j, j < n → wr.cell? ⟨b, o + j, none⟩ = some (.int .i64 (parT t j)) from fun j hj => by
          obtain ⟨b', o', e, hb', hc'⟩ := HPC.out j hj
          injection e with e
          injection e with e1 e2 e3
          subst e1 e2
          exact (hbr.cell (p := ⟨b, o + j, none⟩) hb').trans hc')
        have e0 := HN.out k hlt
        have hk6 := HD6.out k hlt
        have i1 : (0 : Int) ≤ (k : Int) := by omega
        have i2 : (k : Int) < (n : Int) := by omega
        have HPK := Lib.hid (show (parT t k = -1 ∧ depOf t k = 0) ∨ ∃ j : Nat, parT t k = (j : Int) ∧ j < n ∧ depOf t k = depOf t j + 1 from by
          rcases HPT.out k hlt with h | ⟨j, h1, h2, h3⟩
          · exact .inl h
          · exact .inr ⟨j, h1, by omega, h3⟩)
        clear hown hbr hc
        go_wp2_with fail
        go_loopw [6, 7] (fun nn kk ws => ∃ (c : Nat) (z : Int), nn = .int .i64 c ∧ kk = .int .i64 z ∧ c ≤ depOf t k ∧ ((z = -1 ∧ c = depOf t k) ∨ ∃ j : Nat, z = (j : Int) ∧ j < n ∧ c + 1 + depOf t j = depOf t k) ∧ ws = wr) (fun nn _ _ => 10 - (intOf nn).toNat)
        case atStart =>
          refine ⟨0, parT t k, rfl, rfl, by omega, ?_, rfl⟩
          rcases HPK.out with ⟨h1, h2⟩ | ⟨j, h1, h2, h3⟩
          · exact .inl ⟨h1, by omega⟩
          · exact .inr ⟨j, h1, h2, by omega⟩
        case round =>
          obtain ⟨c, z, rfl, rfl, hc, hz, rfl⟩ := hrel
          rcases hz with ⟨rfl, hz⟩ | ⟨j, rfl, hj, hz⟩
          · have HZ := Lib.hid hz
            clear hz
            go_wp2_with (at_builtin; go_must (refine app1 rfl _ _ 61 rfl Try.underlying61 eiInt w1.heap.size (by rfl) HOWN.out (by rfl) rfl (by simp [Value.oneCell']) (by omega) (by omega) ?_))
            intro v5 w5 hown5 hb5 _
            have OWN5 := Lib.hid hown5
            have B5 := Lib.hid (show Below w1.heap.size w1 w5 from below_tr HBR.out (hb5.mono (by omega)))
            clear hown5 hb5
            go_wp2_with fail
            go_roundw
            case rel =>
              refine ⟨k + 1, by go_num, by omega, ?_, B5.out⟩
              rw [HLS.out, ← HZ.out, List.map_map]
              exact OWN5.out
            case measure => simp [intOf] <;> omega
          · have j0 : (0 : Int) ≤ (j : Int) := by omega
            have j1 : (j : Int) < (n : Int) := by omega
            have e1 := HN.out j hj
            have HZ := Lib.hid hz
            have HPJ := Lib.hid (HPT.out j hj)
            have hc6 : (c : Int) ≤ 6 := by omega
            have hc7 : c + 1 ≤ depOf t k := by omega
            clear hz
            go_wp2_with fail
            go_roundw
            case rel =>
              refine ⟨c + 1, parT t j, by go_num, rfl, hc7, ?_, trivial⟩
              have hz := HZ.out
              rcases HPJ.out with ⟨h1, h2⟩ | ⟨q, h1, h2, h3⟩
              · exact .inl ⟨h1, by omega⟩
              · exact .inr ⟨q, h1, by omega, by omega⟩
            case measure => simp [intOf] <;> omega
      · obtain rfl : k = n := by omega
        have i5 := Ints.own (l := (List.range k).map (fun i => (depOf t i : Int))) (by exact hown) (by simp; omega)
        have I5 := Lib.hid i5.2
        have F5 := Lib.hid ((Fresh.own hown).mono B1.out.size)
        clear hown hbr i5
        go_wp2_with fail
        go_ret
        exact ⟨_, rfl, I5.out, F5.out.mono (by simp), by (repeat (first | with_reducible exact Below.refl _ _ | with_reducible refine Bs ?_ | with_reducible refine Ba ?_ | with_reducible refine Bd ?_ | with_reducible refine Bn ?_ | with_reducible refine Bt HBR.out ?_ | with_reducible refine Bt B1.out ?_))⟩

end Go.Proofs.Ytjmjnkilgoelbaa
