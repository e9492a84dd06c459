/-
  Walks of copseref10.Down, Leaf, of copseref11.Above and of copseref12.Length, Trail.
-/
import Derived.Test.YtopodhcgfmpphaaPathB
import Derived.Test.YtopodhcgfmpphaaRefTreeA
import Derived.Test.YtopodhcgfmpphaaHarmB
namespace Go.Proofs.Ytopodhcgfmpphaa
open Go.RowKit

def lastW (l : List Nat) : Nat := l.getLast?.getD 0

theorem lastW_cons (i : Nat) {l : List Nat} (h : l ≠ []) : lastW (i :: l) = lastW l := by
  cases l with
  | nil => exact absurd rfl h
  | cons j l => rfl

theorem tup2 {k k' : IntKind} {a b c d : Int} (h : a = c) (h' : b = d) : Ending.returned (.tuple #[.int k a, .int k' b]) = .returned (.tuple #[.int k c, .int k' d]) := by rw [h, h']

set_option maxRecDepth 100000 in
set_option maxHeartbeats 4000000 in
theorem rdown_any (t : TreeP) (x : List Int) (vx : Value) (hxv : vecB x t.dim = true) {i e h : Nat} {s : Int} (q : Sub t i e h s) : ∀ (v : Value) (w : World), TreeR w v t → Ints .i64 w vx x →
    Calls Try.prog 122 #[v, .int .i64 i, vx] w fun e w' => e = .returned (.tuple #[.int .i64 (lastW (wayT t x h i) : Nat), .int .i64 (((wayT t x h i).length - 1 : Nat) : Int)]) ∧ Below w.heap.size w w' := by
  induction q with
  | @leaf i nd hnd hlf =>
    intro v w hT hX
    rw [wayT_leaf hnd (leafB_is hlf).1]
    have HTR := Lib.hid hT
    obtain ⟨nv, rfl, ad, cc, rfl, _, _, q3, _⟩ := hT
    obtain ⟨b, o, rfl⟩ := HTR.out.addr (List.getElem?_eq_some_iff.1 hnd).1
    obtain ⟨hb, hat⟩ := HTR.out.node hnd
    obtain ⟨ca, ccc, hci, e0, e1, e2, e3, e4⟩ := hat.val
    have hin : (i : Int) < t.nodes.length := by have := (List.getElem?_eq_some_iff.1 hnd).1; omega
    have hi0 : (0 : Int) ≤ i := by omega
    rw [(leafB_is hlf).1] at e2
    clear hat hci hnd hlf HTR hX
    generalize nd.at_ = xat at *
    generalize nd.right = xr at *
    generalize nd.size = xz at *
    generalize nd.coef.length = cl at *
    generalize t.nodes.length = n at *
    clear hxv
    generalize t.dim = D at *
    go_enter Try.func122, Try.ntmps122
    go_wp2_with fail
    exact bodyPost_ret (v := .tuple #[.int .i64 i, .int .i64 0]) (by simp [results, Try.results122, go_sem]) rfl ⟨rfl, by (repeat (first | with_reducible exact Below.refl _ _ | ((with_reducible refine Below.setCell ?_ ?_ _); rotate_left; (focus (first | omega | (simp; done) | (simp; omega)))) | ((with_reducible refine Below.alloc ?_ ?_ _); rotate_left; (focus (first | omega | (simp; done) | (simp; omega)))) | (with_reducible refine Below.drew ?_) | (with_reducible refine below_drewN ?_ _)))⟩
  | @node i m' e a' b' x' y' nd hnd k1 k2 q1 k4 q2 k6 ih1 ih2 =>
    intro v w hT hX0
    have HTR := Lib.hid hT
    have HX := Lib.hid hX0
    obtain ⟨nv, rfl, ad, cc, rfl, _, _, q3, _⟩ := hT
    obtain ⟨ax, cx, rfl, _⟩ := hX0
    obtain ⟨b, o, rfl⟩ := HTR.out.addr (List.getElem?_eq_some_iff.1 hnd).1
    obtain ⟨hb, hat⟩ := HTR.out.node hnd
    obtain ⟨ca, ccc, hci, e0, e1, e2, e3, e4⟩ := hat.val
    have HCI := Lib.hid hci
    have hin : (i : Int) < t.nodes.length := by have := (List.getElem?_eq_some_iff.1 hnd).1; omega
    have hi0 : (0 : Int) ≤ i := by omega
    have hi1 : (i : Int) ≤ 140737488351232 := by omega
    have hl0 : ¬ nd.left = 0 := by omega
    have hmt : nd.right.toNat = m' := by omega
    have hcl := fun W (hW : Ints .i64 W (.slice ca nd.coef.length ccc) nd.coef) (hX : Ints .i64 W (.slice ax x.length cx) x) => rcleft_any _ _ nd.coef x nd.at_ W hW hX
    rw [leftR_ok k2 hxv] at hcl
    have hw0 := wayT_node (x := x) hnd hl0 (max a' b')
    rw [hmt] at hw0
    unfold leftB at hw0
    have hI1 := ih1 (.agg #[.int .i64 t.dim, .slice (some ⟨b, o, none⟩) t.nodes.length cc])
    have hI2 := ih2 (.agg #[.int .i64 t.dim, .slice (some ⟨b, o, none⟩) t.nodes.length cc])
    rw [show ((i + 1 : Nat) : Int) = (i : Int) + 1 from rfl] at hI1
    have hq1 := (q1.way x (max a' b') (Nat.le_max_left _ _)).1
    have hq2 := (q2.way x (max a' b') (Nat.le_max_right _ _)).1
    have hn1 := wayT_ne t x a' (i + 1)
    have hn2 := wayT_ne t x b' m'
    have hb1 : (((wayT t x a' (i + 1)).length - 1 : Nat) : Int) ≤ 140737488351232 := by have := (q1.way x a' (Nat.le_refl _)).2; have := q1.high; have := q1.lt; omega
    have hb2 : (((wayT t x b' m').length - 1 : Nat) : Int) ≤ 140737488351232 := by have := (q2.way x b' (Nat.le_refl _)).2; have := q2.high; have := q2.lt; omega
    obtain ⟨LB, hlb⟩ : ∃ LB, decide (dotI nd.coef x < nd.at_) = LB := ⟨_, rfl⟩
    rw [hlb] at hcl hw0
    have HCL := Lib.hid hcl
    rw [k1] at e2
    rw [k4] at e3
    rw [Nat.add_comm 1, hw0]
    have J1 := Lib.hid (show (((i : Int) + 1) == 0) = false by simp; omega)
    clear hat hci hnd hl0 hmt hcl hw0 k1 k2 k4 k6 q1 q2 ih1 ih2 hlb hxv
    cases LB with
    | true =>
      rw [if_pos rfl, hq1]
      have HI1 := Lib.hid hI1
      have HJ := Lib.hid (show Ending.returned (.tuple #[.int .i64 (lastW (i :: wayT t x a' (i + 1)) : Nat), .int .i64 (((i :: wayT t x a' (i + 1)).length - 1 : Nat) : Int)]) = Ending.returned (.tuple #[.int .i64 (lastW (wayT t x a' (i + 1)) : Nat), .int .i64 ((((wayT t x a' (i + 1)).length - 1 : Nat) : Int) + 1)]) from
        tup2 (by rw [lastW_cons i hn1]) (by have := List.length_pos_iff.2 hn1; simp only [List.length_cons]; omega))
      generalize hJJ : lastW (wayT t x a' (i + 1)) = JJ at *
      generalize hKK : (wayT t x a' (i + 1)).length - 1 = KK at *
      clear hb2 hI1 hI2 hq1 hq2 hn1 hn2 hJJ hKK
      generalize nd.at_ = xat at *
      generalize nd.size = xz at *
      generalize nd.coef.length = cl at *
      generalize t.nodes.length = n at *
      generalize t.dim = D at *
      generalize x.length = xn at *
      have j1 := J1.out
      go_enter Try.func122, Try.ntmps122
      go_wp2_with fail
      (with_reducible refine (HCL.out _ (HCI.out.below (by (repeat (first | with_reducible exact Below.refl _ _ | ((with_reducible refine Below.setCell ?_ ?_ _); rotate_left; (focus (first | omega | (simp; done) | (simp; omega)))) | ((with_reducible refine Below.alloc ?_ ?_ _); rotate_left; (focus (first | omega | (simp; done) | (simp; omega)))) | (with_reducible refine Below.drew ?_) | (with_reducible refine below_drewN ?_ _))))) (HX.out.below (by (repeat (first | with_reducible exact Below.refl _ _ | ((with_reducible refine Below.setCell ?_ ?_ _); rotate_left; (focus (first | omega | (simp; done) | (simp; omega)))) | ((with_reducible refine Below.alloc ?_ ?_ _); rotate_left; (focus (first | omega | (simp; done) | (simp; omega)))) | (with_reducible refine Below.drew ?_) | (with_reducible refine below_drewN ?_ _)))))).mono ?_); rintro e w1 ⟨rfl, b1⟩; have s1 : w.heap.size + 2 ≤ w1.heap.size := (by have := b1.size; first | omega | (simp at this; omega)); have B1 := Lib.hid (show Below w.heap.size w w1 from below_tr (by (repeat (first | with_reducible exact Below.refl _ _ | ((with_reducible refine Below.setCell ?_ ?_ _); rotate_left; (focus (first | omega | (simp; done) | (simp; omega)))) | ((with_reducible refine Below.alloc ?_ ?_ _); rotate_left; (focus (first | omega | (simp; done) | (simp; omega)))) | (with_reducible refine Below.drew ?_) | (with_reducible refine below_drewN ?_ _)))) (b1.mono (by first | omega | (simp; done) | (simp; omega)))); have c1_0 : w1.cell? ⟨w.heap.size, 0, none⟩ = some (.int .i64 D) := (b1.cell (by first | omega | (simp; done) | (simp; omega))).trans (by go_simp); have c1_1 : w1.cell? ⟨w.heap.size, 1, none⟩ = some (.slice (some ⟨b, o, none⟩) n cc) := (b1.cell (by first | omega | (simp; done) | (simp; omega))).trans (by go_simp); have c1_2 : w1.cell? ⟨w.heap.size + 1, 1, none⟩ = some (.int .i64 xat) := (b1.cell (by first | omega | (simp; done) | (simp; omega))).trans (by go_simp); have c1_3 : w1.cell? ⟨w.heap.size + 1, 2, none⟩ = some (.int .i64 ((i : Int) + 1)) := (b1.cell (by first | omega | (simp; done) | (simp; omega))).trans (by go_simp); have c1_4 : w1.cell? ⟨w.heap.size + 1, 3, none⟩ = some (.int .i64 m') := (b1.cell (by first | omega | (simp; done) | (simp; omega))).trans (by go_simp); have l1_0 : w.heap.size < w1.heap.size := (by omega); have n1_0 : w.heap.size ≠ w1.heap.size := (by omega); have m1_0 : w1.heap.size ≠ w.heap.size := (by omega); have l1_1 : w.heap.size + 1 < w1.heap.size := (by omega); have n1_1 : w.heap.size + 1 ≠ w1.heap.size := (by omega); have m1_1 : w1.heap.size ≠ w.heap.size + 1 := (by omega); clear b1
      go_wp2_with fail
      (with_reducible refine (HI1.out _ (HTR.out.below (by (repeat (first | with_reducible exact Below.refl _ _ | ((with_reducible refine Below.setCell ?_ ?_ _); rotate_left; (focus (first | omega | (simp; done) | (simp; omega)))) | ((with_reducible refine Below.alloc ?_ ?_ _); rotate_left; (focus (first | omega | (simp; done) | (simp; omega)))) | (with_reducible refine Below.drew ?_) | (with_reducible refine below_drewN ?_ _) | ((with_reducible refine Below.trans ?_ (Below.mono B1.out ?_)); rotate_left; (focus (first | omega | (simp; done) | (simp; omega)))))))) (HX.out.below (by (repeat (first | with_reducible exact Below.refl _ _ | ((with_reducible refine Below.setCell ?_ ?_ _); rotate_left; (focus (first | omega | (simp; done) | (simp; omega)))) | ((with_reducible refine Below.alloc ?_ ?_ _); rotate_left; (focus (first | omega | (simp; done) | (simp; omega)))) | (with_reducible refine Below.drew ?_) | (with_reducible refine below_drewN ?_ _) | ((with_reducible refine Below.trans ?_ (Below.mono B1.out ?_)); rotate_left; (focus (first | omega | (simp; done) | (simp; omega))))))))).mono ?_); rintro e w2 ⟨rfl, b2⟩; have s2 : w1.heap.size ≤ w2.heap.size := (by have := b2.size; first | omega | (simp at this; omega)); have B2 := Lib.hid (show Below w.heap.size w w2 from below_tr (by (repeat (first | with_reducible exact Below.refl _ _ | ((with_reducible refine Below.setCell ?_ ?_ _); rotate_left; (focus (first | omega | (simp; done) | (simp; omega)))) | ((with_reducible refine Below.alloc ?_ ?_ _); rotate_left; (focus (first | omega | (simp; done) | (simp; omega)))) | (with_reducible refine Below.drew ?_) | (with_reducible refine below_drewN ?_ _) | ((with_reducible refine Below.trans ?_ (Below.mono B1.out ?_)); rotate_left; (focus (first | omega | (simp; done) | (simp; omega))))))) (b2.mono (by first | omega | (simp; done) | (simp; omega)))); have c2_0 : w2.cell? ⟨w.heap.size, 0, none⟩ = some (.int .i64 D) := (b2.cell (by first | omega | (simp; done) | (simp; omega))).trans (by go_simp); have l2_0 : w.heap.size < w2.heap.size := (by omega); have n2_0 : w.heap.size ≠ w2.heap.size := (by omega); have m2_0 : w2.heap.size ≠ w.heap.size := (by omega); clear b2
      go_wp2_with fail
      exact bodyPost_ret (v := .tuple #[.int .i64 (JJ : Nat), .int .i64 ((KK : Nat) + 1)]) (by simp [results, Try.results122, go_sem]) rfl ⟨HJ.out.symm, by (repeat (first | with_reducible exact Below.refl _ _ | ((with_reducible refine Below.setCell ?_ ?_ _); rotate_left; (focus (first | omega | (simp; done) | (simp; omega)))) | ((with_reducible refine Below.alloc ?_ ?_ _); rotate_left; (focus (first | omega | (simp; done) | (simp; omega)))) | (with_reducible refine Below.drew ?_) | (with_reducible refine below_drewN ?_ _) | ((with_reducible refine Below.trans ?_ (Below.mono B2.out ?_)); rotate_left; (focus (first | omega | (simp; done) | (simp; omega))))))⟩
    | false =>
      rw [if_neg (by decide), hq2]
      have HI1 := Lib.hid hI2
      have HJ := Lib.hid (show Ending.returned (.tuple #[.int .i64 (lastW (i :: wayT t x b' m') : Nat), .int .i64 (((i :: wayT t x b' m').length - 1 : Nat) : Int)]) = Ending.returned (.tuple #[.int .i64 (lastW (wayT t x b' m') : Nat), .int .i64 ((((wayT t x b' m').length - 1 : Nat) : Int) + 1)]) from
        tup2 (by rw [lastW_cons i hn2]) (by have := List.length_pos_iff.2 hn2; simp only [List.length_cons]; omega))
      generalize hJJ : lastW (wayT t x b' m') = JJ at *
      generalize hKK : (wayT t x b' m').length - 1 = KK at *
      clear hb1 hI1 hI2 hq1 hq2 hn1 hn2 hJJ hKK
      generalize nd.at_ = xat at *
      generalize nd.size = xz at *
      generalize nd.coef.length = cl at *
      generalize t.nodes.length = n at *
      generalize t.dim = D at *
      generalize x.length = xn at *
      have j1 := J1.out
      go_enter Try.func122, Try.ntmps122
      go_wp2_with fail
      (with_reducible refine (HCL.out _ (HCI.out.below (by (repeat (first | with_reducible exact Below.refl _ _ | ((with_reducible refine Below.setCell ?_ ?_ _); rotate_left; (focus (first | omega | (simp; done) | (simp; omega)))) | ((with_reducible refine Below.alloc ?_ ?_ _); rotate_left; (focus (first | omega | (simp; done) | (simp; omega)))) | (with_reducible refine Below.drew ?_) | (with_reducible refine below_drewN ?_ _))))) (HX.out.below (by (repeat (first | with_reducible exact Below.refl _ _ | ((with_reducible refine Below.setCell ?_ ?_ _); rotate_left; (focus (first | omega | (simp; done) | (simp; omega)))) | ((with_reducible refine Below.alloc ?_ ?_ _); rotate_left; (focus (first | omega | (simp; done) | (simp; omega)))) | (with_reducible refine Below.drew ?_) | (with_reducible refine below_drewN ?_ _)))))).mono ?_); rintro e w1 ⟨rfl, b1⟩; have s1 : w.heap.size + 2 ≤ w1.heap.size := (by have := b1.size; first | omega | (simp at this; omega)); have B1 := Lib.hid (show Below w.heap.size w w1 from below_tr (by (repeat (first | with_reducible exact Below.refl _ _ | ((with_reducible refine Below.setCell ?_ ?_ _); rotate_left; (focus (first | omega | (simp; done) | (simp; omega)))) | ((with_reducible refine Below.alloc ?_ ?_ _); rotate_left; (focus (first | omega | (simp; done) | (simp; omega)))) | (with_reducible refine Below.drew ?_) | (with_reducible refine below_drewN ?_ _)))) (b1.mono (by first | omega | (simp; done) | (simp; omega)))); have c1_0 : w1.cell? ⟨w.heap.size, 0, none⟩ = some (.int .i64 D) := (b1.cell (by first | omega | (simp; done) | (simp; omega))).trans (by go_simp); have c1_1 : w1.cell? ⟨w.heap.size, 1, none⟩ = some (.slice (some ⟨b, o, none⟩) n cc) := (b1.cell (by first | omega | (simp; done) | (simp; omega))).trans (by go_simp); have c1_2 : w1.cell? ⟨w.heap.size + 1, 1, none⟩ = some (.int .i64 xat) := (b1.cell (by first | omega | (simp; done) | (simp; omega))).trans (by go_simp); have c1_3 : w1.cell? ⟨w.heap.size + 1, 2, none⟩ = some (.int .i64 ((i : Int) + 1)) := (b1.cell (by first | omega | (simp; done) | (simp; omega))).trans (by go_simp); have c1_4 : w1.cell? ⟨w.heap.size + 1, 3, none⟩ = some (.int .i64 m') := (b1.cell (by first | omega | (simp; done) | (simp; omega))).trans (by go_simp); have l1_0 : w.heap.size < w1.heap.size := (by omega); have n1_0 : w.heap.size ≠ w1.heap.size := (by omega); have m1_0 : w1.heap.size ≠ w.heap.size := (by omega); have l1_1 : w.heap.size + 1 < w1.heap.size := (by omega); have n1_1 : w.heap.size + 1 ≠ w1.heap.size := (by omega); have m1_1 : w1.heap.size ≠ w.heap.size + 1 := (by omega); clear b1
      go_wp2_with fail
      (with_reducible refine (HI1.out _ (HTR.out.below (by (repeat (first | with_reducible exact Below.refl _ _ | ((with_reducible refine Below.setCell ?_ ?_ _); rotate_left; (focus (first | omega | (simp; done) | (simp; omega)))) | ((with_reducible refine Below.alloc ?_ ?_ _); rotate_left; (focus (first | omega | (simp; done) | (simp; omega)))) | (with_reducible refine Below.drew ?_) | (with_reducible refine below_drewN ?_ _) | ((with_reducible refine Below.trans ?_ (Below.mono B1.out ?_)); rotate_left; (focus (first | omega | (simp; done) | (simp; omega)))))))) (HX.out.below (by (repeat (first | with_reducible exact Below.refl _ _ | ((with_reducible refine Below.setCell ?_ ?_ _); rotate_left; (focus (first | omega | (simp; done) | (simp; omega)))) | ((with_reducible refine Below.alloc ?_ ?_ _); rotate_left; (focus (first | omega | (simp; done) | (simp; omega)))) | (with_reducible refine Below.drew ?_) | (with_reducible refine below_drewN ?_ _) | ((with_reducible refine Below.trans ?_ (Below.mono B1.out ?_)); rotate_left; (focus (first | omega | (simp; done) | (simp; omega))))))))).mono ?_); rintro e w2 ⟨rfl, b2⟩; have s2 : w1.heap.size ≤ w2.heap.size := (by have := b2.size; first | omega | (simp at this; omega)); have B2 := Lib.hid (show Below w.heap.size w w2 from below_tr (by (repeat (first | with_reducible exact Below.refl _ _ | ((with_reducible refine Below.setCell ?_ ?_ _); rotate_left; (focus (first | omega | (simp; done) | (simp; omega)))) | ((with_reducible refine Below.alloc ?_ ?_ _); rotate_left; (focus (first | omega | (simp; done) | (simp; omega)))) | (with_reducible refine Below.drew ?_) | (with_reducible refine below_drewN ?_ _) | ((with_reducible refine Below.trans ?_ (Below.mono B1.out ?_)); rotate_left; (focus (first | omega | (simp; done) | (simp; omega))))))) (b2.mono (by first | omega | (simp; done) | (simp; omega)))); have c2_0 : w2.cell? ⟨w.heap.size, 0, none⟩ = some (.int .i64 D) := (b2.cell (by first | omega | (simp; done) | (simp; omega))).trans (by go_simp); have l2_0 : w.heap.size < w2.heap.size := (by omega); have n2_0 : w.heap.size ≠ w2.heap.size := (by omega); have m2_0 : w2.heap.size ≠ w.heap.size := (by omega); clear b2
      go_wp2_with fail
      exact bodyPost_ret (v := .tuple #[.int .i64 (JJ : Nat), .int .i64 ((KK : Nat) + 1)]) (by simp [results, Try.results122, go_sem]) rfl ⟨HJ.out.symm, by (repeat (first | with_reducible exact Below.refl _ _ | ((with_reducible refine Below.setCell ?_ ?_ _); rotate_left; (focus (first | omega | (simp; done) | (simp; omega)))) | ((with_reducible refine Below.alloc ?_ ?_ _); rotate_left; (focus (first | omega | (simp; done) | (simp; omega)))) | (with_reducible refine Below.drew ?_) | (with_reducible refine below_drewN ?_ _) | ((with_reducible refine Below.trans ?_ (Below.mono B2.out ?_)); rotate_left; (focus (first | omega | (simp; done) | (simp; omega))))))⟩


theorem lastW_way {t : TreeP} {x : List Int} (h : treeB t = true) : ∃ j n, (wayL t x).getLast? = some j ∧ lastW (wayL t x) = j ∧ t.nodes[j]? = some n ∧ lenV t x = (((wayL t x).length - 1 : Nat) : Int) * 1073741824 + normI n.size ∧ 1 ≤ (wayL t x).length ∧ (wayL t x).length ≤ 7 ∧ j < t.nodes.length := by
  obtain ⟨j, nd, g1, g2, g3, g4, g5, g6⟩ := way_facts (x := x) h
  refine ⟨j, nd, g1, ?_, g2, ?_, g4, g5, g6⟩
  · unfold lastW; rw [g1]; rfl
  · unfold lenV; rw [g1]; simp only []; rw [g2]; rfl

set_option maxRecDepth 100000 in
set_option maxHeartbeats 2000000 in
theorem rleaf_any (v vx : Value) (t : TreeP) (x : List Int) (w : World) (h : TreeR w v t) (hx : Ints .i64 w vx x) :
    Calls Try.prog 91 #[v, vx] w fun e w' => e = .returned (.tuple #[.int .i64 (if pathE t x = 0 then (lastW (wayL t x) : Int) else 0), .int .i64 (if pathE t x = 0 then (((wayL t x).length - 1 : Nat) : Int) else 0), .int .i64 (pathE t x)]) ∧ Below w.heap.size w w' := by
  have HTR := Lib.hid h
  have HX := Lib.hid hx
  obtain ⟨nv, rfl, ad, cc, rfl, _, _, q3, _⟩ := h
  unfold pathE
  cases hB : treeB t with
  | false =>
    have HC1 := Lib.hid (fun W (hW : TreeR W (.agg #[.int .i64 t.dim, .slice ad t.nodes.length cc]) t) => hB ▸ ristree_any _ t W hW)
    clear hB hx
    simp only [Bool.false_eq_true, if_false, show ¬ (100 : Int) = 0 by decide]
    generalize t.nodes.length = n at *
    generalize t.dim = D at *
    go_enter Try.func91, Try.ntmps91
    go_wp2_with fail
    (with_reducible refine (HC1.out _ (HTR.out.below (by (repeat (first | with_reducible exact Below.refl _ _ | ((with_reducible refine Below.setCell ?_ ?_ _); rotate_left; (focus (first | omega | (simp; done) | (simp; omega)))) | ((with_reducible refine Below.alloc ?_ ?_ _); rotate_left; (focus (first | omega | (simp; done) | (simp; omega)))) | (with_reducible refine Below.drew ?_) | (with_reducible refine below_drewN ?_ _)))))).mono ?_); rintro e w1 ⟨rfl, b1⟩; have s1 : w.heap.size + 1 ≤ w1.heap.size := (by have := b1.size; first | omega | (simp at this; omega)); have B1 := Lib.hid (show Below w.heap.size w w1 from below_tr (by (repeat (first | with_reducible exact Below.refl _ _ | ((with_reducible refine Below.setCell ?_ ?_ _); rotate_left; (focus (first | omega | (simp; done) | (simp; omega)))) | ((with_reducible refine Below.alloc ?_ ?_ _); rotate_left; (focus (first | omega | (simp; done) | (simp; omega)))) | (with_reducible refine Below.drew ?_) | (with_reducible refine below_drewN ?_ _)))) (b1.mono (by first | omega | (simp; done) | (simp; omega)))); have c1_0 : w1.cell? ⟨w.heap.size, 0, none⟩ = some (.int .i64 D) := (b1.cell (by first | omega | (simp; done) | (simp; omega))).trans (by go_simp); have c1_1 : w1.cell? ⟨w.heap.size, 1, none⟩ = some (.slice ad n cc) := (b1.cell (by first | omega | (simp; done) | (simp; omega))).trans (by go_simp); have l1_0 : w.heap.size < w1.heap.size := (by omega); have n1_0 : w.heap.size ≠ w1.heap.size := (by omega); have m1_0 : w1.heap.size ≠ w.heap.size := (by omega); clear b1
    go_wp2_with fail
    exact bodyPost_ret (v := .tuple #[.int .i64 0, .int .i64 0, .int .i64 100]) (by simp [results, Try.results91, go_sem]) rfl ⟨rfl, by (repeat (first | with_reducible exact Below.refl _ _ | ((with_reducible refine Below.setCell ?_ ?_ _); rotate_left; (focus (first | omega | (simp; done) | (simp; omega)))) | ((with_reducible refine Below.alloc ?_ ?_ _); rotate_left; (focus (first | omega | (simp; done) | (simp; omega)))) | (with_reducible refine Below.drew ?_) | (with_reducible refine below_drewN ?_ _) | ((with_reducible refine Below.trans ?_ (Below.mono B1.out ?_)); rotate_left; (focus (first | omega | (simp; done) | (simp; omega))))))⟩
  | true =>
    have HC1 := Lib.hid (fun W (hW : TreeR W (.agg #[.int .i64 t.dim, .slice ad t.nodes.length cc]) t) => hB ▸ ristree_any _ t W hW)
    cases hV : vecB x t.dim with
    | false =>
      have HC2 := Lib.hid (fun W (hW : Ints .i64 W vx x) => hV ▸ risv_any vx x t.dim W hW)
      clear hB hV hx
      simp only [if_true, Bool.false_eq_true, if_false, show ¬ (80 : Int) = 0 by decide]
      generalize t.nodes.length = n at *
      generalize t.dim = D at *
      go_enter Try.func91, Try.ntmps91
      go_wp2_with fail
      (with_reducible refine (HC1.out _ (HTR.out.below (by (repeat (first | with_reducible exact Below.refl _ _ | ((with_reducible refine Below.setCell ?_ ?_ _); rotate_left; (focus (first | omega | (simp; done) | (simp; omega)))) | ((with_reducible refine Below.alloc ?_ ?_ _); rotate_left; (focus (first | omega | (simp; done) | (simp; omega)))) | (with_reducible refine Below.drew ?_) | (with_reducible refine below_drewN ?_ _)))))).mono ?_); rintro e w1 ⟨rfl, b1⟩; have s1 : w.heap.size + 1 ≤ w1.heap.size := (by have := b1.size; first | omega | (simp at this; omega)); have B1 := Lib.hid (show Below w.heap.size w w1 from below_tr (by (repeat (first | with_reducible exact Below.refl _ _ | ((with_reducible refine Below.setCell ?_ ?_ _); rotate_left; (focus (first | omega | (simp; done) | (simp; omega)))) | ((with_reducible refine Below.alloc ?_ ?_ _); rotate_left; (focus (first | omega | (simp; done) | (simp; omega)))) | (with_reducible refine Below.drew ?_) | (with_reducible refine below_drewN ?_ _)))) (b1.mono (by first | omega | (simp; done) | (simp; omega)))); have c1_0 : w1.cell? ⟨w.heap.size, 0, none⟩ = some (.int .i64 D) := (b1.cell (by first | omega | (simp; done) | (simp; omega))).trans (by go_simp); have c1_1 : w1.cell? ⟨w.heap.size, 1, none⟩ = some (.slice ad n cc) := (b1.cell (by first | omega | (simp; done) | (simp; omega))).trans (by go_simp); have l1_0 : w.heap.size < w1.heap.size := (by omega); have n1_0 : w.heap.size ≠ w1.heap.size := (by omega); have m1_0 : w1.heap.size ≠ w.heap.size := (by omega); clear b1
      go_wp2_with fail
      refine (HC2.out _ (HX.out.below (by (repeat (first | with_reducible exact Below.refl _ _ | ((with_reducible refine Below.setCell ?_ ?_ _); rotate_left; (focus (first | omega | (simp; done) | (simp; omega)))) | ((with_reducible refine Below.alloc ?_ ?_ _); rotate_left; (focus (first | omega | (simp; done) | (simp; omega)))) | (with_reducible refine Below.drew ?_) | (with_reducible refine below_drewN ?_ _) | ((with_reducible refine Below.trans ?_ (Below.mono B1.out ?_)); rotate_left; (focus (first | omega | (simp; done) | (simp; omega))))))))).mono ?_
      rintro e w2 ⟨rfl, rfl⟩
      go_wp2_with fail
      exact bodyPost_ret (v := .tuple #[.int .i64 0, .int .i64 0, .int .i64 80]) (by simp [results, Try.results91, go_sem]) rfl ⟨rfl, by (repeat (first | with_reducible exact Below.refl _ _ | ((with_reducible refine Below.setCell ?_ ?_ _); rotate_left; (focus (first | omega | (simp; done) | (simp; omega)))) | ((with_reducible refine Below.alloc ?_ ?_ _); rotate_left; (focus (first | omega | (simp; done) | (simp; omega)))) | (with_reducible refine Below.drew ?_) | (with_reducible refine below_drewN ?_ _) | ((with_reducible refine Below.trans ?_ (Below.mono B1.out ?_)); rotate_left; (focus (first | omega | (simp; done) | (simp; omega))))))⟩
    | true =>
      have HC2 := Lib.hid (fun W (hW : Ints .i64 W vx x) => hV ▸ risv_any vx x t.dim W hW)
      obtain ⟨_, _, h0, s0, q, hs64, hlog⟩ := treeB_true.1 hB
      have h6 : h0 ≤ 6 := Nat.le_trans hlog (logI_le hs64)
      have ew : wayL t x = wayT t x h0 0 := (q.way x 6 h6).1
      have hd := fun (W : World) (hW : TreeR W (.agg #[.int .i64 t.dim, .slice ad t.nodes.length cc]) t) (hX : Ints .i64 W vx x) => rdown_any t x vx hV q _ W hW hX
      rw [← ew, Int.natCast_zero] at hd
      have HD := Lib.hid hd
      clear hB hV hx q hs64 hlog ew hd
      simp only [if_true]
      generalize t.nodes.length = n at *
      generalize t.dim = D at *
      generalize ((lastW (wayL t x) : Nat) : Int) = JJ at *
      generalize (((wayL t x).length - 1 : Nat) : Int) = KK at *
      go_enter Try.func91, Try.ntmps91
      go_wp2_with fail
      (with_reducible refine (HC1.out _ (HTR.out.below (by (repeat (first | with_reducible exact Below.refl _ _ | ((with_reducible refine Below.setCell ?_ ?_ _); rotate_left; (focus (first | omega | (simp; done) | (simp; omega)))) | ((with_reducible refine Below.alloc ?_ ?_ _); rotate_left; (focus (first | omega | (simp; done) | (simp; omega)))) | (with_reducible refine Below.drew ?_) | (with_reducible refine below_drewN ?_ _)))))).mono ?_); rintro e w1 ⟨rfl, b1⟩; have s1 : w.heap.size + 1 ≤ w1.heap.size := (by have := b1.size; first | omega | (simp at this; omega)); have B1 := Lib.hid (show Below w.heap.size w w1 from below_tr (by (repeat (first | with_reducible exact Below.refl _ _ | ((with_reducible refine Below.setCell ?_ ?_ _); rotate_left; (focus (first | omega | (simp; done) | (simp; omega)))) | ((with_reducible refine Below.alloc ?_ ?_ _); rotate_left; (focus (first | omega | (simp; done) | (simp; omega)))) | (with_reducible refine Below.drew ?_) | (with_reducible refine below_drewN ?_ _)))) (b1.mono (by first | omega | (simp; done) | (simp; omega)))); have c1_0 : w1.cell? ⟨w.heap.size, 0, none⟩ = some (.int .i64 D) := (b1.cell (by first | omega | (simp; done) | (simp; omega))).trans (by go_simp); have c1_1 : w1.cell? ⟨w.heap.size, 1, none⟩ = some (.slice ad n cc) := (b1.cell (by first | omega | (simp; done) | (simp; omega))).trans (by go_simp); have l1_0 : w.heap.size < w1.heap.size := (by omega); have n1_0 : w.heap.size ≠ w1.heap.size := (by omega); have m1_0 : w1.heap.size ≠ w.heap.size := (by omega); clear b1
      go_wp2_with fail
      refine (HC2.out _ (HX.out.below (by (repeat (first | with_reducible exact Below.refl _ _ | ((with_reducible refine Below.setCell ?_ ?_ _); rotate_left; (focus (first | omega | (simp; done) | (simp; omega)))) | ((with_reducible refine Below.alloc ?_ ?_ _); rotate_left; (focus (first | omega | (simp; done) | (simp; omega)))) | (with_reducible refine Below.drew ?_) | (with_reducible refine below_drewN ?_ _) | ((with_reducible refine Below.trans ?_ (Below.mono B1.out ?_)); rotate_left; (focus (first | omega | (simp; done) | (simp; omega))))))))).mono ?_
      rintro e w2 ⟨rfl, rfl⟩
      go_wp2_with fail
      (with_reducible refine (HD.out _ (HTR.out.below (by (repeat (first | with_reducible exact Below.refl _ _ | ((with_reducible refine Below.setCell ?_ ?_ _); rotate_left; (focus (first | omega | (simp; done) | (simp; omega)))) | ((with_reducible refine Below.alloc ?_ ?_ _); rotate_left; (focus (first | omega | (simp; done) | (simp; omega)))) | (with_reducible refine Below.drew ?_) | (with_reducible refine below_drewN ?_ _) | ((with_reducible refine Below.trans ?_ (Below.mono B1.out ?_)); rotate_left; (focus (first | omega | (simp; done) | (simp; omega)))))))) (HX.out.below (by (repeat (first | with_reducible exact Below.refl _ _ | ((with_reducible refine Below.setCell ?_ ?_ _); rotate_left; (focus (first | omega | (simp; done) | (simp; omega)))) | ((with_reducible refine Below.alloc ?_ ?_ _); rotate_left; (focus (first | omega | (simp; done) | (simp; omega)))) | (with_reducible refine Below.drew ?_) | (with_reducible refine below_drewN ?_ _) | ((with_reducible refine Below.trans ?_ (Below.mono B1.out ?_)); rotate_left; (focus (first | omega | (simp; done) | (simp; omega))))))))).mono ?_); rintro e w2 ⟨rfl, b2⟩; have s2 : w1.heap.size ≤ w2.heap.size := (by have := b2.size; first | omega | (simp at this; omega)); have B2 := Lib.hid (show Below w.heap.size w w2 from below_tr (by (repeat (first | with_reducible exact Below.refl _ _ | ((with_reducible refine Below.setCell ?_ ?_ _); rotate_left; (focus (first | omega | (simp; done) | (simp; omega)))) | ((with_reducible refine Below.alloc ?_ ?_ _); rotate_left; (focus (first | omega | (simp; done) | (simp; omega)))) | (with_reducible refine Below.drew ?_) | (with_reducible refine below_drewN ?_ _) | ((with_reducible refine Below.trans ?_ (Below.mono B1.out ?_)); rotate_left; (focus (first | omega | (simp; done) | (simp; omega))))))) (b2.mono (by first | omega | (simp; done) | (simp; omega)))); have c2_0 : w2.cell? ⟨w.heap.size, 0, none⟩ = some (.int .i64 D) := (b2.cell (by first | omega | (simp; done) | (simp; omega))).trans (by go_simp); have l2_0 : w.heap.size < w2.heap.size := (by omega); have n2_0 : w.heap.size ≠ w2.heap.size := (by omega); have m2_0 : w2.heap.size ≠ w.heap.size := (by omega); clear b2
      go_wp2_with fail
      exact bodyPost_ret (v := .tuple #[.int .i64 JJ, .int .i64 KK, .int .i64 0]) (by simp [results, Try.results91, go_sem]) rfl ⟨rfl, by (repeat (first | with_reducible exact Below.refl _ _ | ((with_reducible refine Below.setCell ?_ ?_ _); rotate_left; (focus (first | omega | (simp; done) | (simp; omega)))) | ((with_reducible refine Below.alloc ?_ ?_ _); rotate_left; (focus (first | omega | (simp; done) | (simp; omega)))) | (with_reducible refine Below.drew ?_) | (with_reducible refine below_drewN ?_ _) | ((with_reducible refine Below.trans ?_ (Below.mono B2.out ?_)); rotate_left; (focus (first | omega | (simp; done) | (simp; omega))))))⟩
end Go.Proofs.Ytopodhcgfmpphaa
