/-
  Much: copseref10.Much of an argument; small slices made anew.
  FlatX: Walks of copseref15.Same (equal arrays) and copseref15.Of.
  Laws12m: copseref12.Much of an argument that is a slice of trees; what its reading carries.
-/
import Derived.Test.YtjmjnkilgoelbaaKPathE
import Derived.Test.YtjmjnkilgoelbaaJ0b
import Derived.Test.YtjmjnkilgoelbaaJ0a
import Derived.Test.YtjmjnkilgoelbaaJ2a
namespace Go.Proofs.Ytjmjnkilgoelbaa
open Go.RowKit

set_option maxHeartbeats 1000000 in
theorem rmuch_any (v : Value) (t : TreeP) (w : World) (h : ArgTree w v t) :
    Calls Try.prog 73 #[v] w fun e w' => e = .returned (.bool (muchN t.nodes)) ∧ Below w.heap.size w w' := by
  obtain ⟨nv, rfl, ad, cc, rfl, hc1, hc2, h⟩ := h
  have H := Lib.hid h
  have HN := Lib.hid (show muchN t.nodes = (decide (200 < t.nodes.length) || t.nodes.any fun n => decide (20 < n.coef.length)) from rfl)
  clear h
  obtain ⟨M, hM⟩ : ∃ M, muchN t.nodes = M := ⟨_, rfl⟩
  rw [hM] at HN ⊢
  clear hM
  obtain ⟨n, hn⟩ : ∃ n, t.nodes.length = n := ⟨_, rfl⟩
  rw [hn] at HN hc1 ⊢
  have HL := Lib.hid hn
  clear hn
  generalize t.dim = D at *
  have hnb : (n : Int) ≤ 9223372036854775807 := by omega
  by_cases h2 : 200 < n
  · have G := Lib.hid (show M = true by rw [HN.out]; simp [h2])
    have h3 : (200 : Int) < n := by omega
    go_enter Try.func73, Try.ntmps73
    go_wp2_with fail
    go_ret
    exact ⟨by rw [G.out]; rfl, by (repeat (first | with_reducible exact Below.refl _ _ | with_reducible refine Bs ?_ | with_reducible refine Ba ?_ | with_reducible refine Bd ?_ | with_reducible refine Bn ?_))⟩
  · have h3 : (n : Int) ≤ 200 := by omega
    go_enter Try.func73, Try.ntmps73
    go_wp2_with fail
    go_loopw [3] (fun i wr => ∃ k : Nat, i = .int .i64 k ∧ k ≤ n ∧ (∀ j nd, j < k → t.nodes[j]? = some nd → nd.coef.length ≤ 20) ∧ wr = w.alloc (.cells #[.int .i64 D, .slice ad n cc] 106)) (fun i _ => n - (intOf i).toNat)
    case atStart => exact ⟨0, rfl, by omega, fun j nd h => by omega, rfl⟩
    case round =>
      obtain ⟨k, rfl, hk, hall, rfl⟩ := hrel
      have HA := Lib.hid hall
      clear hall
      by_cases hlt : k < n
      · obtain ⟨nd, hnd⟩ := getElem?_ex (l := t.nodes) (k := k) (by rw [HL.out]; exact hlt)
        obtain ⟨b, o, rfl, hb, cv, ⟨a', c', rfl, q1, q2, _⟩, g1, _⟩ := H.out k nd hnd
        have HND := Lib.hid hnd
        have i1 : (0 : Int) ≤ (k : Int) := by omega
        have i2 : (k : Int) < (n : Int) := by omega
        have hbz : b ≠ w.heap.size := by omega
        clear hnd
        obtain ⟨cl, hcl⟩ : ∃ cl, nd.coef.length = cl := ⟨_, rfl⟩
        rw [hcl] at g1 q1
        have HCL := Lib.hid hcl
        clear hcl
        by_cases h4 : 20 < cl
        · have G := Lib.hid (show M = true by
            rw [HN.out, Bool.or_eq_true, List.any_eq_true]
            exact .inr ⟨nd, List.mem_of_getElem? HND.out, by rw [HCL.out]; simp [h4]⟩)
          have h5 : (20 : Int) < cl := by omega
          go_wp2_with fail
          go_ret
          exact ⟨by rw [G.out]; rfl, by (repeat (first | with_reducible exact Below.refl _ _ | with_reducible refine Bs ?_ | with_reducible refine Ba ?_ | with_reducible refine Bd ?_ | with_reducible refine Bn ?_))⟩
        · have h5 : (cl : Int) ≤ 20 := by omega
          go_wp2_with fail
          go_roundw
          case rel =>
            refine ⟨k + 1, by go_num, by omega, fun j nd' hj hnd' => ?_, trivial⟩
            rcases Nat.lt_or_ge j k with h | h
            · exact HA.out j nd' h hnd'
            · obtain rfl : j = k := by omega
              rw [HND.out] at hnd'
              injection hnd' with hnd'
              subst hnd'
              rw [HCL.out]
              omega
          case measure => simp [intOf] <;> omega
      · obtain rfl : k = n := by omega
        have G := Lib.hid (show M = false by
          rw [HN.out, Bool.or_eq_false_iff, List.any_eq_false]
          refine ⟨by simp; omega, fun nd hnd => ?_⟩
          obtain ⟨i, hi⟩ := List.getElem?_of_mem hnd
          have := HA.out i nd (by have := (List.getElem?_eq_some_iff.1 hi).1; have := HL.out; omega) hi
          simp; omega)
        go_wp2_with fail
        go_ret
        exact ⟨by rw [G.out]; rfl, by (repeat (first | with_reducible exact Below.refl _ _ | with_reducible refine Bs ?_ | with_reducible refine Ba ?_ | with_reducible refine Bd ?_ | with_reducible refine Bn ?_))⟩

theorem same_self (va vb : Value) (l : List Int) (w : World) (ha : Ints .i64 w va l) (hb : Ints .i64 w vb l) :
    Calls Try.prog 72 #[va, vb] w fun e w' => e = .returned (.bool true) ∧ ∃ n, w' = w.drewN n := by
  have h := same_any va vb l l w ha hb
  rw [decide_eq_true rfl] at h
  exact h

theorem ints1 (z : Int) (W : World) (T : TypeId) (b : Nat) (hb : b = W.heap.size) : Ints .i64 (W.alloc (.cells #[.int .i64 z] T)) (.slice (some ⟨b, 0, none⟩) 1 1) [z] :=
  Ints.new' .i64 W T #[.int .i64 z] [z] b 1 1 hb rfl rfl (by omega) (by omega)
theorem ints2 (y z : Int) (W : World) (T : TypeId) (b : Nat) (hb : b = W.heap.size) : Ints .i64 (W.alloc (.cells #[.int .i64 y, .int .i64 z] T)) (.slice (some ⟨b, 0, none⟩) 2 2) [y, z] :=
  Ints.new' .i64 W T #[.int .i64 y, .int .i64 z] [y, z] b 2 2 hb rfl rfl (by omega) (by omega)
end Go.Proofs.Ytjmjnkilgoelbaa

namespace Go.Proofs.Ytjmjnkilgoelbaa
open Go.RowKit

set_option maxRecDepth 100000 in
set_option maxHeartbeats 4000000 in
theorem r15same_yes (d : Int) (a1 a2 a3 a4 a5 a6 a7 b1 b2 b3 b4 b5 b6 b7 : Value) (ls : List (List Int)) (hl : ls.length = 7) (w : World)
    (ha : ∀ (j : Nat) (v : Value) (r : List Int), [a1, a2, a3, a4, a5, a6, a7][j]? = some v → ls[j]? = some r → Ints .i64 w v r) (hb : ∀ (j : Nat) (v : Value) (r : List Int), [b1, b2, b3, b4, b5, b6, b7][j]? = some v → ls[j]? = some r → Ints .i64 w v r) :
    Calls Try.prog 63 #[.agg #[.int .i64 d, a1, a2, a3, a4, a5, a6, a7], .agg #[.int .i64 d, b1, b2, b3, b4, b5, b6, b7]] w fun e w' => e = .returned (.bool true) ∧ Below w.heap.size w w' := by
  obtain ⟨l1, l2, l3, l4, l5, l6, l7, rfl⟩ : ∃ v0 v1 v2 v3 v4 v5 v6, ls = [v0, v1, v2, v3, v4, v5, v6] := by
    match ls, hl with
    | [v0, v1, v2, v3, v4, v5, v6], _ => exact ⟨_, _, _, _, _, _, _, rfl⟩
  have H1 := Lib.hid (fun W (hW : Below w.heap.size w W) => same_self a1 b1 l1 W ((ha 0 _ _ rfl rfl).below hW) ((hb 0 _ _ rfl rfl).below hW))
  obtain ⟨x1, k1, rfl⟩ := (ha 0 _ _ rfl rfl).shape
  obtain ⟨y1, m1, rfl⟩ := (hb 0 _ _ rfl rfl).shape
  have H2 := Lib.hid (fun W (hW : Below w.heap.size w W) => same_self a2 b2 l2 W ((ha 1 _ _ rfl rfl).below hW) ((hb 1 _ _ rfl rfl).below hW))
  obtain ⟨x2, k2, rfl⟩ := (ha 1 _ _ rfl rfl).shape
  obtain ⟨y2, m2, rfl⟩ := (hb 1 _ _ rfl rfl).shape
  have H3 := Lib.hid (fun W (hW : Below w.heap.size w W) => same_self a3 b3 l3 W ((ha 2 _ _ rfl rfl).below hW) ((hb 2 _ _ rfl rfl).below hW))
  obtain ⟨x3, k3, rfl⟩ := (ha 2 _ _ rfl rfl).shape
  obtain ⟨y3, m3, rfl⟩ := (hb 2 _ _ rfl rfl).shape
  have H4 := Lib.hid (fun W (hW : Below w.heap.size w W) => same_self a4 b4 l4 W ((ha 3 _ _ rfl rfl).below hW) ((hb 3 _ _ rfl rfl).below hW))
  obtain ⟨x4, k4, rfl⟩ := (ha 3 _ _ rfl rfl).shape
  obtain ⟨y4, m4, rfl⟩ := (hb 3 _ _ rfl rfl).shape
  have H5 := Lib.hid (fun W (hW : Below w.heap.size w W) => same_self a5 b5 l5 W ((ha 4 _ _ rfl rfl).below hW) ((hb 4 _ _ rfl rfl).below hW))
  obtain ⟨x5, k5, rfl⟩ := (ha 4 _ _ rfl rfl).shape
  obtain ⟨y5, m5, rfl⟩ := (hb 4 _ _ rfl rfl).shape
  have H6 := Lib.hid (fun W (hW : Below w.heap.size w W) => same_self a6 b6 l6 W ((ha 5 _ _ rfl rfl).below hW) ((hb 5 _ _ rfl rfl).below hW))
  obtain ⟨x6, k6, rfl⟩ := (ha 5 _ _ rfl rfl).shape
  obtain ⟨y6, m6, rfl⟩ := (hb 5 _ _ rfl rfl).shape
  have H7 := Lib.hid (fun W (hW : Below w.heap.size w W) => same_self a7 b7 l7 W ((ha 6 _ _ rfl rfl).below hW) ((hb 6 _ _ rfl rfl).below hW))
  obtain ⟨x7, k7, rfl⟩ := (ha 6 _ _ rfl rfl).shape
  obtain ⟨y7, m7, rfl⟩ := (hb 6 _ _ rfl rfl).shape
  obtain ⟨n1, hn1⟩ : ∃ n, l1.length = n := ⟨_, rfl⟩
  rw [hn1] at H1 ⊢
  obtain ⟨n2, hn2⟩ : ∃ n, l2.length = n := ⟨_, rfl⟩
  rw [hn2] at H2 ⊢
  obtain ⟨n3, hn3⟩ : ∃ n, l3.length = n := ⟨_, rfl⟩
  rw [hn3] at H3 ⊢
  obtain ⟨n4, hn4⟩ : ∃ n, l4.length = n := ⟨_, rfl⟩
  rw [hn4] at H4 ⊢
  obtain ⟨n5, hn5⟩ : ∃ n, l5.length = n := ⟨_, rfl⟩
  rw [hn5] at H5 ⊢
  obtain ⟨n6, hn6⟩ : ∃ n, l6.length = n := ⟨_, rfl⟩
  rw [hn6] at H6 ⊢
  obtain ⟨n7, hn7⟩ : ∃ n, l7.length = n := ⟨_, rfl⟩
  rw [hn7] at H7 ⊢
  have j : (d == d) = true := by simp
  clear ha hb hl hn1 hn2 hn3 hn4 hn5 hn6 hn7
  go_enter Try.func63, Try.ntmps63
  go_wp2_with fail
  (with_reducible refine (H1.out _ (by (repeat (first | with_reducible exact Below.refl _ _ | with_reducible refine Bs ?_ | with_reducible refine Ba ?_ | with_reducible refine Bd ?_ | with_reducible refine Bn ?_)))).mono ?_)
  rintro e w1 ⟨rfl, d1, rfl⟩
  go_wp2_with fail
  (with_reducible refine (H2.out _ (by (repeat (first | with_reducible exact Below.refl _ _ | with_reducible refine Bs ?_ | with_reducible refine Ba ?_ | with_reducible refine Bd ?_ | with_reducible refine Bn ?_)))).mono ?_)
  rintro e w2 ⟨rfl, d2, rfl⟩
  go_wp2_with fail
  (with_reducible refine (H3.out _ (by (repeat (first | with_reducible exact Below.refl _ _ | with_reducible refine Bs ?_ | with_reducible refine Ba ?_ | with_reducible refine Bd ?_ | with_reducible refine Bn ?_)))).mono ?_)
  rintro e w3 ⟨rfl, d3, rfl⟩
  go_wp2_with fail
  (with_reducible refine (H4.out _ (by (repeat (first | with_reducible exact Below.refl _ _ | with_reducible refine Bs ?_ | with_reducible refine Ba ?_ | with_reducible refine Bd ?_ | with_reducible refine Bn ?_)))).mono ?_)
  rintro e w4 ⟨rfl, d4, rfl⟩
  go_wp2_with fail
  (with_reducible refine (H5.out _ (by (repeat (first | with_reducible exact Below.refl _ _ | with_reducible refine Bs ?_ | with_reducible refine Ba ?_ | with_reducible refine Bd ?_ | with_reducible refine Bn ?_)))).mono ?_)
  rintro e w5 ⟨rfl, d5, rfl⟩
  go_wp2_with fail
  (with_reducible refine (H6.out _ (by (repeat (first | with_reducible exact Below.refl _ _ | with_reducible refine Bs ?_ | with_reducible refine Ba ?_ | with_reducible refine Bd ?_ | with_reducible refine Bn ?_)))).mono ?_)
  rintro e w6 ⟨rfl, d6, rfl⟩
  go_wp2_with fail
  (with_reducible refine (H7.out _ (by (repeat (first | with_reducible exact Below.refl _ _ | with_reducible refine Bs ?_ | with_reducible refine Ba ?_ | with_reducible refine Bd ?_ | with_reducible refine Bn ?_)))).mono ?_)
  rintro e w7 ⟨rfl, d7, rfl⟩
  go_wp2_with fail
  go_ret
  exact ⟨by first | rfl | trivial, by (repeat (first | with_reducible exact Below.refl _ _ | with_reducible refine Bs ?_ | with_reducible refine Ba ?_ | with_reducible refine Bd ?_ | with_reducible refine Bn ?_))⟩

noncomputable def ofR (l : List TreeP) : Int := if 16 < l.length then 3 else if allT l = false then 100 else 0

set_option maxRecDepth 100000 in
theorem r15of_any (v : Value) (l : List TreeP) (w : World) (h : TreesR w v l) :
    Calls Try.prog 61 #[v] w fun e w' => e = .returned (.int .i64 (ofR l)) ∧ Below w.heap.size w w' := by
  have HA := Lib.hid (fun W (hW : Below w.heap.size w W) => rall_any v l W (h.below hW))
  obtain ⟨ad, cc, rfl, _⟩ := h
  obtain ⟨n, hn⟩ : ∃ n, l.length = n := ⟨_, rfl⟩
  unfold ofR
  have HN := Lib.hid hn
  rw [hn] at HA ⊢
  by_cases h16 : 16 < n
  · rw [if_pos h16]
    have h1 : (16 : Int) < n := by omega
    clear hn
    go_enter Try.func61, Try.ntmps61
    go_wp2_with fail
    go_ret
    exact ⟨rfl, by (repeat (first | with_reducible exact Below.refl _ _ | with_reducible refine Bs ?_ | with_reducible refine Ba ?_ | with_reducible refine Bd ?_ | with_reducible refine Bn ?_))⟩
  · rw [if_neg h16]
    have h1 : ¬ (16 : Int) < n := by omega
    rcases Nat.eq_zero_or_pos n with h0 | h0
    · subst h0
      have e : allT l = true := by rw [List.eq_nil_of_length_eq_zero hn]; rfl
      rw [if_neg (by simp [e])]
      clear hn e
      go_enter Try.func61, Try.ntmps61
      go_wp2_with fail
      go_ret
      exact ⟨rfl, by (repeat (first | with_reducible exact Below.refl _ _ | with_reducible refine Bs ?_ | with_reducible refine Ba ?_ | with_reducible refine Bd ?_ | with_reducible refine Bn ?_))⟩
    · have h2 : (0 : Int) < n := by omega
      rw [decide_eq_true h0, Bool.true_and] at HA
      obtain ⟨A, hA⟩ : ∃ A, allT l = A := ⟨_, rfl⟩
      rw [hA] at HA ⊢
      clear hn hA
      cases A with
      | true =>
        rw [if_neg (by simp)]
        go_enter Try.func61, Try.ntmps61
        go_wp2_with fail
        (with_reducible refine (HA.out _ (by (repeat (first | with_reducible exact Below.refl _ _ | with_reducible refine Bs ?_ | with_reducible refine Ba ?_ | with_reducible refine Bd ?_ | with_reducible refine Bn ?_)))).mono ?_)
        rintro e w1 ⟨rfl, b1⟩
        have B1 := Lib.hid b1
        clear b1
        go_wp2_with fail
        go_ret
        exact ⟨rfl, by (repeat (first | with_reducible exact Below.refl _ _ | with_reducible refine Bs ?_ | with_reducible refine Ba ?_ | with_reducible refine Bd ?_ | with_reducible refine Bn ?_ | with_reducible refine Bt B1.out ?_))⟩
      | false =>
        rw [if_pos rfl]
        go_enter Try.func61, Try.ntmps61
        go_wp2_with fail
        (with_reducible refine (HA.out _ (by (repeat (first | with_reducible exact Below.refl _ _ | with_reducible refine Bs ?_ | with_reducible refine Ba ?_ | with_reducible refine Bd ?_ | with_reducible refine Bn ?_)))).mono ?_)
        rintro e w1 ⟨rfl, b1⟩
        have B1 := Lib.hid b1
        clear b1
        go_wp2_with fail
        go_ret
        exact ⟨rfl, by (repeat (first | with_reducible exact Below.refl _ _ | with_reducible refine Bs ?_ | with_reducible refine Ba ?_ | with_reducible refine Bd ?_ | with_reducible refine Bn ?_ | with_reducible refine Bt B1.out ?_))⟩
end Go.Proofs.Ytjmjnkilgoelbaa

namespace Go.Proofs.Ytjmjnkilgoelbaa
open Go.RowKit

theorem ArgInts.below' {w w' : World} {v : Value} {l : List Int} (h : ArgInts .i64 w v l) (B : Below w.heap.size w w') : ArgInts .i64 w' v l := by
  obtain ⟨a, c, e, h1, h2, h3, h4⟩ := h
  refine ⟨a, c, e, h1, h2, fun i x hi => ?_, h4⟩
  obtain ⟨b, o, e, hb, hc⟩ := h3 i x hi
  exact ⟨b, o, e, Nat.lt_of_lt_of_le hb B.size, (B.cell (p := ⟨b, o + i, none⟩) hb).trans hc⟩

theorem ArgNodes.below {w w' : World} {v : Value} {l : List NodeP} (h : ArgNodes w v l) (B : Below w.heap.size w w') : ArgNodes w' v l := by
  obtain ⟨a, c, e, h1, h2, h⟩ := h
  refine ⟨a, c, e, h1, h2, fun i n hi => ?_⟩
  obtain ⟨b, o, e, hb, cv, g0, k1, k2, k3, k4, k5⟩ := h i n hi
  exact ⟨b, o, e, Nat.lt_of_lt_of_le hb B.size, cv, g0.below' B, (B.cell (p := ⟨b, _, none⟩) hb).trans k1, (B.cell (p := ⟨b, _, none⟩) hb).trans k2, (B.cell (p := ⟨b, _, none⟩) hb).trans k3, (B.cell (p := ⟨b, _, none⟩) hb).trans k4, (B.cell (p := ⟨b, _, none⟩) hb).trans k5⟩

theorem ArgTree.below {w w' : World} {v : Value} {t : TreeP} (h : ArgTree w v t) (B : Below w.heap.size w w') : ArgTree w' v t := by
  obtain ⟨nv, e, h⟩ := h
  exact ⟨nv, e, h.below B⟩

theorem ArgTrees.below {w w' : World} {v : Value} {l : List TreeP} (h : ArgTrees w v l) (B : Below w.heap.size w w') : ArgTrees w' v l := by
  obtain ⟨a, c, e, h1, h2, h⟩ := h
  refine ⟨a, c, e, h1, h2, fun i t hi => ?_⟩
  obtain ⟨b, o, nv, e, hb, c0, c1, hn⟩ := h i t hi
  exact ⟨b, o, nv, e, Nat.lt_of_lt_of_le hb B.size, (B.cell (p := ⟨b, _, none⟩) hb).trans c0, (B.cell (p := ⟨b, _, none⟩) hb).trans c1, hn.below B⟩

def muchT (l : List TreeP) : Bool := decide (30 < l.length) || l.any fun t => muchN t.nodes

theorem ArgTrees.trees {w : World} {v : Value} {l : List TreeP} (h : ArgTrees w v l) (hm : muchT l = false) : TreesR w v l := by
  obtain ⟨a, c, e, h1, h2, h⟩ := h
  unfold muchT at hm
  rw [Bool.or_eq_false_iff, decide_eq_false_iff_not, List.any_eq_false] at hm
  refine ⟨a, c, e, h1, h2, by omega, fun i t hi => ?_⟩
  obtain ⟨b, o, nv, e, hb, c0, c1, hn⟩ := h i t hi
  exact ⟨b, o, nv, e, hb, c0, c1, hn.nodes (by simpa using hm.2 t (List.mem_of_getElem? hi))⟩

set_option maxHeartbeats 1000000 in
theorem rmuch12_any (v : Value) (l : List TreeP) (w : World) (h : ArgTrees w v l) :
    Calls Try.prog 58 #[v] w fun e w' => e = .returned (.bool (muchT l)) ∧ Below w.heap.size w w' := by
  obtain ⟨ad, cc, rfl, hc1, hc2, h⟩ := h
  have H := Lib.hid h
  clear h
  have HN := Lib.hid (show muchT l = (decide (30 < l.length) || l.any fun t => muchN t.nodes) from rfl)
  obtain ⟨M, hM⟩ : ∃ M, muchT l = M := ⟨_, rfl⟩
  rw [hM] at HN ⊢
  clear hM
  obtain ⟨n, hn⟩ : ∃ n, l.length = n := ⟨_, rfl⟩
  rw [hn] at HN hc1 ⊢
  have HL := Lib.hid hn
  clear hn
  have hnb : (n : Int) ≤ 9223372036854775807 := by omega
  by_cases h2 : 30 < n
  · have G := Lib.hid (show M = true by rw [HN.out]; simp [h2])
    have h3 : (30 : Int) < n := by omega
    go_enter Try.func58, Try.ntmps58
    go_wp2_with fail
    go_ret
    exact ⟨by rw [G.out]; rfl, by (repeat (first | with_reducible exact Below.refl _ _ | with_reducible refine Bs ?_ | with_reducible refine Ba ?_ | with_reducible refine Bd ?_ | with_reducible refine Bn ?_))⟩
  · have h3 : (n : Int) ≤ 30 := by omega
    go_enter Try.func58, Try.ntmps58
    go_wp2_with fail
    go_loopw [3] (fun i wr => ∃ k : Nat, i = .int .i64 k ∧ k ≤ n ∧ (∀ j t, j < k → l[j]? = some t → muchN t.nodes = false) ∧ Below w.heap.size w wr) (fun i _ => n - (intOf i).toNat)
    case atStart => exact ⟨0, rfl, by omega, fun j nd h => by omega, Below.refl _ _⟩
    case round =>
      obtain ⟨k, rfl, hk, hall, hbr⟩ := hrel
      have HA := Lib.hid hall
      have HBR := Lib.hid hbr
      have hsz := hbr.size
      clear hall
      by_cases hlt : k < n
      · obtain ⟨t, ht⟩ := getElem?_ex (l := l) (k := k) (by rw [HL.out]; exact hlt)
        obtain ⟨b, o, nv, rfl, hb, c0, c1, hnv⟩ := H.out k t ht
        have e0 := (hbr.cell (p := ⟨b, o + k * 2, none⟩) hb).trans c0
        have e1 := (hbr.cell (p := ⟨b, o + k * 2 + 1, none⟩) hb).trans c1
        have HT := Lib.hid (show ArgTree w (.agg #[.int .i64 t.dim, nv]) t from ⟨nv, rfl, hnv⟩)
        obtain ⟨na, nc, rfl, _⟩ := hnv
        have HK := Lib.hid ht
        have i1 : (0 : Int) ≤ (k : Int) := by omega
        have i2 : (k : Int) < (n : Int) := by omega
        clear ht c0 c1 hbr
        obtain ⟨TB, hTB⟩ : ∃ TB, muchN t.nodes = TB := ⟨_, rfl⟩
        have HTI := Lib.hid (fun W (hW : ArgTree W (.agg #[.int .i64 t.dim, .slice na t.nodes.length nc]) t) => hTB ▸ rmuch_any _ t W hW)
        have HTB := Lib.hid hTB
        clear hTB
        generalize t.nodes.length = tn at *
        generalize t.dim = d at *
        cases TB with
        | true =>
          have G := Lib.hid (show M = true by
            rw [HN.out, Bool.or_eq_true, List.any_eq_true]
            exact .inr ⟨t, List.mem_of_getElem? HK.out, HTB.out⟩)
          go_wp2_with fail
          (with_reducible refine (HTI.out _ (HT.out.below HBR.out)).mono ?_)
          rintro e w4 ⟨rfl, b4⟩
          have B4 := Lib.hid b4
          clear b4
          go_wp2_with fail
          go_ret
          exact ⟨by rw [G.out]; rfl, by (repeat (first | with_reducible exact Below.refl _ _ | with_reducible refine Bs ?_ | with_reducible refine Ba ?_ | with_reducible refine Bd ?_ | with_reducible refine Bn ?_ | with_reducible refine Bt B4.out ?_ | with_reducible refine Bt HBR.out ?_))⟩
        | false =>
          go_wp2_with fail
          (with_reducible refine (HTI.out _ (HT.out.below HBR.out)).mono ?_)
          rintro e w4 ⟨rfl, b4⟩
          have B4 := Lib.hid b4
          clear b4
          go_wp2_with fail
          go_roundw
          case rel =>
            refine ⟨k + 1, by go_num, by omega, fun j t' hj ht' => ?_, by (repeat (first | with_reducible exact Below.refl _ _ | with_reducible refine Bs ?_ | with_reducible refine Ba ?_ | with_reducible refine Bd ?_ | with_reducible refine Bn ?_ | with_reducible refine Bt B4.out ?_ | with_reducible refine Bt HBR.out ?_))⟩
            rcases Nat.lt_or_ge j k with h | h
            · exact HA.out j t' h ht'
            · obtain rfl : j = k := by omega
              rw [HK.out] at ht'
              injection ht' with ht'
              subst ht'
              exact HTB.out
          case measure => simp [intOf] <;> omega
      · obtain rfl : k = n := by omega
        have G := Lib.hid (show M = false by
          rw [HN.out, Bool.or_eq_false_iff, List.any_eq_false]
          refine ⟨by simp; omega, fun t ht => ?_⟩
          obtain ⟨i, hi⟩ := List.getElem?_of_mem ht
          have := HA.out i t (by have := (List.getElem?_eq_some_iff.1 hi).1; have := HL.out; omega) hi
          simp [this])
        go_wp2_with fail
        go_ret
        exact ⟨by rw [G.out]; rfl, HBR.out⟩

theorem eiTree : EI Try.prog 106 (.agg #[.int .i64 0, .slice none 0 0]) 2 32 := .of (by kernel_rfl) rfl (by decide) (by decide)
end Go.Proofs.Ytjmjnkilgoelbaa
