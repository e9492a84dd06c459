/-
  Much: copseref10.Much of an argument; small slices made anew.
  Laws12m: copseref12.Much of an argument that is a slice of trees; what its reading carries.
  TreeS: Plain laws of sums over trees: in whichever order they stand; a row of trees of the call's own.
  ForM: How grown trees lie in memory; a row of such of the call's own; plain of layer 14.
  ForB: Rows of nodes: their values, one set; append of a slice to a row of the call's own; what stands while a tree is copied.
  ItemQ: Plain laws of layer 22: which ask any bytes are.
  ArgGrown: Arguments that are slices of api.Grown: how they read.
-/
import Derived.Test.YtgobbecpnjelmaaGreatKPathE
import Derived.Test.YtgobbecpnjelmaaGreatJ0d
import Derived.Test.YtgobbecpnjelmaaGreatJ0a
import Derived.Test.YtgobbecpnjelmaaGreatJ0b
import Derived.Test.YtgobbecpnjelmaaGreatJ1a
import Derived.Test.YtgobbecpnjelmaaGreatKItemF
namespace Go.Proofs.YtgobbecpnjelmaaGreat
open Go.RowKit

set_option maxHeartbeats 1000000 in
theorem rmuch_any (v : Value) (t : TreeP) (w : World) (h : ArgTree w v t) :
    Calls Tryz.prog 111 #[v] w fun e w' => e = .returned (.bool (muchN t.nodes)) ∧ Below w.heap.size w w' := by
  obtain ⟨nv, rfl, ad, cc, rfl, hc1, hc2, h⟩ := h
  have H := Lib.hid h
  have HN := Lib.hid (show muchN t.nodes = (decide (200 < t.nodes.length) || t.nodes.any fun n => decide (20 < n.coef.length)) from rfl)
  clear h
  obtain ⟨M, hM⟩ : ∃ M, muchN t.nodes = M := ⟨_, rfl⟩
  rw [hM] at HN ⊢
  clear hM
  obtain ⟨n, hn⟩ : ∃ n, t.nodes.length = n := ⟨_, rfl⟩
  rw [hn] at HN hc1 ⊢
  have HL := Lib.hid hn
  clear hn
  generalize t.dim = D at *
  have hnb : (n : Int) ≤ 9223372036854775807 := by omega
  by_cases h2 : 200 < n
  · have G := Lib.hid (show M = true by rw [HN.out]; simp [h2])
    have h3 : (200 : Int) < n := by omega
    go_enter Tryz.func111, Tryz.ntmps111
    go_wp2_with fail
    go_ret
    exact ⟨by rw [G.out]; rfl, bw⟩
  · have h3 : (n : Int) ≤ 200 := by omega
    go_enter Tryz.func111, Tryz.ntmps111
    go_wp2_with fail
    go_loopw [3] (fun i wr => ∃ k : Nat, i = .int .i64 k ∧ k ≤ n ∧ (∀ j nd, j < k → t.nodes[j]? = some nd → nd.coef.length ≤ 20) ∧ wr = w.alloc (.cells #[.int .i64 D, .slice ad n cc] 106)) (fun i _ => n - (intOf i).toNat)
    case atStart => exact ⟨0, rfl, by omega, fun j nd h => by omega, rfl⟩
    case round =>
      obtain ⟨k, rfl, hk, hall, rfl⟩ := hrel
      have HA := Lib.hid hall
      clear hall
      by_cases hlt : k < n
      · obtain ⟨nd, hnd⟩ := getElem?_ex (l := t.nodes) (k := k) (by rw [HL.out]; exact hlt)
        obtain ⟨b, o, rfl, hb, cv, ⟨a', c', rfl, q1, q2, _⟩, g1, _⟩ := H.out k nd hnd
        have HND := Lib.hid hnd
        have i1 : (0 : Int) ≤ (k : Int) := by omega
        have i2 : (k : Int) < (n : Int) := by omega
        have hbz : b ≠ w.heap.size := by omega
        clear hnd
        obtain ⟨cl, hcl⟩ : ∃ cl, nd.coef.length = cl := ⟨_, rfl⟩
        rw [hcl] at g1 q1
        have HCL := Lib.hid hcl
        clear hcl
        by_cases h4 : 20 < cl
        · have G := Lib.hid (show M = true by
            rw [HN.out, Bool.or_eq_true, List.any_eq_true]
            exact .inr ⟨nd, List.mem_of_getElem? HND.out, by rw [HCL.out]; simp [h4]⟩)
          have h5 : (20 : Int) < cl := by omega
          go_wp2_with fail
          go_ret
          exact ⟨by rw [G.out]; rfl, bw⟩
        · have h5 : (cl : Int) ≤ 20 := by omega
          go_wp2_with fail
          go_roundw
          case rel =>
            refine ⟨k + 1, by go_num, by omega, fun j nd' hj hnd' => ?_, trivial⟩
            rcases Nat.lt_or_ge j k with h | h
            · exact HA.out j nd' h hnd'
            · obtain rfl : j = k := by omega
              rw [HND.out] at hnd'
              injection hnd' with hnd'
              subst hnd'
              rw [HCL.out]
              omega
          case measure => simp [intOf] <;> omega
      · obtain rfl : k = n := by omega
        have G := Lib.hid (show M = false by
          rw [HN.out, Bool.or_eq_false_iff, List.any_eq_false]
          refine ⟨by simp; omega, fun nd hnd => ?_⟩
          obtain ⟨i, hi⟩ := List.getElem?_of_mem hnd
          have := HA.out i nd (by have := (List.getElem?_eq_some_iff.1 hi).1; have := HL.out; omega) hi
          simp; omega)
        go_wp2_with fail
        go_ret
        exact ⟨by rw [G.out]; rfl, bw⟩

end Go.Proofs.YtgobbecpnjelmaaGreat

namespace Go.Proofs.YtgobbecpnjelmaaGreat
open Go.RowKit

theorem ArgInts.below' {w w' : World} {v : Value} {l : List Int} (h : ArgInts .i64 w v l) (B : Below w.heap.size w w') : ArgInts .i64 w' v l := by
  obtain ⟨a, c, e, h1, h2, h3, h4⟩ := h
  refine ⟨a, c, e, h1, h2, fun i x hi => ?_, h4⟩
  obtain ⟨b, o, e, hb, hc⟩ := h3 i x hi
  exact ⟨b, o, e, Nat.lt_of_lt_of_le hb B.size, (B.cell (p := ⟨b, o + i, none⟩) hb).trans hc⟩

theorem ArgNodes.below {w w' : World} {v : Value} {l : List NodeP} (h : ArgNodes w v l) (B : Below w.heap.size w w') : ArgNodes w' v l := by
  obtain ⟨a, c, e, h1, h2, h⟩ := h
  refine ⟨a, c, e, h1, h2, fun i n hi => ?_⟩
  obtain ⟨b, o, e, hb, cv, g0, k1, k2, k3, k4, k5⟩ := h i n hi
  exact ⟨b, o, e, Nat.lt_of_lt_of_le hb B.size, cv, g0.below' B, (B.cell (p := ⟨b, _, none⟩) hb).trans k1, (B.cell (p := ⟨b, _, none⟩) hb).trans k2, (B.cell (p := ⟨b, _, none⟩) hb).trans k3, (B.cell (p := ⟨b, _, none⟩) hb).trans k4, (B.cell (p := ⟨b, _, none⟩) hb).trans k5⟩

theorem ArgTree.below {w w' : World} {v : Value} {t : TreeP} (h : ArgTree w v t) (B : Below w.heap.size w w') : ArgTree w' v t := by
  obtain ⟨nv, e, h⟩ := h
  exact ⟨nv, e, h.below B⟩

theorem ArgTrees.below {w w' : World} {v : Value} {l : List TreeP} (h : ArgTrees w v l) (B : Below w.heap.size w w') : ArgTrees w' v l := by
  obtain ⟨a, c, e, h1, h2, h⟩ := h
  refine ⟨a, c, e, h1, h2, fun i t hi => ?_⟩
  obtain ⟨b, o, nv, e, hb, c0, c1, hn⟩ := h i t hi
  exact ⟨b, o, nv, e, Nat.lt_of_lt_of_le hb B.size, (B.cell (p := ⟨b, _, none⟩) hb).trans c0, (B.cell (p := ⟨b, _, none⟩) hb).trans c1, hn.below B⟩

def muchT (l : List TreeP) : Bool := decide (30 < l.length) || l.any fun t => muchN t.nodes

theorem ArgTrees.trees {w : World} {v : Value} {l : List TreeP} (h : ArgTrees w v l) (hm : muchT l = false) : TreesR w v l := by
  obtain ⟨a, c, e, h1, h2, h⟩ := h
  unfold muchT at hm
  rw [Bool.or_eq_false_iff, decide_eq_false_iff_not, List.any_eq_false] at hm
  refine ⟨a, c, e, h1, h2, by omega, fun i t hi => ?_⟩
  obtain ⟨b, o, nv, e, hb, c0, c1, hn⟩ := h i t hi
  exact ⟨b, o, nv, e, hb, c0, c1, hn.nodes (by simpa using hm.2 t (List.mem_of_getElem? hi))⟩

set_option maxHeartbeats 1000000 in
theorem rmuch12_any (v : Value) (l : List TreeP) (w : World) (h : ArgTrees w v l) :
    Calls Tryz.prog 67 #[v] w fun e w' => e = .returned (.bool (muchT l)) ∧ Below w.heap.size w w' := by
  obtain ⟨ad, cc, rfl, hc1, hc2, h⟩ := h
  have H := Lib.hid h
  clear h
  have HN := Lib.hid (show muchT l = (decide (30 < l.length) || l.any fun t => muchN t.nodes) from rfl)
  obtain ⟨M, hM⟩ : ∃ M, muchT l = M := ⟨_, rfl⟩
  rw [hM] at HN ⊢
  clear hM
  obtain ⟨n, hn⟩ : ∃ n, l.length = n := ⟨_, rfl⟩
  rw [hn] at HN hc1 ⊢
  have HL := Lib.hid hn
  clear hn
  have hnb : (n : Int) ≤ 9223372036854775807 := by omega
  by_cases h2 : 30 < n
  · have G := Lib.hid (show M = true by rw [HN.out]; simp [h2])
    have h3 : (30 : Int) < n := by omega
    go_enter Tryz.func67, Tryz.ntmps67
    go_wp2_with fail
    go_ret
    exact ⟨by rw [G.out]; rfl, bw⟩
  · have h3 : (n : Int) ≤ 30 := by omega
    go_enter Tryz.func67, Tryz.ntmps67
    go_wp2_with fail
    go_loopw [3] (fun i wr => ∃ k : Nat, i = .int .i64 k ∧ k ≤ n ∧ (∀ j t, j < k → l[j]? = some t → muchN t.nodes = false) ∧ Below w.heap.size w wr) (fun i _ => n - (intOf i).toNat)
    case atStart => exact ⟨0, rfl, by omega, fun j nd h => by omega, Below.refl _ _⟩
    case round =>
      obtain ⟨k, rfl, hk, hall, hbr⟩ := hrel
      have HA := Lib.hid hall
      have HBR := Lib.hid hbr
      have hsz := hbr.size
      clear hall
      by_cases hlt : k < n
      · obtain ⟨t, ht⟩ := getElem?_ex (l := l) (k := k) (by rw [HL.out]; exact hlt)
        obtain ⟨b, o, nv, rfl, hb, c0, c1, hnv⟩ := H.out k t ht
        have e0 := (hbr.cell (p := ⟨b, o + k * 2, none⟩) hb).trans c0
        have e1 := (hbr.cell (p := ⟨b, o + k * 2 + 1, none⟩) hb).trans c1
        have HT := Lib.hid (show ArgTree w (.agg #[.int .i64 t.dim, nv]) t from ⟨nv, rfl, hnv⟩)
        obtain ⟨na, nc, rfl, _⟩ := hnv
        have HK := Lib.hid ht
        have i1 : (0 : Int) ≤ (k : Int) := by omega
        have i2 : (k : Int) < (n : Int) := by omega
        clear ht c0 c1 hbr
        obtain ⟨TB, hTB⟩ : ∃ TB, muchN t.nodes = TB := ⟨_, rfl⟩
        have HTI := Lib.hid (fun W (hW : ArgTree W (.agg #[.int .i64 t.dim, .slice na t.nodes.length nc]) t) => hTB ▸ rmuch_any _ t W hW)
        have HTB := Lib.hid hTB
        clear hTB
        generalize t.nodes.length = tn at *
        generalize t.dim = d at *
        cases TB with
        | true =>
          have G := Lib.hid (show M = true by
            rw [HN.out, Bool.or_eq_true, List.any_eq_true]
            exact .inr ⟨t, List.mem_of_getElem? HK.out, HTB.out⟩)
          go_wp2_with fail
          (with_reducible refine (HTI.out _ (HT.out.below HBR.out)).mono ?_)
          rintro e w4 ⟨rfl, b4⟩
          have B4 := Lib.hid b4
          clear b4
          go_wp2_with fail
          go_ret
          exact ⟨by rw [G.out]; rfl, by (repeat (first | with_reducible exact Below.refl _ _ | with_reducible refine Bs ?_ | with_reducible refine Ba ?_ | with_reducible refine Bd ?_ | with_reducible refine Bn ?_ | with_reducible refine Bt B4.out ?_ | with_reducible refine Bt HBR.out ?_))⟩
        | false =>
          go_wp2_with fail
          (with_reducible refine (HTI.out _ (HT.out.below HBR.out)).mono ?_)
          rintro e w4 ⟨rfl, b4⟩
          have B4 := Lib.hid b4
          clear b4
          go_wp2_with fail
          go_roundw
          case rel =>
            refine ⟨k + 1, by go_num, by omega, fun j t' hj ht' => ?_, by (repeat (first | with_reducible exact Below.refl _ _ | with_reducible refine Bs ?_ | with_reducible refine Ba ?_ | with_reducible refine Bd ?_ | with_reducible refine Bn ?_ | with_reducible refine Bt B4.out ?_ | with_reducible refine Bt HBR.out ?_))⟩
            rcases Nat.lt_or_ge j k with h | h
            · exact HA.out j t' h ht'
            · obtain rfl : j = k := by omega
              rw [HK.out] at ht'
              injection ht' with ht'
              subst ht'
              exact HTB.out
          case measure => simp [intOf] <;> omega
      · obtain rfl : k = n := by omega
        have G := Lib.hid (show M = false by
          rw [HN.out, Bool.or_eq_false_iff, List.any_eq_false]
          refine ⟨by simp; omega, fun t ht => ?_⟩
          obtain ⟨i, hi⟩ := List.getElem?_of_mem ht
          have := HA.out i t (by have := (List.getElem?_eq_some_iff.1 hi).1; have := HL.out; omega) hi
          simp [this])
        go_wp2_with fail
        go_ret
        exact ⟨by rw [G.out]; rfl, HBR.out⟩

theorem eiTree : EI Tryz.prog 106 (.agg #[.int .i64 0, .slice none 0 0]) 2 32 := .of (by kernel_rfl) rfl (by decide) (by decide)
end Go.Proofs.YtgobbecpnjelmaaGreat

namespace Go.Proofs.YtgobbecpnjelmaaGreat
open Go.RowKit

def rowF (p : TreeP × Value) : List Value := [.int .i64 p.1.dim, p.2]

theorem rowF_at : ∀ (ps : List (TreeP × Value)) (i : Nat) (p : TreeP × Value), ps[i]? = some p → (ps.flatMap rowF)[i * 2]? = some (.int .i64 p.1.dim) ∧ (ps.flatMap rowF)[i * 2 + 1]? = some p.2
  | [], i, p, h => by simp at h
  | q :: ps, 0, p, h => by
    obtain rfl : q = p := by simpa using h
    exact ⟨rfl, rfl⟩
  | q :: ps, i + 1, p, h => by
    have := rowF_at ps i p (by simpa using h)
    rw [List.flatMap_cons]
    have e1 : (i + 1) * 2 = i * 2 + 1 + 1 := by omega
    rw [e1]
    exact this

theorem own_trees {w : World} {base e n : Nat} {v : Value} {ps : List (TreeP × Value)} (h : w.ownsRow base e 2 v n (ps.flatMap rowF)) (hn : n = ps.length) (hs : n ≤ 1000)
    (hp : ∀ p ∈ ps, NodesR w p.2 p.1.nodes) : TreesR w v (ps.map (·.1)) := by
  subst hn
  rcases h.2 with ⟨rfl, h0⟩ | ⟨g, cap, cur, rfl, hb, hg, h1, h2, h3, h4⟩
  · have : ps = [] := List.eq_nil_of_length_eq_zero h0
    subst this
    exact ⟨none, 0, rfl, by simp, by omega, by simp, fun i x hi => by simp at hi⟩
  · refine ⟨some ⟨g, 0, none⟩, cap, by rw [List.length_map], by rw [List.length_map]; exact h1, by simpa [maxLen] using h2, by rw [List.length_map]; omega, fun i t hi => ?_⟩
    rw [List.getElem?_map] at hi
    cases hpi : ps[i]? with
    | none => rw [hpi] at hi; cases hi
    | some p =>
      rw [hpi] at hi
      obtain rfl : p.1 = t := by simpa using hi
      have hlt : i < ps.length := (List.getElem?_eq_some_iff.1 hpi).1
      obtain ⟨r0, r1⟩ := rowF_at ps i p hpi
      have c0 := (h.cellAt (i * 2) (by omega)).trans r0
      have c1 := (h.cellAt (i * 2 + 1) (by omega)).trans r1
      exact ⟨g, 0, p.2, rfl, (Array.getElem?_eq_some_iff.1 hg).1, by rw [Nat.zero_add]; exact c0, by rw [Nat.zero_add]; exact c1, hp p (List.mem_of_getElem? hpi)⟩
end Go.Proofs.YtgobbecpnjelmaaGreat

namespace Go.Proofs.YtgobbecpnjelmaaGreat
open Go.RowKit

/-- v is a slice of trees and when they were grown. -/
def GrownsR (w : World) (v : Value) (l : List (TreeP × Int)) : Prop :=
  ∃ a c, v = .slice a l.length c ∧ l.length ≤ c ∧ c ≤ 9223372036854775807 ∧ l.length ≤ 140737488351232 ∧
    ∀ (i : Nat) (p : TreeP × Int), l[i]? = some p → ∃ b o nv, a = some ⟨b, o, none⟩ ∧ b < w.heap.size ∧ w.cell? ⟨b, o + i * 3, none⟩ = some (.int .i64 p.1.dim) ∧ w.cell? ⟨b, o + i * 3 + 1, none⟩ = some nv ∧ w.cell? ⟨b, o + i * 3 + 2, none⟩ = some (.int .i64 p.2) ∧ Ok64 p.2 ∧ NodesR w nv p.1.nodes

theorem GrownsR.below {w w' : World} {v : Value} {l : List (TreeP × Int)} (h : GrownsR w v l) (B : Below w.heap.size w w') : GrownsR w' v l := by
  obtain ⟨a, c, e, h1, h2, h3, h⟩ := h
  refine ⟨a, c, e, h1, h2, h3, fun i p hi => ?_⟩
  obtain ⟨b, o, nv, e, hb, c0, c1, c2, hw, hn⟩ := h i p hi
  exact ⟨b, o, nv, e, Nat.lt_of_lt_of_le hb B.size, (B.cell (p := ⟨b, _, none⟩) hb).trans c0, (B.cell (p := ⟨b, _, none⟩) hb).trans c1, (B.cell (p := ⟨b, _, none⟩) hb).trans c2, hw, hn.below B⟩

theorem GrownsR.shape {w : World} {v : Value} {l : List (TreeP × Int)} (h : GrownsR w v l) : ∃ a c, v = .slice a l.length c := by
  obtain ⟨a, c, e, _⟩ := h
  exact ⟨a, c, e⟩

/-- v is a tree and when it was grown. -/
def GrownV (w : World) (v : Value) (g : TreeP × Int) : Prop := ∃ nv, v = .agg #[.int .i64 g.1.dim, nv, .int .i64 g.2] ∧ Ok64 g.2 ∧ NodesR w nv g.1.nodes

theorem GrownV.below {w w' : World} {v : Value} {g : TreeP × Int} (h : GrownV w v g) (B : Below w.heap.size w w') : GrownV w' v g := by
  obtain ⟨nv, e, h1, h2⟩ := h
  exact ⟨nv, e, h1, h2.below B⟩

/-- A row of grown trees with the values of their nodes. -/
abbrev GrV := (TreeP × Int) × Value

/-- The nodes' values of a slice of grown trees. -/
theorem growns_vals {w : World} {v : Value} {l : List (TreeP × Int)} (h : GrownsR w v l) : ∃ ps : List GrV, ps.map (·.1) = l ∧ (∀ p ∈ ps, Ok64 p.1.2 ∧ NodesR w p.2 p.1.1.nodes) ∧ ∃ a c, v = .slice a l.length c ∧
    ∀ (i : Nat) (p : GrV), ps[i]? = some p → ∃ b o, a = some ⟨b, o, none⟩ ∧ b < w.heap.size ∧ w.cell? ⟨b, o + i * 3, none⟩ = some (.int .i64 p.1.1.dim) ∧ w.cell? ⟨b, o + i * 3 + 1, none⟩ = some p.2 ∧ w.cell? ⟨b, o + i * 3 + 2, none⟩ = some (.int .i64 p.1.2) := by
  obtain ⟨a, c, e, _, _, _, h⟩ := h
  obtain ⟨V, hV1, hV2⟩ := list_of_ex (m := l.length) (P := fun i (nv : Value) => ∀ t, l[i]? = some t → ∃ b o, a = some ⟨b, o, none⟩ ∧ b < w.heap.size ∧ w.cell? ⟨b, o + i * 3, none⟩ = some (.int .i64 t.1.dim) ∧ w.cell? ⟨b, o + i * 3 + 1, none⟩ = some nv ∧ w.cell? ⟨b, o + i * 3 + 2, none⟩ = some (.int .i64 t.2) ∧ Ok64 t.2 ∧ NodesR w nv t.1.nodes) (by
    intro i hi
    obtain ⟨t, ht⟩ := getElem?_ex (l := l) (k := i) hi
    obtain ⟨b, o, nv, g1, g2, g3, g4, g5, g6, g7⟩ := h i t ht
    refine ⟨nv, fun t' ht' => ?_⟩
    rw [ht] at ht'
    injection ht' with ht'
    subst ht'
    exact ⟨b, o, g1, g2, g3, g4, g5, g6, g7⟩)
  refine ⟨l.zip V, List.map_fst_zip (by rw [hV1]; exact Nat.le_refl _), fun p hp => ?_, a, c, e, fun i p hp => ?_⟩
  · obtain ⟨i, hi⟩ := List.getElem?_of_mem hp
    rw [List.getElem?_zip_eq_some] at hi
    obtain ⟨_, _, _, _, _, _, _, g6, g7⟩ := hV2 i p.2 hi.2 p.1 hi.1
    exact ⟨g6, g7⟩
  · rw [List.getElem?_zip_eq_some] at hp
    obtain ⟨b, o, g1, g2, g3, g4, g5, _⟩ := hV2 i p.2 hp.2 p.1 hp.1
    exact ⟨b, o, g1, g2, g3, g4, g5⟩

/-! Plain. -/
def bornB (z : Int) : Bool := decide (0 ≤ z) && decide (z ≤ 1099511627776)

noncomputable def stB (l : List (TreeP × Int)) (p : TreeP × Int) : Bool := bornB p.2 && okT (l.map (·.1)) p.1

noncomputable def isF (l : List (TreeP × Int)) : Bool := decide (l.length ≤ 16) && l.all (stB l)

theorem isF_is (l : List (TreeP × Int)) : isF l = (l.all (fun p => bornB p.2) && (decide (l.length ≤ 16) && allT (l.map (·.1)))) := by
  have h : l.all (stB l) = (l.all (fun p => bornB p.2) && allT (l.map (·.1))) := by
    unfold allT
    rw [List.all_map, Bool.eq_iff_iff, Bool.and_eq_true, List.all_eq_true, List.all_eq_true, List.all_eq_true]
    simp only [stB, Bool.and_eq_true, Function.comp]
    exact ⟨fun h => ⟨fun p hp => (h p hp).1, fun p hp => (h p hp).2⟩, fun h p hp => ⟨h.1 p hp, h.2 p hp⟩⟩
  unfold isF
  rw [h]
  cases decide (l.length ≤ 16) <;> cases l.all (fun p => bornB p.2) <;> rfl

theorem isF_at {l : List (TreeP × Int)} (h : isF l = true) {i : Nat} {p : TreeP × Int} (hi : l[i]? = some p) : (0 ≤ p.2 ∧ p.2 ≤ 1099511627776) ∧ treeB p.1 = true ∧ p.1.dim = dim0 (l.map (·.1)) := by
  unfold isF at h
  rw [Bool.and_eq_true, List.all_eq_true] at h
  have := h.2 p (List.mem_of_getElem? hi)
  unfold stB bornB okT at this
  simpa using this

theorem isF_len {l : List (TreeP × Int)} (h : isF l = true) : l.length ≤ 16 := by
  unfold isF at h
  rw [Bool.and_eq_true] at h
  simpa using h.1

def sameG (a b : TreeP × Int) : Bool := decide (a.2 = b.2) && sameT a.1 b.1
end Go.Proofs.YtgobbecpnjelmaaGreat

namespace Go.Proofs.YtgobbecpnjelmaaGreat
open Go.RowKit

theorem rowN_set : ∀ (ps : List (NodeP × Value)) (i : Nat) (p : NodeP × Value) (u : Value), ps[i]? = some p → (ps.flatMap rowN).set (i * 5) u = (ps.set i (p.1, u)).flatMap rowN
  | [], i, p, u, h => by simp at h
  | q :: ps, 0, p, u, h => by
    obtain rfl : q = p := by simpa using h
    rfl
  | q :: ps, i + 1, p, u, h => by
    have := rowN_set ps i p u (by simpa using h)
    rw [List.set_cons_succ, List.flatMap_cons, List.flatMap_cons, ← this, show (i + 1) * 5 = i * 5 + 1 + 1 + 1 + 1 + 1 by omega]
    rfl

theorem set_same {α : Type} {l : List α} {k : Nat} {x : α} (h : l[k]? = some x) : l.set k x = l := by
  apply List.ext_getElem?
  intro j
  rw [List.getElem?_set]
  split
  · rename_i e
    subst e
    rw [h, if_pos (List.getElem?_eq_some_iff.1 h).1]
  · rfl

theorem own_setAt {w : World} {base e size n g c : Nat} {xs : List Value} (h : w.ownsRow base e size (.slice (some ⟨g, 0, none⟩) n c) n xs) (i : Nat) (u : Value) : (w.setCell ⟨g, i, none⟩ u).ownsRow base e size (.slice (some ⟨g, 0, none⟩) n c) n (xs.set i u) := by
  obtain ⟨cur, _, _, h3, h4, h5, h6, h7, h8⟩ := own_rowAt h
  refine rowAt_own h3 (h4.set i u) h5 h6 (by simp [h7]) ?_
  rw [← h8, Array.toList_setIfInBounds, List.take_set]

theorem ints_kept' {w w' : World} {v : Value} {l : List Int} (h : Ints .i64 w v l) (hk : l ≠ [] → ∀ g, AtB v g → w'.heap[g]? = w.heap[g]?) (hz : w.heap.size ≤ w'.heap.size) : Ints .i64 w' v l := by
  obtain ⟨a, c, rfl, h1, h2, h3, h4⟩ := h
  refine ⟨a, c, rfl, h1, h2, h3, fun i x hi => ?_⟩
  obtain ⟨b, o, rfl, hb, hc⟩ := h4 i x hi
  exact ⟨b, o, rfl, Nat.lt_of_lt_of_le hb hz, (World.cell?_of_block (a := ⟨b, _, none⟩) (hk (fun e => by rw [e] at hi; simp at hi) b ⟨o, _, _, rfl⟩)).trans hc⟩

/-- A tree under way that is copied: its struct at T, its nodes, each with the value of its parts. -/
structure CopyAt (w U : World) (T : Nat) (D : Int) (tv : Value) (l : List NodeP) (k : Nat) : Prop where
  tT : w.heap.size + 1 < T
  rT : RowAt U T 106 #[.int .i64 D, tv]
  rR : RowAt U (w.heap.size + 1) 106 #[.int .i64 0, .slice none 0 0]
  bel : Below w.heap.size w U
  ne : tv.ownBlock ≠ some T
  ex : ∃ qs : List (NodeP × Value), qs.map (·.1) = l ∧ U.ownsRow (w.heap.size + 2) 112 5 tv l.length (qs.flatMap rowN) ∧ (∀ q ∈ qs, Ints .i64 U q.2 q.1.coef ∧ (q.1.coef ≠ [] → ∀ g, AtB q.2 g → g < U.heap.size ∧ g ≠ w.heap.size + 1 ∧ tv.ownBlock ≠ some g)) ∧ ∀ j q, j < k → qs[j]? = some q → q.1.coef ≠ [] → ∀ g, AtB q.2 g → w.heap.size ≤ g

theorem CopyAt.start {w U : World} {T : Nat} {D : Int} {tv : Value} {l : List NodeP} {qs : List (NodeP × Value)} (hTs : w.heap.size + 1 < T) (hT : RowAt U T 106 #[.int .i64 D, tv]) (hR : RowAt U (w.heap.size + 1) 106 #[.int .i64 0, .slice none 0 0]) (hb : Below w.heap.size w U) (hne : tv.ownBlock ≠ some T)
    (hq1 : qs.map (·.1) = l) (own : U.ownsRow (w.heap.size + 2) 112 5 tv l.length (qs.flatMap rowN)) (hq : ∀ q ∈ qs, Ints .i64 w q.2 q.1.coef) : CopyAt w U T D tv l 0 := by
  refine ⟨hTs, hT, hR, hb, hne, qs, hq1, own, fun q hm => ⟨(hq q hm).below hb, fun h g hg => ?_⟩, fun j q hj => by omega⟩
  obtain ⟨a, c, e, _, _, _, h4⟩ := hq q hm
  obtain ⟨x, hx⟩ := getElem?_ex (l := q.1.coef) (k := 0) (List.length_pos_iff.2 h)
  obtain ⟨b, o, e2, hb2, _⟩ := h4 0 x hx
  obtain ⟨o', n', c', e3⟩ := hg
  rw [e, e2] at e3
  injection e3 with e3
  injection e3 with e3
  injection e3 with e3
  subst e3
  exact ⟨Nat.lt_of_lt_of_le hb2 hb.size, by omega, fun e => by have := (own.lt _ e).1; omega⟩

theorem CopyAt.later {w U U1 : World} {T k : Nat} {D : Int} {tv : Value} {l : List NodeP} (S : CopyAt w U T D tv l k) (hb : Below U.heap.size U U1) : CopyAt w U1 T D tv l k := by
  obtain ⟨qs, h1, h2, h3, h4⟩ := S.ex
  have hz := S.rR.lt
  refine ⟨S.tT, (hb.block _ S.rT.lt).trans S.rT, (hb.block _ hz).trans S.rR, S.bel.trans (hb.mono S.bel.size), S.ne, qs, h1, own_keep h2 fun g _ hg => hb.block g hg, fun q hq => ?_, h4⟩
  obtain ⟨g1, g2⟩ := h3 q hq
  exact ⟨g1.below hb, fun h g hg => ⟨Nat.lt_of_lt_of_le (g2 h g hg).1 hb.size, (g2 h g hg).2⟩⟩

theorem CopyAt.step {w U : World} {T : Nat} {D : Int} {l : List NodeP} {g c k : Nat} {nd : NodeP} {cv : Value} (S : CopyAt w U T D (.slice (some ⟨g, 0, none⟩) l.length c) l k) (hk : l[k]? = some nd) (hi : Ints .i64 U cv nd.coef) (hn : ∀ q, AtB cv q → q < U.heap.size ∧ w.heap.size + 1 < q ∧ q ≠ g) :
    CopyAt w (U.setCell ⟨g, k * 5, none⟩ cv) T D (.slice (some ⟨g, 0, none⟩) l.length c) l (k + 1) := by
  obtain ⟨qs, h1, h2, h3, h4⟩ := S.ex
  have hg : w.heap.size + 2 ≤ g ∧ g < U.heap.size := h2.lt g rfl
  have hgT : g ≠ T := fun e => S.ne (by rw [e]; rfl)
  have hlen : qs.length = l.length := by rw [← h1, List.length_map]
  obtain ⟨q, hq⟩ := getElem?_ex (l := qs) (k := k) (by rw [hlen]; exact (List.getElem?_eq_some_iff.1 hk).1)
  have hq1 : q.1 = nd := by
    have : (qs.map (·.1))[k]? = some nd := by rw [h1]; exact hk
    rw [List.getElem?_map, hq] at this
    simpa using this
  refine ⟨S.tT, (Below.heap_setCell _ _ _ _ (Ne.symm hgT)).trans S.rT, (Below.heap_setCell _ _ _ _ (show w.heap.size + 1 ≠ g by omega)).trans S.rR, S.bel.setCell (show w.heap.size ≤ g by omega) _, S.ne, qs.set k (q.1, cv), ?_, ?_, ?_, ?_⟩
  · rw [← h1, List.map_set]
    exact set_same (by rw [List.getElem?_map, hq]; rfl)
  · rw [← rowN_set qs k q cv hq]
    exact own_setAt h2 _ _
  · intro p hp
    rcases List.mem_or_eq_of_mem_set hp with hp | rfl
    · obtain ⟨g1, g2⟩ := h3 p hp
      refine ⟨ints_kept' g1 (fun h b hb => Below.heap_setCell _ _ _ _ (fun e => (g2 h b hb).2.2 (by have e' : b = g := e; rw [e']; rfl))) (by simp), fun h b hb => ⟨by simpa using (g2 h b hb).1, (g2 h b hb).2⟩⟩
    · rw [hq1]
      refine ⟨ints_kept' hi (fun _ b hb => Below.heap_setCell _ _ _ _ (fun e => (hn b hb).2.2 e)) (by simp), fun _ b hb => ⟨by simpa using (hn b hb).1, by have := (hn b hb).2.1; omega, fun e => ?_⟩⟩
      have e' : g = b := by simpa [Value.ownBlock] using e
      exact (hn b hb).2.2 e'.symm
  · intro j p hj hp hne b hb
    rw [List.getElem?_set] at hp
    by_cases e : k = j
    · subst e
      rw [if_pos rfl, if_pos (List.getElem?_eq_some_iff.1 hq).1] at hp
      injection hp with hp
      subst hp
      have := (hn b hb).2.1
      omega
    · rw [if_neg e] at hp
      exact h4 j p (by omega) hp hne b hb

/-- v is a slice of nodes that lies in blocks from B on. -/
def NodesF (B : Nat) (w : World) (v : Value) (l : List NodeP) : Prop := ∀ W : World, (∀ b, B ≤ b → b < w.heap.size → W.heap[b]? = w.heap[b]?) → w.heap.size ≤ W.heap.size → NodesR W v l

/-- v is a slice of nodes that lies outside of the block r. -/
def Apart (r : Option Nat) (w : World) (v : Value) (l : List NodeP) : Prop := ∀ W : World, (∀ b, r ≠ some b → b < w.heap.size → W.heap[b]? = w.heap[b]?) → w.heap.size ≤ W.heap.size → NodesR W v l

theorem NodesF.now {B : Nat} {w : World} {v : Value} {l : List NodeP} (h : NodesF B w v l) : NodesR w v l := h w (fun _ _ _ => rfl) (Nat.le_refl _)

theorem Apart.now {r : Option Nat} {w : World} {v : Value} {l : List NodeP} (h : Apart r w v l) : NodesR w v l := h w (fun _ _ _ => rfl) (Nat.le_refl _)

theorem Apart.later {r : Option Nat} {w w1 : World} {v : Value} {l : List NodeP} (h : Apart r w v l) (hb : Below w.heap.size w w1) : Apart r w1 v l := fun W hW hz =>
  h W (fun b h1 h2 => (hW b h1 (Nat.lt_of_lt_of_le h2 hb.size)).trans (hb.block b h2)) (Nat.le_trans hb.size hz)

theorem Apart.grown {w w1 : World} {u u' v : Value} {l : List NodeP} (h : Apart u.ownBlock w v l) (hg : w.grownBy w1 u.ownBlock) (hn : NewB w u u') : Apart u'.ownBlock w1 v l := fun W hW hz =>
  h W (fun b h1 h2 => (hW b (fun e => by
    rcases hn with e2 | ⟨q, e2, hq⟩
    · exact h1 (by rw [← e2]; exact e)
    · rw [e2] at e
      injection e with e
      omega) (Nat.lt_of_lt_of_le h2 hg.size)).trans (hg.block b h2 (fun e => h1 e.symm))) (Nat.le_trans hg.size hz)

theorem NodesF.below {B : Nat} {w w1 : World} {v : Value} {l : List NodeP} (h : NodesF B w v l) (hb : Below w.heap.size w w1) : NodesF B w1 v l := fun W hW hz =>
  h W (fun b h1 h2 => (hW b h1 (Nat.lt_of_lt_of_le h2 hb.size)).trans (hb.block b h2)) (Nat.le_trans hb.size hz)

theorem CopyAt.fin {w U : World} {T : Nat} {D : Int} {tv a b : Value} {l : List NodeP} (S : CopyAt w U T D tv l l.length) (hl : l.length ≤ 100000) : NodesF w.heap.size ((U.setCell ⟨w.heap.size + 1, 0, none⟩ a).setCell ⟨w.heap.size + 1, 1, none⟩ b) tv l := by
  obtain ⟨qs, h1, h2, h3, h4⟩ := S.ex
  intro W hW hz
  simp only [World.size_setCell] at hz
  have hk : ∀ q, w.heap.size ≤ q → q < U.heap.size → q ≠ w.heap.size + 1 → W.heap[q]? = U.heap[q]? := fun q hq hq2 hne => (hW q hq (by simpa using hq2)).trans ((Below.heap_setCell _ _ _ _ hne).trans (Below.heap_setCell _ _ _ _ hne))
  have := own_nodes (own_at h2 fun g hg => hk g (by have := (h2.lt g hg).1; omega) (h2.lt g hg).2 (by have := (h2.lt g hg).1; omega)) (by rw [← h1, List.length_map]) hl fun p hp => by
    obtain ⟨j, hj⟩ := List.getElem?_of_mem hp
    have hjl : j < l.length := by have := (List.getElem?_eq_some_iff.1 hj).1; rw [← h1, List.length_map]; exact this
    exact ints_kept' (h3 p hp).1 (fun h g hg => hk g (h4 j p hjl hj h g hg) ((h3 p hp).2 h g hg).1 ((h3 p hp).2 h g hg).2.1) (by simpa using hz)
  rw [h1] at this
  exact this

theorem CopyAt.cells {w U : World} {T : Nat} {D : Int} {g c k : Nat} {l : List NodeP} {nd : NodeP} (S : CopyAt w U T D (.slice (some ⟨g, 0, none⟩) l.length c) l k) (hk : l[k]? = some nd) :
    ∃ cv, Ints .i64 U cv nd.coef ∧ U.cell? ⟨g, k * 5, none⟩ = some cv ∧ U.cell? ⟨g, k * 5 + 1, none⟩ = some (.int .i64 nd.at_) ∧ U.cell? ⟨g, k * 5 + 2, none⟩ = some (.int .i64 nd.left) ∧ U.cell? ⟨g, k * 5 + 3, none⟩ = some (.int .i64 nd.right) ∧ U.cell? ⟨g, k * 5 + 4, none⟩ = some (.int .i64 nd.size) ∧ ∀ o, U.frozen? ⟨g, o, none⟩ = false := by
  obtain ⟨qs, h1, h2, h3, h4⟩ := S.ex
  have hlen : qs.length = l.length := by rw [← h1, List.length_map]
  have hkl := (List.getElem?_eq_some_iff.1 hk).1
  obtain ⟨q, hq⟩ := getElem?_ex (l := qs) (k := k) (by rw [hlen]; exact hkl)
  have hq1 : q.1 = nd := by
    have : (qs.map (·.1))[k]? = some nd := by rw [h1]; exact hk
    rw [List.getElem?_map, hq] at this
    simpa using this
  obtain ⟨r0, r1, r2, r3, r4⟩ := rowN_at qs k q hq
  obtain ⟨cur, _, _, _, hrow, _⟩ := own_rowAt h2
  rw [hq1] at r1 r2 r3 r4
  exact ⟨q.2, hq1 ▸ (h3 q (List.mem_of_getElem? hq)).1, (h2.cellAt (k * 5) (by omega)).trans r0, (h2.cellAt (k * 5 + 1) (by omega)).trans r1, (h2.cellAt (k * 5 + 2) (by omega)).trans r2, (h2.cellAt (k * 5 + 3) (by omega)).trans r3, (h2.cellAt (k * 5 + 4) (by omega)).trans r4, fun o => hrow.frozen o⟩
end Go.Proofs.YtgobbecpnjelmaaGreat

namespace Go.Proofs.YtgobbecpnjelmaaGreat
open Go.RowKit

abbrev AskT := Int × Int × List Int × Int × Int

def askT0 : AskT := (0, 0, [], 0, 0)

end Go.Proofs.YtgobbecpnjelmaaGreat

namespace Go.Proofs.YtgobbecpnjelmaaGreat
open Go.ChangeShapes Go.WideShapes Go.ChangeAt Go.RowKit Go.Deep

/-- v is a slice of trees and when they were grown. -/
def ArgGrowns (w : World) (v : Value) (l : List (TreeP × Int)) : Prop :=
  ∃ a c, v = .slice a l.length c ∧ l.length ≤ c ∧ c ≤ 9223372036854775807 ∧
    ∀ (i : Nat) (p : TreeP × Int), l[i]? = some p → ∃ b o nv, a = some ⟨b, o, none⟩ ∧ b < w.heap.size ∧ w.cell? ⟨b, o + i * 3, none⟩ = some (.int .i64 p.1.dim) ∧ w.cell? ⟨b, o + i * 3 + 1, none⟩ = some nv ∧ w.cell? ⟨b, o + i * 3 + 2, none⟩ = some (.int .i64 p.2) ∧ (Lit.int .i64 p.2).wf = true ∧ ArgNodes w nv p.1.nodes

theorem ArgGrowns.below {w w' : World} {v : Value} {l : List (TreeP × Int)} (h : ArgGrowns w v l) (B : Below w.heap.size w w') : ArgGrowns w' v l := by
  obtain ⟨a, c, e, h1, h2, h⟩ := h
  refine ⟨a, c, e, h1, h2, fun i p hi => ?_⟩
  obtain ⟨b, o, nv, e, hb, c0, c1, c2, cw, hn⟩ := h i p hi
  exact ⟨b, o, nv, e, Nat.lt_of_lt_of_le hb B.size, (B.cell (p := ⟨b, _, none⟩) hb).trans c0, (B.cell (p := ⟨b, _, none⟩) hb).trans c1, (B.cell (p := ⟨b, _, none⟩) hb).trans c2, cw, hn.below B⟩

/-- v is a tree and when it was grown. -/
def ArgGrown (w : World) (v : Value) (g : TreeP × Int) : Prop := ∃ nv, v = .agg #[.int .i64 g.1.dim, nv, .int .i64 g.2] ∧ (Lit.int .i64 g.2).wf = true ∧ ArgNodes w nv g.1.nodes

theorem ArgGrown.below {w w' : World} {v : Value} {g : TreeP × Int} (h : ArgGrown w v g) (B : Below w.heap.size w w') : ArgGrown w' v g := by
  obtain ⟨nv, e, h1, h2⟩ := h
  exact ⟨nv, e, h1, h2.below B⟩

section
variable {H : Type} {enc : TypeId × Value → H} {P : Program} {w : World} {base : Nat} {held : Bool}
variable {tT tNs tN tC tCo tI : TypeId} {fT0 fT1 fN0 fN1 fN2 fN3 fC0 fC1 : Field}

theorem trod_grown {tP : TypeId} {fP0 fP1 : Field} (hP : P.underlying tP = some (.struct #[fP0, fP1])) (hP0 : fP0.type = tT ∧ fP0.offset = 0 ∧ P.cellsOf fP0.type = 2) (hP1 : fP1.type = tI ∧ fP1.offset = 2 ∧ P.cellsOf fP1.type = 1)
    (R : TreeRows P tT tNs tN tC tCo tI fT0 fT1 fN0 fN1 fN2 fN3 fC0 fC1) (c0 c1 c2 : Value) (fuel : Nat) (y : DataW H × List MemPlace) (h : DataW.trod enc P w base (fun _ => true) held fuel tP [c0, c1, c2] = some y) :
    ∃ q : TreeP × Int, c0 = .int .i64 q.1.dim ∧ c2 = .int .i64 q.2 ∧ (Lit.int .i64 q.2).wf = true ∧ ArgNodes w c1 q.1.nodes := by
  obtain ⟨ys, n', _, _, _, hyl, hf⟩ := DataW.trod_struct hP h
  have h0 := hf 0 fP0 rfl
  have h1 := hf 1 fP1 rfl
  rw [hP0.2.1, hP0.2.2, hP0.1] at h0
  rw [hP1.2.1, hP1.2.2, hP1.1] at h1
  have hys : ∀ j, j < 2 → ∃ q, ys[j]? = some q := fun j hj => getElem?_ex (by rw [hyl]; exact hj)
  obtain ⟨q0, e0⟩ := hys 0 (by omega)
  obtain ⟨q1, e1⟩ := hys 1 (by omega)
  rw [e0] at h0
  rw [e1] at h1
  obtain ⟨z, hz, _, hwf⟩ := DataW.trod_int R.uI h1
  obtain ⟨t, ht, hn⟩ := trod_tree R (c0 := c0) (c1 := c1) h0
  simp at hz
  exact ⟨⟨t, z⟩, ht, hz, hwf, hn⟩

end

end Go.Proofs.YtgobbecpnjelmaaGreat
