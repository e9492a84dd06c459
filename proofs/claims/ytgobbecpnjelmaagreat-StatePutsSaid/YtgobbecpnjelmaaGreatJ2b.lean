/-
  Much: copseref10.Much of an argument; small slices made anew.
  Laws12m: copseref12.Much of an argument that is a slice of trees; what its reading carries.
  TreeS: Plain laws of sums over trees: in whichever order they stand; a row of trees of the call's own.
  ForM: How grown trees lie in memory; a row of such of the call's own; plain of layer 14.
  ForB: Rows of nodes: their values, one set; append of a slice to a row of the call's own; what stands while a tree is copied.
  ItemQ: Plain laws of layer 22: which ask any bytes are.
  ArgGrown: Arguments that are slices of api.Grown: how they read.
  WoodS: Plain laws of layer 23: any tree as what is read; trees and forests as bytes; reading them.
  WoodI: Plain: which forest any bytes are.
  WoodD: What stands while nodes are read: the row of what must come, the nodes that are there.
  ForC: Walks of forest.copied and forest.Trees.
-/
import Derived.Test.YtgobbecpnjelmaaGreatKPathE
import Derived.Test.YtgobbecpnjelmaaGreatJ0d
import Derived.Test.YtgobbecpnjelmaaGreatJ0a
import Derived.Test.YtgobbecpnjelmaaGreatJ0b
import Derived.Test.YtgobbecpnjelmaaGreatJ1a
import Derived.Test.YtgobbecpnjelmaaGreatKItemF
import Derived.Test.YtgobbecpnjelmaaGreatJ0c
namespace Go.Proofs.YtgobbecpnjelmaaGreat
open Go.RowKit

set_option maxHeartbeats 1000000 in
theorem rmuch_any (v : Value) (t : TreeP) (w : World) (h : ArgTree w v t) :
  Calls Tryz.prog 111 #[v] w fun e w' => e = .returned (.bool (muchN t.nodes)) ∧ Below w.heap.size w w' := by
 obtain ⟨nv, rfl, ad, cc, rfl, hc1, hc2, h⟩ := h
 have H := hH h
 have HN := hH (show muchN t.nodes = (decide (200 < t.nodes.length) || t.nodes.any fun n => decide (20 < n.coef.length)) from rfl)
 clear h
 obtain ⟨M, hM⟩ : ∃ M, muchN t.nodes = M := ⟨_, rfl⟩
 rw [hM] at HN ⊢
 clear hM
 obtain ⟨n, hn⟩ : ∃ n, t.nodes.length = n := ⟨_, rfl⟩
 rw [hn] at HN hc1 ⊢
 have HL := hH hn
 clear hn
 generalize t.dim = D at *
 have hnb : (n : Int) ≤ 9223372036854775807 := by omega
 by_cases h2 : 200 < n
 ·have G := hH (show M = true by rw [HN.out]; simp [h2])
  have h3 : (200 : Int) < n := by omega
  go_enter Tryz.func111, Tryz.ntmps111
  go_wp2_with fail
  go_ret
  exact ⟨by rw [G.out]; rfl, bw⟩
 ·have h3 : (n : Int) ≤ 200 := by omega
  go_enter Tryz.func111, Tryz.ntmps111
  go_wp2_with fail
  go_loopw [3] (fun i wr => ∃ k : Nat, i = .int .i64 k ∧ k ≤ n ∧ (∀ j nd, j < k → t.nodes[j]? = some nd → nd.coef.length ≤ 20) ∧ wr = w.alloc (.cells #[.int .i64 D, .slice ad n cc] 106)) (fun i _ => n - (intOf i).toNat)
  case atStart => exact ⟨0, rfl, by omega, fun j nd h => by omega, rfl⟩
  case round =>
   obtain ⟨k, rfl, hk, hall, rfl⟩ := hrel
   have HA := hH hall
   clear hall
   by_cases hlt : k < n
   ·obtain ⟨nd, hnd⟩ := getElem?_ex (l := t.nodes) (k := k) (by rw [HL.out]; exact hlt)
    obtain ⟨b, o, rfl, hb, cv, ⟨a', c', rfl, q1, q2, _⟩, g1, _⟩ := H.out k nd hnd
    have HND := hH hnd
    have i1 : (0 : Int) ≤ (k : Int) := by omega
    have i2 : (k : Int) < (n : Int) := by omega
    have hbz : b ≠ w.heap.size := by omega
    clear hnd
    obtain ⟨cl, hcl⟩ : ∃ cl, nd.coef.length = cl := ⟨_, rfl⟩
    rw [hcl] at g1 q1
    have HCL := hH hcl
    clear hcl
    by_cases h4 : 20 < cl
    ·have G := hH (show M = true by
      rw [HN.out, Bool.or_eq_true, List.any_eq_true]
      exact .inr ⟨nd, List.mem_of_getElem? HND.out, by rw [HCL.out]; simp [h4]⟩)
     have h5 : (20 : Int) < cl := by omega
     go_wp2_with fail
     go_ret
     exact ⟨by rw [G.out]; rfl, bw⟩
    ·have h5 : (cl : Int) ≤ 20 := by omega
     go_wp2_with fail
     go_roundw
     case rel =>
      refine ⟨k + 1, by go_num, by omega, fun j nd' hj hnd' => ?_, trivial⟩
      rcases Nat.lt_or_ge j k with h | h
      ·exact HA.out j nd' h hnd'
      ·obtain rfl : j = k := by omega
       rw [HND.out] at hnd'
       injection hnd' with hnd'
       subst hnd'
       rw [HCL.out]
       omega
     case measure => simp [intOf] <;> omega
   ·obtain rfl : k = n := by omega
    have G := hH (show M = false by
     rw [HN.out, Bool.or_eq_false_iff, List.any_eq_false]
     refine ⟨by simp; omega, fun nd hnd => ?_⟩
     obtain ⟨i, hi⟩ := List.getElem?_of_mem hnd
     have := HA.out i nd (by have := (List.getElem?_eq_some_iff.1 hi).1; have := HL.out; omega) hi
     simp; omega)
    go_wp2_with fail
    go_ret
    exact ⟨by rw [G.out]; rfl, bw⟩

end Go.Proofs.YtgobbecpnjelmaaGreat

namespace Go.Proofs.YtgobbecpnjelmaaGreat
open Go.RowKit

theorem ArgInts.below' {w w' : World} {v : Value} {l : List Int} (h : ArgInts .i64 w v l) (B : Below w.heap.size w w') : ArgInts .i64 w' v l := by
 obtain ⟨a, c, e, h1, h2, h3, h4⟩ := h
 refine ⟨a, c, e, h1, h2, fun i x hi => ?_, h4⟩
 obtain ⟨b, o, e, hb, hc⟩ := h3 i x hi
 exact ⟨b, o, e, Nat.lt_of_lt_of_le hb B.size, (B.cell (p := ⟨b, o + i, none⟩) hb).trans hc⟩

theorem ArgNodes.below {w w' : World} {v : Value} {l : List NodeP} (h : ArgNodes w v l) (B : Below w.heap.size w w') : ArgNodes w' v l := by
 obtain ⟨a, c, e, h1, h2, h⟩ := h
 refine ⟨a, c, e, h1, h2, fun i n hi => ?_⟩
 obtain ⟨b, o, e, hb, cv, g0, k1, k2, k3, k4, k5⟩ := h i n hi
 exact ⟨b, o, e, Nat.lt_of_lt_of_le hb B.size, cv, g0.below' B, (B.cell (p := ⟨b, _, none⟩) hb).trans k1, (B.cell (p := ⟨b, _, none⟩) hb).trans k2, (B.cell (p := ⟨b, _, none⟩) hb).trans k3, (B.cell (p := ⟨b, _, none⟩) hb).trans k4, (B.cell (p := ⟨b, _, none⟩) hb).trans k5⟩

theorem ArgTree.below {w w' : World} {v : Value} {t : TreeP} (h : ArgTree w v t) (B : Below w.heap.size w w') : ArgTree w' v t := by
 obtain ⟨nv, e, h⟩ := h
 exact ⟨nv, e, h.below B⟩

theorem ArgTrees.below {w w' : World} {v : Value} {l : List TreeP} (h : ArgTrees w v l) (B : Below w.heap.size w w') : ArgTrees w' v l := by
 obtain ⟨a, c, e, h1, h2, h⟩ := h
 refine ⟨a, c, e, h1, h2, fun i t hi => ?_⟩
 obtain ⟨b, o, nv, e, hb, c0, c1, hn⟩ := h i t hi
 exact ⟨b, o, nv, e, Nat.lt_of_lt_of_le hb B.size, (B.cell (p := ⟨b, _, none⟩) hb).trans c0, (B.cell (p := ⟨b, _, none⟩) hb).trans c1, hn.below B⟩

def muchT (l : List TreeP) : Bool := decide (30 < l.length) || l.any fun t => muchN t.nodes

theorem ArgTrees.trees {w : World} {v : Value} {l : List TreeP} (h : ArgTrees w v l) (hm : muchT l = false) : TreesR w v l := by
 obtain ⟨a, c, e, h1, h2, h⟩ := h
 unfold muchT at hm
 rw [Bool.or_eq_false_iff, decide_eq_false_iff_not, List.any_eq_false] at hm
 refine ⟨a, c, e, h1, h2, by omega, fun i t hi => ?_⟩
 obtain ⟨b, o, nv, e, hb, c0, c1, hn⟩ := h i t hi
 exact ⟨b, o, nv, e, hb, c0, c1, hn.nodes (by simpa using hm.2 t (List.mem_of_getElem? hi))⟩

set_option maxHeartbeats 1000000 in
theorem rmuch12_any (v : Value) (l : List TreeP) (w : World) (h : ArgTrees w v l) :
  Calls Tryz.prog 67 #[v] w fun e w' => e = .returned (.bool (muchT l)) ∧ Below w.heap.size w w' := by
 obtain ⟨ad, cc, rfl, hc1, hc2, h⟩ := h
 have H := hH h
 clear h
 have HN := hH (show muchT l = (decide (30 < l.length) || l.any fun t => muchN t.nodes) from rfl)
 obtain ⟨M, hM⟩ : ∃ M, muchT l = M := ⟨_, rfl⟩
 rw [hM] at HN ⊢
 clear hM
 obtain ⟨n, hn⟩ : ∃ n, l.length = n := ⟨_, rfl⟩
 rw [hn] at HN hc1 ⊢
 have HL := hH hn
 clear hn
 have hnb : (n : Int) ≤ 9223372036854775807 := by omega
 by_cases h2 : 30 < n
 ·have G := hH (show M = true by rw [HN.out]; simp [h2])
  have h3 : (30 : Int) < n := by omega
  go_enter Tryz.func67, Tryz.ntmps67
  go_wp2_with fail
  go_ret
  exact ⟨by rw [G.out]; rfl, bw⟩
 ·have h3 : (n : Int) ≤ 30 := by omega
  go_enter Tryz.func67, Tryz.ntmps67
  go_wp2_with fail
  go_loopw [3] (fun i wr => ∃ k : Nat, i = .int .i64 k ∧ k ≤ n ∧ (∀ j t, j < k → l[j]? = some t → muchN t.nodes = false) ∧ Below w.heap.size w wr) (fun i _ => n - (intOf i).toNat)
  case atStart => exact ⟨0, rfl, by omega, fun j nd h => by omega, Below.refl _ _⟩
  case round =>
   obtain ⟨k, rfl, hk, hall, hbr⟩ := hrel
   have HA := hH hall
   have HBR := hH hbr
   have hsz := hbr.size
   clear hall
   by_cases hlt : k < n
   ·obtain ⟨t, ht⟩ := getElem?_ex (l := l) (k := k) (by rw [HL.out]; exact hlt)
    obtain ⟨b, o, nv, rfl, hb, c0, c1, hnv⟩ := H.out k t ht
    have e0 := (hbr.cell (p := ⟨b, o + k * 2, none⟩) hb).trans c0
    have e1 := (hbr.cell (p := ⟨b, o + k * 2 + 1, none⟩) hb).trans c1
    have HT := hH (show ArgTree w (.agg #[.int .i64 t.dim, nv]) t from ⟨nv, rfl, hnv⟩)
    obtain ⟨na, nc, rfl, _⟩ := hnv
    have HK := hH ht
    have i1 : (0 : Int) ≤ (k : Int) := by omega
    have i2 : (k : Int) < (n : Int) := by omega
    clear ht c0 c1 hbr
    obtain ⟨TB, hTB⟩ : ∃ TB, muchN t.nodes = TB := ⟨_, rfl⟩
    have HTI := hH (fun W (hW : ArgTree W (.agg #[.int .i64 t.dim, .slice na t.nodes.length nc]) t) => hTB ▸ rmuch_any _ t W hW)
    have HTB := hH hTB
    clear hTB
    generalize t.nodes.length = tn at *
    generalize t.dim = d at *
    cases TB with
    | true =>
     have G := hH (show M = true by
      rw [HN.out, Bool.or_eq_true, List.any_eq_true]
      exact .inr ⟨t, List.mem_of_getElem? HK.out, HTB.out⟩)
     go_wp2_with fail
     (with_reducible refine (HTI.out _ (HT.out.below HBR.out)).mono ?_)
     rintro e w4 ⟨rfl, b4⟩
     have B4 := hH b4
     clear b4
     go_wp2_with fail
     go_ret
     exact ⟨by rw [G.out]; rfl, by (repeat (first | with_reducible exact Below.refl _ _ | with_reducible refine Bs ?_ | with_reducible refine Ba ?_ | with_reducible refine Bd ?_ | with_reducible refine Bn ?_ | with_reducible refine Bt B4.out ?_ | with_reducible refine Bt HBR.out ?_))⟩
    | false =>
     go_wp2_with fail
     (with_reducible refine (HTI.out _ (HT.out.below HBR.out)).mono ?_)
     rintro e w4 ⟨rfl, b4⟩
     have B4 := hH b4
     clear b4
     go_wp2_with fail
     go_roundw
     case rel =>
      refine ⟨k + 1, by go_num, by omega, fun j t' hj ht' => ?_, by (repeat (first | with_reducible exact Below.refl _ _ | with_reducible refine Bs ?_ | with_reducible refine Ba ?_ | with_reducible refine Bd ?_ | with_reducible refine Bn ?_ | with_reducible refine Bt B4.out ?_ | with_reducible refine Bt HBR.out ?_))⟩
      rcases Nat.lt_or_ge j k with h | h
      ·exact HA.out j t' h ht'
      ·obtain rfl : j = k := by omega
       rw [HK.out] at ht'
       injection ht' with ht'
       subst ht'
       exact HTB.out
     case measure => simp [intOf] <;> omega
   ·obtain rfl : k = n := by omega
    have G := hH (show M = false by
     rw [HN.out, Bool.or_eq_false_iff, List.any_eq_false]
     refine ⟨by simp; omega, fun t ht => ?_⟩
     obtain ⟨i, hi⟩ := List.getElem?_of_mem ht
     have := HA.out i t (by have := (List.getElem?_eq_some_iff.1 hi).1; have := HL.out; omega) hi
     simp [this])
    go_wp2_with fail
    go_ret
    exact ⟨by rw [G.out]; rfl, HBR.out⟩

theorem eiTree : EI Tryz.prog 106 (.agg #[.int .i64 0, .slice none 0 0]) 2 32 := .of rJ rfl (by decide) (by decide)
end Go.Proofs.YtgobbecpnjelmaaGreat

namespace Go.Proofs.YtgobbecpnjelmaaGreat
open Go.RowKit

def rowF (p : TreeP × Value) : List Value := [.int .i64 p.1.dim, p.2]

theorem rowF_at : ∀ (ps : List (TreeP × Value)) (i : Nat) (p : TreeP × Value), ps[i]? = some p → (ps.flatMap rowF)[i * 2]? = some (.int .i64 p.1.dim) ∧ (ps.flatMap rowF)[i * 2 + 1]? = some p.2
 | [], i, p, h => by simp at h
 | q :: ps, 0, p, h => by
  obtain rfl : q = p := by simpa using h
  exact ⟨rfl, rfl⟩
 | q :: ps, i + 1, p, h => by
  have := rowF_at ps i p (by simpa using h)
  rw [List.flatMap_cons]
  have e1 : (i + 1) * 2 = i * 2 + 1 + 1 := by omega
  rw [e1]
  exact this

theorem own_trees {w : World} {base e n : Nat} {v : Value} {ps : List (TreeP × Value)} (h : w.ownsRow base e 2 v n (ps.flatMap rowF)) (hn : n = ps.length) (hs : n ≤ 1000)
  (hp : ∀ p ∈ ps, NodesR w p.2 p.1.nodes) : TreesR w v (ps.map (·.1)) := by
 subst hn
 rcases h.2 with ⟨rfl, h0⟩ | ⟨g, cap, cur, rfl, hb, hg, h1, h2, h3, h4⟩
 ·have : ps = [] := List.eq_nil_of_length_eq_zero h0
  subst this
  exact ⟨none, 0, rfl, by simp, by omega, by simp, fun i x hi => by simp at hi⟩
 ·refine ⟨some ⟨g, 0, none⟩, cap, by rw [List.length_map], by rw [List.length_map]; exact h1, by simpa [maxLen] using h2, by rw [List.length_map]; omega, fun i t hi => ?_⟩
  rw [List.getElem?_map] at hi
  cases hpi : ps[i]? with
  | none => rw [hpi] at hi; cases hi
  | some p =>
   rw [hpi] at hi
   obtain rfl : p.1 = t := by simpa using hi
   have hlt : i < ps.length := (List.getElem?_eq_some_iff.1 hpi).1
   obtain ⟨r0, r1⟩ := rowF_at ps i p hpi
   have c0 := (h.cellAt (i * 2) (by omega)).trans r0
   have c1 := (h.cellAt (i * 2 + 1) (by omega)).trans r1
   exact ⟨g, 0, p.2, rfl, (Array.getElem?_eq_some_iff.1 hg).1, by rw [Nat.zero_add]; exact c0, by rw [Nat.zero_add]; exact c1, hp p (List.mem_of_getElem? hpi)⟩
end Go.Proofs.YtgobbecpnjelmaaGreat

namespace Go.Proofs.YtgobbecpnjelmaaGreat
open Go.RowKit

/-- v is a slice of trees and when they were grown. -/
def GrownsR (w : World) (v : Value) (l : List (TreeP × Int)) : Prop :=
 ∃ a c, v = .slice a l.length c ∧ l.length ≤ c ∧ c ≤ 9223372036854775807 ∧ l.length ≤ 140737488351232 ∧
  ∀ (i : Nat) (p : TreeP × Int), l[i]? = some p → ∃ b o nv, a = some ⟨b, o, none⟩ ∧ b < w.heap.size ∧ w.cell? ⟨b, o + i * 3, none⟩ = some (.int .i64 p.1.dim) ∧ w.cell? ⟨b, o + i * 3 + 1, none⟩ = some nv ∧ w.cell? ⟨b, o + i * 3 + 2, none⟩ = some (.int .i64 p.2) ∧ Ok64 p.2 ∧ NodesR w nv p.1.nodes

theorem GrownsR.below {w w' : World} {v : Value} {l : List (TreeP × Int)} (h : GrownsR w v l) (B : Below w.heap.size w w') : GrownsR w' v l := by
 obtain ⟨a, c, e, h1, h2, h3, h⟩ := h
 refine ⟨a, c, e, h1, h2, h3, fun i p hi => ?_⟩
 obtain ⟨b, o, nv, e, hb, c0, c1, c2, hw, hn⟩ := h i p hi
 exact ⟨b, o, nv, e, Nat.lt_of_lt_of_le hb B.size, (B.cell (p := ⟨b, _, none⟩) hb).trans c0, (B.cell (p := ⟨b, _, none⟩) hb).trans c1, (B.cell (p := ⟨b, _, none⟩) hb).trans c2, hw, hn.below B⟩

theorem GrownsR.shape {w : World} {v : Value} {l : List (TreeP × Int)} (h : GrownsR w v l) : ∃ a c, v = .slice a l.length c := by
 obtain ⟨a, c, e, _⟩ := h
 exact ⟨a, c, e⟩

/-- v is a tree and when it was grown. -/
def GrownV (w : World) (v : Value) (g : TreeP × Int) : Prop := ∃ nv, v = .agg #[.int .i64 g.1.dim, nv, .int .i64 g.2] ∧ Ok64 g.2 ∧ NodesR w nv g.1.nodes

theorem GrownV.below {w w' : World} {v : Value} {g : TreeP × Int} (h : GrownV w v g) (B : Below w.heap.size w w') : GrownV w' v g := by
 obtain ⟨nv, e, h1, h2⟩ := h
 exact ⟨nv, e, h1, h2.below B⟩

/-- A row of grown trees with the values of their nodes. -/
abbrev GrV := (TreeP × Int) × Value

def rowG (p : GrV) : List Value := [.int .i64 p.1.1.dim, p.2, .int .i64 p.1.2]

theorem rowG_at : ∀ (ps : List GrV) (i : Nat) (p : GrV), ps[i]? = some p → (ps.flatMap rowG)[i * 3]? = some (.int .i64 p.1.1.dim) ∧ (ps.flatMap rowG)[i * 3 + 1]? = some p.2 ∧ (ps.flatMap rowG)[i * 3 + 2]? = some (.int .i64 p.1.2)
 | [], i, p, h => by simp at h
 | q :: ps, 0, p, h => by
  obtain rfl : q = p := by simpa using h
  exact ⟨rfl, rfl, rfl⟩
 | q :: ps, i + 1, p, h => by
  have := rowG_at ps i p (by simpa using h)
  rw [List.flatMap_cons]
  have e1 : (i + 1) * 3 = i * 3 + 1 + 1 + 1 := by omega
  rw [e1]
  exact this

theorem own_growns {w : World} {base e n : Nat} {v : Value} {ps : List GrV} (h : w.ownsRow base e 3 v n (ps.flatMap rowG)) (hn : n = ps.length) (hs : n ≤ 1000)
  (hp : ∀ p ∈ ps, Ok64 p.1.2 ∧ NodesR w p.2 p.1.1.nodes) : GrownsR w v (ps.map (·.1)) := by
 subst hn
 rcases h.2 with ⟨rfl, h0⟩ | ⟨g, cap, cur, rfl, hb, hg, h1, h2, h3, h4⟩
 ·have : ps = [] := List.eq_nil_of_length_eq_zero h0
  subst this
  exact ⟨none, 0, rfl, by simp, by omega, by simp, fun i x hi => by simp at hi⟩
 ·refine ⟨some ⟨g, 0, none⟩, cap, by rw [List.length_map], by rw [List.length_map]; exact h1, by simpa [maxLen] using h2, by rw [List.length_map]; omega, fun i t hi => ?_⟩
  rw [List.getElem?_map] at hi
  cases hpi : ps[i]? with
  | none => rw [hpi] at hi; cases hi
  | some p =>
   rw [hpi] at hi
   obtain rfl : p.1 = t := by simpa using hi
   have hlt : i < ps.length := (List.getElem?_eq_some_iff.1 hpi).1
   obtain ⟨r0, r1, r2⟩ := rowG_at ps i p hpi
   have c0 := (h.cellAt (i * 3) (by omega)).trans r0
   have c1 := (h.cellAt (i * 3 + 1) (by omega)).trans r1
   have c2 := (h.cellAt (i * 3 + 2) (by omega)).trans r2
   have hq := hp p (List.mem_of_getElem? hpi)
   exact ⟨g, 0, p.2, rfl, (Array.getElem?_eq_some_iff.1 hg).1, by rw [Nat.zero_add]; exact c0, by rw [Nat.zero_add]; exact c1, by rw [Nat.zero_add]; exact c2, hq.1, hq.2⟩

/-- The nodes' values of a slice of grown trees. -/
theorem growns_vals {w : World} {v : Value} {l : List (TreeP × Int)} (h : GrownsR w v l) : ∃ ps : List GrV, ps.map (·.1) = l ∧ (∀ p ∈ ps, Ok64 p.1.2 ∧ NodesR w p.2 p.1.1.nodes) ∧ ∃ a c, v = .slice a l.length c ∧
    ∀ (i : Nat) (p : GrV), ps[i]? = some p → ∃ b o, a = some ⟨b, o, none⟩ ∧ b < w.heap.size ∧ w.cell? ⟨b, o + i * 3, none⟩ = some (.int .i64 p.1.1.dim) ∧ w.cell? ⟨b, o + i * 3 + 1, none⟩ = some p.2 ∧ w.cell? ⟨b, o + i * 3 + 2, none⟩ = some (.int .i64 p.1.2) := by
  obtain ⟨a, c, e, _, _, _, h⟩ := h
  obtain ⟨V, hV1, hV2⟩ := list_of_ex (m := l.length) (P := fun i (nv : Value) => ∀ t, l[i]? = some t → ∃ b o, a = some ⟨b, o, none⟩ ∧ b < w.heap.size ∧ w.cell? ⟨b, o + i * 3, none⟩ = some (.int .i64 t.1.dim) ∧ w.cell? ⟨b, o + i * 3 + 1, none⟩ = some nv ∧ w.cell? ⟨b, o + i * 3 + 2, none⟩ = some (.int .i64 t.2) ∧ Ok64 t.2 ∧ NodesR w nv t.1.nodes) (by
    intro i hi
    obtain ⟨t, ht⟩ := getElem?_ex (l := l) (k := i) hi
    obtain ⟨b, o, nv, g1, g2, g3, g4, g5, g6, g7⟩ := h i t ht
    refine ⟨nv, fun t' ht' => ?_⟩
    rw [ht] at ht'
    injection ht' with ht'
    subst ht'
    exact ⟨b, o, g1, g2, g3, g4, g5, g6, g7⟩)
  refine ⟨l.zip V, List.map_fst_zip (by rw [hV1]; exact Nat.le_refl _), fun p hp => ?_, a, c, e, fun i p hp => ?_⟩
  · obtain ⟨i, hi⟩ := List.getElem?_of_mem hp
    rw [List.getElem?_zip_eq_some] at hi
    obtain ⟨_, _, _, _, _, _, _, g6, g7⟩ := hV2 i p.2 hi.2 p.1 hi.1
    exact ⟨g6, g7⟩
  · rw [List.getElem?_zip_eq_some] at hp
    obtain ⟨b, o, g1, g2, g3, g4, g5, _⟩ := hV2 i p.2 hp.2 p.1 hp.1
    exact ⟨b, o, g1, g2, g3, g4, g5⟩

/-! Plain. -/
def bornB (z : Int) : Bool := decide (0 ≤ z) && decide (z ≤ 1099511627776)

noncomputable def stB (l : List (TreeP × Int)) (p : TreeP × Int) : Bool := bornB p.2 && okT (l.map (·.1)) p.1

noncomputable def isF (l : List (TreeP × Int)) : Bool := decide (l.length ≤ 16) && l.all (stB l)

theorem isF_is (l : List (TreeP × Int)) : isF l = (l.all (fun p => bornB p.2) && (decide (l.length ≤ 16) && allT (l.map (·.1)))) := by
 have h : l.all (stB l) = (l.all (fun p => bornB p.2) && allT (l.map (·.1))) := by
  unfold allT
  rw [List.all_map, Bool.eq_iff_iff, Bool.and_eq_true, List.all_eq_true, List.all_eq_true, List.all_eq_true]
  simp only [stB, Bool.and_eq_true, Function.comp]
  exact ⟨fun h => ⟨fun p hp => (h p hp).1, fun p hp => (h p hp).2⟩, fun h p hp => ⟨h.1 p hp, h.2 p hp⟩⟩
 unfold isF
 rw [h]
 cases decide (l.length ≤ 16) <;> cases l.all (fun p => bornB p.2) <;> rfl

theorem isF_at {l : List (TreeP × Int)} (h : isF l = true) {i : Nat} {p : TreeP × Int} (hi : l[i]? = some p) : (0 ≤ p.2 ∧ p.2 ≤ 1099511627776) ∧ treeB p.1 = true ∧ p.1.dim = dim0 (l.map (·.1)) := by
 unfold isF at h
 rw [Bool.and_eq_true, List.all_eq_true] at h
 have := h.2 p (List.mem_of_getElem? hi)
 unfold stB bornB okT at this
 simpa using this

theorem isF_len {l : List (TreeP × Int)} (h : isF l = true) : l.length ≤ 16 := by
 unfold isF at h
 rw [Bool.and_eq_true] at h
 simpa using h.1

def sameG (a b : TreeP × Int) : Bool := decide (a.2 = b.2) && sameT a.1 b.1
end Go.Proofs.YtgobbecpnjelmaaGreat

namespace Go.Proofs.YtgobbecpnjelmaaGreat
open Go.RowKit

set_option maxRecDepth 100000 in
/-- Append of a slice onto a row of the call's own. -/
theorem run_appS {t e : TypeId} {z : Value} {size bytes : Nat} (ht : Tryz.prog.underlying t = some (.slice e)) (hE : EI Tryz.prog e z size bytes) (base : Nat) (v : Value) (n : Nat) (xs : List Value) (W : World) (hown : W.ownsRow base e size v n xs)
  (a : Option Addr) (m c : Nat) (ys : List Value) (hys : ys.length = m * size) (hc : ∀ (j : Nat) (u : Value), ys[j]? = some u → ∃ b o, a = some ⟨b, o, none⟩ ∧ W.cell? ⟨b, o + j, none⟩ = some u) (h1 : ∀ u ∈ ys, u.oneCell' = true)
  (hb : (n + m) * bytes ≤ 140737488355328) (hbase : base ≤ W.heap.size) (ty : TypeId) :
  ∃ v' w', (Builtin.append_ #[t, t] ty #[v, .slice a m c]).run Tryz.prog W = .ok v' w' ∧ w'.ownsRow base e size v' (n + m) (xs ++ ys) ∧ W.grownBy w' v.ownBlock ∧ NewB W v v' := by
 obtain ⟨i, hi, hz, hsize, hby, hzs, hsz, hbp⟩ := hE
 have h63 : n + m ≤ 140737488355328 := Nat.le_trans (Nat.le_mul_of_pos_right _ hbp) hb
 rcases a with _ | ad
 ·have hy0 : ys = [] := by
   cases ys with
   | nil => rfl
   | cons u ys => obtain ⟨b, o, e, _⟩ := hc 0 u rfl; cases e
  subst hy0
  have hm : m = 0 := by
   rcases Nat.eq_zero_or_pos m with h | h
   ·exact h
   ·have := Nat.mul_pos h hsz
    simp at hys
    omega
  subst hm
  have hrun : (Builtin.append_ #[t, t] ty #[v, .slice none 0 c]).run Tryz.prog W = .ok v W := by
   rcases hown.2 with ⟨rfl, h0⟩ | ⟨g, cap, cur, rfl, _, _, hnc, _⟩
   ·simp [Builtin.append_, run_underlying ht, sizeOf, typeInfo, hi, Builtin.lenOf, Builtin.firstCells]
   ·simp [Builtin.append_, run_underlying ht, sizeOf, typeInfo, hi, Builtin.lenOf, Builtin.firstCells, hnc, storeCells]
  exact ⟨v, W, hrun, by simpa using hown, ⟨rfl, rfl, rfl, Nat.le_refl _, fun _ _ _ => rfl⟩, .inl rfl⟩
 ·obtain ⟨v', w', hrun, h2, h3, _, h5⟩ := run_append_own_at (P := Tryz.prog) W base t ty e i z size bytes ht hi hz hsize hby hzs hsz v n xs hown ad m c ys hys (by
   intro j u hu
   obtain ⟨b', o', e, c0⟩ := hc j u hu
   injection e with e
   subst e
   rw [Addr.add_lit]
   exact c0) h1 (by unfold maxLen; omega) hb hbase
  refine ⟨v', w', hrun, h2, h3, ?_⟩
  rcases h5 with h | h
  ·exact .inl h
  ·exact .inr ⟨_, h, Nat.le_refl _⟩

/-- The same, in an ordinary region. -/
theorem appS {ops : Array Oper} {rest : List Oper} {o : Oper} {a : Act} {Q : Exit → Act → World → Prop} (hgd : o.guard = none) (s x : Operand) (t : TypeId)
  (ho : o.op = .call { callee := .builtin .append, args := #[s, x], argTypes := #[t, t] })
  {e : TypeId} {z : Value} {size bytes : Nat} (ht : Tryz.prog.underlying t = some (.slice e)) (hE : EI Tryz.prog e z size bytes) (base : Nat) {v : Value} {n : Nat} {xs : List Value} {W : World} (hs : a.eval s = v) (hown : W.ownsRow base e size v n xs)
  {ad : Option Addr} {m c : Nat} {ys : List Value} (hx : a.eval x = .slice ad m c) (hys : ys.length = m * size) (hc : ∀ (j : Nat) (u : Value), ys[j]? = some u → ∃ b o, ad = some ⟨b, o, none⟩ ∧ W.cell? ⟨b, o + j, none⟩ = some u) (h1 : ∀ u ∈ ys, u.oneCell' = true)
  (hb : (n + m) * bytes ≤ 140737488355328) (hbase : base ≤ W.heap.size)
  (h : ∀ v' w', w'.ownsRow base e size v' (n + m) (xs ++ ys) → W.grownBy w' v.ownBlock → NewB W v v' → wpList Tryz.prog ops Q rest (a.put o.dst v') w') : wpList Tryz.prog ops Q (o :: rest) a W := by
 obtain ⟨v', w', hrun, h2, h3, h4⟩ := run_appS ht hE base v n xs W hown ad m c ys hys hc h1 hb hbase o.type
 refine wpList_plain hgd fun K hK => ?_
 unfold Oper.wp execOp
 simp only [ho, resolve, invoke, builtin, Sem.run_bind, Sem.run_pure, Result.andThen_ok, List.map_toArray, List.map_cons, List.map_nil, hs, hx, hrun]
 exact hK _ _ (h v' w' h2 h3 h4)

theorem rowN_set : ∀ (ps : List (NodeP × Value)) (i : Nat) (p : NodeP × Value) (u : Value), ps[i]? = some p → (ps.flatMap rowN).set (i * 5) u = (ps.set i (p.1, u)).flatMap rowN
 | [], i, p, u, h => by simp at h
 | q :: ps, 0, p, u, h => by
  obtain rfl : q = p := by simpa using h
  rfl
 | q :: ps, i + 1, p, u, h => by
  have := rowN_set ps i p u (by simpa using h)
  rw [List.set_cons_succ, List.flatMap_cons, List.flatMap_cons, ← this, show (i + 1) * 5 = i * 5 + 1 + 1 + 1 + 1 + 1 by omega]
  rfl

theorem set_same {α : Type} {l : List α} {k : Nat} {x : α} (h : l[k]? = some x) : l.set k x = l := by
 apply List.ext_getElem?
 intro j
 rw [List.getElem?_set]
 split
 ·rename_i e
  subst e
  rw [h, if_pos (List.getElem?_eq_some_iff.1 h).1]
 ·rfl

theorem own_setAt {w : World} {base e size n g c : Nat} {xs : List Value} (h : w.ownsRow base e size (.slice (some ⟨g, 0, none⟩) n c) n xs) (i : Nat) (u : Value) : (w.setCell ⟨g, i, none⟩ u).ownsRow base e size (.slice (some ⟨g, 0, none⟩) n c) n (xs.set i u) := by
 obtain ⟨cur, _, _, h3, h4, h5, h6, h7, h8⟩ := own_rowAt h
 refine rowAt_own h3 (h4.set i u) h5 h6 (by simp [h7]) ?_
 rw [← h8, Array.toList_setIfInBounds, List.take_set]

theorem ints_kept' {w w' : World} {v : Value} {l : List Int} (h : Ints .i64 w v l) (hk : l ≠ [] → ∀ g, AtB v g → w'.heap[g]? = w.heap[g]?) (hz : w.heap.size ≤ w'.heap.size) : Ints .i64 w' v l := by
 obtain ⟨a, c, rfl, h1, h2, h3, h4⟩ := h
 refine ⟨a, c, rfl, h1, h2, h3, fun i x hi => ?_⟩
 obtain ⟨b, o, rfl, hb, hc⟩ := h4 i x hi
 exact ⟨b, o, rfl, Nat.lt_of_lt_of_le hb hz, (World.cell?_of_block (a := ⟨b, _, none⟩) (hk (fun e => by rw [e] at hi; simp at hi) b ⟨o, _, _, rfl⟩)).trans hc⟩

/-- A tree under way that is copied: its struct at T, its nodes, each with the value of its parts. -/
structure CopyAt (w U : World) (T : Nat) (D : Int) (tv : Value) (l : List NodeP) (k : Nat) : Prop where
 tT : w.heap.size + 1 < T
 rT : RowAt U T 106 #[.int .i64 D, tv]
 rR : RowAt U (w.heap.size + 1) 106 #[.int .i64 0, .slice none 0 0]
 bel : Below w.heap.size w U
 ne : tv.ownBlock ≠ some T
 ex : ∃ qs : List (NodeP × Value), qs.map (·.1) = l ∧ U.ownsRow (w.heap.size + 2) 112 5 tv l.length (qs.flatMap rowN) ∧ (∀ q ∈ qs, Ints .i64 U q.2 q.1.coef ∧ (q.1.coef ≠ [] → ∀ g, AtB q.2 g → g < U.heap.size ∧ g ≠ w.heap.size + 1 ∧ tv.ownBlock ≠ some g)) ∧ ∀ j q, j < k → qs[j]? = some q → q.1.coef ≠ [] → ∀ g, AtB q.2 g → w.heap.size ≤ g

theorem CopyAt.later {w U U1 : World} {T k : Nat} {D : Int} {tv : Value} {l : List NodeP} (S : CopyAt w U T D tv l k) (hb : Below U.heap.size U U1) : CopyAt w U1 T D tv l k := by
 obtain ⟨qs, h1, h2, h3, h4⟩ := S.ex
 have hz := S.rR.lt
 refine ⟨S.tT, (hb.block _ S.rT.lt).trans S.rT, (hb.block _ hz).trans S.rR, S.bel.trans (hb.mono S.bel.size), S.ne, qs, h1, own_keep h2 fun g _ hg => hb.block g hg, fun q hq => ?_, h4⟩
 obtain ⟨g1, g2⟩ := h3 q hq
 exact ⟨g1.below hb, fun h g hg => ⟨Nat.lt_of_lt_of_le (g2 h g hg).1 hb.size, (g2 h g hg).2⟩⟩

theorem CopyAt.step {w U : World} {T : Nat} {D : Int} {l : List NodeP} {g c k : Nat} {nd : NodeP} {cv : Value} (S : CopyAt w U T D (.slice (some ⟨g, 0, none⟩) l.length c) l k) (hk : l[k]? = some nd) (hi : Ints .i64 U cv nd.coef) (hn : ∀ q, AtB cv q → q < U.heap.size ∧ w.heap.size + 1 < q ∧ q ≠ g) :
  CopyAt w (U.setCell ⟨g, k * 5, none⟩ cv) T D (.slice (some ⟨g, 0, none⟩) l.length c) l (k + 1) := by
 obtain ⟨qs, h1, h2, h3, h4⟩ := S.ex
 have hg : w.heap.size + 2 ≤ g ∧ g < U.heap.size := h2.lt g rfl
 have hgT : g ≠ T := fun e => S.ne (by rw [e]; rfl)
 have hlen : qs.length = l.length := by rw [← h1, List.length_map]
 obtain ⟨q, hq⟩ := getElem?_ex (l := qs) (k := k) (by rw [hlen]; exact (List.getElem?_eq_some_iff.1 hk).1)
 have hq1 : q.1 = nd := by
  have : (qs.map (·.1))[k]? = some nd := by rw [h1]; exact hk
  rw [List.getElem?_map, hq] at this
  simpa using this
 refine ⟨S.tT, (Below.heap_setCell _ _ _ _ (Ne.symm hgT)).trans S.rT, (Below.heap_setCell _ _ _ _ (show w.heap.size + 1 ≠ g by omega)).trans S.rR, S.bel.setCell (show w.heap.size ≤ g by omega) _, S.ne, qs.set k (q.1, cv), ?_, ?_, ?_, ?_⟩
 ·rw [← h1, List.map_set]
  exact set_same (by rw [List.getElem?_map, hq]; rfl)
 ·rw [← rowN_set qs k q cv hq]
  exact own_setAt h2 _ _
 ·intro p hp
  rcases List.mem_or_eq_of_mem_set hp with hp | rfl
  ·obtain ⟨g1, g2⟩ := h3 p hp
   refine ⟨ints_kept' g1 (fun h b hb => Below.heap_setCell _ _ _ _ (fun e => (g2 h b hb).2.2 (by have e' : b = g := e; rw [e']; rfl))) (by simp), fun h b hb => ⟨by simpa using (g2 h b hb).1, (g2 h b hb).2⟩⟩
  ·rw [hq1]
   refine ⟨ints_kept' hi (fun _ b hb => Below.heap_setCell _ _ _ _ (fun e => (hn b hb).2.2 e)) (by simp), fun _ b hb => ⟨by simpa using (hn b hb).1, by have := (hn b hb).2.1; omega, fun e => ?_⟩⟩
   have e' : g = b := by simpa [Value.ownBlock] using e
   exact (hn b hb).2.2 e'.symm
 ·intro j p hj hp hne b hb
  rw [List.getElem?_set] at hp
  by_cases e : k = j
  ·subst e
   rw [if_pos rfl, if_pos (List.getElem?_eq_some_iff.1 hq).1] at hp
   injection hp with hp
   subst hp
   have := (hn b hb).2.1
   omega
  ·rw [if_neg e] at hp
   exact h4 j p (by omega) hp hne b hb

/-- v is a slice of nodes that lies in blocks from B on. -/
def NodesF (B : Nat) (w : World) (v : Value) (l : List NodeP) : Prop := ∀ W : World, (∀ b, B ≤ b → b < w.heap.size → W.heap[b]? = w.heap[b]?) → w.heap.size ≤ W.heap.size → NodesR W v l

/-- v is a slice of nodes that lies outside of the block r. -/
def Apart (r : Option Nat) (w : World) (v : Value) (l : List NodeP) : Prop := ∀ W : World, (∀ b, r ≠ some b → b < w.heap.size → W.heap[b]? = w.heap[b]?) → w.heap.size ≤ W.heap.size → NodesR W v l

theorem NodesF.now {B : Nat} {w : World} {v : Value} {l : List NodeP} (h : NodesF B w v l) : NodesR w v l := h w (fun _ _ _ => rfl) (Nat.le_refl _)

theorem NodesF.apart {B : Nat} {w : World} {v : Value} {l : List NodeP} (h : NodesF B w v l) {r : Option Nat} (hr : ∀ b, r = some b → b < B) : Apart r w v l := fun W hW hz => h W (fun b h1 h2 => hW b (fun e => by have := hr b e; omega) h2) hz

theorem Apart.now {r : Option Nat} {w : World} {v : Value} {l : List NodeP} (h : Apart r w v l) : NodesR w v l := h w (fun _ _ _ => rfl) (Nat.le_refl _)

theorem Apart.later {r : Option Nat} {w w1 : World} {v : Value} {l : List NodeP} (h : Apart r w v l) (hb : Below w.heap.size w w1) : Apart r w1 v l := fun W hW hz =>
 h W (fun b h1 h2 => (hW b h1 (Nat.lt_of_lt_of_le h2 hb.size)).trans (hb.block b h2)) (Nat.le_trans hb.size hz)

theorem Apart.grown {w w1 : World} {u u' v : Value} {l : List NodeP} (h : Apart u.ownBlock w v l) (hg : w.grownBy w1 u.ownBlock) (hn : NewB w u u') : Apart u'.ownBlock w1 v l := fun W hW hz =>
 h W (fun b h1 h2 => (hW b (fun e => by
  rcases hn with e2 | ⟨q, e2, hq⟩
  ·exact h1 (by rw [← e2]; exact e)
  ·rw [e2] at e
   injection e with e
   omega) (Nat.lt_of_lt_of_le h2 hg.size)).trans (hg.block b h2 (fun e => h1 e.symm))) (Nat.le_trans hg.size hz)

theorem NodesF.below {B : Nat} {w w1 : World} {v : Value} {l : List NodeP} (h : NodesF B w v l) (hb : Below w.heap.size w w1) : NodesF B w1 v l := fun W hW hz =>
 h W (fun b h1 h2 => (hW b h1 (Nat.lt_of_lt_of_le h2 hb.size)).trans (hb.block b h2)) (Nat.le_trans hb.size hz)

theorem CopyAt.fin {w U : World} {T : Nat} {D : Int} {tv a b : Value} {l : List NodeP} (S : CopyAt w U T D tv l l.length) (hl : l.length ≤ 100000) : NodesF w.heap.size ((U.setCell ⟨w.heap.size + 1, 0, none⟩ a).setCell ⟨w.heap.size + 1, 1, none⟩ b) tv l := by
 obtain ⟨qs, h1, h2, h3, h4⟩ := S.ex
 intro W hW hz
 simp only [World.size_setCell] at hz
 have hk : ∀ q, w.heap.size ≤ q → q < U.heap.size → q ≠ w.heap.size + 1 → W.heap[q]? = U.heap[q]? := fun q hq hq2 hne => (hW q hq (by simpa using hq2)).trans ((Below.heap_setCell _ _ _ _ hne).trans (Below.heap_setCell _ _ _ _ hne))
 have := own_nodes (own_at h2 fun g hg => hk g (by have := (h2.lt g hg).1; omega) (h2.lt g hg).2 (by have := (h2.lt g hg).1; omega)) (by rw [← h1, List.length_map]) hl fun p hp => by
  obtain ⟨j, hj⟩ := List.getElem?_of_mem hp
  have hjl : j < l.length := by have := (List.getElem?_eq_some_iff.1 hj).1; rw [← h1, List.length_map]; exact this
  exact ints_kept' (h3 p hp).1 (fun h g hg => hk g (h4 j p hjl hj h g hg) ((h3 p hp).2 h g hg).1 ((h3 p hp).2 h g hg).2.1) (by simpa using hz)
 rw [h1] at this
 exact this

theorem CopyAt.cells {w U : World} {T : Nat} {D : Int} {g c k : Nat} {l : List NodeP} {nd : NodeP} (S : CopyAt w U T D (.slice (some ⟨g, 0, none⟩) l.length c) l k) (hk : l[k]? = some nd) :
  ∃ cv, Ints .i64 U cv nd.coef ∧ U.cell? ⟨g, k * 5, none⟩ = some cv ∧ U.cell? ⟨g, k * 5 + 1, none⟩ = some (.int .i64 nd.at_) ∧ U.cell? ⟨g, k * 5 + 2, none⟩ = some (.int .i64 nd.left) ∧ U.cell? ⟨g, k * 5 + 3, none⟩ = some (.int .i64 nd.right) ∧ U.cell? ⟨g, k * 5 + 4, none⟩ = some (.int .i64 nd.size) ∧ ∀ o, U.frozen? ⟨g, o, none⟩ = false := by
 obtain ⟨qs, h1, h2, h3, h4⟩ := S.ex
 have hlen : qs.length = l.length := by rw [← h1, List.length_map]
 have hkl := (List.getElem?_eq_some_iff.1 hk).1
 obtain ⟨q, hq⟩ := getElem?_ex (l := qs) (k := k) (by rw [hlen]; exact hkl)
 have hq1 : q.1 = nd := by
  have : (qs.map (·.1))[k]? = some nd := by rw [h1]; exact hk
  rw [List.getElem?_map, hq] at this
  simpa using this
 obtain ⟨r0, r1, r2, r3, r4⟩ := rowN_at qs k q hq
 obtain ⟨cur, _, _, _, hrow, _⟩ := own_rowAt h2
 rw [hq1] at r1 r2 r3 r4
 exact ⟨q.2, hq1 ▸ (h3 q (List.mem_of_getElem? hq)).1, (h2.cellAt (k * 5) (by omega)).trans r0, (h2.cellAt (k * 5 + 1) (by omega)).trans r1, (h2.cellAt (k * 5 + 2) (by omega)).trans r2, (h2.cellAt (k * 5 + 3) (by omega)).trans r3, (h2.cellAt (k * 5 + 4) (by omega)).trans r4, fun o => hrow.frozen o⟩
end Go.Proofs.YtgobbecpnjelmaaGreat

namespace Go.Proofs.YtgobbecpnjelmaaGreat
open Go.RowKit

abbrev AskT := Int × Int × List Int × Int × Int

def askT0 : AskT := (0, 0, [], 0, 0)

end Go.Proofs.YtgobbecpnjelmaaGreat

namespace Go.Proofs.YtgobbecpnjelmaaGreat
open Go.ChangeShapes Go.WideShapes Go.ChangeAt Go.RowKit Go.Deep

/-- v is a slice of trees and when they were grown. -/
def ArgGrowns (w : World) (v : Value) (l : List (TreeP × Int)) : Prop :=
 ∃ a c, v = .slice a l.length c ∧ l.length ≤ c ∧ c ≤ 9223372036854775807 ∧
  ∀ (i : Nat) (p : TreeP × Int), l[i]? = some p → ∃ b o nv, a = some ⟨b, o, none⟩ ∧ b < w.heap.size ∧ w.cell? ⟨b, o + i * 3, none⟩ = some (.int .i64 p.1.dim) ∧ w.cell? ⟨b, o + i * 3 + 1, none⟩ = some nv ∧ w.cell? ⟨b, o + i * 3 + 2, none⟩ = some (.int .i64 p.2) ∧ (Lit.int .i64 p.2).wf = true ∧ ArgNodes w nv p.1.nodes

theorem ArgGrowns.below {w w' : World} {v : Value} {l : List (TreeP × Int)} (h : ArgGrowns w v l) (B : Below w.heap.size w w') : ArgGrowns w' v l := by
 obtain ⟨a, c, e, h1, h2, h⟩ := h
 refine ⟨a, c, e, h1, h2, fun i p hi => ?_⟩
 obtain ⟨b, o, nv, e, hb, c0, c1, c2, cw, hn⟩ := h i p hi
 exact ⟨b, o, nv, e, Nat.lt_of_lt_of_le hb B.size, (B.cell (p := ⟨b, _, none⟩) hb).trans c0, (B.cell (p := ⟨b, _, none⟩) hb).trans c1, (B.cell (p := ⟨b, _, none⟩) hb).trans c2, cw, hn.below B⟩

/-- v is a tree and when it was grown. -/
def ArgGrown (w : World) (v : Value) (g : TreeP × Int) : Prop := ∃ nv, v = .agg #[.int .i64 g.1.dim, nv, .int .i64 g.2] ∧ (Lit.int .i64 g.2).wf = true ∧ ArgNodes w nv g.1.nodes

theorem ArgGrown.below {w w' : World} {v : Value} {g : TreeP × Int} (h : ArgGrown w v g) (B : Below w.heap.size w w') : ArgGrown w' v g := by
 obtain ⟨nv, e, h1, h2⟩ := h
 exact ⟨nv, e, h1, h2.below B⟩

section
variable {H : Type} {enc : TypeId × Value → H} {P : Program} {w : World} {base : Nat} {held : Bool}
variable {tT tNs tN tC tCo tI : TypeId} {fT0 fT1 fN0 fN1 fN2 fN3 fC0 fC1 : Field}

theorem trod_grown {tP : TypeId} {fP0 fP1 : Field} (hP : P.underlying tP = some (.struct #[fP0, fP1])) (hP0 : fP0.type = tT ∧ fP0.offset = 0 ∧ P.cellsOf fP0.type = 2) (hP1 : fP1.type = tI ∧ fP1.offset = 2 ∧ P.cellsOf fP1.type = 1)
  (R : TreeRows P tT tNs tN tC tCo tI fT0 fT1 fN0 fN1 fN2 fN3 fC0 fC1) (c0 c1 c2 : Value) (fuel : Nat) (y : DataW H × List MemPlace) (h : DataW.trod enc P w base (fun _ => true) held fuel tP [c0, c1, c2] = some y) :
  ∃ q : TreeP × Int, c0 = .int .i64 q.1.dim ∧ c2 = .int .i64 q.2 ∧ (Lit.int .i64 q.2).wf = true ∧ ArgNodes w c1 q.1.nodes := by
 obtain ⟨ys, n', _, _, _, hyl, hf⟩ := DataW.trod_struct hP h
 have h0 := hf 0 fP0 rfl
 have h1 := hf 1 fP1 rfl
 rw [hP0.2.1, hP0.2.2, hP0.1] at h0
 rw [hP1.2.1, hP1.2.2, hP1.1] at h1
 have hys : ∀ j, j < 2 → ∃ q, ys[j]? = some q := fun j hj => getElem?_ex (by rw [hyl]; exact hj)
 obtain ⟨q0, e0⟩ := hys 0 (by omega)
 obtain ⟨q1, e1⟩ := hys 1 (by omega)
 rw [e0] at h0
 rw [e1] at h1
 obtain ⟨z, hz, _, hwf⟩ := DataW.trod_int R.uI h1
 obtain ⟨t, ht, hn⟩ := trod_tree R (c0 := c0) (c1 := c1) h0
 simp at hz
 exact ⟨⟨t, z⟩, ht, hz, hwf, hn⟩

end

end Go.Proofs.YtgobbecpnjelmaaGreat

namespace Go.Proofs.YtgobbecpnjelmaaGreat

theorem sub_BT {t : TreeP} {d : Nat} (hd : t.dim = (d : Int)) {i e h : Nat} {s : Int} (q : Sub t i e h s) (hs : s ≤ 64) : ∃ T : BT, T.cnt = e - i ∧ T.siz = s ∧ T.hgt = h ∧ T.Ok d ∧ ∀ j, j < T.cnt → t.nodes[i + j]? = (T.flat i)[j]? := by
 induction q with
 | @leaf i n hn hl =>
  obtain ⟨l1, l2, l3, l4, l5⟩ := leafB_is hl
  refine ⟨.leaf n.size.toNat, by show 1 = _; omega, by show ((n.size.toNat : Nat) : Int) = _; omega, rfl, ⟨by omega, by omega⟩, fun j hj => ?_⟩
  obtain rfl : j = 0 := by have : j < 1 := hj; omega
  rw [Nat.add_zero, hn]
  show some n = some ⟨[], 0, 0, 0, ((n.size.toNat : Nat) : Int)⟩
  obtain ⟨c, a, l, r, z⟩ := n
  simp only at l1 l2 l3 l4 l5
  subst l1 l2 l3 l4
  show some (⟨[], 0, 0, 0, z⟩ : NodeP) = some ⟨[], 0, 0, 0, ((z.toNat : Nat) : Int)⟩
  rw [Int.toNat_of_nonneg (by omega)]
 | @node i m e a b x y n hn hl hc q1 hr q2 hz ih1 ih2 =>
  have p1 := q1.pos
  have p2 := q2.pos
  obtain ⟨L, c1, z1, h1, o1, f1⟩ := ih1 (by omega)
  obtain ⟨R, c2, z2, h2, o2, f2⟩ := ih2 (by omega)
  have lt1 := q1.lt
  have lt2 := q2.lt
  rw [cutB_is, Bool.and_eq_true, Bool.and_eq_true, decide_eq_true_eq, decide_eq_true_eq] at hc
  obtain ⟨⟨hc1, hc2⟩, hc3⟩ := hc
  obtain ⟨_, _, g3, g4⟩ := partsB_yes hc3
  refine ⟨.node n.coef n.at_ L R, by show 1 + L.cnt + R.cnt = _; omega, by show L.siz + R.siz = _; omega, by show 1 + max L.hgt R.hgt = _; rw [h1, h2], ⟨by omega, fun x hx => ?_, by unfold Ok64; omega, o1, o2⟩, fun j hj => ?_⟩
  ·have hc4 := hc3
   unfold partsB at hc4
   simp only [Bool.and_eq_true, List.all_eq_true, decide_eq_true_eq] at hc4
   have := hc4.1.2 x hx
   unfold Ok64
   omega
  ·have hj' : j < 1 + L.cnt + R.cnt := hj
   cases j with
   | zero =>
    rw [Nat.add_zero, hn]
    show some n = some ⟨n.coef, n.at_, (i : Int) + 1, ((i + 1 + L.cnt : Nat) : Int), L.siz + R.siz⟩
    rw [← hl, show ((i + 1 + L.cnt : Nat) : Int) = n.right by rw [hr]; omega, z1, z2, ← hz]
   | succ j =>
    rw [BT.flat, List.getElem?_cons_succ]
    by_cases hjl : j < L.cnt
    ·rw [List.getElem?_append_left (by rw [BT.flat_len]; exact hjl), ← f1 j hjl]
     congr 1
     omega
    ·rw [List.getElem?_append_right (by rw [BT.flat_len]; omega), BT.flat_len, show i + 1 + L.cnt = m by omega, ← f2 (j - L.cnt) (by omega)]
     congr 1
     omega

/-- A tree is what is read of its bytes. -/
theorem tree_BT {t : TreeP} (h : IsTree t) : ∃ (d : Nat) (T : BT), t = ⟨(d : Int), T.flat 0⟩ ∧ 1 ≤ d ∧ d ≤ 8 ∧ T.Ok d ∧ T.hgt < 7 := by
 obtain ⟨d1, d2, g, s, q, hs, hg⟩ := h
 have h6 : g ≤ 6 := Nat.le_trans hg (logI_le hs)
 obtain ⟨T, c1, _, h1, o1, f1⟩ := sub_BT (d := t.dim.toNat) (by omega) q hs
 refine ⟨t.dim.toNat, T, ?_, by omega, by omega, o1, by omega⟩
 have : t.nodes = T.flat 0 := by
  apply List.ext_getElem?
  intro j
  by_cases hj : j < T.cnt
  ·have := f1 j hj
   rwa [Nat.zero_add] at this
  ·rw [List.getElem?_eq_none (by omega), List.getElem?_eq_none (by rw [BT.flat_len]; omega)]
 rw [← this, Int.toNat_of_nonneg (by omega)]

/-- The bytes of a tree, of a forest. -/
noncomputable def treeBy (t : TreeP) : List Int := if treeB t = true then putsU t.dim.toNat ++ t.nodes.flatMap encN else []

noncomputable def grownBy' (p : TreeP × Int) : List Int := putsU p.2.toNat ++ treeBy p.1

noncomputable def forestBy (f : List (TreeP × Int)) : List Int := if isF f = true then putsU f.length ++ f.flatMap grownBy' else []

def tree0 : TreeP := ⟨0, []⟩

/-- Which tree any bytes are from a place on. -/
noncomputable def gT (l : List Int) (a : Nat) (e : Int) : TreeP × Nat × Int :=
 if (rdN' l a e 8).2.2 ≠ 0 then (tree0, (rdN' l a e 8).2.1, (rdN' l a e 8).2.2) else
 if (rdN' l a e 8).1 = 0 then (tree0, (rdN' l a e 8).2.1, 211) else
 match rdNodes l (rdN' l a e 8).1 (rdN' l a e 8).2.1 with
 | (none, p, e') => (tree0, p, e')
 | (some T, p, _) => if treeB ⟨((rdN' l a e 8).1 : Int), T.flat 0⟩ = true then (⟨((rdN' l a e 8).1 : Int), T.flat 0⟩, p, 0) else (tree0, p, 211)

theorem gT_bad {l : List Int} {a d p : Nat} {e e' : Int} (h : rdN' l a e 8 = (d, p, e')) (he : e' ≠ 0) : gT l a e = (tree0, p, e') := by
 unfold gT
 rw [h]
 exact if_pos he

theorem gT_zero {l : List Int} {a p : Nat} {e : Int} (h : rdN' l a e 8 = (0, p, 0)) : gT l a e = (tree0, p, 211) := by
 unfold gT
 rw [h]
 show (if (0 : Int) ≠ 0 then _ else if (0 : Nat) = 0 then _ else _) = _
 rw [if_neg (by simp), if_pos rfl]

theorem gT_none {l : List Int} {a d p p' : Nat} {e e' : Int} (h : rdN' l a e 8 = (d, p, 0)) (hd : d ≠ 0) (hn : rdNodes l d p = (none, p', e')) : gT l a e = (tree0, p', e') := by
 unfold gT
 rw [h]
 show (if (0 : Int) ≠ 0 then _ else if d = 0 then _ else _) = _
 rw [if_neg (by simp), if_neg hd, hn]

theorem gT_some {l : List Int} {a d p p' : Nat} {e e' : Int} {T : BT} (h : rdN' l a e 8 = (d, p, 0)) (hd : d ≠ 0) (hn : rdNodes l d p = (some T, p', e')) :
  gT l a e = if treeB ⟨(d : Int), T.flat 0⟩ = true then (⟨(d : Int), T.flat 0⟩, p', 0) else (tree0, p', 211) := by
 unfold gT
 rw [h]
 show (if (0 : Int) ≠ 0 then _ else if d = 0 then _ else _) = _
 rw [if_neg (by simp), if_neg hd, hn]

theorem gT_spec {l : List Int} (hb : AllB l) {a : Nat} (ha : a ≤ l.length) (e : Int) : (gT l a e).2.1 ≤ l.length ∧ ((gT l a e).2.2 = 0 → e = 0 ∧ treeB (gT l a e).1 = true ∧ Got l a (gT l a e).2.1 (treeBy (gT l a e).1)) ∧ ((gT l a e).2.2 ≠ 0 → (gT l a e).1 = tree0) := by
 rcases h : rdN' l a e 8 with ⟨d, p, e1⟩
 have hp := rdN'_le hb ha e 8
 rw [h] at hp
 simp only at hp
 by_cases he : e1 = 0
 ·subst he
  have hg := gotN hb (l := l) (a := a) (e := e) (most := 8) (by rw [h])
  rw [h] at hg
  simp only at hg
  by_cases hd : d = 0
  ·subst hd
   rw [gT_zero h]
   exact ⟨hp, fun hh => absurd hh (by simp), fun _ => rfl⟩
  ·obtain ⟨n1, s1⟩ := rdB_spec hb d 7 p hp
   rcases hn : rdNodes l d p with ⟨_ | T, p', e'⟩
   ·rw [gT_none h hd hn]
    have := n1 _ _ hn
    exact ⟨this.2, fun hh => absurd hh this.1, fun _ => rfl⟩
   ·obtain ⟨_, q2, _, q4⟩ := s1 _ _ _ hn
    rw [gT_some h hd hn]
    by_cases hB : treeB ⟨(d : Int), T.flat 0⟩ = true
    ·rw [if_pos hB]
     refine ⟨q2, fun _ => ⟨hg.1, hB, ?_⟩, fun hh => absurd rfl hh⟩
     unfold treeBy
     rw [if_pos hB]
     show Got l a p' (putsU ((d : Int)).toNat ++ (T.flat 0).flatMap encN)
     rw [Int.toNat_natCast, BT.flat_enc]
     exact hg.2.1.trans q4
    ·rw [if_neg hB]
     exact ⟨q2, fun hh => absurd hh (by simp), fun _ => rfl⟩
 ·rw [gT_bad h he]
  exact ⟨hp, fun hh => absurd hh he, fun _ => rfl⟩

/-- The bytes of a tree are read as it was. -/
theorem gT_puts {t : TreeP} (h : treeB t = true) (pre rest : List Int) : gT (pre ++ (treeBy t ++ rest)) pre.length 0 = (t, pre.length + (treeBy t).length, 0) := by
 obtain ⟨d, T, rfl, d1, d2, ho, hh⟩ := tree_BT (treeB_true.1 h)
 have e0 : treeBy ⟨(d : Int), T.flat 0⟩ = putsU d ++ T.enc := by
  unfold treeBy
  rw [if_pos h]
  show putsU ((d : Int)).toNat ++ (T.flat 0).flatMap encN = _
  rw [Int.toNat_natCast, BT.flat_enc]
 rw [e0, List.append_assoc]
 have h1 : rdN' (pre ++ (putsU d ++ (T.enc ++ rest))) pre.length 0 8 = (d, pre.length + (putsU d).length, 0) := by
  unfold rdN'
  rw [if_pos rfl]
  exact rdN_puts pre _ d (by omega) 8 (by omega)
 have h2 := rdB_puts T 7 (pre ++ putsU d) rest ho hh
 rw [List.append_assoc, List.length_append] at h2
 rw [gT_some h1 (by omega) h2, if_pos h, List.length_append, Nat.add_assoc]

theorem treeBy_all (t : TreeP) : AllB (treeBy t) := by
 unfold treeBy
 split
 ·rename_i h
  obtain ⟨d, T, rfl, _⟩ := tree_BT (treeB_true.1 h)
  intro x hx
  rw [List.mem_append] at hx
  rcases hx with hx | hx
  ·exact putsU_all _ x hx
  ·change x ∈ (T.flat 0).flatMap encN at hx
   rw [BT.flat_enc] at hx
   exact BT.enc_all T x hx
 ·intro x hx; simp at hx
end Go.Proofs.YtgobbecpnjelmaaGreat

namespace Go.Proofs.YtgobbecpnjelmaaGreat
open Go.RowKit

/-- One tree and when it was born. -/
noncomputable def gG (l : List Int) (a : Nat) (e : Int) : (TreeP × Int) × Nat × Int :=
 let r := rdN' l a e 1099511627776
 let t := gT l r.2.1 r.2.2
 ((t.1, (r.1 : Int)), t.2)

/-- So many trees are read, one behind the other. -/
noncomputable def gFs (l : List Int) : Nat → Nat → Int → List (TreeP × Int) × Nat × Int
 | 0, a, e => ([], a, e)
 | n + 1, a, e => if e ≠ 0 then ([], a, e) else ((gG l a e).1 :: (gFs l n (gG l a e).2.1 (gG l a e).2.2).1, (gFs l n (gG l a e).2.1 (gG l a e).2.2).2)

theorem gG_of {l : List Int} {a b p p2 : Nat} {e e1 e2 : Int} {t : TreeP} (h1 : rdN' l a e 1099511627776 = (b, p, e1)) (h2 : gT l p e1 = (t, p2, e2)) : gG l a e = ((t, (b : Int)), p2, e2) := by
 unfold gG
 rw [h1]
 show (((gT l p e1).1, (b : Int)), (gT l p e1).2) = _
 rw [h2]

theorem gFs_stop (l : List Int) (n a : Nat) {e : Int} (he : e ≠ 0) : gFs l n a e = ([], a, e) := by
 cases n with
 | zero => rfl
 | succ n => exact if_pos he

theorem gFs_step {l : List Int} {n a p2 p3 : Nat} {e2 e3 : Int} {g : TreeP × Int} {fs : List (TreeP × Int)} (h1 : gG l a 0 = (g, p2, e2)) (h3 : gFs l n p2 e2 = (fs, p3, e3)) : gFs l (n + 1) a 0 = (g :: fs, p3, e3) := by
 show (if (0 : Int) ≠ 0 then _ else _) = _
 rw [if_neg (by simp), h1]
 show (g :: (gFs l n p2 e2).1, (gFs l n p2 e2).2) = _
 rw [h3]

theorem gFs_le (l : List Int) : ∀ (n a : Nat) (e : Int), (gFs l n a e).1.length ≤ n
 | 0, a, e => Nat.le_refl _
 | n + 1, a, e => by
  by_cases he : e = 0
  ·subst he
   rw [gFs, if_neg (by simp)]
   have := gFs_le l n (gG l a 0).2.1 (gG l a 0).2.2
   simpa using this
  ·rw [gFs_stop l _ _ he]; simp

/-- Which forest any bytes are from a place on. -/
noncomputable def gFw (l : List Int) (a : Nat) (e : Int) : List (TreeP × Int) × Nat × Int :=
 let r := rdN' l a e 16
 let f := gFs l r.1 r.2.1 r.2.2
 if f.2.2 ≠ 0 then ([], f.2) else if isF f.1 = true then f else ([], f.2.1, 211)

theorem gF_bad {l : List Int} {a n p p2 : Nat} {e e1 e2 : Int} {f : List (TreeP × Int)} (h1 : rdN' l a e 16 = (n, p, e1)) (h2 : gFs l n p e1 = (f, p2, e2)) (he : e2 ≠ 0) : gFw l a e = ([], p2, e2) := by
 unfold gFw
 rw [h1]
 show (if (gFs l n p e1).2.2 ≠ 0 then _ else _) = _
 rw [h2, if_pos he]

theorem gF_yes {l : List Int} {a n p p2 : Nat} {e e1 : Int} {f : List (TreeP × Int)} (h1 : rdN' l a e 16 = (n, p, e1)) (h2 : gFs l n p e1 = (f, p2, 0)) (hf : isF f = true) : gFw l a e = (f, p2, 0) := by
 unfold gFw
 rw [h1]
 show (if (gFs l n p e1).2.2 ≠ 0 then _ else _) = _
 rw [h2, if_neg (by simp), if_pos hf]

theorem gF_no {l : List Int} {a n p p2 : Nat} {e e1 : Int} {f : List (TreeP × Int)} (h1 : rdN' l a e 16 = (n, p, e1)) (h2 : gFs l n p e1 = (f, p2, 0)) (hf : isF f = false) : gFw l a e = ([], p2, 211) := by
 unfold gFw
 rw [h1]
 show (if (gFs l n p e1).2.2 ≠ 0 then _ else _) = _
 rw [h2, if_neg (by simp), if_neg (by simp [hf])]

theorem gG_puts {g : TreeP × Int} (h : treeB g.1 = true) (h0 : 0 ≤ g.2 ∧ g.2 ≤ 1099511627776) (pre rest : List Int) : gG (pre ++ (grownBy' g ++ rest)) pre.length 0 = (g, pre.length + (grownBy' g).length, 0) := by
 obtain ⟨t, b⟩ := g
 simp only at h h0
 have e1 : grownBy' (t, b) = putsU b.toNat ++ treeBy t := rfl
 rw [e1, List.append_assoc]
 have h1 : rdN' (pre ++ (putsU b.toNat ++ (treeBy t ++ rest))) pre.length 0 1099511627776 = (b.toNat, pre.length + (putsU b.toNat).length, 0) := by
  unfold rdN'
  rw [if_pos rfl]
  exact rdN_puts pre _ _ (by omega) _ (by omega)
 have h2 := gT_puts h (pre ++ putsU b.toNat) rest
 rw [List.append_assoc, List.length_append] at h2
 rw [gG_of h1 h2, List.length_append, Nat.add_assoc, Int.toNat_of_nonneg h0.1]

theorem gFs_puts : ∀ (f : List (TreeP × Int)), (∀ g ∈ f, treeB g.1 = true ∧ 0 ≤ g.2 ∧ g.2 ≤ 1099511627776) → ∀ (pre rest : List Int), gFs (pre ++ (f.flatMap grownBy' ++ rest)) f.length pre.length 0 = (f, pre.length + (f.flatMap grownBy').length, 0)
 | [], _, pre, rest => by rw [List.flatMap_nil]; rfl
 | g :: f, h, pre, rest => by
  obtain ⟨g1, g2⟩ := h g (by simp)
  have h1 := gG_puts g1 g2 pre (f.flatMap grownBy' ++ rest)
  have ih := gFs_puts f (fun x hx => h x (List.mem_cons_of_mem _ hx)) (pre ++ grownBy' g) rest
  rw [List.append_assoc, List.length_append] at ih
  rw [List.flatMap_cons, List.append_assoc, List.length_cons, gFs_step h1 ih, List.length_append, Nat.add_assoc]

theorem gF_puts {f : List (TreeP × Int)} (h : isF f = true) (pre rest : List Int) : gFw (pre ++ (forestBy f ++ rest)) pre.length 0 = (f, pre.length + (forestBy f).length, 0) := by
 have e0 : forestBy f = putsU f.length ++ f.flatMap grownBy' := by unfold forestBy; rw [if_pos h]
 rw [e0, List.append_assoc]
 have hl := isF_len h
 have h1 : rdN' (pre ++ (putsU f.length ++ (f.flatMap grownBy' ++ rest))) pre.length 0 16 = (f.length, pre.length + (putsU f.length).length, 0) := by
  unfold rdN'
  rw [if_pos rfl]
  exact rdN_puts pre _ _ (by omega) _ (by omega)
 have h2 := gFs_puts f (fun g hg => by
  obtain ⟨i, hi⟩ := List.getElem?_of_mem hg
  have := isF_at h hi
  exact ⟨this.2.1, this.1⟩) (pre ++ putsU f.length) rest
 rw [List.append_assoc, List.length_append] at h2
 rw [gF_yes h1 h2 h, List.length_append, Nat.add_assoc]

theorem forestBy_all (f : List (TreeP × Int)) : AllB (forestBy f) := by
 unfold forestBy
 split
 ·intro x hx
  rw [List.mem_append] at hx
  rcases hx with hx | hx
  ·exact putsU_all _ x hx
  ·rw [List.mem_flatMap] at hx
   obtain ⟨g, _, hx⟩ := hx
   unfold grownBy' at hx
   rw [List.mem_append] at hx
   rcases hx with hx | hx
   ·exact putsU_all _ x hx
   ·exact treeBy_all _ x hx
 ·intro x hx; simp at hx
end Go.Proofs.YtgobbecpnjelmaaGreat

namespace Go.Proofs.YtgobbecpnjelmaaGreat
open Go.RowKit

theorem Rd.only_rd' {w w' : World} {R : Nat} {v : Value} {l : List Int} {a : Nat} {e : Int} (h : Rd w R v l a e) (hg : w.grownBy w' (some R)) : Ints .u8 w' v l := Ints.only_rd h h.2 hg

def rowW (m : Nat × Int) : List Value := [.int .i64 (m.1 : Int), .int .i64 m.2]

theorem rowW_len (q : List (Nat × Int)) : (q.flatMap rowW).length = q.length * 2 := by
 induction q with
 | nil => rfl
 | cons x q ih => rw [List.flatMap_cons, List.length_append, ih, List.length_cons]; show 2 + _ = _; omega

theorem eiMiss : EI Tryz.prog 164 (.agg #[.int .i64 0, .int .i64 0]) 2 16 := .of rJ rfl (by decide) (by decide)

structure NodeSt (w U : World) (K R : Nat) (v : Value) (l : List Int) (a : Nat) (e : Int) (wv ov : Value) (st : List (Nat × Int)) (ps : List (NodeP × Value)) : Prop where
 hR : R < w.heap.size
 hK : w.heap.size ≤ K ∧ K ≤ U.heap.size
 gr : w.grownBy U (some R)
 rd0 : ∃ a0 e0, Rd w R v l a0 e0
 row : U.heap[R]? = some (.cells #[v, .int .i64 a, .int .i64 e] 127 (0, 0))
 wt : U.ownsRow w.heap.size 164 2 wv st.length (st.reverse.flatMap rowW)
 ou : U.ownsRow w.heap.size 112 5 ov ps.length (ps.flatMap rowN)
 wk : ∀ g, wv.ownBlock = some g → g < K ∧ ov.ownBlock ≠ some g
 ok : ∀ g, ov.ownBlock = some g → g < K
 cf : ∀ p ∈ ps, Ints .i64 U p.2 p.1.coef ∧ (p.1.coef ≠ [] → ∀ g, AtB p.2 g → w.heap.size ≤ g ∧ g < K ∧ wv.ownBlock ≠ some g ∧ ov.ownBlock ≠ some g)

theorem NodeSt.rd {w U : World} {K R : Nat} {v : Value} {l : List Int} {a : Nat} {e : Int} {wv ov : Value} {st : List (Nat × Int)} {ps : List (NodeP × Value)} (S : NodeSt w U K R v l a e wv ov st ps) : Rd U R v l a e := by
 obtain ⟨a0, e0, h⟩ := S.rd0
 exact ⟨S.row, h.only_rd' S.gr⟩

theorem NodeSt.over {w U U' : World} {K R : Nat} {v : Value} {l : List Int} {a a' : Nat} {e e' : Int} {wv ov : Value} {st : List (Nat × Int)} {ps : List (NodeP × Value)} (S : NodeSt w U K R v l a e wv ov st ps)
  (hb : ∀ b, b < K → b ≠ R → U'.heap[b]? = U.heap[b]?) (hz : U.heap.size ≤ U'.heap.size) (hg : w.grownBy U' (some R)) (hr : U'.heap[R]? = some (.cells #[v, .int .i64 a', .int .i64 e'] 127 (0, 0))) : NodeSt w U' K R v l a' e' wv ov st ps := by
 have hR := S.hR
 have hK := S.hK
 refine ⟨S.hR, ⟨hK.1, Nat.le_trans hK.2 hz⟩, hg, S.rd0, hr, own_at S.wt fun g hgo => hb g (S.wk g hgo).1 (by have := (S.wt.lt g hgo).1; omega), own_at S.ou fun g hgo => hb g (S.ok g hgo) (by have := (S.ou.lt g hgo).1; omega), S.wk, S.ok, fun p hp => ?_⟩
 obtain ⟨g1, g2⟩ := S.cf p hp
 exact ⟨ints_kept' g1 (fun h g hgo => hb g (g2 h g hgo).2.1 (by have := (g2 h g hgo).1; omega)) hz, g2⟩

/-- Behind a call of the reader's, or new memory. -/
theorem NodeSt.read {w U U' : World} {K R : Nat} {v : Value} {l : List Int} {a a' : Nat} {e e' : Int} {wv ov : Value} {st : List (Nat × Int)} {ps : List (NodeP × Value)} (S : NodeSt w U K R v l a e wv ov st ps) (h : RdTo U R v l U' a' e') : NodeSt w U' K R v l a' e' wv ov st ps :=
 S.over (fun b hb hne => h.2.block b (Nat.lt_of_lt_of_le hb S.hK.2) (fun e => by injection e with e; exact hne e)) h.2.size (only_trans S.gr h.2) h.1.1

theorem NodeSt.later {w U U' : World} {K R : Nat} {v : Value} {l : List Int} {a : Nat} {e : Int} {wv ov : Value} {st : List (Nat × Int)} {ps : List (NodeP × Value)} (S : NodeSt w U K R v l a e wv ov st ps) (h : Below U.heap.size U U') : NodeSt w U' K R v l a e wv ov st ps :=
 S.read ⟨S.rd.below h, only_below h⟩

theorem NodeSt.set {w U : World} {K R : Nat} {v : Value} {l : List Int} {a : Nat} {e : Int} {wv ov : Value} {st : List (Nat × Int)} {ps : List (NodeP × Value)} (S : NodeSt w U K R v l a e wv ov st ps) (N o : Nat) (u : Value) (hN : K ≤ N) : NodeSt w (U.setCell ⟨N, o, none⟩ u) K R v l a e wv ov st ps := by
 have hR := S.hR
 have hK := S.hK
 refine S.over (fun b hb _ => Below.heap_setCell _ _ _ _ (show b ≠ N by omega)) (by simp) ⟨S.gr.os, S.gr.tape, S.gr.output, by simpa using S.gr.size, fun b hb hn => (Below.heap_setCell _ _ _ _ (show b ≠ N by omega)).trans (S.gr.block b hb hn)⟩ ((Below.heap_setCell _ _ _ _ (show R ≠ N by omega)).trans S.row)

theorem NodeSt.pop {w U : World} {K R : Nat} {v : Value} {l : List Int} {a : Nat} {e : Int} {g c : Nat} {ov : Value} {m : Nat × Int} {rest : List (Nat × Int)} {ps : List (NodeP × Value)} (S : NodeSt w U K R v l a e (.slice (some ⟨g, 0, none⟩) (rest.length + 1) c) ov (m :: rest) ps) :
  NodeSt w U K R v l a e (.slice (some ⟨g, 0, none⟩) rest.length c) ov rest ps := by
 refine ⟨S.hR, S.hK, S.gr, S.rd0, S.row, ?_, S.ou, S.wk, S.ok, S.cf⟩
 have := own_prefix S.wt (k := rest.length) (by simp)
 rw [List.reverse_cons, List.flatMap_append, List.take_left' (by
  rw [rowW_len, List.length_reverse])] at this
 exact this

theorem NodeSt.top {w U : World} {K R : Nat} {v : Value} {l : List Int} {a : Nat} {e : Int} {g c : Nat} {ov : Value} {m : Nat × Int} {rest : List (Nat × Int)} {ps : List (NodeP × Value)} (S : NodeSt w U K R v l a e (.slice (some ⟨g, 0, none⟩) (rest.length + 1) c) ov (m :: rest) ps) :
  U.cell? ⟨g, rest.length * 2, none⟩ = some (.int .i64 (m.1 : Int)) ∧ U.cell? ⟨g, rest.length * 2 + 1, none⟩ = some (.int .i64 m.2) := by
 have hl := rowW_len
 have h0 := S.wt.cellAt (rest.length * 2) (by omega)
 have h1 := S.wt.cellAt (rest.length * 2 + 1) (by omega)
 rw [List.reverse_cons, List.flatMap_append, List.getElem?_append_right (by rw [hl, List.length_reverse]; omega), hl, List.length_reverse] at h0 h1
 rw [Nat.sub_self] at h0
 rw [show rest.length * 2 + 1 - rest.length * 2 = 1 by omega] at h1
 exact ⟨h0, h1⟩

/-- Two more must come. -/
theorem NodeSt.push {w U U' : World} {K R : Nat} {v : Value} {l : List Int} {a : Nat} {e : Int} {wv wv' ov : Value} {st : List (Nat × Int)} {ps : List (NodeP × Value)} {m1 m2 : Nat × Int} (S : NodeSt w U K R v l a e wv ov st ps)
  (ho : U'.ownsRow w.heap.size 164 2 wv' (st.length + 2) (st.reverse.flatMap rowW ++ (rowW m1 ++ rowW m2))) (hg : U.grownBy U' wv.ownBlock) (hn : NewB U wv wv') : NodeSt w U' U'.heap.size R v l a e wv' ov (m2 :: m1 :: st) ps := by
 have hR := S.hR
 have hK := S.hK
 have hz := hg.size
 have keep : ∀ b, b < U.heap.size → wv.ownBlock ≠ some b → U'.heap[b]? = U.heap[b]? := fun b h1 h2 => hg.block b h1 (fun e => h2 e.symm)
 have hwl : ∀ g, wv.ownBlock = some g → w.heap.size ≤ g := fun g h => (S.wt.lt g h).1
 have hno : ∀ g, g < K → wv.ownBlock ≠ some g → wv'.ownBlock ≠ some g := fun g h1 h2 => by
  rcases hn with h | ⟨b, h, hb⟩
  ·rw [h]; exact h2
  ·rw [h]; intro e; injection e with e; omega
 have hne : ∀ g, ov.ownBlock = some g → wv.ownBlock ≠ some g := fun g h1 h2 => (S.wk g h2).2 h1
 refine ⟨S.hR, ⟨by omega, Nat.le_refl _⟩, ⟨hg.os.trans S.gr.os, hg.tape.trans S.gr.tape, hg.output.trans S.gr.output, Nat.le_trans S.gr.size hz, fun b h1 h2 => (keep b (by omega) (fun e => by have := hwl b e; omega)).trans (S.gr.block b h1 h2)⟩, S.rd0, (keep R (by omega) (fun e => by have := hwl R e; omega)).trans S.row, ?_, ?_, ?_, ?_, fun p hp => ?_⟩
 ·rw [List.reverse_cons, List.reverse_cons, List.append_assoc, List.flatMap_append, List.flatMap_append]
  simpa using ho
 ·exact own_at S.ou fun g h => keep g (by have := S.ok g h; omega) (hne g h)
 ·intro g h
  refine ⟨(ho.lt g h).2, fun h2 => ?_⟩
  exact hno g (S.ok g h2) (hne g h2) h
 ·intro g h
  have := S.ok g h
  omega
 ·obtain ⟨g1, g2⟩ := S.cf p hp
  refine ⟨ints_kept' g1 (fun h g hgo => keep g (by have := (g2 h g hgo).2.1; omega) (g2 h g hgo).2.2.1) hz, fun h g hgo => ?_⟩
  obtain ⟨q1, q2, q3, q4⟩ := g2 h g hgo
  exact ⟨q1, by omega, hno g q2 q3, q4⟩

def setRV (ps : List (NodeP × Value)) (k : Nat) (r : Int) : List (NodeP × Value) := ps.modify k (fun p => ({ p.1 with right := r }, p.2))

theorem rowN_right : ∀ (ps : List (NodeP × Value)) (k : Nat) (r : Int), k < ps.length → (ps.flatMap rowN).set (k * 5 + 3) (.int .i64 r) = (setRV ps k r).flatMap rowN
 | [], k, r, h => by simp at h
 | q :: ps, 0, r, _ => rfl
 | q :: ps, k + 1, r, h => by
  have := rowN_right ps k r (by simpa using h)
  unfold setRV at this ⊢
  rw [List.modify_succ_cons, List.flatMap_cons, List.flatMap_cons, ← this, show (k + 1) * 5 + 3 = k * 5 + 3 + 1 + 1 + 1 + 1 + 1 by omega]
  rfl

theorem setRV_fst (ps : List (NodeP × Value)) (k : Nat) (r : Int) : (setRV ps k r).map (·.1) = (ps.map (·.1)).modify k (fun n => { n with right := r }) := by
 unfold setRV
 apply List.ext_getElem?
 intro j
 rw [List.getElem?_map, List.getElem?_modify, List.getElem?_modify, List.getElem?_map]
 cases ps[j]? with
 | none => rfl
 | some p =>
  by_cases h : k = j
  ·simp [h]
  ·simp [h]

theorem setRV_mem {ps : List (NodeP × Value)} {k : Nat} {r : Int} {p : NodeP × Value} (h : p ∈ setRV ps k r) : ∃ q ∈ ps, q.2 = p.2 ∧ q.1.coef = p.1.coef := by
 unfold setRV at h
 obtain ⟨j, hj⟩ := List.getElem?_of_mem h
 rw [List.getElem?_modify] at hj
 cases hq : ps[j]? with
 | none => rw [hq] at hj; simp at hj
 | some q =>
  rw [hq] at hj
  refine ⟨q, List.mem_of_getElem? hq, ?_⟩
  by_cases h : k = j
  ·simp [h] at hj
   rw [← hj]
   exact ⟨rfl, rfl⟩
  ·simp [h] at hj
   rw [← hj]
   exact ⟨rfl, rfl⟩

/-- The right part of a node is known. -/
theorem NodeSt.right {w U : World} {K R : Nat} {v : Value} {l : List Int} {a : Nat} {e : Int} {wv : Value} {g n c : Nat} {st : List (Nat × Int)} {ps : List (NodeP × Value)} {k : Nat} {r : Int} (S : NodeSt w U K R v l a e wv (.slice (some ⟨g, 0, none⟩) n c) st ps) (hn : n = ps.length) (hk : k < ps.length) :
  NodeSt w (U.setCell ⟨g, k * 5 + 3, none⟩ (.int .i64 r)) K R v l a e wv (.slice (some ⟨g, 0, none⟩) n c) st (setRV ps k r) := by
 subst hn
 have hR := S.hR
 have hK := S.hK
 have hgl := S.ou.lt g rfl
 have hgk := S.ok g rfl
 have keep : ∀ b, b ≠ g → (U.setCell ⟨g, k * 5 + 3, none⟩ (.int .i64 r)).heap[b]? = U.heap[b]? := fun b hb => Below.heap_setCell _ _ _ _ hb
 have hlen : (setRV ps k r).length = ps.length := by unfold setRV; exact List.length_modify _ _ _
 refine ⟨S.hR, ⟨hK.1, by simpa using hK.2⟩, ⟨S.gr.os, S.gr.tape, S.gr.output, by simpa using S.gr.size, fun b h1 h2 => (keep b (by omega)).trans (S.gr.block b h1 h2)⟩, S.rd0, (keep R (by omega)).trans S.row, own_at S.wt fun b hb => keep b (fun e => (S.wk b hb).2 (by rw [e]; rfl)), ?_, S.wk, S.ok, fun p hp => ?_⟩
 ·rw [hlen, ← rowN_right ps k r hk]
  exact own_setAt S.ou _ _
 ·obtain ⟨q, hq, e1, e2⟩ := setRV_mem hp
  obtain ⟨g1, g2⟩ := S.cf q hq
  rw [e1, e2] at g1
  rw [e1, e2] at g2
  exact ⟨ints_kept' g1 (fun h b hb => keep b (fun e => (g2 h b hb).2.2.2 (by rw [e]; rfl))) (by simp), g2⟩

def setSV (ps : List (NodeP × Value)) (k : Nat) (r : Int) : List (NodeP × Value) := ps.modify k (fun p => ({ p.1 with size := r }, p.2))

theorem rowN_size : ∀ (ps : List (NodeP × Value)) (k : Nat) (r : Int), k < ps.length → (ps.flatMap rowN).set (k * 5 + 4) (.int .i64 r) = (setSV ps k r).flatMap rowN
 | [], k, r, h => by simp at h
 | q :: ps, 0, r, _ => rfl
 | q :: ps, k + 1, r, h => by
  have := rowN_size ps k r (by simpa using h)
  unfold setSV at this ⊢
  rw [List.modify_succ_cons, List.flatMap_cons, List.flatMap_cons, ← this, show (k + 1) * 5 + 4 = k * 5 + 4 + 1 + 1 + 1 + 1 + 1 by omega]
  rfl

theorem setSV_fst (ps : List (NodeP × Value)) (k : Nat) (r : Int) : (setSV ps k r).map (·.1) = (ps.map (·.1)).modify k (fun n => { n with size := r }) := by
 unfold setSV
 apply List.ext_getElem?
 intro j
 rw [List.getElem?_map, List.getElem?_modify, List.getElem?_modify, List.getElem?_map]
 cases ps[j]? with
 | none => rfl
 | some p =>
  by_cases h : k = j
  ·simp [h]
  ·simp [h]

theorem setSV_mem {ps : List (NodeP × Value)} {k : Nat} {r : Int} {p : NodeP × Value} (h : p ∈ setSV ps k r) : ∃ q ∈ ps, q.2 = p.2 ∧ q.1.coef = p.1.coef := by
 unfold setSV at h
 obtain ⟨j, hj⟩ := List.getElem?_of_mem h
 rw [List.getElem?_modify] at hj
 cases hq : ps[j]? with
 | none => rw [hq] at hj; simp at hj
 | some q =>
  rw [hq] at hj
  refine ⟨q, List.mem_of_getElem? hq, ?_⟩
  by_cases h : k = j
  ·simp [h] at hj
   rw [← hj]
   exact ⟨rfl, rfl⟩
  ·simp [h] at hj
   rw [← hj]
   exact ⟨rfl, rfl⟩

/-- What comes to a node is known. -/
theorem NodeSt.size {w U : World} {K R : Nat} {v : Value} {l : List Int} {a : Nat} {e : Int} {wv : Value} {g n c : Nat} {st : List (Nat × Int)} {ps : List (NodeP × Value)} {k : Nat} {r : Int} (S : NodeSt w U K R v l a e wv (.slice (some ⟨g, 0, none⟩) n c) st ps) (hn : n = ps.length) (hk : k < ps.length) :
  NodeSt w (U.setCell ⟨g, k * 5 + 4, none⟩ (.int .i64 r)) K R v l a e wv (.slice (some ⟨g, 0, none⟩) n c) st (setSV ps k r) := by
 subst hn
 have hR := S.hR
 have hK := S.hK
 have hgl := S.ou.lt g rfl
 have hgk := S.ok g rfl
 have keep : ∀ b, b ≠ g → (U.setCell ⟨g, k * 5 + 4, none⟩ (.int .i64 r)).heap[b]? = U.heap[b]? := fun b hb => Below.heap_setCell _ _ _ _ hb
 have hlen : (setSV ps k r).length = ps.length := by unfold setSV; exact List.length_modify _ _ _
 refine ⟨S.hR, ⟨hK.1, by simpa using hK.2⟩, ⟨S.gr.os, S.gr.tape, S.gr.output, by simpa using S.gr.size, fun b h1 h2 => (keep b (by omega)).trans (S.gr.block b h1 h2)⟩, S.rd0, (keep R (by omega)).trans S.row, own_at S.wt fun b hb => keep b (fun e => (S.wk b hb).2 (by rw [e]; rfl)), ?_, S.wk, S.ok, fun p hp => ?_⟩
 ·rw [hlen, ← rowN_size ps k r hk]
  exact own_setAt S.ou _ _
 ·obtain ⟨q, hq, e1, e2⟩ := setSV_mem hp
  obtain ⟨g1, g2⟩ := S.cf q hq
  rw [e1, e2] at g1
  rw [e1, e2] at g2
  exact ⟨ints_kept' g1 (fun h b hb => keep b (fun e => (g2 h b hb).2.2.2 (by rw [e]; rfl))) (by simp), g2⟩

/-- One more node. -/
theorem NodeSt.add {w U U' : World} {K R : Nat} {v : Value} {l : List Int} {a : Nat} {e : Int} {wv ov ov' cv : Value} {st : List (Nat × Int)} {ps : List (NodeP × Value)} {n : NodeP} (S : NodeSt w U K R v l a e wv ov st ps)
  (hi : Ints .i64 U cv n.coef) (hc : n.coef ≠ [] → ∀ g, AtB cv g → w.heap.size ≤ g ∧ g < U.heap.size ∧ wv.ownBlock ≠ some g ∧ ov.ownBlock ≠ some g)
  (ho : U'.ownsRow w.heap.size 112 5 ov' (ps.length + 1) (ps.flatMap rowN ++ rowN (n, cv))) (hg : U.grownBy U' ov.ownBlock) (hn : NewB U ov ov') : NodeSt w U' U'.heap.size R v l a e wv ov' st (ps ++ [(n, cv)]) := by
 have hR := S.hR
 have hK := S.hK
 have hz := hg.size
 have keep : ∀ b, b < U.heap.size → ov.ownBlock ≠ some b → U'.heap[b]? = U.heap[b]? := fun b h1 h2 => hg.block b h1 (fun e => h2 e.symm)
 have hwl : ∀ g, ov.ownBlock = some g → w.heap.size ≤ g := fun g h => (S.ou.lt g h).1
 have hno : ∀ g, g < U.heap.size → ov.ownBlock ≠ some g → ov'.ownBlock ≠ some g := fun g h1 h2 => by
  rcases hn with h | ⟨b, h, hb⟩
  ·rw [h]; exact h2
  ·rw [h]; intro e; injection e with e; omega
 refine ⟨S.hR, ⟨by omega, Nat.le_refl _⟩, ⟨hg.os.trans S.gr.os, hg.tape.trans S.gr.tape, hg.output.trans S.gr.output, Nat.le_trans S.gr.size hz, fun b h1 h2 => (keep b (by omega) (fun e => by have := hwl b e; omega)).trans (S.gr.block b h1 h2)⟩, S.rd0, (keep R (by omega) (fun e => by have := hwl R e; omega)).trans S.row, own_at S.wt fun g h => keep g (by have := (S.wk g h).1; omega) (S.wk g h).2, ?_, ?_, ?_, fun p hp => ?_⟩
 ·rw [List.length_append, List.flatMap_append]
  simpa using ho
 ·intro g h
  have h1 := S.wk g h
  exact ⟨by omega, hno g (by omega) h1.2⟩
 ·intro g h
  exact (ho.lt g h).2
 ·rcases List.mem_append.1 hp with hp | hp
  ·obtain ⟨g1, g2⟩ := S.cf p hp
   refine ⟨ints_kept' g1 (fun h g hgo => keep g (by have := (g2 h g hgo).2.1; omega) (g2 h g hgo).2.2.2) hz, fun h g hgo => ?_⟩
   obtain ⟨q1, q2, q3, q4⟩ := g2 h g hgo
   exact ⟨q1, by omega, q3, hno g (by omega) q4⟩
  ·obtain rfl : p = (n, cv) := by simpa using hp
   refine ⟨ints_kept' hi (fun h g hgo => keep g (hc h g hgo).2.1 (hc h g hgo).2.2.2) hz, fun h g hgo => ?_⟩
   obtain ⟨q1, q2, q3, q4⟩ := hc h g hgo
   exact ⟨q1, by omega, q3, hno g q2 q4⟩
end Go.Proofs.YtgobbecpnjelmaaGreat

namespace Go.Proofs.YtgobbecpnjelmaaGreat
open Go.RowKit

end Go.Proofs.YtgobbecpnjelmaaGreat
