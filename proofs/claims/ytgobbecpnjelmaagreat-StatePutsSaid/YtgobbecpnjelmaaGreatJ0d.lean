/-
  Frame: What the frames of all statements of this seat share: how an argument that came in reads.
  ArgRows: An argument that is a slice of structs of integers: how it reads.
  ArgTree: Arguments that are trees, or slices of trees: how they read; copseref10.Much.
  BinU: Walk of copselaw21.lives: what must come of every program.
  Laws21: Walk of BinReads.
  Laws21b: Walk of BinOne.
  ArgPair: Arguments that are pairs of integers (by value) and slices of pairs: how they read.
  ArgStruct: Arguments that are structs, by their fields: asks, ways to work, seen events.
-/
import Derived.Test.YtgobbecpnjelmaaGreatJ0a
import Derived.ProofKit
import Derived.OpenShut
import Derived.ShutString
import Derived.ChangeOld
import Derived.Deep.Slices
import Derived.Deep.Fields
import Derived.ChangeSame
import Derived.Test.YtgobbecpnjelmaaGreatJ0b
import Derived.Lib.SlBytesConst
import Derived.BigQuiet
import Derived.Deep.DeepCutAuto
namespace Go.Proofs.YtgobbecpnjelmaaGreat
open Go.ChangeShapes Go.WideShapes Go.ChangeAt Go.RowKit

theorem own : ownKnob Tryz.prog.godebug = none := by kernel_rfl

theorem laidOut : laidOutB Tryz.prog = true := by kernel_rfl

def ArgInts (k : IntKind) (w : World) (v : Value) (l : List Int) : Prop :=
 ∃ a c, v = .slice a l.length c ∧ l.length ≤ c ∧ c ≤ 9223372036854775807 ∧
  (∀ (i : Nat) (x : Int), l[i]? = some x → ∃ b o, a = some ⟨b, o, none⟩ ∧ b < w.heap.size ∧ w.cell? ⟨b, o + i, none⟩ = some (.int k x)) ∧ ∀ x ∈ l, (Lit.int k x).wf = true

theorem ArgInts.ints {k : IntKind} {w : World} {v : Value} {l : List Int} (h : ArgInts k w v l) (hl : l.length ≤ 140737488351232) : Ints k w v l := by
 obtain ⟨a, c, e, h1, h2, h3, _⟩ := h
 exact ⟨a, c, e, h1, h2, hl, h3⟩

theorem wf_i64 {a : Int} (h : (Lit.int .i64 a).wf = true) : -9223372036854775808 ≤ a ∧ a ≤ 9223372036854775807 := by
 have := bounds_i64 h
 omega

theorem wf_ok {a : Int} (h : (Lit.int .i64 a).wf = true) : Ok64 a := wf_i64 h
end Go.Proofs.YtgobbecpnjelmaaGreat

namespace Go.Proofs.YtgobbecpnjelmaaGreat
open Go.ChangeShapes Go.WideShapes Go.ChangeAt Go.RowKit Go.Deep

section
variable {H : Type} {enc : TypeId × Value → H} {P : Program} {w : World} {base : Nat} {spare : Nat → Bool} {held : Bool}

end

theorem list_of_ex {α : Type} : ∀ {m : Nat} {P : Nat → α → Prop}, (∀ j, j < m → ∃ y, P j y) → ∃ l : List α, l.length = m ∧ ∀ j y, l[j]? = some y → P j y
 | 0, P, _ => ⟨[], rfl, fun j y h => by simp at h⟩
 | m + 1, P, h => by
  obtain ⟨l, hl, hp⟩ := list_of_ex (m := m) (P := P) fun j hj => h j (by omega)
  obtain ⟨y, hy⟩ := h m (by omega)
  refine ⟨l ++ [y], by simp [hl], fun j z hz => ?_⟩
  rcases Nat.lt_or_ge j m with hlt | hge
  ·rw [List.getElem?_append_left (by omega)] at hz; exact hp j z hz
  ·have hjl : j < (l ++ [y]).length := (List.getElem?_eq_some_iff.1 hz).1
   have : j = m := by simp at hjl; omega
   subst this
   rw [List.getElem?_append_right (by omega), hl, Nat.sub_self] at hz
   have : y = z := by simpa using hz
   exact this ▸ hy

/-- v is a slice of structs of m integers each. -/
def ArgRows (m : Nat) (w : World) (v : Value) (rows : List (List Int)) : Prop :=
 ∃ a c, v = .slice a rows.length c ∧ rows.length ≤ c ∧ c ≤ 9223372036854775807 ∧
  ∀ (i : Nat) (row : List Int), rows[i]? = some row → row.length = m ∧ ∃ b o, a = some ⟨b, o, none⟩ ∧ b < w.heap.size ∧ ∀ (j : Nat) (x : Int), row[j]? = some x → w.cell? ⟨b, o + (i * m + j), none⟩ = some (.int .i64 x) ∧ Ok64 x

end Go.Proofs.YtgobbecpnjelmaaGreat

namespace Go.Proofs.YtgobbecpnjelmaaGreat
open Go.ChangeShapes Go.WideShapes Go.ChangeAt Go.RowKit Go.Deep

/-- A node of an argument lies from (b, o) on. -/
def ArgNode (w : World) (b o : Nat) (n : NodeP) : Prop :=
 ∃ cv, ArgInts .i64 w cv n.coef ∧ w.cell? ⟨b, o, none⟩ = some cv ∧ w.cell? ⟨b, o + 1, none⟩ = some (.int .i64 n.at_) ∧ w.cell? ⟨b, o + 2, none⟩ = some (.int .i64 n.left) ∧
  w.cell? ⟨b, o + 3, none⟩ = some (.int .i64 n.right) ∧ w.cell? ⟨b, o + 4, none⟩ = some (.int .i64 n.size)

def ArgNodes (w : World) (v : Value) (l : List NodeP) : Prop :=
 ∃ a c, v = .slice a l.length c ∧ l.length ≤ c ∧ c ≤ 9223372036854775807 ∧
  ∀ (i : Nat) (n : NodeP), l[i]? = some n → ∃ b o, a = some ⟨b, o, none⟩ ∧ b < w.heap.size ∧ ArgNode w b (o + i * 5) n

/-- v is a tree. -/
def ArgTree (w : World) (v : Value) (t : TreeP) : Prop := ∃ nv, v = .agg #[.int .i64 t.dim, nv] ∧ ArgNodes w nv t.nodes

def muchN (l : List NodeP) : Bool := decide (200 < l.length) || l.any fun n => decide (20 < n.coef.length)

theorem ArgNodes.nodes {w : World} {v : Value} {l : List NodeP} (h : ArgNodes w v l) (hm : muchN l = false) : NodesR w v l := by
 obtain ⟨a, c, e, h1, h2, h⟩ := h
 unfold muchN at hm
 rw [Bool.or_eq_false_iff, decide_eq_false_iff_not, List.any_eq_false] at hm
 refine ⟨a, c, e, h1, h2, by omega, fun i n hi => ?_⟩
 obtain ⟨b, o, e, hb, cv, g0, g1, g2, g3, g4, g5⟩ := h i n hi
 have hc := hm.2 n (List.mem_of_getElem? hi)
 refine ⟨b, o, e, hb, cv, g0.ints (by simp at hc; omega), g1, g2, g3, g4, g5⟩

theorem ArgTree.tree {w : World} {v : Value} {t : TreeP} (h : ArgTree w v t) (hm : muchN t.nodes = false) : TreeR w v t := by
 obtain ⟨nv, e, h⟩ := h
 exact ⟨nv, e, h.nodes hm⟩

section
variable {H : Type} {enc : TypeId × Value → H} {P : Program} {w : World} {base : Nat} {held : Bool}

theorem trod_ints {t e : TypeId} {k : IntKind} {fuel : Nat} {v : Value} {y : DataW H × List MemPlace} (ht : P.underlying t = some (.slice e)) (he : P.underlying e = some (.int k)) (hc : P.cellsOf e = 1)
  (h : DataW.trod enc P w base (fun _ => true) held fuel t [v] = some y) : ∃ l, ArgInts k w v l := by
 rcases open_ints ht he hc h with ⟨hcs, _⟩ | ⟨x, l, c, zs, hcs, _, hl, hm, hz, _, hcell, hwz⟩
 ·simp at hcs
  subst hcs
  exact ⟨[], none, 0, rfl, by simp, by omega, fun i x h => by simp at h, fun x h => by simp at h⟩
 ·simp at hcs
  subst hcs
  have hz' : zs.length = c := by simpa using hz
  have hlen : (zs.take l).length = l := by rw [List.length_take]; omega
  refine ⟨zs.take l, some x, c, by rw [hlen], by rw [hlen]; exact hl, by simpa [maxLen] using hm, fun i y hi => ?_, fun y hy => hwz y (List.mem_of_mem_take hy)⟩
  have hil : i < l := by have := (List.getElem?_eq_some_iff.1 hi).1; omega
  rw [List.getElem?_take, if_pos hil] at hi
  have h0 := hcell 0 (by omega)
  have h1 := hcell i (by omega)
  obtain ⟨xb, xo, xs⟩ := x
  have hs : xs = none := by
   cases xs with
   | none => rfl
   | some q => simp [Addr.add, World.cell?] at h0; split at h0 <;> simp at h0
  subst hs
  have hadd : (⟨xb, xo, none⟩ : Addr).add i = ⟨xb, xo + i, none⟩ := by unfold Addr.add; split <;> simp_all
  rw [hadd] at h1
  refine ⟨xb, xo, rfl, World.block_lt_of_cell? w ⟨xb, xo + i, none⟩ h1, ?_⟩
  rw [h1]
  simp [hi]

/-- The table's rows of the types of a tree. -/
structure TreeRows (P : Program) (tT tNs tN tC tCo tI : TypeId) (fT0 fT1 fN0 fN1 fN2 fN3 fC0 fC1 : Field) : Prop where
 uI : P.underlying tI = some (.int .i64)
 cI : P.cellsOf tI = 1
 uCo : P.underlying tCo = some (.slice tI)
 uC : P.underlying tC = some (.struct #[fC0, fC1])
 uN : P.underlying tN = some (.struct #[fN0, fN1, fN2, fN3])
 uNs : P.underlying tNs = some (.slice tN)
 uT : P.underlying tT = some (.struct #[fT0, fT1])
 cN : P.cellsOf tN = 5
 cT : P.cellsOf tT = 2
 hC0 : fC0.type = tCo ∧ fC0.offset = 0 ∧ P.cellsOf fC0.type = 1
 hC1 : fC1.type = tI ∧ fC1.offset = 1 ∧ P.cellsOf fC1.type = 1
 hN0 : fN0.type = tC ∧ fN0.offset = 0 ∧ P.cellsOf fN0.type = 2
 hN1 : fN1.type = tI ∧ fN1.offset = 2 ∧ P.cellsOf fN1.type = 1
 hN2 : fN2.type = tI ∧ fN2.offset = 3 ∧ P.cellsOf fN2.type = 1
 hN3 : fN3.type = tI ∧ fN3.offset = 4 ∧ P.cellsOf fN3.type = 1
 hT0 : fT0.type = tI ∧ fT0.offset = 0 ∧ P.cellsOf fT0.type = 1
 hT1 : fT1.type = tNs ∧ fT1.offset = 1 ∧ P.cellsOf fT1.type = 1

variable {tT tNs tN tC tCo tI : TypeId} {fT0 fT1 fN0 fN1 fN2 fN3 fC0 fC1 : Field}

theorem trod_node (R : TreeRows P tT tNs tN tC tCo tI fT0 fT1 fN0 fN1 fN2 fN3 fC0 fC1) {fuel : Nat} {c0 c1 c2 c3 c4 : Value} {y : DataW H × List MemPlace}
  (h : DataW.trod enc P w base (fun _ => true) held fuel tN [c0, c1, c2, c3, c4] = some y) :
  ∃ n : NodeP, ArgInts .i64 w c0 n.coef ∧ c1 = .int .i64 n.at_ ∧ c2 = .int .i64 n.left ∧ c3 = .int .i64 n.right ∧ c4 = .int .i64 n.size := by
 obtain ⟨ys, n', _, _, _, hyl, hf⟩ := DataW.trod_struct R.uN h
 have h0 := hf 0 fN0 rfl
 have h1 := hf 1 fN1 rfl
 have h2 := hf 2 fN2 rfl
 have h3 := hf 3 fN3 rfl
 rw [R.hN0.2.1, R.hN0.2.2, R.hN0.1] at h0
 rw [R.hN1.2.1, R.hN1.2.2, R.hN1.1] at h1
 rw [R.hN2.2.1, R.hN2.2.2, R.hN2.1] at h2
 rw [R.hN3.2.1, R.hN3.2.2, R.hN3.1] at h3
 have hys : ∀ j, j < 4 → ∃ q, ys[j]? = some q := fun j hj => getElem?_ex (by rw [hyl]; exact hj)
 obtain ⟨q0, e0⟩ := hys 0 (by omega)
 obtain ⟨q1, e1⟩ := hys 1 (by omega)
 obtain ⟨q2, e2⟩ := hys 2 (by omega)
 obtain ⟨q3, e3⟩ := hys 3 (by omega)
 rw [e0] at h0
 rw [e1] at h1
 rw [e2] at h2
 rw [e3] at h3
 obtain ⟨xl, hl, _, _⟩ := DataW.trod_int R.uI h1
 obtain ⟨xr, hr, _, _⟩ := DataW.trod_int R.uI h2
 obtain ⟨xs, hs, _, _⟩ := DataW.trod_int R.uI h3
 obtain ⟨zs, m', _, _, _, hzl, hg⟩ := DataW.trod_struct R.uC h0
 have g0 := hg 0 fC0 rfl
 have g1 := hg 1 fC1 rfl
 rw [R.hC0.2.1, R.hC0.2.2, R.hC0.1] at g0
 rw [R.hC1.2.1, R.hC1.2.2, R.hC1.1] at g1
 have hzs : ∀ j, j < 2 → ∃ q, zs[j]? = some q := fun j hj => getElem?_ex (by rw [hzl]; exact hj)
 obtain ⟨p0, d0⟩ := hzs 0 (by omega)
 obtain ⟨p1, d1⟩ := hzs 1 (by omega)
 rw [d0] at g0
 rw [d1] at g1
 obtain ⟨xa, ha, _, _⟩ := DataW.trod_int R.uI g1
 obtain ⟨l, hl0⟩ := trod_ints R.uCo R.uI R.cI g0
 simp at hl hr hs ha
 exact ⟨⟨l, xa, xl, xr, xs⟩, hl0, ha, hl, hr, hs⟩

theorem add_none {a : Addr} (h : a.spot = none) (k : Nat) : a.add k = ⟨a.block, a.off + k, none⟩ := by
 obtain ⟨b, o, s⟩ := a
 simp at h
 subst h
 unfold Addr.add; split <;> simp_all

theorem spot_none {w : World} {x : Addr} {v : Value} (h : w.cell? (x.add 0) = some v) : x.spot = none := by
 obtain ⟨xb, xo, xs⟩ := x
 cases xs with
 | none => rfl
 | some q =>
  exfalso
  have hs : ((⟨xb, xo, some q⟩ : Addr).add 0).spot.isSome = true := rfl
  unfold World.cell? at h
  split at h
  ·rw [if_pos hs] at h; cases h
  ·cases h

theorem trod_nodes (R : TreeRows P tT tNs tN tC tCo tI fT0 fT1 fN0 fN1 fN2 fN3 fC0 fC1) {fuel : Nat} {v : Value} {y : DataW H × List MemPlace}
  (h : DataW.trod enc P w base (fun _ => true) held fuel tNs [v] = some y) : ∃ l, ArgNodes w v l := by
 rcases open_slice R.uNs h with ⟨hcs, _⟩ | ⟨a, len, cap, m, n, D, Pl, hcs, hb, hl, hm, hmm, hx, hi⟩
 ·simp at hcs
  subst hcs
  exact ⟨[], none, 0, rfl, by simp, by omega, fun i x h => by simp at h⟩
 ·simp at hcs hmm
  subst hcs
  subst hmm
  have hs0 : 0 < len → a.spot = none := by
   intro h0
   obtain ⟨cs, hc, _⟩ := hi 0 (by omega)
   rw [R.cN] at hc
   obtain ⟨_, hcl, hat⟩ := World.cells?_some hc
   match cs, hcl with
   | [c0, c1, c2, c3, c4], _ =>
    have a0 := hat 0 (by omega)
    rw [Go.Deep.add_add] at a0
    exact spot_none a0
  have key : ∀ i, i < len → ∃ nd : NodeP, a.spot = none ∧ a.block < w.heap.size ∧ ArgNode w a.block (a.off + i * 5) nd := by
   intro i hil
   obtain ⟨cs, hc, ht⟩ := hi i (by omega)
   rw [R.cN] at hc
   obtain ⟨_, hcl, hat⟩ := World.cells?_some hc
   match cs, hcl with
   | [c0, c1, c2, c3, c4], _ =>
    obtain ⟨nd, g0, rfl, rfl, rfl, rfl⟩ := trod_node R ht
    have a0 := hat 0 (by omega)
    have a1 := hat 1 (by omega)
    have a2 := hat 2 (by omega)
    have a3 := hat 3 (by omega)
    have a4 := hat 4 (by omega)
    rw [Go.Deep.add_add] at a0 a1 a2 a3 a4
    have hs := hs0 (by omega)
    rw [add_none hs] at a0 a1 a2 a3 a4
    exact ⟨nd, hs, World.block_lt_of_cell? w ⟨a.block, _, none⟩ a0, c0, g0, a0, a1, a2, a3, a4⟩
  obtain ⟨l, hll, hlp⟩ := list_of_ex (P := fun i (nd : NodeP) => a.spot = none ∧ a.block < w.heap.size ∧ ArgNode w a.block (a.off + i * 5) nd) key
  refine ⟨l, some a, m, by rw [hll], by omega, by unfold maxLen at hm; omega, fun i nd hi => ?_⟩
  obtain ⟨g1, g2, g3⟩ := hlp i nd hi
  refine ⟨a.block, a.off, ?_, g2, g3⟩
  obtain ⟨ab, ao, sp⟩ := a
  simp at g1
  subst g1
  rfl

theorem trod_tree (R : TreeRows P tT tNs tN tC tCo tI fT0 fT1 fN0 fN1 fN2 fN3 fC0 fC1) {fuel : Nat} {c0 c1 : Value} {y : DataW H × List MemPlace}
  (h : DataW.trod enc P w base (fun _ => true) held fuel tT [c0, c1] = some y) : ∃ t : TreeP, c0 = .int .i64 t.dim ∧ ArgNodes w c1 t.nodes := by
 obtain ⟨ys, n', _, _, _, hyl, hf⟩ := DataW.trod_struct R.uT h
 have h0 := hf 0 fT0 rfl
 have h1 := hf 1 fT1 rfl
 rw [R.hT0.2.1, R.hT0.2.2, R.hT0.1] at h0
 rw [R.hT1.2.1, R.hT1.2.2, R.hT1.1] at h1
 have hys : ∀ j, j < 2 → ∃ q, ys[j]? = some q := fun j hj => getElem?_ex (by rw [hyl]; exact hj)
 obtain ⟨q0, e0⟩ := hys 0 (by omega)
 obtain ⟨q1, e1⟩ := hys 1 (by omega)
 rw [e0] at h0
 rw [e1] at h1
 obtain ⟨d, hd, _, _⟩ := DataW.trod_int R.uI h0
 obtain ⟨l, hl⟩ := trod_nodes R h1
 simp at hd
 exact ⟨⟨d, l⟩, hd, hl⟩

/-- v is a slice of trees. -/
def ArgTrees (w : World) (v : Value) (l : List TreeP) : Prop :=
 ∃ a c, v = .slice a l.length c ∧ l.length ≤ c ∧ c ≤ 9223372036854775807 ∧
  ∀ (i : Nat) (t : TreeP), l[i]? = some t → ∃ b o nv, a = some ⟨b, o, none⟩ ∧ b < w.heap.size ∧ w.cell? ⟨b, o + i * 2, none⟩ = some (.int .i64 t.dim) ∧ w.cell? ⟨b, o + i * 2 + 1, none⟩ = some nv ∧ ArgNodes w nv t.nodes

end

set_option maxRecDepth 100000 in
theorem treeRows : ∃ a b c d e f g h, TreeRows Tryz.prog 106 104 112 110 36 3 a b c d e f g h :=
 ⟨_, _, _, _, _, _, _, _, ⟨Tryz.underlying3, rJ, Tryz.underlying36, Tryz.underlying110, Tryz.underlying112, Tryz.underlying104, Tryz.underlying106, rJ, rJ, ⟨rfl, rfl, rJ⟩, ⟨rfl, rfl, rJ⟩, ⟨rfl, rfl, rJ⟩, ⟨rfl, rfl, rJ⟩, ⟨rfl, rfl, rJ⟩, ⟨rfl, rfl, rJ⟩, ⟨rfl, rfl, rJ⟩, ⟨rfl, rfl, rJ⟩⟩⟩

end Go.Proofs.YtgobbecpnjelmaaGreat

namespace Go.Proofs.YtgobbecpnjelmaaGreat
open Go.RowKit

theorem OwnB.ints {w : World} {base : Nat} {v : Value} {l : List Int} (h : OwnB w base v l) (hl : l.length ≤ 1000000) : Ints .u8 w v l := (Ints.own h (by omega)).2

/-- A reader at its end is left as it is. -/
theorem end_same {w : World} {R : Nat} {v : Value} {l : List Int} {a : Nat} {e0 : Int} (h : Rd w R v l a e0) (ha : a = l.length) (hl : l.length ≤ 100000) : Calls Tryz.prog 66 #[.pointer (some ⟨R, 0, none⟩)] w fun e w' => e = .returned (.tuple #[]) ∧ ∃ d, w' = w.drewN d := by
 subst ha
 have H := hH h
 clear h
 go_enter Tryz.func66, Tryz.ntmps66
 go_wp2_with fail
 refine (bleft_any H.out (Nat.le_refl _) hl).mono ?_
 rintro e w1 ⟨rfl, d, rfl⟩
 go_wp2
 go_end0
 exact ⟨rfl, d, rfl⟩

end Go.Proofs.YtgobbecpnjelmaaGreat

namespace Go.Proofs.YtgobbecpnjelmaaGreat
open Go.RowKit

end Go.Proofs.YtgobbecpnjelmaaGreat

namespace Go.Proofs.YtgobbecpnjelmaaGreat
open Go.RowKit

end Go.Proofs.YtgobbecpnjelmaaGreat

namespace Go.Proofs.YtgobbecpnjelmaaGreat
open Go.ChangeShapes Go.WideShapes Go.ChangeAt Go.RowKit Go.Deep

def pairOf (r : List Int) : Int × Int := (r.getD 0 0, r.getD 1 0)

theorem ArgRows.pairs {w : World} {v : Value} {rows : List (List Int)} (h : ArgRows 2 w v rows) (hl : rows.length ≤ 140737488351232) : PairsR w v (rows.map pairOf) := by
 obtain ⟨a, c, rfl, h1, h2, h3⟩ := h
 refine ⟨a, c, by rw [List.length_map], by rw [List.length_map]; exact h1, h2, by rw [List.length_map]; exact hl, fun i p hi => ?_⟩
 rw [List.getElem?_map] at hi
 cases hr : rows[i]? with
 | none => rw [hr] at hi; cases hi
 | some r =>
  rw [hr] at hi
  obtain ⟨hm, b, o, e, hb, hc⟩ := h3 i r hr
  have hp : p = pairOf r := by simpa using hi.symm
  subst hp
  obtain ⟨x, hx⟩ := getElem?_ex (l := r) (k := 0) (by omega)
  obtain ⟨y, hy⟩ := getElem?_ex (l := r) (k := 1) (by omega)
  refine ⟨b, o, e, hb, ?_, ?_⟩
  ·have := (hc 0 x hx).1
   rw [Nat.add_zero] at this
   unfold pairOf
   rw [getD_of hx]
   exact this
  ·have := (hc 1 y hy).1
   rw [← Nat.add_assoc] at this
   unfold pairOf
   rw [getD_of hy]
   exact this

theorem ArgRows.shape {m : Nat} {w : World} {v : Value} {rows : List (List Int)} (h : ArgRows m w v rows) : ∃ a c, v = .slice a rows.length c ∧ rows.length ≤ c ∧ c ≤ 9223372036854775807 := by
 obtain ⟨a, c, e, h1, h2, _⟩ := h
 exact ⟨a, c, e, h1, h2⟩
end Go.Proofs.YtgobbecpnjelmaaGreat

namespace Go.Proofs.YtgobbecpnjelmaaGreat
open Go.ChangeShapes Go.WideShapes Go.ChangeAt Go.RowKit Go.Deep

theorem structFields {H : Type} {enc : TypeId × Value → H} {P : Program} {w : World} {base : Nat} {held : Bool} {t : TypeId} {fs : Array Field} {cs : List Value} {fuel : Nat} {x : DataW H × List MemPlace}
  (ht : P.underlying t = some (.struct fs)) (h : DataW.trod enc P w base (fun _ => true) held fuel t cs = some x) :
  ∃ n, ∀ (j : Nat) (f : Field), fs.toList[j]? = some f → ∃ y, DataW.trod enc P w base (fun _ => true) held n f.type ((cs.drop f.offset).take (P.cellsOf f.type)) = some y := by
 obtain ⟨ys, n, _, _, _, hyl, hg⟩ := DataW.trod_struct ht h
 refine ⟨n, fun j f hj => ?_⟩
 have hj' : fs[j]? = some f := by simpa using hj
 have hlt : j < fs.size := by
  obtain ⟨h1, _⟩ := Array.getElem?_eq_some_iff.1 hj'
  exact h1
 obtain ⟨y, hy⟩ := getElem?_ex (l := ys) (k := j) (by omega)
 have := hg j f hj'
 rw [hy] at this
 exact ⟨y, this⟩

theorem argFields {H : Type} {enc : TypeId × Value → H} {P : Program} {w : World} {r : Reach} {b0 base : Nat} {held : Bool} {t : TypeId} {fs : Array Field} {v : Value} {d : DataW H} {p : List MemPlace}
  (ht : P.underlying t = some (.struct fs)) (hv : Value.okWide P w r b0 t v) (h : DataW.Trod enc P w base (fun _ => true) held t v d p) :
  ∃ cs : List Value, v = .agg ⟨cs⟩ ∧ cs.length = P.cellsOf t ∧ ∃ n, ∀ (j : Nat) (f : Field), fs.toList[j]? = some f → ∃ y, DataW.trod enc P w base (fun _ => true) held n f.type ((cs.drop f.offset).take (P.cellsOf f.type)) = some y := by
 obtain ⟨cs, rfl, hcs⟩ := okWide_struct ht hv
 obtain ⟨fuel, hf⟩ := h
 obtain ⟨l⟩ := cs
 refine ⟨l, rfl, by simpa using hcs, structFields ht (by simpa [Value.cells] using hf)⟩

theorem one_int {H : Type} {enc : TypeId × Value → H} {P : Program} {w : World} {base : Nat} {held : Bool} {t : TypeId} {n : Nat} {c : Value} {y : DataW H × List MemPlace} (ht : P.underlying t = some (.int .i64)) (h : DataW.trod enc P w base (fun _ => true) held n t [c] = some y) : ∃ z, c = .int .i64 z ∧ Ok64 z := by
 obtain ⟨z, hz, _, hw⟩ := DataW.trod_int ht h
 simp at hz
 exact ⟨z, hz, wf_ok hw⟩

theorem one_bool {H : Type} {enc : TypeId × Value → H} {P : Program} {w : World} {base : Nat} {held : Bool} {t : TypeId} {n : Nat} {c : Value} {y : DataW H × List MemPlace} (ht : P.underlying t = some .bool) (h : DataW.trod enc P w base (fun _ => true) held n t [c] = some y) : ∃ z, c = .bool z := by
 obtain ⟨z, hz, _⟩ := DataW.trod_bool ht h
 simp at hz
 exact ⟨z, hz⟩

end Go.Proofs.YtgobbecpnjelmaaGreat
