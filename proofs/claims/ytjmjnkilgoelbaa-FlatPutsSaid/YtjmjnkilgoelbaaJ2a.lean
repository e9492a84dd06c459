/-
  FlatP: Plain: trees in one row of arrays.
  FlatM: A struct of an integer and rows of integers of the call's own: how it lies, what a change of a row makes of it.
  RowA: Append to a row of integers of the call's own, with where the new row lies.
  RefPathS: Walks of copseref12.All, Sum, Much.
-/
import Derived.Test.YtjmjnkilgoelbaaJ0a
import Derived.Test.YtjmjnkilgoelbaaKPathE
import Derived.Test.YtjmjnkilgoelbaaJ1a
namespace Go.Proofs.Ytjmjnkilgoelbaa
open Go.RowKit

/-- The parts of a node, in a dimension. -/
def coefN (d : Int) (n : NodeP) : List Int := if n.left = 0 then List.replicate d.toNat 0 else n.coef
def leftN (s : Nat) (n : NodeP) : Int := if n.left = 0 then 0 else (s : Int) + n.left
def rightN (s : Nat) (n : NodeP) : Int := if n.left = 0 then 0 else (s : Int) + n.right
def addN (t : TreeP) (i : Nat) (n : NodeP) : Int := if n.left = 0 then (depOf t i : Int) * 1073741824 + normI n.size else 0

/-- The arrays of a tree from a place on. -/
def coefT (t : TreeP) : List Int := t.nodes.flatMap (coefN t.dim)
def atT (t : TreeP) : List Int := t.nodes.map fun n => n.at_
def leftT (s : Nat) (t : TreeP) : List Int := t.nodes.map (leftN s)
def rightT (s : Nat) (t : TreeP) : List Int := t.nodes.map (rightN s)
def addT (t : TreeP) : List Int := t.nodes.mapIdx (addN t)
def sizeT (t : TreeP) : List Int := t.nodes.map fun n => n.size

/-- The arrays of trees. -/
def lenTs (l : List TreeP) : Nat := (l.map fun t => t.nodes.length).sum
def startsL : Nat → List TreeP → List Int
  | _, [] => []
  | s, t :: r => (s : Int) :: startsL (s + t.nodes.length) r
def leftL : Nat → List TreeP → List Int
  | _, [] => []
  | s, t :: r => leftT s t ++ leftL (s + t.nodes.length) r
def rightL : Nat → List TreeP → List Int
  | _, [] => []
  | s, t :: r => rightT s t ++ rightL (s + t.nodes.length) r
def coefsL (l : List TreeP) : List Int := l.flatMap coefT
def atL (l : List TreeP) : List Int := l.flatMap atT
def addsL (l : List TreeP) : List Int := l.flatMap addT
def sizeL (l : List TreeP) : List Int := l.flatMap sizeT

/-- All seven: starts, parts, numbers, left, right, lengths, sizes. -/
def flatL (l : List TreeP) : List (List Int) := [startsL 0 l, coefsL l, atL l, leftL 0 l, rightL 0 l, addsL l, sizeL l]
def dimL (l : List TreeP) : Int := match l.getLast? with | none => 0 | some t => t.dim

theorem lenTs_append (a b : List TreeP) : lenTs (a ++ b) = lenTs a + lenTs b := by unfold lenTs; rw [List.map_append, List.sum_append]
theorem lenTs_cons (t : TreeP) (l : List TreeP) : lenTs (t :: l) = t.nodes.length + lenTs l := by unfold lenTs; rw [List.map_cons, List.sum_cons]

theorem startsL_append : ∀ (a b : List TreeP) (s : Nat), startsL s (a ++ b) = startsL s a ++ startsL (s + lenTs a) b
  | [], b, s => by simp [startsL, lenTs]
  | t :: a, b, s => by rw [List.cons_append, startsL, startsL, startsL_append a b, lenTs_cons, List.cons_append, Nat.add_assoc]

theorem leftL_append : ∀ (a b : List TreeP) (s : Nat), leftL s (a ++ b) = leftL s a ++ leftL (s + lenTs a) b
  | [], b, s => by simp [leftL, lenTs]
  | t :: a, b, s => by rw [List.cons_append, leftL, leftL, leftL_append a b, lenTs_cons, List.append_assoc, Nat.add_assoc]

theorem rightL_append : ∀ (a b : List TreeP) (s : Nat), rightL s (a ++ b) = rightL s a ++ rightL (s + lenTs a) b
  | [], b, s => by simp [rightL, lenTs]
  | t :: a, b, s => by rw [List.cons_append, rightL, rightL, rightL_append a b, lenTs_cons, List.append_assoc, Nat.add_assoc]

theorem startsL_len : ∀ (l : List TreeP) (s : Nat), (startsL s l).length = l.length
  | [], _ => rfl
  | t :: l, s => by rw [startsL, List.length_cons, startsL_len l, List.length_cons]

theorem leftL_len : ∀ (l : List TreeP) (s : Nat), (leftL s l).length = lenTs l
  | [], _ => rfl
  | t :: l, s => by rw [leftL, List.length_append, leftL_len l, lenTs_cons, leftT, List.length_map]

theorem rightL_len : ∀ (l : List TreeP) (s : Nat), (rightL s l).length = lenTs l
  | [], _ => rfl
  | t :: l, s => by rw [rightL, List.length_append, rightL_len l, lenTs_cons, rightT, List.length_map]

theorem flatMap_len {f : TreeP → List Int} (h : ∀ t, (f t).length = t.nodes.length) (l : List TreeP) : (l.flatMap f).length = lenTs l := by
  induction l with
  | nil => rfl
  | cons t l ih => rw [List.flatMap_cons, List.length_append, ih, h, lenTs_cons]

theorem atL_len (l : List TreeP) : (atL l).length = lenTs l := flatMap_len (fun t => by simp [atT]) l
theorem addsL_len (l : List TreeP) : (addsL l).length = lenTs l := flatMap_len (fun t => by simp [addT]) l
theorem sizeL_len (l : List TreeP) : (sizeL l).length = lenTs l := flatMap_len (fun t => by simp [sizeT]) l

/-- Where the i-th tree starts. -/
theorem startsL_get : ∀ (l : List TreeP) (s i : Nat), i < l.length → (startsL s l)[i]? = some ((s + lenTs (l.take i) : Nat) : Int)
  | [], _, i, h => by simp at h
  | t :: l, s, 0, _ => by simp [startsL, lenTs]
  | t :: l, s, i + 1, h => by
    rw [startsL, List.getElem?_cons_succ, startsL_get l _ i (by simpa using h), List.take_succ_cons, lenTs_cons, Nat.add_assoc]

theorem lenTs_take_succ {l : List TreeP} {i : Nat} {t : TreeP} (h : l[i]? = some t) : lenTs (l.take (i + 1)) = lenTs (l.take i) + t.nodes.length := by
  rw [List.take_add_one, h, lenTs_append]
  simp [lenTs]

theorem lenTs_le {l : List TreeP} {b : Nat} (h : ∀ t ∈ l, t.nodes.length ≤ b) : lenTs l ≤ l.length * b := by
  induction l with
  | nil => simp [lenTs]
  | cons t l ih =>
    rw [lenTs_cons, List.length_cons, Nat.add_mul, Nat.one_mul]
    have h1 := ih fun t ht => h t (by simp [ht])
    have h2 := h t (by simp)
    omega

/-- Which nodes go where: moved by so much. -/
def moveL (from_ : Nat) (by_ : Int) (l : List Int) : List Int := l.mapIdx fun i x => if from_ ≤ i ∧ 0 < x then x + by_ else x

/-- A node of a tree: it is a leaf, or what comes of it lies behind it. -/
def NodeOk (n : NodeP) : Prop := n.left = 0 ∨ (1 ≤ n.left ∧ 1 ≤ n.right)

theorem treeB_node {t : TreeP} (h : treeB t = true) {i : Nat} {n : NodeP} (hn : t.nodes[i]? = some n) : NodeOk n ∧ (n.left = 0 → leafB n = true) ∧ (n.left ≠ 0 → (n.coef.length : Int) = t.dim) := by
  have hT := treeB_true.1 h
  cases hl : leafB n with
  | true => exact ⟨.inl (leafB_is hl).1, fun _ => rfl, fun hh => absurd (leafB_is hl).1 hh⟩
  | false =>
    obtain ⟨m, e, a, b, x, y, h1, h2, h3, h4, _, _, _⟩ := hT.inner hn hl
    have := h3.lt
    refine ⟨.inr ⟨by omega, by omega⟩, fun hh => absurd hh (by omega), fun _ => ?_⟩
    unfold cutB partsB at h2
    simp only [Bool.and_eq_true, decide_eq_true_eq] at h2
    exact h2.2.1.1.2

theorem treeB_dim {t : TreeP} (h : treeB t = true) : 1 ≤ t.dim ∧ t.dim ≤ 8 := by
  obtain ⟨h1, h2, _⟩ := treeB_true.1 h
  exact ⟨h1, h2⟩

theorem coefN_len {t : TreeP} (h : treeB t = true) {n : NodeP} (hn : n ∈ t.nodes) : (coefN t.dim n).length = t.dim.toNat := by
  obtain ⟨i, hi⟩ := List.getElem?_of_mem hn
  obtain ⟨_, _, h3⟩ := treeB_node h hi
  unfold coefN
  split
  · simp
  · have := h3 (by assumption)
    omega

theorem flat_const {α : Type} {f : α → List Int} {k : Nat} : ∀ (l : List α), (∀ x ∈ l, (f x).length = k) → (l.flatMap f).length = l.length * k
  | [], _ => by simp
  | x :: l, h => by
    rw [List.flatMap_cons, List.length_append, h x (by simp), flat_const l (fun y hy => h y (by simp [hy])), List.length_cons, Nat.add_mul, Nat.one_mul, Nat.add_comm]

theorem coefT_len {t : TreeP} (h : treeB t = true) : (coefT t).length = t.nodes.length * t.dim.toNat := flat_const _ fun _ hn => coefN_len h hn

theorem coefsL_len {D : Int} : ∀ (l : List TreeP), (∀ t ∈ l, treeB t = true ∧ t.dim = D) → (coefsL l).length = lenTs l * D.toNat
  | [], _ => by simp [coefsL, lenTs]
  | t :: l, h => by
    obtain ⟨h1, h2⟩ := h t (by simp)
    unfold coefsL
    rw [List.flatMap_cons, List.length_append, coefT_len h1, h2, lenTs_cons, Nat.add_mul]
    have := coefsL_len l (fun t ht => h t (by simp [ht]))
    unfold coefsL at this
    rw [this]

/-- What lies behind the part that is put in moves by as much as the part has grown. -/
theorem leftT_move {s s' : Nat} {by_ : Int} {t : TreeP} (h : ∀ n ∈ t.nodes, NodeOk n) (e : (s' : Int) = s + by_) : (leftT s t).map (fun x => if 0 < x then x + by_ else x) = leftT s' t := by
  unfold leftT
  rw [List.map_map]
  apply List.map_congr_left
  intro n hn
  show (if 0 < leftN s n then leftN s n + by_ else leftN s n) = leftN s' n
  unfold leftN
  rcases h n hn with h1 | h1
  · simp [h1]
  · have h2 : ¬ n.left = 0 := by omega
    simp only [if_neg h2]
    rw [if_pos (by omega)]
    omega

theorem rightT_move {s s' : Nat} {by_ : Int} {t : TreeP} (h : ∀ n ∈ t.nodes, NodeOk n) (e : (s' : Int) = s + by_) : (rightT s t).map (fun x => if 0 < x then x + by_ else x) = rightT s' t := by
  unfold rightT
  rw [List.map_map]
  apply List.map_congr_left
  intro n hn
  show (if 0 < rightN s n then rightN s n + by_ else rightN s n) = rightN s' n
  unfold rightN
  rcases h n hn with h1 | h1
  · simp [h1]
  · have h2 : ¬ n.left = 0 := by omega
    simp only [if_neg h2]
    rw [if_pos (by omega)]
    omega

theorem leftL_move {by_ : Int} : ∀ (l : List TreeP) (s s' : Nat), (∀ t ∈ l, ∀ n ∈ t.nodes, NodeOk n) → (s' : Int) = s + by_ → (leftL s l).map (fun x => if 0 < x then x + by_ else x) = leftL s' l
  | [], _, _, _, _ => rfl
  | t :: l, s, s', h, e => by
    rw [leftL, leftL, List.map_append, leftT_move (h t (by simp)) e, leftL_move l (s + t.nodes.length) (s' + t.nodes.length) (fun u hu => h u (by simp [hu])) (by omega)]

theorem rightL_move {by_ : Int} : ∀ (l : List TreeP) (s s' : Nat), (∀ t ∈ l, ∀ n ∈ t.nodes, NodeOk n) → (s' : Int) = s + by_ → (rightL s l).map (fun x => if 0 < x then x + by_ else x) = rightL s' l
  | [], _, _, _, _ => rfl
  | t :: l, s, s', h, e => by
    rw [rightL, rightL, List.map_append, rightT_move (h t (by simp)) e, rightL_move l (s + t.nodes.length) (s' + t.nodes.length) (fun u hu => h u (by simp [hu])) (by omega)]

theorem startsL_move {by_ : Int} : ∀ (l : List TreeP) (s s' : Nat), (s' : Int) = s + by_ → (startsL s l).map (fun x => x + by_) = startsL s' l
  | [], _, _, _ => rfl
  | t :: l, s, s', e => by
    rw [startsL, startsL, List.map_cons, startsL_move l (s + t.nodes.length) (s' + t.nodes.length) (by omega)]
    congr 1
    omega

theorem moveL_append (a b : List Int) (by_ : Int) : moveL a.length by_ (a ++ b) = a ++ b.map (fun x => if 0 < x then x + by_ else x) := by
  unfold moveL
  rw [List.mapIdx_append]
  congr 1
  · apply List.ext_getElem?
    intro i
    rw [List.getElem?_mapIdx]
    cases h : a[i]? with
    | none => rfl
    | some x =>
      have := (List.getElem?_eq_some_iff.1 h).1
      rw [Option.map_some, if_neg (by omega)]
  · apply List.ext_getElem?
    intro i
    rw [List.getElem?_mapIdx, List.getElem?_map]
    cases h : b[i]? with
    | none => rfl
    | some x =>
      rw [Option.map_some, Option.map_some]
      by_cases h0 : 0 < x
      · rw [if_pos ⟨by omega, h0⟩, if_pos h0]
      · rw [if_neg (fun hh => h0 hh.2), if_neg h0]
end Go.Proofs.Ytjmjnkilgoelbaa

namespace Go.Proofs.Ytjmjnkilgoelbaa
open Go.RowKit

def intF (l : List Int) : List Value := l.map (Value.int .i64)

theorem intF_len (l : List Int) : (intF l).length = l.length := by simp [intF]
theorem intF_append (a b : List Int) : intF (a ++ b) = intF a ++ intF b := by simp [intF]
theorem intF_one {l : List Int} {u : Value} (h : u ∈ intF l) : u.oneCell' = true := by
  obtain ⟨x, _, rfl⟩ := List.mem_map.1 h
  rfl

/-- The blocks of rows. -/
def rowsB (vs : List Value) : List Nat := vs.filterMap Value.ownBlock

/-- An integer and rows lie at P; the rows' blocks are B or behind it. -/
structure FlatAt (w : World) (B P : Nat) (d : Int) (vs : List Value) (ls : List (List Int)) : Prop where
  lt : P < w.heap.size
  len : vs.length = ls.length
  c0 : w.cell? ⟨P, 0, none⟩ = some (.int .i64 d)
  f0 : w.frozen? ⟨P, 0, none⟩ = false
  cs : ∀ (k : Nat) (v : Value), vs[k]? = some v → w.cell? ⟨P, k + 1, none⟩ = some v ∧ w.frozen? ⟨P, k + 1, none⟩ = false
  rows : ∀ (k : Nat) (v : Value) (l : List Int), vs[k]? = some v → ls[k]? = some l → w.ownsRow B 3 1 v l.length (intF l)
  apart : (P :: rowsB vs).Nodup

theorem FlatAt.ex {w : World} {B P : Nat} {d : Int} {vs : List Value} {ls : List (List Int)} (h : FlatAt w B P d vs ls) {k : Nat} {v : Value} (hv : vs[k]? = some v) : ∃ l, ls[k]? = some l :=
  getElem?_ex (by rw [← h.len]; exact (List.getElem?_eq_some_iff.1 hv).1)

theorem mem_rowsB {vs : List Value} {k g : Nat} {v : Value} (h : vs[k]? = some v) (hg : v.ownBlock = some g) : g ∈ rowsB vs := List.mem_filterMap.2 ⟨v, List.mem_of_getElem? h, hg⟩

theorem FlatAt.foot {w : World} {B P : Nat} {d : Int} {vs : List Value} {ls : List (List Int)} (h : FlatAt w B P d vs ls) {b : Nat} (hb : b ∈ P :: rowsB vs) : b < w.heap.size := by
  rcases List.mem_cons.1 hb with rfl | hb
  · exact h.lt
  · obtain ⟨u, hu, hub⟩ := List.mem_filterMap.1 hb
    obtain ⟨i, hi⟩ := List.getElem?_of_mem hu
    obtain ⟨l, hl⟩ := h.ex hi
    exact own_lt (h.rows i u l hi hl) hub

theorem FlatAt.low {w : World} {B P : Nat} {d : Int} {vs : List Value} {ls : List (List Int)} (h : FlatAt w B P d vs ls) {b : Nat} (hb : b ∈ rowsB vs) : B ≤ b := by
  obtain ⟨u, hu, hub⟩ := List.mem_filterMap.1 hb
  obtain ⟨i, hi⟩ := List.getElem?_of_mem hu
  obtain ⟨l, hl⟩ := h.ex hi
  exact ((h.rows i u l hi hl).lt _ hub).1

theorem FlatAt.keep {w w' : World} {B P : Nat} {d : Int} {vs : List Value} {ls : List (List Int)} (h : FlatAt w B P d vs ls) (hz : w.heap.size ≤ w'.heap.size) (hk : ∀ b, b ∈ P :: rowsB vs → w'.heap[b]? = w.heap[b]?) : FlatAt w' B P d vs ls := by
  have hP := hk P (by simp)
  have hc : ∀ o, w'.cell? ⟨P, o, none⟩ = w.cell? ⟨P, o, none⟩ := fun o => World.cell?_of_block (a := ⟨P, o, none⟩) hP
  have hf : ∀ o, w'.frozen? ⟨P, o, none⟩ = w.frozen? ⟨P, o, none⟩ := fun o => World.frozen?_of_block (a := ⟨P, o, none⟩) hP
  refine ⟨Nat.lt_of_lt_of_le h.lt hz, h.len, (hc 0).trans h.c0, (hf 0).trans h.f0, fun k v hv => ⟨(hc _).trans (h.cs k v hv).1, (hf _).trans (h.cs k v hv).2⟩, fun k v l hv hl => own_at (h.rows k v l hv hl) fun g hg => hk g ?_, h.apart⟩
  exact List.mem_cons.2 (.inr (mem_rowsB hv hg))

theorem FlatAt.below {w w' : World} {B P : Nat} {d : Int} {vs : List Value} {ls : List (List Int)} (h : FlatAt w B P d vs ls) (b : Below w.heap.size w w') : FlatAt w' B P d vs ls :=
  h.keep b.size fun _ hb => b.block _ (h.foot hb)

theorem rowsB_perm {vs vs' : List Value} (h : vs.Perm vs') : (rowsB vs).Perm (rowsB vs') := h.filterMap _
theorem rowsB_cons_some {v : Value} {vs : List Value} {b : Nat} (h : v.ownBlock = some b) : rowsB (v :: vs) = b :: rowsB vs := by unfold rowsB; rw [List.filterMap_cons_some h]
theorem rowsB_cons_none {v : Value} {vs : List Value} (h : v.ownBlock = none) : rowsB (v :: vs) = rowsB vs := by unfold rowsB; rw [List.filterMap_cons_none h]

/-- The blocks of all rows but one. -/
theorem rowsB_at {vs : List Value} {k : Nat} {v : Value} (h : vs[k]? = some v) (v' : Value) : (rowsB vs).Perm (rowsB (v :: vs.eraseIdx k)) ∧ (rowsB (vs.set k v')).Perm (rowsB (v' :: vs.eraseIdx k)) :=
  ⟨rowsB_perm (set_perm v' h).2, rowsB_perm (set_perm v' h).1⟩

theorem rest_mem {vs : List Value} {k j : Nat} {v : Value} (h : vs[j]? = some v) (hne : j ≠ k) {g : Nat} (hg : v.ownBlock = some g) : g ∈ rowsB (vs.eraseIdx k) := List.mem_filterMap.2 ⟨v, erase_other h hne, hg⟩

/-- The other blocks are unlike a row's, and unlike P. -/
theorem FlatAt.others {w : World} {B P : Nat} {d : Int} {vs : List Value} {ls : List (List Int)} (h : FlatAt w B P d vs ls) {k : Nat} {v : Value} (hv : vs[k]? = some v) {b : Nat} (hb : b ∈ P :: rowsB (vs.eraseIdx k)) : b < w.heap.size ∧ v.ownBlock ≠ some b ∧ b ∈ P :: rowsB vs := by
  have hp := (rowsB_at hv v).1
  have hm : b ∈ P :: rowsB vs := by
    rcases List.mem_cons.1 hb with rfl | hb
    · simp
    · refine List.mem_cons.2 (.inr (hp.mem_iff.2 ?_))
      cases ho : v.ownBlock with
      | none => rw [rowsB_cons_none ho]; exact hb
      | some g => rw [rowsB_cons_some ho]; exact List.mem_cons.2 (.inr hb)
  refine ⟨h.foot hm, fun ho => ?_, hm⟩
  have hn := (hp.cons P).nodup_iff.1 h.apart
  rw [rowsB_cons_some ho] at hn
  rcases List.mem_cons.1 hb with e | hb
  · exact (List.nodup_cons.1 hn).1 (by rw [e]; simp)
  · exact (List.nodup_cons.1 (List.nodup_cons.1 hn).2).1 hb

theorem FlatAt.mem {w : World} {B P : Nat} {d : Int} {vs : List Value} {ls : List (List Int)} (_ : FlatAt w B P d vs ls) {k : Nat} {v : Value} (hv : vs[k]? = some v) {b : Nat} (hb : v.ownBlock = some b) : b ∈ P :: rowsB vs := List.mem_cons.2 (.inr (mem_rowsB hv hb))

/-- A row has changed, and is stored. -/
theorem FlatAt.setRow {w : World} {B P : Nat} {d : Int} {vs : List Value} {ls : List (List Int)} (h : FlatAt w B P d vs ls) {k : Nat} {v : Value} (hv : vs[k]? = some v) {w1 : World} (hg : w.grownBy w1 v.ownBlock) {v' : Value} {l' : List Int}
    (hr : w1.ownsRow B 3 1 v' l'.length (intF l')) (hb : v'.ownBlock = v.ownBlock ∨ ∃ b, v'.ownBlock = some b ∧ w.heap.size ≤ b) :
    FlatAt (w1.setCell ⟨P, k + 1, none⟩ v') B P d (vs.set k v') (ls.set k l') ∧ OnlyIn (P :: rowsB vs) w (w1.setCell ⟨P, k + 1, none⟩ v') ∧ ∀ x, x ∈ P :: rowsB (vs.set k v') → x ∈ P :: rowsB vs ∨ w.heap.size ≤ x := by
  have hk := (List.getElem?_eq_some_iff.1 hv).1
  obtain ⟨hp1, hp2⟩ := rowsB_at hv v'
  have kk : ∀ x, x ∈ P :: rowsB (vs.eraseIdx k) → w1.heap[x]? = w.heap[x]? := fun x hx => hg.block x (h.others hv hx).1 fun e => (h.others hv hx).2.1 e.symm
  have hPb : v'.ownBlock ≠ some P := fun ho => by
    rcases hb with h1 | ⟨b, h1, h2⟩
    · exact (h.others hv (b := P) (by simp)).2.1 (by rw [← h1]; exact ho)
    · rw [h1] at ho
      injection ho with ho
      have := h.lt
      omega
  have hP1 := kk P (by simp)
  have hc1 : ∀ o, w1.cell? ⟨P, o, none⟩ = w.cell? ⟨P, o, none⟩ := fun o => World.cell?_of_block (a := ⟨P, o, none⟩) hP1
  have hf1 : ∀ o, w1.frozen? ⟨P, o, none⟩ = w.frozen? ⟨P, o, none⟩ := fun o => World.frozen?_of_block (a := ⟨P, o, none⟩) hP1
  have mem2 : ∀ x, x ∈ rowsB (vs.set k v') → v'.ownBlock = some x ∨ x ∈ rowsB (vs.eraseIdx k) := fun x hx => by
    have hx := hp2.mem_iff.1 hx
    cases ho : v'.ownBlock with
    | none => rw [rowsB_cons_none ho] at hx; exact .inr hx
    | some g =>
      rw [rowsB_cons_some ho] at hx
      rcases List.mem_cons.1 hx with rfl | hx
      · exact .inl rfl
      · exact .inr hx
  refine ⟨⟨by simp; exact Nat.lt_of_lt_of_le h.lt hg.size, by simp [h.len], ?_, ?_, ?_, ?_, ?_⟩, ?_, ?_⟩
  · rw [World.cell?_setCell_other _ _ _ _ (by simp), hc1]; exact h.c0
  · rw [World.frozen?_setCell, hf1]; exact h.f0
  · intro j u hu
    rw [World.frozen?_setCell, hf1]
    by_cases hj : j = k
    · subst hj
      rw [List.getElem?_set_self hk] at hu
      injection hu with hu
      subst hu
      exact ⟨World.cell?_setCell_same _ _ _ ((hc1 _).trans (h.cs j v hv).1), (h.cs j v hv).2⟩
    · rw [List.getElem?_set_ne (Ne.symm hj)] at hu
      rw [World.cell?_setCell_other _ _ _ _ (by first | (simp; done) | (simp; omega)), hc1]
      exact h.cs j u hu
  · intro j u l hu hl
    by_cases hj : j = k
    · subst hj
      rw [List.getElem?_set_self hk] at hu
      rw [List.getElem?_set_self (by rw [← h.len]; exact hk)] at hl
      injection hu with hu
      injection hl with hl
      subst hu hl
      exact own_at hr fun g hgo => Below.heap_setCell _ _ _ _ fun e => hPb (by rw [hgo]; exact congrArg some e)
    · rw [List.getElem?_set_ne (Ne.symm hj)] at hu hl
      refine own_at (h.rows j u l hu hl) fun g hgo => ?_
      have hm := rest_mem hu hj hgo
      refine (Below.heap_setCell _ _ _ _ fun e => ?_).trans (kk g (List.mem_cons.2 (.inr hm)))
      have e' : g = P := e
      have hn := (List.nodup_cons.1 h.apart).1
      exact hn (by rw [← e']; exact mem_rowsB hu hgo)
  · have hn := h.apart
    have hn2 : (P :: rowsB (vs.eraseIdx k)).Nodup := by
      have := (hp1.cons P).nodup_iff.1 hn
      cases ho : v.ownBlock with
      | none => rwa [rowsB_cons_none ho] at this
      | some g =>
        rw [rowsB_cons_some ho] at this
        simp only [List.nodup_cons, List.mem_cons, not_or] at this ⊢
        exact ⟨this.1.2, this.2.2⟩
    refine (hp2.cons P).nodup_iff.2 ?_
    cases ho : v'.ownBlock with
    | none => rw [rowsB_cons_none ho]; exact hn2
    | some g =>
      rw [rowsB_cons_some ho]
      simp only [List.nodup_cons, List.mem_cons, not_or] at hn2 ⊢
      refine ⟨⟨fun e => hPb (by rw [ho, e]), hn2.1⟩, fun hm => ?_, hn2.2⟩
      have h3 := h.others hv (List.mem_cons.2 (.inr hm))
      rcases hb with h1 | ⟨b, h1, h2⟩
      · exact h3.2.1 (by rw [← h1]; exact ho)
      · rw [h1] at ho
        injection ho with ho
        omega
  · exact (OnlyIn.ofGrown (F := P :: rowsB vs) hg fun b hb => List.mem_cons.2 (.inr (mem_rowsB hv hb))).trans (OnlyIn.set (F := P :: rowsB vs) P (k + 1) v' (by simp)) fun x hx => .inl hx
  · intro x hx
    rcases List.mem_cons.1 hx with rfl | hx
    · exact .inl (by simp)
    · rcases mem2 x hx with h1 | h1
      · rcases hb with h2 | ⟨b, h2, h3⟩
        · exact .inl (h.mem hv (by rw [← h2]; exact h1))
        · rw [h2] at h1
          injection h1 with h1
          exact .inr (by omega)
      · exact .inl (h.others hv (List.mem_cons.2 (.inr h1))).2.2

/-- A row has changed in its place. -/
theorem FlatAt.inRow {w : World} {B P : Nat} {d : Int} {vs : List Value} {ls : List (List Int)} (h : FlatAt w B P d vs ls) {k : Nat} {v : Value} (hv : vs[k]? = some v) {w1 : World} (hg : w.grownBy w1 v.ownBlock) {l' : List Int}
    (hr : w1.ownsRow B 3 1 v l'.length (intF l')) : FlatAt w1 B P d vs (ls.set k l') ∧ OnlyIn (P :: rowsB vs) w w1 := by
  have hk := (List.getElem?_eq_some_iff.1 hv).1
  have kk : ∀ x, x ∈ P :: rowsB (vs.eraseIdx k) → w1.heap[x]? = w.heap[x]? := fun x hx => hg.block x (h.others hv hx).1 fun e => (h.others hv hx).2.1 e.symm
  have hP1 := kk P (by simp)
  have hc1 : ∀ o, w1.cell? ⟨P, o, none⟩ = w.cell? ⟨P, o, none⟩ := fun o => World.cell?_of_block (a := ⟨P, o, none⟩) hP1
  have hf1 : ∀ o, w1.frozen? ⟨P, o, none⟩ = w.frozen? ⟨P, o, none⟩ := fun o => World.frozen?_of_block (a := ⟨P, o, none⟩) hP1
  refine ⟨⟨Nat.lt_of_lt_of_le h.lt hg.size, by simp [h.len], (hc1 0).trans h.c0, (hf1 0).trans h.f0, fun j u hu => ⟨(hc1 _).trans (h.cs j u hu).1, (hf1 _).trans (h.cs j u hu).2⟩, fun j u l hu hl => ?_, h.apart⟩, OnlyIn.ofGrown (F := P :: rowsB vs) hg fun b hb => List.mem_cons.2 (.inr (mem_rowsB hv hb))⟩
  by_cases hj : j = k
  · subst hj
    rw [List.getElem?_set_self (by rw [← h.len]; exact hk)] at hl
    rw [hv] at hu
    injection hu with hu
    injection hl with hl
    subst hu hl
    exact hr
  · rw [List.getElem?_set_ne (Ne.symm hj)] at hl
    exact own_at (h.rows j u l hu hl) fun g hgo => kk g (List.mem_cons.2 (.inr (rest_mem hu hj hgo)))

/-- The integer is written. -/
theorem FlatAt.setDim {w : World} {B P : Nat} {d : Int} {vs : List Value} {ls : List (List Int)} (h : FlatAt w B P d vs ls) (d' : Int) : FlatAt (w.setCell ⟨P, 0, none⟩ (.int .i64 d')) B P d' vs ls ∧ OnlyIn (P :: rowsB vs) w (w.setCell ⟨P, 0, none⟩ (.int .i64 d')) := by
  have hn := (List.nodup_cons.1 h.apart).1
  refine ⟨⟨by simpa using h.lt, h.len, World.cell?_setCell_same _ _ _ h.c0, by rw [World.frozen?_setCell]; exact h.f0, fun k v hv => ⟨?_, by rw [World.frozen?_setCell]; exact (h.cs k v hv).2⟩, fun k v l hv hl => own_at (h.rows k v l hv hl) fun g hg => ?_, h.apart⟩, OnlyIn.set (F := P :: rowsB vs) P 0 _ (by simp)⟩
  · rw [World.cell?_setCell_other _ _ _ _ (by simp)]; exact (h.cs k v hv).1
  · refine Below.heap_setCell _ _ _ _ fun e => hn ?_
    have e' : g = P := e
    rw [← e']
    exact mem_rowsB hv hg
end Go.Proofs.Ytjmjnkilgoelbaa

namespace Go.Proofs.Ytjmjnkilgoelbaa
open Go.RowKit

/-- A row's block is as it was, or new. -/
def NewB (W : World) (v v' : Value) : Prop := v'.ownBlock = v.ownBlock ∨ ∃ b, v'.ownBlock = some b ∧ W.heap.size ≤ b

set_option maxRecDepth 100000 in
theorem run_appI (base : Nat) (v : Value) (l l2 : List Int) (W : World) (vx : Value) (hown : W.ownsRow base 3 1 v l.length (intF l)) (hl : Ints .i64 W vx l2) (hb : l.length + l2.length ≤ 1000000) (hbase : base ≤ W.heap.size) (ty : TypeId) :
    ∃ v' w', (Builtin.append_ #[61, 61] ty #[v, vx]).run Try.prog W = .ok v' w' ∧ w'.ownsRow base 3 1 v' (l ++ l2).length (intF (l ++ l2)) ∧ W.grownBy w' v.ownBlock ∧ NewB W v v' := by
  obtain ⟨i, hi, hz, hsize, hby, hzs, hsz, _⟩ := eiInt
  obtain ⟨ad, c, rfl, g1, g2, g3, h4⟩ := hl
  rcases ad with _ | ad
  · have hl0 : l2 = [] := by
      cases l2 with
      | nil => rfl
      | cons x l2 => obtain ⟨b, o, e, _⟩ := h4 0 x rfl; cases e
    subst hl0
    have hrun : (Builtin.append_ #[61, 61] ty #[v, .slice none 0 c]).run Try.prog W = .ok v W := by
      rcases hown.2 with ⟨rfl, h0⟩ | ⟨g, cap, cur, rfl, _, _, hnc, _⟩
      · simp [Builtin.append_, run_underlying Try.underlying61, sizeOf, typeInfo, hi, Builtin.lenOf, Builtin.firstCells]
      · simp [Builtin.append_, run_underlying Try.underlying61, sizeOf, typeInfo, hi, Builtin.lenOf, Builtin.firstCells, hnc, storeCells]
    exact ⟨v, W, hrun, by simpa using hown, ⟨rfl, rfl, rfl, Nat.le_refl _, fun _ _ _ => rfl⟩, .inl rfl⟩
  · obtain ⟨v', w', hrun, h2, h3, _, h5⟩ := run_append_own_at (P := Try.prog) W base 61 ty 3 i _ 1 8 Try.underlying61 hi hz hsize hby hzs hsz v l.length (intF l) hown ad l2.length c (intF l2) (by rw [intF_len, Nat.mul_one]) (by
      intro j u hu
      rw [intF, List.getElem?_map] at hu
      cases hy : l2[j]? with
      | none => rw [hy] at hu; cases hu
      | some y =>
        rw [hy] at hu
        obtain ⟨b, o, e, _, hc⟩ := h4 j y hy
        injection e with e
        subst e
        rw [Addr.add_lit, hc]
        simpa using hu) (fun u hu => intF_one hu) (by unfold maxLen; omega) (by omega) hbase
    refine ⟨v', w', hrun, ?_, h3, ?_⟩
    · rw [List.length_append, intF_append]
      exact h2
    · rcases h5 with h | h
      · exact .inl h
      · exact .inr ⟨_, h, Nat.le_refl _⟩

/-- Append of a list of integers. -/
theorem appI {ops : Array Oper} {rest : List Oper} {o : Oper} {a : Act} {Q : Exit → Act → World → Prop} (hgd : o.guard = none) (s x : Operand)
    (ho : o.op = .call { callee := .builtin .append, args := #[s, x], argTypes := #[61, 61] })
    (base : Nat) {v : Value} {l l2 : List Int} {W : World} {vx : Value} (hs : a.eval s = v) (hown : W.ownsRow base 3 1 v l.length (intF l)) (hx : a.eval x = vx) (hl : Ints .i64 W vx l2) (hb : l.length + l2.length ≤ 1000000) (hbase : base ≤ W.heap.size)
    (h : ∀ v' w', w'.ownsRow base 3 1 v' (l ++ l2).length (intF (l ++ l2)) → W.grownBy w' v.ownBlock → NewB W v v' → wpList Try.prog ops Q rest (a.put o.dst v') w') : wpList Try.prog ops Q (o :: rest) a W := by
  obtain ⟨v', w', hrun, h2, h3, h4⟩ := run_appI base v l l2 W vx hown hl hb hbase o.type
  refine wpList_plain hgd fun K hK => ?_
  unfold Oper.wp execOp
  simp only [ho, resolve, invoke, builtin, Sem.run_bind, Sem.run_pure, Result.andThen_ok, List.map_toArray, List.map_cons, List.map_nil, hs, hx, hrun]
  exact hK _ _ (h v' w' h2 h3 h4)

/-- The same, at a step of a region that draws its order. -/
theorem appI_step {ops : Array Oper} {o : Oper} {a : Act} {K : Act → World → Prop} {Q : Exit → Act → World → Prop} {E : Prop} (hgd : o.guard = none) (s x : Operand)
    (ho : o.op = .call { callee := .builtin .append, args := #[s, x], argTypes := #[61, 61] })
    (base : Nat) {v : Value} {l l2 : List Int} {W : World} {vx : Value} (hs : a.eval s = v) (hown : W.ownsRow base 3 1 v l.length (intF l)) (hx : a.eval x = vx) (hl : Ints .i64 W vx l2) (hb : l.length + l2.length ≤ 1000000) (hbase : base ≤ W.heap.size)
    (h : ∀ v' w', w'.ownsRow base 3 1 v' (l ++ l2).length (intF (l ++ l2)) → W.grownBy w' v.ownBlock → NewB W v v' → K (a.put o.dst v') w') : if Region.wanted o (yielded ops a.tmps) = true then o.wp Try.prog a W K Q else E := by
  have hw : Region.wanted o (yielded ops a.tmps) = true := by unfold Region.wanted; rw [hgd]
  rw [if_pos hw]
  obtain ⟨v', w', hrun, h2, h3, h4⟩ := run_appI base v l l2 W vx hown hl hb hbase o.type
  unfold Oper.wp execOp
  simp only [ho, resolve, invoke, builtin, Sem.run_bind, Sem.run_pure, Result.andThen_ok, List.map_toArray, List.map_cons, List.map_nil, hs, hx, hrun]
  exact h v' w' h2 h3 h4
/-- append(nil, make([]T, n)..): a new row. -/
theorem run_append_make_nil' {P : Program} (w : World) (t tn ty e : TypeId) (i : TypeInfo) (z : Value) (kn kk : IntKind) (ht : P.underlying t = some (.slice e)) (htn : P.underlying tn = some (.int kn)) (hi : P.info? e = some i) (hz : i.zero = some z)
    (n : Nat) (h0 : 0 < n) (hs : 0 < i.size) (h63 : (n : Int) ≤ 9223372036854775807) (hbig : n * i.bytes ≤ 140737488355328) :
    (Builtin.append_ #[t, tn] ty #[.slice none 0 0, .int kk n]).run P w =
      .ok (.slice (some ⟨w.heap.size, 0, none⟩) n (grownCap w n 0 e))
        (w.drew.alloc (.cells (Builtin.zeroCells z.cells n ++ Builtin.zeroCells z.cells (grownCap w n 0 e - n)) e)) := by
  have hn0 : n ≠ 0 := by omega
  have hw : IntKind.i64.wrap (n : Int) = n := by rw [IntKind.wrap_i64]; omega
  have h63' : ¬ (9223372036854775807 < (n : Int)) := by omega
  have hfit := growslice_fits (show 0 < n from h0) hbig
  have h48' : ¬ (281474976710656 < Builtin.nextslicecap n 0 * i.bytes) := by omega
  have h48i : ¬ (281474976710656 < (n : Int) * (i.bytes : Int)) := by
    rw [← Int.natCast_mul]
    omega
  have hneg : ¬ ((n : Int) < 0) := by omega
  have hns : ¬ (n * i.size = 0) := Nat.mul_ne_zero hn0 (by omega)
  simp [Builtin.append_, run_underlying ht, run_underlying htn, sizeOf, typeInfo, zeroValue, hi, hz, asInt, asIntOf, hw, hn0, hneg, hns, h63', h48', h48i, Question.forced, Builtin.firstCells, newRow, grownCap]


theorem zero_int (k : Nat) : (Builtin.zeroCells (Value.cells (Value.int .i64 0)) k).toList = List.replicate k (Value.int .i64 0) := by
  simp [Builtin.zeroCells, Value.cells, Nat.mod_one, List.eq_replicate_iff]

theorem intF_zeros (n : Nat) : intF (List.replicate n (0 : Int)) = List.replicate n (Value.int .i64 0) := by simp [intF]

set_option maxRecDepth 100000 in
/-- append(s, make([]int, n)..) to a row of the call's own. -/
theorem run_appMake (base : Nat) (v : Value) (l : List Int) (n : Nat) (W : World) (hown : W.ownsRow base 3 1 v l.length (intF l)) (hn : 0 < n) (hb : l.length + n ≤ 1000000) (hbase : base ≤ W.heap.size) (ty : TypeId) :
    ∃ v' w', (Builtin.append_ #[61, 3] ty #[v, .int .i64 n]).run Try.prog W = .ok v' w' ∧ w'.ownsRow base 3 1 v' (l ++ List.replicate n 0).length (intF (l ++ List.replicate n 0)) ∧ W.grownBy w' v.ownBlock ∧ NewB W v v' := by
  obtain ⟨i, hi, hz, hsize, hby, hzs, hsz, _⟩ := eiInt
  have hlen : (l ++ List.replicate n (0 : Int)).length = l.length + n := by simp
  rw [hlen, intF_append, intF_zeros]
  have grown : ∀ W1 : World, Below W.heap.size W W1 → W.grownBy W1 v.ownBlock := fun W1 h => ⟨h.os, h.tape, h.output, h.size, fun q hq _ => h.block q hq⟩
  rcases hown.2 with ⟨rfl, h0⟩ | ⟨g, cap, cur, rfl, hbg, hrow, hc1, hcm, hcs, htk⟩
  · have hl0 : l = [] := List.eq_nil_of_length_eq_zero h0
    subst hl0
    rw [List.length_nil, Nat.zero_add] at hb
    have hrun := run_append_make_nil' (P := Try.prog) W 61 3 ty 3 i _ .i64 .i64 Try.underlying61 Try.underlying3 hi hz n hn (by rw [hsize]; omega) (by omega) (by rw [hby]; omega)
    have hC1 := grownCap_ge W n 0 3
    have hC2 := grownCap_le_maxLen W n 0 3 (by unfold maxLen; omega)
    refine ⟨_, _, hrun, ?_, grown _ ((Below.refl _ _).drew.alloc (Nat.le_refl _) _), .inr ⟨_, rfl, Nat.le_refl _⟩⟩
    have hr1 := heap_alloc_new W.drew (.cells (Builtin.zeroCells (Value.cells (Value.int .i64 0)) n ++ Builtin.zeroCells (Value.cells (Value.int .i64 0)) (grownCap W n 0 3 - n)) 3)
    rw [List.length_nil, Nat.zero_add]
    refine rowAt_own hbase hr1 hC1 hC2 ?_ ?_
    · rw [Array.size_append, size_zeroCells, size_zeroCells, hzs]; omega
    · rw [Array.toList_append, zero_int, zero_int, Nat.mul_one, List.take_left' (by rw [List.length_replicate])]
      rfl
  · change RowAt W g 3 cur at hrow
    rw [Nat.mul_one] at hcs htk
    have hll : (intF l).length = l.length := intF_len l
    by_cases hroom : l.length + n ≤ cap
    · have hst := run_storeCells_cells (P := Try.prog) g l.length (List.replicate n (Value.int .i64 0)) 0 W (fun j hj => by
        rw [List.length_replicate] at hj
        rw [hrow.cell, Array.getElem?_eq_getElem (by omega)]; rfl) (fun j hj => hrow.frozen _) (by intro u hu; rw [List.eq_of_mem_replicate hu]; rfl)
      simp only [Nat.add_zero] at hst
      have hw : IntKind.i64.wrap (n : Int) = n := by rw [IntKind.wrap_i64]; omega
      have hneg : ¬ ((n : Int) < 0) := by omega
      have h48 : ¬ (281474976710656 < (n : Int) * 8) := by omega
      have hn0 : ¬ n = 0 := by omega
      have hz' := hz
      refine ⟨.slice (some ⟨g, 0, none⟩) (l.length + n) cap, W.setCells g l.length (List.replicate n (Value.int .i64 0)), ?_, ?_, ?_, .inl rfl⟩
      · simp [Builtin.append_, run_underlying Try.underlying61, run_underlying Try.underlying3, sizeOf, typeInfo, zeroValue, hi, hz', hsize, hby, asInt, asIntOf, hw, hneg, h48, hn0, hroom, zero_int, Addr.add_lit, hst]
      · refine rowAt_own hbg (hrow.sets _ _) hroom hcm (by rw [ovw_size, hcs, Nat.mul_one]) ?_
        rw [Nat.mul_one]
        apply List.ext_getElem?
        intro k
        rw [List.getElem?_take, Array.getElem?_toList, ovw_get _ _ _ _ (by rw [List.length_replicate]; omega), List.length_replicate]
        by_cases h1 : k < l.length
        · rw [if_pos (by omega), if_pos h1, List.getElem?_append_left (by omega), ← htk, List.getElem?_take, if_pos h1, Array.getElem?_toList]
        · rw [List.getElem?_append_right (by omega), hll]
          by_cases h2 : k < l.length + n
          · rw [if_pos h2, if_neg h1, if_pos h2]
          · rw [if_neg h2, List.getElem?_eq_none (by rw [List.length_replicate]; omega)]
      · have hB := sets_below (B := 0) (Nat.zero_le g) (List.replicate n (Value.int .i64 0)) l.length (Below.refl 0 W)
        exact ⟨hB.os, hB.tape, hB.output, hB.size, fun q hq hne => sets_other _ W _ (fun h => hne (by rw [h]; rfl))⟩
    · have hrun := run_append_make (P := Try.prog) W 61 3 ty 3 i _ .i64 .i64 Try.underlying61 Try.underlying3 hi hz ⟨g, 0, none⟩ l.length cap (intF l) (by rw [hll, hsize, Nat.mul_one])
        (fun k u hk => by
          have hkl := (List.getElem?_eq_some_iff.1 hk).1
          rw [hll] at hkl
          rw [Addr.add_lit, Nat.zero_add, hrow.cell k, ← Array.getElem?_toList]
          rw [← htk, List.getElem?_take, if_pos hkl] at hk
          exact hk) n hn (by rw [hsize]; omega) (by omega) (by omega) (by rw [hby]; omega)
      have hC1 := grownCap_ge W (l.length + n) cap 3
      have hC2 := grownCap_le_maxLen W (l.length + n) cap 3 (by unfold maxLen; omega)
      refine ⟨_, _, hrun, ?_, grown _ ((Below.refl _ _).drew.alloc (Nat.le_refl _) _), .inr ⟨_, rfl, Nat.le_refl _⟩⟩
      have hr1 := heap_alloc_new W.drew (.cells ((intF l).toArray ++ Builtin.zeroCells (Value.cells (Value.int .i64 0)) n ++ Builtin.zeroCells (Value.cells (Value.int .i64 0)) (grownCap W (l.length + n) cap 3 - (l.length + n))) 3)
      refine rowAt_own hbase hr1 hC1 hC2 ?_ ?_
      · rw [Array.size_append, Array.size_append, size_zeroCells, size_zeroCells, hzs, List.size_toArray, hll]; omega
      · rw [Array.toList_append, Array.toList_append, zero_int, zero_int, Nat.mul_one, List.take_left' (by rw [List.length_append, List.length_replicate]; exact congrArg (· + n) hll)]

theorem own_shape {w : World} {base e size n : Nat} {v : Value} {xs : List Value} (h : w.ownsRow base e size v n xs) : ∃ a m c, v = .slice a m c := by
  rcases h.2 with ⟨rfl, _⟩ | ⟨g, cap, _, rfl, _⟩
  · exact ⟨_, _, _, rfl⟩
  · exact ⟨_, _, _, rfl⟩
end Go.Proofs.Ytjmjnkilgoelbaa

namespace Go.Proofs.Ytjmjnkilgoelbaa
open Go.RowKit

set_option maxRecDepth 100000 in
set_option maxHeartbeats 4000000 in
theorem rall_any (v : Value) (l : List TreeP) (w : World) (h : TreesR w v l) :
    Calls Try.prog 132 #[v] w fun e w' => e = .returned (.bool (decide (0 < l.length) && allT l)) ∧ Below w.heap.size w w' := by
  obtain ⟨ad, cc, rfl, _, _, q3, hcell⟩ := h
  obtain ⟨n, hn⟩ : ∃ n, l.length = n := ⟨_, rfl⟩
  have HL := Lib.hid hn
  rw [hn] at q3 ⊢
  clear hn
  rcases Nat.eq_zero_or_pos n with h0 | h0
  · subst h0
    clear hcell
    go_enter Try.func132, Try.ntmps132
    go_wp2_with fail
    go_loopw [3] (fun i wr => i = .int .i64 0 ∧ wr = w) (fun i _ => 0)
    case atStart => exact ⟨rfl, rfl⟩
    case round =>
      obtain ⟨rfl, rfl⟩ := hrel
      go_wp2_with fail
      go_ret
      exact ⟨rfl, by (repeat (first | with_reducible exact Below.refl _ _ | with_reducible refine Bs ?_ | with_reducible refine Ba ?_ | with_reducible refine Bd ?_ | with_reducible refine Bn ?_))⟩
  · have hdec : decide (0 < n) = true := by simp [h0]
    rw [hdec, Bool.true_and]
    obtain ⟨t0, ht0⟩ := getElem?_ex (l := l) (k := 0) (by rw [HL.out]; omega)
    obtain ⟨b, o, _, rfl, hb, cd0, _, _⟩ := hcell 0 t0 ht0
    have hd0 : dim0 l = t0.dim := by unfold dim0; rw [ht0]; rfl
    rw [Nat.zero_mul, Nat.add_zero, ← hd0] at cd0
    have HC := Lib.hid (show ∀ i t, l[i]? = some t → ∃ nv, w.cell? ⟨b, o + i * 2, none⟩ = some (.int .i64 t.dim) ∧ w.cell? ⟨b, o + i * 2 + 1, none⟩ = some nv ∧ NodesR w nv t.nodes from fun i t hi => by
      obtain ⟨b', o', nv, e, _, c0, c1, hn⟩ := hcell i t hi
      injection e with e
      injection e with e1 e2 e3
      subst e1 e2
      exact ⟨nv, c0, c1, hn⟩)
    have hn0 : (0 : Int) < n := by omega
    clear hcell ht0 hd0 hdec
    obtain ⟨D, hD⟩ : ∃ D, dim0 l = D := ⟨_, rfl⟩
    rw [hD] at cd0
    have HD := Lib.hid hD
    obtain ⟨E, hE⟩ : ∃ E, allT l = E := ⟨_, rfl⟩
    rw [hE]
    have HE := Lib.hid hE
    clear hE hD
    go_enter Try.func132, Try.ntmps132
    go_wp2_with fail
    go_loopw [3] (fun idx wr => ∃ k : Nat, idx = .int .i64 k ∧ k ≤ n ∧ (∀ i t, i < k → l[i]? = some t → okT l t = true) ∧ Below w.heap.size w wr) (fun idx _ => n - (intOf idx).toNat)
    case atStart => exact ⟨0, rfl, by omega, fun i t h => by omega, Below.refl _ _⟩
    case round =>
      obtain ⟨k, rfl, hk, hall, hbr⟩ := hrel
      have HA := Lib.hid hall
      have HBR := Lib.hid hbr
      have hsz := hbr.size
      by_cases hlt : k < n
      · obtain ⟨t, ht⟩ := getElem?_ex (l := l) (k := k) (by rw [HL.out]; exact hlt)
        obtain ⟨nv, c0, c1, hnv⟩ := HC.out k t ht
        have e0 := (hbr.cell (p := ⟨b, o + k * 2, none⟩) hb).trans c0
        have e1 := (hbr.cell (p := ⟨b, o + k * 2 + 1, none⟩) hb).trans c1
        have ed := (hbr.cell (p := ⟨b, o, none⟩) hb).trans cd0
        have HT := Lib.hid (show TreeR w (.agg #[.int .i64 t.dim, nv]) t from ⟨nv, rfl, hnv⟩)
        obtain ⟨na, nc, rfl, _⟩ := hnv
        have HK := Lib.hid ht
        have i1 : (0 : Int) ≤ (k : Int) := by omega
        have i2 : (k : Int) < (n : Int) := by omega
        have hbz : b < wr.heap.size := by omega
        have HOK := Lib.hid (show okT l t = (treeB t && decide (t.dim = D)) by unfold okT; rw [HD.out])
        clear ht hall hbr
        obtain ⟨TB, hTB⟩ : ∃ TB, treeB t = TB := ⟨_, rfl⟩
        have HTI := Lib.hid (fun W (hW : TreeR W (.agg #[.int .i64 t.dim, .slice na t.nodes.length nc]) t) => hTB ▸ ristree_any _ t W hW)
        rw [hTB] at HOK
        clear hTB
        generalize t.nodes.length = tn at *
        obtain ⟨d, hd⟩ : ∃ d, t.dim = d := ⟨_, rfl⟩
        rw [hd] at e0 c0 HT HOK HTI
        clear hd
        cases TB with
        | false =>
          have G := Lib.hid (show E = false by rw [← HE.out]; exact allT_not HK.out (by rw [HOK.out]; rfl))
          go_wp2_with fail
          refine wp_region_free_head_quiet (.slice (some ⟨b, o, none⟩) n cc) (.int .i64 k) (.pointer (some ⟨b, o + k * 2, none⟩)) 4 (by kernel_rfl) (by kernel_rfl) (by kernel_rfl) (by kernel_rfl) (by kernel_rfl) (by decide) (by kernel_rfl) (fun _ _ _ h => h) (fun _ _ _ h => h) (fun _ _ _ h => h) (Or.inl ⟨rfl, fun w => by go_simp⟩) (Or.inl ⟨rfl, fun w => by go_simp⟩) (Or.inl ⟨rfl, fun w => by go_simp⟩) ?_
          simp only [List.take_succ_cons, List.take_zero, List.drop_succ_cons, List.drop_zero, Act.put, List.setIfInBounds_toArray, List.set_cons_zero, List.set_cons_succ]
          go_wp2_with (go_at_call 171; go_must (with_reducible refine (HTI.out _ ((HT.out.below HBR.out).below (by (repeat (first | with_reducible exact Below.refl _ _ | with_reducible refine Bs ?_ | with_reducible refine Ba ?_ | with_reducible refine Bd ?_ | with_reducible refine Bn ?_))))).mono ?_))
          rintro e w4 ⟨rfl, b4⟩
          have B4 := Lib.hid (show Below wr.heap.size wr w4 from below_tr (by (repeat (first | with_reducible exact Below.refl _ _ | with_reducible refine Bs ?_ | with_reducible refine Ba ?_ | with_reducible refine Bd ?_ | with_reducible refine Bn ?_))) (b4.mono (by first | omega | (simp; done) | (simp; omega))))
          have z0 : w4.cell? ⟨b, o + k * 2, none⟩ = some (.int .i64 d) := (b4.cell (by first | omega | (simp; done) | (simp; omega))).trans (by go_simp)
          have z2 : w4.cell? ⟨b, o, none⟩ = some (.int .i64 D) := (b4.cell (by first | omega | (simp; done) | (simp; omega))).trans (by go_simp)
          clear b4
          go_wp2_with fail
          refine CalmNext.normal ?_; (repeat (go_big_quiet_step (fail))); refine wpQuiet_nil ?_; intro _ hw1; obtain ⟨nq, hw2⟩ := hw1; subst hw2
          go_wp2_with fail
          go_ret
          exact ⟨by rw [G.out]; rfl, by (repeat (first | with_reducible exact Below.refl _ _ | with_reducible refine Bs ?_ | with_reducible refine Ba ?_ | with_reducible refine Bd ?_ | with_reducible refine Bn ?_ | with_reducible refine Bt B4.out ?_ | with_reducible refine Bt HBR.out ?_))⟩
        | true =>
          by_cases a1 : d = D
          · subst a1
            have j1 : (d != d) = false := by simp
            have HOT := Lib.hid (show okT l t = true by rw [HOK.out]; simp)
            go_wp2_with fail
            refine wp_region_free_head_quiet (.slice (some ⟨b, o, none⟩) n cc) (.int .i64 k) (.pointer (some ⟨b, o + k * 2, none⟩)) 4 (by kernel_rfl) (by kernel_rfl) (by kernel_rfl) (by kernel_rfl) (by kernel_rfl) (by decide) (by kernel_rfl) (fun _ _ _ h => h) (fun _ _ _ h => h) (fun _ _ _ h => h) (Or.inl ⟨rfl, fun w => by go_simp⟩) (Or.inl ⟨rfl, fun w => by go_simp⟩) (Or.inl ⟨rfl, fun w => by go_simp⟩) ?_
            simp only [List.take_succ_cons, List.take_zero, List.drop_succ_cons, List.drop_zero, Act.put, List.setIfInBounds_toArray, List.set_cons_zero, List.set_cons_succ]
            go_wp2_with (go_at_call 171; go_must (with_reducible refine (HTI.out _ ((HT.out.below HBR.out).below (by (repeat (first | with_reducible exact Below.refl _ _ | with_reducible refine Bs ?_ | with_reducible refine Ba ?_ | with_reducible refine Bd ?_ | with_reducible refine Bn ?_))))).mono ?_))
            rintro e w4 ⟨rfl, b4⟩
            have B4 := Lib.hid (show Below wr.heap.size wr w4 from below_tr (by (repeat (first | with_reducible exact Below.refl _ _ | with_reducible refine Bs ?_ | with_reducible refine Ba ?_ | with_reducible refine Bd ?_ | with_reducible refine Bn ?_))) (b4.mono (by first | omega | (simp; done) | (simp; omega))))
            have z0 : w4.cell? ⟨b, o + k * 2, none⟩ = some (.int .i64 d) := (b4.cell (by first | omega | (simp; done) | (simp; omega))).trans (by go_simp)
            have z2 : w4.cell? ⟨b, o, none⟩ = some (.int .i64 d) := (b4.cell (by first | omega | (simp; done) | (simp; omega))).trans (by go_simp)
            clear b4
            go_wp2_with fail
            refine CalmNext.normal ?_; (repeat (go_big_quiet_step (fail))); refine wpQuiet_nil ?_; intro _ hw1; obtain ⟨nq, hw2⟩ := hw1; subst hw2
            go_wp2_with fail
            go_roundw
            case rel =>
              refine ⟨k + 1, by go_num, by omega, fun i t' hi ht' => ?_, by (repeat (first | with_reducible exact Below.refl _ _ | with_reducible refine Bs ?_ | with_reducible refine Ba ?_ | with_reducible refine Bd ?_ | with_reducible refine Bn ?_ | with_reducible refine Bt B4.out ?_ | with_reducible refine Bt HBR.out ?_))⟩
              rcases Nat.lt_or_ge i k with h | h
              · exact HA.out i t' h ht'
              · obtain rfl : i = k := by omega
                rw [HK.out] at ht'
                injection ht' with ht'
                subst ht'
                exact HOT.out
            case measure => simp [intOf] <;> omega
          · have G := Lib.hid (show E = false by rw [← HE.out]; exact allT_not HK.out (by rw [HOK.out]; simp [a1]))
            have J1 := Lib.hid (show (d != D) = true by simp [a1])
            clear a1
            have j1 := J1.out
            go_wp2_with fail
            refine wp_region_free_head_quiet (.slice (some ⟨b, o, none⟩) n cc) (.int .i64 k) (.pointer (some ⟨b, o + k * 2, none⟩)) 4 (by kernel_rfl) (by kernel_rfl) (by kernel_rfl) (by kernel_rfl) (by kernel_rfl) (by decide) (by kernel_rfl) (fun _ _ _ h => h) (fun _ _ _ h => h) (fun _ _ _ h => h) (Or.inl ⟨rfl, fun w => by go_simp⟩) (Or.inl ⟨rfl, fun w => by go_simp⟩) (Or.inl ⟨rfl, fun w => by go_simp⟩) ?_
            simp only [List.take_succ_cons, List.take_zero, List.drop_succ_cons, List.drop_zero, Act.put, List.setIfInBounds_toArray, List.set_cons_zero, List.set_cons_succ]
            go_wp2_with (go_at_call 171; go_must (with_reducible refine (HTI.out _ ((HT.out.below HBR.out).below (by (repeat (first | with_reducible exact Below.refl _ _ | with_reducible refine Bs ?_ | with_reducible refine Ba ?_ | with_reducible refine Bd ?_ | with_reducible refine Bn ?_))))).mono ?_))
            rintro e w4 ⟨rfl, b4⟩
            have B4 := Lib.hid (show Below wr.heap.size wr w4 from below_tr (by (repeat (first | with_reducible exact Below.refl _ _ | with_reducible refine Bs ?_ | with_reducible refine Ba ?_ | with_reducible refine Bd ?_ | with_reducible refine Bn ?_))) (b4.mono (by first | omega | (simp; done) | (simp; omega))))
            have z0 : w4.cell? ⟨b, o + k * 2, none⟩ = some (.int .i64 d) := (b4.cell (by first | omega | (simp; done) | (simp; omega))).trans (by go_simp)
            have z2 : w4.cell? ⟨b, o, none⟩ = some (.int .i64 D) := (b4.cell (by first | omega | (simp; done) | (simp; omega))).trans (by go_simp)
            clear b4
            go_wp2_with fail
            refine CalmNext.normal ?_; (repeat (go_big_quiet_step (fail))); refine wpQuiet_nil ?_; intro _ hw1; obtain ⟨nq, hw2⟩ := hw1; subst hw2
            go_wp2_with fail
            go_ret
            exact ⟨by rw [G.out]; rfl, by (repeat (first | with_reducible exact Below.refl _ _ | with_reducible refine Bs ?_ | with_reducible refine Ba ?_ | with_reducible refine Bd ?_ | with_reducible refine Bn ?_ | with_reducible refine Bt B4.out ?_ | with_reducible refine Bt HBR.out ?_))⟩
      · obtain rfl : k = n := by omega
        have HALL := Lib.hid (show E = true by
          rw [← HE.out]
          unfold allT
          rw [List.all_eq_true]
          intro t ht
          obtain ⟨i, hi⟩ := List.getElem?_of_mem ht
          exact HA.out i t (by have := (List.getElem?_eq_some_iff.1 hi).1; have := HL.out; omega) hi)
        go_wp2_with fail
        go_ret
        exact ⟨by rw [HALL.out]; rfl, HBR.out⟩

set_option maxRecDepth 100000 in
set_option maxHeartbeats 4000000 in
theorem rsum12_any (v vx : Value) (l : List TreeP) (x : List Int) (w : World) (h : TreesR w v l) (hx : Ints .i64 w vx x) :
    Calls Try.prog 139 #[v, vx] w fun e w' => e = .returned (.tuple #[.int .i64 (if sumE l x = 0 then sumV l x else 0), .int .i64 (sumE l x)]) ∧ Below w.heap.size w w' := by
  have HTR := Lib.hid h
  have HX := Lib.hid hx
  have HALLC := Lib.hid (fun W (hW : TreesR W v l) => rall_any v l W hW)
  obtain ⟨ad, cc, rfl, _, _, q3, hcell⟩ := h
  unfold sumE
  obtain ⟨n, hn⟩ : ∃ n, l.length = n := ⟨_, rfl⟩
  have HL := Lib.hid hn
  rw [hn] at q3 HTR HALLC ⊢
  clear hn hx
  by_cases h16 : 16 < n
  · rw [if_pos h16]
    have h1 : (16 : Int) < n := by omega
    clear hcell HALLC
    go_enter Try.func139, Try.ntmps139
    go_wp2_with fail
    exact bodyPost_ret (v := .tuple #[.int .i64 0, .int .i64 3]) (by simp [results, Try.results139, go_sem]) rfl ⟨rfl, by (repeat (first | with_reducible exact Below.refl _ _ | with_reducible refine Bs ?_ | with_reducible refine Ba ?_ | with_reducible refine Bd ?_ | with_reducible refine Bn ?_))⟩
  · rw [if_neg h16]
    have hn16 : (n : Int) ≤ 16 := by omega
    by_cases h0 : n = 0
    · rw [if_pos h0]
      subst h0
      rw [show (decide (0 < 0) && allT l) = false from rfl] at HALLC
      clear hcell
      go_enter Try.func139, Try.ntmps139
      go_wp2_with fail
      (with_reducible refine (HALLC.out _ (HTR.out.below (by (repeat (first | with_reducible exact Below.refl _ _ | with_reducible refine Bs ?_ | with_reducible refine Ba ?_ | with_reducible refine Bd ?_ | with_reducible refine Bn ?_))))).mono ?_); rintro e w1 ⟨rfl, b1⟩; have s1 : w.heap.size ≤ w1.heap.size := sz b1; have B1 := Lib.hid (Bc (B := w.heap.size) (a := w) (by (repeat (first | with_reducible exact Below.refl _ _ | with_reducible refine Bs ?_ | with_reducible refine Ba ?_ | with_reducible refine Bd ?_ | with_reducible refine Bn ?_))) b1); clear b1
      go_wp2_with fail
      exact bodyPost_ret (v := .tuple #[.int .i64 0, .int .i64 100]) (by simp [results, Try.results139, go_sem]) rfl ⟨rfl, by (repeat (first | with_reducible exact Below.refl _ _ | with_reducible refine Bs ?_ | with_reducible refine Ba ?_ | with_reducible refine Bd ?_ | with_reducible refine Bn ?_ | with_reducible refine Bt B1.out ?_))⟩
    · rw [if_neg h0]
      rw [show (decide (0 < n) && allT l) = allT l by simp [show 0 < n by omega]] at HALLC
      obtain ⟨t0, ht0⟩ := getElem?_ex (l := l) (k := 0) (by rw [HL.out]; omega)
      obtain ⟨b, o, _, rfl, hb, cd0, _, _⟩ := hcell 0 t0 ht0
      have hd0 : dim0 l = t0.dim := by unfold dim0; rw [ht0]; rfl
      rw [Nat.zero_mul, Nat.add_zero, ← hd0] at cd0
      have HC := Lib.hid (show ∀ i t, l[i]? = some t → ∃ nv, w.cell? ⟨b, o + i * 2, none⟩ = some (.int .i64 t.dim) ∧ w.cell? ⟨b, o + i * 2 + 1, none⟩ = some nv ∧ NodesR w nv t.nodes from fun i t hi => by
        obtain ⟨b', o', nv, e, _, c0, c1, hn⟩ := hcell i t hi
        injection e with e
        injection e with e1 e2 e3
        subst e1 e2
        exact ⟨nv, c0, c1, hn⟩)
      have hn0 : (0 : Int) < n := by omega
      clear hcell ht0 hd0
      cases hA : allT l with
      | false =>
        rw [hA] at HALLC
        rw [if_pos rfl]
        clear hA
        go_enter Try.func139, Try.ntmps139
        go_wp2_with fail
        (with_reducible refine (HALLC.out _ (HTR.out.below (by (repeat (first | with_reducible exact Below.refl _ _ | with_reducible refine Bs ?_ | with_reducible refine Ba ?_ | with_reducible refine Bd ?_ | with_reducible refine Bn ?_))))).mono ?_); rintro e w1 ⟨rfl, b1⟩; have s1 : w.heap.size ≤ w1.heap.size := sz b1; have B1 := Lib.hid (Bc (B := w.heap.size) (a := w) (by (repeat (first | with_reducible exact Below.refl _ _ | with_reducible refine Bs ?_ | with_reducible refine Ba ?_ | with_reducible refine Bd ?_ | with_reducible refine Bn ?_))) b1); clear b1
        go_wp2_with fail
        exact bodyPost_ret (v := .tuple #[.int .i64 0, .int .i64 100]) (by simp [results, Try.results139, go_sem]) rfl ⟨rfl, by (repeat (first | with_reducible exact Below.refl _ _ | with_reducible refine Bs ?_ | with_reducible refine Ba ?_ | with_reducible refine Bd ?_ | with_reducible refine Bn ?_ | with_reducible refine Bt B1.out ?_))⟩
      | true =>
        rw [hA] at HALLC
        have HALL := Lib.hid hA
        clear hA
        have HVI := Lib.hid (fun W (hW : Ints .i64 W vx x) => risv_any vx x (dim0 l) W hW)
        cases hV : vecB x (dim0 l) with
        | false =>
          rw [hV] at HVI
          simp only [Bool.true_eq_false, if_false, if_true, show ¬ (80 : Int) = 0 by decide]
          clear hV
          generalize dim0 l = D at *
          go_enter Try.func139, Try.ntmps139
          go_wp2_with fail
          (with_reducible refine (HALLC.out _ (HTR.out.below (by (repeat (first | with_reducible exact Below.refl _ _ | with_reducible refine Bs ?_ | with_reducible refine Ba ?_ | with_reducible refine Bd ?_ | with_reducible refine Bn ?_))))).mono ?_); rintro e w1 ⟨rfl, b1⟩; have s1 : w.heap.size ≤ w1.heap.size := sz b1; have B1 := Lib.hid (Bc (B := w.heap.size) (a := w) (by (repeat (first | with_reducible exact Below.refl _ _ | with_reducible refine Bs ?_ | with_reducible refine Ba ?_ | with_reducible refine Bd ?_ | with_reducible refine Bn ?_))) b1); clear b1
          have k0 := (B1.out.cell (p := ⟨b, o, none⟩) hb).trans cd0
          go_wp2_with fail
          refine (HVI.out _ (HX.out.below B1.out)).mono ?_
          rintro e w2 ⟨rfl, rfl⟩
          go_wp2_with fail
          exact bodyPost_ret (v := .tuple #[.int .i64 0, .int .i64 80]) (by simp [results, Try.results139, go_sem]) rfl ⟨rfl, by (repeat (first | with_reducible exact Below.refl _ _ | with_reducible refine Bs ?_ | with_reducible refine Ba ?_ | with_reducible refine Bd ?_ | with_reducible refine Bn ?_ | with_reducible refine Bt B1.out ?_))⟩
        | true =>
          rw [hV] at HVI
          simp only [Bool.true_eq_false, if_false, if_true]
          have HPE := Lib.hid (show ∀ i t, l[i]? = some t → pathE t x = 0 from fun i t hi => by
            obtain ⟨g1, g2⟩ := allT_at HALL.out hi
            unfold pathE
            rw [g1, g2, hV]
            rfl)
          clear hV
          obtain ⟨SV, hSV⟩ : ∃ SV, sumV l x = SV := ⟨_, rfl⟩
          rw [hSV]
          have HSV := Lib.hid hSV
          clear hSV
          obtain ⟨D, hD⟩ : ∃ D, dim0 l = D := ⟨_, rfl⟩
          rw [hD] at cd0 HVI
          clear hD
          go_enter Try.func139, Try.ntmps139
          go_wp2_with fail
          (with_reducible refine (HALLC.out _ (HTR.out.below (by (repeat (first | with_reducible exact Below.refl _ _ | with_reducible refine Bs ?_ | with_reducible refine Ba ?_ | with_reducible refine Bd ?_ | with_reducible refine Bn ?_))))).mono ?_); rintro e w1 ⟨rfl, b1⟩; have s1 : w.heap.size ≤ w1.heap.size := sz b1; have B1 := Lib.hid (Bc (B := w.heap.size) (a := w) (by (repeat (first | with_reducible exact Below.refl _ _ | with_reducible refine Bs ?_ | with_reducible refine Ba ?_ | with_reducible refine Bd ?_ | with_reducible refine Bn ?_))) b1); clear b1
          have k0 := (B1.out.cell (p := ⟨b, o, none⟩) hb).trans cd0
          go_wp2_with fail
          refine (HVI.out _ (HX.out.below B1.out)).mono ?_
          rintro e w2 ⟨rfl, rfl⟩
          go_wp2_with fail
          go_loopw [6, 7, 8, 9] (fun sm idx _ _ wr => ∃ j : Nat, idx = .int .i64 j ∧ j ≤ n ∧ sm = .int .i64 (sumI ((l.take j).map fun t => lenV t x)) ∧ Below w.heap.size w wr) (fun _ idx _ _ _ => n - (intOf idx).toNat)
          case atStart => exact ⟨0, rfl, by omega, rfl, by (repeat (first | with_reducible exact Below.refl _ _ | with_reducible refine Bs ?_ | with_reducible refine Ba ?_ | with_reducible refine Bd ?_ | with_reducible refine Bn ?_ | with_reducible refine Bt B1.out ?_))⟩
          case round =>
            obtain ⟨j, rfl, hj, rfl, hbr⟩ := hrel
            have HB2 := Lib.hid hbr
            have hsz2 := hbr.size
            by_cases hlt2 : j < n
            · obtain ⟨t, ht⟩ := getElem?_ex (l := l) (k := j) (by rw [HL.out]; exact hlt2)
              obtain ⟨nv, c0, c1, hnv⟩ := HC.out j t ht
              have e0 := (hbr.cell (p := ⟨b, o + j * 2, none⟩) hb).trans c0
              have e1 := (hbr.cell (p := ⟨b, o + j * 2 + 1, none⟩) hb).trans c1
              have HT := Lib.hid (show TreeR w (.agg #[.int .i64 t.dim, nv]) t from ⟨nv, rfl, hnv⟩)
              obtain ⟨na, nc, rfl, _⟩ := hnv
              have i1 : (0 : Int) ≤ (j : Int) := by omega
              have i2 : (j : Int) < (n : Int) := by omega
              have hsb := sum_take_bd (x := x) HALL.out (by rw [HL.out]; omega) j
              have hb2 := lenV_bd (x := x) (allT_at HALL.out ht).1
              have HSS := Lib.hid (show sumI ((l.take (j + 1)).map fun t => lenV t x) = sumI ((l.take j).map fun t => lenV t x) + lenV t x by rw [take_snoc' ht, List.map_append]; exact sumI_snoc _ _)
              have hll := fun W (hW : TreeR W (.agg #[.int .i64 t.dim, .slice na t.nodes.length nc]) t) (hX : Ints .i64 W vx x) => rlength_any _ vx t x W hW hX
              rw [HPE.out j t ht] at hll
              simp only [if_true] at hll
              have HLL := Lib.hid hll
              clear hll
              generalize sumI ((l.take j).map fun t => lenV t x) = S at *
              generalize lenV t x = lv at *
              clear c0 c1 ht hbr
              generalize t.nodes.length = tn at *
              generalize t.dim = d at *
              have sb1 := hsb.1
              have sb2 := hsb.2
              have lb1 := hb2.1
              have lb2 := hb2.2
              clear hsb hb2
              go_wp2_with fail
              (with_reducible refine (HLL.out _ ((HT.out.below HB2.out).below (by (repeat (first | with_reducible exact Below.refl _ _ | with_reducible refine Bs ?_ | with_reducible refine Ba ?_ | with_reducible refine Bd ?_ | with_reducible refine Bn ?_)))) ((HX.out.below HB2.out).below (by (repeat (first | with_reducible exact Below.refl _ _ | with_reducible refine Bs ?_ | with_reducible refine Ba ?_ | with_reducible refine Bd ?_ | with_reducible refine Bn ?_))))).mono ?_)
              rintro e w4 ⟨rfl, b4⟩
              have B4 := Lib.hid (show Below wr.heap.size wr w4 from below_tr (by (repeat (first | with_reducible exact Below.refl _ _ | with_reducible refine Bs ?_ | with_reducible refine Ba ?_ | with_reducible refine Bd ?_ | with_reducible refine Bn ?_))) (b4.mono (by first | omega | (simp; done) | (simp; omega))))
              clear b4
              go_wp2_with fail
              go_roundw
              case rel => exact ⟨j + 1, by go_num, by omega, by rw [HSS.out], by (repeat (first | with_reducible exact Below.refl _ _ | with_reducible refine Bs ?_ | with_reducible refine Ba ?_ | with_reducible refine Bd ?_ | with_reducible refine Bn ?_ | with_reducible refine Bt B4.out ?_ | with_reducible refine Bt HB2.out ?_))⟩
              case measure => simp [intOf] <;> omega
            · obtain rfl : j = n := by omega
              have G2 := Lib.hid (show sumI ((l.take j).map fun t => lenV t x) = SV by rw [← HSV.out]; unfold sumV; rw [List.take_of_length_le (by rw [HL.out]; omega)])
              generalize sumI ((l.take j).map fun t => lenV t x) = S at *
              go_wp2_with fail
              exact bodyPost_ret (v := .tuple #[.int .i64 S, .int .i64 0]) (by simp [results, Try.results139, go_sem]) rfl ⟨by rw [G2.out], HB2.out⟩
end Go.Proofs.Ytjmjnkilgoelbaa
