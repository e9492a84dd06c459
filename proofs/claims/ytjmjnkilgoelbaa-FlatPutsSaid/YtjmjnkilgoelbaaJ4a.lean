/-
  FlatB: Walk of flat's part: the arrays of one tree.
  FlatD: A pack: how it lies. Walk of flat's end and Len.
  FlatE: Plain: a tree put among the packed ones.
-/
import Derived.Test.YtjmjnkilgoelbaaKFlatA
import Derived.Test.YtjmjnkilgoelbaaJ1a
namespace Go.Proofs.Ytjmjnkilgoelbaa
open Go.RowKit

/-- What stands behind k nodes of a tree. -/
def partLs (t : TreeP) (s k : Nat) : List (List Int) := [[], (t.nodes.take k).flatMap (coefN t.dim), (t.nodes.take k).map (fun n => n.at_), (t.nodes.take k).map (leftN s), (t.nodes.take k).map (rightN s), (addT t).take k, (t.nodes.take k).map (fun n => n.size)]

theorem partLs_next {t : TreeP} {s k : Nat} {n : NodeP} (h : t.nodes[k]? = some n) : partLs t s (k + 1) = [[], (t.nodes.take k).flatMap (coefN t.dim) ++ coefN t.dim n, (t.nodes.take k).map (fun n => n.at_) ++ [n.at_], (t.nodes.take k).map (leftN s) ++ [leftN s n], (t.nodes.take k).map (rightN s) ++ [rightN s n], (addT t).take k ++ [addN t k n], (t.nodes.take k).map (fun n => n.size) ++ [n.size]] := by
  have e : t.nodes.take (k + 1) = t.nodes.take k ++ [n] := by rw [List.take_add_one, h]; rfl
  have e2 : (addT t).take (k + 1) = (addT t).take k ++ [addN t k n] := by
    rw [List.take_add_one]
    unfold addT
    rw [List.getElem?_mapIdx, h]
    rfl
  unfold partLs
  rw [e, e2]
  simp

/-- A world of part's: the tree's box, the result, the depths, the arrays. -/
structure PartSt (w U : World) (D : Int) (tv : Value) (ds : List Int) (vs : List Value) (ls : List (List Int)) : Prop where
  bel : Below w.heap.size w U
  r0 : RowAt U (w.heap.size) 106 #[.int .i64 D, tv]
  r1 : ∃ cs, RowAt U (w.heap.size + 1) 101 cs ∧ cs.size = 8
  rd : RowAt U (w.heap.size + 1 + 1 + 1) 3 (intF ds).toArray
  fa : FlatAt U (w.heap.size + 1 + 1 + 1 + 1) (w.heap.size + 1 + 1) D vs ls

theorem PartSt.kept {w U U' : World} {D : Int} {tv : Value} {ds : List Int} {vs vs' : List Value} {ls ls' : List (List Int)} (S : PartSt w U D tv ds vs ls) (h : FlatAt U' (w.heap.size + 1 + 1 + 1 + 1) (w.heap.size + 1 + 1) D vs' ls') (k : OnlyIn ((w.heap.size + 1 + 1) :: rowsB vs) U U') : PartSt w U' D tv ds vs' ls' := by
  have hlow : ∀ b, b < w.heap.size + 1 + 1 + 1 + 1 → b ≠ w.heap.size + 1 + 1 → b ∉ (w.heap.size + 1 + 1) :: rowsB vs := fun b hb hne hm => by
    rcases List.mem_cons.1 hm with h1 | h1
    · exact hne h1
    · have := S.fa.low h1
      omega
  have hz := S.fa.lt
  have keep : ∀ b, b < w.heap.size + 1 + 1 + 1 + 1 → b ≠ w.heap.size + 1 + 1 → b < U.heap.size → U'.heap[b]? = U.heap[b]? := fun b hb hne hl => k.block b hl (hlow b hb hne)
  refine ⟨⟨k.os.trans S.bel.os, k.tape.trans S.bel.tape, k.output.trans S.bel.output, Nat.le_trans S.bel.size k.size, fun b hb => (keep b (by omega) (by omega) (by have := S.bel.size; omega)).trans (S.bel.block b hb)⟩, ?_, ?_, ?_, h⟩
  · exact (keep _ (by omega) (by omega) S.r0.lt).trans S.r0
  · obtain ⟨cs, h1, h2⟩ := S.r1
    exact ⟨cs, (keep _ (by omega) (by omega) h1.lt).trans h1, h2⟩
  · exact (keep _ (by omega) (by omega) S.rd.lt).trans S.rd

theorem PartSt.below {w U U' : World} {D : Int} {tv : Value} {ds : List Int} {vs : List Value} {ls : List (List Int)} (S : PartSt w U D tv ds vs ls) (h : Below U.heap.size U U') : PartSt w U' D tv ds vs ls :=
  S.kept (S.fa.below h) (OnlyIn.ofBelow h)

/-- A row has grown, and is stored. -/
theorem PartSt.app {w U w1 : World} {D : Int} {tv : Value} {ds : List Int} {vs : List Value} {ls : List (List Int)} (S : PartSt w U D tv ds vs ls) {k : Nat} {v v' : Value} {l' : List Int} (hv : vs[k]? = some v) (hg : U.grownBy w1 v.ownBlock)
    (hr : w1.ownsRow (w.heap.size + 1 + 1 + 1 + 1) 3 1 v' l'.length (intF l')) (hb : NewB U v v') :
    PartSt w (w1.setCell ⟨w.heap.size + 1 + 1, k + 1, none⟩ v') D tv ds (vs.set k v') (ls.set k l') ∧
    (∀ (x : Nat) (T : TypeId) (cs : Array Value), RowAt U x T cs ∧ (w.heap.size + 1 + 1 + 1 + 1 ≤ x ∧ x ∉ rowsB vs) → RowAt (w1.setCell ⟨w.heap.size + 1 + 1, k + 1, none⟩ v') x T cs ∧ (w.heap.size + 1 + 1 + 1 + 1 ≤ x ∧ x ∉ rowsB (vs.set k v'))) ∧
    (∀ j, w1.cell? ⟨w.heap.size + 1 + 1, j, none⟩ = U.cell? ⟨w.heap.size + 1 + 1, j, none⟩) ∧ (∀ j, w1.frozen? ⟨w.heap.size + 1 + 1, j, none⟩ = U.frozen? ⟨w.heap.size + 1 + 1, j, none⟩) := by
  obtain ⟨h1, h2, h3⟩ := S.fa.setRow hv hg hr hb
  have hP : w1.heap[w.heap.size + 1 + 1]? = U.heap[w.heap.size + 1 + 1]? := hg.block _ S.fa.lt fun e => (S.fa.others hv (b := w.heap.size + 1 + 1) (by simp)).2.1 e.symm
  refine ⟨S.kept h1 h2, fun x T cs ⟨hx, hx1, hx2⟩ => ⟨(h2.block x hx.lt fun hm => ?_).trans hx, hx1, fun hm => ?_⟩, fun j => World.cell?_of_block (a := ⟨_, j, none⟩) hP, fun j => World.frozen?_of_block (a := ⟨_, j, none⟩) hP⟩
  · rcases List.mem_cons.1 hm with h | h
    · omega
    · exact hx2 h
  · rcases h3 x (List.mem_cons.2 (.inr hm)) with h | h
    · rcases List.mem_cons.1 h with h | h
      · omega
      · exact hx2 h
    · have := hx.lt; omega

/-- A depth is stored. -/
theorem PartSt.dep {w U : World} {D : Int} {tv : Value} {ds : List Int} {vs : List Value} {ls : List (List Int)} (S : PartSt w U D tv ds vs ls) (j : Nat) (x : Int) : PartSt w (U.setCell ⟨w.heap.size + 1 + 1 + 1, j, none⟩ (.int .i64 x)) D tv (ds.set j x) vs ls := by
  have hk : ∀ b, b ≠ w.heap.size + 1 + 1 + 1 → (U.setCell ⟨w.heap.size + 1 + 1 + 1, j, none⟩ (.int .i64 x)).heap[b]? = U.heap[b]? := fun b hb => Below.heap_setCell _ _ _ _ hb
  refine ⟨S.bel.setCell (by show _ ≤ w.heap.size + 1 + 1 + 1; omega) _, (hk _ (by omega)).trans S.r0, ?_, ?_, S.fa.keep (by simp) fun b hb => hk b ?_⟩
  · obtain ⟨cs, h1, h2⟩ := S.r1
    exact ⟨cs, (hk _ (by omega)).trans h1, h2⟩
  · have := S.rd.set j (.int .i64 x)
    rw [intF_set]
    simpa using this
  · rcases List.mem_cons.1 hb with h | h
    · omega
    · have := S.fa.low h
      omega

theorem alloc3 (w : World) (a b c : Obj) : (((w.alloc a).alloc b).alloc c).heap[w.heap.size]? = some a ∧ (((w.alloc a).alloc b).alloc c).heap[w.heap.size + 1]? = some b ∧ (((w.alloc a).alloc b).alloc c).heap[w.heap.size + 1 + 1]? = some c := by
  refine ⟨?_, ?_, ?_⟩
  · rw [Below.heap_alloc _ _ _ (by simp; omega), Below.heap_alloc _ _ _ (by simp)]
    exact heap_alloc_new w a
  · rw [Below.heap_alloc _ _ _ (by simp)]
    have := heap_alloc_new (w.alloc a) b
    simpa using this
  · have := heap_alloc_new ((w.alloc a).alloc b) c
    simpa using this

def nil7 : List Value := List.replicate 7 (.slice none 0 0)

theorem partLs_zero (t : TreeP) (s : Nat) : partLs t s 0 = List.replicate 7 [] := by simp [partLs, List.replicate]

theorem PartSt.start (w W U : World) (D : Int) (tv : Value) (n : Nat) (T0 T1 T2 : TypeId) (h0 : T0 = 106) (h1 : T1 = 101) (cs1 : Array Value) (hc1 : cs1.size = 8)
    (hW : W = ((w.alloc (.cells #[.int .i64 D, tv] T0)).alloc (.cells cs1 T1)).alloc (.cells #[.int .i64 D, .slice none 0 0, .slice none 0 0, .slice none 0 0, .slice none 0 0, .slice none 0 0, .slice none 0 0, .slice none 0 0] T2))
    (hown : U.ownsRow (w.heap.size + 1 + 1 + 1) 3 1 (.slice (some ⟨w.heap.size + 1 + 1 + 1, 0, none⟩) n n) n (madeCells #[.int .i64 0] n).toList) (hb : Below (w.heap.size + 1 + 1 + 1) W U) (t : TreeP) (s : Nat) :
    PartSt w U D tv (List.replicate n 0) nil7 (partLs t s 0) := by
  subst h0 h1
  obtain ⟨a0, a1, a2⟩ := alloc3 w (.cells #[.int .i64 D, tv] 106) (.cells cs1 101) (.cells #[.int .i64 D, .slice none 0 0, .slice none 0 0, .slice none 0 0, .slice none 0 0, .slice none 0 0, .slice none 0 0, .slice none 0 0] T2)
  rw [← hW] at a0 a1 a2
  have hz : W.heap.size = w.heap.size + 1 + 1 + 1 := by rw [hW]; simp
  have hBW : Below w.heap.size w W := by rw [hW]; (repeat (first | with_reducible exact Below.refl _ _ | with_reducible refine Bs ?_ | with_reducible refine Ba ?_ | with_reducible refine Bd ?_ | with_reducible refine Bn ?_))
  have b0 := (hb.block _ (show w.heap.size < w.heap.size + 1 + 1 + 1 by omega)).trans a0
  have b1 := (hb.block _ (show w.heap.size + 1 < w.heap.size + 1 + 1 + 1 by omega)).trans a1
  have b2 : RowAt U (w.heap.size + 1 + 1) T2 _ := (hb.block _ (show w.heap.size + 1 + 1 < w.heap.size + 1 + 1 + 1 by omega)).trans a2
  obtain ⟨cur, _, _, _, hrow, _, _, hcs, htk⟩ := own_rowAt hown
  refine ⟨below_tr hBW (hb.mono (by omega)), b0, ⟨cs1, b1, hc1⟩, ?_, ?_⟩
  · have e : cur = (intF (List.replicate n 0)).toArray := by
      apply Array.ext'
      rw [List.take_of_length_le (by rw [Array.length_toList, hcs]; exact Nat.le_refl _), made_intsC] at htk
      rw [htk]
      rfl
    rw [← e]
    exact hrow
  · rw [partLs_zero]
    have hnil : ∀ (k : Nat) (v : Value), nil7[k]? = some v → v = .slice none 0 0 ∧ k < 7 := fun k v hv => by
      have hk := (List.getElem?_eq_some_iff.1 hv).1
      unfold nil7 at hv hk
      rw [List.length_replicate] at hk
      rw [List.getElem?_replicate, if_pos hk] at hv
      injection hv with hv
      exact ⟨hv.symm, hk⟩
    refine ⟨b2.lt, by simp [nil7], (b2.cell 0).trans rfl, b2.frozen 0, fun k v hv => ?_, fun k v l hv hl => ?_, ?_⟩
    · obtain ⟨rfl, hk⟩ := hnil k v hv
      refine ⟨?_, b2.frozen _⟩
      rw [b2.cell]
      rcases k with _ | _ | _ | _ | _ | _ | _ | k
      all_goals first | rfl | omega
    · obtain ⟨rfl, hk⟩ := hnil k v hv
      rw [List.getElem?_replicate, if_pos hk] at hl
      injection hl with hl
      subst hl
      exact ⟨rfl, .inl ⟨rfl, rfl⟩⟩
    · have : rowsB nil7 = [] := by unfold rowsB nil7; rfl
      rw [this]
      simp

theorem wkP {P Q : Prop} (h : P) (k : P → Q) : Q := k h
theorem gcell {W w' : World} {r : Option Nat} (g : W.grownBy w' r) {b o : Nat} (hb : b < W.heap.size) (hne : r ≠ some b) : w'.cell? ⟨b, o, none⟩ = W.cell? ⟨b, o, none⟩ := World.cell?_of_block (a := ⟨b, o, none⟩) (g.block b hb fun e => hne e.symm)
theorem gfroz {W w' : World} {r : Option Nat} (g : W.grownBy w' r) {b o : Nat} (hb : b < W.heap.size) (hne : r ≠ some b) : w'.frozen? ⟨b, o, none⟩ = W.frozen? ⟨b, o, none⟩ := World.frozen?_of_block (a := ⟨b, o, none⟩) (g.block b hb fun e => hne e.symm)

/-- The same store on either side. -/
theorem set_same {W W' : World} {b o : Nat} {u : Value} (h : W'.heap[b]? = W.heap[b]?) : (W'.setCell ⟨b, o, none⟩ u).heap[b]? = (W.setCell ⟨b, o, none⟩ u).heap[b]? := by
  simp only [World.setCell, Array.getElem?_modify, h]

theorem grown_set {W W' : World} {r : Option Nat} {b o : Nat} {u : Value} (g : W.grownBy W' r) (hb : b < W.heap.size) (hne : r ≠ some b) : (W.setCell ⟨b, o, none⟩ u).grownBy (W'.setCell ⟨b, o, none⟩ u) r := by
  refine ⟨g.os, g.tape, g.output, by simpa using g.size, fun q hq hn => ?_⟩
  have hq' : q < W.heap.size := by simpa using hq
  by_cases he : q = b
  · subst he
    exact set_same (g.block q hq' hn)
  · rw [Below.heap_setCell _ _ _ _ he, Below.heap_setCell _ _ _ _ he]
    exact g.block q hq' hn

theorem below_set {W W' : World} {b o : Nat} {u : Value} (g : Below W.heap.size W W') (hb : b < W.heap.size) : Below (W.setCell ⟨b, o, none⟩ u).heap.size (W.setCell ⟨b, o, none⟩ u) (W'.setCell ⟨b, o, none⟩ u) := by
  refine ⟨g.os, g.tape, g.output, by simpa using g.size, fun q hq => ?_⟩
  have hq' : q < W.heap.size := by simpa using hq
  by_cases he : q = b
  · subst he
    exact set_same (g.block q hq')
  · rw [Below.heap_setCell _ _ _ _ he, Below.heap_setCell _ _ _ _ he]
    exact g.block q hq'

/-- What is known of a row while another one grows. -/
theorem PartSt.mid {w U W0 w7 : World} {D : Int} {tv : Value} {ds : List Int} {vs : List Value} {ls : List (List Int)} (S : PartSt w U D tv ds vs ls) (h0 : Below U.heap.size U W0) {k j : Nat} (hkj : j ≠ k) {v u : Value} {m : List Int} (hv : vs[k]? = some v) (hu : vs[j]? = some u) (hm : ls[j]? = some m) (g7 : W0.grownBy w7 v.ownBlock) :
    w7.ownsRow (w.heap.size + 1 + 1 + 1 + 1) 3 1 u m.length (intF m) ∧ (∀ b, v.ownBlock = some b → b < U.heap.size ∧ b ≠ w.heap.size + 1 + 1 ∧ w.heap.size + 1 + 1 + 1 + 1 ≤ b) ∧ U.heap.size ≤ w7.heap.size := by
  have S0 := S.below h0
  obtain ⟨l, hl⟩ := S.fa.ex hv
  refine ⟨own_at (S0.fa.rows j u m hu hm) fun g hg => ?_, fun b hb => ?_, Nat.le_trans h0.size g7.size⟩
  · have hg2 := S0.fa.others hv (b := g) (List.mem_cons.2 (.inr (rest_mem hu hkj hg)))
    exact g7.block g hg2.1 fun e => hg2.2.1 e.symm
  · have h1 := own_lt (S.fa.rows k v l hv hl) hb
    have h2 := ((S.fa.rows k v l hv hl).lt b hb).1
    exact ⟨h1, by omega, h2⟩

/-- Two rows have grown, and are stored. -/
theorem PartSt.app2 {w U W0 w7 W1 w8 : World} {D : Int} {tv : Value} {ds : List Int} {vs : List Value} {ls : List (List Int)} (S : PartSt w U D tv ds vs ls) (h0 : Below U.heap.size U W0) {k j : Nat} (hkj : j ≠ k) {v v' : Value} {l' : List Int} (hv : vs[k]? = some v)
    (g7 : W0.grownBy w7 v.ownBlock) (o7 : w7.ownsRow (w.heap.size + 1 + 1 + 1 + 1) 3 1 v' l'.length (intF l')) (nb7 : NewB W0 v v') (h1 : Below w7.heap.size w7 W1) {u u' : Value} {m' : List Int} (hu : vs[j]? = some u)
    (g8 : W1.grownBy w8 u.ownBlock) (o8 : w8.ownsRow (w.heap.size + 1 + 1 + 1 + 1) 3 1 u' m'.length (intF m')) (nb8 : NewB W1 u u') :
    PartSt w ((w8.setCell ⟨w.heap.size + 1 + 1, k + 1, none⟩ v').setCell ⟨w.heap.size + 1 + 1, j + 1, none⟩ u') D tv ds ((vs.set k v').set j u') ((ls.set k l').set j m') ∧
    (∀ (x : Nat) (T : TypeId) (cs : Array Value), RowAt U x T cs ∧ (w.heap.size + 1 + 1 + 1 + 1 ≤ x ∧ x ∉ rowsB vs) → RowAt ((w8.setCell ⟨w.heap.size + 1 + 1, k + 1, none⟩ v').setCell ⟨w.heap.size + 1 + 1, j + 1, none⟩ u') x T cs ∧ (w.heap.size + 1 + 1 + 1 + 1 ≤ x ∧ x ∉ rowsB ((vs.set k v').set j u'))) := by
  have S0 := S.below h0
  obtain ⟨s1, n1, _, _⟩ := S0.app hv g7 o7 nb7
  have hP7 : w.heap.size + 1 + 1 < w7.heap.size := Nat.lt_of_lt_of_le S0.fa.lt g7.size
  have S1 := s1.below (below_set (o := k + 1) (u := v') h1 hP7)
  have hu' : (vs.set k v')[j]? = some u := by rw [List.getElem?_set_ne (Ne.symm hkj)]; exact hu
  have hne : u.ownBlock ≠ some (w.heap.size + 1 + 1) := fun e => by
    obtain ⟨m, hm⟩ := S.fa.ex hu
    have := ((S.fa.rows j u m hu hm).lt _ e).1
    omega
  have hP1 : w.heap.size + 1 + 1 < W1.heap.size := Nat.lt_of_lt_of_le hP7 h1.size
  have g := grown_set (o := k + 1) (u := v') g8 hP1 hne
  have hne8 : u'.ownBlock ≠ some (w.heap.size + 1 + 1) := fun e => by
    have := (o8.lt _ e).1
    omega
  have o : (w8.setCell ⟨w.heap.size + 1 + 1, k + 1, none⟩ v').ownsRow (w.heap.size + 1 + 1 + 1 + 1) 3 1 u' m'.length (intF m') := own_at o8 fun q hq => Below.heap_setCell _ _ _ _ fun e => hne8 (by rw [hq]; exact congrArg some e)
  have nb : NewB (W1.setCell ⟨w.heap.size + 1 + 1, k + 1, none⟩ v') u u' := by
    rcases nb8 with h | ⟨b, h, h2⟩
    · exact .inl h
    · exact .inr ⟨b, h, by simpa using h2⟩
  obtain ⟨s2, n2, _, _⟩ := S1.app hu' g o nb
  refine ⟨s2, fun x T cs ⟨hx, hx2⟩ => ?_⟩
  have hx0 : RowAt W0 x T cs := (h0.block x hx.lt).trans hx
  have a1 := n1 x T cs ⟨hx0, hx2⟩
  have a2 : RowAt (W1.setCell ⟨w.heap.size + 1 + 1, k + 1, none⟩ v') x T cs := ((below_set (o := k + 1) (u := v') h1 hP7).block x a1.1.lt).trans a1.1
  exact n2 x T cs ⟨a2, a1.2⟩

theorem intsOne {W : World} {B : Nat} {x : Int} (h : W.cell? ⟨B, 0, none⟩ = some (.int .i64 x)) : Ints .i64 W (.slice (some ⟨B, 0, none⟩) 1 1) [x] := by
  refine ⟨_, 1, rfl, by simp, by omega, by simp, fun i y hi => ?_⟩
  have hi0 : i = 0 := by have := (List.getElem?_eq_some_iff.1 hi).1; simpa using this
  subst hi0
  have : x = y := by simpa using hi
  subst this
  exact ⟨B, 0, rfl, World.block_lt_of_cell? _ _ h, h⟩

/-- No node of a tree is larger than its root. -/
theorem node_size {t : TreeP} (h : IsTree t) {k : Nat} {n : NodeP} (hn : t.nodes[k]? = some n) : 1 ≤ n.size ∧ n.size ≤ 64 := by
  obtain ⟨_, _, g, s, q, h1, h2⟩ := h
  obtain ⟨e', h', s', q', _, _, g3⟩ := q.parts k (by omega) (List.getElem?_eq_some_iff.1 hn).1
  obtain ⟨n', hn', hs⟩ := q'.at_
  rw [hn] at hn'
  injection hn' with hn'
  subst hn'
  have := q'.pos
  omega

theorem partLs_len {t : TreeP} (hT : treeB t = true) {s k j : Nat} {l : List Int} (h : (partLs t s k)[j]? = some l) : l.length ≤ 1016 := by
  have hlen := (treeB_true.1 hT).len
  have hdim := treeB_dim hT
  have htk : (t.nodes.take k).length ≤ 127 := by rw [List.length_take]; omega
  have hz : (addT t).length = t.nodes.length := by unfold addT; rw [List.length_mapIdx]
  unfold partLs at h
  rcases j with _ | _ | _ | _ | _ | _ | _ | j
  · simp at h; subst h; simp
  · have h : (t.nodes.take k).flatMap (coefN t.dim) = l := by simpa using h
    rw [← h, flat_const _ (fun x hx => coefN_len hT (List.mem_of_mem_take hx))]
    have hd8 : t.dim.toNat ≤ 8 := by omega
    have := Nat.mul_le_mul htk hd8
    omega
  all_goals first
    | (have h := h; simp only [List.getElem?_cons_succ, List.getElem?_cons_zero, Option.some.injEq] at h; subst h; simp only [List.length_map, List.length_take]; (try simp only [List.length_take] at htk); omega)
    | simp at h
end Go.Proofs.Ytjmjnkilgoelbaa

namespace Go.Proofs.Ytjmjnkilgoelbaa
open Go.RowKit

/-- Trees packed in rows at P. -/
structure PackAt (w : World) (B P : Nat) (l : List TreeP) (vs : List Value) (nv : Value) : Prop where
  fa : FlatAt w B P (dimL l) vs (flatL l)
  n8 : w.cell? ⟨P, 8, none⟩ = some nv
  nr : Ints .i64 w nv normsL
  na : ∀ b o n c, nv = .slice (some ⟨b, o, none⟩) n c → b ∉ P :: rowsB vs
  many : l.length ≤ 16
  ok : ∀ t ∈ l, treeB t = true ∧ t.dim = dimL l

theorem PackAt.seven {w : World} {B P : Nat} {l : List TreeP} {vs : List Value} {nv : Value} (h : PackAt w B P l vs nv) : ∃ v0 v1 v2 v3 v4 v5 v6, vs = [v0, v1, v2, v3, v4, v5, v6] := by
  have hl : vs.length = 7 := h.fa.len.trans rfl
  match vs, hl with
  | [v0, v1, v2, v3, v4, v5, v6], _ => exact ⟨_, _, _, _, _, _, _, rfl⟩

/-- A pack holds few nodes. -/
theorem PackAt.nodes {w : World} {B P : Nat} {l : List TreeP} {vs : List Value} {nv : Value} (h : PackAt w B P l vs nv) : lenTs l ≤ 2032 := by
  have h1 := lenTs_le (l := l) (b := 127) fun t ht => (treeB_true.1 (h.ok t ht).1).len.2
  have := h.many
  omega

theorem PackAt.dim {w : World} {B P : Nat} {l : List TreeP} {vs : List Value} {nv : Value} (h : PackAt w B P l vs nv) : 0 ≤ dimL l ∧ dimL l ≤ 8 := by
  cases l with
  | nil => exact ⟨Int.le_refl 0, by show (0 : Int) ≤ 8; omega⟩
  | cons t l =>
    obtain ⟨h1, h2⟩ := h.ok t (by simp)
    have := treeB_dim h1
    omega

theorem flatL_len {l : List TreeP} (hd : (coefsL l).length ≤ 100000) (hn : lenTs l ≤ 100000) (hm : l.length ≤ 100000) {j : Nat} {r : List Int} (h : (flatL l)[j]? = some r) : r.length ≤ 100000 := by
  unfold flatL at h
  rcases j with _ | _ | _ | _ | _ | _ | _ | j
  all_goals first
    | (simp only [List.getElem?_cons_succ, List.getElem?_cons_zero, Option.some.injEq] at h; subst h; first | exact hd | (simp only [startsL_len, atL_len, leftL_len, rightL_len, addsL_len, sizeL_len]; assumption))
    | simp at h

theorem PackAt.coefs {w : World} {B P : Nat} {l : List TreeP} {vs : List Value} {nv : Value} (h : PackAt w B P l vs nv) : (coefsL l).length = lenTs l * (dimL l).toNat ∧ (coefsL l).length ≤ 16256 := by
  have e := coefsL_len l h.ok
  refine ⟨e, ?_⟩
  rw [e]
  have := Nat.mul_le_mul h.nodes (show (dimL l).toNat ≤ 8 by have := h.dim; omega)
  omega

/-- Each row as integers. -/
theorem PackAt.row {w : World} {B P : Nat} {l : List TreeP} {vs : List Value} {nv : Value} (h : PackAt w B P l vs nv) {j : Nat} {v : Value} {r : List Int} (hv : vs[j]? = some v) (hr : (flatL l)[j]? = some r) : Ints .i64 w v r :=
  (Ints.own (h.fa.rows j v r hv hr) (by have := flatL_len (by have := h.coefs.2; omega) (by have := h.nodes; omega) (by have := h.many; omega) hr; omega)).2

set_option maxRecDepth 100000 in
theorem flen_nil (w : World) : Calls Try.prog 62 #[.pointer none] w fun e w' => e = .returned (.int .i64 0) ∧ w = w' := by
  go_enter Try.func62, Try.ntmps62
  go_wp2_with fail
  go_ret
  exact ⟨rfl, rfl⟩

set_option maxRecDepth 100000 in
theorem flen_any {w : World} {B P : Nat} {l : List TreeP} {vs : List Value} {nv : Value} (h : PackAt w B P l vs nv) : Calls Try.prog 62 #[.pointer (some ⟨P, 0, none⟩)] w fun e w' => e = .returned (.int .i64 l.length) ∧ w = w' := by
  obtain ⟨v0, v1, v2, v3, v4, v5, v6, rfl⟩ := h.seven
  obtain ⟨a0, c0, rfl⟩ := (h.row (j := 0) rfl rfl).shape
  have p1 := (h.fa.cs 0 _ rfl).1
  rw [startsL_len] at p1
  have hl := h.fa.lt
  clear h
  go_enter Try.func62, Try.ntmps62
  go_wp2_with fail
  go_ret
  exact ⟨rfl, rfl⟩

set_option maxRecDepth 100000 in
theorem fend_any {w : World} {B P : Nat} {l : List TreeP} {vs : List Value} {nv : Value} (h : PackAt w B P l vs nv) (i : Nat) (hi : i < l.length) : Calls Try.prog 136 #[.pointer (some ⟨P, 0, none⟩), .int .i64 i] w fun e w' => e = .returned (.int .i64 (lenTs (l.take (i + 1)) : Nat)) ∧ w = w' := by
  have hm := h.many
  have hi16 : (i : Int) < 16 := by omega
  have hi0 : (0 : Int) ≤ i := by omega
  obtain ⟨v0, v1, v2, v3, v4, v5, v6, rfl⟩ := h.seven
  have H0 := h.row (j := 0) rfl rfl
  have H2 := h.row (j := 2) rfl rfl
  have p1 := (h.fa.cs 0 _ rfl).1
  have p3 := (h.fa.cs 2 _ rfl).1
  obtain ⟨a2, c2, rfl⟩ := H2.shape
  obtain ⟨a0, c0, rfl, z1, z2, z3, hc⟩ := H0
  clear z1 z2 z3
  rw [startsL_len] at p1
  rw [atL_len] at p3
  have hl := h.fa.lt
  clear h H2
  by_cases hl1 : i + 1 < l.length
  · have hs := startsL_get l 0 (i + 1) hl1
    rw [Nat.zero_add] at hs
    obtain ⟨b, o, rfl, hb, hx⟩ := hc _ _ hs
    have hlI : (i : Int) + 1 < (l.length : Int) := by omega
    clear hc hs
    generalize lenTs (l.take (i + 1)) = q at *
    generalize l.length = n at *
    go_enter Try.func136, Try.ntmps136
    go_wp2_with fail
    go_ret
    exact ⟨rfl, rfl⟩
  · have he : l.take (i + 1) = l := List.take_of_length_le (by omega)
    rw [he]
    have hlI : ¬ (i : Int) + 1 < (l.length : Int) := by omega
    clear hc
    generalize lenTs l = q at *
    generalize l.length = n at *
    go_enter Try.func136, Try.ntmps136
    go_wp2_with fail
    go_ret
    exact ⟨rfl, rfl⟩
end Go.Proofs.Ytjmjnkilgoelbaa

namespace Go.Proofs.Ytjmjnkilgoelbaa
open Go.RowKit

theorem rep_mid {A B C N : List Int} {s e : Nat} (hs : A.length = s) (he : (A ++ B).length = e) : (A ++ B ++ C).take s ++ N ++ (A ++ B ++ C).drop e = A ++ N ++ C := by
  have h1 : (A ++ B ++ C).take s = A := by rw [List.append_assoc, ← hs, List.take_left']; rfl
  have h2 : (A ++ B ++ C).drop e = C := by rw [← he, List.drop_left']; rfl
  rw [h1, h2]

theorem put_flat {f : TreeP → List Int} (hf : ∀ t, (f t).length = t.nodes.length) (l1 os l2 : List TreeP) (t : TreeP) :
    ((l1 ++ os ++ l2).flatMap f).take (lenTs l1) ++ f t ++ ((l1 ++ os ++ l2).flatMap f).drop (lenTs (l1 ++ os)) = (l1 ++ [t] ++ l2).flatMap f := by
  simp only [List.flatMap_append]
  rw [rep_mid (flatMap_len hf l1) (by rw [← List.flatMap_append, flatMap_len hf])]
  simp

theorem put_coefs {D : Int} (l1 os l2 : List TreeP) (t : TreeP) (h : ∀ x ∈ l1 ++ os ++ l2, treeB x = true ∧ x.dim = D) :
    (coefsL (l1 ++ os ++ l2)).take (lenTs l1 * D.toNat) ++ coefT t ++ (coefsL (l1 ++ os ++ l2)).drop (lenTs (l1 ++ os) * D.toNat) = coefsL (l1 ++ [t] ++ l2) := by
  have e1 : (coefsL l1).length = lenTs l1 * D.toNat := coefsL_len l1 fun x hx => h x (by simp [hx])
  have e2 : (coefsL (l1 ++ os)).length = lenTs (l1 ++ os) * D.toNat := coefsL_len _ fun x hx => h x (List.mem_append_left _ hx)
  unfold coefsL at e1 e2 ⊢
  simp only [List.flatMap_append] at e1 e2 ⊢
  rw [rep_mid e1 e2]
  simp

theorem put_left (l1 os l2 : List TreeP) (t : TreeP) (by_ : Int) (h : ∀ x ∈ l2, ∀ n ∈ x.nodes, NodeOk n) (hb : ((lenTs l1 + t.nodes.length : Nat) : Int) = (lenTs (l1 ++ os) : Nat) + by_) :
    (moveL (lenTs (l1 ++ os)) by_ (leftL 0 (l1 ++ os ++ l2))).take (lenTs l1) ++ leftT (lenTs l1) t ++ (moveL (lenTs (l1 ++ os)) by_ (leftL 0 (l1 ++ os ++ l2))).drop (lenTs (l1 ++ os)) = leftL 0 (l1 ++ [t] ++ l2) := by
  have e0 : (leftL 0 (l1 ++ os)).length = lenTs (l1 ++ os) := leftL_len _ _
  have e1 : moveL (lenTs (l1 ++ os)) by_ (leftL 0 (l1 ++ os ++ l2)) = leftL 0 l1 ++ leftL (0 + lenTs l1) os ++ leftL (lenTs l1 + t.nodes.length) l2 := by
    rw [leftL_append (l1 ++ os) l2 0, ← e0, moveL_append, e0, leftL_move l2 (0 + lenTs (l1 ++ os)) (lenTs l1 + t.nodes.length) h (by rw [Nat.zero_add]; exact hb), leftL_append]
  rw [e1, rep_mid (leftL_len _ _) (by rw [← leftL_append]; exact e0), List.append_assoc, leftL_append, leftL_append]
  simp [leftL, lenTs]

theorem put_right (l1 os l2 : List TreeP) (t : TreeP) (by_ : Int) (h : ∀ x ∈ l2, ∀ n ∈ x.nodes, NodeOk n) (hb : ((lenTs l1 + t.nodes.length : Nat) : Int) = (lenTs (l1 ++ os) : Nat) + by_) :
    (moveL (lenTs (l1 ++ os)) by_ (rightL 0 (l1 ++ os ++ l2))).take (lenTs l1) ++ rightT (lenTs l1) t ++ (moveL (lenTs (l1 ++ os)) by_ (rightL 0 (l1 ++ os ++ l2))).drop (lenTs (l1 ++ os)) = rightL 0 (l1 ++ [t] ++ l2) := by
  have e0 : (rightL 0 (l1 ++ os)).length = lenTs (l1 ++ os) := rightL_len _ _
  have e1 : moveL (lenTs (l1 ++ os)) by_ (rightL 0 (l1 ++ os ++ l2)) = rightL 0 l1 ++ rightL (0 + lenTs l1) os ++ rightL (lenTs l1 + t.nodes.length) l2 := by
    rw [rightL_append (l1 ++ os) l2 0, ← e0, moveL_append, e0, rightL_move l2 (0 + lenTs (l1 ++ os)) (lenTs l1 + t.nodes.length) h (by rw [Nat.zero_add]; exact hb), rightL_append]
  rw [e1, rep_mid (rightL_len _ _) (by rw [← rightL_append]; exact e0), List.append_assoc, rightL_append, rightL_append]
  simp [rightL, lenTs]

/-- The starts from a place on, moved by so much. -/
def mvS (f k : Nat) (b : Int) (l : List Int) : List Int := l.mapIdx fun i x => if f ≤ i ∧ i < k then x + b else x

theorem mvS_len (f k : Nat) (b : Int) (l : List Int) : (mvS f k b l).length = l.length := by simp [mvS]
theorem mvS_self (f : Nat) (b : Int) (l : List Int) : mvS f f b l = l := by
  unfold mvS
  apply List.ext_getElem?
  intro i
  rw [List.getElem?_mapIdx]
  cases h : l[i]? with
  | none => rfl
  | some x => rw [Option.map_some, if_neg (by omega)]

theorem mvS_next {f k : Nat} {b x : Int} {l : List Int} (hf : f ≤ k) (hx : l[k]? = some x) : (mvS f k b l)[k]? = some x ∧ (mvS f k b l).set k (x + b) = mvS f (k + 1) b l := by
  have h1 : (mvS f k b l)[k]? = some x := by unfold mvS; rw [List.getElem?_mapIdx, hx]; simp
  refine ⟨h1, List.ext_getElem? fun i => ?_⟩
  rw [List.getElem?_set]
  by_cases hi : k = i
  · subst hi
    have hk := (List.getElem?_eq_some_iff.1 h1).1
    rw [if_pos rfl, if_pos hk]
    unfold mvS
    rw [List.getElem?_mapIdx, hx]
    simp [hf]
  · rw [if_neg hi]
    unfold mvS
    rw [List.getElem?_mapIdx, List.getElem?_mapIdx]
    congr 1
    funext y
    by_cases h : f ≤ i ∧ i < k
    · rw [if_pos h, if_pos ⟨h.1, by omega⟩]
    · rw [if_neg h, if_neg (by omega)]

/-- All starts moved. -/
theorem put_starts (l1 os l2 : List TreeP) (t : TreeP) (by_ : Int) (i : Nat) (hi : i = l1.length) (hb : ((lenTs l1 + t.nodes.length : Nat) : Int) = (lenTs (l1 ++ os) : Nat) + by_) :
    mvS (i + 1) (l1.length + 1 + l2.length) by_ (startsL 0 l1 ++ [(lenTs l1 : Int)] ++ startsL (lenTs (l1 ++ os)) l2) = startsL 0 (l1 ++ [t] ++ l2) := by
  have e : startsL 0 (l1 ++ [t] ++ l2) = startsL 0 l1 ++ [(lenTs l1 : Int)] ++ startsL (lenTs l1 + t.nodes.length) l2 := by
    rw [List.append_assoc, startsL_append]
    simp [startsL]
  rw [e, ← startsL_move l2 _ _ hb]
  subst hi
  unfold mvS
  rw [List.mapIdx_append]
  congr 1
  · apply List.ext_getElem?
    intro i
    rw [List.getElem?_mapIdx]
    cases h : (startsL 0 l1 ++ [(lenTs l1 : Int)])[i]? with
    | none => rfl
    | some x =>
      have h2 := (List.getElem?_eq_some_iff.1 h).1
      rw [List.length_append, startsL_len, List.length_singleton] at h2
      rw [Option.map_some, if_neg (by omega)]
  · apply List.ext_getElem?
    intro i
    rw [List.getElem?_mapIdx, List.getElem?_map]
    rcases h : (startsL (lenTs (l1 ++ os)) l2)[i]? with _ | x
    · rfl
    · have hl := (List.getElem?_eq_some_iff.1 h).1
      rw [startsL_len] at hl
      simp only [Option.map_some, List.length_append, startsL_len, List.length_singleton]
      rw [if_pos (by omega)]
/-- Where nodes go: not far. -/
theorem node_near {t : TreeP} (h : treeB t = true) {n : NodeP} (hn : n ∈ t.nodes) : 0 ≤ n.left ∧ n.left ≤ t.nodes.length ∧ 0 ≤ n.right ∧ n.right ≤ t.nodes.length := by
  obtain ⟨i, hi⟩ := List.getElem?_of_mem hn
  cases hl : leafB n with
  | true => have := leafB_is hl; omega
  | false =>
    obtain ⟨m, e, a, b, x, y, h1, _, h3, h4, h5, _⟩ := (treeB_true.1 h).inner hi hl
    have := h3.lt; have := h5.lt
    omega

theorem leftL_near : ∀ (l : List TreeP) (s : Nat), (∀ t ∈ l, treeB t = true) → ∀ x ∈ leftL s l, 0 ≤ x ∧ x ≤ ((s + lenTs l : Nat) : Int)
  | [], s, _, x, hx => by simp [leftL] at hx
  | t :: l, s, h, x, hx => by
    rw [leftL] at hx
    rw [lenTs_cons]
    rcases List.mem_append.1 hx with hx | hx
    · obtain ⟨n, hn, rfl⟩ := List.mem_map.1 hx
      have := node_near (h t (by simp)) hn
      unfold leftN
      split <;> omega
    · have := leftL_near l (s + t.nodes.length) (fun u hu => h u (by simp [hu])) x hx
      omega

theorem rightL_near : ∀ (l : List TreeP) (s : Nat), (∀ t ∈ l, treeB t = true) → ∀ x ∈ rightL s l, 0 ≤ x ∧ x ≤ ((s + lenTs l : Nat) : Int)
  | [], s, _, x, hx => by simp [rightL] at hx
  | t :: l, s, h, x, hx => by
    rw [rightL] at hx
    rw [lenTs_cons]
    rcases List.mem_append.1 hx with hx | hx
    · obtain ⟨n, hn, rfl⟩ := List.mem_map.1 hx
      have := node_near (h t (by simp)) hn
      unfold rightN
      split <;> omega
    · have := rightL_near l (s + t.nodes.length) (fun u hu => h u (by simp [hu])) x hx
      omega

theorem startsL_near : ∀ (l : List TreeP) (s : Nat), ∀ x ∈ startsL s l, 0 ≤ x ∧ x ≤ ((s + lenTs l : Nat) : Int)
  | [], s, x, hx => by simp [startsL] at hx
  | t :: l, s, x, hx => by
    rw [startsL] at hx
    rw [lenTs_cons]
    rcases List.mem_cons.1 hx with rfl | hx
    · omega
    · have := startsL_near l (s + t.nodes.length) x hx
      omega

/-- What the rows are where a tree is put in: their lengths, the places, what comes of them. -/
structure PutIs (l1 os l2 : List TreeP) (t : TreeP) (i N s e q m dn Dn : Nat) (SL CL AL LL RL DL ZL NC NA NL NR ND NZ : List Int) : Prop where
  hN : SL.length = N
  hi : i < N ∧ N ≤ 16
  hs : SL[i]? = some (s : Int)
  se : s ≤ e ∧ e ≤ q ∧ q ≤ 2032 ∧ (s = e → s = q ∧ e * dn = CL.length)
  hm : 1 ≤ m ∧ m ≤ 127
  hd : dn ≤ 8 ∧ 1 ≤ Dn ∧ Dn ≤ 8
  cl : CL.length = q * dn ∧ s * dn ≤ e * dn ∧ e * dn ≤ CL.length ∧ CL.length ≤ 16256 ∧ (s * dn = e * dn → s * dn = CL.length)
  al : AL.length = q
  ll : LL.length = q
  rl : RL.length = q
  dl : DL.length = q
  zl : ZL.length = q
  nc : NC.length = m * Dn ∧ 1 ≤ NC.length ∧ NC.length ≤ 1016
  na : NA.length = m
  nl : NL.length = m
  nr : NR.length = m
  nd : ND.length = m
  nz : NZ.length = m
  sx : ∀ x ∈ SL, -1000000 ≤ x ∧ x ≤ 1000000
  lx : ∀ x ∈ LL, -1000000 ≤ x ∧ x ≤ 1000000
  rx : ∀ x ∈ RL, -1000000 ≤ x ∧ x ≤ 1000000
  fin : flatL (l1 ++ [t] ++ l2) = [mvS (i + 1) N ((m : Int) - ((e : Int) - (s : Int))) SL, CL.take (s * dn) ++ NC ++ CL.drop (e * dn), AL.take s ++ NA ++ AL.drop e,
    (moveL e ((m : Int) - ((e : Int) - (s : Int))) LL).take s ++ NL ++ (moveL e ((m : Int) - ((e : Int) - (s : Int))) LL).drop e,
    (moveL e ((m : Int) - ((e : Int) - (s : Int))) RL).take s ++ NR ++ (moveL e ((m : Int) - ((e : Int) - (s : Int))) RL).drop e, DL.take s ++ ND ++ DL.drop e, ZL.take s ++ NZ ++ ZL.drop e]

theorem put_is (l1 os l2 : List TreeP) (t : TreeP) (dn Dn : Nat) (hl : l1.length + os.length + l2.length ≤ 16) (h1 : l1.length < 16) (ho : os = [] ∧ l2 = [] ∨ ∃ o, os = [o]) (hd8 : dn ≤ 8) (hd : ∀ x ∈ l1 ++ os ++ l2, treeB x = true ∧ x.dim = (dn : Int)) (ht : treeB t = true) (hD : t.dim = (Dn : Int)) :
    PutIs l1 os l2 t l1.length (l1.length + 1 + l2.length) (lenTs l1) (lenTs (l1 ++ os)) (lenTs (l1 ++ os ++ l2)) t.nodes.length dn Dn
      (startsL 0 l1 ++ [(lenTs l1 : Int)] ++ startsL (lenTs (l1 ++ os)) l2) (coefsL (l1 ++ os ++ l2)) (atL (l1 ++ os ++ l2)) (leftL 0 (l1 ++ os ++ l2)) (rightL 0 (l1 ++ os ++ l2)) (addsL (l1 ++ os ++ l2)) (sizeL (l1 ++ os ++ l2))
      (coefT t) (atT t) (leftT (lenTs l1) t) (rightT (lenTs l1) t) (addT t) (sizeT t) := by
  have hT := treeB_true.1 ht
  have hlen := hT.len
  have hdim := treeB_dim ht
  have e1 : lenTs (l1 ++ os) = lenTs l1 + lenTs os := lenTs_append _ _
  have e2 : lenTs (l1 ++ os ++ l2) = lenTs l1 + lenTs os + lenTs l2 := by rw [lenTs_append, e1]
  have hq : lenTs (l1 ++ os ++ l2) ≤ 2032 := by
    have g1 := lenTs_le (l := l1 ++ os ++ l2) (b := 127) fun x hx => (treeB_true.1 (hd x hx).1).len.2
    simp only [List.length_append] at g1
    omega
  have hno : os = [] ∧ l2 = [] ∨ 1 ≤ lenTs os ∧ os.length = 1 := by
    rcases ho with h | ⟨o, rfl⟩
    · exact .inl h
    · refine .inr ⟨?_, rfl⟩
      have := (treeB_true.1 (hd o (by simp)).1).len.1
      rw [lenTs_cons]
      omega
  have hc : (coefsL (l1 ++ os ++ l2)).length = lenTs (l1 ++ os ++ l2) * dn := by
    have := coefsL_len (D := dn) _ hd
    rwa [Int.toNat_natCast] at this
  have hmul : lenTs (l1 ++ os ++ l2) * dn ≤ 16256 := by
    have := Nat.mul_le_mul hq hd8
    omega
  have hse : lenTs l1 * dn ≤ lenTs (l1 ++ os) * dn := Nat.mul_le_mul_right _ (by omega)
  have heq : lenTs (l1 ++ os) * dn ≤ lenTs (l1 ++ os ++ l2) * dn := Nat.mul_le_mul_right _ (by omega)
  have hdn : 1 ≤ lenTs os → 1 ≤ dn := fun h0 => by
    rcases hno with ⟨h, _⟩ | h
    · rw [h] at h0; simp [lenTs] at h0
    · rcases ho with ⟨rfl, _⟩ | ⟨o, rfl⟩
      · simp at h
      · have := hd o (by simp)
        have := treeB_dim this.1
        omega
  have hnc : (coefT t).length = t.nodes.length * Dn := by rw [coefT_len ht, hD, Int.toNat_natCast]
  have hD8 : 1 ≤ Dn ∧ Dn ≤ 8 := by omega
  have hok : ∀ x ∈ l2, ∀ n ∈ x.nodes, NodeOk n := fun x hx n hn => by
    obtain ⟨j, hj⟩ := List.getElem?_of_mem hn
    exact (treeB_node (hd x (by simp [hx])).1 hj).1
  have hby : ((lenTs l1 + t.nodes.length : Nat) : Int) = (lenTs (l1 ++ os) : Nat) + ((t.nodes.length : Int) - ((lenTs (l1 ++ os) : Nat) - (lenTs l1 : Nat))) := by omega
  refine ⟨by simp [startsL_len]; omega, ⟨by omega, ?_⟩, ?_, ⟨by omega, by omega, hq, ?_⟩, hlen, ⟨hd8, hD8⟩, ⟨hc, hse, by rw [hc]; exact heq, by rw [hc]; exact hmul, ?_⟩, atL_len _, leftL_len _ _, rightL_len _ _, addsL_len _, sizeL_len _, ⟨hnc, ?_, ?_⟩, by simp [atT], by simp [leftT], by simp [rightT], by simp [addT], by simp [sizeT], ?_, ?_, ?_, ?_⟩
  · rcases hno with ⟨h, h'⟩ | h
    · rw [h']; simp; omega
    · omega
  · rw [List.append_assoc, List.getElem?_append_right (by rw [startsL_len]; omega), startsL_len]
    simp
  · intro h
    rcases hno with ⟨h3, h4⟩ | h3
    · subst h3 h4
      refine ⟨by simp, ?_⟩
      simp only [List.append_nil] at hc ⊢
      exact hc.symm
    · omega
  · intro h
    rcases hno with ⟨h3, h4⟩ | h3
    · subst h3 h4
      simp only [List.append_nil] at hc ⊢
      exact hc.symm
    · have := hdn h3.1
      have h5 : lenTs l1 * dn < lenTs (l1 ++ os) * dn := Nat.mul_lt_mul_of_pos_right (by omega) (by omega)
      omega
  · rw [hnc]
    exact Nat.mul_pos hlen.1 hD8.1
  · rw [hnc]
    have := Nat.mul_le_mul hlen.2 hD8.2
    omega
  · intro x hx
    simp only [List.mem_append, List.mem_singleton] at hx
    rcases hx with (hx | hx) | hx
    · have := startsL_near l1 0 x hx; omega
    · omega
    · have := startsL_near l2 _ x hx; omega
  · intro x hx
    have := leftL_near _ 0 (fun t ht => (hd t ht).1) x hx
    omega
  · intro x hx
    have := rightL_near _ 0 (fun t ht => (hd t ht).1) x hx
    omega
  · have p1 := put_starts l1 os l2 t _ l1.length rfl hby
    have p2 := put_coefs (D := (dn : Int)) l1 os l2 t hd
    rw [Int.toNat_natCast] at p2
    have p3 := put_flat (f := atT) (fun t => by simp [atT]) l1 os l2 t
    have p4 := put_left l1 os l2 t _ hok hby
    have p5 := put_right l1 os l2 t _ hok hby
    have p6 := put_flat (f := addT) (fun t => by simp [addT]) l1 os l2 t
    have p7 := put_flat (f := sizeT) (fun t => by simp [sizeT]) l1 os l2 t
    unfold flatL
    rw [← p1, ← p2, ← p4, ← p5]
    unfold atL addsL sizeL
    rw [← p3, ← p6, ← p7]
end Go.Proofs.Ytjmjnkilgoelbaa
