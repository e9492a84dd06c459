/-
  Base: Words and small laws for all walks of this seat: slices that read as integers, appending one element to a slice of the call's own.
  Kit: Small laws that all walks share: results, bounds, readings behind draws, append of a whole list.
  TreeP: Plain laws of trees: which nodes are a tree, the way of a vector, the leaves.
  VecA: Walks of package vec (Is, Parts, Dot) and of copseref08: vectors and the parts of planes.
  VecB: Walks of package vec (ends, Parts, Dot).
  VecC: Walks: the product of parts and a vector (vec.Dot, copseref08.Dot), copseref08.Is, copseref08.Parts.
  MemT: How trees lie in memory.
  CutA: Walks: cut.Is, cut.Left, copseref09.Is, copseref09.Left, tree.leaf: what is right of a cut, and where a vector goes by it.
  NumA: Walks of package num: the functions on numbers alone.
  Tail: A region that draws its order: the operations that only read first, in the text's order, then the forced tail.
  HarmA: Walks of package harm and of copseref05: the average of a number of points.
  TreeQ: Plain laws of trees: how deep nodes are, the leaves in their order, how long paths are.
  Same01: Walk of copseref01.Same: whether two lists of integers are the same.
  RowM: Rows of the call's own: their cells, overwritten, copied, cut and grown.
  Lex: A drawn region, walked by hand: what only reads is taken first, an operation that is not wanted is passed by, what makes memory comes up one by one.
  OwnO: Own rows over changes of other blocks; which blocks have changed; make with room; append and clear in a region.
  OwnT: Rows of the call's own: of integers, of nodes; append to them.
  Tail2: A region that draws its order: three operations that look at no memory, a forced head (calls), behind it operations that only read.
  RefLog: Walk of copseref01.Log.
-/
import Derived.Test.YtdbonlpkmncggaaRows
import Derived.WalkKit
import Derived.WalkSpells
import Derived.WalkLawsBesides
import Derived.Deep.QuietTactic
import Derived.BigQuiet
import Derived.Lib.Hide
import Derived.Deep.DeepMust
import Derived.Deep.RegionHeld3
import Derived.Deep.DeepFit
import Derived.Outline
import Derived.Deep.DrawnRows
import Derived.Deep.Draws
import Derived.Maps.AppendAt
import Derived.Lib.ItoaNum
import Derived.Deep.DeepCutAuto
import Derived.Deep.CutBlock
import Derived.Test.YtdbonlpkmncggaaShelf
import Derived.StillTailTactics
import Derived.Deep.Quiet
import Derived.Lib.Overlaps
import Derived.Laws.Externs
import Derived.Laws.IdiomCopy
import Derived.Lib.AppendZeros
import Derived.Deep.AppendSrc
import Derived.Laws.OwnMore
namespace Go.Proofs.Ytdbonlpkmncggaa
open Go.RowKit

/-- v is a slice whose elements are the integers l. -/
def Ints (k : IntKind) (w : World) (v : Value) (l : List Int) : Prop :=
  ∃ a c, v = .slice a l.length c ∧ l.length ≤ c ∧ c ≤ 9223372036854775807 ∧ l.length ≤ 140737488351232 ∧
    ∀ (i : Nat) (x : Int), l[i]? = some x → ∃ b o, a = some ⟨b, o, none⟩ ∧ b < w.heap.size ∧ w.cell? ⟨b, o + i, none⟩ = some (.int k x)

theorem Ints.shape {k : IntKind} {w : World} {v : Value} {l : List Int} (h : Ints k w v l) : ∃ a c, v = .slice a l.length c := by
  obtain ⟨a, c, e, _⟩ := h; exact ⟨a, c, e⟩

/-- v lies from block B on (or holds nothing). -/
def Fresh (B : Nat) (v : Value) : Prop := ∀ a n c, v = .slice (some a) n c → n ≠ 0 → B ≤ a.block
theorem Fresh.zero (v : Value) : Fresh 0 v := fun _ _ _ _ _ => Nat.zero_le _
theorem Fresh.mono {B B' : Nat} {v : Value} (h : Fresh B v) (hb : B' ≤ B) : Fresh B' v := fun a n c e h0 => Nat.le_trans hb (h a n c e h0)
theorem Fresh.own {w : World} {base e size n : Nat} {v : Value} {xs : List Value} (h : w.ownsRow base e size v n xs) : Fresh base v := fun a n c e _ =>
  (h.lt a.block (by rw [e]; rfl)).1
theorem Fresh.cut {B k n c : Nat} {a : Option Addr} (h : Fresh B (.slice a n c)) (hk : k ≤ n) : Fresh B (.slice a k c) := fun a' n' c' e h0 => by
  injection e with e1 e2 e3
  subst e1 e2 e3
  exact h _ _ _ rfl (by omega)

theorem Ints.setCell {k : IntKind} {w : World} {v : Value} {l : List Int} {B : Nat} {A : Addr} (h : Ints k w v l) (hf : Fresh B v) (hA : A.block < B) (u : Value) : Ints k (w.setCell A u) v l := by
  obtain ⟨a, c, rfl, h1, h2, h3, h⟩ := h
  refine ⟨a, c, rfl, h1, h2, h3, fun i x hi => ?_⟩
  obtain ⟨b, o, e, hlt, hc⟩ := h i x hi
  refine ⟨b, o, e, by simpa [World.setCell] using hlt, ?_⟩
  have hb : B ≤ b := hf ⟨b, o, none⟩ l.length c (by rw [e]) (by have := (List.getElem?_eq_some_iff.1 hi).1; omega)
  exact (World.cell?_of_block (w := w) (a := ⟨b, o + i, none⟩) (Below.heap_setCell _ _ _ _ (show b ≠ A.block by omega))).trans hc

theorem Ints.below {k : IntKind} {w w' : World} {v : Value} {l : List Int} (h : Ints k w v l) (hb : Below w.heap.size w w') : Ints k w' v l := by
  obtain ⟨a, c, rfl, h1, h2, h3, h⟩ := h
  refine ⟨a, c, rfl, h1, h2, h3, fun i x hi => ?_⟩
  obtain ⟨b, o, e, hlt, hc⟩ := h i x hi
  exact ⟨b, o, e, Nat.lt_of_lt_of_le hlt hb.size, (hb.cell (p := ⟨b, o + i, none⟩) hlt).trans hc⟩

/-- What the call built itself reads as a slice of integers. -/
theorem Ints.own {k : IntKind} {w : World} {base e n : Nat} {v : Value} {l : List Int} (h : w.ownsRow base e 1 v n (l.map (Value.int k))) (hl : l.length ≤ 140737488351232) : n = l.length ∧ Ints k w v l := by
  have hlen : l.length = n := by simpa using h.1
  refine ⟨hlen.symm, ?_⟩
  subst hlen
  rcases h.2 with ⟨rfl, h0⟩ | ⟨g, cap, cur, rfl, hb, hg, h1, h2, h3, h4⟩
  · have : l = [] := List.eq_nil_of_length_eq_zero h0
    subst this
    exact ⟨none, 0, rfl, by simp, by omega, by simp, fun i x hi => by simp at hi⟩
  · refine ⟨_, _, rfl, h1, by simpa [maxLen] using h2, hl, fun i x hi => ⟨g, 0, rfl, (Array.getElem?_eq_some_iff.1 hg).1, ?_⟩⟩
    have hi' : (l.map (Value.int k))[i]? = some (.int k x) := by simp [hi]
    have := World.ownsRow.cells h (g := g) rfl i _ hi'
    have hadd : (⟨g, 0, none⟩ : Addr).add i = ⟨g, 0 + i, none⟩ := by unfold Addr.add; split <;> simp_all
    rwa [hadd] at this


/-- What the table says of an element type: its zero, its cells, its bytes. -/
def EI (P : Program) (e : TypeId) (z : Value) (size bytes : Nat) : Prop :=
  ∃ i, P.info? e = some i ∧ i.zero = some z ∧ i.size = size ∧ i.bytes = bytes ∧ z.cells.size = size ∧ 0 < size ∧ 0 < bytes

theorem EI.of {P : Program} {e : TypeId} {z : Value} {size bytes : Nat} (h : (P.info? e).map (fun i => (i.zero, i.size, i.bytes)) = some (some z, size, bytes)) (h1 : z.cells.size = size) (h2 : 0 < size) (h3 : 0 < bytes) : EI P e z size bytes := by
  obtain ⟨i, a, b, c, d⟩ := info_parts h
  exact ⟨i, a, b, c, d, h1, h2, h3⟩

/-- One element is appended to a slice of the call's own: it lies in the block laid last. -/
theorem app1 {P : Program} {ops : Array Oper} {rest : List Oper} {o : Oper} {a : Act} {Q : Exit → Act → World → Prop} (hgd : o.guard = none) (s x : Operand) (t : TypeId)
    (ho : o.op = .call { callee := .builtin .append, args := #[s, x], argTypes := #[t, t] })
    {e : TypeId} {z : Value} {size bytes : Nat} (ht : P.underlying t = some (.slice e)) (hE : EI P e z size bytes)
    (base : Nat) {v : Value} {n : Nat} {xs : List Value} {W : World} {cs : Array Value} {T : TypeId} {C : Nat} (hs : a.eval s = v) (hown : W.ownsRow base e size v n xs)
    (hx : a.eval x = .slice (some ⟨W.heap.size, 0, none⟩) 1 C) (hcs : cs.size = size) (h1 : ∀ u ∈ cs.toList, u.oneCell' = true)
    (hbytes : (n + 1) * bytes ≤ 140737488355328) (hbase : base ≤ W.heap.size)
    (h : ∀ v' w', w'.ownsRow base e size v' (n + 1) (xs ++ cs.toList) → Below base W w' → W.grownBy w' v.ownBlock → wpList P ops Q rest (a.put o.dst v') w') :
    wpList P ops Q (o :: rest) a (W.alloc (.cells cs T)) := by
  obtain ⟨i, hi, hz, hsize, hby, hzs, hsz, hbp⟩ := hE
  have h63 : n + 1 ≤ 140737488355328 := Nat.le_trans (Nat.le_mul_of_pos_right _ hbp) hbytes
  refine wpList_append_own _ hgd s x t ho base e i z size bytes ht hi hz hsize hby hzs hsz v n xs hs (hown.alloc _) ⟨W.heap.size, 0, none⟩ 1 C cs.toList hx (by simp [hcs]) ?_ h1 (by unfold maxLen; omega) hbytes (by simp; omega) ?_
  · intro j u hu
    have hadd : (⟨W.heap.size, 0, none⟩ : Addr).add j = ⟨W.heap.size, j, none⟩ := by unfold Addr.add; split <;> simp_all
    rw [hadd]
    have hb := heap_alloc_new W (.cells cs T)
    simp only [World.cell?, hb]
    simpa using hu
  · intro v' w' hown' hg _
    refine h v' w' hown' ?_ ?_
    · exact ((Below.refl _ _).alloc hbase _).grown hg (by simp; omega) fun k hk => (hown.lt k hk).1
    · exact ⟨hg.os, hg.tape, hg.output, by have := hg.size; simp at this; omega, fun k hk hne => (hg.block k (by simp; omega) hne).trans (Below.heap_alloc W _ k hk)⟩

theorem Ints.take {kd : IntKind} {w : World} {a : Option Addr} {c k n : Nat} {l : List Int} (h : Ints kd w (.slice a n c) l) (hk : k ≤ l.length) : n = l.length ∧ Ints kd w (.slice a k c) (l.take k) := by
  obtain ⟨a', c', e, h1, h2, h3, h⟩ := h
  injection e with e1 e2 e3
  subst e1 e2 e3
  have hl : (l.take k).length = k := by simp; omega
  refine ⟨rfl, a, c, by rw [hl], by omega, h2, by omega, fun i x hi => h i x ?_⟩
  rw [List.getElem?_take] at hi
  split at hi
  · exact hi
  · cases hi

theorem getElem?_ex {α : Type} {l : List α} {k : Nat} (h : k < l.length) : ∃ x, l[k]? = some x := ⟨_, List.getElem?_eq_getElem h⟩

theorem take_snoc' {α : Type} {l : List α} {k : Nat} {x : α} (h : l[k]? = some x) : l.take (k + 1) = l.take k ++ [x] := by
  rw [List.take_add_one, h]; rfl

theorem take_step {la lb : List Int} {k : Nat} {x : Int} (ha : la[k]? = some x) (hb : lb[k]? = some x) (h : la.take k = lb.take k) : la.take (k + 1) = lb.take (k + 1) := by
  rw [take_snoc' ha, take_snoc' hb, h]

theorem ret_bool {a b : Bool} (h : a = b) : Ending.returned (.bool a) = .returned (.bool b) := by rw [h]
theorem ret_int {k : IntKind} {a b : Int} (h : a = b) : Ending.returned (.int k a) = .returned (.int k b) := by rw [h]

theorem mkfull {P : Program} {w : World} {ops : Array Oper} {rest : List Oper} {o : Oper} {a : Act} {Q : Exit → Act → World → Prop}
    (hg : o.guard = none) (l c : Operand) (t : TypeId) (hop : o.op = Op.makeSlice t l c) {e : TypeId} {z : Value} {size bytes : Nat} (ht : P.underlying t = some (.slice e)) (hE : EI P e z size bytes)
    (base : Nat) (n : Nat) {kl kc : IntKind} {L C : Int} (hl : a.eval l = .int kl L) (hc : a.eval c = .int kc C) (hL : L = (n : Int)) (hC : C = (n : Int)) (b2 : bytes * n ≤ 140737488355328) (hbase : base ≤ w.heap.size)
    (hK : ∀ w', w'.ownsRow base e size (.slice (some ⟨w.heap.size, 0, none⟩) n n) n (madeCells z.cells (n * size)).toList → Below base w w' → w.grownBy w' none → wpList P ops Q rest (a.put o.dst (.slice (some ⟨w.heap.size, 0, none⟩) n n)) w') :
    wpList P ops Q (o :: rest) a w := by
  obtain ⟨i, hi, hz, hsize, hby, hzs, hsz, hbp⟩ := hE
  have h63 : n ≤ 140737488355328 := Nat.le_trans (Nat.le_mul_of_pos_left _ hbp) b2
  exact wpList_make_full w hg l c t hop base e i z size ht hi hz hsize kl kc L C n hl hc hL hC (by rw [hby]; omega) (by unfold maxLen; omega) hbase fun w' h1 h2 => hK w' h1 ((Below.refl _ _).grown h2 hbase (by simp)) h2

theorem eiInt : EI Try.prog 3 (.int .i64 0) 1 8 := .of (by kernel_rfl) rfl (by decide) (by decide)
end Go.Proofs.Ytdbonlpkmncggaa

namespace Go.Proofs.Ytdbonlpkmncggaa
open Go.RowKit

def Ok64 (z : Int) : Prop := -9223372036854775808 ≤ z ∧ z ≤ 9223372036854775807

instance (z : Int) : Decidable (Ok64 z) := by unfold Ok64; infer_instance

theorem ret2 {k k' : IntKind} {a b c d : Int} (h : a = c) (h' : b = d) : Ending.returned (.tuple #[.int k a, .int k' b]) = .returned (.tuple #[.int k c, .int k' d]) := by rw [h, h']

theorem getD_of {α : Type} {l : List α} {i : Nat} {x d : α} (h : l[i]? = some x) : l.getD i d = x := by simp [h]

theorem quiet_left {P : Program} {f : FuncId} {args : Array Value} {w : World} {n : Nat} {v : Value}
    (h : Calls P f args (w.drewN n) fun e w' => e = .returned v ∧ w.drewN n = w') : Calls P f args (w.drewN n) fun e w'' => e = .returned v ∧ ∃ m, w'' = w.drewN m :=
  h.mono fun _ _ ⟨he, hm⟩ => ⟨he, n, hm.symm⟩

theorem below_drewN {B : Nat} {a w : World} (h : Below B a w) (n : Nat) : Below B a (w.drewN n) := ⟨h.os, h.tape, h.output, h.size, h.block⟩

theorem Ints.drewN {k : IntKind} {w : World} {v : Value} {l : List Int} (h : Ints k w v l) (n : Nat) : Ints k (w.drewN n) v l := h.below (below_drewN (Below.refl _ _) n)

theorem Ints.new (k : IntKind) (W : World) (T : TypeId) (cs : Array Value) (l : List Int) (n c : Nat) (hcs : cs.toList = l.map (Value.int k)) (hn : n = l.length) (hc : n ≤ c) (hc2 : c ≤ 1000000) : Ints k (W.alloc (.cells cs T)) (.slice (some ⟨W.heap.size, 0, none⟩) n c) l := by
  subst hn
  refine ⟨_, _, rfl, hc, by omega, by omega, fun i x hi => ⟨W.heap.size, 0, rfl, by simp, ?_⟩⟩
  have hb := heap_alloc_new W (.cells cs T)
  simp only [World.cell?, hb]
  have : cs.toList[i]? = some (.int k x) := by rw [hcs]; simp [hi]
  simpa using this

theorem Ints.new' (k : IntKind) (W : World) (T : TypeId) (cs : Array Value) (l : List Int) (b n c : Nat) (hb : b = W.heap.size) (hcs : cs.toList = l.map (Value.int k)) (hn : n = l.length) (hc : n ≤ c) (hc2 : c ≤ 1000000) : Ints k (W.alloc (.cells cs T)) (.slice (some ⟨b, 0, none⟩) n c) l := by
  subst hb; exact Ints.new k W T cs l n c hcs hn hc hc2

theorem below_tr {B : Nat} {a b c : World} (h : Below B a b) (k : Below B b c) : Below B a c := h.trans k

theorem own_keep {w w' : World} {base e size n : Nat} {v : Value} {xs : List Value} (h : w.ownsRow base e size v n xs) (hk : ∀ g, base ≤ g → g < w.heap.size → w'.heap[g]? = w.heap[g]?) : w'.ownsRow base e size v n xs := by
  have hlt := h.lt
  refine ⟨h.1, ?_⟩
  rcases h.2 with h1 | ⟨g, cap, cur, rfl, h2, h3, h4⟩
  · exact .inl h1
  · exact .inr ⟨g, cap, cur, rfl, h2, (hk g (hlt g rfl).1 (hlt g rfl).2).trans h3, h4⟩

theorem ints_nil (k : IntKind) (w : World) (a : Option Addr) (c : Nat) (hc : c ≤ 9223372036854775807) : Ints k w (.slice a 0 c) [] := ⟨a, c, rfl, by simp, hc, by simp, fun i x h => by simp at h⟩

theorem Ints.len {k : IntKind} {w : World} {a : Option Addr} {n n' c : Nat} {l : List Int} (h : Ints k w (.slice a n c) l) (e : n = n') : Ints k w (.slice a n' c) l := by subst e; exact h

/-- Append of a whole list of integers onto a row of the call's own, whatever its guard. -/
theorem appIntsW {P : Program} {ops : Array Oper} {rest : List Oper} {o : Oper} {a : Act} {Q : Exit → Act → World → Prop} (hgd : Region.wanted o (yielded ops a.tmps) = true) (s x : Operand) (t : TypeId)
    (ho : o.op = .call { callee := .builtin .append, args := #[s, x], argTypes := #[t, t] })
    {e : TypeId} {z : Value} {bytes : Nat} (ht : P.underlying t = some (.slice e)) (hE : EI P e z 1 bytes)
    (base : Nat) {v : Value} {n : Nat} {xs : List Value} {W : World} {k : IntKind} {vx : Value} {l : List Int} (hs : a.eval s = v) (hown : W.ownsRow base e 1 v n xs)
    (hx : a.eval x = vx) (hl : Ints k W vx l) (hbytes : (n + l.length) * bytes ≤ 140737488355328) (hbase : base ≤ W.heap.size)
    (h : ∀ v' w', w'.ownsRow base e 1 v' (n + l.length) (xs ++ l.map (Value.int k)) → Below base W w' → W.grownBy w' v.ownBlock → wpList P ops Q rest (a.put o.dst v') w') :
    wpList P ops Q (o :: rest) a W := by
  obtain ⟨i, hi, hz, hsize, hby, hzs, hsz, hbp⟩ := hE
  have h63 : n + l.length ≤ 140737488355328 := Nat.le_trans (Nat.le_mul_of_pos_right _ hbp) hbytes
  obtain ⟨ad, c, rfl, g1, g2, g3, h4⟩ := hl
  have hrun : ∃ v' w', (Builtin.append_ #[t, t] o.type #[v, .slice ad l.length c]).run P W = .ok v' w' ∧ w'.ownsRow base e 1 v' (n + l.length) (xs ++ l.map (Value.int k)) ∧ W.grownBy w' v.ownBlock := by
    rcases ad with _ | ad
    · have hl0 : l = [] := by
        cases l with
        | nil => rfl
        | cons x l => obtain ⟨b, o, e, _⟩ := h4 0 x rfl; cases e
      subst hl0
      refine ⟨v, W, ?_, by simpa using hown, ⟨rfl, rfl, rfl, Nat.le_refl _, fun _ _ _ => rfl⟩⟩
      rcases hown.2 with ⟨rfl, rfl⟩ | ⟨g, cap, cur, rfl, _, _, hnc, _⟩
      · simp [Builtin.append_, run_underlying ht, sizeOf, typeInfo, hi, Builtin.lenOf, Builtin.firstCells]
      · simp [Builtin.append_, run_underlying ht, sizeOf, typeInfo, hi, Builtin.lenOf, Builtin.firstCells, hnc, storeCells]
    · obtain ⟨v', w', hrun, h2, h3, _⟩ := run_append_own_at (P := P) W base t o.type e i z 1 bytes ht hi hz hsize hby hzs hsz v n xs hown ad l.length c (l.map (Value.int k)) (by simp) (by
        intro j u hu
        rw [List.getElem?_map] at hu
        cases hy : l[j]? with
        | none => rw [hy] at hu; cases hu
        | some y =>
          rw [hy] at hu
          obtain ⟨b, o, e, _, hc⟩ := h4 j y hy
          injection e with e
          subst e
          have hadd : (⟨b, o, none⟩ : Addr).add j = ⟨b, o + j, none⟩ := by unfold Addr.add; split <;> simp_all
          rw [hadd, hc]
          simpa using hu) (by intro u hu; simp at hu; obtain ⟨y, _, rfl⟩ := hu; rfl) (by unfold maxLen; omega) hbytes hbase
      exact ⟨v', w', hrun, h2, h3⟩
  obtain ⟨v', w', hrun, h2, h3⟩ := hrun
  refine wpList_step fun K hK => ?_
  rw [if_pos hgd]
  unfold Oper.wp execOp
  simp only [ho, resolve, invoke, builtin, Sem.run_bind, Sem.run_pure, Result.andThen_ok, List.map_toArray, List.map_cons, List.map_nil, hs, hx, hrun]
  exact hK _ _ (h v' w' h2 ((Below.refl _ _).grown h3 hbase fun k hk => (hown.lt k hk).1) h3)

/-! ### words for the lines that gen.py prints -/
theorem Bs {B : Nat} {a w : World} {A : Addr} {u : Value} (hb : Below B a w) (h : B ≤ A.block := by first | omega | (simp; done) | (simp; omega)) : Below B a (w.setCell A u) := hb.setCell h u

theorem Ba {B : Nat} {a w : World} {o : Obj} (hb : Below B a w) (h : B ≤ w.heap.size := by first | omega | (simp; done) | (simp; omega)) : Below B a (w.alloc o) := hb.alloc h o

theorem Bd {B : Nat} {a w : World} (hb : Below B a w) : Below B a w.drew := hb.drew

theorem Bn {B n : Nat} {a w : World} (hb : Below B a w) : Below B a (w.drewN n) := below_drewN hb n

theorem Bt {B C : Nat} {a m w : World} (k : Below C m w) (hb : Below B a m) (h : B ≤ C := by first | omega | (simp; done) | (simp; omega)) : Below B a w := hb.trans (k.mono h)

theorem Bc {B C : Nat} {a m w : World} (hb : Below B a m) (k : Below C m w) (h : B ≤ C := by first | omega | (simp; done) | (simp; omega)) : Below B a w := hb.trans (k.mono h)

theorem sz {C L : Nat} {m w : World} (k : Below C m w) (h : L ≤ m.heap.size := by first | omega | (simp; done) | (simp; omega)) : L ≤ w.heap.size := Nat.le_trans h k.size

theorem Ints.alloc {k : IntKind} {w : World} {v : Value} {l : List Int} (h : Ints k w v l) (o : Obj) : Ints k (w.alloc o) v l := h.below (Ba (Below.refl _ _))

theorem Ints.drew {k : IntKind} {w : World} {v : Value} {l : List Int} (h : Ints k w v l) : Ints k w.drew v l := h.below (Bd (Below.refl _ _))

theorem lnm {a b : Nat} (h : a < b) : a < b ∧ a ≠ b ∧ b ≠ a := ⟨h, by omega, by omega⟩

theorem kc {B b o : Nat} {m w : World} {v : Value} (k : Below B m w) (e : m.cell? ⟨b, o, none⟩ = some v) (h : b < B) : w.cell? ⟨b, o, none⟩ = some v := (k.cell (p := ⟨b, o, none⟩) h).trans e

theorem kf {B b o : Nat} {m w : World} (k : Below B m w) (e : m.frozen? ⟨b, o, none⟩ = false) (h : b < B) : w.frozen? ⟨b, o, none⟩ = false := (k.frozen (p := ⟨b, o, none⟩) h).trans e

theorem gc {R b o : Nat} {m w : World} {v : Value} (k : m.grownBy w (some R)) (e : m.cell? ⟨b, o, none⟩ = some v) (h : b < m.heap.size) (hn : R ≠ b) : w.cell? ⟨b, o, none⟩ = some v :=
  (World.cell?_of_block (w := m) (w' := w) (a := ⟨b, o, none⟩) (k.block b h (by simp; omega))).trans e

theorem k2 (b : Nat) (v0 v1 : Value) {B : Nat} {m w : World} (k : Below B m w) (e : m.cell? ⟨b, 0, none⟩ = some v0 ∧ m.cell? ⟨b, 1, none⟩ = some v1) (h : b < B := by first | omega | (simp; done) | (simp; omega)) : w.cell? ⟨b, 0, none⟩ = some v0 ∧ w.cell? ⟨b, 1, none⟩ = some v1 := by
  obtain ⟨e0, e1⟩ := e
  exact ⟨kc k e0 h, kc k e1 h⟩

theorem g2 (b : Nat) (v0 v1 : Value) {R : Nat} {m w : World} (k : m.grownBy w (some R)) (e : m.cell? ⟨b, 0, none⟩ = some v0 ∧ m.cell? ⟨b, 1, none⟩ = some v1) (h : b < m.heap.size := by first | omega | (simp; done) | (simp; omega)) (hn : R ≠ b := by omega) : w.cell? ⟨b, 0, none⟩ = some v0 ∧ w.cell? ⟨b, 1, none⟩ = some v1 := by
  obtain ⟨e0, e1⟩ := e
  exact ⟨gc k e0 h hn, gc k e1 h hn⟩

theorem k3 (b : Nat) (v0 v1 v2 : Value) {B : Nat} {m w : World} (k : Below B m w) (e : m.cell? ⟨b, 0, none⟩ = some v0 ∧ m.cell? ⟨b, 1, none⟩ = some v1 ∧ m.cell? ⟨b, 2, none⟩ = some v2) (h : b < B := by first | omega | (simp; done) | (simp; omega)) : w.cell? ⟨b, 0, none⟩ = some v0 ∧ w.cell? ⟨b, 1, none⟩ = some v1 ∧ w.cell? ⟨b, 2, none⟩ = some v2 := by
  obtain ⟨e0, e1, e2⟩ := e
  exact ⟨kc k e0 h, kc k e1 h, kc k e2 h⟩

theorem g3 (b : Nat) (v0 v1 v2 : Value) {R : Nat} {m w : World} (k : m.grownBy w (some R)) (e : m.cell? ⟨b, 0, none⟩ = some v0 ∧ m.cell? ⟨b, 1, none⟩ = some v1 ∧ m.cell? ⟨b, 2, none⟩ = some v2) (h : b < m.heap.size := by first | omega | (simp; done) | (simp; omega)) (hn : R ≠ b := by omega) : w.cell? ⟨b, 0, none⟩ = some v0 ∧ w.cell? ⟨b, 1, none⟩ = some v1 ∧ w.cell? ⟨b, 2, none⟩ = some v2 := by
  obtain ⟨e0, e1, e2⟩ := e
  exact ⟨gc k e0 h hn, gc k e1 h hn, gc k e2 h hn⟩

theorem k3f (b : Nat) (v0 v1 v2 : Value) {B : Nat} {m w : World} (k : Below B m w) (e : m.cell? ⟨b, 0, none⟩ = some v0 ∧ m.frozen? ⟨b, 0, none⟩ = false ∧ m.cell? ⟨b, 1, none⟩ = some v1 ∧ m.frozen? ⟨b, 1, none⟩ = false ∧ m.cell? ⟨b, 2, none⟩ = some v2 ∧ m.frozen? ⟨b, 2, none⟩ = false) (h : b < B := by first | omega | (simp; done) | (simp; omega)) : w.cell? ⟨b, 0, none⟩ = some v0 ∧ w.frozen? ⟨b, 0, none⟩ = false ∧ w.cell? ⟨b, 1, none⟩ = some v1 ∧ w.frozen? ⟨b, 1, none⟩ = false ∧ w.cell? ⟨b, 2, none⟩ = some v2 ∧ w.frozen? ⟨b, 2, none⟩ = false := by
  obtain ⟨e0, f0, e1, f1, e2, f2⟩ := e
  exact ⟨kc k e0 h, kf k f0 h, kc k e1 h, kf k f1 h, kc k e2 h, kf k f2 h⟩

theorem k4 (b : Nat) (v0 v1 v2 v3 : Value) {B : Nat} {m w : World} (k : Below B m w) (e : m.cell? ⟨b, 0, none⟩ = some v0 ∧ m.cell? ⟨b, 1, none⟩ = some v1 ∧ m.cell? ⟨b, 2, none⟩ = some v2 ∧ m.cell? ⟨b, 3, none⟩ = some v3) (h : b < B := by first | omega | (simp; done) | (simp; omega)) : w.cell? ⟨b, 0, none⟩ = some v0 ∧ w.cell? ⟨b, 1, none⟩ = some v1 ∧ w.cell? ⟨b, 2, none⟩ = some v2 ∧ w.cell? ⟨b, 3, none⟩ = some v3 := by
  obtain ⟨e0, e1, e2, e3⟩ := e
  exact ⟨kc k e0 h, kc k e1 h, kc k e2 h, kc k e3 h⟩

theorem g4 (b : Nat) (v0 v1 v2 v3 : Value) {R : Nat} {m w : World} (k : m.grownBy w (some R)) (e : m.cell? ⟨b, 0, none⟩ = some v0 ∧ m.cell? ⟨b, 1, none⟩ = some v1 ∧ m.cell? ⟨b, 2, none⟩ = some v2 ∧ m.cell? ⟨b, 3, none⟩ = some v3) (h : b < m.heap.size := by first | omega | (simp; done) | (simp; omega)) (hn : R ≠ b := by omega) : w.cell? ⟨b, 0, none⟩ = some v0 ∧ w.cell? ⟨b, 1, none⟩ = some v1 ∧ w.cell? ⟨b, 2, none⟩ = some v2 ∧ w.cell? ⟨b, 3, none⟩ = some v3 := by
  obtain ⟨e0, e1, e2, e3⟩ := e
  exact ⟨gc k e0 h hn, gc k e1 h hn, gc k e2 h hn, gc k e3 h hn⟩

theorem k5 (b : Nat) (v0 v1 v2 v3 v4 : Value) {B : Nat} {m w : World} (k : Below B m w) (e : m.cell? ⟨b, 0, none⟩ = some v0 ∧ m.cell? ⟨b, 1, none⟩ = some v1 ∧ m.cell? ⟨b, 2, none⟩ = some v2 ∧ m.cell? ⟨b, 3, none⟩ = some v3 ∧ m.cell? ⟨b, 4, none⟩ = some v4) (h : b < B := by first | omega | (simp; done) | (simp; omega)) : w.cell? ⟨b, 0, none⟩ = some v0 ∧ w.cell? ⟨b, 1, none⟩ = some v1 ∧ w.cell? ⟨b, 2, none⟩ = some v2 ∧ w.cell? ⟨b, 3, none⟩ = some v3 ∧ w.cell? ⟨b, 4, none⟩ = some v4 := by
  obtain ⟨e0, e1, e2, e3, e4⟩ := e
  exact ⟨kc k e0 h, kc k e1 h, kc k e2 h, kc k e3 h, kc k e4 h⟩

theorem g5 (b : Nat) (v0 v1 v2 v3 v4 : Value) {R : Nat} {m w : World} (k : m.grownBy w (some R)) (e : m.cell? ⟨b, 0, none⟩ = some v0 ∧ m.cell? ⟨b, 1, none⟩ = some v1 ∧ m.cell? ⟨b, 2, none⟩ = some v2 ∧ m.cell? ⟨b, 3, none⟩ = some v3 ∧ m.cell? ⟨b, 4, none⟩ = some v4) (h : b < m.heap.size := by first | omega | (simp; done) | (simp; omega)) (hn : R ≠ b := by omega) : w.cell? ⟨b, 0, none⟩ = some v0 ∧ w.cell? ⟨b, 1, none⟩ = some v1 ∧ w.cell? ⟨b, 2, none⟩ = some v2 ∧ w.cell? ⟨b, 3, none⟩ = some v3 ∧ w.cell? ⟨b, 4, none⟩ = some v4 := by
  obtain ⟨e0, e1, e2, e3, e4⟩ := e
  exact ⟨gc k e0 h hn, gc k e1 h hn, gc k e2 h hn, gc k e3 h hn, gc k e4 h hn⟩

theorem k6 (b : Nat) (v0 v1 v2 v3 v4 v5 : Value) {B : Nat} {m w : World} (k : Below B m w) (e : m.cell? ⟨b, 0, none⟩ = some v0 ∧ m.cell? ⟨b, 1, none⟩ = some v1 ∧ m.cell? ⟨b, 2, none⟩ = some v2 ∧ m.cell? ⟨b, 3, none⟩ = some v3 ∧ m.cell? ⟨b, 4, none⟩ = some v4 ∧ m.cell? ⟨b, 5, none⟩ = some v5) (h : b < B := by first | omega | (simp; done) | (simp; omega)) : w.cell? ⟨b, 0, none⟩ = some v0 ∧ w.cell? ⟨b, 1, none⟩ = some v1 ∧ w.cell? ⟨b, 2, none⟩ = some v2 ∧ w.cell? ⟨b, 3, none⟩ = some v3 ∧ w.cell? ⟨b, 4, none⟩ = some v4 ∧ w.cell? ⟨b, 5, none⟩ = some v5 := by
  obtain ⟨e0, e1, e2, e3, e4, e5⟩ := e
  exact ⟨kc k e0 h, kc k e1 h, kc k e2 h, kc k e3 h, kc k e4 h, kc k e5 h⟩

theorem g6 (b : Nat) (v0 v1 v2 v3 v4 v5 : Value) {R : Nat} {m w : World} (k : m.grownBy w (some R)) (e : m.cell? ⟨b, 0, none⟩ = some v0 ∧ m.cell? ⟨b, 1, none⟩ = some v1 ∧ m.cell? ⟨b, 2, none⟩ = some v2 ∧ m.cell? ⟨b, 3, none⟩ = some v3 ∧ m.cell? ⟨b, 4, none⟩ = some v4 ∧ m.cell? ⟨b, 5, none⟩ = some v5) (h : b < m.heap.size := by first | omega | (simp; done) | (simp; omega)) (hn : R ≠ b := by omega) : w.cell? ⟨b, 0, none⟩ = some v0 ∧ w.cell? ⟨b, 1, none⟩ = some v1 ∧ w.cell? ⟨b, 2, none⟩ = some v2 ∧ w.cell? ⟨b, 3, none⟩ = some v3 ∧ w.cell? ⟨b, 4, none⟩ = some v4 ∧ w.cell? ⟨b, 5, none⟩ = some v5 := by
  obtain ⟨e0, e1, e2, e3, e4, e5⟩ := e
  exact ⟨gc k e0 h hn, gc k e1 h hn, gc k e2 h hn, gc k e3 h hn, gc k e4 h hn, gc k e5 h hn⟩

theorem k7 (b : Nat) (v0 v1 v2 v3 v4 v5 v6 : Value) {B : Nat} {m w : World} (k : Below B m w) (e : m.cell? ⟨b, 0, none⟩ = some v0 ∧ m.cell? ⟨b, 1, none⟩ = some v1 ∧ m.cell? ⟨b, 2, none⟩ = some v2 ∧ m.cell? ⟨b, 3, none⟩ = some v3 ∧ m.cell? ⟨b, 4, none⟩ = some v4 ∧ m.cell? ⟨b, 5, none⟩ = some v5 ∧ m.cell? ⟨b, 6, none⟩ = some v6) (h : b < B := by first | omega | (simp; done) | (simp; omega)) : w.cell? ⟨b, 0, none⟩ = some v0 ∧ w.cell? ⟨b, 1, none⟩ = some v1 ∧ w.cell? ⟨b, 2, none⟩ = some v2 ∧ w.cell? ⟨b, 3, none⟩ = some v3 ∧ w.cell? ⟨b, 4, none⟩ = some v4 ∧ w.cell? ⟨b, 5, none⟩ = some v5 ∧ w.cell? ⟨b, 6, none⟩ = some v6 := by
  obtain ⟨e0, e1, e2, e3, e4, e5, e6⟩ := e
  exact ⟨kc k e0 h, kc k e1 h, kc k e2 h, kc k e3 h, kc k e4 h, kc k e5 h, kc k e6 h⟩

theorem g7 (b : Nat) (v0 v1 v2 v3 v4 v5 v6 : Value) {R : Nat} {m w : World} (k : m.grownBy w (some R)) (e : m.cell? ⟨b, 0, none⟩ = some v0 ∧ m.cell? ⟨b, 1, none⟩ = some v1 ∧ m.cell? ⟨b, 2, none⟩ = some v2 ∧ m.cell? ⟨b, 3, none⟩ = some v3 ∧ m.cell? ⟨b, 4, none⟩ = some v4 ∧ m.cell? ⟨b, 5, none⟩ = some v5 ∧ m.cell? ⟨b, 6, none⟩ = some v6) (h : b < m.heap.size := by first | omega | (simp; done) | (simp; omega)) (hn : R ≠ b := by omega) : w.cell? ⟨b, 0, none⟩ = some v0 ∧ w.cell? ⟨b, 1, none⟩ = some v1 ∧ w.cell? ⟨b, 2, none⟩ = some v2 ∧ w.cell? ⟨b, 3, none⟩ = some v3 ∧ w.cell? ⟨b, 4, none⟩ = some v4 ∧ w.cell? ⟨b, 5, none⟩ = some v5 ∧ w.cell? ⟨b, 6, none⟩ = some v6 := by
  obtain ⟨e0, e1, e2, e3, e4, e5, e6⟩ := e
  exact ⟨gc k e0 h hn, gc k e1 h hn, gc k e2 h hn, gc k e3 h hn, gc k e4 h hn, gc k e5 h hn, gc k e6 h hn⟩

theorem k8 (b : Nat) (v0 v1 v2 v3 v4 v5 v6 v7 : Value) {B : Nat} {m w : World} (k : Below B m w) (e : m.cell? ⟨b, 0, none⟩ = some v0 ∧ m.cell? ⟨b, 1, none⟩ = some v1 ∧ m.cell? ⟨b, 2, none⟩ = some v2 ∧ m.cell? ⟨b, 3, none⟩ = some v3 ∧ m.cell? ⟨b, 4, none⟩ = some v4 ∧ m.cell? ⟨b, 5, none⟩ = some v5 ∧ m.cell? ⟨b, 6, none⟩ = some v6 ∧ m.cell? ⟨b, 7, none⟩ = some v7) (h : b < B := by first | omega | (simp; done) | (simp; omega)) : w.cell? ⟨b, 0, none⟩ = some v0 ∧ w.cell? ⟨b, 1, none⟩ = some v1 ∧ w.cell? ⟨b, 2, none⟩ = some v2 ∧ w.cell? ⟨b, 3, none⟩ = some v3 ∧ w.cell? ⟨b, 4, none⟩ = some v4 ∧ w.cell? ⟨b, 5, none⟩ = some v5 ∧ w.cell? ⟨b, 6, none⟩ = some v6 ∧ w.cell? ⟨b, 7, none⟩ = some v7 := by
  obtain ⟨e0, e1, e2, e3, e4, e5, e6, e7⟩ := e
  exact ⟨kc k e0 h, kc k e1 h, kc k e2 h, kc k e3 h, kc k e4 h, kc k e5 h, kc k e6 h, kc k e7 h⟩

theorem g8 (b : Nat) (v0 v1 v2 v3 v4 v5 v6 v7 : Value) {R : Nat} {m w : World} (k : m.grownBy w (some R)) (e : m.cell? ⟨b, 0, none⟩ = some v0 ∧ m.cell? ⟨b, 1, none⟩ = some v1 ∧ m.cell? ⟨b, 2, none⟩ = some v2 ∧ m.cell? ⟨b, 3, none⟩ = some v3 ∧ m.cell? ⟨b, 4, none⟩ = some v4 ∧ m.cell? ⟨b, 5, none⟩ = some v5 ∧ m.cell? ⟨b, 6, none⟩ = some v6 ∧ m.cell? ⟨b, 7, none⟩ = some v7) (h : b < m.heap.size := by first | omega | (simp; done) | (simp; omega)) (hn : R ≠ b := by omega) : w.cell? ⟨b, 0, none⟩ = some v0 ∧ w.cell? ⟨b, 1, none⟩ = some v1 ∧ w.cell? ⟨b, 2, none⟩ = some v2 ∧ w.cell? ⟨b, 3, none⟩ = some v3 ∧ w.cell? ⟨b, 4, none⟩ = some v4 ∧ w.cell? ⟨b, 5, none⟩ = some v5 ∧ w.cell? ⟨b, 6, none⟩ = some v6 ∧ w.cell? ⟨b, 7, none⟩ = some v7 := by
  obtain ⟨e0, e1, e2, e3, e4, e5, e6, e7⟩ := e
  exact ⟨gc k e0 h hn, gc k e1 h hn, gc k e2 h hn, gc k e3 h hn, gc k e4 h hn, gc k e5 h hn, gc k e6 h hn, gc k e7 h hn⟩

end Go.Proofs.Ytdbonlpkmncggaa

namespace Go.Proofs.Ytdbonlpkmncggaa
open Go.RowKit

/-- A node, by its numbers. -/
structure NodeP where
  coef : List Int
  at_ : Int
  left : Int
  right : Int
  size : Int

/-- A tree, by its numbers. -/
structure TreeP where
  dim : Int
  nodes : List NodeP

def vecB (v : List Int) (dim : Int) : Bool :=
  decide (1 ≤ dim) && decide (dim ≤ 8) && decide ((v.length : Int) = dim) && v.all fun x => decide (-2147483648 ≤ x) && decide (x ≤ 2147483647)
def partsB (c : List Int) (dim : Int) : Bool :=
  decide (1 ≤ dim) && decide (dim ≤ 8) && decide ((c.length : Int) = dim) && (c.all fun x => decide (-4 ≤ x) && decide (x ≤ 4)) && c.any fun x => decide (x ≠ 0)
def cutB (c : List Int) (a dim : Int) : Bool := decide (-137438953472 ≤ a) && decide (a ≤ 137438953472) && partsB c dim
def leafB (n : NodeP) : Bool := decide (n.left = 0) && decide (n.right = 0) && decide (n.coef.length = 0) && decide (n.at_ = 0) && decide (1 ≤ n.size)

def dotI : List Int → List Int → Int
  | c :: cs, x :: xs => c * x + dotI cs xs
  | _, _ => 0

/-- The nodes of a part of a tree: where it begins, where it ends, how high it is, how many points it has. -/
inductive Sub (t : TreeP) : Nat → Nat → Nat → Int → Prop
  | leaf {i : Nat} {n : NodeP} : t.nodes[i]? = some n → leafB n = true → Sub t i (i + 1) 0 n.size
  | node {i m e a b : Nat} {x y : Int} {n : NodeP} : t.nodes[i]? = some n → n.left = (i : Int) + 1 → cutB n.coef n.at_ t.dim = true → Sub t (i + 1) m a x → n.right = (m : Int) → Sub t m e b y →
      n.size = x + y → Sub t i e (1 + max a b) n.size

theorem leafB_is {n : NodeP} (h : leafB n = true) : n.left = 0 ∧ n.right = 0 ∧ n.coef = [] ∧ n.at_ = 0 ∧ 1 ≤ n.size := by
  unfold leafB at h
  simp only [Bool.and_eq_true, decide_eq_true_eq] at h
  exact ⟨h.1.1.1.1, h.1.1.1.2, List.eq_nil_of_length_eq_zero h.1.1.2, h.1.2, h.2⟩

theorem Sub.lt {t : TreeP} {i e h : Nat} {s : Int} (q : Sub t i e h s) : i < e ∧ e ≤ t.nodes.length := by
  induction q with
  | leaf hn _ => exact ⟨by omega, (List.getElem?_eq_some_iff.1 hn).1⟩
  | node hn _ _ _ _ _ _ ih1 ih2 => omega

theorem Sub.at_ {t : TreeP} {i e h : Nat} {s : Int} (q : Sub t i e h s) : ∃ n, t.nodes[i]? = some n ∧ n.size = s := by
  cases q with
  | leaf hn _ => exact ⟨_, hn, rfl⟩
  | node hn _ _ _ _ _ _ => exact ⟨_, hn, rfl⟩

theorem Sub.pos {t : TreeP} {i e h : Nat} {s : Int} (q : Sub t i e h s) : 1 ≤ s := by
  induction q with
  | leaf hn hl => exact (leafB_is hl).2.2.2.2
  | node hn _ _ _ _ _ hs ih1 ih2 => omega

theorem Sub.room {t : TreeP} {i e h : Nat} {s : Int} (q : Sub t i e h s) : (e : Int) + 1 ≤ i + 2 * s := by
  induction q with
  | leaf hn hl => have := (leafB_is hl).2.2.2.2; omega
  | node hn _ _ _ _ _ hs ih1 ih2 => omega

theorem Sub.high {t : TreeP} {i e h : Nat} {s : Int} (q : Sub t i e h s) : h + 1 + i ≤ e := by
  induction q with
  | leaf hn hl => omega
  | node hn _ _ _ _ _ hs ih1 ih2 => omega

theorem Sub.same {t : TreeP} {i e h : Nat} {s : Int} (q : Sub t i e h s) : ∀ {e' h' : Nat} {s' : Int}, Sub t i e' h' s' → e = e' ∧ h = h' ∧ s = s' := by
  induction q with
  | leaf hn hl =>
    intro e' h' s' q'
    cases q' with
    | leaf hn' _ =>
      rw [hn] at hn'
      injection hn' with hn'
      subst hn'
      exact ⟨rfl, rfl, rfl⟩
    | node hn' hl' =>
      rw [hn] at hn'
      injection hn' with hn'
      subst hn'
      have := (leafB_is hl).1
      omega
  | @node i m e a b x y n hn hl hc q1 hr q2 hs ih1 ih2 =>
    intro e' h' s' q'
    cases q' with
    | leaf hn' hl' =>
      rw [hn] at hn'
      injection hn' with hn'
      subst hn'
      have := (leafB_is hl').1
      omega
    | @node _ m' _ _ _ _ _ n' hn' _ _ q1' hr' q2' hs' =>
      rw [hn] at hn'
      injection hn' with hn'
      subst hn'
      obtain ⟨e1, e2, e3⟩ := ih1 q1'
      have hm : m = m' := by omega
      subst hm
      obtain ⟨f1, f2, f3⟩ := ih2 q2'
      subst e2 f1 f2
      exact ⟨rfl, rfl, rfl⟩

/-- Each node of a part is the first one of a part, no larger. -/
theorem Sub.parts {t : TreeP} {i e h : Nat} {s : Int} (q : Sub t i e h s) : ∀ j, i ≤ j → j < e → ∃ e' h' s', Sub t j e' h' s' ∧ e' ≤ e ∧ h' ≤ h ∧ s' ≤ s := by
  induction q with
  | @leaf i n hn hl =>
    intro j h1 h2
    obtain rfl : j = i := by omega
    exact ⟨_, _, _, .leaf hn hl, by omega, by omega, by omega⟩
  | @node i m e a b x y n hn hl hc q1 hr q2 hs ih1 ih2 =>
    intro j h1 h2
    have p1 := q1.pos; have p2 := q2.pos
    have l1 := q1.lt; have l2 := q2.lt
    rcases Nat.lt_or_ge j (i + 1) with hj | hj
    · obtain rfl : j = i := by omega
      exact ⟨_, _, _, .node hn hl hc q1 hr q2 hs, by omega, by omega, by omega⟩
    · rcases Nat.lt_or_ge j m with hj2 | hj2
      · obtain ⟨e', h', s', q, g1, g2, g3⟩ := ih1 j hj hj2
        exact ⟨e', h', s', q, by omega, by omega, by omega⟩
      · obtain ⟨e', h', s', q, g1, g2, g3⟩ := ih2 j hj2 h2
        exact ⟨e', h', s', q, by omega, by omega, by omega⟩

/-- What a node at a place must be, where it is the first one of a part. -/
theorem Sub.inv {t : TreeP} {i e h : Nat} {s : Int} {n : NodeP} (q : Sub t i e h s) (hn : t.nodes[i]? = some n) : (leafB n = true ∧ e = i + 1 ∧ h = 0 ∧ s = n.size) ∨
    ∃ m a b x y, n.left = (i : Int) + 1 ∧ cutB n.coef n.at_ t.dim = true ∧ Sub t (i + 1) m a x ∧ n.right = (m : Int) ∧ Sub t m e b y ∧ n.size = x + y ∧ h = 1 + max a b ∧ s = n.size := by
  cases q with
  | leaf hn' hl =>
    rw [hn] at hn'
    injection hn' with hn'
    subst hn'
    exact .inl ⟨hl, rfl, rfl, rfl⟩
  | @node _ m _ a b x y _ hn' hl hc q1 hr q2 hs =>
    rw [hn] at hn'
    injection hn' with hn'
    subst hn'
    exact .inr ⟨m, a, b, x, y, hl, hc, q1, hr, q2, hs, rfl, rfl⟩

def logI (n : Int) : Nat := Lib.bitLen (n.toNat - 1)

/-- Is it a tree? -/
def IsTree (t : TreeP) : Prop := 1 ≤ t.dim ∧ t.dim ≤ 8 ∧ ∃ h s, Sub t 0 t.nodes.length h s ∧ s ≤ 64 ∧ h ≤ logI s

noncomputable def treeB (t : TreeP) : Bool := @decide (IsTree t) (Classical.propDecidable _)

theorem treeB_true {t : TreeP} : treeB t = true ↔ IsTree t := by unfold treeB; simp
theorem treeB_false {t : TreeP} : treeB t = false ↔ ¬ IsTree t := by unfold treeB; simp

theorem logI_le {n : Int} (h : n ≤ 64) : logI n ≤ 6 := by
  unfold logI
  have : n.toNat - 1 ≤ 63 := by omega
  generalize n.toNat - 1 = k at *
  have : ∀ k : Fin 64, Lib.bitLen k.val ≤ 6 := by decide
  exact this ⟨k, by omega⟩

theorem IsTree.len {t : TreeP} (h : IsTree t) : 1 ≤ t.nodes.length ∧ t.nodes.length ≤ 127 := by
  obtain ⟨_, _, g, s, q, h1, h2⟩ := h
  have := q.room; have := q.lt
  omega


/-- What a node of a tree that is no leaf must be. -/
theorem IsTree.inner {t : TreeP} (h : IsTree t) {i : Nat} {n : NodeP} (hn : t.nodes[i]? = some n) (hl : leafB n = false) :
    ∃ m e a b x y, n.left = (i : Int) + 1 ∧ cutB n.coef n.at_ t.dim = true ∧ Sub t (i + 1) m a x ∧ n.right = (m : Int) ∧ Sub t m e b y ∧ n.size = x + y ∧ ∀ r, t.nodes[0]? = some r → x ≤ r.size ∧ y ≤ r.size := by
  obtain ⟨_, _, g, s, q, h1, h2⟩ := h
  obtain ⟨e', h', s', q', g1, g2, g3⟩ := q.parts i (by omega) (List.getElem?_eq_some_iff.1 hn).1
  rcases q'.inv hn with ⟨hl', _⟩ | ⟨m, a, b, x, y, k1, k2, k3, k4, k5, k6, k7, k8⟩
  · rw [hl] at hl'; cases hl'
  · refine ⟨m, e', a, b, x, y, k1, k2, k3, k4, k5, k6, fun r hr => ?_⟩
    have := k3.pos; have := k5.pos
    obtain ⟨r', hr', hs⟩ := q.at_
    rw [hr] at hr'
    injection hr' with hr'
    subst hr'
    omega

theorem IsTree.root {t : TreeP} (h : IsTree t) {r : NodeP} (hr : t.nodes[0]? = some r) : 1 ≤ r.size ∧ r.size ≤ 64 := by
  obtain ⟨_, _, g, s, q, h1, h2⟩ := h
  obtain ⟨r', hr', hs⟩ := q.at_
  rw [hr] at hr'
  injection hr' with hr'
  subst hr'
  have := q.pos
  omega

theorem isTree_of {t : TreeP} {e h : Nat} {s : Int} {r : NodeP} (d1 : 1 ≤ t.dim) (d2 : t.dim ≤ 8) (hr : t.nodes[0]? = some r) (hs : r.size ≤ 64) (q : Sub t 0 e h s) :
    IsTree t ↔ e = t.nodes.length ∧ h ≤ logI r.size := by
  obtain ⟨r', hr', hs'⟩ := q.at_
  rw [hr] at hr'
  injection hr' with hr'
  subst hr'
  constructor
  · rintro ⟨_, _, g, s', q', h1, h2⟩
    obtain ⟨rfl, rfl, rfl⟩ := q.same q'
    exact ⟨rfl, by rw [hs']; exact h2⟩
  · rintro ⟨rfl, h2⟩
    exact ⟨d1, d2, h, s, q, by omega, by rw [← hs']; exact h2⟩

/-- The node that a vector comes to is on the left. -/
def leftB (n : NodeP) (x : List Int) : Bool := decide (dotI n.coef x < n.at_)

/-- The nodes on the way of a vector. -/
def wayT (t : TreeP) (x : List Int) : Nat → Nat → List Nat
  | 0, i => [i]
  | f + 1, i => match t.nodes[i]? with
    | none => [i]
    | some n => if n.left = 0 then [i] else i :: wayT t x f (if leftB n x then i + 1 else n.right.toNat)

theorem wayT_leaf {t : TreeP} {x : List Int} {i : Nat} {n : NodeP} (hn : t.nodes[i]? = some n) (hl : n.left = 0) (f : Nat) : wayT t x f i = [i] := by
  cases f with
  | zero => rfl
  | succ f => simp [wayT, hn, hl]

theorem wayT_node {t : TreeP} {x : List Int} {i : Nat} {n : NodeP} (hn : t.nodes[i]? = some n) (hl : ¬ n.left = 0) (f : Nat) :
    wayT t x (f + 1) i = i :: wayT t x f (if leftB n x then i + 1 else n.right.toNat) := by
  simp [wayT, hn, hl]

theorem wayT_ne (t : TreeP) (x : List Int) (f i : Nat) : wayT t x f i ≠ [] := by
  cases f with
  | zero => simp [wayT]
  | succ f =>
    rw [wayT]
    split
    · simp
    · split <;> simp

theorem Sub.way {t : TreeP} {i e h : Nat} {s : Int} (q : Sub t i e h s) (x : List Int) : ∀ f, h ≤ f → wayT t x f i = wayT t x h i ∧ (wayT t x h i).length ≤ h + 1 := by
  induction q with
  | leaf hn hl =>
    intro f hf
    rw [wayT_leaf hn (leafB_is hl).1, wayT_leaf hn (leafB_is hl).1]
    simp
  | @node i m e a b x' y n hn hl hc q1 hr q2 hs ih1 ih2 =>
    intro f hf
    obtain ⟨f, rfl⟩ : ∃ g, f = g + 1 := ⟨f - 1, by omega⟩
    have hl0 : ¬ n.left = 0 := by omega
    have hmt : n.right.toNat = m := by omega
    rw [Nat.add_comm 1 (max a b), wayT_node hn hl0, wayT_node hn hl0, hmt]
    have i1 := ih1 f (by omega); have i2 := ih1 (max a b) (by omega)
    have j1 := ih2 f (by omega); have j2 := ih2 (max a b) (by omega)
    split
    · rw [i1.1, i2.1]
      refine ⟨rfl, ?_⟩
      simp only [List.length_cons]
      omega
    · rw [j1.1, j2.1]
      refine ⟨rfl, ?_⟩
      simp only [List.length_cons]
      omega

/-- The last node on a way is a leaf. -/
theorem Sub.wayLeaf {t : TreeP} {i e h : Nat} {s : Int} (q : Sub t i e h s) (x : List Int) : ∃ j n, (wayT t x h i).getLast? = some j ∧ i ≤ j ∧ j < e ∧ t.nodes[j]? = some n ∧ leafB n = true := by
  induction q with
  | @leaf i n hn hl =>
    rw [wayT_leaf hn (leafB_is hl).1]
    exact ⟨i, n, rfl, by omega, by omega, hn, hl⟩
  | @node i m e a b x' y n hn hl hc q1 hr q2 hs ih1 ih2 =>
    have hl0 : ¬ n.left = 0 := by omega
    have hmt : n.right.toNat = m := by omega
    have l1 := q1.lt; have l2 := q2.lt
    rw [Nat.add_comm 1 (max a b), wayT_node hn hl0, hmt]
    obtain ⟨j1, n1, g1, g2, g3, g4, g5⟩ := ih1
    obtain ⟨j2, n2, k1, k2, k3, k4, k5⟩ := ih2
    split
    · rw [(q1.way x (max a b) (by omega)).1]
      refine ⟨j1, n1, ?_, by omega, by omega, g4, g5⟩
      rw [List.getLast?_cons, g1]
      rfl
    · rw [(q2.way x (max a b) (by omega)).1]
      refine ⟨j2, n2, ?_, by omega, by omega, k4, k5⟩
      rw [List.getLast?_cons, k1]
      rfl

/-- The nodes of a part, no deeper than a bound; each leaf is small. -/
inductive SubD (t : TreeP) : Nat → Nat → Nat → Int → Prop
  | leaf {d i : Nat} {n : NodeP} : t.nodes[i]? = some n → leafB n = true → n.size ≤ 64 → SubD t (d + 1) i (i + 1) n.size
  | node {d i m e : Nat} {x y : Int} {n : NodeP} : t.nodes[i]? = some n → n.left = (i : Int) + 1 → cutB n.coef n.at_ t.dim = true → SubD t d (i + 1) m x → n.right = (m : Int) → SubD t d m e y →
      n.size = x + y → SubD t (d + 1) i e n.size

theorem SubD.sub {t : TreeP} {d i e : Nat} {s : Int} (q : SubD t d i e s) : ∃ h, h < d ∧ Sub t i e h s := by
  induction q with
  | leaf hn hl _ => exact ⟨0, by omega, .leaf hn hl⟩
  | node hn hl hc _ hr _ hs ih1 ih2 =>
    obtain ⟨a, ha, q1⟩ := ih1
    obtain ⟨b, hb, q2⟩ := ih2
    exact ⟨1 + max a b, by omega, .node hn hl hc q1 hr q2 hs⟩

theorem Sub.subD {t : TreeP} {i e h : Nat} {s : Int} (q : Sub t i e h s) (hs : s ≤ 64) : ∀ d, h < d → SubD t d i e s := by
  induction q with
  | leaf hn hl =>
    intro d hd
    obtain ⟨d, rfl⟩ : ∃ k, d = k + 1 := ⟨d - 1, by omega⟩
    exact .leaf hn hl hs
  | node hn hl hc q1 hr q2 hs' ih1 ih2 =>
    intro d hd
    obtain ⟨d, rfl⟩ : ∃ k, d = k + 1 := ⟨d - 1, by omega⟩
    have := q1.pos; have := q2.pos
    exact .node hn hl hc (ih1 (by omega) d (by omega)) hr (ih2 (by omega) d (by omega)) hs'

theorem SubD.bd {t : TreeP} {d i e : Nat} {s : Int} (q : SubD t d i e s) : 1 ≤ s ∧ s ≤ 64 * (2 : Int) ^ d := by
  induction q with
  | @leaf d i n hn hl h64 =>
    have := (leafB_is hl).2.2.2.2
    have : (1 : Int) ≤ 2 ^ (d + 1) := by have := Nat.two_pow_pos (d + 1); exact_mod_cast this
    omega
  | @node d i m e x y n hn hl hc _ hr _ hs ih1 ih2 =>
    rw [Int.pow_succ]
    omega

theorem SubD.small {t : TreeP} {d i e : Nat} {s : Int} (q : SubD t d i e s) (hd : d ≤ 6) : 1 ≤ s ∧ s ≤ 4096 := by
  have h := q.bd
  have h2 := Nat.pow_le_pow_right (show 0 < 2 by omega) hd
  have h3 : ((2 ^ d : Nat) : Int) ≤ 64 := by omega
  rw [Int.natCast_pow] at h3
  have h4 : ((2 : Nat) : Int) = 2 := rfl
  rw [h4] at h3
  omega

theorem SubD.at_ {t : TreeP} {d i e : Nat} {s : Int} (q : SubD t d i e s) : ∃ n, t.nodes[i]? = some n ∧ n.size = s := by
  obtain ⟨_, _, q⟩ := q.sub
  exact q.at_

theorem SubD.same {t : TreeP} {d i e e' : Nat} {s s' : Int} (q : SubD t d i e s) (q' : SubD t d i e' s') : e = e' ∧ s = s' := by
  obtain ⟨_, _, q⟩ := q.sub
  obtain ⟨_, _, q'⟩ := q'.sub
  obtain ⟨h1, _, h3⟩ := q.same q'
  exact ⟨h1, h3⟩

open Classical in
/-- Where a part ends (-1: it is none). -/
noncomputable def endV (t : TreeP) (d i : Nat) : Int := if h : ∃ e s, SubD t d i e s then ((Classical.choose h : Nat) : Int) else -1

theorem endV_yes {t : TreeP} {d i e : Nat} {s : Int} (q : SubD t d i e s) : endV t d i = e := by
  have h : ∃ e s, SubD t d i e s := ⟨e, s, q⟩
  unfold endV
  rw [dif_pos h]
  obtain ⟨s', q'⟩ := Classical.choose_spec h
  exact congrArg _ (q'.same q).1

theorem endV_no {t : TreeP} {d i : Nat} (q : ∀ e s, ¬ SubD t d i e s) : endV t d i = -1 := by
  unfold endV
  rw [dif_neg (fun ⟨e, s, h⟩ => q e s h)]

/-- What a node that begins a part must be. -/
theorem SubD.inv {t : TreeP} {d i e : Nat} {s : Int} {n : NodeP} (q : SubD t (d + 1) i e s) (hn : t.nodes[i]? = some n) : (leafB n = true ∧ n.size ≤ 64 ∧ e = i + 1) ∨
    ∃ m x y, n.left = (i : Int) + 1 ∧ cutB n.coef n.at_ t.dim = true ∧ SubD t d (i + 1) m x ∧ n.right = (m : Int) ∧ SubD t d m e y ∧ n.size = x + y := by
  cases q with
  | leaf hn' hl h64 =>
    rw [hn] at hn'
    injection hn' with hn'
    subst hn'
    exact .inl ⟨hl, h64, rfl⟩
  | @node _ _ m _ x y _ hn' hl hc q1 hr q2 hs =>
    rw [hn] at hn'
    injection hn' with hn'
    subst hn'
    exact .inr ⟨m, x, y, hl, hc, q1, hr, q2, hs⟩

theorem isTree_end {t : TreeP} {r : NodeP} (d1 : 1 ≤ t.dim) (d2 : t.dim ≤ 8) (hr : t.nodes[0]? = some r) (hs : r.size ≤ 64) :
    IsTree t ↔ endV t (logI r.size + 1) 0 = (t.nodes.length : Int) := by
  constructor
  · rintro ⟨_, _, h, s, q, h1, h2⟩
    obtain ⟨r', hr', hs'⟩ := q.at_
    rw [hr] at hr'
    injection hr' with hr'
    subst hr'
    exact endV_yes (q.subD h1 _ (by rw [hs']; omega))
  · intro h
    by_cases hq : ∃ e s, SubD t (logI r.size + 1) 0 e s
    · obtain ⟨e, s, q⟩ := hq
      rw [endV_yes q] at h
      obtain ⟨g, hg, q⟩ := q.sub
      obtain ⟨r', hr', hs'⟩ := q.at_
      rw [hr] at hr'
      injection hr' with hr'
      subst hr'
      have : e = t.nodes.length := by omega
      subst this
      exact ⟨d1, d2, g, s, q, by omega, by rw [← hs']; omega⟩
    · rw [endV_no (fun e s q => hq ⟨e, s, q⟩)] at h
      omega
end Go.Proofs.Ytdbonlpkmncggaa

namespace Go.Proofs.Ytdbonlpkmncggaa
open Go.RowKit

def isV (x : Int) : Bool := decide (-2147483648 ≤ x) && decide (x ≤ 2147483647)
def isC (x : Int) : Bool := decide (-4 ≤ x) && decide (x ≤ 4)

theorem all_step {p : Int → Bool} {l : List Int} {k : Nat} {x : Int} (hx : l[k]? = some x) : (l.take (k + 1)).all p = ((l.take k).all p && p x) := by
  rw [take_snoc' hx, List.all_append]; simp
theorem any_step {p : Int → Bool} {l : List Int} {k : Nat} {x : Int} (hx : l[k]? = some x) : (l.take (k + 1)).any p = ((l.take k).any p || p x) := by
  rw [take_snoc' hx, List.any_append]; simp

def preB (l : List Int) (dim : Int) : Bool := decide (1 ≤ dim) && decide (dim ≤ 8) && decide ((l.length : Int) = dim)

theorem vecB_is (l : List Int) (dim : Int) : vecB l dim = (preB l dim && l.all isV) := rfl
theorem partsB_is (l : List Int) (dim : Int) : partsB l dim = (preB l dim && l.all isC && l.any fun x => decide (x ≠ 0)) := rfl

theorem all_false_of_take {p : Int → Bool} {l : List Int} {k : Nat} (h : (l.take k).all p = false) : l.all p = false := by
  rw [← List.take_append_drop k l, List.all_append, h, Bool.false_and]

set_option maxHeartbeats 1000000 in
theorem vis_any (v : Value) (l : List Int) (dim : Int) (w : World) (h : Ints .i64 w v l) :
    Calls Try.prog 79 #[v, .int .i64 dim] w fun e w' => e = .returned (.bool (vecB l dim)) ∧ w = w' := by
  obtain ⟨a, c, rfl, _, _, h3, h⟩ := h
  have H := Lib.hid h; clear h
  rw [vecB_is]
  obtain ⟨B, hB⟩ : ∃ B, preB l dim = B := ⟨_, rfl⟩
  rw [hB]
  have HB := Lib.hid hB
  clear hB
  go_enter Try.func79, Try.ntmps79
  go_upto_region 1 with fail
  go_cut [5] (fun ok wx => ok = .bool B ∧ w = wx)
  case first =>
    by_cases h1 : 1 ≤ dim
    · by_cases h2 : dim ≤ 8
      · by_cases h4 : (l.length : Int) = dim
        · have hb : preB l dim = true := by unfold preB; simp [h1, h2, h4]
          have Q := Lib.hid hb
          clear hb
          go_wp2_with fail
          go_meet
          case rel => exact ⟨by rw [← HB.out, Q.out], rfl⟩
        · have hb : preB l dim = false := by unfold preB; simp [h4]
          have Q := Lib.hid hb
          clear hb
          have h5 : ((l.length : Int) == dim) = false := by simp [h4]
          go_wp2_with fail
          go_meet
          case rel => exact ⟨by rw [← HB.out, Q.out], rfl⟩
      · have hb : preB l dim = false := by unfold preB; simp [h2]
        have Q := Lib.hid hb
        clear hb
        go_wp2_with fail
        go_meet
        case rel => exact ⟨by rw [← HB.out, Q.out], rfl⟩
    · have hb : preB l dim = false := by unfold preB; simp [h1]
      have Q := Lib.hid hb
      clear hb
      go_wp2_with fail
      go_meet
      case rel => exact ⟨by rw [← HB.out, Q.out], rfl⟩
  case rest =>
    obtain ⟨rfl, rfl⟩ := hcut
    go_wp2_with fail
    go_loopw [5, 6] (fun ok i wr => ∃ k : Nat, i = .int .i64 k ∧ k ≤ l.length ∧ ok = .bool (B && (l.take k).all isV) ∧ w = wr) (fun _ i _ => l.length + 1 - (intOf i).toNat)
    case atStart => exact ⟨0, rfl, by omega, by simp, rfl⟩
    case round =>
      obtain ⟨k, rfl, hk, rfl, rfl⟩ := hrel
      cases hA : (B && (l.take k).all isV) with
      | false =>
        have HA := Lib.hid hA
        clear hA
        go_wp2_with fail
        go_ret
        refine ⟨ret_bool ?_, rfl⟩
        have hA := HA.out
        rw [Bool.and_eq_false_iff] at hA
        rcases hA with hA | hA
        · rw [hA]; rfl
        · rw [all_false_of_take hA, Bool.and_false]
      | true =>
        have HA := Lib.hid hA
        clear hA
        by_cases hlt : k < l.length
        · obtain ⟨x, hx⟩ := getElem?_ex hlt
          obtain ⟨b1, o1, rfl, hb1, hc1⟩ := H.out k x hx
          have hs := all_step (p := isV) hx
          have HS := Lib.hid hs
          have i1 : (0 : Int) ≤ (k : Int) := by omega
          have i2 : (k : Int) < (l.length : Int) := by omega
          have i3 : (k : Int) ≤ 140737488351232 := by omega
          clear hx hs
          by_cases g1 : -2147483648 ≤ x
          · by_cases g2 : x ≤ 2147483647
            · go_wp2_with fail
              go_roundw
              case rel => exact ⟨k + 1, by go_num, by omega, by rw [HS.out, ← Bool.and_assoc, HA.out, isV]; simp [g1, g2], trivial⟩
              case measure => simp [intOf] <;> omega
            · go_wp2_with fail
              go_roundw
              case rel => exact ⟨k + 1, by go_num, by omega, by rw [HS.out, ← Bool.and_assoc, HA.out, isV]; simp [g1, g2], trivial⟩
              case measure => simp [intOf] <;> omega
          · go_wp2_with fail
            go_roundw
            case rel => exact ⟨k + 1, by go_num, by omega, by rw [HS.out, ← Bool.and_assoc, HA.out, isV]; simp [g1], trivial⟩
            case measure => simp [intOf] <;> omega
        · obtain rfl : k = l.length := by omega
          go_wp2_with fail
          go_ret
          refine ⟨ret_bool ?_, rfl⟩
          have hA := HA.out
          rw [List.take_length] at hA
          exact hA.symm
end Go.Proofs.Ytdbonlpkmncggaa

namespace Go.Proofs.Ytdbonlpkmncggaa
open Go.RowKit

def minL : List Int → Int
  | [] => 0
  | x :: l => l.foldl min x
def maxL : List Int → Int
  | [] => 0
  | x :: l => l.foldl max x

theorem min_le_of : ∀ (l : List Int) (x z : Int), l.foldl min x ≤ z ↔ x ≤ z ∨ ∃ y ∈ l, y ≤ z
  | [], x, z => by simp
  | y :: l, x, z => by
    rw [List.foldl_cons, min_le_of l]
    simp only [List.mem_cons, exists_eq_or_imp]
    rw [show min x y ≤ z ↔ x ≤ z ∨ y ≤ z by omega]
    constructor
    · rintro ((h | h) | h)
      · exact .inl h
      · exact .inr (.inl h)
      · exact .inr (.inr h)
    · rintro (h | h | h)
      · exact .inl (.inl h)
      · exact .inl (.inr h)
      · exact .inr h

theorem le_max_of : ∀ (l : List Int) (x z : Int), z ≤ l.foldl max x ↔ z ≤ x ∨ ∃ y ∈ l, z ≤ y
  | [], x, z => by simp
  | y :: l, x, z => by
    rw [List.foldl_cons, le_max_of l]
    simp only [List.mem_cons, exists_eq_or_imp]
    rw [show z ≤ max x y ↔ z ≤ x ∨ z ≤ y by omega]
    constructor
    · rintro ((h | h) | h)
      · exact .inl h
      · exact .inr (.inl h)
      · exact .inr (.inr h)
    · rintro (h | h | h)
      · exact .inl (.inl h)
      · exact .inl (.inr h)
      · exact .inr h

theorem minL_le {l : List Int} (hl : l ≠ []) (z : Int) : minL l ≤ z ↔ ∃ y ∈ l, y ≤ z := by
  cases l with
  | nil => exact absurd rfl hl
  | cons x l => rw [minL, min_le_of]; simp
theorem le_maxL {l : List Int} (hl : l ≠ []) (z : Int) : z ≤ maxL l ↔ ∃ y ∈ l, z ≤ y := by
  cases l with
  | nil => exact absurd rfl hl
  | cons x l => rw [maxL, le_max_of]; simp

theorem ends_all {l : List Int} (hl : l ≠ []) : l.all isC = (decide (-4 ≤ minL l) && decide (maxL l ≤ 4)) := by
  rw [Bool.eq_iff_iff, List.all_eq_true, Bool.and_eq_true, decide_eq_true_eq, decide_eq_true_eq]
  constructor
  · intro h
    have h' : ∀ x ∈ l, -4 ≤ x ∧ x ≤ 4 := fun x hx => by have := h x hx; unfold isC at this; simpa using this
    refine ⟨Int.not_lt.1 fun hc => ?_, Int.not_lt.1 fun hc => ?_⟩
    · obtain ⟨y, hy, h2⟩ := (minL_le hl (-5)).1 (by omega)
      have := h' y hy; omega
    · obtain ⟨y, hy, h2⟩ := (le_maxL hl 5).1 (by omega)
      have := h' y hy; omega
  · intro ⟨h1, h2⟩ x hx
    have a := (minL_le hl x).2 ⟨x, hx, by omega⟩
    have b := (le_maxL hl x).2 ⟨x, hx, by omega⟩
    unfold isC
    simp
    omega

theorem ends_any0 {l : List Int} (hl : l ≠ []) : (l.any fun x => decide (x ≠ 0)) = (decide (minL l < 0) || decide (0 < maxL l)) := by
  rw [Bool.eq_iff_iff, List.any_eq_true, Bool.or_eq_true, decide_eq_true_eq, decide_eq_true_eq]
  constructor
  · rintro ⟨x, hx, h⟩
    have h : x ≠ 0 := by simpa using h
    have a := (minL_le hl x).2 ⟨x, hx, by omega⟩
    have b := (le_maxL hl x).2 ⟨x, hx, by omega⟩
    omega
  · rintro (h | h)
    · obtain ⟨y, hy, h2⟩ := (minL_le hl (-1)).1 (by omega)
      exact ⟨y, hy, by simp; omega⟩
    · obtain ⟨y, hy, h2⟩ := (le_maxL hl 1).1 (by omega)
      exact ⟨y, hy, by simp; omega⟩

theorem int_min (a x : Int) : (if x < a then x else a) = min a x := by split <;> omega
theorem int_max (a x : Int) : (if a < x then x else a) = max a x := by split <;> omega

theorem foldl_step {f : Int → Int → Int} {l : List Int} {k : Nat} {x a : Int} (hx : l[k]? = some x) : (l.take (k + 1)).foldl f a = f ((l.take k).foldl f a) x := by
  rw [take_snoc' hx, List.foldl_append]; rfl

set_option maxHeartbeats 1000000 in
theorem vends_any (v : Value) (x0 : Int) (l : List Int) (w : World) (h : Ints .i64 w v (x0 :: l)) :
    Calls Try.prog 124 #[v] w fun e w' => e = .returned (.tuple #[.int .i64 (l.foldl min x0), .int .i64 (l.foldl max x0)]) ∧ ∃ n, w' = w.drewN n := by
  obtain ⟨a, c, rfl, h1, h2, h3, h⟩ := h
  obtain ⟨b, o, rfl, hb0, hc0⟩ := h 0 x0 rfl
  rw [Nat.add_zero] at hc0
  have h : ∀ i x, l[i]? = some x → w.cell? ⟨b, o + 1 + i, none⟩ = some (.int .i64 x) := fun i x hi => by
    obtain ⟨b', o', e, _, hc⟩ := h (i + 1) x (by simpa using hi)
    injection e with e
    injection e with e1 e2 e3
    subst e1 e2
    rw [← hc, show o + 1 + i = o + (i + 1) by omega]
  rw [List.length_cons] at h1 h3 ⊢
  have H := Lib.hid h
  obtain ⟨m, hm⟩ : ∃ m, l.length + 1 = m := ⟨_, rfl⟩
  rw [hm] at h1 h3 ⊢
  have HM := Lib.hid hm
  have i4 : (m : Int) ≤ c := by omega
  have i5 : (0 : Int) < m := by omega
  have i6 : (1 : Int) ≤ m := by omega
  clear h hm
  go_enter Try.func124, Try.ntmps124
  go_wp2_with fail
  go_quiet (fail)
  go_upto_region 2 with fail
  go_cut [15, 16, 17] (fun s n i wx => ∃ ad cc, s = .slice ad l.length cc ∧ n = .int .i64 l.length ∧ i = .int .i64 0 ∧ (0 < l.length → ad = some ⟨b, o + 1, none⟩) ∧ ∃ d, wx = w.drewN d)
  case first =>
    by_cases hc1 : c = 1
    · subst hc1
      go_wp2_with fail
      go_meet
      case rel => have hm1 := HM.out; exact ⟨_, 0, by rw [show l.length = 0 by omega], by rw [show l.length = 0 by omega]; rfl, rfl, fun h => by omega, _, rfl⟩
    · have i7 : 1 < c := by omega
      go_wp2_with fail
      go_meet
      case rel => have hm1 := HM.out; exact ⟨_, c - 1, by rw [show m - 1 = l.length by omega], by rw [show m - 1 = l.length by omega], rfl, fun _ => rfl, _, rfl⟩
  case rest =>
    obtain ⟨ad, cc, rfl, rfl, rfl, had, d, rfl⟩ := hcut
    have HAD := Lib.hid had
    clear had
    go_wp2_with fail
    go_loopw [4, 5, 7, 17] (fun lo hi _ i wr => ∃ k : Nat, i = .int .i64 k ∧ k ≤ l.length ∧ lo = .int .i64 ((l.take k).foldl min x0) ∧ hi = .int .i64 ((l.take k).foldl max x0) ∧ w.drewN d = wr) (fun _ _ _ i _ => l.length - (intOf i).toNat)
    case atStart => exact ⟨0, rfl, by omega, by simp, by simp, rfl⟩
    case round =>
      obtain ⟨k, rfl, hk, rfl, rfl, rfl⟩ := hrel
      by_cases hlt : k < l.length
      · obtain ⟨x, hx⟩ := getElem?_ex hlt
        obtain rfl := HAD.out (by omega)
        have hc1 := H.out k x hx
        have HS1 := Lib.hid (foldl_step (f := min) (a := x0) hx)
        have HS2 := Lib.hid (foldl_step (f := max) (a := x0) hx)
        have i1 : (0 : Int) ≤ (k : Int) := by omega
        have i2 : (k : Int) < (l.length : Int) := by omega
        have i3 : (k : Int) ≤ 140737488351232 := by have := HM.out; omega
        clear hx
        obtain ⟨A, hA⟩ : ∃ A, (l.take k).foldl min x0 = A := ⟨_, rfl⟩
        obtain ⟨B, hB⟩ : ∃ B, (l.take k).foldl max x0 = B := ⟨_, rfl⟩
        rw [hA] at HS1 ⊢
        rw [hB] at HS2 ⊢
        clear hA hB
        go_wp2_with fail
        go_roundw
        case rel => exact ⟨k + 1, by go_num, by omega, by first | rw [HS1.out, int_min] | rw [HS1.out], by first | rw [HS2.out, int_max] | rw [HS2.out], trivial⟩
        case measure => simp [intOf] <;> omega
      · obtain rfl : k = l.length := by omega
        go_wp2_with fail
        exact bodyPost_ret (v := .tuple #[.int .i64 (l.foldl min x0), .int .i64 (l.foldl max x0)]) (by simp [results, Try.results124, go_sem]) rfl ⟨rfl, _, rfl⟩

theorem parts_not {l : List Int} {dim : Int} (h : preB l dim = false) : partsB l dim = false := by rw [partsB_is, h]; rfl
theorem pre_1 {l : List Int} {dim : Int} (h : ¬ 1 ≤ dim) : preB l dim = false := by unfold preB; simp [h]
theorem pre_2 {l : List Int} {dim : Int} (h : ¬ dim ≤ 8) : preB l dim = false := by unfold preB; simp [h]
theorem pre_3 {l : List Int} {dim : Int} (h : ¬ (l.length : Int) = dim) : preB l dim = false := by unfold preB; simp [h]
theorem pre_yes {l : List Int} {dim : Int} (h1 : 1 ≤ dim) (h2 : dim ≤ 8) (h3 : (l.length : Int) = dim) : preB l dim = true := by unfold preB; simp [h1, h2, h3]

theorem parts_ends {x0 : Int} {l : List Int} {dim : Int} (h : preB (x0 :: l) dim = true) :
    partsB (x0 :: l) dim = (decide (-4 ≤ l.foldl min x0) && decide (l.foldl max x0 ≤ 4) && (decide (l.foldl min x0 < 0) || decide (0 < l.foldl max x0))) := by
  have h0 : x0 :: l ≠ [] := by simp
  rw [partsB_is, h, ends_all h0, ends_any0 h0, Bool.true_and]
  rfl

set_option maxHeartbeats 1000000 in
theorem vparts_any (v : Value) (l : List Int) (dim : Int) (w : World) (h : Ints .i64 w v l) :
    Calls Try.prog 112 #[v, .int .i64 dim] w fun e w' => e = .returned (.bool (partsB l dim)) ∧ ∃ n, w' = w.drewN n := by
  by_cases h1 : 1 ≤ dim
  · by_cases h2 : dim ≤ 8
    · by_cases h4 : (l.length : Int) = dim
      · cases l with
        | nil => simp at h4; omega
        | cons x0 l =>
          rw [parts_ends (pre_yes h1 h2 h4)]
          have HC := Lib.hid (fun W (hW : Ints .i64 W v (x0 :: l)) => vends_any v x0 l W hW)
          have HI := Lib.hid h
          obtain ⟨a, c, rfl, _⟩ := h
          generalize l.foldl min x0 = A at *
          generalize l.foldl max x0 = B at *
          obtain ⟨m, hm⟩ : ∃ m, (x0 :: l).length = m := ⟨_, rfl⟩
          rw [hm] at h4 HC HI ⊢
          clear hm
          have h5 : ((m : Int) != dim) = false := by simp [h4]
          by_cases g1 : -4 ≤ A
          · by_cases g2 : B ≤ 4
            · by_cases g3 : A < 0
              · rw [show (decide (-4 ≤ A) && decide (B ≤ 4) && (decide (A < 0) || decide (0 < B))) = true by simp [g1, g2, g3]]
                go_enter Try.func112, Try.ntmps112
                go_wp2_with fail
                refine (HC.out _ HI.out).mono ?_
                rintro e w1 ⟨rfl, d, rfl⟩
                go_wp2_with fail
                go_ret
                exact ⟨rfl, _, rfl⟩
              · by_cases g4 : 0 < B
                · rw [show (decide (-4 ≤ A) && decide (B ≤ 4) && (decide (A < 0) || decide (0 < B))) = true by simp [g1, g2, g4]]
                  go_enter Try.func112, Try.ntmps112
                  go_wp2_with fail
                  refine (HC.out _ HI.out).mono ?_
                  rintro e w1 ⟨rfl, d, rfl⟩
                  go_wp2_with fail
                  go_ret
                  exact ⟨rfl, _, rfl⟩
                · rw [show (decide (-4 ≤ A) && decide (B ≤ 4) && (decide (A < 0) || decide (0 < B))) = false by simp [g3, g4]]
                  have G := Lib.hid (show (decide (A < 0) || decide (0 < B)) = false by simp [g3, g4])
                  go_enter Try.func112, Try.ntmps112
                  go_wp2_with fail
                  refine (HC.out _ HI.out).mono ?_
                  rintro e w1 ⟨rfl, d, rfl⟩
                  go_wp2_with fail
                  go_ret
                  exact ⟨ret_bool G.out, _, rfl⟩
            · rw [show (decide (-4 ≤ A) && decide (B ≤ 4) && (decide (A < 0) || decide (0 < B))) = false by simp [g2]]
              go_enter Try.func112, Try.ntmps112
              go_wp2_with fail
              refine (HC.out _ HI.out).mono ?_
              rintro e w1 ⟨rfl, d, rfl⟩
              go_wp2_with fail
              go_ret
              exact ⟨rfl, _, rfl⟩
          · rw [show (decide (-4 ≤ A) && decide (B ≤ 4) && (decide (A < 0) || decide (0 < B))) = false by simp [g1]]
            go_enter Try.func112, Try.ntmps112
            go_wp2_with fail
            refine (HC.out _ HI.out).mono ?_
            rintro e w1 ⟨rfl, d, rfl⟩
            go_wp2_with fail
            go_ret
            exact ⟨rfl, _, rfl⟩
      · rw [parts_not (pre_3 h4)]
        obtain ⟨a, c, rfl, _⟩ := h
        have h5 : ((l.length : Int) != dim) = true := by simp [h4]
        go_enter Try.func112, Try.ntmps112
        go_wp2_with fail
        go_ret
        exact ⟨rfl, 0, rfl⟩
    · rw [parts_not (pre_2 h2)]
      obtain ⟨a, c, rfl, _⟩ := h
      go_enter Try.func112, Try.ntmps112
      go_wp2_with fail
      go_ret
      exact ⟨rfl, 0, rfl⟩
  · rw [parts_not (pre_1 h1)]
    obtain ⟨a, c, rfl, _⟩ := h
    go_enter Try.func112, Try.ntmps112
    go_wp2_with fail
    go_ret
    exact ⟨rfl, 0, rfl⟩
end Go.Proofs.Ytdbonlpkmncggaa

namespace Go.Proofs.Ytdbonlpkmncggaa
open Go.RowKit

theorem dot_step : ∀ {c x : List Int} {k : Nat} {a b : Int}, c[k]? = some a → x[k]? = some b → dotI (c.take (k + 1)) (x.take (k + 1)) = dotI (c.take k) (x.take k) + a * b
  | [], _, k, a, b, h, _ => by simp at h
  | _ :: _, [], k, a, b, _, h => by simp at h
  | c0 :: c, x0 :: x, 0, a, b, h, h' => by
    simp at h h'
    subst h; subst h'
    simp [dotI]
  | c0 :: c, x0 :: x, k + 1, a, b, h, h' => by
    have := dot_step (c := c) (x := x) (k := k) (a := a) (b := b) (by simpa using h) (by simpa using h')
    simp only [List.take_succ_cons, dotI]
    rw [this]; omega

theorem mul_bd {a b : Int} (ha : isC a = true) (hb : isV b = true) : -8589934592 ≤ a * b ∧ a * b ≤ 8589934592 := by
  unfold isC at ha
  unfold isV at hb
  simp only [Bool.and_eq_true, decide_eq_true_eq] at ha hb
  have : a = -4 ∨ a = -3 ∨ a = -2 ∨ a = -1 ∨ a = 0 ∨ a = 1 ∨ a = 2 ∨ a = 3 ∨ a = 4 := by omega
  rcases this with rfl | rfl | rfl | rfl | rfl | rfl | rfl | rfl | rfl <;> omega

theorem dot_bd : ∀ {c x : List Int}, c.all isC = true → x.all isV = true → c.length ≤ 8 → -(8589934592 * (c.length : Int)) ≤ dotI c x ∧ dotI c x ≤ 8589934592 * (c.length : Int)
  | [], x, _, _, _ => by simp [dotI]
  | _ :: _, [], _, _, h => by simp only [dotI, List.length_cons]; omega
  | a :: c, b :: x, hc, hx, h => by
    simp only [List.all_cons, Bool.and_eq_true] at hc hx
    have := dot_bd (c := c) (x := x) hc.2 hx.2 (by simp at h; omega)
    have := mul_bd hc.1 hx.1
    simp only [dotI, List.length_cons]
    omega

theorem partsB_yes {l : List Int} {dim : Int} (h : partsB l dim = true) : 1 ≤ dim ∧ dim ≤ 8 ∧ (l.length : Int) = dim ∧ l.all isC = true := by
  rw [partsB_is] at h
  unfold preB at h
  simp only [Bool.and_eq_true, decide_eq_true_eq] at h
  exact ⟨h.1.1.1.1, h.1.1.1.2, h.1.1.2, h.1.2⟩

theorem vecB_yes {l : List Int} {dim : Int} (h : vecB l dim = true) : 1 ≤ dim ∧ dim ≤ 8 ∧ (l.length : Int) = dim ∧ l.all isV = true := by
  rw [vecB_is] at h
  unfold preB at h
  simp only [Bool.and_eq_true, decide_eq_true_eq] at h
  exact ⟨h.1.1.1, h.1.1.2, h.1.2, h.2⟩

theorem all_take {p : Int → Bool} {l : List Int} (h : l.all p = true) (k : Nat) : (l.take k).all p = true := by
  rw [List.all_eq_true] at h ⊢
  exact fun x hx => h x (List.mem_of_mem_take hx)

theorem all_at {p : Int → Bool} {l : List Int} (h : l.all p = true) {k : Nat} {x : Int} (hx : l[k]? = some x) : p x = true := by
  rw [List.all_eq_true] at h
  exact h x (List.mem_of_getElem? hx)

def dotOk (c x : List Int) : Bool := partsB c c.length && vecB x c.length

set_option maxHeartbeats 2000000 in
theorem vdot_any (v v2 : Value) (c x : List Int) (w : World) (h : Ints .i64 w v c) (h2 : Ints .i64 w v2 x) :
    Calls Try.prog 108 #[v, v2] w fun e w' => e = .returned (.tuple #[.int .i64 (if dotOk c x then dotI c x else 0), .int .i64 (if dotOk c x then 0 else 80)]) ∧ ∃ n, w' = w.drewN n := by
  have HC := Lib.hid (fun W dim (hW : Ints .i64 W v c) => vparts_any v c dim W hW)
  have HD := Lib.hid (fun W dim (hW : Ints .i64 W v2 x) => vis_any v2 x dim W hW)
  have HI := Lib.hid h
  have HJ := Lib.hid h2
  obtain ⟨a, cc, rfl, _, _, q3, h⟩ := h
  obtain ⟨a2, cc2, rfl, _, _, q32, h2⟩ := h2
  unfold dotOk
  cases hp : partsB c c.length with
  | false =>
    obtain ⟨m, hm⟩ : ∃ m, c.length = m := ⟨_, rfl⟩
    rw [hm] at hp HC HI ⊢
    have HCC := Lib.hid (fun W (hW : Ints .i64 W (.slice a m cc) c) => hp ▸ HC.out W m hW)
    clear hp HC h h2 hm
    go_enter Try.func108, Try.ntmps108
    go_wp2_with fail
    refine (HCC.out _ HI.out).mono ?_
    rintro e w1 ⟨rfl, d, rfl⟩
    go_wp2_with fail
    exact bodyPost_ret (v := .tuple #[.int .i64 0, .int .i64 80]) (by simp [results, Try.results108, go_sem]) rfl ⟨rfl, _, rfl⟩
  | true =>
    cases hv : vecB x c.length with
    | false =>
      obtain ⟨m, hm⟩ : ∃ m, c.length = m := ⟨_, rfl⟩
      rw [hm] at hp hv HC HI ⊢
      have HCC := Lib.hid (fun W (hW : Ints .i64 W (.slice a m cc) c) => hp ▸ HC.out W m hW)
      have HDD := Lib.hid (fun W (hW : Ints .i64 W (.slice a2 x.length cc2) x) => hv ▸ HD.out W m hW)
      clear hp hv HC HD h h2 hm
      go_enter Try.func108, Try.ntmps108
      go_wp2_with fail
      refine (HCC.out _ HI.out).mono ?_
      rintro e w1 ⟨rfl, d, rfl⟩
      go_wp2_with fail
      refine (HDD.out _ (HJ.out.drewN _)).mono ?_
      rintro e w1 ⟨rfl, rfl⟩
      go_wp2_with fail
      exact bodyPost_ret (v := .tuple #[.int .i64 0, .int .i64 80]) (by simp [results, Try.results108, go_sem]) rfl ⟨rfl, _, rfl⟩
    | true =>
      obtain ⟨p1, p2, p3, p4⟩ := partsB_yes hp
      obtain ⟨r1, r2, r3, r4⟩ := vecB_yes hv
      have hlen : x.length = c.length := by omega
      have HL := Lib.hid hlen
      obtain ⟨m, hm⟩ : ∃ m, c.length = m := ⟨_, rfl⟩
      rw [hlen] at HD HJ q32 ⊢
      have HM := Lib.hid hm
      rw [hm] at hp hv HC HD HI HJ p2 q3 q32 ⊢
      have HCC := Lib.hid (fun W (hW : Ints .i64 W (.slice a m cc) c) => hp ▸ HC.out W m hW)
      have HDD := Lib.hid (fun W (hW : Ints .i64 W (.slice a2 m cc2) x) => hv ▸ HD.out W m hW)
      have HA := Lib.hid h
      have HB := Lib.hid h2
      have HP4 := Lib.hid p4
      have HR4 := Lib.hid r4
      have i8 : (m : Int) ≤ 8 := by omega
      clear hp hv HC HD h h2 hm hlen p1 p2 p3 p4 r1 r2 r3 r4
      go_enter Try.func108, Try.ntmps108
      go_wp2_with fail
      refine (HCC.out _ HI.out).mono ?_
      rintro e w1 ⟨rfl, d, rfl⟩
      go_wp2_with fail
      refine (HDD.out _ (HJ.out.drewN _)).mono ?_
      rintro e w1 ⟨rfl, rfl⟩
      go_wp2_with fail
      go_loopw [6, 7, 8, 23] (fun s _ _ i wr => ∃ k : Nat, i = .int .i64 k ∧ k ≤ m ∧ s = .int .i64 (dotI (c.take k) (x.take k)) ∧ w.drewN d = wr) (fun _ _ _ i _ => m - (intOf i).toNat)
      case atStart => exact ⟨0, rfl, by omega, by simp [dotI], rfl⟩
      case round =>
        obtain ⟨k, rfl, hk, rfl, rfl⟩ := hrel
        by_cases hlt : k < m
        · obtain ⟨y, hy⟩ := getElem?_ex (l := c) (k := k) (by rw [HM.out]; exact hlt)
          obtain ⟨z, hz⟩ := getElem?_ex (l := x) (k := k) (by rw [HL.out, HM.out]; exact hlt)
          obtain ⟨b1, o1, rfl, hb1, hc1⟩ := HA.out k y hy
          obtain ⟨b2, o2, rfl, hb2, hc2⟩ := HB.out k z hz
          have hs := dot_step hy hz
          have hb := dot_bd (all_take HP4.out k) (all_take HR4.out k) (by simp; omega)
          have hmb := mul_bd (all_at HP4.out hy) (all_at HR4.out hz)
          have hlk : (((c.take k).length : Nat) : Int) ≤ 8 := by simp; omega
          obtain ⟨A, hA⟩ : ∃ A, dotI (c.take k) (x.take k) = A := ⟨_, rfl⟩
          have hb1' : -68719476736 ≤ A := by omega
          have hb2' : A ≤ 68719476736 := by omega
          rw [hA] at hs ⊢
          obtain ⟨p, hp⟩ : ∃ p, y * z = p := ⟨_, rfl⟩
          have hm1 := hmb.1
          have hm2 := hmb.2
          rw [hp] at hs hm1 hm2
          have HS := Lib.hid hs
          have i1 : (0 : Int) ≤ (k : Int) := by omega
          have i2 : (k : Int) < (m : Int) := by omega
          clear hy hz hs hb hmb hA hlk
          go_wp2_with fail
          go_roundw
          case rel => exact ⟨k + 1, by go_num, by omega, by rw [HS.out], trivial⟩
          case measure => simp [intOf] <;> omega
        · obtain rfl : k = m := by omega
          have hT1 := Lib.hid (List.take_of_length_le (l := c) (i := k) (by rw [HM.out]; omega))
          have hT2 := Lib.hid (List.take_of_length_le (l := x) (i := k) (by rw [HL.out, HM.out]; omega))
          go_wp2_with fail
          exact bodyPost_ret (v := .tuple #[.int .i64 (dotI (c.take k) (x.take k)), .int .i64 0]) (by simp [results, Try.results108, go_sem]) rfl ⟨by rw [hT1.out, hT2.out], _, rfl⟩

set_option maxHeartbeats 1000000 in
theorem risv_any (v : Value) (l : List Int) (dim : Int) (w : World) (h : Ints .i64 w v l) :
    Calls Try.prog 84 #[v, .int .i64 dim] w fun e w' => e = .returned (.bool (vecB l dim)) ∧ w = w' := by
  obtain ⟨a, c, rfl, _, _, h3, h⟩ := h
  have H := Lib.hid h; clear h
  rw [vecB_is]
  by_cases h1 : 1 ≤ dim
  · by_cases h2 : dim ≤ 8
    · by_cases h4 : (l.length : Int) = dim
      · rw [pre_yes h1 h2 h4, Bool.true_and]
        have h5 : ((l.length : Int) != dim) = false := by simp [h4]
        go_enter Try.func84, Try.ntmps84
        go_wp2_with fail
        go_loopw [5] (fun i wr => ∃ k : Nat, i = .int .i64 k ∧ k ≤ l.length ∧ (l.take k).all isV = true ∧ w = wr) (fun i _ => l.length + 1 - (intOf i).toNat)
        case atStart => exact ⟨0, rfl, by omega, by simp, rfl⟩
        case round =>
          obtain ⟨k, rfl, hk, hA, rfl⟩ := hrel
          have HA := Lib.hid hA
          clear hA
          by_cases hlt : k < l.length
          · obtain ⟨x, hx⟩ := getElem?_ex hlt
            obtain ⟨b1, o1, rfl, hb1, hc1⟩ := H.out k x hx
            have hs := all_step (p := isV) hx
            have HS := Lib.hid hs
            have i1 : (0 : Int) ≤ (k : Int) := by omega
            have i2 : (k : Int) < (l.length : Int) := by omega
            have i3 : (k : Int) ≤ 140737488351232 := by omega
            clear hx hs
            by_cases g1 : -2147483648 ≤ x
            · by_cases g2 : x ≤ 2147483647
              · have G := Lib.hid (show isV x = true by unfold isV; simp [g1, g2])
                go_wp2_with fail
                go_roundw
                case rel => exact ⟨k + 1, by go_num, by omega, by rw [HS.out, HA.out, G.out]; rfl, trivial⟩
                case measure => simp [intOf] <;> omega
              · have G := Lib.hid (show l.all isV = false from all_false_of_take (k := k + 1) (by rw [HS.out, show isV x = false by unfold isV; simp [g2]] <;> simp))
                go_wp2_with fail
                go_ret
                exact ⟨ret_bool G.out.symm, rfl⟩
            · have G := Lib.hid (show l.all isV = false from all_false_of_take (k := k + 1) (by rw [HS.out, show isV x = false by unfold isV; simp [g1]] <;> simp))
              go_wp2_with fail
              go_ret
              exact ⟨ret_bool G.out.symm, rfl⟩
          · obtain rfl : k = l.length := by omega
            go_wp2_with fail
            go_ret
            refine ⟨ret_bool ?_, rfl⟩
            have hA := HA.out
            rw [List.take_length] at hA
            exact hA.symm
      · rw [pre_3 h4, Bool.false_and]
        have h5 : ((l.length : Int) != dim) = true := by simp [h4]
        go_enter Try.func84, Try.ntmps84
        go_wp2_with fail
        go_ret
        exact ⟨rfl, rfl⟩
    · rw [pre_2 h2, Bool.false_and]
      go_enter Try.func84, Try.ntmps84
      go_wp2_with fail
      go_ret
      exact ⟨rfl, rfl⟩
  · rw [pre_1 h1, Bool.false_and]
    go_enter Try.func84, Try.ntmps84
    go_wp2_with fail
    go_ret
    exact ⟨rfl, rfl⟩

set_option maxHeartbeats 1000000 in
theorem rparts_any (v : Value) (l : List Int) (dim : Int) (w : World) (h : Ints .i64 w v l) :
    Calls Try.prog 113 #[v, .int .i64 dim] w fun e w' => e = .returned (.bool (partsB l dim)) ∧ w = w' := by
  obtain ⟨a, c, rfl, _, _, h3, h⟩ := h
  have H := Lib.hid h; clear h
  rw [partsB_is]
  by_cases h1 : 1 ≤ dim
  · by_cases h2 : dim ≤ 8
    · by_cases h4 : (l.length : Int) = dim
      · rw [pre_yes h1 h2 h4, Bool.true_and]
        have h5 : ((l.length : Int) != dim) = false := by simp [h4]
        go_enter Try.func113, Try.ntmps113
        go_wp2_with fail
        go_loopw [5, 6] (fun s i wr => ∃ k : Nat, i = .int .i64 k ∧ k ≤ l.length ∧ (l.take k).all isC = true ∧ s = .bool ((l.take k).any fun x => decide (x ≠ 0)) ∧ w = wr) (fun _ i _ => l.length + 1 - (intOf i).toNat)
        case atStart => exact ⟨0, rfl, by omega, by simp, by simp, rfl⟩
        case round =>
          obtain ⟨k, rfl, hk, hA, rfl, rfl⟩ := hrel
          have HA := Lib.hid hA
          clear hA
          by_cases hlt : k < l.length
          · obtain ⟨x, hx⟩ := getElem?_ex hlt
            obtain ⟨b1, o1, rfl, hb1, hc1⟩ := H.out k x hx
            have hs := all_step (p := isC) hx
            have HS := Lib.hid hs
            have HS2 := Lib.hid (any_step (p := fun x => decide (x ≠ 0)) hx)
            have i1 : (0 : Int) ≤ (k : Int) := by omega
            have i2 : (k : Int) < (l.length : Int) := by omega
            have i3 : (k : Int) ≤ 140737488351232 := by omega
            obtain ⟨S, hS⟩ : ∃ S, ((l.take k).any fun x => decide (x ≠ 0)) = S := ⟨_, rfl⟩
            rw [hS] at HS2 ⊢
            clear hx hs hS
            by_cases g1 : -4 ≤ x
            · by_cases g2 : x ≤ 4
              · have G := Lib.hid (show isC x = true by unfold isC; simp [g1, g2])
                cases S with
                | true =>
                  go_wp2_with fail
                  go_roundw
                  case rel => exact ⟨k + 1, by go_num, by omega, by rw [HS.out, HA.out, G.out]; rfl, by rw [HS2.out]; rfl, trivial⟩
                  case measure => simp [intOf] <;> omega
                | false =>
                  by_cases g3 : x = 0
                  · have g4 : (x != 0) = false := by simp [g3]
                    have G2 := Lib.hid (show decide (x ≠ 0) = false by simp [g3])
                    clear g3
                    go_wp2_with fail
                    go_roundw
                    case rel => exact ⟨k + 1, by go_num, by omega, by rw [HS.out, HA.out, G.out]; rfl, by rw [HS2.out, G2.out]; rfl, trivial⟩
                    case measure => simp [intOf] <;> omega
                  · have g4 : (x != 0) = true := by simp [g3]
                    have G2 := Lib.hid (show decide (x ≠ 0) = true by simp [g3])
                    clear g3
                    go_wp2_with fail
                    go_roundw
                    case rel => exact ⟨k + 1, by go_num, by omega, by rw [HS.out, HA.out, G.out]; rfl, by rw [HS2.out, G2.out]; rfl, trivial⟩
                    case measure => simp [intOf] <;> omega
              · have G := Lib.hid (show l.all isC = false from all_false_of_take (k := k + 1) (by rw [HS.out, show isC x = false by unfold isC; simp [g2]] <;> simp))
                go_wp2_with fail
                go_ret
                exact ⟨ret_bool (by rw [G.out]; rfl), rfl⟩
            · have G := Lib.hid (show l.all isC = false from all_false_of_take (k := k + 1) (by rw [HS.out, show isC x = false by unfold isC; simp [g1]] <;> simp))
              go_wp2_with fail
              go_ret
              exact ⟨ret_bool (by rw [G.out]; rfl), rfl⟩
          · obtain rfl : k = l.length := by omega
            go_wp2_with fail
            go_ret
            refine ⟨ret_bool ?_, rfl⟩
            have hA := HA.out
            rw [List.take_length] at hA
            rw [hA]
            simp
      · rw [pre_3 h4, Bool.false_and, Bool.false_and]
        have h5 : ((l.length : Int) != dim) = true := by simp [h4]
        go_enter Try.func113, Try.ntmps113
        go_wp2_with fail
        go_ret
        exact ⟨rfl, rfl⟩
    · rw [pre_2 h2, Bool.false_and, Bool.false_and]
      go_enter Try.func113, Try.ntmps113
      go_wp2_with fail
      go_ret
      exact ⟨rfl, rfl⟩
  · rw [pre_1 h1, Bool.false_and, Bool.false_and]
    go_enter Try.func113, Try.ntmps113
    go_wp2_with fail
    go_ret
    exact ⟨rfl, rfl⟩
set_option maxHeartbeats 2000000 in
theorem rdot_any (v v2 : Value) (c x : List Int) (w : World) (h : Ints .i64 w v c) (h2 : Ints .i64 w v2 x) :
    Calls Try.prog 120 #[v, v2] w fun e w' => e = .returned (.tuple #[.int .i64 (if dotOk c x then dotI c x else 0), .int .i64 (if dotOk c x then 0 else 80)]) ∧ ∃ n, w' = w.drewN n := by
  have HC := Lib.hid (fun W dim (hW : Ints .i64 W v c) => rparts_any v c dim W hW)
  have HD := Lib.hid (fun W dim (hW : Ints .i64 W v2 x) => risv_any v2 x dim W hW)
  have HI := Lib.hid h
  have HJ := Lib.hid h2
  obtain ⟨a, cc, rfl, _, _, q3, h⟩ := h
  obtain ⟨a2, cc2, rfl, _, _, q32, h2⟩ := h2
  unfold dotOk
  cases hp : partsB c c.length with
  | false =>
    obtain ⟨m, hm⟩ : ∃ m, c.length = m := ⟨_, rfl⟩
    rw [hm] at hp HC HI ⊢
    have HCC := Lib.hid (fun W (hW : Ints .i64 W (.slice a m cc) c) => hp ▸ HC.out W m hW)
    clear hp HC h h2 hm
    go_enter Try.func120, Try.ntmps120
    go_wp2_with fail
    refine (HCC.out _ HI.out).mono ?_
    rintro e w1 ⟨rfl, rfl⟩
    go_wp2_with fail
    exact bodyPost_ret (v := .tuple #[.int .i64 0, .int .i64 80]) (by simp [results, Try.results120, go_sem]) rfl ⟨rfl, 0, rfl⟩
  | true =>
    cases hv : vecB x c.length with
    | false =>
      obtain ⟨m, hm⟩ : ∃ m, c.length = m := ⟨_, rfl⟩
      rw [hm] at hp hv HC HI ⊢
      have HCC := Lib.hid (fun W (hW : Ints .i64 W (.slice a m cc) c) => hp ▸ HC.out W m hW)
      have HDD := Lib.hid (fun W (hW : Ints .i64 W (.slice a2 x.length cc2) x) => hv ▸ HD.out W m hW)
      clear hp hv HC HD h h2 hm
      go_enter Try.func120, Try.ntmps120
      go_wp2_with fail
      refine (HCC.out _ HI.out).mono ?_
      rintro e w1 ⟨rfl, rfl⟩
      go_wp2_with fail
      refine (HDD.out _ HJ.out).mono ?_
      rintro e w1 ⟨rfl, rfl⟩
      go_wp2_with fail
      exact bodyPost_ret (v := .tuple #[.int .i64 0, .int .i64 80]) (by simp [results, Try.results120, go_sem]) rfl ⟨rfl, 0, rfl⟩
    | true =>
      obtain ⟨p1, p2, p3, p4⟩ := partsB_yes hp
      obtain ⟨r1, r2, r3, r4⟩ := vecB_yes hv
      have hlen : x.length = c.length := by omega
      have HL := Lib.hid hlen
      obtain ⟨m, hm⟩ : ∃ m, c.length = m := ⟨_, rfl⟩
      rw [hlen] at HD HJ q32 ⊢
      have HM := Lib.hid hm
      rw [hm] at hp hv HC HD HI HJ p2 q3 q32 ⊢
      have HCC := Lib.hid (fun W (hW : Ints .i64 W (.slice a m cc) c) => hp ▸ HC.out W m hW)
      have HDD := Lib.hid (fun W (hW : Ints .i64 W (.slice a2 m cc2) x) => hv ▸ HD.out W m hW)
      have HA := Lib.hid h
      have HB := Lib.hid h2
      have HP4 := Lib.hid p4
      have HR4 := Lib.hid r4
      have i8 : (m : Int) ≤ 8 := by omega
      clear hp hv HC HD h h2 hm hlen p1 p2 p3 p4 r1 r2 r3 r4
      go_enter Try.func120, Try.ntmps120
      go_wp2_with fail
      refine (HCC.out _ HI.out).mono ?_
      rintro e w1 ⟨rfl, rfl⟩
      go_wp2_with fail
      refine (HDD.out _ HJ.out).mono ?_
      rintro e w1 ⟨rfl, rfl⟩
      go_wp2_with fail
      go_loopw [6, 7] (fun s i wr => ∃ k : Nat, i = .int .i64 k ∧ k ≤ m ∧ s = .int .i64 (dotI (c.take k) (x.take k)) ∧ ∃ d, wr = w.drewN d) (fun _ i _ => m - (intOf i).toNat)
      case atStart => exact ⟨0, rfl, by omega, by simp [dotI], 0, rfl⟩
      case round =>
        obtain ⟨k, rfl, hk, rfl, d, rfl⟩ := hrel
        by_cases hlt : k < m
        · obtain ⟨y, hy⟩ := getElem?_ex (l := c) (k := k) (by rw [HM.out]; exact hlt)
          obtain ⟨z, hz⟩ := getElem?_ex (l := x) (k := k) (by rw [HL.out, HM.out]; exact hlt)
          obtain ⟨b1, o1, rfl, hb1, hc1⟩ := HA.out k y hy
          obtain ⟨b2, o2, rfl, hb2, hc2⟩ := HB.out k z hz
          have hs := dot_step hy hz
          have hb := dot_bd (all_take HP4.out k) (all_take HR4.out k) (by simp; omega)
          have hmb := mul_bd (all_at HP4.out hy) (all_at HR4.out hz)
          have hlk : (((c.take k).length : Nat) : Int) ≤ 8 := by simp; omega
          obtain ⟨A, hA⟩ : ∃ A, dotI (c.take k) (x.take k) = A := ⟨_, rfl⟩
          have hb1' : -68719476736 ≤ A := by omega
          have hb2' : A ≤ 68719476736 := by omega
          rw [hA] at hs ⊢
          obtain ⟨p, hp⟩ : ∃ p, y * z = p := ⟨_, rfl⟩
          have hm1 := hmb.1
          have hm2 := hmb.2
          rw [hp] at hs hm1 hm2
          have HS := Lib.hid hs
          have i1 : (0 : Int) ≤ (k : Int) := by omega
          have i2 : (k : Int) < (m : Int) := by omega
          clear hy hz hs hb hmb hA hlk
          go_wp2_with fail
          go_quiet (fail)
          go_wp2_with fail
          go_roundw
          case rel => exact ⟨k + 1, by go_num, by omega, by rw [HS.out], _, rfl⟩
          case measure => simp [intOf] <;> omega
        · obtain rfl : k = m := by omega
          have hT1 := Lib.hid (List.take_of_length_le (l := c) (i := k) (by rw [HM.out]; omega))
          have hT2 := Lib.hid (List.take_of_length_le (l := x) (i := k) (by rw [HL.out, HM.out]; omega))
          go_wp2_with fail
          exact bodyPost_ret (v := .tuple #[.int .i64 (dotI (c.take k) (x.take k)), .int .i64 0]) (by simp [results, Try.results120, go_sem]) rfl ⟨by rw [hT1.out, hT2.out], _, rfl⟩

end Go.Proofs.Ytdbonlpkmncggaa

namespace Go.Proofs.Ytdbonlpkmncggaa
open Go.RowKit

/-- A node lies from (b, o) on. -/
def NodeAt (w : World) (b o : Nat) (n : NodeP) : Prop :=
  ∃ cv, Ints .i64 w cv n.coef ∧ w.cell? ⟨b, o, none⟩ = some cv ∧ w.cell? ⟨b, o + 1, none⟩ = some (.int .i64 n.at_) ∧ w.cell? ⟨b, o + 2, none⟩ = some (.int .i64 n.left) ∧
    w.cell? ⟨b, o + 3, none⟩ = some (.int .i64 n.right) ∧ w.cell? ⟨b, o + 4, none⟩ = some (.int .i64 n.size)

/-- v is a slice of nodes. -/
def NodesR (w : World) (v : Value) (l : List NodeP) : Prop :=
  ∃ a c, v = .slice a l.length c ∧ l.length ≤ c ∧ c ≤ 9223372036854775807 ∧ l.length ≤ 140737488351232 ∧
    ∀ (i : Nat) (n : NodeP), l[i]? = some n → ∃ b o, a = some ⟨b, o, none⟩ ∧ b < w.heap.size ∧ NodeAt w b (o + i * 5) n

/-- v is a tree. -/
def TreeR (w : World) (v : Value) (t : TreeP) : Prop := ∃ nv, v = .agg #[.int .i64 t.dim, nv] ∧ NodesR w nv t.nodes

/-- v is a node. -/
def NodeV (w : World) (v : Value) (n : NodeP) : Prop := ∃ cv, v = .agg #[cv, .int .i64 n.at_, .int .i64 n.left, .int .i64 n.right, .int .i64 n.size] ∧ Ints .i64 w cv n.coef

theorem NodeAt.below {w w' : World} {b o : Nat} {n : NodeP} (h : NodeAt w b o n) (hb : b < w.heap.size) (B : Below w.heap.size w w') : NodeAt w' b o n := by
  obtain ⟨cv, h0, h1, h2, h3, h4, h5⟩ := h
  exact ⟨cv, h0.below B, (B.cell (p := ⟨b, _, none⟩) hb).trans h1, (B.cell (p := ⟨b, _, none⟩) hb).trans h2, (B.cell (p := ⟨b, _, none⟩) hb).trans h3, (B.cell (p := ⟨b, _, none⟩) hb).trans h4, (B.cell (p := ⟨b, _, none⟩) hb).trans h5⟩

theorem NodesR.below {w w' : World} {v : Value} {l : List NodeP} (h : NodesR w v l) (B : Below w.heap.size w w') : NodesR w' v l := by
  obtain ⟨a, c, e, h1, h2, h3, h⟩ := h
  refine ⟨a, c, e, h1, h2, h3, fun i n hi => ?_⟩
  obtain ⟨b, o, e, hb, hn⟩ := h i n hi
  exact ⟨b, o, e, Nat.lt_of_lt_of_le hb B.size, hn.below hb B⟩

theorem TreeR.below {w w' : World} {v : Value} {t : TreeP} (h : TreeR w v t) (B : Below w.heap.size w w') : TreeR w' v t := by
  obtain ⟨nv, e, h⟩ := h
  exact ⟨nv, e, h.below B⟩

theorem NodeV.below {w w' : World} {v : Value} {n : NodeP} (h : NodeV w v n) (B : Below w.heap.size w w') : NodeV w' v n := by
  obtain ⟨cv, e, h⟩ := h
  exact ⟨cv, e, h.below B⟩

theorem NodeAt.val {w : World} {b o : Nat} {n : NodeP} (h : NodeAt w b o n) : ∃ ad cc, Ints .i64 w (.slice ad n.coef.length cc) n.coef ∧ w.cell? ⟨b, o, none⟩ = some (.slice ad n.coef.length cc) ∧ w.cell? ⟨b, o + 1, none⟩ = some (.int .i64 n.at_) ∧ w.cell? ⟨b, o + 2, none⟩ = some (.int .i64 n.left) ∧
    w.cell? ⟨b, o + 3, none⟩ = some (.int .i64 n.right) ∧ w.cell? ⟨b, o + 4, none⟩ = some (.int .i64 n.size) := by
  obtain ⟨cv, h0, h1, h2, h3, h4, h5⟩ := h
  obtain ⟨ad, cc, rfl⟩ := h0.shape
  exact ⟨ad, cc, h0, h1, h2, h3, h4, h5⟩

theorem TreeR.node {w : World} {d : Int} {b o n cc : Nat} {t : TreeP} (h : TreeR w (.agg #[.int .i64 d, .slice (some ⟨b, o, none⟩) n cc]) t) {i : Nat} {nd : NodeP} (hn : t.nodes[i]? = some nd) : b < w.heap.size ∧ NodeAt w b (o + i * 5) nd := by
  obtain ⟨nv, e, a, c, rfl, _, _, _, h⟩ := h
  injection e with e
  injection e with e
  simp at e
  obtain ⟨b', o', e', hb, hat⟩ := h i nd hn
  rw [← e.2.1] at e'
  injection e' with e'
  injection e' with e1 e2 e3
  subst e1 e2
  exact ⟨hb, hat⟩

theorem TreeR.addr {w : World} {d : Int} {ad : Option Addr} {n cc : Nat} {t : TreeP} (h : TreeR w (.agg #[.int .i64 d, .slice ad n cc]) t) {i : Nat} (hn : i < t.nodes.length) : ∃ b o, ad = some ⟨b, o, none⟩ := by
  obtain ⟨nv, e, a, c, rfl, _, _, _, h⟩ := h
  injection e with e
  injection e with e
  simp at e
  obtain ⟨nd, hnd⟩ := getElem?_ex hn
  obtain ⟨b', o', e', _⟩ := h i nd hnd
  exact ⟨b', o', e.2.1.trans e'⟩
end Go.Proofs.Ytdbonlpkmncggaa

namespace Go.Proofs.Ytdbonlpkmncggaa
open Go.RowKit

theorem cutB_is (c : List Int) (a dim : Int) : cutB c a dim = (decide (-137438953472 ≤ a) && decide (a ≤ 137438953472) && partsB c dim) := rfl

set_option maxHeartbeats 1000000 in
theorem cis_any (v : Value) (c : List Int) (a dim : Int) (w : World) (h : Ints .i64 w v c) :
    Calls Try.prog 93 #[.agg #[v, .int .i64 a], .int .i64 dim] w fun e w' => e = .returned (.bool (cutB c a dim)) ∧ Below w.heap.size w w' := by
  have HC := Lib.hid (fun W (hW : Ints .i64 W v c) => vparts_any v c dim W hW)
  have HI := Lib.hid h
  obtain ⟨ad, cc, rfl, _⟩ := h
  rw [cutB_is]
  obtain ⟨m, hm⟩ : ∃ m, c.length = m := ⟨_, rfl⟩
  rw [hm] at HC HI ⊢
  clear hm
  by_cases g1 : -137438953472 ≤ a
  · by_cases g2 : a ≤ 137438953472
    · rw [show (decide (-137438953472 ≤ a) && decide (a ≤ 137438953472) && partsB c dim) = partsB c dim by simp [g1, g2]]
      go_enter Try.func93, Try.ntmps93
      go_wp2_with fail
      refine (HC.out _ (HI.out.below (by (repeat (first | with_reducible exact Below.refl _ _ | with_reducible refine Bs ?_ | with_reducible refine Ba ?_ | with_reducible refine Bd ?_ | with_reducible refine Bn ?_))))).mono ?_
      rintro e w1 ⟨rfl, d, rfl⟩
      go_wp2_with fail
      go_ret
      exact ⟨rfl, by (repeat (first | with_reducible exact Below.refl _ _ | with_reducible refine Bs ?_ | with_reducible refine Ba ?_ | with_reducible refine Bd ?_ | with_reducible refine Bn ?_))⟩
    · rw [show (decide (-137438953472 ≤ a) && decide (a ≤ 137438953472) && partsB c dim) = false by simp [g2]]
      go_enter Try.func93, Try.ntmps93
      go_wp2_with fail
      go_ret
      exact ⟨rfl, by (repeat (first | with_reducible exact Below.refl _ _ | with_reducible refine Bs ?_ | with_reducible refine Ba ?_ | with_reducible refine Bd ?_ | with_reducible refine Bn ?_))⟩
  · rw [show (decide (-137438953472 ≤ a) && decide (a ≤ 137438953472) && partsB c dim) = false by simp [g1]]
    go_enter Try.func93, Try.ntmps93
    go_wp2_with fail
    go_ret
    exact ⟨rfl, by (repeat (first | with_reducible exact Below.refl _ _ | with_reducible refine Bs ?_ | with_reducible refine Ba ?_ | with_reducible refine Bd ?_ | with_reducible refine Bn ?_))⟩

set_option maxHeartbeats 1000000 in
theorem rcis_any (v : Value) (c : List Int) (a dim : Int) (w : World) (h : Ints .i64 w v c) :
    Calls Try.prog 96 #[.agg #[v, .int .i64 a], .int .i64 dim] w fun e w' => e = .returned (.bool (cutB c a dim)) ∧ Below w.heap.size w w' := by
  have HC := Lib.hid (fun W (hW : Ints .i64 W v c) => rparts_any v c dim W hW)
  have HI := Lib.hid h
  obtain ⟨ad, cc, rfl, _⟩ := h
  rw [cutB_is]
  obtain ⟨m, hm⟩ : ∃ m, c.length = m := ⟨_, rfl⟩
  rw [hm] at HC HI ⊢
  clear hm
  obtain ⟨B, hB⟩ : ∃ B, partsB c dim = B := ⟨_, rfl⟩
  rw [hB] at HC ⊢
  clear hB
  cases B with
  | true =>
    by_cases g1 : -137438953472 ≤ a
    · by_cases g2 : a ≤ 137438953472
      · rw [show (decide (-137438953472 ≤ a) && decide (a ≤ 137438953472) && true) = true by simp [g1, g2]]
        go_enter Try.func96, Try.ntmps96
        go_wp2_with fail
        refine (HC.out _ (HI.out.below (by (repeat (first | with_reducible exact Below.refl _ _ | with_reducible refine Bs ?_ | with_reducible refine Ba ?_ | with_reducible refine Bd ?_ | with_reducible refine Bn ?_))))).mono ?_
        rintro e w1 ⟨rfl, rfl⟩
        go_wp2_with fail
        go_ret
        exact ⟨rfl, by (repeat (first | with_reducible exact Below.refl _ _ | with_reducible refine Bs ?_ | with_reducible refine Ba ?_ | with_reducible refine Bd ?_ | with_reducible refine Bn ?_))⟩
      · rw [show (decide (-137438953472 ≤ a) && decide (a ≤ 137438953472) && true) = false by simp [g2]]
        have G := Lib.hid (show decide (a ≤ 137438953472) = false by simp [g2])
        go_enter Try.func96, Try.ntmps96
        go_wp2_with fail
        refine (HC.out _ (HI.out.below (by (repeat (first | with_reducible exact Below.refl _ _ | with_reducible refine Bs ?_ | with_reducible refine Ba ?_ | with_reducible refine Bd ?_ | with_reducible refine Bn ?_))))).mono ?_
        rintro e w1 ⟨rfl, rfl⟩
        go_wp2_with fail
        go_ret
        exact ⟨ret_bool G.out, by (repeat (first | with_reducible exact Below.refl _ _ | with_reducible refine Bs ?_ | with_reducible refine Ba ?_ | with_reducible refine Bd ?_ | with_reducible refine Bn ?_))⟩
    · rw [show (decide (-137438953472 ≤ a) && decide (a ≤ 137438953472) && true) = false by simp [g1]]
      go_enter Try.func96, Try.ntmps96
      go_wp2_with fail
      refine (HC.out _ (HI.out.below (by (repeat (first | with_reducible exact Below.refl _ _ | with_reducible refine Bs ?_ | with_reducible refine Ba ?_ | with_reducible refine Bd ?_ | with_reducible refine Bn ?_))))).mono ?_
      rintro e w1 ⟨rfl, rfl⟩
      go_wp2_with fail
      go_ret
      exact ⟨rfl, by (repeat (first | with_reducible exact Below.refl _ _ | with_reducible refine Bs ?_ | with_reducible refine Ba ?_ | with_reducible refine Bd ?_ | with_reducible refine Bn ?_))⟩
  | false =>
    rw [Bool.and_false]
    go_enter Try.func96, Try.ntmps96
    go_wp2_with fail
    refine (HC.out _ (HI.out.below (by (repeat (first | with_reducible exact Below.refl _ _ | with_reducible refine Bs ?_ | with_reducible refine Ba ?_ | with_reducible refine Bd ?_ | with_reducible refine Bn ?_))))).mono ?_
    rintro e w1 ⟨rfl, rfl⟩
    go_wp2_with fail
    go_ret
    exact ⟨rfl, by (repeat (first | with_reducible exact Below.refl _ _ | with_reducible refine Bs ?_ | with_reducible refine Ba ?_ | with_reducible refine Bd ?_ | with_reducible refine Bn ?_))⟩

/-- Where a vector goes: (to the left, how it failed). -/
def leftR (c : List Int) (a : Int) (x : List Int) : Bool × Int :=
  if cutB c a c.length then (if dotOk c x then (decide (dotI c x < a), 0) else (false, 80)) else (false, 90)

set_option maxHeartbeats 1000000 in
theorem cleft_any (v v2 : Value) (c x : List Int) (a : Int) (w : World) (h : Ints .i64 w v c) (h2 : Ints .i64 w v2 x) :
    Calls Try.prog 87 #[.agg #[v, .int .i64 a], v2] w fun e w' => e = .returned (.tuple #[.bool (leftR c a x).1, .int .i64 (leftR c a x).2]) ∧ Below w.heap.size w w' := by
  have HC := Lib.hid (fun W dim (hW : Ints .i64 W v c) => cis_any v c a dim W hW)
  have HD := Lib.hid (fun W (hW : Ints .i64 W v c) (hX : Ints .i64 W v2 x) => vdot_any v v2 c x W hW hX)
  have HI := Lib.hid h
  have HJ := Lib.hid h2
  obtain ⟨ad, cc, rfl, _⟩ := h
  unfold leftR
  cases hb : cutB c a c.length with
  | false =>
    obtain ⟨m, hm⟩ : ∃ m, c.length = m := ⟨_, rfl⟩
    rw [hm] at hb HC HI ⊢
    have HCC := Lib.hid (fun W (hW : Ints .i64 W (.slice ad m cc) c) => hb ▸ HC.out W m hW)
    clear hb HC HD hm h2
    go_enter Try.func87, Try.ntmps87
    go_wp2_with fail
    refine (HCC.out _ (HI.out.below (by (repeat (first | with_reducible exact Below.refl _ _ | with_reducible refine Bs ?_ | with_reducible refine Ba ?_ | with_reducible refine Bd ?_ | with_reducible refine Bn ?_))))).mono ?_
    rintro e w1 ⟨rfl, b1⟩
    go_wp2_with fail
    exact bodyPost_ret (v := .tuple #[.bool false, .int .i64 90]) (by simp [results, Try.results87, go_sem]) rfl ⟨rfl, by (repeat (first | with_reducible exact Below.refl _ _ | with_reducible refine Bs ?_ | with_reducible refine Ba ?_ | with_reducible refine Bd ?_ | with_reducible refine Bn ?_ | with_reducible refine Bt b1 ?_))⟩
  | true =>
    obtain ⟨m, hm⟩ : ∃ m, c.length = m := ⟨_, rfl⟩
    rw [hm] at hb HC HI HD ⊢
    have HCC := Lib.hid (fun W (hW : Ints .i64 W (.slice ad m cc) c) => hb ▸ HC.out W m hW)
    clear hb HC hm h2
    cases hd : dotOk c x with
    | false =>
      have HDD := Lib.hid (fun W (hW : Ints .i64 W (.slice ad m cc) c) (hX : Ints .i64 W v2 x) => hd ▸ HD.out W hW hX)
      clear hd HD
      go_enter Try.func87, Try.ntmps87
      go_wp2_with fail
      refine (HCC.out _ (HI.out.below (by (repeat (first | with_reducible exact Below.refl _ _ | with_reducible refine Bs ?_ | with_reducible refine Ba ?_ | with_reducible refine Bd ?_ | with_reducible refine Bn ?_))))).mono ?_
      rintro e w1 ⟨rfl, b1⟩
      have s1 := b1.size
      have c0_0 := b1.cell (p := ⟨w.heap.size, 0, none⟩) (by first | omega | (simp <;> omega)); have f0_0 := b1.frozen (p := ⟨w.heap.size, 0, none⟩) (by first | omega | (simp <;> omega)); have c0_1 := b1.cell (p := ⟨w.heap.size, 1, none⟩) (by first | omega | (simp <;> omega)); have f0_1 := b1.frozen (p := ⟨w.heap.size, 1, none⟩) (by first | omega | (simp <;> omega))
      go_wp2_with fail
      refine (HDD.out _ ((HI.out.below (by (repeat (first | with_reducible exact Below.refl _ _ | with_reducible refine Bs ?_ | with_reducible refine Ba ?_ | with_reducible refine Bd ?_ | with_reducible refine Bn ?_)))).below b1) ((HJ.out.below (by (repeat (first | with_reducible exact Below.refl _ _ | with_reducible refine Bs ?_ | with_reducible refine Ba ?_ | with_reducible refine Bd ?_ | with_reducible refine Bn ?_)))).below b1)).mono ?_
      rintro e w2 ⟨rfl, d, rfl⟩
      go_wp2_with fail
      exact bodyPost_ret (v := .tuple #[.bool false, .int .i64 80]) (by simp [results, Try.results87, go_sem]) rfl ⟨rfl, by (repeat (first | with_reducible exact Below.refl _ _ | with_reducible refine Bs ?_ | with_reducible refine Ba ?_ | with_reducible refine Bd ?_ | with_reducible refine Bn ?_ | with_reducible refine Bt b1 ?_))⟩
    | true =>
      have HDD := Lib.hid (fun W (hW : Ints .i64 W (.slice ad m cc) c) (hX : Ints .i64 W v2 x) => hd ▸ HD.out W hW hX)
      clear hd HD
      obtain ⟨D, hD⟩ : ∃ D, dotI c x = D := ⟨_, rfl⟩
      rw [hD] at HDD ⊢
      clear hD
      go_enter Try.func87, Try.ntmps87
      go_wp2_with fail
      refine (HCC.out _ (HI.out.below (by (repeat (first | with_reducible exact Below.refl _ _ | with_reducible refine Bs ?_ | with_reducible refine Ba ?_ | with_reducible refine Bd ?_ | with_reducible refine Bn ?_))))).mono ?_
      rintro e w1 ⟨rfl, b1⟩
      have s1 := b1.size
      have c0_0 := b1.cell (p := ⟨w.heap.size, 0, none⟩) (by first | omega | (simp <;> omega)); have f0_0 := b1.frozen (p := ⟨w.heap.size, 0, none⟩) (by first | omega | (simp <;> omega)); have c0_1 := b1.cell (p := ⟨w.heap.size, 1, none⟩) (by first | omega | (simp <;> omega)); have f0_1 := b1.frozen (p := ⟨w.heap.size, 1, none⟩) (by first | omega | (simp <;> omega))
      go_wp2_with fail
      refine (HDD.out _ ((HI.out.below (by (repeat (first | with_reducible exact Below.refl _ _ | with_reducible refine Bs ?_ | with_reducible refine Ba ?_ | with_reducible refine Bd ?_ | with_reducible refine Bn ?_)))).below b1) ((HJ.out.below (by (repeat (first | with_reducible exact Below.refl _ _ | with_reducible refine Bs ?_ | with_reducible refine Ba ?_ | with_reducible refine Bd ?_ | with_reducible refine Bn ?_)))).below b1)).mono ?_
      rintro e w2 ⟨rfl, d, rfl⟩
      go_wp2_with fail
      exact bodyPost_ret (v := .tuple #[.bool (decide (D < a)), .int .i64 0]) (by simp [results, Try.results87, go_sem]) rfl ⟨rfl, by (repeat (first | with_reducible exact Below.refl _ _ | with_reducible refine Bs ?_ | with_reducible refine Ba ?_ | with_reducible refine Bd ?_ | with_reducible refine Bn ?_ | with_reducible refine Bt b1 ?_))⟩

set_option maxHeartbeats 1000000 in
theorem rcleft_any (v v2 : Value) (c x : List Int) (a : Int) (w : World) (h : Ints .i64 w v c) (h2 : Ints .i64 w v2 x) :
    Calls Try.prog 109 #[.agg #[v, .int .i64 a], v2] w fun e w' => e = .returned (.tuple #[.bool (leftR c a x).1, .int .i64 (leftR c a x).2]) ∧ Below w.heap.size w w' := by
  have HC := Lib.hid (fun W dim (hW : Ints .i64 W v c) => rcis_any v c a dim W hW)
  have HD := Lib.hid (fun W (hW : Ints .i64 W v c) (hX : Ints .i64 W v2 x) => rdot_any v v2 c x W hW hX)
  have HI := Lib.hid h
  have HJ := Lib.hid h2
  obtain ⟨ad, cc, rfl, _⟩ := h
  unfold leftR
  cases hb : cutB c a c.length with
  | false =>
    obtain ⟨m, hm⟩ : ∃ m, c.length = m := ⟨_, rfl⟩
    rw [hm] at hb HC HI ⊢
    have HCC := Lib.hid (fun W (hW : Ints .i64 W (.slice ad m cc) c) => hb ▸ HC.out W m hW)
    clear hb HC HD hm h2
    go_enter Try.func109, Try.ntmps109
    go_wp2_with fail
    refine (HCC.out _ (HI.out.below (by (repeat (first | with_reducible exact Below.refl _ _ | with_reducible refine Bs ?_ | with_reducible refine Ba ?_ | with_reducible refine Bd ?_ | with_reducible refine Bn ?_))))).mono ?_
    rintro e w1 ⟨rfl, b1⟩
    go_wp2_with fail
    exact bodyPost_ret (v := .tuple #[.bool false, .int .i64 90]) (by simp [results, Try.results109, go_sem]) rfl ⟨rfl, by (repeat (first | with_reducible exact Below.refl _ _ | with_reducible refine Bs ?_ | with_reducible refine Ba ?_ | with_reducible refine Bd ?_ | with_reducible refine Bn ?_ | with_reducible refine Bt b1 ?_))⟩
  | true =>
    obtain ⟨m, hm⟩ : ∃ m, c.length = m := ⟨_, rfl⟩
    rw [hm] at hb HC HI HD ⊢
    have HCC := Lib.hid (fun W (hW : Ints .i64 W (.slice ad m cc) c) => hb ▸ HC.out W m hW)
    clear hb HC hm h2
    cases hd : dotOk c x with
    | false =>
      have HDD := Lib.hid (fun W (hW : Ints .i64 W (.slice ad m cc) c) (hX : Ints .i64 W v2 x) => hd ▸ HD.out W hW hX)
      clear hd HD
      go_enter Try.func109, Try.ntmps109
      go_wp2_with fail
      refine (HCC.out _ (HI.out.below (by (repeat (first | with_reducible exact Below.refl _ _ | with_reducible refine Bs ?_ | with_reducible refine Ba ?_ | with_reducible refine Bd ?_ | with_reducible refine Bn ?_))))).mono ?_
      rintro e w1 ⟨rfl, b1⟩
      have s1 := b1.size
      have c0_0 := b1.cell (p := ⟨w.heap.size, 0, none⟩) (by first | omega | (simp <;> omega)); have f0_0 := b1.frozen (p := ⟨w.heap.size, 0, none⟩) (by first | omega | (simp <;> omega)); have c0_1 := b1.cell (p := ⟨w.heap.size, 1, none⟩) (by first | omega | (simp <;> omega)); have f0_1 := b1.frozen (p := ⟨w.heap.size, 1, none⟩) (by first | omega | (simp <;> omega))
      go_wp2_with fail
      refine (HDD.out _ ((HI.out.below (by (repeat (first | with_reducible exact Below.refl _ _ | with_reducible refine Bs ?_ | with_reducible refine Ba ?_ | with_reducible refine Bd ?_ | with_reducible refine Bn ?_)))).below b1) ((HJ.out.below (by (repeat (first | with_reducible exact Below.refl _ _ | with_reducible refine Bs ?_ | with_reducible refine Ba ?_ | with_reducible refine Bd ?_ | with_reducible refine Bn ?_)))).below b1)).mono ?_
      rintro e w2 ⟨rfl, d, rfl⟩
      go_wp2_with fail
      exact bodyPost_ret (v := .tuple #[.bool false, .int .i64 80]) (by simp [results, Try.results109, go_sem]) rfl ⟨rfl, by (repeat (first | with_reducible exact Below.refl _ _ | with_reducible refine Bs ?_ | with_reducible refine Ba ?_ | with_reducible refine Bd ?_ | with_reducible refine Bn ?_ | with_reducible refine Bt b1 ?_))⟩
    | true =>
      have HDD := Lib.hid (fun W (hW : Ints .i64 W (.slice ad m cc) c) (hX : Ints .i64 W v2 x) => hd ▸ HD.out W hW hX)
      clear hd HD
      obtain ⟨D, hD⟩ : ∃ D, dotI c x = D := ⟨_, rfl⟩
      rw [hD] at HDD ⊢
      clear hD
      go_enter Try.func109, Try.ntmps109
      go_wp2_with fail
      refine (HCC.out _ (HI.out.below (by (repeat (first | with_reducible exact Below.refl _ _ | with_reducible refine Bs ?_ | with_reducible refine Ba ?_ | with_reducible refine Bd ?_ | with_reducible refine Bn ?_))))).mono ?_
      rintro e w1 ⟨rfl, b1⟩
      have s1 := b1.size
      have c0_0 := b1.cell (p := ⟨w.heap.size, 0, none⟩) (by first | omega | (simp <;> omega)); have f0_0 := b1.frozen (p := ⟨w.heap.size, 0, none⟩) (by first | omega | (simp <;> omega)); have c0_1 := b1.cell (p := ⟨w.heap.size, 1, none⟩) (by first | omega | (simp <;> omega)); have f0_1 := b1.frozen (p := ⟨w.heap.size, 1, none⟩) (by first | omega | (simp <;> omega))
      go_wp2_with fail
      refine (HDD.out _ ((HI.out.below (by (repeat (first | with_reducible exact Below.refl _ _ | with_reducible refine Bs ?_ | with_reducible refine Ba ?_ | with_reducible refine Bd ?_ | with_reducible refine Bn ?_)))).below b1) ((HJ.out.below (by (repeat (first | with_reducible exact Below.refl _ _ | with_reducible refine Bs ?_ | with_reducible refine Ba ?_ | with_reducible refine Bd ?_ | with_reducible refine Bn ?_)))).below b1)).mono ?_
      rintro e w2 ⟨rfl, d, rfl⟩
      go_wp2_with fail
      exact bodyPost_ret (v := .tuple #[.bool (decide (D < a)), .int .i64 0]) (by simp [results, Try.results109, go_sem]) rfl ⟨rfl, by (repeat (first | with_reducible exact Below.refl _ _ | with_reducible refine Bs ?_ | with_reducible refine Ba ?_ | with_reducible refine Bd ?_ | with_reducible refine Bn ?_ | with_reducible refine Bt b1 ?_))⟩

theorem leafB_at {n : NodeP} : leafB n = (decide (n.left = 0) && decide (n.right = 0) && decide (n.coef.length = 0) && decide (n.at_ = 0) && decide (1 ≤ n.size)) := rfl

set_option maxHeartbeats 1000000 in
theorem tleaf_any (v : Value) (n : NodeP) (w : World) (h : NodeV w v n) :
    Calls Try.prog 92 #[v] w fun e w' => e = .returned (.bool (leafB n)) ∧ Below w.heap.size w w' := by
  obtain ⟨cv, rfl, ad, cc, rfl, _⟩ := h
  rw [leafB_at]
  obtain ⟨c, a, l, r, s⟩ := n
  dsimp only
  obtain ⟨m, hm⟩ : ∃ m, c.length = m := ⟨_, rfl⟩
  rw [hm]
  clear hm
  by_cases h1 : l = 0
  · subst h1
    by_cases h2 : r = 0
    · subst h2
      by_cases h3 : m = 0
      · subst h3
        by_cases h4 : a = 0
        · subst h4
          simp only [decide_true, Bool.true_and]
          go_enter Try.func92, Try.ntmps92
          go_wp2_with fail
          go_ret
          exact ⟨rfl, by (repeat (first | with_reducible exact Below.refl _ _ | with_reducible refine Bs ?_ | with_reducible refine Ba ?_ | with_reducible refine Bd ?_ | with_reducible refine Bn ?_))⟩
        · have e := Lib.hid (show decide (a = 0) = false by simp [h4])
          simp only [decide_true, Bool.true_and, e.out, Bool.false_and]
          have q : (a == 0) = false := by simp [h4]
          go_enter Try.func92, Try.ntmps92
          go_wp2_with fail
          go_ret
          exact ⟨rfl, by (repeat (first | with_reducible exact Below.refl _ _ | with_reducible refine Bs ?_ | with_reducible refine Ba ?_ | with_reducible refine Bd ?_ | with_reducible refine Bn ?_))⟩
      · have e := Lib.hid (show decide (m = 0) = false by simp [h3])
        simp only [decide_true, Bool.true_and, e.out, Bool.false_and]
        have q : ((m : Int) == 0) = false := by simp; omega
        go_enter Try.func92, Try.ntmps92
        go_wp2_with fail
        go_ret
        exact ⟨rfl, by (repeat (first | with_reducible exact Below.refl _ _ | with_reducible refine Bs ?_ | with_reducible refine Ba ?_ | with_reducible refine Bd ?_ | with_reducible refine Bn ?_))⟩
    · have e := Lib.hid (show decide (r = 0) = false by simp [h2])
      simp only [decide_true, Bool.true_and, e.out, Bool.false_and]
      have q : (r == 0) = false := by simp [h2]
      go_enter Try.func92, Try.ntmps92
      go_wp2_with fail
      go_ret
      exact ⟨rfl, by (repeat (first | with_reducible exact Below.refl _ _ | with_reducible refine Bs ?_ | with_reducible refine Ba ?_ | with_reducible refine Bd ?_ | with_reducible refine Bn ?_))⟩
  · have e := Lib.hid (show decide (l = 0) = false by simp [h1])
    simp only [e.out, Bool.false_and]
    have q : (l == 0) = false := by simp [h1]
    go_enter Try.func92, Try.ntmps92
    go_wp2_with fail
    go_ret
    exact ⟨rfl, by (repeat (first | with_reducible exact Below.refl _ _ | with_reducible refine Bs ?_ | with_reducible refine Ba ?_ | with_reducible refine Bd ?_ | with_reducible refine Bn ?_))⟩
end Go.Proofs.Ytdbonlpkmncggaa

namespace Go.Proofs.Ytdbonlpkmncggaa
open Go.RowKit

def fitV (z : Int) : Int := if Ok64 z then z else 0
def fitE (z : Int) : Int := if Ok64 z then 0 else 10
theorem fitV_yes {z : Int} (h : Ok64 z) : fitV z = z := if_pos h
theorem fitE_yes {z : Int} (h : Ok64 z) : fitE z = 0 := if_pos h
theorem fitV_no {z : Int} (h : ¬ Ok64 z) : fitV z = 0 := if_neg h
theorem fitE_no {z : Int} (h : ¬ Ok64 z) : fitE z = 10 := if_neg h

theorem u64_abs {a : Int} (ha : Ok64 a) (h : a < 0) : IntKind.u64.wrap (-IntKind.u64.wrap a) = (a.natAbs : Int) := by
  unfold Ok64 at ha
  simp only [IntKind.wrap_u64]
  omega

set_option maxHeartbeats 400000 in
theorem size_any (a : Int) (w : World) (ha : Ok64 a) :
    Calls Try.prog 106 #[.int .i64 a] w fun e w' => e = .returned (.int .u64 (a.natAbs : Int)) ∧ w = w' := by
  have h1 := ha.1
  have h2 := ha.2
  by_cases h : a < 0
  · go_enter Try.func106, Try.ntmps106
    go_wp2
    go_ret
    exact ⟨ret_int (u64_abs ha h), rfl⟩
  · go_enter Try.func106, Try.ntmps106
    go_wp2
    go_ret
    exact ⟨ret_int (by omega), rfl⟩

def clampI (v lo hi : Int) : Int := if v < lo then lo else if hi < v then hi else v

set_option maxHeartbeats 400000 in
theorem clamp_any (v lo hi : Int) (w : World) :
    Calls Try.prog 132 #[.int .i64 v, .int .i64 lo, .int .i64 hi] w fun e w' => e = .returned (.int .i64 (clampI v lo hi)) ∧ w = w' := by
  by_cases h1 : v < lo
  · go_enter Try.func132, Try.ntmps132
    go_wp2
    go_ret
    exact ⟨ret_int (by rw [clampI, if_pos h1]), rfl⟩
  · by_cases h2 : hi < v
    · go_enter Try.func132, Try.ntmps132
      go_wp2
      go_ret
      exact ⟨ret_int (by rw [clampI, if_neg (by omega), if_pos h2]), rfl⟩
    · go_enter Try.func132, Try.ntmps132
      go_wp2
      go_ret
      exact ⟨ret_int (by rw [clampI, if_neg (by omega), if_neg (by omega)]), rfl⟩

set_option maxHeartbeats 400000 in
theorem log_any (n : Int) (w : World) (hn : Ok64 n) :
    Calls Try.prog 94 #[.int .i64 n] w fun e w' => e = .returned (.int .i64 (Lib.bitLen (n.toNat - 1))) ∧ w = w' := by
  have h1 := hn.1
  have h2 := hn.2
  by_cases h : n ≤ 1
  · go_enter Try.func94, Try.ntmps94
    go_wp2
    go_ret
    refine ⟨ret_int ?_, rfl⟩
    rw [show n.toNat - 1 = 0 by omega]; rfl
  · have hl := fun W => Try.bits_Len64 (n - 1) W (by omega) (by omega)
    rw [show (n - 1).toNat = n.toNat - 1 by omega] at hl
    have HL := Lib.hid hl; clear hl
    go_enter Try.func94, Try.ntmps94
    go_wp2_with (go_at_call 95; refine (HL.out _).mono ?_; rintro e w' ⟨rfl, rfl⟩)
    go_ret
    exact ⟨rfl, rfl⟩
end Go.Proofs.Ytdbonlpkmncggaa

namespace Go.Proofs.Ytdbonlpkmncggaa
open Go.RowKit

theorem wpStill_of_quiet {P : Program} {ops : Array Oper} {W : World} {Q : Act → Prop} : ∀ (l : List Oper) (a : Act), wpQuiet P ops (fun w' => w' = W) Q l a → wpStill P ops W Q l a
  | [], _, h => h
  | o :: rest, a, h => by
    unfold wpQuiet at h
    unfold wpStill
    split
    · rename_i hw
      rw [if_pos hw] at h
      obtain ⟨v, hq, hn⟩ := h
      have hq := hq W rfl
      unfold Oper.quietAt at hq
      unfold Oper.still
      generalize (execOp a.eval o).run P W = r at hq
      cases r with
      | ok n w' =>
        cases n with
        | value u => obtain ⟨h1, h2⟩ := hq; subst h2; exact ⟨h1, wpStill_of_quiet rest _ hn⟩
        | skip => obtain ⟨h1, h2⟩ := hq; subst h2; exact ⟨h1, wpStill_of_quiet rest _ hn⟩
        | enter f args => obtain ⟨h1, h2⟩ := hq; exact ⟨h1, v, h2, wpStill_of_quiet rest _ hn⟩
        | _ => exact hq.elim
      | halt x w' => exact hq.elim
    · rename_i hw
      rw [if_neg hw] at h
      exact wpStill_of_quiet rest _ h

theorem wp_region_tail_quiet {P : Program} {id : Nat} {Q : Exit → Act → World → Prop} {a : Act} {w : World} {l : List Oper} (n : Nat) (hm : P.follows .mixedOrders = true) (hB : Region.lexTailB .any l.toArray n = true)
    (h : wpQuiet P l.toArray (fun w' => w' = w.drew) (fun a' => wpList P l.toArray Q (l.drop n) a' w.drew) (l.take n) a) : (Code.region id l.toArray true).wp P Q a w :=
  wp_region_still_tail n hm hB (wpStill_of_quiet _ _ h)

/-- The first n operations from k on come up one by one, forced. -/
def headB (md : Region.Mode) (ops : Array Oper) : Nat → Nat → Array Bool → Bool
  | 0, _, _ => true
  | n + 1, k, listed => decide (Region.ready md ops listed = [k]) && headB md ops n (k + 1) (listed.setIfInBounds k true)
def markB : Nat → Nat → Array Bool → Array Bool
  | 0, _, listed => listed
  | n + 1, k, listed => markB n (k + 1) (listed.setIfInBounds k true)

/-- What stands behind a forced head: a walk that only reads. -/
def QuietNext (P : Program) (ops : Array Oper) (Q : Exit → Act → World → Prop) (l : List Oper) : Exit → Act → World → Prop
  | .normal, a, w => wpQuiet P ops (fun w' => ∃ n, w' = w.drewN n) (fun a' => ∀ w', (∃ n, w' = w.drewN n) → Q .normal a' w') l a
  | e, a, w => Q e a w

theorem QuietNext.of {P : Program} {ops : Array Oper} {Q : Exit → Act → World → Prop} {l : List Oper} {a : Act} {w : World}
    (h : wpQuiet P ops (fun w' => ∃ n, w' = w.drewN n) (fun a' => ∀ w', (∃ n, w' = w.drewN n) → Q .normal a' w') l a) : QuietNext P ops Q l .normal a w := h

theorem wp_q {P : Program} {o : Oper} {a : Act} {w : World} {K : Act → World → Prop} {Q Q' : Exit → Act → World → Prop} (h : ∀ e a w, e ≠ .normal → Q e a w → Q' e a w) (hh : o.wp P a w K Q) : o.wp P a w K Q' := by
  unfold Oper.wp at *
  generalize (execOp a.eval o).run P w = r at *
  cases r with
  | ok n w' =>
    cases n <;> simp only [Oper.upon] at hh ⊢ <;>
      first
        | exact hh
        | exact Calls.mono hh (fun e w'' he => by
            cases e with
            | returned v => exact he
            | panicked c => exact h _ _ _ (by simp) he
            | outgrown => obtain ⟨a, w, g⟩ := he; exact ⟨a, w, h _ _ _ (by simp) g⟩)
  | halt x w' =>
    cases x <;> simp only [Oper.upon] at hh ⊢ <;> first | exact hh | exact h _ _ _ (by simp) hh

end Go.Proofs.Ytdbonlpkmncggaa

namespace Go.Proofs.Ytdbonlpkmncggaa
open Go.RowKit

def lowN : Nat → Nat
  | 0 => 0
  | k + 1 => lowN k + 1073741824 / (k + 1)

def brokN : Nat → Nat
  | 0 => 0
  | k + 1 => brokN k + if 1073741824 % (k + 1) = 0 then 0 else 1

def heldN (n : Int) : Nat := (clampI n 0 256).toNat

theorem heldN_le (n : Int) : heldN n ≤ 256 := by unfold heldN clampI; repeat' split <;> omega
theorem heldN_is (n : Int) : clampI n 0 256 = (heldN n : Int) := by unfold heldN clampI; repeat' split <;> omega

theorem lowN_le : ∀ k, lowN k ≤ k * 1073741824 := by
  intro k
  induction k with
  | zero => simp [lowN]
  | succ k ih => rw [lowN, Nat.add_mul]; have := Nat.div_le_self 1073741824 (k + 1); omega

theorem brokN_le : ∀ k, brokN k ≤ k := by
  intro k
  induction k with
  | zero => simp [brokN]
  | succ k ih => rw [brokN]; split <;> omega

theorem up_is {s k : Nat} (hk : 0 < k) : (s + k - 1) / k = s / k + if s % k = 0 then 0 else 1 := by
  have h1 := Nat.div_add_mod s k
  have h2 := Nat.mod_lt s hk
  obtain ⟨q, hq⟩ : ∃ q, s / k = q := ⟨_, rfl⟩
  obtain ⟨r, hr⟩ : ∃ r, s % k = r := ⟨_, rfl⟩
  rw [hq, hr, Nat.mul_comm] at h1
  rw [hr] at h2
  rw [hq, hr]
  have e1 : (q + 1) * k = q * k + k := Nat.succ_mul q k
  have e2 : (q + 1 + 1) * k = q * k + k + k := by rw [Nat.succ_mul, e1]
  split
  · rw [Nat.add_zero]
    exact Nat.div_eq_of_lt_le (by omega) (by rw [e1]; omega)
  · exact Nat.div_eq_of_lt_le (by rw [e1]; omega) (by rw [e2]; omega)

theorem ceil_is (j : Nat) : (1073741824 + (j + 1) - 1) / (j + 1) = 1073741824 / (j + 1) + if 1073741824 % (j + 1) = 0 then 0 else 1 := up_is (by omega)

theorem held_any (n : Int) (w : World) : Calls Try.prog 125 #[.int .i64 n] w fun e w' => e = .returned (.int .i64 (heldN n)) ∧ w = w' := by
  have hc := fun W => clamp_any n 0 256 W
  rw [heldN_is] at hc
  have HC := Lib.hid hc
  clear hc
  go_enter Try.func125, Try.ntmps125
  go_wp2_with fail
  refine (HC.out _).mono ?_
  rintro e w1 ⟨rfl, rfl⟩
  go_wp2
  go_ret
  exact ⟨rfl, rfl⟩

set_option maxRecDepth 100000 in
set_option maxHeartbeats 1000000 in
theorem both_any' (n : Int) (w : World) : Calls Try.prog 126 #[.int .i64 n] w fun e w' => e = .returned (.tuple #[.int .i64 (lowN (heldN n)), .int .i64 (brokN (heldN n))]) ∧ w = w' := by
  have hc := fun W => held_any n W
  have hK := heldN_le n
  obtain ⟨K, hk⟩ : ∃ K, heldN n = K := ⟨_, rfl⟩
  rw [hk] at hc hK ⊢
  have HC := Lib.hid hc
  clear hc hk
  go_enter Try.func126, Try.ntmps126
  go_wp2_with fail
  refine (HC.out _).mono ?_
  rintro e w1 ⟨rfl, rfl⟩
  go_wp2_with fail
  go_loopw [2, 3, 4, 7] (fun a b _ i wr => ∃ k : Nat, i = .int .i64 k ∧ k ≤ K ∧ a = .int .i64 (lowN k) ∧ b = .int .i64 (brokN k) ∧ w = wr) (fun _ _ _ i _ => K - (intOf i).toNat)
  case atStart => exact ⟨0, rfl, by omega, rfl, rfl, rfl⟩
  case round =>
    obtain ⟨k, rfl, hk, rfl, rfl, rfl⟩ := hrel
    by_cases hlt : k < K
    · have h1 := lowN_le k
      have h2 := brokN_le k
      have h3 : (k : Int) < K := by omega
      have h4 := Nat.div_le_self 1073741824 (k + 1)
      have e1 : lowN (k + 1) = lowN k + 1073741824 / (k + 1) := rfl
      have e2 : brokN (k + 1) = brokN k + if 1073741824 % (k + 1) = 0 then 0 else 1 := rfl
      obtain ⟨L, hL⟩ : ∃ L, lowN k = L := ⟨_, rfl⟩
      obtain ⟨B, hB⟩ : ∃ B, brokN k = B := ⟨_, rfl⟩
      obtain ⟨q, hq⟩ : ∃ q, 1073741824 / (k + 1) = q := ⟨_, rfl⟩
      obtain ⟨r, hr⟩ : ∃ r, 1073741824 % (k + 1) = r := ⟨_, rfl⟩
      have hquo : Int.tdiv 1073741824 ((k : Int) + 1) = q := by rw [← hq]; rfl
      have hrem : Int.tmod 1073741824 ((k : Int) + 1) = r := by rw [← hr]; rfl
      rw [hL] at h1 e1 ⊢
      rw [hB] at h2 e2 ⊢
      rw [hq] at h4 e1
      rw [hr] at e2
      have HE1 := Lib.hid e1; have HE2 := Lib.hid e2
      have hk1 : (k : Int) + 1 ≠ 0 := by omega
      have hLb : (L : Int) ≤ 274877906944 := by have : k * 1073741824 ≤ 256 * 1073741824 := Nat.mul_le_mul_right _ (by omega); omega
      have hBb : (B : Int) ≤ 256 := by omega
      have hqb : (q : Int) ≤ 1073741824 := by omega
      clear e1 e2 hL hB hq hr h1 h2 h4
      by_cases hr0 : r = 0
      · subst hr0
        rw [Int.natCast_zero] at hrem
        go_wp2_with fail
        go_roundw
        case rel => exact ⟨k + 1, by go_num, by omega, by rw [HE1.out]; go_num, by rw [HE2.out]; go_num, trivial⟩
        case measure => simp [intOf] <;> omega
      · have hr1 : (0 : Int) < r := by omega
        go_wp2_with fail
        go_roundw
        case rel => exact ⟨k + 1, by go_num, by omega, by rw [HE1.out]; go_num, by rw [HE2.out, if_neg hr0]; go_num, trivial⟩
        case measure => simp [intOf] <;> omega
    · obtain rfl : k = K := by omega
      go_wp2_with fail
      exact bodyPost_ret (v := .tuple #[.int .i64 (lowN k), .int .i64 (brokN k)]) (by simp [results, Try.results126, go_sem]) rfl ⟨rfl, rfl⟩

/-- Both ends of an average of so many points. -/
def loN (k : Nat) : Int := if k < 2 then 0 else 2 * (lowN (k - 1) : Int) - ((2147483648 * (k - 1) + k - 1) / k : Nat)
def hiN (k : Nat) : Int := if k < 2 then 0 else 2 * ((lowN (k - 1) : Int) + brokN (k - 1)) - (2147483648 * (k - 1) / k : Nat)
def normI (n : Int) : Int := (loN (heldN n) + hiN (heldN n)) / 2

theorem share_le {k : Nat} (hk : 2 ≤ k) : 2147483648 * (k - 1) / k < 2147483648 ∧ (2147483648 * (k - 1) + k - 1) / k ≤ 2147483648 := by
  have h1 : 2147483648 * (k - 1) < 2147483648 * k := Nat.mul_lt_mul_of_pos_left (by omega) (by omega)
  have h2 : 2147483648 * (k - 1) / k < 2147483648 := Nat.div_lt_of_lt_mul (by rw [Nat.mul_comm k]; exact h1)
  refine ⟨h2, ?_⟩
  rw [up_is (by omega)]
  split <;> omega

theorem lowN_ge {k : Nat} (hk : 1 ≤ k) : 1073741824 ≤ lowN k := by
  induction k with
  | zero => omega
  | succ k ih =>
    rw [lowN]
    rcases Nat.eq_zero_or_pos k with rfl | h
    · decide
    · exact Nat.le_trans (ih h) (Nat.le_add_right _ _)

set_option maxRecDepth 100000 in
set_option maxHeartbeats 1000000 in
theorem ends_any' (k : Nat) (w : World) (hk : k ≤ 256) (K : Nat) (hK : K = k - 1) :
    Calls Try.prog 127 #[.int .i64 k, .int .i64 (lowN K), .int .i64 (brokN K)] w fun e w' => e = .returned (.tuple #[.int .i64 (loN k), .int .i64 (hiN k)]) ∧ ∃ d, w' = w.drewN d := by
  subst hK
  by_cases h2 : k < 2
  · rw [loN, hiN, if_pos h2, if_pos h2]
    have h3 : (k : Int) < 2 := by omega
    generalize lowN (k - 1) = L
    generalize brokN (k - 1) = B
    go_enter Try.func127, Try.ntmps127
    go_wp2_with fail
    exact bodyPost_ret (v := .tuple #[.int .i64 0, .int .i64 0]) (by simp [results, Try.results127, go_sem]) rfl ⟨rfl, 0, rfl⟩
  · have hl := lowN_le (k - 1)
    have hb := brokN_le (k - 1)
    have hs := share_le (k := k) (by omega)
    have hu := up_is (s := 2147483648 * (k - 1)) (k := k) (by omega)
    have e1 : loN k = 2 * (lowN (k - 1) : Int) - ((2147483648 * (k - 1) + k - 1) / k : Nat) := if_neg h2
    have e2 : hiN k = 2 * ((lowN (k - 1) : Int) + brokN (k - 1)) - (2147483648 * (k - 1) / k : Nat) := if_neg h2
    rw [hu] at e1 hs
    obtain ⟨L, hL⟩ : ∃ L, lowN (k - 1) = L := ⟨_, rfl⟩
    obtain ⟨B, hB⟩ : ∃ B, brokN (k - 1) = B := ⟨_, rfl⟩
    obtain ⟨q, hq⟩ : ∃ q, 2147483648 * (k - 1) / k = q := ⟨_, rfl⟩
    obtain ⟨r, hr⟩ : ∃ r, 2147483648 * (k - 1) % k = r := ⟨_, rfl⟩
    obtain ⟨S, hS⟩ : ∃ S, 2147483648 * (k - 1) = S := ⟨_, rfl⟩
    have hSb : (S : Int) ≤ 547608330240 := by omega
    have hSi : (2147483648 : Int) * ((k : Int) - 1) = S := by omega
    rw [hS] at hq hr
    have hquo : Int.tdiv (S : Int) (k : Int) = q := by rw [← hq]; rfl
    have hrem : Int.tmod (S : Int) (k : Int) = r := by rw [← hr]; rfl
    rw [hS, hq, hr] at hs
    rw [hL] at hl e1 e2 ⊢
    rw [hB] at hb e2 ⊢
    rw [hS, hq, hr] at e1
    rw [hS, hq] at e2
    rw [e1, e2]
    have hLb : (L : Int) ≤ 274877906944 := by have : (k - 1) * 1073741824 ≤ 256 * 1073741824 := Nat.mul_le_mul_right _ (by omega); omega
    have hBb : (B : Int) ≤ 256 := by omega
    have hqb : (q : Int) ≤ 2147483647 := by omega
    have hk2 : (2 : Int) ≤ k := by omega
    have hkb : (k : Int) ≤ 256 := by omega
    have hk0 : ¬ (k : Int) = 0 := by omega
    clear e1 e2 hL hB hq hr hS hl hb hs hu
    by_cases hr0 : r = 0
    · subst hr0
      rw [Int.natCast_zero] at hrem
      rw [if_pos rfl]
      clear h2 hk
      go_enter Try.func127, Try.ntmps127
      go_wp2_with fail
      go_quiet (fail)
      go_wp2_with fail
      exact bodyPost_ret (v := .tuple #[.int .i64 (2 * (L : Int) - (q : Nat)), .int .i64 (2 * ((L : Int) + B) - q)]) (by simp [results, Try.results127, go_sem]) rfl ⟨by rw [Nat.add_zero], _, rfl⟩
    · have hr1 : (0 : Int) < r := by omega
      rw [if_neg hr0]
      clear h2 hk
      go_enter Try.func127, Try.ntmps127
      go_wp2_with fail
      go_quiet (fail)
      go_wp2_with fail
      exact bodyPost_ret (v := .tuple #[.int .i64 (2 * (L : Int) - ((q : Int) + 1)), .int .i64 (2 * ((L : Int) + B) - q)]) (by simp [results, Try.results127, go_sem]) rfl ⟨by rw [Int.natCast_add]; rfl, _, rfl⟩

theorem hends_any (n : Int) (w : World) : Calls Try.prog 115 #[.int .i64 n] w fun e w' => e = .returned (.tuple #[.int .i64 (loN (heldN n)), .int .i64 (hiN (heldN n))]) ∧ ∃ d, w' = w.drewN d := by
  have h1 := fun W => held_any n W
  have hK := heldN_le n
  obtain ⟨K, hk⟩ : ∃ K, heldN n = K := ⟨_, rfl⟩
  rw [hk] at h1 hK ⊢
  have h2 := fun W => both_any' ((K : Int) - 1) W
  have e : heldN ((K : Int) - 1) = K - 1 := by unfold heldN clampI; repeat' split <;> omega
  rw [e] at h2
  have h3 := fun W => ends_any' K W hK (K - 1) rfl
  have H1 := Lib.hid h1; have H2 := Lib.hid h2; have H3 := Lib.hid h3
  have hKb : (K : Int) ≤ 256 := by omega
  generalize lowN (K - 1) = L at *
  generalize brokN (K - 1) = B at *
  generalize loN K = lo at *
  generalize hiN K = hi at *
  clear h1 h2 h3 hk e hK
  go_enter Try.func115, Try.ntmps115
  go_wp2_with fail
  refine (H1.out _).mono ?_
  rintro e w1 ⟨rfl, rfl⟩
  go_wp2_with fail
  refine (H2.out _).mono ?_
  rintro e w1 ⟨rfl, rfl⟩
  go_wp2_with fail
  refine (H3.out _).mono ?_
  rintro e w1 ⟨rfl, d, rfl⟩
  go_wp2_with fail
  exact bodyPost_ret (v := .tuple #[.int .i64 lo, .int .i64 hi]) (by simp [results, Try.results115, go_sem]) rfl ⟨rfl, _, rfl⟩

theorem norm_bd (n : Int) : 0 ≤ loN (heldN n) + hiN (heldN n) ∧ loN (heldN n) + hiN (heldN n) ≤ 1099511627776 ∧ -4294967296 ≤ loN (heldN n) ∧ loN (heldN n) ≤ 1099511627776 ∧ -4294967296 ≤ hiN (heldN n) ∧ hiN (heldN n) ≤ 1099511627776 := by
  have hK := heldN_le n
  generalize heldN n = k at *
  unfold loN hiN
  by_cases h : k < 2
  · rw [if_pos h, if_pos h]; decide
  · rw [if_neg h, if_neg h]
    have h1 := lowN_ge (k := k - 1) (by omega)
    have h2 := share_le (k := k) (by omega)
    have h3 := lowN_le (k - 1)
    have h4 := brokN_le (k - 1)
    have h5 : (k - 1) * 1073741824 ≤ 255 * 1073741824 := Nat.mul_le_mul_right _ (by omega)
    generalize 2147483648 * (k - 1) / k = a at *
    generalize (2147483648 * (k - 1) + k - 1) / k = b at *
    generalize lowN (k - 1) = c at *
    generalize brokN (k - 1) = d at *
    omega

theorem norm_any (n : Int) (w : World) : Calls Try.prog 105 #[.int .i64 n] w fun e w' => e = .returned (.int .i64 (normI n)) ∧ ∃ d, w' = w.drewN d := by
  have h1 := fun W => hends_any n W
  have hb := norm_bd n
  have e : normI n = (loN (heldN n) + hiN (heldN n)) / 2 := rfl
  rw [e]
  generalize loN (heldN n) = lo at *
  generalize hiN (heldN n) = hi at *
  obtain ⟨b1, b2, b3, b4, b5, b6⟩ := hb
  have H1 := Lib.hid h1
  clear h1 e
  go_enter Try.func105, Try.ntmps105
  go_wp2_with fail
  refine (H1.out _).mono ?_
  rintro e w1 ⟨rfl, d, rfl⟩
  go_wp2_with fail
  go_ret
  exact ⟨rfl, _, rfl⟩
end Go.Proofs.Ytdbonlpkmncggaa

namespace Go.Proofs.Ytdbonlpkmncggaa
open Go.RowKit

/-- How deep a node is, seen from one above. -/
def depT (t : TreeP) : Nat → Nat → Nat → Nat
  | 0, _, _ => 0
  | f + 1, i, j => if j = i then 0 else match t.nodes[i]? with
    | none => 0
    | some n => if (j : Int) < n.right then depT t f (i + 1) j + 1 else depT t f n.right.toNat j + 1

theorem depT_self (t : TreeP) (f i : Nat) : depT t f i i = 0 := by
  cases f with
  | zero => rfl
  | succ f => simp [depT]

theorem depT_left {t : TreeP} {f i j : Nat} {n : NodeP} (hn : t.nodes[i]? = some n) (hj : j ≠ i) (hr : (j : Int) < n.right) : depT t (f + 1) i j = depT t f (i + 1) j + 1 := by
  rw [depT, if_neg hj, hn]; simp [hr]
theorem depT_right {t : TreeP} {f i j : Nat} {n : NodeP} (hn : t.nodes[i]? = some n) (hj : j ≠ i) (hr : ¬ (j : Int) < n.right) : depT t (f + 1) i j = depT t f n.right.toNat j + 1 := by
  rw [depT, if_neg hj, hn]; simp [hr]

theorem Sub.dep {t : TreeP} {i e h : Nat} {s : Int} (q : Sub t i e h s) : ∀ f, h ≤ f → ∀ j, i ≤ j → j < e → depT t f i j = depT t h i j ∧ depT t h i j ≤ h := by
  induction q with
  | @leaf i n hn hl =>
    intro f hf j h1 h2
    obtain rfl : j = i := by omega
    rw [depT_self, depT_self]
    exact ⟨rfl, Nat.le_refl _⟩
  | @node i m e a b x y n hn hl hc q1 hr q2 hs ih1 ih2 =>
    intro f hf j h1 h2
    obtain ⟨f, rfl⟩ : ∃ g, f = g + 1 := ⟨f - 1, by omega⟩
    rw [Nat.add_comm 1 (max a b)]
    have l1 := q1.lt; have l2 := q2.lt
    rcases Nat.lt_or_ge i j with h3 | h3
    · by_cases h4 : j < m
      · rw [depT_left hn (by omega) (by omega), depT_left hn (by omega) (by omega)]
        have g1 := ih1 f (by omega) j (by omega) h4
        have g2 := ih1 (max a b) (by omega) j (by omega) h4
        omega
      · rw [depT_right hn (by omega) (by omega), depT_right hn (by omega) (by omega), show n.right.toNat = m by omega]
        have g1 := ih2 f (by omega) j (by omega) h2
        have g2 := ih2 (max a b) (by omega) j (by omega) h2
        omega
    · obtain rfl : j = i := by omega
      rw [depT_self, depT_self]
      exact ⟨rfl, by omega⟩

/-- Those who come of a node are one deeper, and lie behind it. -/
theorem Sub.kids {t : TreeP} {i e h : Nat} {s : Int} (q : Sub t i e h s) : ∀ k n, i ≤ k → k < e → t.nodes[k]? = some n → leafB n = false →
    ∃ m : Nat, n.left = (k : Int) + 1 ∧ n.right = (m : Int) ∧ k + 1 < m ∧ m < e ∧ depT t h i (k + 1) = depT t h i k + 1 ∧ depT t h i m = depT t h i k + 1 := by
  induction q with
  | @leaf i n hn hl =>
    intro k nk h1 h2 hk hlk
    obtain rfl : k = i := by omega
    rw [hn] at hk
    injection hk with hk
    subst hk
    rw [hl] at hlk
    cases hlk
  | @node i m e a b x y n hn hl hc q1 hr q2 hs ih1 ih2 =>
    intro k nk h1 h2 hk hlk
    have l1 := q1.lt; have l2 := q2.lt
    rw [Nat.add_comm 1 (max a b)]
    rcases Nat.lt_or_ge i k with h3 | h3
    · by_cases h4 : k < m
      · obtain ⟨m', g1, g2, g3, g4, g5, g6⟩ := ih1 k nk (by omega) h4 hk hlk
        refine ⟨m', g1, g2, g3, by omega, ?_, ?_⟩
        · rw [depT_left hn (by omega) (by omega), depT_left hn (by omega) (by omega), (q1.dep _ (Nat.le_max_left a b) _ (by omega) (by omega)).1, (q1.dep _ (Nat.le_max_left a b) _ (by omega) (by omega)).1, g5]
        · rw [depT_left hn (by omega) (by omega), depT_left hn (by omega) (by omega), (q1.dep _ (Nat.le_max_left a b) _ (by omega) (by omega)).1, (q1.dep _ (Nat.le_max_left a b) _ (by omega) (by omega)).1, g6]
      · obtain ⟨m', g1, g2, g3, g4, g5, g6⟩ := ih2 k nk (by omega) h2 hk hlk
        refine ⟨m', g1, g2, g3, g4, ?_, ?_⟩
        · rw [depT_right hn (by omega) (by omega), depT_right hn (by omega) (by omega), show n.right.toNat = m by omega, (q2.dep _ (Nat.le_max_right a b) _ (by omega) (by omega)).1, (q2.dep _ (Nat.le_max_right a b) _ (by omega) (by omega)).1, g5]
        · rw [depT_right hn (by omega) (by omega), depT_right hn (by omega) (by omega), show n.right.toNat = m by omega, (q2.dep _ (Nat.le_max_right a b) _ (by omega) (by omega)).1, (q2.dep _ (Nat.le_max_right a b) _ (by omega) (by omega)).1, g6]
    · obtain rfl : k = i := by omega
      rw [hn] at hk
      injection hk with hk
      subst hk
      refine ⟨m, hl, hr, by omega, by omega, ?_, ?_⟩
      · rw [depT_left hn (by omega) (by omega), depT_self, depT_self]
      · rw [depT_right hn (by omega) (by omega), show n.right.toNat = m by omega, depT_self, depT_self]

/-- Each node but the first comes of one ahead of it. -/
theorem Sub.parent {t : TreeP} {i e h : Nat} {s : Int} (q : Sub t i e h s) : ∀ j, i < j → j < e → ∃ k n, i ≤ k ∧ k < j ∧ t.nodes[k]? = some n ∧ leafB n = false ∧ (n.left = (j : Int) ∨ n.right = (j : Int)) := by
  induction q with
  | @leaf i n hn hl => intro j h1 h2; omega
  | @node i m e a b x y n hn hl hc q1 hr q2 hs ih1 ih2 =>
    intro j h1 h2
    have hlf : leafB n = false := by
      cases h : leafB n with
      | false => rfl
      | true => have := (leafB_is h).1; omega
    rcases Nat.lt_or_ge (i + 1) j with h3 | h3
    · rcases Nat.lt_trichotomy j m with h4 | h4 | h4
      · obtain ⟨k, nk, g1, g2, g3⟩ := ih1 j h3 h4
        exact ⟨k, nk, by omega, g2, g3⟩
      · exact ⟨i, n, by omega, by omega, hn, hlf, .inr (by omega)⟩
      · obtain ⟨k, nk, g1, g2, g3⟩ := ih2 j h4 h2
        exact ⟨k, nk, by have := q1.lt; omega, g2, g3⟩
    · exact ⟨i, n, by omega, by omega, hn, hlf, .inl (by omega)⟩

/-- A node that has no left part is a leaf. -/
theorem Sub.leafAt {t : TreeP} {i e h : Nat} {s : Int} (q : Sub t i e h s) {k : Nat} {n : NodeP} (h1 : i ≤ k) (h2 : k < e) (hk : t.nodes[k]? = some n) : leafB n = decide (n.left = 0) := by
  obtain ⟨e', h', s', q', _⟩ := q.parts k h1 h2
  rcases q'.inv hk with ⟨hl, _⟩ | ⟨m, a, b, x, y, g, _⟩
  · rw [hl]; simp [(leafB_is hl).1]
  · cases hl : leafB n with
    | true => have := (leafB_is hl).1; omega
    | false => simp; omega

def isLeafAt (t : TreeP) (i : Nat) : Bool := match t.nodes[i]? with | some n => leafB n | none => false
/-- The leaves among the first so many nodes, in their order. -/
def leavesT (t : TreeP) (k : Nat) : List Nat := (List.range k).filter (isLeafAt t)
def depOf (t : TreeP) (i : Nat) : Nat := depT t 6 0 i
def sizeOf' (t : TreeP) (i : Nat) : Int := (t.nodes[i]?).elim 0 NodeP.size
def lenOf (t : TreeP) (i : Nat) : Int := (depOf t i : Int) * 1073741824 + normI (sizeOf' t i)
/-- How long the paths to the leaves are, in their order. -/
def lenL (t : TreeP) : List Int := (leavesT t t.nodes.length).map (lenOf t)

theorem leavesT_succ (t : TreeP) (k : Nat) : leavesT t (k + 1) = leavesT t k ++ if isLeafAt t k then [k] else [] := by
  unfold leavesT
  rw [List.range_succ, List.filter_append]
  cases h : isLeafAt t k <;> simp [h]

end Go.Proofs.Ytdbonlpkmncggaa

namespace Go.Proofs.Ytdbonlpkmncggaa
open Go.RowKit

set_option maxHeartbeats 400000 in
theorem same_any (va vb : Value) (la lb : List Int) (w : World) (ha : Ints .i64 w va la) (hb : Ints .i64 w vb lb) :
    Calls Try.prog 19 #[va, vb] w fun e w' => e = .returned (.bool (decide (la = lb))) ∧ ∃ n, w' = w.drewN n := by
  obtain ⟨a, c, rfl, _, _, h3, ha⟩ := ha
  obtain ⟨b, d, rfl, _, _, h3', hb⟩ := hb
  have HA := Lib.hid ha; clear ha
  have HB := Lib.hid hb; clear hb
  obtain ⟨m, hm⟩ : ∃ m, lb.length = m := ⟨_, rfl⟩
  rw [hm] at h3' ⊢
  have HM := Lib.hid hm; clear hm
  by_cases hl : la.length = m
  · obtain rfl := hl
    have hb : ((la.length : Int) != la.length) = false := by simp
    go_enter Try.func19, Try.ntmps19
    go_wp2
    go_loopw [5] (fun i wr => ∃ k : Nat, k ≤ la.length ∧ i = .int .i64 k ∧ (la.take k = lb.take k) ∧ ∃ n, wr = w.drewN n) (fun i _ => la.length - (intOf i).toNat)
    case atStart => exact ⟨0, Nat.zero_le _, rfl, rfl, 0, rfl⟩
    case round =>
      obtain ⟨k, hk, rfl, hpre, n, rfl⟩ := hrel
      have HP := Lib.hid hpre; clear hpre
      by_cases hlt : k < la.length
      · obtain ⟨x, hx⟩ := getElem?_ex hlt
        obtain ⟨y, hy⟩ := getElem?_ex (l := lb) (k := k) (by rw [HM.out]; exact hlt)
        obtain ⟨b1, o1, rfl, hb1, hc1⟩ := HA.out k x hx
        obtain ⟨b2, o2, rfl, hb2, hc2⟩ := HB.out k y hy
        have HX := Lib.hid hx; clear hx
        have HY := Lib.hid hy; clear hy
        go_wp2
        go_quiet (fail)
        go_wp2
        · go_ret
          have hne : (x != y) = true := by assumption
          refine ⟨ret_bool ?_, _, World.drewN_drewN _ _ _⟩
          symm; rw [decide_eq_false_iff_not]; rintro rfl
          have := HX.out.symm.trans HY.out
          simp_all
        · have hne : (x != y) = false := by assumption
          have : x = y := by simpa using hne
          subst this
          go_roundw
          case rel => exact ⟨k + 1, by omega, by go_num, take_step HX.out HY.out HP.out, _, rfl⟩
          case measure => simp [intOf] <;> omega
      · go_wp2
        go_ret
        refine ⟨ret_bool ?_, _, rfl⟩
        have hp := HP.out
        rw [List.take_of_length_le (by omega), List.take_of_length_le (by rw [HM.out]; omega)] at hp
        simp [hp]
  · have hb : ((la.length : Int) != m) = true := by simp; omega
    go_enter Try.func19, Try.ntmps19
    go_wp2
    go_ret
    refine ⟨ret_bool ?_, 0, rfl⟩
    symm; rw [decide_eq_false_iff_not]; rintro rfl
    exact hl HM.out
end Go.Proofs.Ytdbonlpkmncggaa

namespace Go.Proofs.Ytdbonlpkmncggaa
open Go.RowKit

/-- The cells of a block that is a plain row. -/
def RowAt (w : World) (g : Nat) (e : TypeId) (cur : Array Value) : Prop := w.heap[g]? = some (.cells cur e (0, 0))

theorem RowAt.lt {w : World} {g : Nat} {e : TypeId} {cur : Array Value} (h : RowAt w g e cur) : g < w.heap.size := (Array.getElem?_eq_some_iff.1 h).1

theorem RowAt.cell {w : World} {g : Nat} {e : TypeId} {cur : Array Value} (h : RowAt w g e cur) (o : Nat) : w.cell? ⟨g, o, none⟩ = cur[o]? := by
  unfold RowAt at h
  simp [World.cell?, h]

theorem RowAt.frozen {w : World} {g : Nat} {e : TypeId} {cur : Array Value} (h : RowAt w g e cur) (o : Nat) : w.frozen? ⟨g, o, none⟩ = false := by
  unfold RowAt at h
  simp [World.frozen?, h]

theorem RowAt.shape {w : World} {g : Nat} {e : TypeId} {cur : Array Value} (h : RowAt w g e cur) : w.shape? g = some (e, cur.size) := by
  unfold RowAt at h
  simp [World.shape?, h]

theorem RowAt.set {w : World} {g : Nat} {e : TypeId} {cur : Array Value} (h : RowAt w g e cur) (o : Nat) (v : Value) : RowAt (w.setCell ⟨g, o, none⟩ v) g e (cur.setIfInBounds o v) := by
  unfold RowAt at h ⊢
  simp [World.setCell, Array.getElem?_modify, h]

theorem own_rowAt {w : World} {base e size n : Nat} {g o cap : Nat} {s : Option _} {xs : List Value} (h : w.ownsRow base e size (.slice (some ⟨g, o, s⟩) n cap) n xs) :
    ∃ cur, o = 0 ∧ s = none ∧ base ≤ g ∧ RowAt w g e cur ∧ n ≤ cap ∧ cap ≤ maxLen ∧ cur.size = cap * size ∧ cur.toList.take (n * size) = xs := by
  rcases h.2 with ⟨h1, _⟩ | ⟨g', cap', cur, h1, h2, h3, h4, h5, h6, h7⟩
  · cases h1
  · injection h1 with h1 _ hc
    injection h1 with h1
    injection h1 with e1 e2 e3
    subst e1 e2 e3 hc
    exact ⟨cur, rfl, rfl, h2, h3, h4, h5, h6, h7⟩

theorem rowAt_own {w : World} {base e size n g cap : Nat} {cur : Array Value} {xs : List Value} (hb : base ≤ g) (h : RowAt w g e cur) (h1 : n ≤ cap) (h2 : cap ≤ maxLen) (h3 : cur.size = cap * size) (h4 : cur.toList.take (n * size) = xs) :
    w.ownsRow base e size (.slice (some ⟨g, 0, none⟩) n cap) n xs := by
  refine ⟨?_, .inr ⟨g, cap, cur, rfl, hb, h, h1, h2, h3, h4⟩⟩
  rw [← h4, List.length_take, Array.length_toList, h3]
  exact Nat.min_eq_left (Nat.mul_le_mul_right _ h1)
end Go.Proofs.Ytdbonlpkmncggaa

namespace Go.Proofs.Ytdbonlpkmncggaa
open Go.RowKit

/-- From the world a to the world m no block of a has changed. -/
def Since (a m : World) : Prop := Below a.heap.size a m

theorem Since.below {a m w : World} (h : Since a m) (k : Below m.heap.size m w) : Since a w := Bc h k h.size

theorem Since.own {a m w : World} (h : Since a m) (k : Below a.heap.size m w) : Since a w := Bc h k (Nat.le_refl _)

theorem lexTk {P : Program} {md : Region.Mode} {ops : Array Oper} {Q : Exit → Act → World → Prop} {S : World → Prop} (i : Nat) {oi : Oper} {v : Value} {fuel : Nat} {listed : Array Bool} {a : Act} {w : World} (hi : ops.toList[i]? = some oi)
    (hS : S w) (h : wpAnyH P md ops Q S fuel (listed.setIfInBounds i true) (a.put oi.dst v) w) (hB : (Region.noSelect ops && Region.free md ops listed i && (Region.ready md ops listed).contains i) = true) (hQ : ∀ c a w, Q (.panic c) (a.put oi.dst v) w → Q (.panic c) a w)
    (hw : Region.wanted oi (yielded ops a.tmps) = true) (hy : ∀ w, S w → (execOp a.eval oi).run P w = .ok (.value v) w) : wpAnyH P md ops Q S (fuel + 1) listed a w := by
  simp only [Bool.and_eq_true] at hB
  exact wpAnyH_take (by simpa using hi) hB.1.1 hB.1.2 hB.2 hQ (Or.inl ⟨hw, hy⟩) hS h

theorem lexSk {P : Program} {md : Region.Mode} {ops : Array Oper} {Q : Exit → Act → World → Prop} {S : World → Prop} (i : Nat) {oi : Oper} {fuel : Nat} {listed : Array Bool} {a : Act} {w : World} (hi : ops.toList[i]? = some oi)
    (hS : S w) (h : wpAnyH P md ops Q S fuel (listed.setIfInBounds i true) (a.put oi.dst undef) w) (hB : (Region.noSelect ops && Region.free md ops listed i && (Region.ready md ops listed).contains i) = true) (hQ : ∀ c a w, Q (.panic c) (a.put oi.dst undef) w → Q (.panic c) a w)
    (hw : Region.wanted oi (yielded ops a.tmps) = false) : wpAnyH P md ops Q S (fuel + 1) listed a w := by
  simp only [Bool.and_eq_true] at hB
  exact wpAnyH_take (by simpa using hi) hB.1.1 hB.1.2 hB.2 hQ (Or.inr ⟨hw, rfl⟩) hS h

theorem lexHv {P : Program} {md : Region.Mode} {ops : Array Oper} {Q : Exit → Act → World → Prop} {S : World → Prop} (i : Nat) {o : Oper} {fuel : Nat} {listed : Array Bool} {a : Act} {w : World} (hi : ops.toList[i]? = some o)
    (h : ∀ K' : Act → World → Prop, Shut (∀ a w, S w → (S w → wpAnyH P md ops Q S fuel (listed.setIfInBounds i true) a w) → K' a w) → if Region.wanted o (yielded ops a.tmps) = true then Oper.wp P o a w K' Q else K' (a.put o.dst undef) w)
    (hr : Region.ready md ops listed = [i]) : wpAnyH P md ops Q S (fuel + 1) listed a w :=
  wpAnyH_ready hr (by simp) (AllReadyH.cons (by simpa using hi) h AllReadyH.nil)

theorem lexHv2 {P : Program} {md : Region.Mode} {ops : Array Oper} {Q : Exit → Act → World → Prop} {S : World → Prop} (i j : Nat) {o o' : Oper} {fuel : Nat} {listed : Array Bool} {a : Act} {w : World} (hi : ops.toList[i]? = some o) (hj : ops.toList[j]? = some o')
    (h : ∀ K' : Act → World → Prop, Shut (∀ a w, S w → (S w → wpAnyH P md ops Q S fuel (listed.setIfInBounds i true) a w) → K' a w) → if Region.wanted o (yielded ops a.tmps) = true then Oper.wp P o a w K' Q else K' (a.put o.dst undef) w)
    (h' : ∀ K' : Act → World → Prop, Shut (∀ a w, S w → (S w → wpAnyH P md ops Q S fuel (listed.setIfInBounds j true) a w) → K' a w) → if Region.wanted o' (yielded ops a.tmps) = true then Oper.wp P o' a w K' Q else K' (a.put o'.dst undef) w)
    (hr : Region.ready md ops listed = [i, j]) : wpAnyH P md ops Q S (fuel + 1) listed a w :=
  wpAnyH_ready hr (by simp) (AllReadyH.cons (by simpa using hi) h (AllReadyH.cons (by simpa using hj) h' AllReadyH.nil))
end Go.Proofs.Ytdbonlpkmncggaa

namespace Go.Proofs.Ytdbonlpkmncggaa
open Go.RowKit

theorem own_at {w w' : World} {base e size n : Nat} {v : Value} {xs : List Value} (h : w.ownsRow base e size v n xs) (hk : ∀ g, v.ownBlock = some g → w'.heap[g]? = w.heap[g]?) : w'.ownsRow base e size v n xs := by
  refine ⟨h.1, ?_⟩
  rcases h.2 with h1 | ⟨g, cap, cur, rfl, h2, h3, h4⟩
  · exact .inl h1
  · exact .inr ⟨g, cap, cur, rfl, h2, (hk g rfl).trans h3, h4⟩

theorem own_lt {w : World} {base e size n : Nat} {v : Value} {xs : List Value} (h : w.ownsRow base e size v n xs) {g : Nat} (hg : v.ownBlock = some g) : g < w.heap.size := by
  rcases h.2 with ⟨rfl, _⟩ | ⟨g', cap, cur, rfl, _, h3, _⟩
  · cases hg
  · injection hg with hg
    subst hg
    exact (Array.getElem?_eq_some_iff.1 h3).1

/-- Only blocks of F have changed, or are new. -/
structure OnlyIn (F : List Nat) (w w' : World) : Prop where
  os : w'.os = w.os
  tape : w'.tape = w.tape
  output : w'.output = w.output
  size : w.heap.size ≤ w'.heap.size
  block : ∀ b, b < w.heap.size → b ∉ F → w'.heap[b]? = w.heap[b]?

theorem OnlyIn.refl (F : List Nat) (w : World) : OnlyIn F w w := ⟨rfl, rfl, rfl, Nat.le_refl _, fun _ _ _ => rfl⟩

theorem OnlyIn.trans {F F' : List Nat} {w w1 w2 : World} (h : OnlyIn F w w1) (k : OnlyIn F' w1 w2) (hF : ∀ b, b ∈ F' → b ∈ F ∨ w.heap.size ≤ b) : OnlyIn F w w2 :=
  ⟨k.os.trans h.os, k.tape.trans h.tape, k.output.trans h.output, Nat.le_trans h.size k.size, fun b hb hn =>
    (k.block b (Nat.lt_of_lt_of_le hb h.size) fun hbF => by rcases hF b hbF with h1 | h1; exact hn h1; omega).trans (h.block b hb hn)⟩

theorem OnlyIn.set {F : List Nat} {w : World} (b o : Nat) (u : Value) (hb : b ∈ F) : OnlyIn F w (w.setCell ⟨b, o, none⟩ u) :=
  ⟨rfl, rfl, rfl, by simp, fun c _ hn => Below.heap_setCell _ _ _ _ (fun e => hn (by rw [e]; exact hb))⟩

theorem OnlyIn.below {F : List Nat} {w w' : World} {B : Nat} (h : OnlyIn F w w') (hF : ∀ b, b ∈ F → B ≤ b) (hB : B ≤ w.heap.size) : Below B w w' :=
  ⟨h.os, h.tape, h.output, h.size, fun b hb => h.block b (by omega) fun hbF => by have := hF b hbF; omega⟩

theorem OnlyIn.mono {F F' : List Nat} {w w' : World} (h : OnlyIn F w w') (hF : ∀ b, b ∈ F → b ∈ F') : OnlyIn F' w w' := ⟨h.os, h.tape, h.output, h.size, fun b hb hn => h.block b hb fun e => hn (hF b e)⟩

/-- make of a row with spare room. -/
theorem mkcap {P : Program} {w : World} {ops : Array Oper} {rest : List Oper} {o : Oper} {a : Act} {Q : Exit → Act → World → Prop}
    (hg : o.guard = none) (l c : Operand) (t : TypeId) (hop : o.op = Op.makeSlice t l c) {e : TypeId} {z : Value} {size bytes : Nat} (ht : P.underlying t = some (.slice e)) (hE : EI P e z size bytes)
    (L C : Nat) {kl kc : IntKind} {l0 c0 : Int} (hl : a.eval l = .int kl l0) (hc : a.eval c = .int kc c0) (hl0 : l0 = (L : Int)) (hc0 : c0 = (C : Int)) (hLC : L ≤ C) (b2 : bytes * C ≤ 140737488355328)
    (hK : ∀ w' cur, RowAt w' w.heap.size e cur → cur.size = C * size → Below w.heap.size w w' → w'.heap.size = w.heap.size + 1 → wpList P ops Q rest (a.put o.dst (.slice (some ⟨w.heap.size, 0, none⟩) L C)) w') :
    wpList P ops Q (o :: rest) a w := by
  obtain ⟨i, hi, hz, hsize, hby, hzs, hsz, hbp⟩ := hE
  have h63 : C ≤ 140737488355328 := Nat.le_trans (Nat.le_mul_of_pos_left _ hbp) b2
  subst hl0 hc0
  have hb' : (i.bytes : Int) * (C : Int) ≤ 281474976710656 := by
    have h : ((i.bytes * C : Nat) : Int) ≤ 281474976710656 := by rw [hby]; omega
    rwa [Int.natCast_mul] at h
  have hr := run_make (P := P) w t e i z ht hi hz kl kc L C (by omega) (by omega) hb' (by omega)
  simp only [Int.toNat_natCast] at hr
  refine wpList_plain hg fun K hK' => ?_
  unfold Oper.wp
  simp only [execOp, hop, hl, hc, Sem.run_bind, hr, Result.andThen_ok, Sem.run_pure]
  exact hK' _ _ (hK _ _ (heap_alloc_new w _) (by rw [size_madeCells, hsize]) ((Below.refl _ _).alloc (Nat.le_refl _) _) (by simp))

end Go.Proofs.Ytdbonlpkmncggaa

namespace Go.Proofs.Ytdbonlpkmncggaa
open Go.RowKit

def intF (l : List Int) : List Value := l.map (Value.int .i64)

theorem intF_len (l : List Int) : (intF l).length = l.length := by simp [intF]

theorem intF_append (a b : List Int) : intF (a ++ b) = intF a ++ intF b := by simp [intF]

theorem intF_one {l : List Int} {u : Value} (h : u ∈ intF l) : u.oneCell' = true := by
  obtain ⟨x, _, rfl⟩ := List.mem_map.1 h
  rfl

/-- A row's block is as it was, or new. -/
def NewB (W : World) (v v' : Value) : Prop := v'.ownBlock = v.ownBlock ∨ ∃ b, v'.ownBlock = some b ∧ W.heap.size ≤ b

set_option maxRecDepth 100000 in
theorem run_appI (base : Nat) (v : Value) (l l2 : List Int) (W : World) (vx : Value) (hown : W.ownsRow base 3 1 v l.length (intF l)) (hl : Ints .i64 W vx l2) (hb : l.length + l2.length ≤ 1000000) (hbase : base ≤ W.heap.size) (ty : TypeId) :
    ∃ v' w', (Builtin.append_ #[27, 27] ty #[v, vx]).run Try.prog W = .ok v' w' ∧ w'.ownsRow base 3 1 v' (l ++ l2).length (intF (l ++ l2)) ∧ W.grownBy w' v.ownBlock ∧ NewB W v v' := by
  obtain ⟨i, hi, hz, hsize, hby, hzs, hsz, _⟩ := eiInt
  obtain ⟨ad, c, rfl, g1, g2, g3, h4⟩ := hl
  rcases ad with _ | ad
  · have hl0 : l2 = [] := by
      cases l2 with
      | nil => rfl
      | cons x l2 => obtain ⟨b, o, e, _⟩ := h4 0 x rfl; cases e
    subst hl0
    have hrun : (Builtin.append_ #[27, 27] ty #[v, .slice none 0 c]).run Try.prog W = .ok v W := by
      rcases hown.2 with ⟨rfl, h0⟩ | ⟨g, cap, cur, rfl, _, _, hnc, _⟩
      · simp [Builtin.append_, run_underlying Try.underlying27, sizeOf, typeInfo, hi, Builtin.lenOf, Builtin.firstCells]
      · simp [Builtin.append_, run_underlying Try.underlying27, sizeOf, typeInfo, hi, Builtin.lenOf, Builtin.firstCells, hnc, storeCells]
    exact ⟨v, W, hrun, by simpa using hown, ⟨rfl, rfl, rfl, Nat.le_refl _, fun _ _ _ => rfl⟩, .inl rfl⟩
  · obtain ⟨v', w', hrun, h2, h3, _, h5⟩ := run_append_own_at (P := Try.prog) W base 27 ty 3 i _ 1 8 Try.underlying27 hi hz hsize hby hzs hsz v l.length (intF l) hown ad l2.length c (intF l2) (by rw [intF_len, Nat.mul_one]) (by
      intro j u hu
      rw [intF, List.getElem?_map] at hu
      cases hy : l2[j]? with
      | none => rw [hy] at hu; cases hu
      | some y =>
        rw [hy] at hu
        obtain ⟨b, o, e, _, hc⟩ := h4 j y hy
        injection e with e
        subst e
        rw [Addr.add_lit, hc]
        simpa using hu) (fun u hu => intF_one hu) (by unfold maxLen; omega) (by omega) hbase
    refine ⟨v', w', hrun, ?_, h3, ?_⟩
    · rw [List.length_append, intF_append]
      exact h2
    · rcases h5 with h | h
      · exact .inl h
      · exact .inr ⟨_, h, Nat.le_refl _⟩

/-- Append of a list of integers. -/
theorem appI {ops : Array Oper} {rest : List Oper} {o : Oper} {a : Act} {Q : Exit → Act → World → Prop} (hgd : o.guard = none) (s x : Operand)
    (ho : o.op = .call { callee := .builtin .append, args := #[s, x], argTypes := #[27, 27] })
    (base : Nat) {v : Value} {l l2 : List Int} {W : World} {vx : Value} (hs : a.eval s = v) (hown : W.ownsRow base 3 1 v l.length (intF l)) (hx : a.eval x = vx) (hl : Ints .i64 W vx l2) (hb : l.length + l2.length ≤ 1000000) (hbase : base ≤ W.heap.size)
    (h : ∀ v' w', w'.ownsRow base 3 1 v' (l ++ l2).length (intF (l ++ l2)) → W.grownBy w' v.ownBlock → NewB W v v' → wpList Try.prog ops Q rest (a.put o.dst v') w') : wpList Try.prog ops Q (o :: rest) a W := by
  obtain ⟨v', w', hrun, h2, h3, h4⟩ := run_appI base v l l2 W vx hown hl hb hbase o.type
  refine wpList_plain hgd fun K hK => ?_
  unfold Oper.wp execOp
  simp only [ho, resolve, invoke, builtin, Sem.run_bind, Sem.run_pure, Result.andThen_ok, List.map_toArray, List.map_cons, List.map_nil, hs, hx, hrun]
  exact hK _ _ (h v' w' h2 h3 h4)

/-- The same, at a step of a region that draws its order. -/
theorem appI_step {ops : Array Oper} {o : Oper} {a : Act} {K : Act → World → Prop} {Q : Exit → Act → World → Prop} {E : Prop} (hgd : o.guard = none) (s x : Operand)
    (ho : o.op = .call { callee := .builtin .append, args := #[s, x], argTypes := #[27, 27] })
    (base : Nat) {v : Value} {l l2 : List Int} {W : World} {vx : Value} (hs : a.eval s = v) (hown : W.ownsRow base 3 1 v l.length (intF l)) (hx : a.eval x = vx) (hl : Ints .i64 W vx l2) (hb : l.length + l2.length ≤ 1000000) (hbase : base ≤ W.heap.size)
    (h : ∀ v' w', w'.ownsRow base 3 1 v' (l ++ l2).length (intF (l ++ l2)) → W.grownBy w' v.ownBlock → NewB W v v' → K (a.put o.dst v') w') : if Region.wanted o (yielded ops a.tmps) = true then o.wp Try.prog a W K Q else E := by
  have hw : Region.wanted o (yielded ops a.tmps) = true := by unfold Region.wanted; rw [hgd]
  rw [if_pos hw]
  obtain ⟨v', w', hrun, h2, h3, h4⟩ := run_appI base v l l2 W vx hown hl hb hbase o.type
  unfold Oper.wp execOp
  simp only [ho, resolve, invoke, builtin, Sem.run_bind, Sem.run_pure, Result.andThen_ok, List.map_toArray, List.map_cons, List.map_nil, hs, hx, hrun]
  exact h v' w' h2 h3 h4

theorem own_shape {w : World} {base e size n : Nat} {v : Value} {xs : List Value} (h : w.ownsRow base e size v n xs) : ∃ a m c, v = .slice a m c := by
  rcases h.2 with ⟨rfl, _⟩ | ⟨g, cap, _, rfl, _⟩
  · exact ⟨_, _, _, rfl⟩
  · exact ⟨_, _, _, rfl⟩

theorem gcell {W w' : World} {r : Option Nat} (g : W.grownBy w' r) {b o : Nat} (hb : b < W.heap.size) (hne : r ≠ some b) : w'.cell? ⟨b, o, none⟩ = W.cell? ⟨b, o, none⟩ := World.cell?_of_block (a := ⟨b, o, none⟩) (g.block b hb fun e => hne e.symm)

theorem gfroz {W w' : World} {r : Option Nat} (g : W.grownBy w' r) {b o : Nat} (hb : b < W.heap.size) (hne : r ≠ some b) : w'.frozen? ⟨b, o, none⟩ = W.frozen? ⟨b, o, none⟩ := World.frozen?_of_block (a := ⟨b, o, none⟩) (g.block b hb fun e => hne e.symm)

theorem row_new {W : World} {b : Nat} {T : TypeId} {cs : Array Value} (hb : b = W.heap.size) : RowAt (W.alloc (.cells cs T)) b T cs := by
  subst hb
  exact heap_alloc_new W _

theorem eiNode : EI Try.prog 85 (.agg #[.slice none 0 0, .int .i64 0, .int .i64 0, .int .i64 0, .int .i64 0]) 5 56 := .of (by kernel_rfl) rfl (by decide) (by decide)

/-- Append of one element onto a row of the call's own; where the new row lies. -/
theorem app1N {P : Program} {ops : Array Oper} {rest : List Oper} {o : Oper} {a : Act} {Q : Exit → Act → World → Prop} (hgd : o.guard = none) (s x : Operand) (t : TypeId)
    (ho : o.op = .call { callee := .builtin .append, args := #[s, x], argTypes := #[t, t] })
    {e : TypeId} {z : Value} {size bytes : Nat} (ht : P.underlying t = some (.slice e)) (hE : EI P e z size bytes)
    (base : Nat) {v : Value} {n : Nat} {xs : List Value} {W : World} {cs : Array Value} {T : TypeId} {C : Nat} (hs : a.eval s = v) (hown : W.ownsRow base e size v n xs)
    {b : Nat} (hx : a.eval x = .slice (some ⟨b, 0, none⟩) 1 C) (hbk : b = W.heap.size) (hcs : cs.size = size) (h1 : ∀ u ∈ cs.toList, u.oneCell' = true)
    (hbytes : (n + 1) * bytes ≤ 140737488355328) (hbase : base ≤ W.heap.size)
    (h : ∀ v' w', w'.ownsRow base e size v' (n + 1) (xs ++ cs.toList) → W.grownBy w' v.ownBlock → NewB W v v' → wpList P ops Q rest (a.put o.dst v') w') :
    wpList P ops Q (o :: rest) a (W.alloc (.cells cs T)) := by
  subst hbk
  obtain ⟨i, hi, hz, hsize, hby, hzs, hsz, hbp⟩ := hE
  have h63 : n + 1 ≤ 140737488355328 := Nat.le_trans (Nat.le_mul_of_pos_right _ hbp) hbytes
  refine wpList_append_own_at _ hgd s x t ho base e i z size bytes ht hi hz hsize hby hzs hsz v n xs hs (hown.alloc _) ⟨W.heap.size, 0, none⟩ 1 C cs.toList hx (by simp [hcs]) ?_ h1 (by unfold maxLen; omega) hbytes (by simp; omega) ?_
  · intro j u hu
    have hadd : (⟨W.heap.size, 0, none⟩ : Addr).add j = ⟨W.heap.size, j, none⟩ := by unfold Addr.add; split <;> simp_all
    rw [hadd]
    have hb := heap_alloc_new W (.cells cs T)
    simp only [World.cell?, hb]
    simpa using hu
  · intro v' w' hown' hg _ h5
    refine h v' w' hown' ?_ ?_
    · exact ⟨hg.os, hg.tape, hg.output, by have := hg.size; simp at this; omega, fun k hk hn => (hg.block k (by simp; omega) hn).trans ((Ba (B := W.heap.size) (Below.refl _ W)).block k hk)⟩
    · rcases h5 with h | h
      · exact .inl h
      · exact .inr ⟨_, h, by simp⟩

def rowN (p : NodeP × Value) : List Value := [p.2, .int .i64 p.1.at_, .int .i64 p.1.left, .int .i64 p.1.right, .int .i64 p.1.size]

theorem rowN_at : ∀ (ps : List (NodeP × Value)) (i : Nat) (p : NodeP × Value), ps[i]? = some p → (ps.flatMap rowN)[i * 5]? = some p.2 ∧ (ps.flatMap rowN)[i * 5 + 1]? = some (.int .i64 p.1.at_) ∧ (ps.flatMap rowN)[i * 5 + 2]? = some (.int .i64 p.1.left) ∧ (ps.flatMap rowN)[i * 5 + 3]? = some (.int .i64 p.1.right) ∧ (ps.flatMap rowN)[i * 5 + 4]? = some (.int .i64 p.1.size)
  | [], i, p, h => by simp at h
  | q :: ps, 0, p, h => by
    obtain rfl : q = p := by simpa using h
    exact ⟨rfl, rfl, rfl, rfl, rfl⟩
  | q :: ps, i + 1, p, h => by
    have := rowN_at ps i p (by simpa using h)
    rw [List.flatMap_cons]
    have e1 : (i + 1) * 5 = i * 5 + 1 + 1 + 1 + 1 + 1 := by omega
    rw [e1]
    exact this

theorem own_nodes {w : World} {base e n : Nat} {v : Value} {ps : List (NodeP × Value)} (h : w.ownsRow base e 5 v n (ps.flatMap rowN)) (hn : n = ps.length) (hs : n ≤ 100000)
    (hp : ∀ p ∈ ps, Ints .i64 w p.2 p.1.coef) : NodesR w v (ps.map (·.1)) := by
  subst hn
  rcases h.2 with ⟨rfl, h0⟩ | ⟨g, cap, cur, rfl, hb, hg, h1, h2, h3, h4⟩
  · have : ps = [] := List.eq_nil_of_length_eq_zero h0
    subst this
    exact ⟨none, 0, rfl, by simp, by omega, by simp, fun i x hi => by simp at hi⟩
  · refine ⟨some ⟨g, 0, none⟩, cap, by rw [List.length_map], by rw [List.length_map]; exact h1, by simpa [maxLen] using h2, by rw [List.length_map]; omega, fun i t hi => ?_⟩
    rw [List.getElem?_map] at hi
    cases hpi : ps[i]? with
    | none => rw [hpi] at hi; cases hi
    | some p =>
      rw [hpi] at hi
      obtain rfl : p.1 = t := by simpa using hi
      have hlt : i < ps.length := (List.getElem?_eq_some_iff.1 hpi).1
      obtain ⟨r0, r1, r2, r3, r4⟩ := rowN_at ps i p hpi
      have c0 := (h.cellAt (i * 5) (by omega)).trans r0
      have c1 := (h.cellAt (i * 5 + 1) (by omega)).trans r1
      have c2 := (h.cellAt (i * 5 + 2) (by omega)).trans r2
      have c3 := (h.cellAt (i * 5 + 3) (by omega)).trans r3
      have c4 := (h.cellAt (i * 5 + 4) (by omega)).trans r4
      exact ⟨g, 0, rfl, (Array.getElem?_eq_some_iff.1 hg).1, p.2, hp p (List.mem_of_getElem? hpi), by rw [Nat.zero_add]; exact c0, by rw [Nat.zero_add]; exact c1, by rw [Nat.zero_add]; exact c2, by rw [Nat.zero_add]; exact c3, by rw [Nat.zero_add]; exact c4⟩

def AtB (v : Value) (g : Nat) : Prop := ∃ o n c, v = .slice (some ⟨g, o, none⟩) n c

theorem own_some2 {w : World} {base e size n : Nat} {v : Value} {xs : List Value} (h : w.ownsRow base e size v n xs) (h0 : 1 ≤ n) : ∃ g c, v = .slice (some ⟨g, 0, none⟩) n c ∧ base ≤ g ∧ g < w.heap.size := by
  rcases h.2 with ⟨_, e⟩ | ⟨g, cap, cur, rfl, hb, hrow, _⟩
  · omega
  · exact ⟨g, cap, rfl, hb, (Array.getElem?_eq_some_iff.1 hrow).1⟩

end Go.Proofs.Ytdbonlpkmncggaa

namespace Go.Proofs.Ytdbonlpkmncggaa
open Go.RowKit

/-- What stands behind a forced head: a walk that only reads. -/
inductive CalmNext (P : Program) (ops : Array Oper) (Q : Exit → Act → World → Prop) (l : List Oper) : Exit → Act → World → Prop
  | normal {a : Act} {w : World} : wpQuiet P ops (fun w' => ∃ n, w' = w.drewN n) (fun a' => ∀ w', (∃ n, w' = w.drewN n) → Q .normal a' w') l a → CalmNext P ops Q l .normal a w
  | other {e : Exit} {a : Act} {w : World} : e ≠ .normal → Q e a w → CalmNext P ops Q l e a w

theorem wpAny_of_head_calm {P : Program} {md : Region.Mode} {ops : Array Oper} {Q : Exit → Act → World → Prop} {rest : List Oper} (hs : Region.noSelect ops = true) (m : Nat) (hrest : ∀ j, rest[j]? = ops[m + j]?) :
    ∀ (l : List Oper) (k : Nat) (listed : Array Bool) (a : Act) (w : World), k + l.length = m → (∀ j, j < l.length → l[j]? = ops[k + j]?) → headB md ops l.length k listed = true →
      Region.lexFrom md ops rest.length m (markB l.length k listed) = true → wpList P ops (CalmNext P ops Q rest) l a w → wpAny P md ops Q (l.length + rest.length) listed a w
  | [], k, listed, a, w, hk, _, _, hlex, h => by
    rw [List.length_nil, Nat.zero_add]
    refine wpAny_of_quiet (C := fun w' => ∃ n, w' = w.drewN n) (Q := fun a' => ∀ w', (∃ n, w' = w.drewN n) → Q .normal a' w') (fun _ w' hw' h => h w' hw') _ _ _ _ ⟨0, rfl⟩ ?_
    have h' : CalmNext P ops Q rest .normal a w := h
    cases h' with
    | normal h' => exact wpAnyQ_lex hs rest m listed a hrest hlex h'
    | other hne _ => exact absurd rfl hne
  | o :: l, k, listed, a, w, hk, hl, hB, hlex, h => by
    have h0 : ops[k]? = some o := by have := hl 0 (by simp); simpa using this.symm
    simp only [List.length_cons, headB, Bool.and_eq_true, decide_eq_true_eq] at hB
    rw [List.length_cons, show l.length + 1 + rest.length = l.length + rest.length + 1 by omega]
    refine ⟨fun h1 => (by rw [hB.1] at h1; cases h1), fun i hi => ?_⟩
    rw [hB.1] at hi
    obtain rfl : i = k := by simpa using hi
    have hq : ∀ e a w, e ≠ .normal → CalmNext P ops Q rest e a w → Q e a w := fun e a w he hh => by
      cases hh with
      | normal _ => exact absurd rfl he
      | other _ h => exact h
    have hw : wpOp P ops Q i (wpList P ops (CalmNext P ops Q rest) l) a w := by
      unfold wpList at h
      unfold wpOp
      simp only [h0]
      split
      · rename_i hwant
        rw [if_pos hwant] at h
        rcases h with h | ⟨h1, a', w', h2⟩
        · exact .inl (wp_q hq h)
        · exact .inr ⟨h1, a', w', hq _ _ _ (by simp) h2⟩
      · rename_i hwant
        rw [if_neg hwant] at h
        exact h
    exact wpOp_mono (fun a' w' h' => wpAny_of_head_calm hs m hrest l (i + 1) _ a' w' (by simp at hk; omega) (fun j hj => by have := hl (j + 1) (by simp; omega); simpa [Nat.add_assoc, Nat.add_comm 1 j] using this) hB.2 hlex h') hw

/-- The same behind three operations that look at no memory (a value, an index, an address). -/
theorem wp_region_free_head_quiet {P : Program} {id : Nat} {Q : Exit → Act → World → Prop} {a : Act} {w : World} {o0 o1 o2 : Oper} {l : List Oper} (v0 v1 v2 : Value) (n : Nat) (hm : P.follows .mixedOrders = true)
    (hs : Region.noSelect (o0 :: o1 :: o2 :: l).toArray = true)
    (hf0 : (Region.free .any (o0 :: o1 :: o2 :: l).toArray (Array.replicate (l.length + 3) false) 0 && (Region.ready .any (o0 :: o1 :: o2 :: l).toArray (Array.replicate (l.length + 3) false)).contains 0) = true)
    (hf1 : (Region.free .any (o0 :: o1 :: o2 :: l).toArray ((Array.replicate (l.length + 3) false).setIfInBounds 0 true) 1 && (Region.ready .any (o0 :: o1 :: o2 :: l).toArray ((Array.replicate (l.length + 3) false).setIfInBounds 0 true)).contains 1) = true)
    (hf2 : (Region.free .any (o0 :: o1 :: o2 :: l).toArray (((Array.replicate (l.length + 3) false).setIfInBounds 0 true).setIfInBounds 1 true) 2 && (Region.ready .any (o0 :: o1 :: o2 :: l).toArray (((Array.replicate (l.length + 3) false).setIfInBounds 0 true).setIfInBounds 1 true)).contains 2) = true)
    (hn : n ≤ l.length)
    (hB : (headB .any (o0 :: o1 :: o2 :: l).toArray n 3 ((((Array.replicate (l.length + 3) false).setIfInBounds 0 true).setIfInBounds 1 true).setIfInBounds 2 true) &&
      Region.lexFrom .any (o0 :: o1 :: o2 :: l).toArray (l.length - n) (3 + n) (markB n 3 ((((Array.replicate (l.length + 3) false).setIfInBounds 0 true).setIfInBounds 1 true).setIfInBounds 2 true))) = true)
    (hQ0 : ∀ c a w, Q (.panic c) (a.put o0.dst v0) w → Q (.panic c) a w) (hQ1 : ∀ c a w, Q (.panic c) (a.put o1.dst v1) w → Q (.panic c) a w) (hQ2 : ∀ c a w, Q (.panic c) (a.put o2.dst v2) w → Q (.panic c) a w)
    (hy0 : Yields P (o0 :: o1 :: o2 :: l).toArray o0 v0 a) (hy1 : Yields P (o0 :: o1 :: o2 :: l).toArray o1 v1 (a.put o0.dst v0)) (hy2 : Yields P (o0 :: o1 :: o2 :: l).toArray o2 v2 ((a.put o0.dst v0).put o1.dst v1))
    (h : wpList P (o0 :: o1 :: o2 :: l).toArray (CalmNext P (o0 :: o1 :: o2 :: l).toArray Q (l.drop n)) (l.take n) (((a.put o0.dst v0).put o1.dst v1).put o2.dst v2) w.drew) : (Code.region id (o0 :: o1 :: o2 :: l).toArray true).wp P Q a w := by
  simp only [Bool.and_eq_true] at hf0 hf1 hf2 hB
  refine wp_region_any hm ?_
  rw [show (o0 :: o1 :: o2 :: l).toArray.size = l.length + 3 by simp]
  refine wpAny_take (i := 0) (v := v0) rfl hs hf0.1 hf0.2 hQ0 hy0 ?_
  refine wpAny_take (i := 1) (v := v1) rfl hs hf1.1 hf1.2 hQ1 hy1 ?_
  refine wpAny_take (i := 2) (v := v2) rfl hs hf2.1 hf2.2 hQ2 hy2 ?_
  have e1 : (l.take n).length = n := by simp; omega
  have e2 : (l.drop n).length = l.length - n := by simp
  have := wpAny_of_head_calm (P := P) (md := .any) (ops := (o0 :: o1 :: o2 :: l).toArray) (Q := Q) (rest := l.drop n) hs (3 + n) (fun j => by rw [List.getElem?_drop]; simp [show 3 + n + j = n + j + 1 + 1 + 1 by omega]) (l.take n) 3 _ _ w.drew (by rw [e1])
    (fun j hj => by rw [e1] at hj; simp [hj, show 3 + j = j + 1 + 1 + 1 by omega]) (by rw [e1]; exact hB.1) (by rw [e1, e2]; exact hB.2) h
  rw [e1, e2, show n + (l.length - n) = l.length by omega] at this
  exact this
end Go.Proofs.Ytdbonlpkmncggaa

namespace Go.Proofs.Ytdbonlpkmncggaa
open Go.RowKit

theorem bitLen_is2 {m k : Nat} (h : m < 2 ^ k) (h' : k = 0 ∨ 2 ^ (k - 1) ≤ m) (hm : m < 2 ^ 64) : Lib.bitLen m = k := by
  rcases Nat.eq_zero_or_pos m with h0 | h0
  · subst h0
    have : Lib.bitLen 0 = 0 := Lib.bitLenAux_zero 64
    rcases h' with h' | h'
    · omega
    · have := Nat.two_pow_pos (k - 1); omega
  · obtain ⟨h1, h2, h3⟩ := Lib.bitLenAux_bounds 64 m hm (by omega)
    show Lib.bitLenAux 64 m = k
    generalize Lib.bitLenAux 64 m = j at *
    rcases h' with h' | h'
    · subst h'; omega
    · rcases Nat.lt_trichotomy j k with h4 | h4 | h4
      · have := Nat.pow_le_pow_right (show 0 < 2 by omega) (show j ≤ k - 1 by omega); omega
      · exact h4
      · have := Nat.pow_le_pow_right (show 0 < 2 by omega) (show k ≤ j - 1 by omega); omega

set_option maxRecDepth 100000 in
set_option maxHeartbeats 800000 in
theorem rlog2_any (n : Int) (w : World) (hn : Ok64 n) :
    Calls Try.prog 71 #[.int .i64 n] w fun e w' => e = .returned (.int .i64 (Lib.bitLen (n.toNat - 1))) ∧ w = w' := by
  have HN := Lib.hid hn
  unfold Ok64 at hn
  go_enter Try.func71, Try.ntmps71
  go_wp2
  go_loop [3, 4] (fun k p => ∃ (j q : Nat), k = .int .i64 j ∧ p = .int .i64 q ∧ q = 2 ^ j ∧ q ≤ 4611686018427387904 ∧ j ≤ 62 ∧ (j = 0 ∨ 2 ^ (j - 1) ≤ n.toNat - 1)) (fun k _ => 63 - (intOf k).toNat)
  case atStart => exact ⟨0, 1, rfl, rfl, rfl, by omega, by omega, .inl rfl⟩
  case round =>
    obtain ⟨j, q, rfl, rfl, hq, hq2, hj, hlow⟩ := hrel
    have HQ := Lib.hid hq; clear hq
    have HLOW := Lib.hid hlow; clear hlow
    by_cases hlt : (q : Int) < n
    · by_cases h62 : j = 62
      · subst h62
        have hq3 : (q : Int) = 4611686018427387904 := by have := HQ.out; omega
        have hneg : wrap64 ((q : Int) * 2) < 0 := by rw [hq3]; unfold wrap64; omega
        have HQ3 := Lib.hid hq3; clear hq3
        go_wp2
        go_ret
        refine ⟨ret_int ?_, rfl⟩
        rw [bitLen_is2 (k := 63) (m := n.toNat - 1) (by omega) (.inr (by have := HQ3.out; show 2 ^ 62 ≤ _; omega)) (by omega)]
        rfl
      · have hq4 : (q : Int) ≤ 2305843009213693952 := by
          have : 2 ^ j ≤ 2 ^ 61 := Nat.pow_le_pow_right (by omega) (by omega)
          rw [← HQ.out] at this; omega
        go_wp2
        go_round
        case rel => exact ⟨j + 1, q * 2, by go_num, by go_num, by rw [HQ.out, Nat.pow_succ], by omega, by omega, .inr (by rw [Nat.add_sub_cancel, ← HQ.out]; omega)⟩
        case measure => simp [intOf]; omega
    · go_wp2
      go_ret
      refine ⟨ret_int ?_, rfl⟩
      rw [bitLen_is2 (k := j) (m := n.toNat - 1) (by rw [← HQ.out]; have := Nat.two_pow_pos j; have := HQ.out; omega) HLOW.out (by omega)]
end Go.Proofs.Ytdbonlpkmncggaa
